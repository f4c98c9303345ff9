/- Parts of the proof (20 of 22). -/
import Derived.Lib.AtoiErrMem
import Derived.Test.YtnkeamihfiobdaaGreatDoorQ19
section
set_option linter.unusedVariables false
set_option linter.unusedSimpArgs false
set_option maxRecDepth 100000
set_option maxHeartbeats 4000000
namespace Go.Proofs.YtnkeamihfiobdaaGreatDoor
open Go Foot Go.RowKit
theorem TrimPrefix_ok (s p : Bs) : Does Tryz.prog 160 [.one (str s),.one (str p)] [] (.one (str (Lib.trimPrefix s p))) [] :=
  does_ext (av := [sv s,sv p]) (rv := sv (Lib.trimPrefix s p)) (fun w S ρ vs => repA_2) (fun w S ρ => ⟨rfl,rfl⟩) fun w S _ => (Tryz.strings_TrimPrefix ⟨s.toArray⟩ ⟨p.toArray⟩ w).mono fun en w' ⟨h1,h2⟩ => by
    subst h2
    exact ⟨h1,Below.refl _ _⟩
theorem repA_3 {w : World} {S : Foot} {ρ : Env} {v u t : Value} {vs : List Value} (h : RepA w S ρ [.one (.d (.sc v)),.one (.d (.sc u)),.one (.d (.sc t))] vs) : vs = [v,u,t] := by
  simp only [RepA,RepS,RepC,Rep] at h
  obtain ⟨_,_,rfl,⟨rfl,_⟩,_,_,rfl,⟨rfl,_⟩,_,_,rfl,⟨rfl,_⟩,rfl⟩ := h
  rfl
theorem ParseInt_ok (s : Bs) (n : Int) (hs : (s.length : Int) ≤ 1000000000) (h : Lib.parseIntB 64 s = .ok n) : Does Tryz.prog 159 [.one (str s),.one (int 10),.one (int 64)] [] (.tup [(false,[int n]),(false,[.d (.sc .nilIface)])]) [] :=
  does_ext (av := [sv s,.int .i64 10,.int .i64 64]) (rv := .tuple #[.int .i64 n,.nilIface]) (fun w S ρ vs => repA_3) (fun w S ρ => ⟨_,rfl,_,_,rfl,⟨_,[],rfl,⟨rfl,rfl⟩,rfl⟩,_,_,rfl,⟨_,[],rfl,⟨rfl,rfl⟩,rfl⟩,rfl⟩) fun w S _ => (Tryz.strconv_ParseInt_10_at64_ok ⟨s.toArray⟩ (by rw [sz_str]; omega) n h w).mono fun en w' ⟨h1,h2⟩ => by
    refine ⟨h1,?_⟩
    rcases h2 with rfl | ⟨t,rfl⟩
    · exact Below.refl _ _
    · exact Lib.bytesWorld_below w 5 t
theorem parseM {M : Nat} : ∀ {l : Bs} {acc : Nat},(∀ c ∈ l,isDg c) → l.foldl (fun a c => 10 * a + (c.toNat - 48)) acc ≤ 1000000000000000000 → 1000000000000000000 ≤ M → Lib.parseUintM M acc l = .ok (l.foldl (fun a c => 10 * a + (c.toNat - 48)) acc)
  | [],acc,_,_,_ => rfl
  | c :: l,acc,h,hv,hM => by
    have hmono : ∀ (l : Bs) (a : Nat),a ≤ l.foldl (fun a c => 10 * a + (c.toNat - 48)) a := by
      intro l
      induction l with
      | nil => intro a; exact Nat.le_refl _
      | cons x l ih =>
        intro a
        rw [List.foldl_cons]
        exact Nat.le_trans (by omega) (ih _)
    rw [List.foldl_cons] at hv ⊢
    have h1 := hmono l (10 * acc + (c.toNat - 48))
    have hd := h c (by simp)
    unfold isDg at hd
    rw [Lib.parseUintM,if_pos hd,if_neg (by omega),if_neg (by omega),show acc * 10 + (c.toNat - 48) = 10 * acc + (c.toNat - 48) by omega]
    exact parseM (fun x hx => h x (by simp [hx])) hv hM
theorem parse_dec {n : Int} (h0 : 0 ≤ n) (h1 : n ≤ 1000000000000000000) : Lib.parseIntB 64 (decT n) = .ok n := by
  rw [decT_nat h0]
  obtain ⟨d1,d2,d3⟩ := dec_val n.toNat
  cases hl : Lib.decDigits n.toNat with
  | nil => exact absurd hl d3
  | cons c r =>
    rw [hl] at d1 d2
    have hc := d2 c (by simp)
    unfold isDg at hc
    have hp : Lib.parseUintB 64 (c :: r) = .ok n.toNat := by
      unfold Lib.parseUintB
      rw [if_neg (by simp),parseM d2 (by unfold valD at d1; rw [d1]; omega) (by decide)]
      unfold valD at d1
      rw [d1]
    unfold Lib.parseIntB
    simp only
    rw [if_neg (show ¬ (c.toNat = 43 ∨ c.toNat = 45) by omega),hp]
    simp only
    rw [if_neg (by omega),if_neg (by omega),if_neg (by omega)]
    rw [show ((n.toNat : Nat) : Int) = n by omega]
end Go.Proofs.YtnkeamihfiobdaaGreatDoor
end
section
set_option linter.unusedVariables false
set_option linter.unusedSimpArgs false
set_option maxRecDepth 100000
set_option maxHeartbeats 4000000
namespace Go.Proofs.YtnkeamihfiobdaaGreatDoor
open Go Foot Go.RowKit
end Go.Proofs.YtnkeamihfiobdaaGreatDoor
end
section
set_option linter.unusedVariables false
set_option linter.unusedSimpArgs false
set_option maxRecDepth 100000
set_option maxHeartbeats 4000000
namespace Go.Proofs.YtnkeamihfiobdaaGreatDoor
open Go Foot
theorem valD_lt : ∀ (n : Nat) {l : Bs},l.length = n → (∀ c ∈ l,isDg c) → valD l < 10 ^ n
  | 0,l,h,_ => by
    have : l = [] := List.length_eq_zero_iff.1 h
    subst this
    simp [valD]
  | n + 1,l,h,hd => by
    have hne : l ≠ [] := fun e => by rw [e] at h; simp at h
    obtain ⟨a,c,rfl⟩ : ∃ a c,l = a ++ [c] := ⟨l.dropLast,l.getLast hne,(List.dropLast_concat_getLast hne).symm⟩
    have ih := valD_lt n (l := a) (by simp at h; exact h) fun x hx => hd x (by simp [hx])
    have hc := hd c (by simp)
    unfold isDg at hc
    rw [valD_snoc,Nat.pow_succ]
    omega
theorem head_app {a b : Bs} (h : a ≠ []) : (a ++ b).head? = a.head? := by
  cases a with
  | nil => exact absurd rfl h
  | cons x a => rfl
theorem dec_head {u : Nat} (h : u ≠ 0) : (Lib.decDigits u).head? ≠ some 48 := by
  induction u using Nat.strongRecOn with
  | _ u ih =>
    rw [Lib.decDigits]
    by_cases hu : u < 10
    · rw [dif_pos hu]
      intro e
      simp only [List.head?_cons,Option.some.injEq] at e
      have := (dg_nat hu).2
      rw [e] at this
      have h48 : (48 : UInt8).toNat = 48 := rfl
      omega
    · rw [dif_neg hu,head_app (dec_val (u / 10)).2.2]
      exact ih (u / 10) (by omega) (by omega)
theorem dec_len {k u : Nat} (hk : 1 ≤ k) (h : u < 10 ^ k) : (Lib.decDigits u).length ≤ k := by
  by_cases h0 : u = 0
  · subst h0; simp [Lib.decDigits]; omega
  · rw [← drev_dec u h0,byt_len,List.length_reverse]; exact drev_le k u h
theorem len_dec {k u : Nat} (h : (Lib.decDigits u).length ≤ k) : u < 10 ^ k := by
  obtain ⟨d1,d2,d3⟩ := dec_val u
  have := valD_lt _ rfl d2
  rw [d1] at this
  exact Nat.lt_of_lt_of_le this (Nat.pow_le_pow_right (by omega) h)
def valS : Bs → Int
  | [] => 0
  | c :: r => if c = 45 then -((valD r : Nat) : Int) else ((valD (c :: r) : Nat) : Int)
@[irreducible] def numS (s : Bs) : Option Int := if decT (valS s) = s ∧ -1000000000000000000 < valS s ∧ valS s < 1000000000000000000 then some (valS s) else none
theorem decT_neg {n : Int} (h : n < 0) : decT n = 45 :: Lib.decDigits n.natAbs := by unfold decT Lib.itoa; rw [if_pos h]
theorem dg_ne {c : UInt8} (h : isDg c) : c ≠ 45 := by rintro rfl; revert h; unfold isDg; decide
theorem valS_dec (n : Int) : valS (decT n) = n := by
  by_cases h : n < 0
  · rw [decT_neg h,valS,if_pos rfl,(dec_val _).1]; omega
  · rw [decT_nat (by omega)]
    obtain ⟨d1,d2,d3⟩ := dec_val n.toNat
    cases hq : Lib.decDigits n.toNat with
    | nil => exact absurd hq d3
    | cons c r =>
      rw [hq] at d1 d2
      rw [valS,if_neg (dg_ne (d2 c (by simp))),d1]
      omega
theorem numS_some {s : Bs} {n : Int} : numS s = some n ↔ decT n = s ∧ -1000000000000000000 < n ∧ n < 1000000000000000000 := by
  unfold numS
  constructor
  · intro h
    split at h
    · next hh => cases h; exact hh
    · cases h
  · rintro ⟨rfl,h1,h2⟩
    rw [valS_dec,if_pos ⟨rfl,h1,h2⟩]
theorem parse_dec2 {n : Int} (h1 : -1000000000000000000 < n) (h2 : n < 1000000000000000000) : Lib.parseIntB 64 (decT n) = .ok n := by
  by_cases h : n < 0
  · rw [decT_neg h]
    obtain ⟨d1,d2,d3⟩ := dec_val n.natAbs
    have hp : Lib.parseUintB 64 (Lib.decDigits n.natAbs) = .ok n.natAbs := by
      unfold Lib.parseUintB
      rw [if_neg d3,parseM d2 (by unfold valD at d1; rw [d1]; omega) (by decide)]
      unfold valD at d1
      rw [d1]
    unfold Lib.parseIntB
    simp only
    rw [if_pos (.inr (by decide)),hp]
    simp only
    rw [if_neg (fun q => q.1 (by decide)),if_neg (fun q => by have := q.2; omega),if_pos (by decide)]
    congr 1
    omega
  · exact parse_dec (by omega) (by omega)
theorem parse_bd {s : Bs} {v : Int} (h : Lib.parseIntB 64 s = .ok v) : -9223372036854775808 ≤ v ∧ v ≤ 9223372036854775807 := by
  cases s with
  | nil => cases h
  | cons c r =>
    simp only [Lib.parseIntB] at h
    split at h
    · cases h
    · cases h
    · split at h
      · cases h
      · split at h
        · cases h
        · simp only [Lib.NumEnd.ok.injEq] at h
          subst h
          split <;> omega
theorem trim_dec (n : Int) : Lib.trimPrefix (decT n) [45] = Lib.decDigits n.natAbs := by
  unfold Lib.trimPrefix
  by_cases h : n < 0
  · rw [decT_neg h,if_pos (by simp [Lib.hasPrefix])]
    rfl
  · have e := decT_nat (n := n) (by omega)
    obtain ⟨_,d2,d3⟩ := dec_val n.toNat
    rw [e,show n.natAbs = n.toNat by omega,if_neg]
    intro q
    cases hq : Lib.decDigits n.toNat with
    | nil => exact d3 hq
    | cons c r =>
      rw [hq] at q d2
      simp [Lib.hasPrefix] at q
      exact dg_ne (d2 c (by simp)) q.symm
end Go.Proofs.YtnkeamihfiobdaaGreatDoor
end
section
set_option linter.unusedVariables false
set_option linter.unusedSimpArgs false
set_option maxRecDepth 100000
set_option maxHeartbeats 1000000
namespace Go.Proofs.YtnkeamihfiobdaaGreatDoor
open Go Foot Go.RowKit
@[irreducible] def pad6 (x : Int) : Bs := List.replicate (6 - (decT x).length) 48 ++ decT x
def txR : List Int → Bs
  | [] => []
  | x :: l => match l with
    | [] => decT x
    | _ :: _ => txR l ++ pad6 x
@[irreducible] def txN (l : List Int) : Bs := txR l
theorem txN_nil : txN [] = [] := by unfold txN; rfl
theorem txN_one (x : Int) : txN [x] = decT x := by unfold txN; rfl
theorem txN_more {x : Int} {l : List Int} (h : l ≠ []) : txN (x :: l) = txN l ++ pad6 x := by
  unfold txN
  cases l with
  | nil => exact absurd rfl h
  | cons y l => rfl
theorem decT_6 {x : Int} (h0 : 0 ≤ x) (h1 : x < 1000000) : 1 ≤ (decT x).length ∧ (decT x).length ≤ 6 := by
  rw [decT_nat h0]
  refine ⟨?_,dec_len (by decide) (by omega)⟩
  have := (dec_val x.toNat).2.2
  exact List.length_pos_iff.mpr this
theorem pad6_len {x : Int} (h0 : 0 ≤ x) (h1 : x < 1000000) : (pad6 x).length = 6 := by
  have := decT_6 h0 h1
  unfold pad6
  rw [List.length_append,List.length_replicate]
  omega
@[irreducible] def trL (s : Bs) : Bs := s.dropWhile (· == 48)
theorem trL_dec {x : Int} (h0 : 0 < x) : trL (decT x) = decT x := by
  unfold trL
  have h := dec_head (u := x.toNat) (by omega)
  rw [← decT_nat (by omega)] at h
  cases e : decT x with
  | nil => rfl
  | cons c s =>
    rw [e] at h
    have : ¬ (c == 48) = true := by
      intro q
      have : c = 48 := by simpa using q
      exact h (by rw [this]; rfl)
    rw [List.dropWhile_cons,if_neg this]
theorem trL_rep (n : Nat) (s : Bs) : trL (List.replicate n 48 ++ s) = trL s := by
  induction n with
  | zero => simp
  | succ n ih =>
    unfold trL at ih ⊢
    rw [List.replicate_succ,List.cons_append,List.dropWhile_cons,if_pos (by rfl),ih]
theorem trL_zero : trL [48] = [] := by unfold trL; rfl
@[irreducible] def lmb (x : Int) : Bs := if x = 0 then [] else decT x
theorem trL_pad {x : Int} (h0 : 0 ≤ x) (h1 : x < 1000000) : trL (pad6 x) = lmb x := by
  unfold pad6 lmb
  rw [trL_rep]
  split
  · next e => subst e; rw [decT_0]; exact trL_zero
  · exact trL_dec (by omega)
theorem trL_top {x : Int} (h0 : 0 < x) : trL (decT x) = lmb x := by
  unfold lmb
  rw [if_neg (by omega)]
  exact trL_dec h0
theorem numS_lmb {x : Int} (h0 : 0 ≤ x) (h1 : x < 1000000) : (numS (lmb x)).getD 0 = x ∧ ((numS (lmb x)).isSome = false → lmb x = []) := by
  unfold lmb
  split
  · next e =>
    subst e
    refine ⟨?_,fun _ => rfl⟩
    cases h : numS [] with
    | none => rfl
    | some n =>
      have := (numS_some.mp h).1
      have h2 := congrArg List.length this
      rcases Int.lt_or_le n 0 with g | g
      · rw [decT_neg g] at h2; simp at h2
      · rw [decT_nat g] at h2
        exact absurd (List.eq_nil_of_length_eq_zero (by simpa using h2)) (dec_val _).2.2
  · have : numS (decT x) = some x := numS_some.mpr ⟨rfl,by omega,by omega⟩
    rw [this]
    exact ⟨rfl,fun h => by cases h⟩
theorem txN_ne {l : List Int} (h : l ≠ []) (hl : Lb 1000000 l) : txN l ≠ [] := by
  cases l with
  | nil => exact absurd rfl h
  | cons x l =>
    have hx := hl.h x (by simp)
    by_cases e : l = []
    · subst e
      rw [txN_one]
      have := decT_6 hx.1 hx.2
      intro q
      rw [q] at this
      simp at this
    · rw [txN_more e]
      have := pad6_len hx.1 hx.2
      intro q
      have := congrArg List.length q
      simp only [List.length_append,List.length_nil] at this
      omega
theorem txN_len {l : List Int} (hl : Lb 1000000 l) : (txN l).length ≤ 6 * l.length := by
  induction l with
  | nil => rw [txN_nil]; simp
  | cons x l ih =>
    have hx := hl.h x (by simp)
    have ih := ih ⟨fun y hy => hl.h y (by simp [hy])⟩
    by_cases e : l = []
    · subst e
      rw [txN_one]
      have := decT_6 hx.1 hx.2
      simp only [List.length_cons,List.length_nil]
      omega
    · rw [txN_more e,List.length_append,pad6_len hx.1 hx.2,List.length_cons]
      omega
@[irreducible] def natT (n : Nat) : Bs := if n = 0 then [48] else txN (dg 1000000 n)
theorem trL_any {x : Int} (h0 : 0 ≤ x) : trL (decT x) = lmb x := by
  by_cases e : x = 0
  · subst e
    unfold lmb
    rw [decT_0,if_pos rfl]
    exact trL_zero
  · exact trL_top (by omega)
theorem chunk {L : List Int} {j : Nat} (hL : Lb 1000000 L) (hj : j < L.length) {s : Bs} {e : Nat} (he : e = (txN (L.drop j)).length) (hs : s.take e = txN (L.drop j)) : trL ((s.take e).drop (e - 6)) = lmb L[j] ∧ (j + 1 < L.length → 6 < e ∧ e - 6 = (txN (L.drop (j + 1))).length ∧ s.take (e - 6) = txN (L.drop (j + 1))) ∧ (j + 1 = L.length → e ≤ 6) := by
  have hx := hL.h L[j] (List.getElem_mem hj)
  rw [List.drop_eq_getElem_cons hj] at he hs
  by_cases q : L.drop (j + 1) = []
  · rw [q,txN_one] at he hs
    have g := decT_6 hx.1 hx.2
    have hlen : L.length ≤ j + 1 := List.drop_eq_nil_iff.mp q
    rw [hs,show e - 6 = 0 by omega,List.drop_zero]
    exact ⟨trL_any hx.1,fun h => by omega,fun _ => by omega⟩
  · rw [txN_more q] at he hs
    have g := pad6_len hx.1 hx.2
    rw [List.length_append,g] at he
    have hlb : Lb 1000000 (L.drop (j + 1)) := ⟨fun y hy => hL.h y (List.mem_of_mem_drop hy)⟩
    have hpos := List.length_pos_iff.mpr (txN_ne q hlb)
    have hlen : ¬ L.length ≤ j + 1 := fun h => q (List.drop_eq_nil_iff.mpr h)
    have e6 : e - 6 = (txN (L.drop (j + 1))).length := by omega
    refine ⟨?_,fun _ => ⟨by omega,e6,?_⟩,fun h => by omega⟩
    · rw [hs,e6,List.drop_left]
      exact trL_pad hx.1 hx.2
    · have := congrArg (List.take (e - 6)) hs
      rw [List.take_take,show min (e - 6) e = e - 6 by omega] at this
      rw [this,e6,List.take_left]
@[irreducible] def lmN (n : Nat) : List Int := if n = 0 then [0] else dg 1000000 n
theorem natT_eq (n : Nat) : natT n = txN (lmN n) := by
  unfold natT lmN
  split
  · rw [txN_one,decT_0]
  · rfl
theorem lmN_lb (n : Nat) : Lb 1000000 (lmN n) := by
  unfold lmN
  split
  · exact ⟨fun x hx => by have : x = 0 := by simpa using hx
                          omega⟩
  · exact dg_lb (by decide) n
theorem lmN_nv (n : Nat) : nv 1000000 (lmN n) = n := by
  unfold lmN
  split
  · next h => rw [nv_one,h]; rfl
  · exact nv_dg (by decide) n
theorem lmN_len {n : Nat} (h : (dg 1000000 n).length ≤ 40) : 1 ≤ (lmN n).length ∧ (lmN n).length ≤ 40 := by
  unfold lmN
  split
  · simp
  · next h0 => exact ⟨by rw [dg_s (by decide) (by omega)]; simp,h⟩
theorem natT_len {n : Nat} (h : (dg 1000000 n).length ≤ 40) : (natT n).length ≤ 240 := by
  rw [natT_eq]
  have := txN_len (lmN_lb n)
  have := (lmN_len h).2
  omega
end Go.Proofs.YtnkeamihfiobdaaGreatDoor
end
section
set_option linter.unusedVariables false
set_option linter.unusedSimpArgs false
set_option maxRecDepth 100000
set_option maxHeartbeats 4000000
namespace Go.Proofs.YtnkeamihfiobdaaGreatDoor
open Go Foot
theorem preB14 {p : Prop} (h : p := by first | with_reducible assumption | omega | (simp only [List.length_append,List.length_cons,List.length_nil,List.length_set,List.length_replicate,List.length_take,List.length_drop,List.length_tail,List.length_dropLast,List.length_reverse] at *; omega) | exact mem_len (by assumption) (by omega) | (with_reducible refine Int.le_trans (Int.ofNat_le.2 (trimR_len _)) ?_; simp only [List.length_cons,List.length_tail]; omega) | (exact (ruAt_ok (by assumption) (by assumption) (by assumption)).2.1) | (have := vMach_bd (by assumption); omega) | (with_reducible refine Int.le_trans (Int.ofNat_le.2 (pushL_len _ _)) ?_; simp only [List.length_dropLast]; omega) | exact (ask_ok (by assumption)).1 | exact (ask_ok (by assumption)).2.1 | exact (ask_ok (by assumption)).2.2.1 | exact (ask_ok (by assumption)).2.2.2 | trivial) : p := h
theorem mul64_ok (x y : Int) (h1 : 0 ≤ x) (h2 : x ≤ 16777216) (h3 : 0 ≤ y) (h4 : y ≤ 16777216) (h5 : 0 ≤ x * y) (h6 : x * y ≤ 4294967295) : Does Tryz.prog 234 [.one (u64 x),.one (u64 y)] [] (.tup [(false,[u64 0]),(false,[u64 (x * y)])]) [] := by
  have h7 : x * y < 18446744073709551616 := by omega
  refine does_of (k := 0) Tryz.func234 rfl Tryz.ntmps234 rfl rfl fun w F0 S0 ρ0 => ?_
  dsimp only [argT,argH]
  repeat' first|(apply p3;(first|exact pu1|exact u_and rfl rfl (by omega) (by omega)|exact u_shr rfl rfl (by omega) (by omega)|exact u_mul rfl rfl (by first|omega|assumption) (by first|omega|assumption)|exact u_add rfl rfl (by first|omega|assumption) (by first|omega|assumption));exact rfl)|refine cd ?_|fail
  repeat refine cr ?_
  refine ends_id ?_
  refine endK [] (h2 := ?_) (h3 := ?_) (nd := ?_)
  all_goals (repeat' first|exact ce0|refine ce ?_|refine ce2 ?_ ?_|exact SVLe.refl|refine ceb ?_)
  all_goals first | exact (show nodupB _ = true from rfl) | exact Or.inr rfl | (simp)
theorem mulU_ok (x y : Int) (h1 : 0 ≤ x) (h2 : x ≤ 16777216) (h3 : 0 ≤ y) (h4 : y ≤ 16777216) (h5 : 0 ≤ x * y) (h6 : x * y ≤ 4294967295) : Does Tryz.prog 163 [.one (u64 x),.one (u64 y)] [] (.tup [(false,[u64 0]),(false,[u64 (x * y)])]) [] := by
  refine does_of (k := 0) Tryz.func163 rfl Tryz.ntmps163 rfl rfl fun w F0 S0 ρ0 => ?_
  dsimp only [argT,argH]
  repeat' first|(apply p3;(exact pu1);exact rfl)|refine cd ?_|(apply c4 0;exact callK1 (θ := []) (hD := (mul64_ok _ _ preB14 preB14 preB14 preB14 preB14 preB14));exact rfl;exact rfl;exact rfl;refine dM ?_)|fail
  repeat refine cr ?_
  refine ends_id ?_
  refine endK [] (h2 := ?_) (h3 := ?_) (nd := ?_)
  all_goals (repeat' first|exact ce0|refine ce ?_|refine ce2 ?_ ?_|exact SVLe.refl|refine ceb ?_)
  all_goals first | exact (show nodupB _ = true from rfl) | exact Or.inr rfl | (rfl)
end Go.Proofs.YtnkeamihfiobdaaGreatDoor
end
section
set_option linter.unusedVariables false
set_option linter.unusedSimpArgs false
set_option maxRecDepth 100000
set_option maxHeartbeats 1000000
namespace Go.Proofs.YtnkeamihfiobdaaGreatDoor
open Go Foot Go.RowKit
theorem trL_48 {y : Bs} (h : 0 < y.length) (hc : (((y.getD 0 0).toNat : Nat) : Int) = 48) : trL y = trL (y.drop 1) := by
  cases y with
  | nil => simp at h
  | cons c t =>
    have h2 : ((c.toNat : Nat) : Int) = 48 := hc
    have h3 : c.toNat = (48 : UInt8).toNat := by show c.toNat = 48; omega
    have e : c = 48 := UInt8.toNat_inj.mp h3
    subst e
    exact trL_rep 1 t
theorem trL_no {y : Bs} (hc : ¬ (((y.getD 0 0).toNat : Nat) : Int) = 48) : trL y = y := by
  cases y with
  | nil => unfold trL; rfl
  | cons c t =>
    have e : ¬ (c == 48) = true := fun h => by
      have h2 : c = 48 := by simpa using h
      subst h2
      exact hc rfl
    unfold trL
    rw [List.dropWhile_cons,if_neg e]
theorem preB241 {p : Prop} (h : p := by first | with_reducible assumption | omega | (simp only [List.length_append,List.length_cons,List.length_nil,List.length_set,List.length_replicate,List.length_take,List.length_drop,List.length_tail,List.length_dropLast,List.length_reverse] at *; omega) | exact mem_len (by assumption) (by omega) | (with_reducible refine Int.le_trans (Int.ofNat_le.2 (trimR_len _)) ?_; simp only [List.length_cons,List.length_tail]; omega) | (exact (ruAt_ok (by assumption) (by assumption) (by assumption)).2.1) | (exact (ruAt_ok (by assumption) (by assumption) (by assumption)).2.1) | (have := vMach_bd (by assumption); omega) | (simp only [List.length_append,List.length_cons,List.length_nil,repW_len,seN_len] at *; omega) | (simp only [mC_ch,mC_tu]; omega) | (have := vTag_bd (by assumption); omega) | (have := (‹Gd _ _›).le; omega) | (exact tgHalts_no (by assumption)) | (exact tgHead (by assumption) (by assumption) (by assumption)) | (exact Int.le_trans (tgStep_gd (by assumption) (by assumption) (by assumption) (by assumption)).le (by decide)) | (exact vTag_r (by assumption)) | (with_reducible refine Int.le_trans (Int.ofNat_le.2 (pushL_len _ _)) ?_; simp only [List.length_dropLast]; omega) | exact ls_at (by assumption) (by omega) | exact pt_gd (by assumption) | exact lv_at (by assumption) (by omega) | exact pt_gd (lv_at (by assumption) (by omega)) | exact (ask_ok (by assumption)).1 | exact (ask_ok (by assumption)).2.1 | exact (ask_ok (by assumption)).2.2.1 | exact (ask_ok (by assumption)).2.2.2 | trivial) : p := h
theorem trimLeftByte_ok (s : Bs) (hs : (s.length : Int) ≤ 1048576) : Does Tryz.prog 155 [.one (str s),.one (u8 48)] [] (.one (str (trL s))) [] := by
  refine does_of (k := 0) Tryz.func155 rfl Tryz.ntmps155 rfl rfl fun w F0 S0 ρ0 => ?_
  dsimp only [argT,argH]
  repeat' first|(apply p3;(exact pu1);exact rfl)|refine cd ?_|fail
  refine g_loop_id ?_
  refine loopK [1,4] [] (fun y : Bs => trL y = trL s ∧ y.length ≤ s.length) (fun y => [(0,.one (str y))]) (fun _ => []) (fun y => y.length) s [] (hI := ?_) (hr := ?_)
  · exact ⟨rfl,Nat.le_refl _⟩
  · rintro y ⟨h0,h1⟩
    dsimp only [List.cons_append,List.nil_append] at *
    skip
    repeat' first|(apply p3;(first|exact pu1|exact a_lenT rfl (fT rfl)|exact puC|exact a_slSl rfl rfl (fT rfl) (by omega) bnd);exact rfl)|refine cd ?_|refine o_no rfl rfl rfl rfl ?_|(apply py3;exact rfl;exact rfl;(first|exact pu1|exact a_idxS rfl rfl (fT rfl) (by omega) bnd|exact a_cmp8 rfl rfl rfl trivial rfl);exact rfl;exact rfl)|((first|refine o_gs rfl rfl (fun hc => ?_) (fun hc => ?_)|refine g_cond rfl (fun hc => ?_) (fun hc => ?_)) <;> (try simp only [dcB] at hc) <;> (try first|contradiction|(exfalso;omega)))|fail
    · have hp : 0 < y.length := by omega
      refine q_again (y.drop (Int.toNat 1)) [] (by exact stk) ?_ ?_
      · exact ⟨(trL_48 hp hc).symm.trans h0,by rw [List.length_drop]; omega⟩
      · rw [List.length_drop]; show y.length - 1 < _; omega
    · rw [← h0,trL_no hc]
      repeat refine cr ?_
      refine ends_id ?_
      refine endK [] (h2 := ?_) (h3 := ?_) (nd := ?_)
      all_goals (repeat' first|exact ce0|refine ce ?_|refine ce2 ?_ ?_|exact SVLe.refl|refine ceb ?_)
      all_goals first | exact (show nodupB _ = true from rfl) | exact Or.inr rfl | (rfl)
    · have e : y = [] := List.eq_nil_of_length_eq_zero (by omega)
      have e2 : trL s = y := by rw [← h0,e]; unfold trL; rfl
      rw [e2]
      repeat refine cr ?_
      refine ends_id ?_
      refine endK [] (h2 := ?_) (h3 := ?_) (nd := ?_)
      all_goals (repeat' first|exact ce0|refine ce ?_|refine ce2 ?_ ?_|exact SVLe.refl|refine ceb ?_)
      all_goals first | exact (show nodupB _ = true from rfl) | exact Or.inr rfl | (rfl)
theorem TrimLeft_ok (s : Bs) (hs : (s.length : Int) ≤ 1048576) : Does Tryz.prog 87 [.one (str s),.one (str [48])] [] (.one (str (trL s))) [] := by
  refine does_of (k := 0) Tryz.func87 rfl Tryz.ntmps87 rfl rfl fun w F0 S0 ρ0 => ?_
  dsimp only [argT,argH]
  repeat' first|(apply p3;(first|exact pu1|exact a_eqT rfl rfl|exact a_lenT rfl (fT rfl)|exact puC|exact a_idxS rfl rfl (fT rfl) (by omega) bnd);exact rfl)|refine cd ?_|(apply c4 0;exact callK1 (θ := []) (hD := (trimLeftByte_ok _ preB241));exact rfl;exact rfl;exact rfl;refine dM ?_)|refine o_no rfl rfl rfl rfl ?_|(apply py3;exact rfl;exact rfl;(first|exact pu1|exact a_eqT rfl rfl|exact a_idxS rfl rfl (fT rfl) (by omega) bnd|exact a_cmp8 rfl rfl rfl trivial rfl);exact rfl;exact rfl)|((refine o_gs rfl rfl (fun hc => ?_) (fun hc => ?_)) <;> (try simp only [dcB] at hc) <;> (try first|contradiction|(exfalso;omega)))|fail
  · subst hc
    have e : trL [] = [] := by unfold trL; rfl
    rw [e]
    repeat refine cr ?_
    refine ends_id ?_
    refine endK [] (h2 := ?_) (h3 := ?_) (nd := ?_)
    all_goals (repeat' first|exact ce0|refine ce ?_|refine ce2 ?_ ?_|exact SVLe.refl|refine ceb ?_)
    all_goals first | exact (show nodupB _ = true from rfl) | exact Or.inr rfl | (rfl)
  · repeat refine cr ?_
    refine ends_id ?_
    refine endK [] (h2 := ?_) (h3 := ?_) (nd := ?_)
    all_goals (repeat' first|exact ce0|refine ce ?_|refine ce2 ?_ ?_|exact SVLe.refl|refine ceb ?_)
    all_goals first | exact (show nodupB _ = true from rfl) | exact Or.inr rfl | (rfl)
theorem hasPrefL_ok (s : Bs) (c : UInt8) (hs : (s.length : Int) ≤ 1048576) : Does Tryz.prog 235 [.one (str s),.one (str [c])] [] (.one (boo (decide (s.head? = some c)))) [] := by
  have e : decide (s.head? = some c) = (decide (([c].length : Int) ≤ s.length) && decide (List.take ([c].length : Int).toNat s = [c])) := by
    cases s with
    | nil => simp
    | cons a t =>
      have : ([c].length : Int) ≤ (a :: t).length := by simp; omega
      rw [decide_eq_true this]
      simp
  rw [e]
  refine does_of (k := 0) Tryz.func235 rfl Tryz.ntmps235 rfl rfl fun w F0 S0 ρ0 => ?_
  dsimp only [argT,argH]
  repeat' first|(apply p3;(first|exact pu1|exact a_lenT rfl (fT rfl)|exact puC);exact rfl)|refine cd ?_|refine o_no rfl rfl rfl rfl ?_|(apply py3;exact rfl;exact rfl;(first|exact pu1|exact a_lenT rfl (fT rfl)|exact a_slSh rfl rfl (fT rfl) (by omega) bnd|exact a_eqT rfl rfl);exact rfl;exact rfl)|((refine o_gs rfl rfl (fun hc => ?_) (fun hc => ?_)) <;> (try simp only [dcB] at hc) <;> (try first|contradiction|(exfalso;omega)))|fail
  · repeat refine cr ?_
    refine ends_id ?_
    refine endK [] (h2 := ?_) (h3 := ?_) (nd := ?_)
    all_goals (repeat' first|exact ce0|refine ce ?_|refine ce2 ?_ ?_|exact SVLe.refl|refine ceb ?_)
    all_goals first | exact (show nodupB _ = true from rfl) | exact Or.inr rfl | ((rw [decide_eq_true hc,Bool.true_and]))
  · repeat refine cr ?_
    refine ends_id ?_
    refine endK [] (h2 := ?_) (h3 := ?_) (nd := ?_)
    all_goals (repeat' first|exact ce0|refine ce ?_|refine ce2 ?_ ?_|exact SVLe.refl|refine ceb ?_)
    all_goals first | exact (show nodupB _ = true from rfl) | exact Or.inr rfl | ((rw [decide_eq_false hc,Bool.false_and]))
theorem hasPrefS_ok (s : Bs) (c : UInt8) (hs : (s.length : Int) ≤ 1048576) : Does Tryz.prog 164 [.one (str s),.one (str [c])] [] (.one (boo (decide (s.head? = some c)))) [] := by
  refine does_of (k := 0) Tryz.func164 rfl Tryz.ntmps164 rfl rfl fun w F0 S0 ρ0 => ?_
  dsimp only [argT,argH]
  repeat' first|(apply p3;exact pu1;exact rfl)|refine cd ?_|(apply c4 0;exact callK1 (θ := []) (hD := (hasPrefL_ok _ _ preB241));exact rfl;exact rfl;exact rfl;refine dM ?_)|fail
  repeat refine cr ?_
  refine ends_id ?_
  refine endK [] (h2 := ?_) (h3 := ?_) (nd := ?_)
  all_goals (repeat' first|exact ce0|refine ce ?_|refine ce2 ?_ ?_|exact SVLe.refl|refine ceb ?_)
  all_goals first | exact (show nodupB _ = true from rfl) | exact Or.inr rfl | (rfl)
theorem Repeat0_ok (n : Int) (h0 : 0 ≤ n) (h1 : n ≤ 5) : Does Tryz.prog 92 [.one (str [48]),.one (int n)] [] (.one (str (List.replicate n.toNat 48))) [] := by
  refine does_of (k := 0) Tryz.func92 rfl Tryz.ntmps92 rfl rfl fun w F0 S0 ρ0 => ?_
  dsimp only [argT,argH]
  repeat' first|(apply p3;(first|exact pu1|exact puC|exact a_lenT rfl (fT rfl)|exact u_conv rfl Tryz.underlying3 Tryz.underlying203 bnd bnd|exact u_gtr rfl rfl|exact u_vnoc rfl Tryz.underlying203 Tryz.underlying3 bnd bnd|exact a_idxS rfl rfl (fT rfl) (by omega) bnd|exact a_cmp8 rfl rfl rfl trivial rfl|exact a_slSh rfl rfl (fT rfl) (by omega) bnd);exact rfl)|refine cd ?_|(apply c4 0;exact callK1 (θ := []) (hD := (mulU_ok 1 n (by omega) (by omega) h0 (by omega) (by omega) (by omega)));exact rfl;exact rfl;exact rfl;refine dM ?_)|(apply py3;exact rfl;exact rfl;(first|exact pu1|exact u_gtr rfl rfl);exact rfl;exact rfl)|(apply cy4 0;exact rfl;exact rfl;exact callK1 (θ := []) (hD := (hasPrefS_ok _ _ preB241));exact rfl;exact rfl;exact rfl;exact rfl;refine dM ?_)|((first|refine o_gs rfl rfl (fun hc => ?_) (fun hc => ?_)|refine g_cond rfl (fun hc => ?_) (fun hc => ?_)) <;> (try simp only [dcB] at hc) <;> (try first|contradiction|(exfalso;omega)))|fail
  · subst hc
    repeat refine cr ?_
    refine ends_id ?_
    refine endK [] (h2 := ?_) (h3 := ?_) (nd := ?_)
    all_goals (repeat' first|exact ce0|refine ce ?_|refine ce2 ?_ ?_|exact SVLe.refl|refine ceb ?_)
    all_goals first | exact (show nodupB _ = true from rfl) | exact Or.inr rfl | (rfl)
  · subst hc
    repeat refine cr ?_
    refine ends_id ?_
    refine endK [] (h2 := ?_) (h3 := ?_) (nd := ?_)
    all_goals (repeat' first|exact ce0|refine ce ?_|refine ce2 ?_ ?_|exact SVLe.refl|refine ceb ?_)
    all_goals first | exact (show nodupB _ = true from rfl) | exact Or.inr rfl | (rfl)
  · have hn : n = 2 ∨ n = 3 ∨ n = 4 ∨ n = 5 := by omega
    rcases hn with h | h | h | h <;> subst h
    all_goals
      repeat refine cr ?_
      refine ends_id ?_
      refine endK [] (h2 := ?_) (h3 := ?_) (nd := ?_)
      all_goals (repeat' first|exact ce0|refine ce ?_|refine ce2 ?_ ?_|exact SVLe.refl|refine ceb ?_)
      all_goals first | exact (show nodupB _ = true from rfl) | exact Or.inr rfl | (rfl)
theorem NaturalText_ok (x : Nat) (hx : (dg 1000000 x).length ≤ 40) : Does Tryz.prog 29 [.one (shI (dg 1000000 x))] [] (.one (str (natT x))) [] := by
  have hlb := dg_lb (b := 1000000) (by decide) x
  have ht := txN_len hlb
  have hnt := isNt_dg hx
  refine does_of (k := 0) Tryz.func29 rfl Tryz.ntmps29 rfl rfl fun w F0 S0 ρ0 => ?_
  dsimp only [argT,argH]
  repeat' first|(apply n3;exact a_newB;exact rfl;refine dA ?_)|(apply p3;(first|exact pu1|exact puN|exact puC|exact a_sub rfl rfl (by omega) (by omega));exact rfl)|refine cd ?_|(apply c4 0;exact callK1 (θ := []) (hD := (IsNaturalG_ok _ preB241));exact rfl;exact rfl;exact rfl;refine dM ?_)|((refine g_cond rfl (fun hc => ?_) (fun hc => ?_)) <;> (try simp only [dcB] at hc) <;> (try first|contradiction|(exfalso;omega)))|fail
  all_goals first | (exfalso; omega) | (exfalso; rw [hnt] at hc; cases hc; done) | skip
  · have e0 : x = 0 := dg_nil (b := 1000000) (by decide) (List.eq_nil_of_length_eq_zero (by omega))
    have e : natT x = [48] := by unfold natT; rw [if_pos e0]
    rw [e]
    repeat refine cr ?_
    refine ends_id ?_
    refine endK [] (h2 := ?_) (h3 := ?_) (nd := ?_)
    all_goals (repeat' first|exact ce0|refine ce ?_|refine ce2 ?_ ?_|exact SVLe.refl|refine ceb ?_)
    all_goals first | exact (show nodupB _ = true from rfl) | exact Or.inr rfl | (rfl)
  · have ex : natT x = txN (dg 1000000 x) := by
      unfold natT
      rw [if_neg (fun h => by subst h; rw [dg_0] at hc; exact hc rfl)]
    rw [ex]
    refine g_loop_id ?_
    refine loopK [0,2,3] [0] (fun y : Int × Bs => -1 ≤ y.1 ∧ y.1 < (dg 1000000 x).length ∧ y.2 = txN ((dg 1000000 x).drop (y.1 + 1).toNat)) (fun y => [(4,.one (int y.1))]) (fun y => [(0,bldr y.2)]) (fun y => (y.1 + 1).toNat) (((dg 1000000 x).length : Int) - 1,([] : Bs)) [0] (hI := ?_) (hr := ?_)
    · refine ⟨by dsimp only; omega,by dsimp only; omega,?_⟩
      dsimp only
      rw [List.drop_eq_nil_of_le (by omega),txN_nil]
    · rintro ⟨i,b⟩ ⟨j0,j1,j2⟩
      dsimp only [List.cons_append,List.nil_append] at *
      skip
      repeat' first|(apply p3;(first|exact pu1|exact puC);exact rfl)|refine cdn ?_|refine g_reg (id := 7) ?_|refine g_reg (id := 13) ?_|(apply c4 0;exact callK1 (θ := [_]) (hD := (String_ok _));exact rfl;exact rfl;exact rfl;refine dM ?_)|((refine g_cond rfl (fun hc => ?_) (fun hc => ?_)) <;> (try simp only [dcB] at hc) <;> (try first|contradiction|(exfalso;omega)))|fail
      · have hi : i.toNat < (dg 1000000 x).length := by omega
        have hli := hlb.h _ (List.getElem_mem hi)
        have h6 := decT_6 hli.1 hli.2
        have hsub : Lb 1000000 ((dg 1000000 x).drop (i + 1).toNat) := ⟨fun y hy => hlb.h y (List.mem_of_mem_drop hy)⟩
        have hbl : b.length ≤ 240 := by
          have := txN_len hsub
          rw [List.length_drop] at this
          rw [j2]
          omega
        have hdr : (dg 1000000 x).drop i.toNat = (dg 1000000 x)[i.toNat]'hi :: (dg 1000000 x).drop (i + 1).toNat := by rw [List.drop_eq_getElem_cons hi,show i.toNat + 1 = (i + 1).toNat by omega]
        have hne : (i < (dg 1000000 x).length - 1) → (dg 1000000 x).drop (i + 1).toNat ≠ [] := fun h e => by
          have := List.drop_eq_nil_iff.mp e
          omega
        have hni : ¬ (i < (dg 1000000 x).length - 1) → (dg 1000000 x).drop (i + 1).toNat = [] := fun h => List.drop_eq_nil_of_le (by omega)
        have hpd : pad6 ((dg 1000000 x)[i.toNat]'hi) = List.replicate (6 - ((decT ((dg 1000000 x)[i.toNat]'hi)).length : Int)).toNat 48 ++ decT ((dg 1000000 x)[i.toNat]'hi) := by
          unfold pad6
          rw [show (6 - ((decT ((dg 1000000 x)[i.toNat]'hi)).length : Int)).toNat = 6 - (decT ((dg 1000000 x)[i.toNat]'hi)).length by omega]
        repeat' first|(apply p3;(first|exact pu1|exact puI);exact rfl)|refine cdn ?_|refine g_reg (id := 9) ?_|(apply c4 0;exact callK1 (θ := []) (hD := (Decimal_ok ((dg 1000000 x)[i.toNat]'hi) (by omega) (by omega)));exact rfl;exact rfl;exact rfl;refine dM ?_)|fail
        generalize (dg 1000000 x)[i.toNat]'hi = d at *
        have hsz : (((ByteArray.mk (decT d).toArray).size : Nat) : Int) = ((decT d).length : Int) := rfl
        have hr : (List.replicate (6 - (((ByteArray.mk (decT d).toArray).size : Nat) : Int)).toNat (48 : UInt8)).length ≤ 5 := by rw [List.length_replicate]; omega
        have hb2 : (b ++ List.replicate (6 - (((ByteArray.mk (decT d).toArray).size : Nat) : Int)).toNat (48 : UInt8)).length ≤ 245 := by rw [List.length_append]; omega
        repeat' first|(apply p3;(first|exact pu1|exact puC|exact puN|exact a_len_str rfl (fT rfl)|exact a_sub rfl rfl (by omega) (by omega));exact rfl)|refine cd ?_|(apply c4 0;exact callK1 (θ := []) (hD := (Repeat0_ok (6 - (((ByteArray.mk (decT d).toArray).size : Nat) : Int)) (by omega) (by omega)));exact rfl;exact rfl;exact rfl;refine dM ?_)|(apply c4 0;exact callK1 (θ := [_]) (hD := (WriteString_ok _ _ preB241));exact rfl;exact rfl;exact rfl;refine dM ?_)|((refine g_cond rfl (fun hc => ?_) (fun hc => ?_)) <;> (try simp only [dcB] at hc) <;> (try first|contradiction|(exfalso;omega)))|fail
        · refine q_again (i - 1,b ++ List.replicate (6 - (((ByteArray.mk (decT d).toArray).size : Nat) : Int)).toNat 48 ++ decT d) [0] (by exact stk) ?_ ?_
          · refine ⟨by dsimp only; omega,by dsimp only; omega,?_⟩
            dsimp only
            rw [show (i - 1 + 1).toNat = i.toNat by omega,hdr,txN_more (hne hc),← j2,hpd,List.append_assoc,hsz]
          · dsimp only; omega
        · refine q_again (i - 1,b ++ decT d) [0] (by exact stk) ?_ ?_
          · refine ⟨by dsimp only; omega,by dsimp only; omega,?_⟩
            dsimp only
            rw [show (i - 1 + 1).toNat = i.toNat by omega,hdr,hni hc,txN_one]
            rw [hni hc,txN_nil] at j2
            rw [j2,List.nil_append]
          · dsimp only; omega
      · rw [show (i + 1).toNat = 0 by omega,List.drop_zero] at j2
        rw [← j2]
        repeat refine cr ?_
        refine ends_id ?_
        refine endK [] (h2 := ?_) (h3 := ?_) (nd := ?_)
        all_goals (repeat' first|exact ce0|refine ce ?_|refine ce2 ?_ ?_|exact SVLe.refl|refine ceb ?_)
        all_goals first | exact (show nodupB _ = true from rfl) | exact Or.inr rfl | (rfl)
end Go.Proofs.YtnkeamihfiobdaaGreatDoor
end
section
set_option linter.unusedVariables false
set_option linter.unusedSimpArgs false
set_option maxRecDepth 100000
namespace Go.Proofs.YtnkeamihfiobdaaGreatDoor
open Go Foot Go.Shelf Go.RowKit
end Go.Proofs.YtnkeamihfiobdaaGreatDoor
end
section
set_option linter.unusedVariables false
set_option linter.unusedSimpArgs false
set_option maxRecDepth 1000000
namespace Go.Proofs.YtnkeamihfiobdaaGreatDoor
open Go Foot Go.Shelf Go.RowKit
end Go.Proofs.YtnkeamihfiobdaaGreatDoor
end
section
set_option linter.unusedVariables false
set_option linter.unusedSimpArgs false
set_option maxRecDepth 1000000
namespace Go.Proofs.YtnkeamihfiobdaaGreatDoor
open Go Foot Go.Shelf Go.RowKit
section
variable {g : Gh} {st : St} {dst : Option Tmp} {ty : TypeId} {pos : String} {after : Array Edge} {guard : Option (Nat × Bool)} {i : Nat}
end
def erR : Opq where
  p _ _ us _ := ∃ te a,us = [.iface te (.pointer (some a))]
  keep := fun h _ _ _ _ => h
theorem does_err {P : Program} {f : Nat} {ags : List SV} {av : List Value} {m : Int} (ha : ∀ w S ρ vs,RepA w S ρ ags vs → vs = av)
    (hc : ∀ (w : World) (S : Foot),Tabs w S → Calls P f av.toArray w fun en w' => ∃ te a,en = .returned (.tuple #[.int .i64 m,.iface te (.pointer (some a))]) ∧ Below w.heap.size w w') :
    Does P f ags [] (.tup [(false,[int m]),(false,[.gv 0])]) [.opq erR [0]] := by
  intro vs w S ρ F hA hG
  have := ha _ _ _ _ hA
  subst this
  refine (hc w S hG.tab).mono ?_
  rintro en w' ⟨te,a,rfl,hb⟩
  have hn : ρ 0 = none := hG.new 0 (Nat.le_refl _)
  refine ⟨_,no,fun i => if i = 0 then some (.iface te (.pointer (some a))) else ρ i,fun _ => no,rfl,?_,⟨_,rfl,_,_,rfl,⟨_,[],rfl,⟨rfl,rfl⟩,rfl⟩,_,_,rfl,⟨.iface te (.pointer (some a)),[],rfl,⟨if_pos rfl,rfl⟩,rfl⟩,rfl⟩⟩
  refine ⟨⟨hb.os,hb.tape,hb.output,hb.size,fun k hk _ => hb.block k hk,fun k o hk _ => ?_⟩,no_le _,fun _ _ h => h.elim,by simp,fun i u hi _ => absurd hi (by simp),fun i hi => ?_,fun i gb hi => ?_,fun i j _ _ _ => fun _ _ h _ => h,fun i _ => fun _ _ h _ => h,fun i _ => no_le _,fun i _ b o h => h.elim⟩
  · have e := hb.block k hk
    simp [World.cell?,World.frozen?,mapAt,e]
  · simp only [List.length_cons,List.length_nil] at hi
    rw [if_neg (by omega)]
    exact hG.new i (Nat.zero_le _)
  · match i,hi with
    | 0,hi =>
      simp at hi
      subst hi
      exact .inr ⟨.iface te (.pointer (some a)),if_pos rfl,[.iface te (.pointer (some a))],by simp,te,a,rfl⟩
    | i + 1,hi => simp at hi
section
variable {P : Program} {g : Gh} {st : St}
variable {dst : Option Tmp} {ty : TypeId} {pos : String} {after : Array Edge} {guard : Option (Nat × Bool)} {x : Operand} {T U : TypeId} {i : Nat}
theorem a_neErr (e1 : opd st x = .one (.gv i)) (hg : lkG st.h i = .opq erR [i]) (hT : P.isIface T = true) : Acts P g ⟨dst,.binOp .neq T x (.const .nilIface) U,ty,pos,after,guard⟩ st (.one (boo true)) [] [] := by
  refine acts_of fun A w S ρ F h => ⟨.bool true,?_,rfl,rfl⟩
  have h1 := (opd_one h e1).1
  rcases h.root i with h0 | ⟨u,r1,r2⟩
  · rw [hg] at h0; cases h0
  rw [hg] at r2
  obtain ⟨us,q1,te,a,rfl⟩ := r2
  simp only [List.map_cons,List.map_nil,List.cons.injEq,and_true] at q1
  rw [q1] at h1
  simp only [Option.some.injEq] at h1
  show (do pure (.value (← (do eqGuard .neq T x (.const .nilIface) (A.eval x) (A.eval (.const .nilIface)); binOp .neq T (A.eval x) (A.eval (.const .nilIface))))) : Sem Next).run P w = _
  rw [← h1,show A.eval (.const .nilIface) = .nilIface from rfl]
  simp [eqGuard,run_neq_iface_nil w T hT]
end
end Go.Proofs.YtnkeamihfiobdaaGreatDoor
end
section
set_option linter.unusedVariables false
set_option linter.unusedSimpArgs false
set_option maxRecDepth 100000
set_option maxHeartbeats 4000000
namespace Go.Proofs.YtnkeamihfiobdaaGreatDoor
open Go Foot Go.RowKit
theorem preB122 {p : Prop} (h : p := by first | with_reducible assumption | omega | (simp only [List.length_append,List.length_cons,List.length_nil,List.length_set,List.length_replicate,List.length_take,List.length_drop,List.length_tail,List.length_dropLast,List.length_reverse] at *; omega) | exact mem_len (by assumption) (by omega) | (with_reducible refine Int.le_trans (Int.ofNat_le.2 (trimR_len _)) ?_; simp only [List.length_cons,List.length_tail]; omega) | (exact (ruAt_ok (by assumption) (by assumption) (by assumption)).2.1) | (exact (ruAt_ok (by assumption) (by assumption) (by assumption)).2.1) | (have := vMach_bd (by assumption); omega) | (simp only [mC_ch,mC_tu]; omega) | (have := vTag_bd (by assumption); omega) | (have := (‹Gd _ _›).le; omega) | (exact tgHalts_no (by assumption)) | (exact tgHead (by assumption) (by assumption) (by assumption)) | (exact Int.le_trans (tgStep_gd (by assumption) (by assumption) (by assumption) (by assumption)).le (by decide)) | (exact vTag_r (by assumption)) | (with_reducible refine Int.le_trans (Int.ofNat_le.2 (pushL_len _ _)) ?_; simp only [List.length_dropLast]; omega) | exact ls_at (by assumption) (by omega) | exact pt_gd (by assumption) | exact lv_at (by assumption) (by omega) | exact pt_gd (lv_at (by assumption) (by omega)) | exact (ask_ok (by assumption)).1 | exact (ask_ok (by assumption)).2.1 | exact (ask_ok (by assumption)).2.2.1 | exact (ask_ok (by assumption)).2.2.2 | trivial) : p := h
theorem ParseIntSyn_ok (s : Bs) (hs : (s.length : Int) ≤ 1000000000) (h : Lib.parseIntB 64 s = Lib.parseIntB 64 []) : Does Tryz.prog 159 [.one (str s),.one (int 10),.one (int 64)] [] (.tup [(false,[int 0]),(false,[.gv 0])]) [.opq erR [0]] :=
  does_err (av := [sv s,.int .i64 10,.int .i64 64]) (fun w S ρ vs => repA_3) fun w S hT => by
    obtain ⟨⟨cs,T,fr,ht,te,pe,hcs⟩,_⟩ := hT _ (List.mem_cons_of_mem _ (List.mem_cons_of_mem _ List.mem_cons_self))
    refine (Tryz.strconv_ParseInt_10_at64_syntax ⟨s.toArray⟩ (by rw [sz_str]; omega) h (.iface te pe) w ?_ (.inr ⟨te,pe,rfl⟩)).mono ?_
    · rw [Lib.cell_of_heap ht,hcs]; rfl
    · rintro en w' ⟨N,rfl,h1,h2,h3⟩
      exact ⟨_,_,rfl,h3⟩
theorem ParseIntRng_ok (s : Bs) (hs : (s.length : Int) ≤ 1000000000) (h : Lib.parseIntB 64 s = .range) : Does Tryz.prog 159 [.one (str s),.one (int 10),.one (int 64)] [] (.tup [(false,[int (Lib.intSat 64 s)]),(false,[.gv 0])]) [.opq erR [0]] :=
  does_err (av := [sv s,.int .i64 10,.int .i64 64]) (fun w S ρ vs => repA_3) fun w S hT => by
    obtain ⟨⟨cs,T,fr,ht,te,pe,hcs⟩,_⟩ := hT _ (List.mem_cons_of_mem _ List.mem_cons_self)
    refine (Tryz.strconv_ParseInt_10_at64_range ⟨s.toArray⟩ (by rw [sz_str]; omega) h (.iface te pe) w ?_ (.inr ⟨te,pe,rfl⟩)).mono ?_
    · rw [Lib.cell_of_heap ht,hcs]; rfl
    · rintro en w' ⟨N,rfl,h1,h2,h3⟩
      exact ⟨_,_,rfl,h3⟩
theorem ReadDecimalG_ok (s : Bs) (hs : (s.length : Int) ≤ 1048576) : Does Tryz.prog 88 [.one (str s)] [] (.tup [(false,[int ((numS s).getD 0)]),(false,[boo (numS s).isSome])]) [] := by
  cases hp : Lib.parseIntB 64 s
  · rename_i n
    obtain ⟨b1,b2⟩ := parse_bd hp
    have hdt : decT n = Lib.itoa n := by unfold decT; rfl
    have hlen := decT_le b1 b2
    by_cases hd : decT n = s
    · have ht : (Lib.trimPrefix s [45]) = Lib.decDigits n.natAbs := by rw [← hd,trim_dec]
      by_cases hl : (Lib.decDigits n.natAbs).length ≤ 18
      · have hn := len_dec hl
        have e : numS s = some n := numS_some.2 ⟨hd,by omega,by omega⟩
        rw [e]
        refine does_of (k := 0) Tryz.func88 rfl Tryz.ntmps88 rfl rfl fun w F0 S0 ρ0 => ?_
        dsimp only [argT,argH]
        repeat' first|(apply p3;(first|exact pu1|exact a_neNil rfl (by kernel_rfl));exact rfl)|refine cd ?_|(apply c4 0;exact callK1 (θ := []) (hD := (ParseInt_ok s n preB122 hp));exact rfl;exact rfl;exact rfl;refine dM ?_)|(apply py3;exact rfl;exact rfl;(first|exact pu1|exact a_neT rfl rfl|exact a_lenT rfl (fT rfl)|exact puC);exact rfl;exact rfl)|(apply cy4 0;exact rfl;exact rfl;exact callK1 (θ := []) (hD := (Decimal_ok _ preB122 preB122));exact rfl;exact rfl;exact rfl;exact rfl;refine dM ?_)|(apply cy4 0;exact rfl;exact rfl;exact callK1 (θ := []) (hD := (TrimPrefix_ok _ _));exact rfl;exact rfl;exact rfl;exact rfl;refine dM ?_)|(refine o_gs rfl rfl (fun hc => ?_) (fun hc => ?_) <;> (try simp only [dcB] at hc) <;> (try first|contradiction|(exfalso;omega)))|fail
        simp only [ht]
        repeat' first|(apply p3;(exact pu1);exact rfl)|refine cd ?_|((refine g_cond rfl (fun hc => ?_) (fun hc => ?_)) <;> (try simp only [dcB] at hc) <;> (try first|contradiction|(exfalso;omega)))|fail
        repeat refine cr ?_
        refine ends_id ?_
        refine endK [] (h2 := ?_) (h3 := ?_) (nd := ?_)
        all_goals (repeat' first|exact ce0|refine ce ?_|refine ce2 ?_ ?_|exact SVLe.refl|refine ceb ?_)
        all_goals first | exact (show nodupB _ = true from rfl) | exact Or.inr rfl | (rfl)
      · have e : numS s = none := by
          cases hq : numS s with
          | none => rfl
          | some k =>
            obtain ⟨q1,q2,q3⟩ := numS_some.1 hq
            have q4 : valS (decT k) = valS (decT n) := by rw [q1,hd]
            rw [valS_dec,valS_dec] at q4
            subst q4
            exact absurd (dec_len (k := 18) (by omega) (by omega)) hl
        rw [e]
        refine does_of (k := 0) Tryz.func88 rfl Tryz.ntmps88 rfl rfl fun w F0 S0 ρ0 => ?_
        dsimp only [argT,argH]
        repeat' first|(apply p3;(first|exact pu1|exact a_neNil rfl (by kernel_rfl));exact rfl)|refine cd ?_|(apply c4 0;exact callK1 (θ := []) (hD := (ParseInt_ok s n preB122 hp));exact rfl;exact rfl;exact rfl;refine dM ?_)|(apply py3;exact rfl;exact rfl;(first|exact pu1|exact a_neT rfl rfl|exact a_lenT rfl (fT rfl)|exact puC);exact rfl;exact rfl)|(apply cy4 0;exact rfl;exact rfl;exact callK1 (θ := []) (hD := (Decimal_ok _ preB122 preB122));exact rfl;exact rfl;exact rfl;exact rfl;refine dM ?_)|(apply cy4 0;exact rfl;exact rfl;exact callK1 (θ := []) (hD := (TrimPrefix_ok _ _));exact rfl;exact rfl;exact rfl;exact rfl;refine dM ?_)|(refine o_gs rfl rfl (fun hc => ?_) (fun hc => ?_) <;> (try simp only [dcB] at hc) <;> (try first|contradiction|(exfalso;omega)))|fail
        simp only [ht]
        repeat' first|(apply p3;(exact pu1);exact rfl)|refine cd ?_|((refine g_cond rfl (fun hc => ?_) (fun hc => ?_)) <;> (try simp only [dcB] at hc) <;> (try first|contradiction|(exfalso;omega)))|fail
        repeat refine cr ?_
        refine ends_id ?_
        refine endK [] (h2 := ?_) (h3 := ?_) (nd := ?_)
        all_goals (repeat' first|exact ce0|refine ce ?_|refine ce2 ?_ ?_|exact SVLe.refl|refine ceb ?_)
        all_goals first | exact (show nodupB _ = true from rfl) | exact Or.inr rfl | (rfl)
    · have e : numS s = none := by
        cases hq : numS s with
        | none => rfl
        | some k =>
          obtain ⟨q1,q2,q3⟩ := numS_some.1 hq
          rw [← q1,parse_dec2 q2 q3] at hp
          cases hp
          exact absurd q1 hd
      rw [e]
      refine does_of (k := 0) Tryz.func88 rfl Tryz.ntmps88 rfl rfl fun w F0 S0 ρ0 => ?_
      dsimp only [argT,argH]
      repeat' first|(apply p3;(first|exact pu1|exact a_neNil rfl (by kernel_rfl));exact rfl)|refine cd ?_|(apply c4 0;exact callK1 (θ := []) (hD := (ParseInt_ok s n preB122 hp));exact rfl;exact rfl;exact rfl;refine dM ?_)|refine o_no rfl rfl rfl rfl ?_|(apply py3;exact rfl;exact rfl;(first|exact pu1|exact a_neT rfl rfl);exact rfl;exact rfl)|(apply cy4 0;exact rfl;exact rfl;exact callK1 (θ := []) (hD := (Decimal_ok _ preB122 preB122));exact rfl;exact rfl;exact rfl;exact rfl;refine dM ?_)|((refine o_gs rfl rfl (fun hc => ?_) (fun hc => ?_)) <;> (try simp only [dcB] at hc) <;> (try first|contradiction|(exfalso;omega)))|fail
      repeat refine cr ?_
      refine ends_id ?_
      refine endK [] (h2 := ?_) (h3 := ?_) (nd := ?_)
      all_goals (repeat' first|exact ce0|refine ce ?_|refine ce2 ?_ ?_|exact SVLe.refl|refine ceb ?_)
      all_goals first | exact (show nodupB _ = true from rfl) | exact Or.inr rfl | (rfl)
  · have e : numS s = none := by
      cases hq : numS s with
      | none => rfl
      | some k =>
        obtain ⟨q1,q2,q3⟩ := numS_some.1 hq
        rw [← q1,parse_dec2 q2 q3] at hp
        cases hp
    rw [e]
    refine does_of (k := 0) Tryz.func88 rfl Tryz.ntmps88 rfl rfl fun w F0 S0 ρ0 => ?_
    dsimp only [argT,argH]
    repeat' first|(apply p3;(first|exact pu1|exact a_neErr rfl rfl (by kernel_rfl));exact rfl)|refine cd ?_|(apply c4 1;exact callK0 (θ := []) (hD := (ParseIntSyn_ok s preB122 hp));exact rfl;exact rfl;exact rfl;refine dM ?_)|refine o_no rfl rfl rfl rfl ?_|fail
    repeat refine cr ?_
    refine ends_id ?_
    refine endK [] (h2 := ?_) (h3 := ?_) (nd := ?_)
    all_goals (repeat' first|exact ce0|refine ce ?_|refine ce2 ?_ ?_|exact SVLe.refl|refine ceb ?_)
    all_goals first | exact (show nodupB _ = true from rfl) | exact Or.inr rfl | (rfl)
  · have e : numS s = none := by
      cases hq : numS s with
      | none => rfl
      | some k =>
        obtain ⟨q1,q2,q3⟩ := numS_some.1 hq
        rw [← q1,parse_dec2 q2 q3] at hp
        cases hp
    rw [e]
    refine does_of (k := 0) Tryz.func88 rfl Tryz.ntmps88 rfl rfl fun w F0 S0 ρ0 => ?_
    dsimp only [argT,argH]
    repeat' first|(apply p3;(first|exact pu1|exact a_neErr rfl rfl (by kernel_rfl));exact rfl)|refine cd ?_|(apply c4 1;exact callK0 (θ := []) (hD := (ParseIntRng_ok s preB122 hp));exact rfl;exact rfl;exact rfl;refine dM ?_)|refine o_no rfl rfl rfl rfl ?_|fail
    repeat refine cr ?_
    refine ends_id ?_
    refine endK [] (h2 := ?_) (h3 := ?_) (nd := ?_)
    all_goals (repeat' first|exact ce0|refine ce ?_|refine ce2 ?_ ?_|exact SVLe.refl|refine ceb ?_)
    all_goals first | exact (show nodupB _ = true from rfl) | exact Or.inr rfl | (rfl)
end Go.Proofs.YtnkeamihfiobdaaGreatDoor
end
section
set_option linter.unusedVariables false
set_option linter.unusedSimpArgs false
set_option maxRecDepth 100000
set_option maxHeartbeats 4000000
namespace Go.Proofs.YtnkeamihfiobdaaGreatDoor
open Go Foot
@[irreducible] def tgWord (n : Int) (l : List Int) : Bool := inAll 0 (n - 1) l && decide ((l.length : Int) ≤ 1000)
@[irreducible] def vTag (t : Tg) : Bool := decide (1 ≤ t.de ∧ t.de ≤ 4) && decide (1 ≤ (t.wo.length : Int) ∧ (t.wo.length : Int) ≤ 200) && (risesL t.ha && inAll 0 ((t.wo.length : Int) - 1) t.ha) && t.wo.all (tgWord t.wo.length)
@[irreducible] def tgHalts (t : Tg) (w : List Int) : Bool := decide ((w.length : Int) < t.de) || decide (w.headD 0 ∈ t.ha)
@[irreducible] def tgOut (t : Tg) (w : List Int) : List Int := w ++ t.wo.getD (w.headD 0).toNat []
@[irreducible] def tgStep (t : Tg) (w : List Int) : List Int := (tgOut t w).drop t.de.toNat
@[irreducible] def tgOver (t : Tg) (w : List Int) : Bool := !decide (((tgOut t w).length : Int) ≤ 1000)
theorem vTag_bd {t : Tg} (h : vTag t = true) : (1 ≤ t.de ∧ t.de ≤ 4) ∧ 1 ≤ (t.wo.length : Int) ∧ (t.wo.length : Int) ≤ 200 := by
  unfold vTag at h
  simp only [Bool.and_eq_true,decide_eq_true_eq] at h
  omega
theorem vTag_w {t : Tg} (h : vTag t = true) {x : List Int} (hx : x ∈ t.wo) : (x.length : Int) ≤ 1000 ∧ ∀ y ∈ x,0 ≤ y ∧ y < t.wo.length := by
  unfold vTag at h
  simp only [Bool.and_eq_true,List.all_eq_true] at h
  have := h.2 x hx
  unfold tgWord inAll at this
  simp only [Bool.and_eq_true,List.all_eq_true,decide_eq_true_eq] at this
  exact ⟨this.2,fun y hy => by have := this.1 y hy; omega⟩
structure Gd (t : Tg) (q : List Int) : Prop where
  wd : ∀ y ∈ q,0 ≤ y ∧ y < t.wo.length
  le : (q.length : Int) ≤ 1000
theorem tgHalts_no {t : Tg} {q : List Int} (h : tgHalts t q = false) : t.de ≤ q.length := by
  unfold tgHalts at h
  simp at h
  omega
theorem tgHead {t : Tg} {q : List Int} (hv : vTag t = true) (hg : Gd t q) (h : tgHalts t q = false) : 0 ≤ q.headD 0 ∧ q.headD 0 < t.wo.length := by
  have h1 := tgHalts_no h
  have h2 := vTag_bd hv
  cases q with
  | nil => simp at h1; omega
  | cons a q => exact hg.wd a (by simp)
theorem tgStep_gd {t : Tg} {q : List Int} (hv : vTag t = true) (hg : Gd t q) (h : tgHalts t q = false) (ho : tgOver t q = false) : Gd t (tgStep t q) := by
  obtain ⟨h1,h2⟩ := tgHead hv hg h
  have hlt : (q.headD 0).toNat < t.wo.length := by omega
  have hout : tgOut t q = q ++ t.wo[(q.headD 0).toNat] := by unfold tgOut; rw [List.getD_eq_getElem?_getD,List.getElem?_eq_getElem hlt]; rfl
  refine ⟨fun y hy => ?_,?_⟩
  · unfold tgStep at hy
    have := List.mem_of_mem_drop hy
    rw [hout] at this
    rcases List.mem_append.1 this with hy | hy
    · exact hg.wd y hy
    · exact (vTag_w hv (List.getElem_mem hlt)).2 y hy
  · unfold tgOver at ho
    unfold tgStep
    simp at ho
    rw [List.length_drop]
    omega
section
variable {α : Type} {f : α → α} {h o : α → Bool} {x : α} {k : Nat}
end
section
variable {α : Type} [DecidableEq α] {f : α → α} {h o : α → Bool} {x y : α} {k p l : Nat}
end
end Go.Proofs.YtnkeamihfiobdaaGreatDoor
end
section
set_option linter.unusedVariables false
set_option linter.unusedSimpArgs false
set_option maxRecDepth 100000
set_option maxHeartbeats 4000000
namespace Go.Proofs.YtnkeamihfiobdaaGreatDoor
open Go Foot
end Go.Proofs.YtnkeamihfiobdaaGreatDoor
end
section
set_option linter.unusedVariables false
set_option linter.unusedSimpArgs false
set_option maxRecDepth 100000
set_option maxHeartbeats 4000000
namespace Go.Proofs.YtnkeamihfiobdaaGreatDoor
open Go Foot
theorem vTag_r {t : Tg} (h : vTag t = true) : risesL t.ha = true := by
  unfold vTag at h
  simp only [Bool.and_eq_true] at h
  exact h.1.2.1
end Go.Proofs.YtnkeamihfiobdaaGreatDoor
end
section
set_option linter.unusedVariables false
set_option linter.unusedSimpArgs false
set_option maxRecDepth 100000
set_option maxHeartbeats 4000000
namespace Go.Proofs.YtnkeamihfiobdaaGreatDoor
open Go Foot
end Go.Proofs.YtnkeamihfiobdaaGreatDoor
end
section
set_option linter.unusedVariables false
set_option linter.unusedSimpArgs false
set_option maxRecDepth 100000
set_option maxHeartbeats 4000000
namespace Go.Proofs.YtnkeamihfiobdaaGreatDoor
open Go Foot
end Go.Proofs.YtnkeamihfiobdaaGreatDoor
end
section
set_option linter.unusedVariables false
set_option linter.unusedSimpArgs false
set_option maxRecDepth 100000
set_option maxHeartbeats 4000000
namespace Go.Proofs.YtnkeamihfiobdaaGreatDoor
open Go Foot Go.RowKit
end Go.Proofs.YtnkeamihfiobdaaGreatDoor
end
section
set_option linter.unusedVariables false
set_option linter.unusedSimpArgs false
set_option maxRecDepth 100000
set_option maxHeartbeats 4000000
namespace Go.Proofs.YtnkeamihfiobdaaGreatDoor
open Go Foot Go.RowKit
end Go.Proofs.YtnkeamihfiobdaaGreatDoor
end
section
set_option linter.unusedVariables false
set_option linter.unusedSimpArgs false
set_option maxRecDepth 100000
set_option maxHeartbeats 4000000
namespace Go.Proofs.YtnkeamihfiobdaaGreatDoor
open Go Foot
end Go.Proofs.YtnkeamihfiobdaaGreatDoor
end
section
set_option linter.unusedVariables false
set_option linter.unusedSimpArgs false
set_option maxRecDepth 100000
set_option maxHeartbeats 4000000
namespace Go.Proofs.YtnkeamihfiobdaaGreatDoor
open Go Foot Go.RowKit
end Go.Proofs.YtnkeamihfiobdaaGreatDoor
end
section
set_option linter.unusedVariables false
set_option linter.unusedSimpArgs false
set_option maxRecDepth 100000
set_option maxHeartbeats 4000000
namespace Go.Proofs.YtnkeamihfiobdaaGreatDoor
open Go Foot Go.RowKit
end Go.Proofs.YtnkeamihfiobdaaGreatDoor
end
section
set_option linter.unusedVariables false
set_option linter.unusedSimpArgs false
set_option maxRecDepth 100000
set_option maxHeartbeats 4000000
namespace Go.Proofs.YtnkeamihfiobdaaGreatDoor
open Go Foot
end Go.Proofs.YtnkeamihfiobdaaGreatDoor
end
section
set_option linter.unusedVariables false
set_option linter.unusedSimpArgs false
set_option maxRecDepth 100000
set_option maxHeartbeats 1000000
namespace Go.Proofs.YtnkeamihfiobdaaGreatDoor
open Go Foot Go.RowKit
end Go.Proofs.YtnkeamihfiobdaaGreatDoor
end
section
set_option linter.unusedVariables false
set_option linter.unusedSimpArgs false
set_option maxRecDepth 100000
set_option maxHeartbeats 4000000
namespace Go.Proofs.YtnkeamihfiobdaaGreatDoor
open Go Foot
@[irreducible] def root (sy st : Int) : Mach := ⟨sy,st,List.replicate (st * sy).toNat noR⟩
end Go.Proofs.YtnkeamihfiobdaaGreatDoor
end
section
set_option linter.unusedVariables false
set_option linter.unusedSimpArgs false
set_option maxRecDepth 100000
set_option maxHeartbeats 4000000
namespace Go.Proofs.YtnkeamihfiobdaaGreatDoor
open Go Foot
end Go.Proofs.YtnkeamihfiobdaaGreatDoor
end
section
set_option linter.unusedVariables false
set_option linter.unusedSimpArgs false
set_option maxRecDepth 100000
set_option maxHeartbeats 4000000
namespace Go.Proofs.YtnkeamihfiobdaaGreatDoor
open Go Foot
end Go.Proofs.YtnkeamihfiobdaaGreatDoor
end
section
set_option linter.unusedVariables false
set_option linter.unusedSimpArgs false
set_option maxRecDepth 100000
set_option maxHeartbeats 4000000
namespace Go.Proofs.YtnkeamihfiobdaaGreatDoor
open Go Foot
abbrev c0 : Conf := ⟨0,[],[]⟩
end Go.Proofs.YtnkeamihfiobdaaGreatDoor
end
section
set_option linter.unusedVariables false
set_option linter.unusedSimpArgs false
set_option maxRecDepth 100000
set_option maxHeartbeats 4000000
namespace Go.Proofs.YtnkeamihfiobdaaGreatDoor
open Go Foot
end Go.Proofs.YtnkeamihfiobdaaGreatDoor
end
section
set_option linter.unusedVariables false
set_option linter.unusedSimpArgs false
set_option maxRecDepth 100000
set_option maxHeartbeats 4000000
namespace Go.Proofs.YtnkeamihfiobdaaGreatDoor
open Go Foot
end Go.Proofs.YtnkeamihfiobdaaGreatDoor
end
section
set_option linter.unusedVariables false
set_option linter.unusedSimpArgs false
set_option maxRecDepth 100000
set_option maxHeartbeats 4000000
namespace Go.Proofs.YtnkeamihfiobdaaGreatDoor
open Go Foot
end Go.Proofs.YtnkeamihfiobdaaGreatDoor
end
section
set_option linter.unusedVariables false
set_option linter.unusedSimpArgs false
set_option maxRecDepth 100000
namespace Go.Proofs.YtnkeamihfiobdaaGreatDoor
open Go Foot
section
variable {P : Program} {g : Gh} {st : St} {dst : Option Tmp} {ty : TypeId} {pos : String} {after : Array Edge} {guard : Option (Nat × Bool)} {x y : Operand} {α : Type} {E : Enc α} {l : List α} {z r k i : Nat} {c0 : C}
end
end Go.Proofs.YtnkeamihfiobdaaGreatDoor
end
section
set_option linter.unusedVariables false
set_option linter.unusedSimpArgs false
set_option maxRecDepth 100000
set_option maxHeartbeats 4000000
namespace Go.Proofs.YtnkeamihfiobdaaGreatDoor
open Go Foot
end Go.Proofs.YtnkeamihfiobdaaGreatDoor
end
section
set_option linter.unusedVariables false
set_option linter.unusedSimpArgs false
set_option maxRecDepth 100000
set_option maxHeartbeats 1000000
namespace Go.Proofs.YtnkeamihfiobdaaGreatDoor
open Go Foot Go.RowKit
end Go.Proofs.YtnkeamihfiobdaaGreatDoor
end
section
set_option linter.unusedVariables false
set_option linter.unusedSimpArgs false
set_option maxRecDepth 100000
set_option maxHeartbeats 1000000
namespace Go.Proofs.YtnkeamihfiobdaaGreatDoor
open Go Foot Go.RowKit
end Go.Proofs.YtnkeamihfiobdaaGreatDoor
end
section
set_option linter.unusedVariables false
set_option linter.unusedSimpArgs false
set_option maxRecDepth 100000
set_option maxHeartbeats 1000000
namespace Go.Proofs.YtnkeamihfiobdaaGreatDoor
open Go Foot Go.RowKit
end Go.Proofs.YtnkeamihfiobdaaGreatDoor
end
section
set_option linter.unusedVariables false
set_option linter.unusedSimpArgs false
set_option maxRecDepth 100000
set_option maxHeartbeats 1000000
namespace Go.Proofs.YtnkeamihfiobdaaGreatDoor
open Go Foot Go.RowKit
structure Ct where
  i : Int
  a : Int
  b : Int
end Go.Proofs.YtnkeamihfiobdaaGreatDoor
end
section
set_option linter.unusedVariables false
set_option linter.unusedSimpArgs false
set_option maxRecDepth 100000
set_option maxHeartbeats 1000000
namespace Go.Proofs.YtnkeamihfiobdaaGreatDoor
open Go Foot Go.RowKit
end Go.Proofs.YtnkeamihfiobdaaGreatDoor
end
section
set_option linter.unusedVariables false
set_option linter.unusedSimpArgs false
set_option maxRecDepth 100000
set_option maxHeartbeats 4000000
namespace Go.Proofs.YtnkeamihfiobdaaGreatDoor
open Go Foot
end Go.Proofs.YtnkeamihfiobdaaGreatDoor
end
section
set_option linter.unusedVariables false
set_option linter.unusedSimpArgs false
set_option maxRecDepth 100000
set_option maxHeartbeats 4000000
namespace Go.Proofs.YtnkeamihfiobdaaGreatDoor
open Go Foot Go.RowKit
end Go.Proofs.YtnkeamihfiobdaaGreatDoor
end
section
set_option linter.unusedVariables false
set_option linter.unusedSimpArgs false
set_option maxRecDepth 100000
set_option maxHeartbeats 1000000
namespace Go.Proofs.YtnkeamihfiobdaaGreatDoor
open Go Foot Go.RowKit
deriving instance DecidableEq for Ct
section
variable {g : Gh} {st : St} {dst : Option Tmp} {ty : TypeId} {pos : String} {after : Array Edge} {guard : Option (Nat × Bool)} {x y : Operand} {U : TypeId} {r s : Ct}
end
@[irreducible] def bwV (l : List Int) (k n : Int) : Int := if k < l.length then l.getD k.toNat 0 % n else (k * 37 + 11) % n
theorem bwV_bd (l : List Int) (k n : Int) (h : 1 ≤ n) : 0 ≤ bwV l k n ∧ bwV l k n < n := by
  unfold bwV
  split
  · exact ⟨Int.emod_nonneg _ (by omega),Int.emod_lt_of_pos _ (by omega)⟩
  · exact ⟨Int.emod_nonneg _ (by omega),Int.emod_lt_of_pos _ (by omega)⟩
theorem b10At_ok (l : List Int) (k n : Int) (hl : (l.length : Int) ≤ 1048576) (hb : ∀ x ∈ l,0 ≤ x ∧ x ≤ 255) (hk : 0 ≤ k) (hk2 : k ≤ 1000) (hn : 2 ≤ n) (hn2 : n ≤ 1000) : Does Tryz.prog 24 [.one (shY l),.one (int k),.one (int n)] [] (.one (int (bwV l k n))) [] := by
  by_cases h : k < l.length
  · have hi : k.toNat < l.length := by omega
    have e : bwV l k n = l[k.toNat]'hi % n := by unfold bwV; rw [if_pos h,List.getD_eq_getElem?_getD,List.getElem?_eq_getElem hi]; rfl
    have hx := hb _ (List.getElem_mem hi)
    rw [e]
    refine does_of (k := 0) Tryz.func24 rfl Tryz.ntmps24 rfl rfl fun w F0 S0 ρ0 => ?_
    dsimp only [argT,argH]
    repeat' first|(apply p3;(first|exact pu1|exact puC|exact puN|exact a_of8 rfl Tryz.underlying5 Tryz.underlying2 (by omega) (by first|omega|exact byte_lt _)|exact a_rem rfl rfl (by omega) (by omega) (by omega)|exact puI);exact rfl)|refine cd ?_|((refine g_cond rfl (fun hc => ?_) (fun hc => ?_)) <;> (try simp only [dcB] at hc) <;> (try first|contradiction|(exfalso;omega)))|fail
    repeat refine cr ?_
    refine ends_id ?_
    refine endK [] (h2 := ?_) (h3 := ?_) (nd := ?_)
    all_goals (repeat' first|exact ce0|refine ce ?_|refine ce2 ?_ ?_|exact SVLe.refl|refine ceb ?_)
    all_goals first | exact (show nodupB _ = true from rfl) | exact Or.inr rfl | (rfl)
  · have e : bwV l k n = (k * 37 + 11) % n := by unfold bwV; rw [if_neg h]
    rw [e]
    refine does_of (k := 0) Tryz.func24 rfl Tryz.ntmps24 rfl rfl fun w F0 S0 ρ0 => ?_
    dsimp only [argT,argH]
    repeat' first|(apply p3;(first|exact pu1|exact puC|exact puN|exact a_rem rfl rfl (by omega) (by omega) (by omega)|exact a_mulB rfl rfl (by omega) (by omega) (by omega) (by omega)|exact a_add rfl rfl (by omega) (by omega));exact rfl)|refine cd ?_|((refine g_cond rfl (fun hc => ?_) (fun hc => ?_)) <;> (try simp only [dcB] at hc) <;> (try first|contradiction|(exfalso;omega)))|fail
    repeat refine cr ?_
    refine ends_id ?_
    refine endK [] (h2 := ?_) (h3 := ?_) (nd := ?_)
    all_goals (repeat' first|exact ce0|refine ce ?_|refine ce2 ?_ ?_|exact SVLe.refl|refine ceb ?_)
    all_goals first | exact (show nodupB _ = true from rfl) | exact Or.inr rfl | (rfl)
theorem b10LongC_ok (l : List Int) (hx : (l.length : Int) ≤ 1048576) : Does Tryz.prog 22 [.one (shY l)] [] (.one (boo false)) [] := by
  have h := b10Long_ok l (by omega)
  rw [decide_eq_false (by omega)] at h
  exact h
end Go.Proofs.YtnkeamihfiobdaaGreatDoor
end
section
set_option linter.unusedVariables false
set_option linter.unusedSimpArgs false
set_option maxRecDepth 100000
set_option maxHeartbeats 1000000
namespace Go.Proofs.YtnkeamihfiobdaaGreatDoor
open Go Foot Go.RowKit
theorem preB242 {p : Prop} (h : p := by first | with_reducible assumption | omega | (simp only [List.length_append,List.length_cons,List.length_nil,List.length_set,List.length_replicate,List.length_take,List.length_drop,List.length_tail,List.length_dropLast,List.length_reverse] at *; omega) | exact mem_len (by assumption) (by omega) | (with_reducible refine Int.le_trans (Int.ofNat_le.2 (trimR_len _)) ?_; simp only [List.length_cons,List.length_tail]; omega) | (exact (ruAt_ok (by assumption) (by assumption) (by assumption)).2.1) | (exact (ruAt_ok (by assumption) (by assumption) (by assumption)).2.1) | (have := vMach_bd (by assumption); omega) | (simp only [List.length_append,List.length_cons,List.length_nil,repW_len,seN_len] at *; omega) | (simp only [mC_ch,mC_tu]; omega) | (have := vTag_bd (by assumption); omega) | (have := (‹Gd _ _›).le; omega) | (exact tgHalts_no (by assumption)) | (exact tgHead (by assumption) (by assumption) (by assumption)) | (exact Int.le_trans (tgStep_gd (by assumption) (by assumption) (by assumption) (by assumption)).le (by decide)) | (exact vTag_r (by assumption)) | (with_reducible refine Int.le_trans (Int.ofNat_le.2 (pushL_len _ _)) ?_; simp only [List.length_dropLast]; omega) | exact ls_at (by assumption) (by omega) | exact pt_gd (by assumption) | exact lv_at (by assumption) (by omega) | exact pt_gd (lv_at (by assumption) (by omega)) | exact (ask_ok (by assumption)).1 | exact (ask_ok (by assumption)).2.1 | exact (ask_ok (by assumption)).2.2.1 | exact (ask_ok (by assumption)).2.2.2 | trivial) : p := h
theorem ReadNatural_ok (x : Nat) (hx : (dg 1000000 x).length ≤ 40) : Does Tryz.prog 28 [.one (str (natT x))] [] (.tup [(false,[shI (dg 1000000 x)]),(false,[boo true])]) [] := by
  have hL := lmN_len hx
  have hlb := lmN_lb x
  have hnl := natT_len hx
  have hnv := lmN_nv x
  have hne := natT_eq x
  generalize hLL : lmN x = L at *
  refine does_of (k := 0) Tryz.func28 rfl Tryz.ntmps28 rfl rfl fun w F0 S0 ρ0 => ?_
  dsimp only [argT,argH]
  repeat' first|(apply n3;(exact a_litE eI [] rfl rfl rfl rfl rfl rfl rfl rfl);exact rfl;refine dA ?_)|(apply p3;(first|exact pu1|exact a_lenT rfl (fT rfl));exact rfl)|refine cd ?_|fail
  refine g_loop_id ?_
  refine loopK [0,2,3] [0] (fun y : Int × List Int => ∃ j : Nat,j ≤ L.length ∧ y.2 = L.take j ∧ (j < L.length → y.1 = (txN (L.drop j)).length ∧ (natT x).take y.1.toNat = txN (L.drop j)) ∧ (j = L.length → y.1 ≤ 0)) (fun y => [(5,.one (int y.1)),(4,.one (.gv 0))]) (fun y => [(0,roI y.2)]) (fun y => y.1.toNat) (((natT x).length : Int),([] : List Int)) [0] (hI := ?_) (hr := ?_)
  · exact ⟨0,by omega,by simp,fun _ => ⟨by rw [List.drop_zero,hne],by dsimp only; rw [List.drop_zero,← hne]; exact List.take_of_length_le (by omega)⟩,fun h => by omega⟩
  · rintro ⟨e,q⟩ ⟨j,j0,j1,j2,j3⟩
    dsimp only [List.cons_append,List.nil_append] at *
    skip
    repeat' first|(apply p3;(first|exact pu1|exact puC);exact rfl)|refine cdn ?_|refine g_reg (id := 3) ?_|refine o_no rfl rfl rfl rfl ?_|(apply py3;exact rfl;exact rfl;(first|exact pu1|exact puC|exact puN);exact rfl;exact rfl)|((first|refine o_gs rfl rfl (fun hc => ?_) (fun hc => ?_)|refine g_cond rfl (fun hc => ?_) (fun hc => ?_)) <;> (try simp only [dcB] at hc) <;> (try first|contradiction|(exfalso;omega)))|fail
    · have hj : j < L.length := by
        rcases Nat.lt_or_ge j L.length with h | h
        · exact h
        · have := j3 (by omega); omega
      obtain ⟨j4,j5⟩ := j2 hj
      have he : e ≤ (natT x).length := by
        have := congrArg List.length j5
        rw [List.length_take] at this
        omega
      have hc6 := chunk hlb hj (e := e.toNat) (by omega) j5
      obtain ⟨c1,c2,c3⟩ := hc6
      have hLj := hlb.h _ (List.getElem_mem hj)
      obtain ⟨m1,m2⟩ := numS_lmb hLj.1 hLj.2
      have ec : trL (List.take (e.toNat - (if e - 6 > 0 then e - 6 else 0).toNat) (List.drop (if e - 6 > 0 then e - 6 else 0).toNat (natT x))) = lmb (L[j]'hj) := by
        rw [← c1,List.drop_take,show (if e - 6 > 0 then e - 6 else 0).toNat = e.toNat - 6 by split <;> omega]
      have hl6 : (lmb (L[j]'hj)).length ≤ 6 := by
        have := decT_6 hLj.1 hLj.2
        unfold lmb
        split
        · simp
        · omega
      have ht : L.take (j + 1) = L.take j ++ [L[j]'hj] := List.take_succ_eq_append_getElem hj
      have hrel : ∃ j' : Nat,j' ≤ L.length ∧ q ++ [L[j]'hj] = L.take j' ∧ (j' < L.length → e - 6 = (txN (L.drop j')).length ∧ (natT x).take (e - 6).toNat = txN (L.drop j')) ∧ (j' = L.length → e - 6 ≤ 0) := by
        refine ⟨j + 1,by omega,by rw [ht,j1],fun h => ?_,fun h => ?_⟩
        · obtain ⟨d1,d2,d3⟩ := c2 h
          rw [show (e - 6).toNat = e.toNat - 6 by omega]
          exact ⟨by omega,d3⟩
        · have := c3 h
          omega
      repeat' first|(apply p3;(first|exact pu1|exact a_sub rfl rfl (by omega) (by omega)|exact a_max rfl rfl|exact a_slSm rfl rfl rfl (fT rfl) (by omega) (by omega) bnd);exact rfl)|refine cdn ?_|refine g_reg (id := 5) ?_|(apply c4 0;exact callK1 (θ := []) (hD := (TrimLeft_ok _ preB242));exact rfl;exact rfl;exact rfl;refine dM ?_)|fail
      rw [ec]
      generalize (L[j]'hj) = d at *
      repeat' first|(apply p3;(exact pu1);exact rfl)|refine cdn ?_|refine g_reg (id := 6) ?_|(apply c4 0;exact callK1 (θ := []) (hD := (ReadDecimalG_ok (lmb d) (by omega)));exact rfl;exact rfl;exact rfl;refine dM ?_)|fail
      rw [m1]
      repeat' first|(apply n3;(exact a_litE eI [_] rfl rfl rfl rfl rfl rfl rfl rfl);exact rfl;refine dA ?_)|(apply p3;(first|exact pu1|exact a_sub rfl rfl (by omega) (by omega));exact rfl)|refine cd ?_|(apply s3;exact a_appE (fP rfl) rfl rfl rfl rfl nowR (by (simp <;> omega)) (by decide) (by decide) (by exact rfl);exact rfl;exact rfl)|refine o_no rfl rfl rfl rfl ?_|(apply py3;exact rfl;exact rfl;(first|exact pu1|exact puC|exact a_neT rfl rfl);exact rfl;exact rfl)|((first|refine o_gs rfl rfl (fun hc => ?_) (fun hc => ?_)|refine g_cond rfl (fun hc => ?_) (fun hc => ?_)) <;> (try simp only [dcB] at hc) <;> (try first|contradiction|(exfalso;omega)))|fail
      · exfalso
        exact hc (m2 (by assumption))
      · refine q_again (e - 6,q ++ [d]) [2] (by exact stk) ?_ ?_
        · exact hrel
        · dsimp only; omega
      · refine q_again (e - 6,q ++ [d]) [2] (by exact stk) ?_ ?_
        · exact hrel
        · dsimp only; omega
    · exfalso
      rw [j1,List.length_take] at hc
      omega
    · have hj : j = L.length := by
        rcases Nat.lt_or_ge j L.length with h | h
        · exfalso
          have h1 := (j2 h).1
          have h2 := txN_ne (l := L.drop j) (fun q => by have := List.drop_eq_nil_iff.mp q; omega) ⟨fun y hy => hlb.h y (List.mem_of_mem_drop hy)⟩
          have h3 := List.length_pos_iff.mpr h2
          omega
        · omega
      have hq : q = L := by rw [j1,hj,List.take_length]
      subst hq
      have hnt := isNt_dg hx
      refine g_turn (t_freeze (i := 0) rfl nowR) ?_
      repeat' first|(apply p3;(exact pu1);exact rfl)|refine cdn ?_|refine g_reg (id := 10) ?_|(apply c4 0;exact callK0 (θ := []) (hD := (trimmed_ok q (by omega) hlb));exact rfl;exact rfl;exact rfl;refine dM ?_)|fail
      rw [hnv]
      repeat' first|(apply p3;(exact pu1);exact rfl)|refine cd ?_|(apply c4 0;exact callK1 (θ := []) (hD := (IsNaturalG_ok _ preB242));exact rfl;exact rfl;exact rfl;refine dM ?_)|refine o_no rfl rfl rfl rfl ?_|(apply py3;exact rfl;exact rfl;(first|exact pu1|exact a_neT rfl rfl);exact rfl;exact rfl)|(apply cy4 0;exact rfl;exact rfl;exact callK1 (θ := []) (hD := (NaturalText_ok x hx));exact rfl;exact rfl;exact rfl;exact rfl;refine dM ?_)|((first|refine o_gs rfl rfl (fun hc => ?_) (fun hc => ?_)|refine g_cond rfl (fun hc => ?_) (fun hc => ?_)) <;> (try simp only [dcB] at hc) <;> (try first|contradiction|(exfalso;omega)))|fail
      · exfalso
        rw [hnt] at hc
        cases hc
      · repeat refine cr ?_
        refine ends_id ?_
        refine endK [] (h2 := ?_) (h3 := ?_) (nd := ?_)
        all_goals (repeat' first|exact ce0|refine ce ?_|refine ce2 ?_ ?_|exact SVLe.refl|refine ceb ?_)
        all_goals first | exact (show nodupB _ = true from rfl) | exact Or.inr rfl | (rfl)
theorem isq_21 {n : Nat} (h : (dg 1000000 n).length ≤ 40) : (dg 1000000 (isq n + 1)).length ≤ 40 := by
  have h1 := dg_40 h
  have h2 := (isq_bd n).1
  have h3 : isq n < 1000000 ^ 20 := by
    rcases Nat.lt_or_ge (isq n) (1000000 ^ 20) with g | g
    · exact g
    · exfalso
      have := sq_mono g
      rw [← Nat.pow_add] at this
      omega
  have h4 : isq n + 1 < 1000000 ^ 40 := by
    have : (1000000 : Nat) ^ 20 < 1000000 ^ 40 := by decide +kernel
    omega
  exact dg_le (by decide) h4
theorem lawDigits (c m : List Int) (hc : (c.length : Int) ≤ 9223372036854775807) (hm : (m.length : Int) ≤ 9223372036854775807) (hcb : ∀ x ∈ c,0 ≤ x ∧ x ≤ 255) (hmb : ∀ x ∈ m,0 ≤ x ∧ x ≤ 255) : Does Tryz.prog 5 [.one (shY c),.one (shY m)] [] (.one (boo true)) [] := by
  by_cases hL : (c.length : Int) > 1048576 ∨ (m.length : Int) > 1048576
  · refine does_of (k := 0) Tryz.func5 rfl Tryz.ntmps5 rfl rfl fun w F0 S0 ρ0 => ?_
    dsimp only [argT,argH]
    repeat' first|(apply p3;(exact pu1);exact rfl)|refine cd ?_|(apply c4 0;exact callK1 (θ := []) (hD := (b10Long_ok _ preB242));exact rfl;exact rfl;exact rfl;refine dM ?_)|refine o_no rfl rfl rfl rfl ?_|(apply py3;exact rfl;exact rfl;(exact pu1);exact rfl;exact rfl)|(apply cy4 0;exact rfl;exact rfl;exact callK1 (θ := []) (hD := (b10Long_ok _ preB242));exact rfl;exact rfl;exact rfl;exact rfl;refine dM ?_)|((first|refine o_gs rfl rfl (fun hc => ?_) (fun hc => ?_)|refine g_cond rfl (fun hc => ?_) (fun hc => ?_)) <;> (try simp only [dcB] at hc) <;> (try first|contradiction|(exfalso;omega)))|fail
    all_goals first | (exfalso; omega) | skip
    all_goals
      repeat refine cr ?_
      refine ends_id ?_
      refine endK [] (h2 := ?_) (h3 := ?_) (nd := ?_)
      all_goals (repeat' first|exact ce0|refine ce ?_|refine ce2 ?_ ?_|exact SVLe.refl|refine ceb ?_)
      all_goals first | exact (show nodupB _ = true from rfl) | exact Or.inr rfl | (rfl)
  have g : SrOk ⟨c,0,0⟩ := ⟨hc,⟨by dsimp only; omega,by dsimp only; omega⟩,hcb⟩
  have hn := (drn_ok g (by dsimp only; omega)).n
  have hml : (m.length : Int) ≤ 1048576 := by omega
  have hbw := bwV_bd m 0 60 (by omega)
  refine does_of (k := 0) Tryz.func5 rfl Tryz.ntmps5 rfl rfl fun w F0 S0 ρ0 => ?_
  dsimp only [argT,argH]
  repeat' first|(apply p3;(first|exact pu1|exact a_add rfl rfl (by omega) (by omega));exact rfl)|refine cdn ?_|refine g_reg (id := 0) ?_|refine g_reg (id := 1) ?_|refine g_reg (id := 3) ?_|refine g_reg (id := 4) ?_|(apply c4 0;exact callK1 (θ := []) (hD := (b10LongC_ok c (by omega)));exact rfl;exact rfl;exact rfl;refine dM ?_)|(apply c4 0;exact callK0 (θ := []) (hD := (B10Naturals_ok c g));exact rfl;exact rfl;exact rfl;refine dM ?_)|(apply c4 0;exact callK1 (θ := []) (hD := (b10At_ok m 0 60 hml hmb (by omega) (by omega) (by omega) (by omega)));exact rfl;exact rfl;exact rfl;refine dM ?_)|(apply py3;exact rfl;exact rfl;(exact pu1);exact rfl;exact rfl)|(apply cy4 0;exact rfl;exact rfl;exact callK1 (θ := []) (hD := (b10LongC_ok m (by omega)));exact rfl;exact rfl;exact rfl;exact rfl;refine dM ?_)|fail
  generalize drN ⟨c,0,0⟩ = n at *
  generalize bwV m 0 60 = b at *
  have h8 := dg_800 (b := (2 + b).toNat) (by omega) hn
  have hq := isq_bd n
  have q1 := dg_mono (b := 1000000) (by decide) (isq_le n)
  have q2 := dg_mono (b := 1000000) (by decide) hq.1
  have q3 := isq_21 hn
  have eqn : eqI (dg 1000000 n) (dg 1000000 n) = true := by unfold eqI; simp
  repeat' first|(apply p3;(first|exact pu1|exact a_ne rfl rfl);exact rfl)|refine cdn ?_|refine g_reg (id := 5) ?_|refine g_reg (id := 6) ?_|refine g_reg (id := 7) ?_|refine g_reg (id := 8) ?_|(apply c4 0;exact callF (hD := (DigitsOf_ok n (2 + b) hn (by omega) (by omega)));exact rfl;exact rfl;exact rfl;refine dM ?_)|(apply c4 0;exact callK0 (θ := []) (hD := (FromDigits_ok n (2 + b) (by omega) (by omega) hn));exact rfl;exact rfl;exact rfl;refine dM ?_)|(apply py3;exact rfl;exact rfl;(first|exact pu1|exact a_ne rfl rfl|exact puN|exact puC);exact rfl;exact rfl)|(apply cy4 0;exact rfl;exact rfl;exact callK1 (θ := []) (hD := (b10Nums_ok _ _ preB242 preB242));exact rfl;exact rfl;exact rfl;exact rfl;refine dM ?_)|((first|refine o_gs rfl rfl (fun hc => ?_) (fun hc => ?_)|refine g_cond rfl (fun hc => ?_) (fun hc => ?_)) <;> (try simp only [dcB] at hc) <;> (try first|contradiction|(exfalso;omega)))|fail
  all_goals first | (exfalso; rw [eqn] at hc; cases hc; done) | skip
  repeat' first|(apply p3;(exact pu1);exact rfl)|refine cdn ?_|refine g_reg (id := 9) ?_|refine g_reg (id := 10) ?_|refine g_reg (id := 11) ?_|refine g_reg (id := 12) ?_|(apply c4 0;exact callK1 (θ := []) (hD := (NaturalText_ok n hn));exact rfl;exact rfl;exact rfl;refine dM ?_)|(apply c4 0;exact callK0 (θ := []) (hD := (ReadNatural_ok n hn));exact rfl;exact rfl;exact rfl;refine dM ?_)|(apply c4 0;exact callK0 (θ := []) (hD := (RootNatural_ok n hn));exact rfl;exact rfl;exact rfl;refine dM ?_)|(apply py3;exact rfl;exact rfl;(exact pu1);exact rfl;exact rfl)|(apply cy4 0;exact rfl;exact rfl;exact callK1 (θ := []) (hD := (b10Nums_ok _ _ preB242 preB242));exact rfl;exact rfl;exact rfl;exact rfl;refine dM ?_)|((refine g_cond rfl (fun hc => ?_) (fun hc => ?_)) <;> (try simp only [dcB] at hc) <;> (try first|contradiction|(exfalso;omega)))|fail
  all_goals first | (exfalso; rw [eqn] at hc; cases hc; done) | skip
  repeat' first|(apply p3;(exact pu1);exact rfl)|refine cdn ?_|refine g_reg (id := 13) ?_|(apply c4 0;exact callK0 (θ := []) (hD := (MultiplyNaturals_ok (isq n) (isq n) (by omega) (by omega) (by omega)));exact rfl;exact rfl;exact rfl;refine dM ?_)|fail
  repeat' first|(apply p3;exact a_litF (dst := some 92) eI [_] rfl rfl rfl rfl rfl rfl rfl rfl nowR;exact rfl)|(apply p3;(exact pu1);exact rfl)|refine cdn ?_|refine g_reg (id := 14) ?_|(apply c4 0;exact callK0 (θ := []) (hD := (AddNaturals_ok (isq n) (by omega) q3));exact rfl;exact rfl;exact rfl;refine dM ?_)|fail
  by_cases hh : (dg 1000000 ((isq n + 1) * (isq n + 1))).length ≤ 40
  · skip
    repeat' first|(apply p3;(first|exact pu1|exact a_ne rfl rfl|exact puC);exact rfl)|refine cd ?_|(apply c4 0;exact callK0 (θ := []) (hD := (MultiplyNaturals_ok (isq n + 1) (isq n + 1) q3 q3 hh));exact rfl;exact rfl;exact rfl;refine dM ?_)|(apply py3;exact rfl;exact rfl;(first|exact pu1|exact a_ne rfl rfl|exact puC);exact rfl;exact rfl)|(apply cy4 0;exact rfl;exact rfl;exact callK1 (θ := []) (hD := (b10Less_ok n (isq n * isq n) (by omega) (by omega)));exact rfl;exact rfl;exact rfl;exact rfl;refine dM ?_)|(apply cy4 0;exact rfl;exact rfl;exact callK1 (θ := []) (hD := (b10Less_ok n ((isq n + 1) * (isq n + 1)) (by omega) (by omega)));exact rfl;exact rfl;exact rfl;exact rfl;refine dM ?_)|((refine g_cond rfl (fun hc => ?_) (fun hc => ?_)) <;> (try simp only [dcB] at hc) <;> (try first|contradiction|(exfalso;omega)))|fail
    repeat refine cr ?_
    refine ends_id ?_
    refine endK [] (h2 := ?_) (h3 := ?_) (nd := ?_)
    all_goals (repeat' first|exact ce0|refine ce ?_|refine ce2 ?_ ?_|exact SVLe.refl|refine ceb ?_)
    all_goals first | exact (show nodupB _ = true from rfl) | exact Or.inr rfl | ((rw [decide_eq_true hq.2]))
  · skip
    repeat' first|(apply p3;(first|exact pu1|exact a_ne rfl rfl|exact puC);exact rfl)|refine cd ?_|(apply c4 0;exact callK1 (θ := []) (hD := (MultiplyNaturalsN_ok (isq n + 1) (isq n + 1) q3 q3 (by omega)));exact rfl;exact rfl;exact rfl;refine dM ?_)|refine o_no rfl rfl rfl rfl ?_|(apply py3;exact rfl;exact rfl;(first|exact pu1|exact a_ne rfl rfl);exact rfl;exact rfl)|(apply cy4 0;exact rfl;exact rfl;exact callK1 (θ := []) (hD := (b10Less_ok n (isq n * isq n) (by omega) (by omega)));exact rfl;exact rfl;exact rfl;exact rfl;refine dM ?_)|((refine g_cond rfl (fun hc => ?_) (fun hc => ?_)) <;> (try simp only [dcB] at hc) <;> (try first|contradiction|(exfalso;omega)))|fail
    repeat refine cr ?_
    refine ends_id ?_
    refine endK [] (h2 := ?_) (h3 := ?_) (nd := ?_)
    all_goals (repeat' first|exact ce0|refine ce ?_|refine ce2 ?_ ?_|exact SVLe.refl|refine ceb ?_)
    all_goals first | exact (show nodupB _ = true from rfl) | exact Or.inr rfl | (rfl)
end Go.Proofs.YtnkeamihfiobdaaGreatDoor
end
