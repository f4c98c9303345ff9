/- Parts of the proof (18 of 20). -/
import Derived.Conc.MuData
import Derived.Test.YtcmdfohamphndaaGreatDoorQ17
section
set_option linter.unusedVariables false
namespace Go.Proofs.YtcmdfohamphndaaGreatDoor
open Go
abbrev muLink : Go.Conc.Locks.MuLink := { lock := 148, unlock := 149, ilock := 195, iunlock := 196, lockSlow := 233, unlockSlow := 236, disable := 229, enable := 231, acquire := 232, relMerge := 234, cas32 := 230, add32 := 235, tMutex := 166, tIMutex := 164, tPMutex := 227, tPIMutex := 267, tPI32 := 269, tUP := 271, tNoCopy := 161, tU32 := 162 }
theorem muLib : Go.Conc.Locks.MuLib Tryz.prog muLink :=
  ⟨Tryz.func148, Tryz.func149, Tryz.func195, Tryz.func196, Tryz.func229, Tryz.func231, Tryz.func232, Tryz.func234, Tryz.func230, Tryz.func235, Tryz.underlying164, Tryz.runUnderlying164, Tryz.sizeOf164, Tryz.isAgg164, Tryz.zeroValue164, Tryz.underlying166, Tryz.runUnderlying166, Tryz.sizeOf166, Tryz.isAgg166, Tryz.zeroValue166, Tryz.underlying227, Tryz.runUnderlying227, Tryz.sizeOf227, Tryz.isAgg227, Tryz.zeroValue227, Tryz.underlying267, Tryz.runUnderlying267, Tryz.sizeOf267, Tryz.isAgg267, Tryz.zeroValue267, Tryz.underlying269, Tryz.runUnderlying269, Tryz.sizeOf269, Tryz.isAgg269, Tryz.zeroValue269, Tryz.underlying271, Tryz.runUnderlying271, Tryz.sizeOf271, Tryz.isAgg271, Tryz.zeroValue271, Tryz.underlying161, Tryz.runUnderlying161, Tryz.sizeOf161, Tryz.isAgg161, Tryz.zeroValue161, Tryz.underlying21, Tryz.runUnderlying21, Tryz.sizeOf21, Tryz.isAgg21, Tryz.zeroValue21, (by kernel_rfl)⟩
theorem Unlock_is : muLink.unlock = 149 := rfl
theorem Unlock_ent : entB Tryz.prog 149 = true := by kernel_rfl
end Go.Proofs.YtcmdfohamphndaaGreatDoor
end
section
set_option linter.unusedVariables false
set_option linter.unusedSimpArgs false
set_option maxRecDepth 100000
set_option maxHeartbeats 4000000
namespace Go.Proofs.YtcmdfohamphndaaGreatDoor
open Go Foot
/-- A node. -/
abbrev ndC (m : Mach) (B : Int) : List C := [int m.sy, int m.st, shR m.ru, int (ndS m B), int (ndA m B)]
abbrev ndD (m : Mach) (B : Int) : List D := [.sc (.int .i64 m.sy), .sc (.int .i64 m.st), .sl false 3 (rows eR m.ru), .sc (.int .i64 (ndS m B)), .sc (.int .i64 (ndA m B))]
/-- The forest's cells, its map. -/
abbrev foC (st sy B z : Int) : List C := [int st, int sy, int B, i32 z, .d (.sc (.int .u32 0)), .gv 1]
end Go.Proofs.YtcmdfohamphndaaGreatDoor
end
section
set_option linter.unusedVariables false
set_option linter.unusedSimpArgs false
set_option maxRecDepth 100000
namespace Go.Proofs.YtcmdfohamphndaaGreatDoor
open Go Foot
/-- Lists of own lists; of shared ones. -/
abbrev eO1 : Enc (List Int) := ⟨1, fun l => [.sl true 1 (rows eI l)], fun _ => rfl, by decide⟩
/-- Cells that nobody writes, and that can be had back. -/
structure Back (w : World) (S Z G : Foot) (ps : List (List Int)) (vs : List Value) : Prop where
  r : Reps w no (rows eO1 ps) vs G
  s : le G S
  z : Foot.dis G Z
  t : ∀ t ∈ tabs, ∀ o, ¬ G t.1 o
theorem Back.keep {w w' : World} {S S' Z G : Foot} {ps : List (List Int)} {vs : List Value} (h : Back w S Z G ps vs) (hS : Agree w w' S) (hle : le S S') : Back w' S' Z G ps vs :=
  ⟨h.r.keep (hS.le h.s) Agree.no (le_refl _) (le_refl _), h.s.trans hle, h.z, h.t⟩
/-- A set of cells that is known to be frozen. -/
def zw (Z : Foot) : Opq where
  p w S us F := us = [] ∧ le Z S
  keep := fun ⟨h1, h2⟩ _ _ hle _ => ⟨h1, h2.trans hle⟩
theorem eO_len (ps : List (List Int)) : (rows eO1 ps).length = ps.length := by rw [rows_len]; simp
theorem Back.len {w : World} {S Z G : Foot} {ps : List (List Int)} {vs : List Value} (h : Back w S Z G ps vs) : vs.length = ps.length := by
  have := h.r.length
  rwa [eO_len] at this
theorem lkG_cons (d : Nat) (gb : GB) (h : List (Nat × GB)) (i : Nat) : lkG ((d, gb) :: h) i = if i = d then gb else lkG h i := by
  simp only [lkG]
  by_cases hi : i = d
  · subst hi; simp
  · simp [beq_ne hi, hi]
section
variable {P : Program} {g : Gh} {t : List (Nat × SV)} {h0 : List (Nat × GB)} {n i j q r : Nat} {a : Act} {w : World} {S Z : Foot} {ρ : Env} {F : Nat → Foot} {ps : List (List Int)} {vs : List Value} {Q : Exit → St → Prop}
theorem rel_root {gb : GB} (h : Rel g ⟨t, h0, n⟩ a w S ρ F) (hr : gb = .dead ∨ ∃ v, ρ i = some v ∧ RepG w S ρ gb v (F i)) : Rel g ⟨t, (i, gb) :: h0, n⟩ a w S ρ F := by
  refine ⟨h.size, h.defers, h.slot, fun j => ?_, h.dis, h.disS, h.own, h.ex, h.exS, h.old, h.inS, h.newS, h.pin, h.tab, h.fin⟩
  simp only [lkG_cons]
  split
  · rename_i e; subst e; exact hr
  · exact h.root j
/-- A root that holds nothing but what it says. -/
theorem rel_new {R : Opq} (h : Rel g ⟨t, h0, n⟩ a w S ρ F) (hf : Fresh ⟨t, h0, n⟩ ρ) (hp : R.p w S [] (F n)) : ∃ ρ', Env.le ρ ρ' ∧ Rel g ⟨t, (n, .opq R []) :: h0, n + 1⟩ a w S ρ' F ∧ Fresh ⟨t, (n, .opq R []) :: h0, n + 1⟩ ρ' := by
  have hn : ρ n = none := hf n (Nat.le_refl n)
  have hle : Env.le ρ (fun k => if k = n then some (.bool false) else ρ k) := fun k u hk => by
    have : k ≠ n := fun e => by rw [e, hn] at hk; cases hk
    simp only [this, if_false]; exact hk
  refine ⟨_, hle, ⟨h.size, h.defers, fun k => (h.slot k).keep (Agree.refl _ _) (le_refl _) hle, fun k => ?_, h.dis, h.disS, h.own, h.ex, h.exS, h.old, h.inS, h.newS, fun k u hk hu => hle _ _ (h.pin k u hk hu), h.tab, ?_⟩, fun k hk => ?_⟩
  · simp only [lkG_cons]
    split
    · rename_i e
      subst e
      exact .inr ⟨.bool false, by simp, [], rfl, hp⟩
    · rename_i hkn
      rcases h.root k with h0 | ⟨u, r1, r2⟩
      · exact .inl h0
      · exact .inr ⟨u, r1, r2.keep (Agree.refl _ _) (Agree.refl _ _) (le_refl _) hle (le_refl _)⟩
  · obtain ⟨N, hN⟩ := h.fin
    exact ⟨N + n + 1, fun k hk => by
      have : k ≠ n := by omega
      simp only [this, if_false]
      exact hN k (by omega)⟩
  · have hk' : n + 1 ≤ k := hk
    have : k ≠ n := by omega
    simp only [this, if_false]
    exact hf k (by show n ≤ k; omega)
/-- A slot told in another way. -/
theorem t_leS (d : Nat) (sv' : SV) (hs : SVLe h0 [] (lkS t d) sv') : Conv g ⟨t, h0, n⟩ ⟨(d, sv') :: t, h0, n⟩ := fun a w S ρ F hr hf => ⟨S, ρ, F, hr.setSlot (SVLe.rep0 hs hr (hr.slot d)), hf⟩
/-- What was frozen at the beginning. -/
theorem t_zw : Conv g ⟨t, h0, n⟩ ⟨t, (n, .opq (zw g.S0) []) :: h0, n + 1⟩ := fun a w S ρ F hr hf => by
  obtain ⟨ρ', _, h1, h2⟩ := rel_new (R := zw g.S0) hr hf ⟨rfl, hr.inS⟩
  exact ⟨S, ρ', F, h1, h2⟩
theorem rel_rowT {z : Nat} {xs : List D} (h : Rel g ⟨t, h0, n⟩ a w S ρ F) (hg : lkG h0 r = .row z xs) : ∃ v, ρ r = some v ∧ Rep w S (.sl true z xs) v (F r) := by
  rcases h.root r with h1 | ⟨u, r1, r2⟩
  · simp only [hg] at h1; cases h1
  · simp only [hg] at r2
    exact ⟨u, r1, r2⟩
def slotsPlain : List (Nat × SV) → Prop
  | [] => True
  | (_, sv) :: t => sv.plain ∧ slotsPlain t
theorem slotsPlain_lk : ∀ {t : List (Nat × SV)}, slotsPlain t → ∀ i, (lkS t i).plain
  | [], _, i => trivial
  | (d, sv) :: t, h, i => by
    rw [lkS_cons]
    split
    · exact h.1
    · exact slotsPlain_lk h.2 i
end
end Go.Proofs.YtcmdfohamphndaaGreatDoor
end
section
set_option linter.unusedVariables false
set_option linter.unusedSimpArgs false
set_option maxRecDepth 100000
namespace Go.Proofs.YtcmdfohamphndaaGreatDoor
open Go Foot
theorem row_part {α : Type} {E : Enc α} {l : List α} {i o n : Nat} (hi : i < l.length) (ho : o + n ≤ E.z) : ((rows E l).drop (i * E.z + o)).take n = ((E.enc l[i]).drop o).take n := by
  have hl : (rows E (l.take i)).length = i * E.z := rows_pre rfl (Nat.le_of_lt hi)
  have he := E.len l[i]
  rw [rows_mid hi, List.append_assoc, List.drop_append, hl, List.drop_of_length_le (by omega), List.nil_append, show i * E.z + o - i * E.z = o by omega]
  rw [List.drop_append_of_le_length (by omega), List.take_append_of_le_length (by rw [List.length_drop]; omega)]
section
variable {P : Program} {g : Gh} {st : St} {dst : Option Tmp} {ty : TypeId} {pos : String} {after : Array Edge} {guard : Option (Nat × Bool)} {x y : Operand} {α : Type} {E : Enc α} {l : List α} {z r k i : Nat} {c0 : C}
theorem a_ldsE {T n : Nat} {ys : List D} {cs : List C} (o : Nat) (hc : opd st x = .one c0) (ht : tgt st c0 = some (r, k)) (hg : lkG st.h r = .row z (rows E l)) (hT : aggB P T n = true) (hz : E.z = z) (hk : k = i * z + o) (hn : 0 < n) (ho : o + n ≤ z) (hi : i < l.length) (hq : ((E.enc l[i]).drop o).take n = ys) (hno : D.noOwn.all ys) (hcs : ys.map C.d = cs) :
    Acts P g ⟨dst, .load T x, ty, pos, after, guard⟩ st (.agg cs) [] [] := by
  subst hz
  subst hk
  refine a_lds_row hc ht hg hT hn ?_ (by rw [row_part hi ho]; exact hq) hno hcs
  rw [rows_len]
  have : (i + 1) * E.z ≤ l.length * E.z := Nat.mul_le_mul_right _ hi
  rw [Nat.add_mul, Nat.one_mul] at this
  omega
theorem a_ldE {T : Nat} {c : D} (o : Nat) (hc : opd st x = .one c0) (ht : tgt st c0 = some (r, k)) (hg : lkG st.h r = .row z (rows E l)) (hT : cellB P T = true) (hz : E.z = z) (hk : k = i * z + o) (ho : o < z) (hi : i < l.length) (hq : (E.enc l[i])[o]? = some c) (hno : c.noOwn) :
    Acts P g ⟨dst, .load T x, ty, pos, after, guard⟩ st (.one (.d c)) [] [] := by
  subst hz
  subst hk
  refine a_ld_row hc ht hg hT ?_ hno
  have h := row_part (E := E) (l := l) (n := 1) hi ho
  have h1 := congrArg (fun q => q[0]?) h
  simp only [List.getElem?_take, List.getElem?_drop, Nat.add_zero, Nat.lt_add_one, if_true] at h1
  simpa [hq] using h1
end
end Go.Proofs.YtcmdfohamphndaaGreatDoor
end
section
set_option linter.unusedVariables false
set_option linter.unusedSimpArgs false
set_option maxRecDepth 100000
set_option maxHeartbeats 4000000
namespace Go.Proofs.YtcmdfohamphndaaGreatDoor
open Go Foot
theorem preB95 {p : Prop} (h : p := by first | with_reducible assumption | omega | (simp only [List.length_append, List.length_cons, List.length_nil, List.length_set, List.length_replicate, List.length_take, List.length_drop, List.length_tail, List.length_dropLast, List.length_reverse] at *; omega) | exact mem_len (by assumption) (by omega) | (with_reducible refine Int.le_trans (Int.ofNat_le.2 (trimR_len _)) ?_; simp only [List.length_cons, List.length_tail]; omega) | (exact (ruAt_ok (by assumption) (by assumption) (by assumption)).2.1) | (exact (ruAt_ok (by assumption) (by assumption) (by assumption)).2.1) | (have := vMach_bd (by assumption); omega) | (simp only [mC_ch, mC_tu]; omega) | (have := vTag_bd (by assumption); omega) | (have := (‹Gd _ _›).le; omega) | (exact tgHalts_no (by assumption)) | (exact tgHead (by assumption) (by assumption) (by assumption)) | (exact Int.le_trans (tgStep_gd (by assumption) (by assumption) (by assumption) (by assumption)).le (by decide)) | (exact vTag_r (by assumption)) | (with_reducible refine Int.le_trans (Int.ofNat_le.2 (pushL_len _ _)) ?_; simp only [List.length_dropLast]; omega) | exact ls_at (by assumption) (by omega) | exact pt_gd (by assumption) | exact lv_at (by assumption) (by omega) | exact pt_gd (lv_at (by assumption) (by omega)) | exact (ask_ok (by assumption)).1 | exact (ask_ok (by assumption)).2.1 | exact (ask_ok (by assumption)).2.2.1 | exact (ask_ok (by assumption)).2.2.2 | trivial) : p := h
theorem l00Min_ok (a b : Int) : Does Tryz.prog 163 [.one (int a), .one (int b)] [] (.one (int (min a b))) [] := by
  refine does_of (k := 0) Tryz.func163 rfl Tryz.ntmps163 rfl rfl fun w F0 S0 ρ0 => ?_
  dsimp only [argT, argH]
  repeat' first | (apply p3; (first | exact pu1 | exact puC); exact rfl) | refine cd ?_ | ((first | refine o_gs rfl rfl (fun hc => ?_) (fun hc => ?_) | refine g_cond rfl (fun hc => ?_) (fun hc => ?_)) <;> (try simp only [dcB] at hc) <;> (try first | contradiction | (exfalso; omega)))
  all_goals
    repeat refine cr ?_
    refine ends_id ?_
    refine endK [] (h2 := ?_) (h3 := ?_) (nd := ?_)
    all_goals (repeat' first | exact ce0 | refine ce ?_ | refine ce2 ?_ ?_ | exact SVLe.refl | refine ceb ?_)
    all_goals first | exact (show nodupB _ = true from rfl) | exact Or.inr rfl | (omega)
/-- What stands ahead of a move. -/
def midL (rc : Nat) (w mv : Int) (mvs : List Int) (K : Nat) : List Rule' := if mv = -1 then [] else if mv = 1 then if rc = 0 then [] else chQ w (-1) K else chMv w mvs K
theorem midL_3 (rc : Nat) (w : Int) (mvs : List Int) (K : Nat) (h : mvs = if rc = 0 then [1] else [-1, 1]) : midL rc w 1 mvs K ++ chQ w 1 K = chMv w mvs K := by
  unfold midL
  rw [if_neg (by decide), if_pos rfl, h]
  split
  · simp [chMv]
  · simp [chMv]
theorem midL_no (w : Int) (mvs : List Int) (K : Nat) : midL 0 w 1 mvs K = midL 0 w (-1) mvs K := by
  unfold midL; simp
theorem midL_yes {rc : Nat} (w : Int) (mvs : List Int) (K : Nat) (h : ¬ rc = 0) : midL rc w (-1) mvs K ++ chQ w (-1) K = midL rc w 1 mvs K := by
  unfold midL; simp [h]
theorem midL_end (rc : Nat) (w mv : Int) (mvs : List Int) (K : Nat) (h : 1 < mv) : midL rc w mv mvs K = chMv w mvs K := by
  unfold midL; rw [if_neg (by omega), if_neg (by omega)]
theorem midL_le {rc : Nat} {w mv : Int} {mvs : List Int} {K : Nat} (h2 : mvs.length ≤ 2) (h3 : K ≤ 1000) : (midL rc w mv mvs K).length ≤ 2000 := by
  unfold midL
  split
  · simp
  · split
    · split
      · simp
      · rw [chQ_len]; omega
    · exact chMv_le h2 h3
theorem l30Children_ok (m : Mach) (a : Int) (hm : vMach m = true) (h0 : 0 ≤ a) (h1 : a < m.ru.length) : Does Tryz.prog 102 [.one (.gv 0), .one (int a)] [.bx (maC m)] (.one (.gv 1)) [.bx (maC m), .row 3 (rows eMa ((chR m).map (chM m a)))] := by
  have hb := us_bd hm
  have hv := vMach_bd hm
  have hl := vMach_len hm
  have hml := chMvs_len m
  have hmv : chMvs m = if rcL m.ru = 0 then [1] else [-1, 1] := by unfold chMvs; rfl
  have hR : chR m = chW (chMvs m) (min (usY m + 1) m.sy).toNat (min (usS m + 1) m.st).toNat := by unfold chR; rfl
  have hW1 : 1 ≤ min (usY m + 1) m.sy ∧ min (usY m + 1) m.sy ≤ 6 := by omega
  have hK1 : 1 ≤ min (usS m + 1) m.st ∧ min (usS m + 1) m.st ≤ 1000 := by omega
  generalize hWW : min (usY m + 1) m.sy = W at *
  generalize hKK : min (usS m + 1) m.st = K at *
  generalize chMvs m = mvs at *
  refine does_of (k := 1) Tryz.func102 rfl Tryz.ntmps102 rfl rfl fun w F0 S0 ρ0 => ?_
  dsimp only [argT, argH]
  repeat' first | (apply n3; exact a_nilO eMa rfl; exact rfl) | (apply n3; (first | exact a_litE eMa [] rfl rfl rfl rfl rfl rfl rfl rfl | exact a_new (gb := .bx _) rfl | exact a_litE eMa [⟨_, _, _⟩] rfl rfl rfl rfl rfl rfl rfl rfl | exact a_appN (fP rfl) rfl rfl rfl nowR (by first | omega | (simp; omega)) (by decide) (by exact rfl)); exact rfl; refine dA ?_) | (apply p3; (first | exact pu1 | exact puL | exact a_ldE (E := eR) 0 rfl rfl rfl (fC rfl) rfl rfl (Nat.le_of_ble_eq_true rfl) bnd rfl (by first | exact trivial | exact rfl) | exact a_ldE (E := eR) 1 rfl rfl rfl (fC rfl) rfl rfl (Nat.le_of_ble_eq_true rfl) bnd rfl (by first | exact trivial | exact rfl) | exact a_ldE (E := eR) 2 rfl rfl rfl (fC rfl) rfl rfl (Nat.le_of_ble_eq_true rfl) bnd rfl (by first | exact trivial | exact rfl) | exact a_sub rfl rfl (by omega) (by omega) | exact puC | exact a_eqS rfl rfl rfl | exact a_ldsE (E := eR) 0 rfl rfl rfl (fA rfl) rfl rfl (Nat.le_of_ble_eq_true rfl) (Nat.le_of_ble_eq_true rfl) bnd rfl (by repeat (first | exact trivial | exact rfl | refine And.intro ?_ ?_)) rfl | exact a_add rfl rfl (by omega) (by omega) | exact puI); exact rfl) | refine cd ?_ | (apply s3; exact a_appE (fP rfl) rfl rfl rfl rfl nowR (by first | omega | (simp; omega)) (by decide) (by decide) (by exact rfl); exact rfl; exact rfl) | (apply w3; (first | exact a_st_bx rfl rfl rfl rfl (fN rfl rfl) (Nat.le_of_ble_eq_true rfl) rfl | exact a_stF (E := eR) ⟨_, _, _⟩ rfl rfl rfl rfl (fN rfl rfl) (Nat.le_of_ble_eq_true rfl) (Nat.le_of_ble_eq_true rfl) (by first | exact List.getElem?_set_self bnd | exact List.getElem?_eq_getElem bnd) (by (try dsimp only [setRow, List.set_cons_succ, List.set_cons_zero]); first | done | exact rfl) rfl | exact a_stE (E := eMa) ⟨_, _, _⟩ rfl rfl rfl rfl (fN rfl rfl) bnd (by exact rfl) | exact a_stE (E := eR) ⟨_, _, _⟩ rfl rfl rfl rfl (fN rfl rfl) bnd (by exact rfl)); exact rfl; refine dS ?_) | (apply c4 0; exact callK1 (θ := []) (hD := (l30Used_ok _ preB95)); exact rfl; exact rfl; exact rfl; refine dM ?_) | (apply c4 0; exact callK1 (θ := []) (hD := (l00Min_ok _ _)); exact rfl; exact rfl; exact rfl; refine dM ?_) | (apply c4 1; exact callK1 (θ := []) (hD := (l05Own_ok _ preB95)); exact rfl; exact rfl; exact rfl; refine dM ?_) | refine o_no rfl rfl rfl rfl ?_ | refine o_noN rfl rfl rfl ?_ | (apply py3; exact rfl; exact rfl; (first | exact pu1 | exact puL | exact a_ldE (E := eR) 0 rfl rfl rfl (fC rfl) rfl rfl (Nat.le_of_ble_eq_true rfl) bnd rfl (by first | exact trivial | exact rfl) | exact a_ldE (E := eR) 1 rfl rfl rfl (fC rfl) rfl rfl (Nat.le_of_ble_eq_true rfl) bnd rfl (by first | exact trivial | exact rfl) | exact a_ldE (E := eR) 2 rfl rfl rfl (fC rfl) rfl rfl (Nat.le_of_ble_eq_true rfl) bnd rfl (by first | exact trivial | exact rfl) | exact a_sub rfl rfl (by omega) (by omega) | exact puC | exact a_eqS rfl rfl rfl | exact a_ldsE (E := eR) 0 rfl rfl rfl (fA rfl) rfl rfl (Nat.le_of_ble_eq_true rfl) (Nat.le_of_ble_eq_true rfl) bnd rfl (by repeat (first | exact trivial | exact rfl | refine And.intro ?_ ?_)) rfl | exact a_add rfl rfl (by omega) (by omega) | exact puI); exact rfl; exact rfl) | (apply ny3; exact rfl; exact rfl; (first | exact a_nilO eMa rfl | exact a_litE eMa [] rfl rfl rfl rfl rfl rfl rfl rfl | exact a_new (gb := .bx _) rfl | exact a_litE eMa [⟨_, _, _⟩] rfl rfl rfl rfl rfl rfl rfl rfl | exact a_appN (fP rfl) rfl rfl rfl nowR (by first | omega | (simp; omega)) (by decide) (by exact rfl)); exact rfl; exact rfl) | (apply cy4 0; exact rfl; exact rfl; exact callK1 (θ := []) (hD := (l30Used_ok _ preB95)); exact rfl; exact rfl; exact rfl; exact rfl; refine dM ?_) | (apply cy4 0; exact rfl; exact rfl; exact callK1 (θ := []) (hD := (l00Min_ok _ _)); exact rfl; exact rfl; exact rfl; exact rfl; refine dM ?_) | (apply cy4 1; exact rfl; exact rfl; exact callK1 (θ := []) (hD := (l05Own_ok _ preB95)); exact rfl; exact rfl; exact rfl; exact rfl; refine dM ?_) | ((first | refine o_gs rfl rfl (fun hc => ?_) (fun hc => ?_) | refine g_cond rfl (fun hc => ?_) (fun hc => ?_)) <;> (try simp only [dcB] at hc) <;> (try first | contradiction | (exfalso; omega)))
  refine g_loop_id ?_
  refine loopK [0, 1, 4, 5, 6, 7, 8] [2] (fun y : Int × List Mach => 0 ≤ y.1 ∧ y.1 ≤ W ∧ y.2 = (chW mvs y.1.toNat K.toNat).map (chM m a)) (fun y => [(9, .one (int y.1))]) (fun y => [(2, .row 3 (rows eMa y.2))]) (fun y => (W - y.1).toNat) ((0 : Int), ([] : List Mach)) [0, 1, 2] (hI := ?_) (hr := ?_)
  · exact ⟨by simp, by dsimp only; omega, by simp [chW]⟩
  · rintro ⟨w, out⟩ ⟨k0, k1, k2⟩
    dsimp only [List.cons_append, List.nil_append] at *
    skip
    repeat' first | (apply n3; (first | exact a_new (gb := .bx _) rfl | exact a_litE eMa [⟨_, _, _⟩] rfl rfl rfl rfl rfl rfl rfl rfl | exact a_appN (fP rfl) rfl rfl rfl nowR (by first | omega | (simp; omega)) (by decide) (by exact rfl)); exact rfl; refine dA ?_) | (apply p3; (first | exact pu1 | exact puL | exact a_ldE (E := eR) 0 rfl rfl rfl (fC rfl) rfl rfl (Nat.le_of_ble_eq_true rfl) bnd rfl (by first | exact trivial | exact rfl) | exact a_ldE (E := eR) 1 rfl rfl rfl (fC rfl) rfl rfl (Nat.le_of_ble_eq_true rfl) bnd rfl (by first | exact trivial | exact rfl) | exact a_ldE (E := eR) 2 rfl rfl rfl (fC rfl) rfl rfl (Nat.le_of_ble_eq_true rfl) bnd rfl (by first | exact trivial | exact rfl) | exact a_sub rfl rfl (by omega) (by omega) | exact puC | exact a_eqS rfl rfl rfl | exact a_ldsE (E := eR) 0 rfl rfl rfl (fA rfl) rfl rfl (Nat.le_of_ble_eq_true rfl) (Nat.le_of_ble_eq_true rfl) bnd rfl (by repeat (first | exact trivial | exact rfl | refine And.intro ?_ ?_)) rfl | exact a_add rfl rfl (by omega) (by omega) | exact puI); exact rfl) | refine cd ?_ | (apply s3; exact a_appE (fP rfl) rfl rfl rfl rfl nowR (by first | omega | (simp; omega)) (by decide) (by decide) (by exact rfl); exact rfl; exact rfl) | (apply w3; (first | exact a_st_bx rfl rfl rfl rfl (fN rfl rfl) (Nat.le_of_ble_eq_true rfl) rfl | exact a_stF (E := eR) ⟨_, _, _⟩ rfl rfl rfl rfl (fN rfl rfl) (Nat.le_of_ble_eq_true rfl) (Nat.le_of_ble_eq_true rfl) (by first | exact List.getElem?_set_self bnd | exact List.getElem?_eq_getElem bnd) (by (try dsimp only [setRow, List.set_cons_succ, List.set_cons_zero]); first | done | exact rfl) rfl | exact a_stE (E := eMa) ⟨_, _, _⟩ rfl rfl rfl rfl (fN rfl rfl) bnd (by exact rfl) | exact a_stE (E := eR) ⟨_, _, _⟩ rfl rfl rfl rfl (fN rfl rfl) bnd (by exact rfl)); exact rfl; refine dS ?_) | (apply c4 0; exact callK1 (θ := []) (hD := (l00Min_ok _ _)); exact rfl; exact rfl; exact rfl; refine dM ?_) | (apply c4 1; exact callK1 (θ := []) (hD := (l05Own_ok _ preB95)); exact rfl; exact rfl; exact rfl; refine dM ?_) | refine o_no rfl rfl rfl rfl ?_ | refine o_noN rfl rfl rfl ?_ | (apply py3; exact rfl; exact rfl; (first | exact pu1 | exact puL | exact a_ldE (E := eR) 0 rfl rfl rfl (fC rfl) rfl rfl (Nat.le_of_ble_eq_true rfl) bnd rfl (by first | exact trivial | exact rfl) | exact a_ldE (E := eR) 1 rfl rfl rfl (fC rfl) rfl rfl (Nat.le_of_ble_eq_true rfl) bnd rfl (by first | exact trivial | exact rfl) | exact a_ldE (E := eR) 2 rfl rfl rfl (fC rfl) rfl rfl (Nat.le_of_ble_eq_true rfl) bnd rfl (by first | exact trivial | exact rfl) | exact a_sub rfl rfl (by omega) (by omega) | exact puC | exact a_eqS rfl rfl rfl | exact a_ldsE (E := eR) 0 rfl rfl rfl (fA rfl) rfl rfl (Nat.le_of_ble_eq_true rfl) (Nat.le_of_ble_eq_true rfl) bnd rfl (by repeat (first | exact trivial | exact rfl | refine And.intro ?_ ?_)) rfl | exact a_add rfl rfl (by omega) (by omega) | exact puI); exact rfl; exact rfl) | (apply ny3; exact rfl; exact rfl; (first | exact a_new (gb := .bx _) rfl | exact a_litE eMa [⟨_, _, _⟩] rfl rfl rfl rfl rfl rfl rfl rfl | exact a_appN (fP rfl) rfl rfl rfl nowR (by first | omega | (simp; omega)) (by decide) (by exact rfl)); exact rfl; exact rfl) | (apply cy4 0; exact rfl; exact rfl; exact callK1 (θ := []) (hD := (l00Min_ok _ _)); exact rfl; exact rfl; exact rfl; exact rfl; refine dM ?_) | (apply cy4 1; exact rfl; exact rfl; exact callK1 (θ := []) (hD := (l05Own_ok _ preB95)); exact rfl; exact rfl; exact rfl; exact rfl; refine dM ?_) | ((first | refine o_gs rfl rfl (fun hc => ?_) (fun hc => ?_) | refine g_cond rfl (fun hc => ?_) (fun hc => ?_)) <;> (try simp only [dcB] at hc) <;> (try first | contradiction | (exfalso; omega)))
    · refine g_loop_id ?_
      refine loopK [0, 1, 4, 5, 6, 7, 8, 9, 20, 21, 22, 23, 24, 25, 26, 27, 28] [2] (fun y : Int × List Mach => (y.1 = -1 ∨ y.1 = 1 ∨ y.1 = 3) ∧ y.2 = (chW mvs w.toNat K.toNat ++ midL (rcL m.ru) w y.1 mvs K.toNat).map (chM m a)) (fun y => [(10, .one (int y.1))]) (fun y => [(2, .row 3 (rows eMa y.2))]) (fun y => (3 - y.1).toNat) ((-1 : Int), out) [0, 1, 2] (hI := ?_) (hr := ?_)
      · exact ⟨by simp, by simp [midL, k2]⟩
      · rintro ⟨mv, out'⟩ ⟨j0, j1⟩
        dsimp only [List.cons_append, List.nil_append] at *
        skip
        repeat' first | (apply n3; (first | exact a_new (gb := .bx _) rfl | exact a_litE eMa [⟨_, _, _⟩] rfl rfl rfl rfl rfl rfl rfl rfl | exact a_appN (fP rfl) rfl rfl rfl nowR (by first | omega | (simp; omega)) (by decide) (by exact rfl)); exact rfl; refine dA ?_) | (apply p3; (first | exact pu1 | exact puL | exact puC | exact a_eqS rfl rfl rfl | exact a_ldE (E := eR) 0 rfl rfl rfl (fC rfl) rfl rfl (Nat.le_of_ble_eq_true rfl) bnd rfl (by first | exact trivial | exact rfl) | exact a_ldE (E := eR) 1 rfl rfl rfl (fC rfl) rfl rfl (Nat.le_of_ble_eq_true rfl) bnd rfl (by first | exact trivial | exact rfl) | exact a_ldE (E := eR) 2 rfl rfl rfl (fC rfl) rfl rfl (Nat.le_of_ble_eq_true rfl) bnd rfl (by first | exact trivial | exact rfl) | exact a_sub rfl rfl (by omega) (by omega) | exact a_ldsE (E := eR) 0 rfl rfl rfl (fA rfl) rfl rfl (Nat.le_of_ble_eq_true rfl) (Nat.le_of_ble_eq_true rfl) bnd rfl (by repeat (first | exact trivial | exact rfl | refine And.intro ?_ ?_)) rfl | exact a_add rfl rfl (by omega) (by omega) | exact puI); exact rfl) | refine cd ?_ | (apply s3; exact a_appE (fP rfl) rfl rfl rfl rfl nowR (by first | omega | (simp; omega)) (by decide) (by decide) (by exact rfl); exact rfl; exact rfl) | (apply w3; (first | exact a_st_bx rfl rfl rfl rfl (fN rfl rfl) (Nat.le_of_ble_eq_true rfl) rfl | exact a_stF (E := eR) ⟨_, _, _⟩ rfl rfl rfl rfl (fN rfl rfl) (Nat.le_of_ble_eq_true rfl) (Nat.le_of_ble_eq_true rfl) (by first | exact List.getElem?_set_self bnd | exact List.getElem?_eq_getElem bnd) (by (try dsimp only [setRow, List.set_cons_succ, List.set_cons_zero]); first | done | exact rfl) rfl | exact a_stE (E := eMa) ⟨_, _, _⟩ rfl rfl rfl rfl (fN rfl rfl) bnd (by exact rfl) | exact a_stE (E := eR) ⟨_, _, _⟩ rfl rfl rfl rfl (fN rfl rfl) bnd (by exact rfl)); exact rfl; refine dS ?_) | (apply c4 0; exact callK1 (θ := []) (hD := (l00Min_ok _ _)); exact rfl; exact rfl; exact rfl; refine dM ?_) | (apply c4 1; exact callK1 (θ := []) (hD := (l05Own_ok _ preB95)); exact rfl; exact rfl; exact rfl; refine dM ?_) | refine o_no rfl rfl rfl rfl ?_ | refine o_noN rfl rfl rfl ?_ | (apply py3; exact rfl; exact rfl; (first | exact pu1 | exact puL | exact puC | exact a_eqS rfl rfl rfl | exact a_ldE (E := eR) 0 rfl rfl rfl (fC rfl) rfl rfl (Nat.le_of_ble_eq_true rfl) bnd rfl (by first | exact trivial | exact rfl) | exact a_ldE (E := eR) 1 rfl rfl rfl (fC rfl) rfl rfl (Nat.le_of_ble_eq_true rfl) bnd rfl (by first | exact trivial | exact rfl) | exact a_ldE (E := eR) 2 rfl rfl rfl (fC rfl) rfl rfl (Nat.le_of_ble_eq_true rfl) bnd rfl (by first | exact trivial | exact rfl) | exact a_sub rfl rfl (by omega) (by omega) | exact a_ldsE (E := eR) 0 rfl rfl rfl (fA rfl) rfl rfl (Nat.le_of_ble_eq_true rfl) (Nat.le_of_ble_eq_true rfl) bnd rfl (by repeat (first | exact trivial | exact rfl | refine And.intro ?_ ?_)) rfl | exact a_add rfl rfl (by omega) (by omega) | exact puI); exact rfl; exact rfl) | (apply ny3; exact rfl; exact rfl; (first | exact a_new (gb := .bx _) rfl | exact a_litE eMa [⟨_, _, _⟩] rfl rfl rfl rfl rfl rfl rfl rfl | exact a_appN (fP rfl) rfl rfl rfl nowR (by first | omega | (simp; omega)) (by decide) (by exact rfl)); exact rfl; exact rfl) | (apply cy4 0; exact rfl; exact rfl; exact callK1 (θ := []) (hD := (l00Min_ok _ _)); exact rfl; exact rfl; exact rfl; exact rfl; refine dM ?_) | (apply cy4 1; exact rfl; exact rfl; exact callK1 (θ := []) (hD := (l05Own_ok _ preB95)); exact rfl; exact rfl; exact rfl; exact rfl; refine dM ?_) | ((first | refine o_gs rfl rfl (fun hc => ?_) (fun hc => ?_) | refine g_cond rfl (fun hc => ?_) (fun hc => ?_)) <;> (try simp only [dcB] at hc) <;> (try first | contradiction | (exfalso; omega)))
        · refine q_again (mv + 2, out') [0, 1, 2] (by exact stk) ?_ ?_
          · refine ⟨by dsimp only; omega, ?_⟩
            obtain rfl : mv = -1 := by omega
            have hz : rcL m.ru = 0 := by omega
            dsimp only
            rw [j1, hz, show (-1 : Int) + 2 = 1 by rfl, midL_no]
          · dsimp only; omega
        rotate_right
        · refine q_again (w + 1, out') [0, 1, 2] (by exact stk) ?_ ?_
          · refine ⟨by dsimp only; omega, by dsimp only; omega, ?_⟩
            dsimp only
            rw [chW_nextI k0, j1, midL_end _ w mv mvs K.toNat (by omega)]
          · dsimp only; omega
        all_goals
          refine g_loop_id ?_
          refine loopK [0, 1, 4, 5, 6, 7, 8, 9, 10, 20, 21, 22, 23, 24, 25, 26, 27, 28, 31, 32, 35, 36, 37, 38, 39, 40] [2] (fun y : Int × List Mach => 0 ≤ y.1 ∧ y.1 ≤ K ∧ y.2 = (chW mvs w.toNat K.toNat ++ midL (rcL m.ru) w mv mvs K.toNat ++ chQ w mv y.1.toNat).map (chM m a)) (fun y => [(11, .one (int y.1))]) (fun y => [(2, .row 3 (rows eMa y.2))]) (fun y => (K - y.1).toNat) ((0 : Int), out') [0, 1, 2] (hI := ?_) (hr := ?_)
          · exact ⟨by simp, by dsimp only; omega, by simp [chQ, j1]⟩
          · rintro ⟨q, o⟩ ⟨i0, i1, i2⟩
            dsimp only [List.cons_append, List.nil_append] at *
            skip
            repeat' first | (apply p3; (first | exact pu1 | exact puL | exact a_ldE (E := eR) 0 rfl rfl rfl (fC rfl) rfl rfl (Nat.le_of_ble_eq_true rfl) bnd rfl (by first | exact trivial | exact rfl) | exact a_ldE (E := eR) 1 rfl rfl rfl (fC rfl) rfl rfl (Nat.le_of_ble_eq_true rfl) bnd rfl (by first | exact trivial | exact rfl) | exact a_ldE (E := eR) 2 rfl rfl rfl (fC rfl) rfl rfl (Nat.le_of_ble_eq_true rfl) bnd rfl (by first | exact trivial | exact rfl) | exact a_sub rfl rfl (by omega) (by omega) | exact puC | exact a_add rfl rfl (by omega) (by omega)); exact rfl) | refine cdn ?_ | refine g_reg (id := 11) ?_ | refine g_reg (id := 8) ?_ | refine g_reg (id := 5) ?_ | refine g_reg (id := 16) ?_ | (apply c4 0; exact callK1 (θ := []) (hD := (l00Min_ok _ _)); exact rfl; exact rfl; exact rfl; refine dM ?_) | ((first | refine o_gs rfl rfl (fun hc => ?_) (fun hc => ?_) | refine g_cond rfl (fun hc => ?_) (fun hc => ?_)) <;> (try simp only [dcB] at hc) <;> (try first | contradiction | (exfalso; omega)))
            · have l1 := chW_le (mvs := mvs) (W := w.toNat) (K := K.toNat) (by omega) (by omega) (by omega)
              have l2 := midL_le (rc := rcL m.ru) (w := w) (mv := mv) (mvs := mvs) (K := K.toNat) (by omega) (by omega)
              have l3 : (o.length : Int) ≤ 16000 := by
                rw [i2, List.length_map, List.length_append, List.length_append, chQ_len]
                omega
              repeat' first | (apply n3; exact a_new (gb := .bx _) rfl; exact rfl; refine dA ?_) | (apply p3; (first | exact pu1 | exact puL | exact a_ldE (E := eR) 0 rfl rfl rfl (fC rfl) rfl rfl (Nat.le_of_ble_eq_true rfl) bnd rfl (by first | exact trivial | exact rfl) | exact a_ldE (E := eR) 1 rfl rfl rfl (fC rfl) rfl rfl (Nat.le_of_ble_eq_true rfl) bnd rfl (by first | exact trivial | exact rfl) | exact a_ldE (E := eR) 2 rfl rfl rfl (fC rfl) rfl rfl (Nat.le_of_ble_eq_true rfl) bnd rfl (by first | exact trivial | exact rfl) | exact a_sub rfl rfl (by omega) (by omega) | exact puC | exact a_add rfl rfl (by omega) (by omega) | exact puI); exact rfl) | refine cdn ?_ | refine g_reg (id := 11) ?_ | refine g_reg (id := 13) ?_ | refine g_reg (id := 14) ?_ | refine g_reg (id := 8) ?_ | refine g_reg (id := 5) ?_ | refine g_reg (id := 16) ?_ | (apply w3; (first | exact a_st_bx rfl rfl rfl rfl (fN rfl rfl) (Nat.le_of_ble_eq_true rfl) rfl | exact a_stF (E := eR) ⟨_, _, _⟩ rfl rfl rfl rfl (fN rfl rfl) (Nat.le_of_ble_eq_true rfl) (Nat.le_of_ble_eq_true rfl) (by first | exact List.getElem?_set_self bnd | exact List.getElem?_eq_getElem bnd) (by (try dsimp only [setRow, List.set_cons_succ, List.set_cons_zero]); first | done | exact rfl) rfl | exact a_stE (E := eMa) ⟨_, _, _⟩ rfl rfl rfl rfl (fN rfl rfl) bnd (by exact rfl) | exact a_stE (E := eR) ⟨_, _, _⟩ rfl rfl rfl rfl (fN rfl rfl) bnd (by exact rfl)); exact rfl; refine dS ?_) | (apply c4 0; exact callK1 (θ := []) (hD := (l00Min_ok _ _)); exact rfl; exact rfl; exact rfl; refine dM ?_) | (apply c4 1; exact callK1 (θ := []) (hD := (l05Own_ok _ preB95)); exact rfl; exact rfl; exact rfl; refine dM ?_) | ((first | refine o_gs rfl rfl (fun hc => ?_) (fun hc => ?_) | refine g_cond rfl (fun hc => ?_) (fun hc => ?_)) <;> (try simp only [dcB] at hc) <;> (try first | contradiction | (exfalso; omega)))
              refine g_turn (t_freeze (i := 3) rfl nowR) ?_
              repeat' first | (apply n3; (first | exact a_new (gb := .bx _) rfl | exact a_litE eMa [⟨_, _, _⟩] rfl rfl rfl rfl rfl rfl rfl rfl | exact a_appN (fP rfl) rfl rfl rfl nowR (by first | omega | (simp; omega)) (by decide) (by exact rfl)); exact rfl; refine dA ?_) | (apply p3; (first | exact pu1 | exact puL | exact a_ldE (E := eR) 0 rfl rfl rfl (fC rfl) rfl rfl (Nat.le_of_ble_eq_true rfl) bnd rfl (by first | exact trivial | exact rfl) | exact a_ldE (E := eR) 1 rfl rfl rfl (fC rfl) rfl rfl (Nat.le_of_ble_eq_true rfl) bnd rfl (by first | exact trivial | exact rfl) | exact a_ldE (E := eR) 2 rfl rfl rfl (fC rfl) rfl rfl (Nat.le_of_ble_eq_true rfl) bnd rfl (by first | exact trivial | exact rfl) | exact a_sub rfl rfl (by omega) (by omega) | exact puC | exact a_ldsE (E := eR) 0 rfl rfl rfl (fA rfl) rfl rfl (Nat.le_of_ble_eq_true rfl) (Nat.le_of_ble_eq_true rfl) bnd rfl (by repeat (first | exact trivial | exact rfl | refine And.intro ?_ ?_)) rfl | exact a_add rfl rfl (by omega) (by omega) | exact puI); exact rfl) | refine cd ?_ | (apply s3; exact a_appE (fP rfl) rfl rfl rfl rfl nowR (by first | omega | (simp; omega)) (by decide) (by decide) (by exact rfl); exact rfl; exact rfl) | (apply w3; (first | exact a_st_bx rfl rfl rfl rfl (fN rfl rfl) (Nat.le_of_ble_eq_true rfl) rfl | exact a_stF (E := eR) ⟨_, _, _⟩ rfl rfl rfl rfl (fN rfl rfl) (Nat.le_of_ble_eq_true rfl) (Nat.le_of_ble_eq_true rfl) (by first | exact List.getElem?_set_self bnd | exact List.getElem?_eq_getElem bnd) (by (try dsimp only [setRow, List.set_cons_succ, List.set_cons_zero]); first | done | exact rfl) rfl | exact a_stE (E := eMa) ⟨_, _, _⟩ rfl rfl rfl rfl (fN rfl rfl) bnd (by exact rfl) | exact a_stE (E := eR) ⟨_, _, _⟩ rfl rfl rfl rfl (fN rfl rfl) bnd (by exact rfl)); exact rfl; refine dS ?_) | (apply c4 0; exact callK1 (θ := []) (hD := (l00Min_ok _ _)); exact rfl; exact rfl; exact rfl; refine dM ?_) | (apply c4 1; exact callK1 (θ := []) (hD := (l05Own_ok _ preB95)); exact rfl; exact rfl; exact rfl; refine dM ?_) | ((first | refine o_gs rfl rfl (fun hc => ?_) (fun hc => ?_) | refine g_cond rfl (fun hc => ?_) (fun hc => ?_)) <;> (try simp only [dcB] at hc) <;> (try first | contradiction | (exfalso; omega)))
              first | refine g_conv (t_leS 63 (.agg [int m.sy, int m.st, shR (m.ru.set a.toNat ⟨w, mv, q⟩)]) (by (repeat (first | exact SVLe.refl | refine SVLe.one ?_ | refine SVLe.agg ?_ | exact CsLe.nil | refine CsLe.cons ?_ ?_ | exact CLe.refl | exact CLe.sh rfl | exact CLe.nil (by decide))); first | done | fail)) ?_ | refine o_conv (t_leS 63 (.agg [int m.sy, int m.st, shR (m.ru.set a.toNat ⟨w, mv, q⟩)]) (by (repeat (first | exact SVLe.refl | refine SVLe.one ?_ | refine SVLe.agg ?_ | exact CsLe.nil | refine CsLe.cons ?_ ?_ | exact CLe.refl | exact CLe.sh rfl | exact CLe.nil (by decide))); first | done | fail)) ?_
              repeat' first | (apply n3; (first | exact a_new (gb := .bx _) rfl | exact a_litE eMa [⟨_, _, _⟩] rfl rfl rfl rfl rfl rfl rfl rfl | exact a_appN (fP rfl) rfl rfl rfl nowR (by first | omega | (simp; omega)) (by decide) (by exact rfl)); exact rfl; refine dA ?_) | (apply p3; (first | exact pu1 | exact puL | exact a_ldE (E := eR) 0 rfl rfl rfl (fC rfl) rfl rfl (Nat.le_of_ble_eq_true rfl) bnd rfl (by first | exact trivial | exact rfl) | exact a_ldE (E := eR) 1 rfl rfl rfl (fC rfl) rfl rfl (Nat.le_of_ble_eq_true rfl) bnd rfl (by first | exact trivial | exact rfl) | exact a_ldE (E := eR) 2 rfl rfl rfl (fC rfl) rfl rfl (Nat.le_of_ble_eq_true rfl) bnd rfl (by first | exact trivial | exact rfl) | exact a_sub rfl rfl (by omega) (by omega) | exact puC | exact a_ldsE (E := eR) 0 rfl rfl rfl (fA rfl) rfl rfl (Nat.le_of_ble_eq_true rfl) (Nat.le_of_ble_eq_true rfl) bnd rfl (by repeat (first | exact trivial | exact rfl | refine And.intro ?_ ?_)) rfl | exact a_add rfl rfl (by omega) (by omega) | exact puI); exact rfl) | refine cd ?_ | (apply s3; exact a_appE (fP rfl) rfl rfl rfl rfl nowR (by first | omega | (simp; omega)) (by decide) (by decide) (by exact rfl); exact rfl; exact rfl) | (apply w3; (first | exact a_st_bx rfl rfl rfl rfl (fN rfl rfl) (Nat.le_of_ble_eq_true rfl) rfl | exact a_stF (E := eR) ⟨_, _, _⟩ rfl rfl rfl rfl (fN rfl rfl) (Nat.le_of_ble_eq_true rfl) (Nat.le_of_ble_eq_true rfl) (by first | exact List.getElem?_set_self bnd | exact List.getElem?_eq_getElem bnd) (by (try dsimp only [setRow, List.set_cons_succ, List.set_cons_zero]); first | done | exact rfl) rfl | exact a_stE (E := eMa) ⟨_, _, _⟩ rfl rfl rfl rfl (fN rfl rfl) bnd (by exact rfl) | exact a_stE (E := eR) ⟨_, _, _⟩ rfl rfl rfl rfl (fN rfl rfl) bnd (by exact rfl)); exact rfl; refine dS ?_) | (apply c4 0; exact callK1 (θ := []) (hD := (l00Min_ok _ _)); exact rfl; exact rfl; exact rfl; refine dM ?_) | (apply c4 1; exact callK1 (θ := []) (hD := (l05Own_ok _ preB95)); exact rfl; exact rfl; exact rfl; refine dM ?_) | ((first | refine o_gs rfl rfl (fun hc => ?_) (fun hc => ?_) | refine g_cond rfl (fun hc => ?_) (fun hc => ?_)) <;> (try simp only [dcB] at hc) <;> (try first | contradiction | (exfalso; omega)))
              (apply n3; exact a_litE eMa [⟨m.sy, m.st, m.ru.set a.toNat ⟨w, mv, q⟩⟩] rfl rfl rfl rfl rfl rfl rfl rfl; exact rfl; refine dA ?_)
              repeat' first | (apply n3; (first | exact a_new (gb := .bx _) rfl | exact a_litE eMa [⟨_, _, _⟩] rfl rfl rfl rfl rfl rfl rfl rfl | exact a_appN (fP rfl) rfl rfl rfl nowR (by first | omega | (simp; omega)) (by decide) (by exact rfl)); exact rfl; refine dA ?_) | (apply p3; (first | exact pu1 | exact puL | exact a_ldE (E := eR) 0 rfl rfl rfl (fC rfl) rfl rfl (Nat.le_of_ble_eq_true rfl) bnd rfl (by first | exact trivial | exact rfl) | exact a_ldE (E := eR) 1 rfl rfl rfl (fC rfl) rfl rfl (Nat.le_of_ble_eq_true rfl) bnd rfl (by first | exact trivial | exact rfl) | exact a_ldE (E := eR) 2 rfl rfl rfl (fC rfl) rfl rfl (Nat.le_of_ble_eq_true rfl) bnd rfl (by first | exact trivial | exact rfl) | exact a_sub rfl rfl (by omega) (by omega) | exact puC | exact a_ldsE (E := eR) 0 rfl rfl rfl (fA rfl) rfl rfl (Nat.le_of_ble_eq_true rfl) (Nat.le_of_ble_eq_true rfl) bnd rfl (by repeat (first | exact trivial | exact rfl | refine And.intro ?_ ?_)) rfl | exact a_add rfl rfl (by omega) (by omega) | exact puI); exact rfl) | refine cd ?_ | (apply s3; exact a_appE (fP rfl) rfl rfl rfl rfl nowR (by first | omega | (simp; omega)) (by decide) (by decide) (by exact rfl); exact rfl; exact rfl) | (apply w3; (first | exact a_st_bx rfl rfl rfl rfl (fN rfl rfl) (Nat.le_of_ble_eq_true rfl) rfl | exact a_stF (E := eR) ⟨_, _, _⟩ rfl rfl rfl rfl (fN rfl rfl) (Nat.le_of_ble_eq_true rfl) (Nat.le_of_ble_eq_true rfl) (by first | exact List.getElem?_set_self bnd | exact List.getElem?_eq_getElem bnd) (by (try dsimp only [setRow, List.set_cons_succ, List.set_cons_zero]); first | done | exact rfl) rfl | exact a_stE (E := eMa) ⟨_, _, _⟩ rfl rfl rfl rfl (fN rfl rfl) bnd (by exact rfl) | exact a_stE (E := eR) ⟨_, _, _⟩ rfl rfl rfl rfl (fN rfl rfl) bnd (by exact rfl)); exact rfl; refine dS ?_) | (apply c4 0; exact callK1 (θ := []) (hD := (l00Min_ok _ _)); exact rfl; exact rfl; exact rfl; refine dM ?_) | (apply c4 1; exact callK1 (θ := []) (hD := (l05Own_ok _ preB95)); exact rfl; exact rfl; exact rfl; refine dM ?_) | ((first | refine o_gs rfl rfl (fun hc => ?_) (fun hc => ?_) | refine g_cond rfl (fun hc => ?_) (fun hc => ?_)) <;> (try simp only [dcB] at hc) <;> (try first | contradiction | (exfalso; omega)))
              refine q_again (q + 1, _) [0, 1, 6] (by exact stk) ?_ ?_
              · refine ⟨by dsimp only; omega, by dsimp only; omega, ?_⟩
                dsimp only
                rw [chQ_nextI i0, ← List.append_assoc, List.map_append, ← i2]
                unfold chM
                rfl
              · dsimp only; omega
            · refine q_again (mv + 2, o) [0, 1, 2] (by exact stk) ?_ ?_
              · refine ⟨by dsimp only; omega, ?_⟩
                dsimp only
                rw [i2, show q = K by omega, List.append_assoc]
                have hmv1 : mv = -1 ∨ mv = 1 := by omega
                rcases hmv1 with e | e
                · rw [e, midL_yes w mvs K.toNat (by omega), show (-1 : Int) + 2 = 1 by rfl]
                · rw [e, midL_3 _ w mvs K.toNat hmv, midL_end _ w (1 + 2) mvs K.toNat (by decide)]
              · dsimp only; omega
    · have e : (chR m).map (chM m a) = out := by rw [hR, k2, show w = W by omega]
      rw [e]
      repeat' first | (apply n3; (first | exact a_new (gb := .bx _) rfl | exact a_litE eMa [⟨_, _, _⟩] rfl rfl rfl rfl rfl rfl rfl rfl | exact a_appN (fP rfl) rfl rfl rfl nowR (by first | omega | (simp; omega)) (by decide) (by exact rfl)); exact rfl; refine dA ?_) | (apply p3; (first | exact pu1 | exact puL | exact a_ldE (E := eR) 0 rfl rfl rfl (fC rfl) rfl rfl (Nat.le_of_ble_eq_true rfl) bnd rfl (by first | exact trivial | exact rfl) | exact a_ldE (E := eR) 1 rfl rfl rfl (fC rfl) rfl rfl (Nat.le_of_ble_eq_true rfl) bnd rfl (by first | exact trivial | exact rfl) | exact a_ldE (E := eR) 2 rfl rfl rfl (fC rfl) rfl rfl (Nat.le_of_ble_eq_true rfl) bnd rfl (by first | exact trivial | exact rfl) | exact a_sub rfl rfl (by omega) (by omega) | exact puC | exact a_ldsE (E := eR) 0 rfl rfl rfl (fA rfl) rfl rfl (Nat.le_of_ble_eq_true rfl) (Nat.le_of_ble_eq_true rfl) bnd rfl (by repeat (first | exact trivial | exact rfl | refine And.intro ?_ ?_)) rfl | exact a_add rfl rfl (by omega) (by omega) | exact puI); exact rfl) | refine cd ?_ | (apply s3; exact a_appE (fP rfl) rfl rfl rfl rfl nowR (by first | omega | (simp; omega)) (by decide) (by decide) (by exact rfl); exact rfl; exact rfl) | (apply w3; (first | exact a_st_bx rfl rfl rfl rfl (fN rfl rfl) (Nat.le_of_ble_eq_true rfl) rfl | exact a_stF (E := eR) ⟨_, _, _⟩ rfl rfl rfl rfl (fN rfl rfl) (Nat.le_of_ble_eq_true rfl) (Nat.le_of_ble_eq_true rfl) (by first | exact List.getElem?_set_self bnd | exact List.getElem?_eq_getElem bnd) (by (try dsimp only [setRow, List.set_cons_succ, List.set_cons_zero]); first | done | exact rfl) rfl | exact a_stE (E := eMa) ⟨_, _, _⟩ rfl rfl rfl rfl (fN rfl rfl) bnd (by exact rfl) | exact a_stE (E := eR) ⟨_, _, _⟩ rfl rfl rfl rfl (fN rfl rfl) bnd (by exact rfl)); exact rfl; refine dS ?_) | (apply c4 0; exact callK1 (θ := []) (hD := (l00Min_ok _ _)); exact rfl; exact rfl; exact rfl; refine dM ?_) | (apply c4 1; exact callK1 (θ := []) (hD := (l05Own_ok _ preB95)); exact rfl; exact rfl; exact rfl; refine dM ?_) | ((first | refine o_gs rfl rfl (fun hc => ?_) (fun hc => ?_) | refine g_cond rfl (fun hc => ?_) (fun hc => ?_)) <;> (try simp only [dcB] at hc) <;> (try first | contradiction | (exfalso; omega)))
      repeat refine cr ?_
      refine ends_id ?_
      refine endK [?_] (h2 := ?_) (h3 := ?_) (nd := ?_)
      rotate_left 1
      all_goals (repeat' first | exact ce0 | refine ce ?_ | refine ce2 ?_ ?_ | (refine Or.inr (bx_eq rfl rfl ?_); (try dsimp only [C.ren, C.ren.all]); (try exact rfl)) | exact SVLe.refl | refine ceb ?_)
      all_goals first | exact (show nodupB _ = true from rfl) | exact Or.inr rfl | (rfl)
/-- No machine. -/
abbrev mach0 : Mach := ⟨0, 0, []⟩
theorem l30Down_ok (m : Mach) (k B : Int) (hm : vMach m = true) (h0 : 0 ≤ B) (h1 : B ≤ 1000000) : Does Tryz.prog 136 [.one (.gv 0), .one (int k), .one (int B)] [.bx (maC m)] (.tup [(true, maC ((stp B m k).getD mach0)), (false, [boo (stp B m k).isSome])]) [.bx (maC m)] := by
  have hr := chR_len hm
  have ha := ndA_bd (B := B) hm
  have hl : (((chR m).map (chM m (ndA m B))).length : Int) = (chR m).length := by rw [List.length_map]
  by_cases hs : ndS m B = 0 ∧ 0 ≤ k ∧ k < (chR m).length
  · have e : stp B m k = some (chM m (ndA m B) ((chR m).getD k.toNat noR)) := by unfold stp; rw [if_pos hs]
    have e2 : ((chR m).map (chM m (ndA m B)))[k.toNat]'(by rw [List.length_map]; omega) = chM m (ndA m B) ((chR m).getD k.toNat noR) := by
      rw [List.getElem_map, List.getD_eq_getElem?_getD, List.getElem?_eq_getElem (by omega)]
      rfl
    rw [e]
    dsimp only [Option.getD_some, Option.isSome_some]
    rw [← e2]
    refine does_of (k := 1) Tryz.func136 rfl Tryz.ntmps136 rfl rfl fun w F0 S0 ρ0 => ?_
    dsimp only [argT, argH]
    repeat' first | (apply n3; exact a_new (gb := .bx _) rfl; exact rfl; refine dA ?_) | (apply p3; (first | exact pu1 | exact puL | exact a_ne rfl rfl | exact a_neS rfl rfl rfl | exact puN | exact a_len_str rfl (fT rfl) | exact a_sub rfl rfl (by omega) (by omega) | exact a_ldE (E := eMa) 0 rfl rfl rfl (fC rfl) rfl rfl (Nat.le_of_ble_eq_true rfl) bnd rfl (by first | exact trivial | exact rfl) | exact a_ldsE (E := eMa) 0 rfl rfl rfl (fA rfl) rfl rfl (Nat.le_of_ble_eq_true rfl) (Nat.le_of_ble_eq_true rfl) bnd rfl (by repeat (first | exact trivial | exact rfl | refine And.intro ?_ ?_)) rfl | exact puI); exact rfl) | refine cd ?_ | (apply w3; (first | exact a_st_bx rfl rfl rfl rfl (fN rfl rfl) (Nat.le_of_ble_eq_true rfl) rfl | exact a_stE (E := eMa) ⟨_, _, _⟩ rfl rfl rfl rfl (fN rfl rfl) bnd (by exact rfl)); exact rfl; refine dS ?_) | (apply c4 0; exact callK1 (θ := []) (hD := (l30Status_ok _ _ preB95 preB95 preB95)); exact rfl; exact rfl; exact rfl; refine dM ?_) | (apply c4 1; exact callK0 (θ := [_]) (hD := (l30Children_ok _ _ preB95 preB95 preB95)); exact rfl; exact rfl; exact rfl; refine dM ?_) | (apply c4 0; exact callK1 (θ := []) (hD := (l00In_ok _ _ _)); exact rfl; exact rfl; exact rfl; refine dM ?_) | ((first | refine o_gs rfl rfl (fun hc => ?_) (fun hc => ?_) | refine g_cond rfl (fun hc => ?_) (fun hc => ?_)) <;> (try simp only [dcB] at hc) <;> (try first | contradiction | (exfalso; omega)))
    repeat refine cr ?_
    refine ends_id ?_
    refine endK [] (h2 := ?_) (h3 := ?_) (nd := ?_)
    all_goals (repeat' first | exact ce0 | refine ce ?_ | refine ce2 ?_ ?_ | (refine Or.inr (bx_eq rfl rfl ?_); (try dsimp only [C.ren, C.ren.all]); (try exact rfl)) | exact SVLe.refl | refine ceb ?_)
    all_goals first | exact (show nodupB _ = true from rfl) | exact Or.inr rfl | (rfl)
  · have e : stp B m k = none := by unfold stp; rw [if_neg hs]
    rw [e]
    dsimp only [Option.getD_none, Option.isSome_none]
    refine does_of (k := 1) Tryz.func136 rfl Tryz.ntmps136 rfl rfl fun w F0 S0 ρ0 => ?_
    dsimp only [argT, argH]
    repeat' first | (apply n3; exact a_new (gb := .bx _) rfl; exact rfl; refine dA ?_) | (apply p3; (first | exact pu1 | exact puL | exact a_ne rfl rfl | exact a_neS rfl rfl rfl | exact puN | exact a_len_str rfl (fT rfl) | exact a_sub rfl rfl (by omega) (by omega) | exact a_ldE (E := eMa) 0 rfl rfl rfl (fC rfl) rfl rfl (Nat.le_of_ble_eq_true rfl) bnd rfl (by first | exact trivial | exact rfl) | exact a_ldsE (E := eMa) 0 rfl rfl rfl (fA rfl) rfl rfl (Nat.le_of_ble_eq_true rfl) (Nat.le_of_ble_eq_true rfl) bnd rfl (by repeat (first | exact trivial | exact rfl | refine And.intro ?_ ?_)) rfl | exact puI); exact rfl) | refine cd ?_ | (apply w3; (first | exact a_st_bx rfl rfl rfl rfl (fN rfl rfl) (Nat.le_of_ble_eq_true rfl) rfl | exact a_stE (E := eMa) ⟨_, _, _⟩ rfl rfl rfl rfl (fN rfl rfl) bnd (by exact rfl)); exact rfl; refine dS ?_) | (apply c4 0; exact callK1 (θ := []) (hD := (l30Status_ok _ _ preB95 preB95 preB95)); exact rfl; exact rfl; exact rfl; refine dM ?_) | (apply c4 1; exact callK0 (θ := [_]) (hD := (l30Children_ok _ _ preB95 preB95 preB95)); exact rfl; exact rfl; exact rfl; refine dM ?_) | (apply c4 0; exact callK1 (θ := []) (hD := (l00In_ok _ _ _)); exact rfl; exact rfl; exact rfl; refine dM ?_) | ((first | refine o_gs rfl rfl (fun hc => ?_) (fun hc => ?_) | refine g_cond rfl (fun hc => ?_) (fun hc => ?_)) <;> (try simp only [dcB] at hc) <;> (try first | contradiction | (exfalso; omega)))
    all_goals
      repeat refine cr ?_
      refine ends_id ?_
      refine endK [] (h2 := ?_) (h3 := ?_) (nd := ?_)
      all_goals (repeat' first | exact ce0 | refine ce ?_ | refine ce2 ?_ ?_ | (refine Or.inr (bx_eq rfl rfl ?_); (try dsimp only [C.ren, C.ren.all]); (try exact rfl)) | exact SVLe.refl | refine ceb ?_)
      all_goals first | exact (show nodupB _ = true from rfl) | exact Or.inr rfl | (rfl)
end Go.Proofs.YtcmdfohamphndaaGreatDoor
end
section
set_option linter.unusedVariables false
set_option linter.unusedSimpArgs false
set_option maxRecDepth 100000
set_option maxHeartbeats 4000000
namespace Go.Proofs.YtcmdfohamphndaaGreatDoor
open Go Foot
theorem preB96 {p : Prop} (h : p := by first | with_reducible assumption | omega | (simp only [List.length_append, List.length_cons, List.length_nil, List.length_set, List.length_replicate, List.length_take, List.length_drop, List.length_tail, List.length_dropLast, List.length_reverse] at *; omega) | exact mem_len (by assumption) (by omega) | (with_reducible refine Int.le_trans (Int.ofNat_le.2 (trimR_len _)) ?_; simp only [List.length_cons, List.length_tail]; omega) | (exact (ruAt_ok (by assumption) (by assumption) (by assumption)).2.1) | (exact (ruAt_ok (by assumption) (by assumption) (by assumption)).2.1) | (have := vMach_bd (by assumption); omega) | (simp only [mC_ch, mC_tu]; omega) | (have := vTag_bd (by assumption); omega) | (have := (‹Gd _ _›).le; omega) | (exact tgHalts_no (by assumption)) | (exact tgHead (by assumption) (by assumption) (by assumption)) | (exact Int.le_trans (tgStep_gd (by assumption) (by assumption) (by assumption) (by assumption)).le (by decide)) | (exact vTag_r (by assumption)) | (with_reducible refine Int.le_trans (Int.ofNat_le.2 (pushL_len _ _)) ?_; simp only [List.length_dropLast]; omega) | exact ls_at (by assumption) (by omega) | exact pt_gd (by assumption) | exact lv_at (by assumption) (by omega) | exact pt_gd (lv_at (by assumption) (by omega)) | exact (ask_ok (by assumption)).1 | exact (ask_ok (by assumption)).2.1 | exact (ask_ok (by assumption)).2.2.1 | exact (ask_ok (by assumption)).2.2.2 | trivial) : p := h
theorem l30Size_ok (s y : Int) : Does Tryz.prog 134 [.one (int s), .one (int y)] [] (.one (boo (inB s 1 6 && inB y 2 6))) [] := by
  refine does_of (k := 0) Tryz.func134 rfl Tryz.ntmps134 rfl rfl fun w F0 S0 ρ0 => ?_
  dsimp only [argT, argH]
  repeat' first | (apply p3; exact pu1; exact rfl) | refine cd ?_ | (apply c4 0; exact callK1 (θ := []) (hD := (l00In_ok _ _ _)); exact rfl; exact rfl; exact rfl; refine dM ?_) | refine o_no rfl rfl rfl rfl ?_ | refine o_noN rfl rfl rfl ?_ | (apply py3; exact rfl; exact rfl; exact pu1; exact rfl; exact rfl) | (apply cy4 0; exact rfl; exact rfl; exact callK1 (θ := []) (hD := (l00In_ok _ _ _)); exact rfl; exact rfl; exact rfl; exact rfl; refine dM ?_) | ((first | refine o_gs rfl rfl (fun hc => ?_) (fun hc => ?_) | refine g_cond rfl (fun hc => ?_) (fun hc => ?_)) <;> (try simp only [dcB] at hc) <;> (try first | contradiction | (exfalso; omega)))
  all_goals
    repeat refine cr ?_
    refine ends_id ?_
    refine endK [] (h2 := ?_) (h3 := ?_) (nd := ?_)
    all_goals (repeat' first | exact ce0 | refine ce ?_ | refine ce2 ?_ ?_ | exact SVLe.refl | refine ceb ?_)
    all_goals first | exact (show nodupB _ = true from rfl) | exact Or.inr rfl | ((simp_all <;> omega))
@[irreducible] def askT (s y B : Int) : Int := if inB s 1 6 = true ∧ inB y 2 6 = true ∧ inB B 1 20000 = true then 0 else 2
theorem l30Ask_ok (s y B : Int) : Does Tryz.prog 67 [.one (int s), .one (int y), .one (int B)] [] (.one (int (askT s y B))) [] := by
  have e : askT s y B = if inB s 1 6 = true ∧ inB y 2 6 = true ∧ inB B 1 20000 = true then 0 else 2 := by unfold askT; rfl
  rw [e]
  refine does_of (k := 0) Tryz.func67 rfl Tryz.ntmps67 rfl rfl fun w F0 S0 ρ0 => ?_
  dsimp only [argT, argH]
  repeat' first | (apply p3; exact pu1; exact rfl) | refine cd ?_ | (apply c4 0; exact callK1 (θ := []) (hD := (l30Size_ok _ _)); exact rfl; exact rfl; exact rfl; refine dM ?_) | (apply c4 0; exact callK1 (θ := []) (hD := (l05Budget_ok _)); exact rfl; exact rfl; exact rfl; refine dM ?_) | refine o_no rfl rfl rfl rfl ?_ | refine o_noN rfl rfl rfl ?_ | (apply py3; exact rfl; exact rfl; exact pu1; exact rfl; exact rfl) | (apply cy4 0; exact rfl; exact rfl; exact callK1 (θ := []) (hD := (l30Size_ok _ _)); exact rfl; exact rfl; exact rfl; exact rfl; refine dM ?_) | (apply cy4 0; exact rfl; exact rfl; exact callK1 (θ := []) (hD := (l05Budget_ok _)); exact rfl; exact rfl; exact rfl; exact rfl; refine dM ?_) | ((first | refine o_gs rfl rfl (fun hc => ?_) (fun hc => ?_) | refine g_cond rfl (fun hc => ?_) (fun hc => ?_)) <;> (try simp only [dcB] at hc) <;> (try first | contradiction | (exfalso; omega)))
  all_goals
    repeat refine cr ?_
    refine ends_id ?_
    refine endK [] (h2 := ?_) (h3 := ?_) (nd := ?_)
    all_goals (repeat' first | exact ce0 | refine ce ?_ | refine ce2 ?_ ?_ | exact SVLe.refl | refine ceb ?_)
    all_goals first | exact (show nodupB _ = true from rfl) | exact Or.inr rfl | ((simp_all <;> omega))
theorem ask_bd {s y B : Int} (h : askT s y B = 0) : (1 ≤ s ∧ s ≤ 6) ∧ (2 ≤ y ∧ y ≤ 6) ∧ 1 ≤ B ∧ B ≤ 20000 := by
  unfold askT at h
  split at h
  · rename_i hc
    simpa [inB] using hc
  · cases h
theorem l30Root_ok (st sy : Int) (h1 : 1 ≤ st) (h2 : st ≤ 6) (h3 : 2 ≤ sy) (h4 : sy ≤ 6) : Does Tryz.prog 100 [.one (int st), .one (int sy)] [] (.agg [int (root sy st).sy, int (root sy st).st, .gv 0]) [.row 3 (rows eR (root sy st).ru)] := by
  have hp1 : 0 ≤ st * sy := Int.mul_nonneg (by omega) (by omega)
  have hp2 : st * sy ≤ 6 * 6 := Int.mul_le_mul (by omega) (by omega) (by omega) (by omega)
  unfold root
  exact l30Empty_ok st sy (by omega) (by omega) (by omega) (by omega) hp1 (by omega)
theorem pth_next {B : Int} {m : Mach} {p : List Int} {i : Int} (h0 : 0 ≤ i) (h : i.toNat < p.length) : pth B m (p.drop i.toNat) = (stp B m p[i.toNat]).bind fun m' => pth B m' (p.drop (i + 1).toNat) := by
  rw [drop_get h0 h, pth]
theorem l30At_ok (st sy B : Int) (p : List Int) (hp : (p.length : Int) ≤ 16777216) (h1 : 1 ≤ st) (h2 : st ≤ 6) (h3 : 2 ≤ sy) (h4 : sy ≤ 6) (h5 : 0 ≤ B) (h6 : B ≤ 1000000) : Does Tryz.prog 68 [.one (int st), .one (int sy), .one (shI p), .one (int B)] [] (.tup [(true, maC ((pth B (root sy st) p).getD mach0)), (false, [boo (pth B (root sy st) p).isSome])]) [] := by
  have hr := root_ok h3 h4 h1 (by omega)
  refine does_of (k := 0) Tryz.func68 rfl Tryz.ntmps68 rfl rfl fun w F0 S0 ρ0 => ?_
  dsimp only [argT, argH]
  repeat' first | (apply n3; exact a_new (gb := .bx _) rfl; exact rfl; refine dA ?_) | (apply p3; (first | exact pu1 | exact puL | exact puN | exact a_len_str rfl (fT rfl) | exact puC | exact a_add rfl rfl (by omega) (by omega) | exact puI); exact rfl) | refine cd ?_ | (apply w3; (first | exact a_st_bx rfl rfl rfl rfl (fN rfl rfl) (Nat.le_of_ble_eq_true rfl) rfl | exact a_stE (E := eMa) ⟨_, _, _⟩ rfl rfl rfl rfl (fN rfl rfl) bnd (by exact rfl)); exact rfl; refine dS ?_) | (apply c4 0; exact callF (hD := (l30Root_ok _ _ preB96 preB96 preB96 preB96)); exact rfl; exact rfl; exact rfl; refine dM ?_) | (apply c4 0; exact callK0 (θ := [_]) (hD := (l30Down_ok _ _ _ preB96 preB96 preB96)); exact rfl; exact rfl; exact rfl; refine dM ?_) | ((first | refine o_gs rfl rfl (fun hc => ?_) (fun hc => ?_) | refine g_cond rfl (fun hc => ?_) (fun hc => ?_)) <;> (try simp only [dcB] at hc) <;> (try first | contradiction | (exfalso; omega)))
  refine g_loop_id ?_
  refine loopK [2, 3, 8, 9, 10] [1] (fun y : Int × Mach => 0 ≤ y.1 ∧ y.1 ≤ p.length ∧ NdOk sy st y.2 ∧ pth B y.2 (p.drop y.1.toNat) = pth B (root sy st) p) (fun y => [(11, .one (int y.1))]) (fun y => [(1, .bx (maC y.2))]) (fun y => (p.length - y.1).toNat) ((0 : Int), root sy st) [0, 1] (hI := ?_) (hr := ?_)
  · exact ⟨by simp, by simp, hr, by simp⟩
  · rintro ⟨i, m⟩ ⟨k0, k1, k2, k3⟩
    dsimp only [List.cons_append, List.nil_append] at *
    skip
    repeat' first | (apply p3; (first | exact pu1 | exact puL | exact puN | exact a_len_str rfl (fT rfl) | exact puC); exact rfl) | refine cdn ?_ | refine g_reg (id := 3) ?_ | refine g_reg (id := 9) ?_ | (apply w3; (first | exact a_st_bx rfl rfl rfl rfl (fN rfl rfl) (Nat.le_of_ble_eq_true rfl) rfl | exact a_stE (E := eMa) ⟨_, _, _⟩ rfl rfl rfl rfl (fN rfl rfl) bnd (by exact rfl)); exact rfl; refine dS ?_) | ((first | refine o_gs rfl rfl (fun hc => ?_) (fun hc => ?_) | refine g_cond rfl (fun hc => ?_) (fun hc => ?_)) <;> (try simp only [dcB] at hc) <;> (try first | contradiction | (exfalso; omega)))
    · have hm := k2.v
      have hn := pth_next (B := B) (m := m) k0 (show i.toNat < p.length by omega)
      try dsimp only at k3
      rw [hn] at k3
      cases hs : stp B m (p[i.toNat]'(by omega)) with
      | none =>
        rw [hs] at k3
        rw [← k3]
        dsimp only [Option.bind_none, Option.getD_none, Option.isSome_none]
        repeat' first | (apply n3; exact a_new (gb := .bx _) rfl; exact rfl; refine dA ?_) | (apply p3; (first | exact pu1 | exact puL | exact puN | exact a_len_str rfl (fT rfl) | exact puC | exact puI); exact rfl) | refine cdn ?_ | refine g_reg (id := 3) ?_ | refine g_reg (id := 5) ?_ | refine g_reg (id := 9) ?_ | (apply w3; (first | exact a_st_bx rfl rfl rfl rfl (fN rfl rfl) (Nat.le_of_ble_eq_true rfl) rfl | exact a_stE (E := eMa) ⟨_, _, _⟩ rfl rfl rfl rfl (fN rfl rfl) bnd (by exact rfl)); exact rfl; refine dS ?_) | (apply c4 0; exact callK0 (θ := [1]) (hD := (l30Down_ok m _ B hm preB96 preB96)); exact rfl; exact rfl; exact rfl; refine dM ?_) | ((first | refine o_gs rfl rfl (fun hc => ?_) (fun hc => ?_) | refine g_cond rfl (fun hc => ?_) (fun hc => ?_)) <;> (try simp only [dcB] at hc) <;> (try first | contradiction | (exfalso; omega)))
        simp only [hs, Option.getD_none, Option.isSome_none]
        repeat' first | (apply n3; exact a_new (gb := .bx _) rfl; exact rfl; refine dA ?_) | (apply p3; (first | exact pu1 | exact puL | exact puN | exact a_len_str rfl (fT rfl) | exact puC | exact a_add rfl rfl (by omega) (by omega) | exact puI); exact rfl) | refine cd ?_ | (apply w3; (first | exact a_st_bx rfl rfl rfl rfl (fN rfl rfl) (Nat.le_of_ble_eq_true rfl) rfl | exact a_stE (E := eMa) ⟨_, _, _⟩ rfl rfl rfl rfl (fN rfl rfl) bnd (by exact rfl)); exact rfl; refine dS ?_) | (apply c4 0; exact callK0 (θ := [1]) (hD := (l30Down_ok m _ B hm preB96 preB96)); exact rfl; exact rfl; exact rfl; refine dM ?_) | ((first | refine o_gs rfl rfl (fun hc => ?_) (fun hc => ?_) | refine g_cond rfl (fun hc => ?_) (fun hc => ?_)) <;> (try simp only [dcB] at hc) <;> (try first | contradiction | (exfalso; omega)))
        repeat refine cr ?_
        refine ends_id ?_
        refine endK [] (h2 := ?_) (h3 := ?_) (nd := ?_)
        all_goals (repeat' first | exact ce0 | refine ce ?_ | refine ce2 ?_ ?_ | exact SVLe.refl | refine ceb ?_)
        all_goals first | exact (show nodupB _ = true from rfl) | exact Or.inr rfl | (rfl)
      | some m' =>
        rw [hs] at k3
        have h2 := (stp_ok k2 hs).1
        repeat' first | (apply n3; exact a_new (gb := .bx _) rfl; exact rfl; refine dA ?_) | (apply p3; (first | exact pu1 | exact puL | exact puN | exact a_len_str rfl (fT rfl) | exact puC | exact puI); exact rfl) | refine cdn ?_ | refine g_reg (id := 3) ?_ | refine g_reg (id := 5) ?_ | refine g_reg (id := 9) ?_ | (apply w3; (first | exact a_st_bx rfl rfl rfl rfl (fN rfl rfl) (Nat.le_of_ble_eq_true rfl) rfl | exact a_stE (E := eMa) ⟨_, _, _⟩ rfl rfl rfl rfl (fN rfl rfl) bnd (by exact rfl)); exact rfl; refine dS ?_) | (apply c4 0; exact callK0 (θ := [1]) (hD := (l30Down_ok m _ B hm preB96 preB96)); exact rfl; exact rfl; exact rfl; refine dM ?_) | ((first | refine o_gs rfl rfl (fun hc => ?_) (fun hc => ?_) | refine g_cond rfl (fun hc => ?_) (fun hc => ?_)) <;> (try simp only [dcB] at hc) <;> (try first | contradiction | (exfalso; omega)))
        simp only [hs, Option.getD_some, Option.isSome_some]
        repeat' first | (apply n3; exact a_new (gb := .bx _) rfl; exact rfl; refine dA ?_) | (apply p3; (first | exact pu1 | exact puL | exact puN | exact a_len_str rfl (fT rfl) | exact puC | exact a_add rfl rfl (by omega) (by omega) | exact puI); exact rfl) | refine cd ?_ | (apply w3; (first | exact a_st_bx rfl rfl rfl rfl (fN rfl rfl) (Nat.le_of_ble_eq_true rfl) rfl | exact a_stE (E := eMa) ⟨_, _, _⟩ rfl rfl rfl rfl (fN rfl rfl) bnd (by exact rfl)); exact rfl; refine dS ?_) | (apply c4 0; exact callK0 (θ := [1]) (hD := (l30Down_ok m _ B hm preB96 preB96)); exact rfl; exact rfl; exact rfl; refine dM ?_) | ((first | refine o_gs rfl rfl (fun hc => ?_) (fun hc => ?_) | refine g_cond rfl (fun hc => ?_) (fun hc => ?_)) <;> (try simp only [dcB] at hc) <;> (try first | contradiction | (exfalso; omega)))
        refine q_again (i + 1, m') [0, 1] (by exact stk) ?_ ?_
        · exact ⟨by dsimp only; omega, by dsimp only; omega, h2, k3⟩
        · dsimp only; omega
    · have e : pth B (root sy st) p = some m := by
        rw [← k3, List.drop_of_length_le (by omega)]
        rfl
      rw [e]
      repeat' first | (apply n3; exact a_new (gb := .bx _) rfl; exact rfl; refine dA ?_) | (apply p3; (first | exact pu1 | exact puL | exact puN | exact a_len_str rfl (fT rfl) | exact puC | exact a_add rfl rfl (by omega) (by omega) | exact puI); exact rfl) | refine cd ?_ | (apply w3; (first | exact a_st_bx rfl rfl rfl rfl (fN rfl rfl) (Nat.le_of_ble_eq_true rfl) rfl | exact a_stE (E := eMa) ⟨_, _, _⟩ rfl rfl rfl rfl (fN rfl rfl) bnd (by exact rfl)); exact rfl; refine dS ?_) | (apply c4 0; exact callK0 (θ := [1]) (hD := (l30Down_ok m _ B hm preB96 preB96)); exact rfl; exact rfl; exact rfl; refine dM ?_) | ((first | refine o_gs rfl rfl (fun hc => ?_) (fun hc => ?_) | refine g_cond rfl (fun hc => ?_) (fun hc => ?_)) <;> (try simp only [dcB] at hc) <;> (try first | contradiction | (exfalso; omega)))
      repeat refine cr ?_
      refine ends_id ?_
      refine endK [] (h2 := ?_) (h3 := ?_) (nd := ?_)
      all_goals (repeat' first | exact ce0 | refine ce ?_ | refine ce2 ?_ ?_ | exact SVLe.refl | refine ceb ?_)
      all_goals first | exact (show nodupB _ = true from rfl) | exact Or.inr rfl | (rfl)
end Go.Proofs.YtcmdfohamphndaaGreatDoor
end
section
set_option linter.unusedVariables false
set_option linter.unusedSimpArgs false
set_option maxRecDepth 100000
set_option maxHeartbeats 4000000
namespace Go.Proofs.YtcmdfohamphndaaGreatDoor
open Go Foot
theorem symbolsOk_ok (n : Int) : Does Tryz.prog 137 [.one (int n)] [] (.one (boo (inB n 2 6))) [] := by
  refine does_of (k := 0) Tryz.func137 rfl Tryz.ntmps137 rfl rfl fun w F0 S0 ρ0 => ?_
  dsimp only [argT, argH]
  repeat' first | (apply p3; exact pu1; exact rfl) | refine cd ?_ | (apply c4 0; exact callK1 (θ := []) (hD := (within_ok _ _ _)); exact rfl; exact rfl; exact rfl; refine dM ?_) | ((first | refine o_gs rfl rfl (fun hc => ?_) (fun hc => ?_) | refine g_cond rfl (fun hc => ?_) (fun hc => ?_)) <;> (try simp only [dcB] at hc) <;> (try first | contradiction | (exfalso; omega)))
  repeat refine cr ?_
  refine ends_id ?_
  refine endK [] (h2 := ?_) (h3 := ?_) (nd := ?_)
  all_goals (repeat' first | exact ce0 | refine ce ?_ | refine ce2 ?_ ?_ | exact SVLe.refl | refine ceb ?_)
  all_goals first | exact (show nodupB _ = true from rfl) | exact Or.inr rfl | (rfl)
theorem sizesCode_ok (s y B : Int) : Does Tryz.prog 69 [.one (int s), .one (int y), .one (int B)] [] (.one (int (askT s y B))) [] := by
  have e : askT s y B = if inB s 1 6 = true ∧ inB y 2 6 = true ∧ inB B 1 20000 = true then 0 else 2 := by unfold askT; rfl
  rw [e]
  refine does_of (k := 0) Tryz.func69 rfl Tryz.ntmps69 rfl rfl fun w F0 S0 ρ0 => ?_
  dsimp only [argT, argH]
  repeat' first | (apply p3; exact pu1; exact rfl) | refine cd ?_ | (apply c4 0; exact callK1 (θ := []) (hD := (within_ok _ _ _)); exact rfl; exact rfl; exact rfl; refine dM ?_) | (apply c4 0; exact callK1 (θ := []) (hD := (symbolsOk_ok _)); exact rfl; exact rfl; exact rfl; refine dM ?_) | (apply c4 0; exact callK1 (θ := []) (hD := (budgetOk_ok _)); exact rfl; exact rfl; exact rfl; refine dM ?_) | refine o_no rfl rfl rfl rfl ?_ | refine o_noN rfl rfl rfl ?_ | (apply py3; exact rfl; exact rfl; exact pu1; exact rfl; exact rfl) | (apply cy4 0; exact rfl; exact rfl; exact callK1 (θ := []) (hD := (within_ok _ _ _)); exact rfl; exact rfl; exact rfl; exact rfl; refine dM ?_) | (apply cy4 0; exact rfl; exact rfl; exact callK1 (θ := []) (hD := (symbolsOk_ok _)); exact rfl; exact rfl; exact rfl; exact rfl; refine dM ?_) | (apply cy4 0; exact rfl; exact rfl; exact callK1 (θ := []) (hD := (budgetOk_ok _)); exact rfl; exact rfl; exact rfl; exact rfl; refine dM ?_) | ((first | refine o_gs rfl rfl (fun hc => ?_) (fun hc => ?_) | refine g_cond rfl (fun hc => ?_) (fun hc => ?_)) <;> (try simp only [dcB] at hc) <;> (try first | contradiction | (exfalso; omega)))
  all_goals
    repeat refine cr ?_
    refine ends_id ?_
    refine endK [] (h2 := ?_) (h3 := ?_) (nd := ?_)
    all_goals (repeat' first | exact ce0 | refine ce ?_ | refine ce2 ?_ ?_ | exact SVLe.refl | refine ceb ?_)
    all_goals first | exact (show nodupB _ = true from rfl) | exact Or.inr rfl | ((simp_all <;> omega))
theorem childrenY_ok (m : Mach) (B : Int) (hm : vMach m = true) (hs : ndS m B = 0) : Does Tryz.prog 92 [.agg (ndC m B)] [] (.one (.gv 0)) [.row 3 (rows eR (chR m))] := by
  have h := children_ok m (ndS m B) (ndA m B) hm
  rw [if_pos hs] at h
  exact h
theorem childrenN_ok (m : Mach) (B : Int) (hm : vMach m = true) (hs : ¬ ndS m B = 0) : Does Tryz.prog 92 [.agg (ndC m B)] [] (.one (.gv 0)) [.row 3 (rows eR [])] := by
  have h := children_ok m (ndS m B) (ndA m B) hm
  rw [if_neg hs] at h
  exact h
/-- Lists of nodes. -/
abbrev eNd (B : Int) : Enc Mach := ⟨5, fun m => ndD m B, fun _ => rfl, by decide⟩
theorem stp_yes {B : Int} {m : Mach} {k : Int} (hs : ndS m B = 0) (h0 : 0 ≤ k) (h1 : k.toNat < (chR m).length) : stp B m k = some (chM m (ndA m B) ((chR m)[k.toNat])) := by
  unfold stp
  rw [if_pos ⟨hs, h0, by omega⟩, List.getD_eq_getElem?_getD, List.getElem?_eq_getElem h1]
  rfl
theorem stp_no {B : Int} {m : Mach} {k : Int} (h : ¬ ndS m B = 0 ∨ k < 0 ∨ (chR m).length ≤ k) : stp B m k = none := by
  unfold stp
  rw [if_neg]
  omega
theorem pthL_next {B : Int} {m : Mach} {p : List Int} {i : Int} (h0 : 0 ≤ i) (h : i.toNat < p.length) : pthL B m (p.drop i.toNat) = (stp B m p[i.toNat]).bind fun m' => (pthL B m' (p.drop (i + 1).toNat)).map (m :: ·) := by
  rw [drop_get h0 h, pthL]
end Go.Proofs.YtcmdfohamphndaaGreatDoor
end
section
set_option linter.unusedVariables false
set_option linter.unusedSimpArgs false
set_option maxRecDepth 100000
set_option maxHeartbeats 4000000
namespace Go.Proofs.YtcmdfohamphndaaGreatDoor
open Go Foot
end Go.Proofs.YtcmdfohamphndaaGreatDoor
end
section
set_option linter.unusedVariables false
set_option linter.unusedSimpArgs false
set_option maxRecDepth 100000
set_option maxHeartbeats 4000000
namespace Go.Proofs.YtcmdfohamphndaaGreatDoor
open Go Foot
theorem pthL_some {B : Int} {rt m0 : Mach} {p : List Int} (hv : pth B rt p = some m0) : ∃ L, pthL B rt p = some L ∧ L.length = p.length + 1 ∧ ∀ (i : Nat) (h : i < L.length), pth B rt (p.take i) = some L[i] := by
  have h1 := pthL_pth (B := B) p rt
  rw [hv] at h1
  obtain ⟨L, hL⟩ := Option.isSome_iff_exists.1 (show (pthL B rt p).isSome = true from h1)
  have h2 := pthL_get hL
  exact ⟨L, hL, h2.1, fun i h => by rw [h2.2 i (by omega), List.getElem?_eq_getElem h]⟩
theorem childrenA_ok (m : Mach) (B : Int) (hm : vMach m = true) : Does Tryz.prog 92 [.agg (ndC m B)] [] (.one (.gv 0)) [.row 3 (rows eR (if ndS m B = 0 then chR m else []))] := children_ok m (ndS m B) (ndA m B) hm
end Go.Proofs.YtcmdfohamphndaaGreatDoor
end
section
set_option linter.unusedVariables false
set_option linter.unusedSimpArgs false
namespace Go.Proofs.YtcmdfohamphndaaGreatDoor
open Go Foot
/-- Cells that nobody writes, behind named values; they can be had back. -/
structure BackD (w : World) (S Z G : Foot) (ds : List D) (vs : List Value) : Prop where
  r : Reps w no ds vs G
  s : le G S
  z : Foot.dis G Z
  t : ∀ t ∈ tabs, ∀ o, ¬ G t.1 o
theorem BackD.keep {w w' : World} {S S' Z G : Foot} {ds : List D} {vs : List Value} (h : BackD w S Z G ds vs) (hS : Agree w w' S) (hle : le S S') : BackD w' S' Z G ds vs :=
  ⟨h.r.keep (hS.le h.s) Agree.no (le_refl _) (le_refl _), h.s.trans hle, h.z, h.t⟩
def rcD (Z : Foot) (ds : List D) (vs : List Value) : Opq where
  p w S us F := us = [] ∧ le Z S ∧ ∃ G, BackD w S Z G ds vs
  keep := fun ⟨h1, h2, G, h3⟩ _ hS hle _ => ⟨h1, h2.trans hle, G, h3.keep hS hle⟩
section
variable {P : Program} {g : Gh} {t : List (Nat × SV)} {h0 : List (Nat × GB)} {n q r i j : Nat} {a : Act} {w : World} {S Z : Foot} {ρ : Env} {F : Nat → Foot} {ds : List D} {vs : List Value} {Q : Exit → St → Prop}
theorem rel_rcD (h : Rel g ⟨t, h0, n⟩ a w S ρ F) (hg : lkG h0 q = .opq (rcD Z ds vs) []) : le Z S ∧ ∃ G, BackD w S Z G ds vs := by
  rcases h.root q with h1 | ⟨u, r1, r2⟩
  · simp only [hg] at h1; cases h1
  · simp only [hg] at r2
    obtain ⟨us, _, _, h2, G, h3⟩ := r2
    exact ⟨h2, G, h3⟩
/-- A value is given a number. -/
theorem t_isv (v : Value) : Conv g ⟨t, h0, n⟩ ⟨t, (n, .isv v) :: h0, n + 1⟩ := fun a w S ρ F h hf => by
  have hn : ρ n = none := hf n (Nat.le_refl n)
  have hle : Env.le ρ (fun k => if k = n then some v else ρ k) := fun k u hk => by
    have : k ≠ n := fun e => by rw [e, hn] at hk; cases hk
    simp only [this, if_false]; exact hk
  refine ⟨S, fun k => if k = n then some v else ρ k, F, ⟨h.size, h.defers, fun k => (h.slot k).keep (Agree.refl _ _) (le_refl _) hle, fun k => ?_, h.dis, h.disS, h.own, h.ex, h.exS, h.old, h.inS, h.newS, fun k u hk hu => hle _ _ (h.pin k u hk hu), h.tab, ?_⟩, fun k hk => ?_⟩
  · simp only [lkG_cons]
    split
    · rename_i e
      subst e
      exact .inr ⟨v, by simp, rfl⟩
    · rename_i hkn
      rcases h.root k with h0 | ⟨u, r1, r2⟩
      · exact .inl h0
      · exact .inr ⟨u, r1, r2.keep (Agree.refl _ _) (Agree.refl _ _) (le_refl _) hle (le_refl _)⟩
  · obtain ⟨N, hN⟩ := h.fin
    exact ⟨N + n + 1, fun k hk => by
      have : k ≠ n := by omega
      simp only [this, if_false]
      exact hN k (by omega)⟩
  · have hk' : n + 1 ≤ k := hk
    have : k ≠ n := by omega
    simp only [this, if_false]
    exact hf k (by show n ≤ k; omega)
theorem rel_isv {v : Value} (h : Rel g ⟨t, h0, n⟩ a w S ρ F) (hi : lkG h0 i = .isv v) : ρ i = some v := by
  rcases h.root i with h1 | ⟨u, r1, r2⟩
  · simp only [hi] at h1; cases h1
  · simp only [hi] at r2
    rw [r1]
    exact congrArg some r2
end
end Go.Proofs.YtcmdfohamphndaaGreatDoor
end
section
set_option linter.unusedVariables false
set_option linter.unusedSimpArgs false
set_option maxRecDepth 100000
namespace Go.Proofs.YtcmdfohamphndaaGreatDoor
open Go Foot MapKept
/-- Cells behind a value that nobody writes, and that can be had back. -/
def Bk (w : World) (S Z : Foot) (z : Nat) (row : List D) (v : Value) : Prop := ∃ G, Rep w no (.sl true z row) v G ∧ le G S ∧ Foot.dis G Z ∧ ∀ t ∈ tabs, ∀ o, ¬ G t.1 o
theorem Bk.keep {w w' : World} {S S' Z : Foot} {z : Nat} {row : List D} {v : Value} (h : Bk w S Z z row v) (hS : Agree w w' S) (hle : le S S') : Bk w' S' Z z row v := by
  obtain ⟨G, h1, h2, h3, h4⟩ := h
  exact ⟨G, h1.keep (hS.le h2) Agree.no (le_refl _) (le_refl _), h2.trans hle, h3, h4⟩
theorem Bk.sh {w : World} {S Z : Foot} {z : Nat} {row : List D} {v : Value} (h : Bk w S Z z row v) (hn : D.noOwn.all row) : Rep w S (.sl false z row) v no := by
  obtain ⟨G, h1, h2, h3, h4⟩ := h
  exact (Shut1.sl (ShutL.no hn) w no G G v h1 (le_refl _)).keep Agree.no (Agree.refl _ _) (or_le (no_le _) h2) (le_refl _)
/-- Such slices, named. -/
def kbA {α : Type} (Z : Foot) (z : Nat) (row : α → List D) (L : List (α × Value)) : Opq where
  p w S us F := us = [] ∧ le Z S ∧ ∀ x ∈ L, Bk w S Z z (row x.1) x.2
  keep := fun ⟨h1, h2, h3⟩ _ hS hle _ => ⟨h1, h2.trans hle, fun x hx => (h3 x hx).keep hS hle⟩
/-- One of them, as1 a root. -/
def kb (Z : Foot) (z : Nat) (row : List D) : Opq where
  p w S us F := le Z S ∧ ∃ v, us = [v] ∧ Bk w S Z z row v
  keep := fun ⟨h1, v, h2, h3⟩ _ hS hle _ => ⟨h1.trans hle, v, h2, h3.keep hS hle⟩
/-- One of them, its value named. -/
def kbN (Z : Foot) (z : Nat) (row : List D) (v : Value) : Opq where
  p w S us F := us = [v] ∧ le Z S ∧ Bk w S Z z row v
  keep := fun ⟨h1, h2, h3⟩ _ hS hle _ => ⟨h1, h2.trans hle, h3.keep hS hle⟩
/-- An own list whose elements bear such slices. -/
def ndP {α : Type} (Z : Foot) (z : Nat) (row : α → List D) (E : Enc (α × Value)) (ms : List α) : Opq where
  p w S us F := le Z S ∧ ∃ (v : Value) (L : List (α × Value)), L.map (·.1) = ms ∧ us = [v] ∧ Rep w no (.sl true E.z (rows E L)) v F ∧ ∀ x ∈ L, Bk w S Z z (row x.1) x.2
  keep := fun ⟨h1, v, L, h2, h3, h4, h5⟩ hF hS hle hf => ⟨h1.trans hle, v, L, h2, h3, h4.keep hF Agree.no (le_refl _) hf, fun x hx => (h5 x hx).keep hS hle⟩
section
variable {P : Program} {g : Gh} {t : List (Nat × SV)} {h0 : List (Nat × GB)} {n q r i j : Nat} {a : Act} {w : World} {S Z : Foot} {ρ : Env} {F : Nat → Foot} {Q : Exit → St → Prop} {α : Type} {z : Nat} {row : α → List D} {L : List (α × Value)} {x : α} {v : Value}
theorem rel_opq {R : Opq} {cs : List Nat} (h : Rel g ⟨t, h0, n⟩ a w S ρ F) (hg : lkG h0 i = .opq R cs) : ∃ us, cs.map ρ = us.map some ∧ R.p w S us (F i) := by
  rcases h.root i with h1 | ⟨u, r1, r2⟩
  · simp only [hg] at h1; cases h1
  · simp only [hg] at r2
    exact r2
theorem rel_live {gb : GB} (h : Rel g ⟨t, h0, n⟩ a w S ρ F) (hg : lkG h0 i = gb) (hl : GB.lives gb = true) : ∃ u, ρ i = some u := by
  rcases h.root i with h1 | ⟨u, r1, r2⟩
  · simp only [hg] at h1; rw [h1] at hl; cases hl
  · exact ⟨u, r1⟩
/-- A root told in another way. -/
theorem t_opqLe {R R' : Opq} {cs : List Nat} (i : Nat) (hg : lkG h0 i = .opq R cs) (hl : ∀ w S us F, R.p w S us F → R'.p w S us F) : Conv g ⟨t, h0, n⟩ ⟨t, (i, .opq R' cs) :: h0, n⟩ := fun a w S ρ F hr hf => by
  obtain ⟨u, hu⟩ := rel_live hr hg rfl
  obtain ⟨us, e1, e2⟩ := rel_opq hr hg
  exact ⟨S, ρ, F, rel_root hr (.inr ⟨u, hu, us, e1, hl _ _ _ _ e2⟩), hf⟩
theorem reps_setSame {cs : List C} {us : List Value} {k : Nat} {c c' : C} (e2 : RepCs w S ρ cs us) (hk : cs[k]? = some c) (hc : ∀ v, RepC w S ρ c v → RepC w S ρ c' v) : RepCs w S ρ (cs.set k c') us := by
  obtain ⟨v', e3, e4⟩ := e2.nth hk
  have e6 := e2.set (k := k) (c := c') (u := v') (hc _ e4)
  have e7 : us.set k v' = us := by
    apply List.ext_getElem?
    intro m
    rw [List.getElem?_set]
    split
    · rename_i e
      subst e
      split
      · rw [e3]
      · rename_i hl
        rw [List.getElem?_eq_none (by omega)]
    · rfl
  rw [e7] at e6
  exact e6
/-- A cell of a slot is told in another way. -/
theorem t_cell {cs : List C} {c c' : C} (d k : Nat) (hs : lkS t d = .agg cs) (hk : cs[k]? = some c) (hc : ∀ a w S ρ F v, Rel g ⟨t, h0, n⟩ a w S ρ F → RepC w S ρ c v → RepC w S ρ c' v) : Conv g ⟨t, h0, n⟩ ⟨(d, .agg (cs.set k c')) :: t, h0, n⟩ := fun a w S ρ F hr hf => by
  refine ⟨S, ρ, F, hr.setSlot ?_, hf⟩
  have h1 := hr.slot d
  simp only [hs] at h1
  obtain ⟨us, e1, e2⟩ := h1
  exact ⟨us, e1, reps_setSame e2 hk fun v => hc a w S ρ F v hr⟩
/-- A root that holds nothing but what it says of other roots' values. -/
theorem rel_newC {R : Opq} {cs : List Nat} {us : List Value} (h : Rel g ⟨t, h0, n⟩ a w S ρ F) (hf : Fresh ⟨t, h0, n⟩ ρ) (hc : cs.map ρ = us.map some) (hp : R.p w S us (F n)) : ∃ ρ', Env.le ρ ρ' ∧ Rel g ⟨t, (n, .opq R cs) :: h0, n + 1⟩ a w S ρ' F ∧ Fresh ⟨t, (n, .opq R cs) :: h0, n + 1⟩ ρ' := by
  have hn : ρ n = none := hf n (Nat.le_refl n)
  have hle : Env.le ρ (fun k => if k = n then some (.bool false) else ρ k) := fun k u hk => by
    have : k ≠ n := fun e => by rw [e, hn] at hk; cases hk
    simp only [this, if_false]; exact hk
  refine ⟨_, hle, ⟨h.size, h.defers, fun k => (h.slot k).keep (Agree.refl _ _) (le_refl _) hle, fun k => ?_, h.dis, h.disS, h.own, h.ex, h.exS, h.old, h.inS, h.newS, fun k u hk hu => hle _ _ (h.pin k u hk hu), h.tab, ?_⟩, fun k hk => ?_⟩
  · simp only [lkG_cons]
    split
    · rename_i e
      subst e
      exact .inr ⟨.bool false, by simp, us, envs_le hle hc, hp⟩
    · rename_i hkn
      rcases h.root k with h0 | ⟨u, r1, r2⟩
      · exact .inl h0
      · exact .inr ⟨u, r1, r2.keep (Agree.refl _ _) (Agree.refl _ _) (le_refl _) hle (le_refl _)⟩
  · obtain ⟨N, hN⟩ := h.fin
    exact ⟨N + n + 1, fun k hk => by
      have : k ≠ n := by omega
      simp only [this, if_false]
      exact hN k (by omega)⟩
  · have hk' : n + 1 ≤ k := hk
    have : k ≠ n := by omega
    simp only [this, if_false]
    exact hf k (by show n ≤ k; omega)
/-- A root whose value is that of another one. -/
theorem rel_newV {gb : GB} {v : Value} (h : Rel g ⟨t, h0, n⟩ a w S ρ F) (hf : Fresh ⟨t, h0, n⟩ ρ) (hp : ∀ ρ' : Env, RepG w S ρ' gb v (F n)) : ∃ ρ', Env.le ρ ρ' ∧ ρ' n = some v ∧ Rel g ⟨t, (n, gb) :: h0, n + 1⟩ a w S ρ' F ∧ Fresh ⟨t, (n, gb) :: h0, n + 1⟩ ρ' := by
  have hn : ρ n = none := hf n (Nat.le_refl n)
  have hle : Env.le ρ (fun k => if k = n then some v else ρ k) := fun k u hk => by
    have : k ≠ n := fun e => by rw [e, hn] at hk; cases hk
    simp only [this, if_false]; exact hk
  refine ⟨_, hle, by simp, ⟨h.size, h.defers, fun k => (h.slot k).keep (Agree.refl _ _) (le_refl _) hle, fun k => ?_, h.dis, h.disS, h.own, h.ex, h.exS, h.old, h.inS, h.newS, fun k u hk hu => hle _ _ (h.pin k u hk hu), h.tab, ?_⟩, fun k hk => ?_⟩
  · simp only [lkG_cons]
    split
    · rename_i e
      subst e
      exact .inr ⟨v, by simp, hp _⟩
    · rename_i hkn
      rcases h.root k with h0 | ⟨u, r1, r2⟩
      · exact .inl h0
      · exact .inr ⟨u, r1, r2.keep (Agree.refl _ _) (Agree.refl _ _) (le_refl _) hle (le_refl _)⟩
  · obtain ⟨N, hN⟩ := h.fin
    exact ⟨N + n + 1, fun k hk => by
      have : k ≠ n := by omega
      simp only [this, if_false]
      exact hN k (by omega)⟩
  · have hk' : n + 1 ≤ k := hk
    have : k ≠ n := by omega
    simp only [this, if_false]
    exact hf k (by show n ≤ k; omega)
/-- An own slice is frozen, and can be had back. -/
theorem rel_frzS {xs : List D} (hf : Fresh ⟨t, h0, n⟩ ρ) (hq : lkG h0 q = .opq (zw Z) []) (hr : lkG h0 r = .row z xs) (hp : D.plain.all xs) (hno : D.noOwn.all xs) (h : Rel g ⟨t, h0, n⟩ a w S ρ F) :
    ∃ S' F' ρ', Rel g ⟨t, (n, .opq (kb Z z xs) [r]) :: (r, .sh z xs) :: h0, n + 1⟩ a w S' ρ' F' ∧ Fresh ⟨t, (n, .opq (kb Z z xs) [r]) :: (r, .sh z xs) :: h0, n + 1⟩ ρ' := by
  obtain ⟨vr, r1, r2⟩ := rel_rowT h hr
  have hZ : le Z S := by
    obtain ⟨us, _, _, h2⟩ := rel_opq h hq
    exact h2
  have hS : le S (S.or (F r)) := le_or_left _ _
  have hrp : Rep w no (.sl true z xs) vr (F r) := r2.plain ⟨rfl, hp⟩
  have hB : Bk w (S.or (F r)) Z z xs vr := ⟨F r, hrp, le_or_right _ _, fun b o x y => h.disS r b o x (hZ b o y), fun t ht o hh => h.disS r _ _ hh ((h.tab t ht).2 o)⟩
  have hm : Rel g ⟨t, (r, .sh z xs) :: h0, n⟩ a w (S.or (F r)) ρ (fun k => if k = r then no else F k) := by
    refine ⟨h.size, h.defers.keep fun r' _ m => ⟨m.at_, fun j o hj => (by split at hj; exact hj.elim; exact m.F j o hj), fun o ho => ho.elim (m.S o) (m.F r o), m.lo⟩, fun k => (h.slot k).keep (Agree.refl _ _) hS (Env.le.refl _), fun k => ?_, fun k l hkl => ?_, fun k => ?_, fun k => ?_, fun k b o hb => ?_, fun b o hb => ?_, h.old, h.inS.trans hS, fun b o hb => ?_, h.pin, h.tab.keep (Agree.refl _ _) hS, h.fin⟩
    · simp only [lkG_cons]
      split
      · rename_i e
        subst e
        exact .inr ⟨vr, r1, hB.sh hno⟩
      · rename_i hk
        rcases h.root k with h0 | ⟨u, r1, r2⟩
        · exact .inl h0
        · refine .inr ⟨u, r1, ?_⟩
          exact r2.keep (Agree.refl _ _) (Agree.refl _ _) hS (Env.le.refl _) (le_refl _)
    · by_cases hk : k = r
      · simp only [hk, if_true]; exact no_dis _
      · by_cases hl : l = r
        · simp only [hl, if_true]; exact dis_no _
        · simp only [if_neg hk, if_neg hl]; exact h.dis k l hkl
    · by_cases hk : k = r
      · simp only [hk, if_true]; exact no_dis _
      · simp only [if_neg hk]
        exact fun b o hb hs => hs.elim (fun hs => h.disS k b o hb hs) (fun hs => h.dis k r hk b o hb hs)
    · by_cases hk : k = r
      · simp only [hk, if_true]; exact no_le _
      · simp only [if_neg hk]; exact h.own k
    · by_cases hk : k = r
      · simp only [hk, if_true] at hb; exact hb.elim
      · simp only [if_neg hk] at hb; exact h.ex k b o hb
    · exact hb.elim (h.exS b o) (h.ex r b o)
    · exact hb.elim (h.newS b o) (fun hb => .inr (h.own r b o hb))
  obtain ⟨ρ', hl, q1, q2⟩ := rel_newC (R := kb Z z xs) (cs := [r]) (us := [vr]) hm hf (by simp [r1]) ⟨hZ.trans hS, vr, rfl, hB⟩
  exact ⟨_, _, ρ', q1, q2⟩
theorem g_frzS {c : Code} {xs : List D} (r q : Nat) (hq : lkG h0 q = .opq (zw Z) []) (hr : lkG h0 r = .row z xs) (hp : D.plain.all xs) (hno : D.noOwn.all xs) (hk : GWp P g c ⟨t, (n, .opq (kb Z z xs) [r]) :: (r, .sh z xs) :: h0, n + 1⟩ Q) : GWp P g c ⟨t, h0, n⟩ Q := ⟨fun a w S ρ F h hf => by
  obtain ⟨S', F', ρ', q1, q2⟩ := rel_frzS hf hq hr hp hno h
  exact hk.run _ _ _ _ _ q1 q2⟩
/-- A frozen slice under a new number. -/
theorem rel_dupS {xs : List D} {d k : Nat} {cs : List C} (hs : lkS t d = .agg cs) (hkc : cs[k]? = some (.gv r)) (hf : Fresh ⟨t, h0, n⟩ ρ) (hi : lkG h0 i = .opq (kb Z z xs) [r]) (hno : D.noOwn.all xs) (h : Rel g ⟨t, h0, n⟩ a w S ρ F) :
    ∃ ρ', Rel g ⟨(d, .agg (cs.set k (.gv n))) :: t, (n + 1, .opq (kb Z z xs) [n]) :: (n, .sh z xs) :: h0, n + 2⟩ a w S ρ' F ∧ Fresh ⟨(d, .agg (cs.set k (.gv n))) :: t, (n + 1, .opq (kb Z z xs) [n]) :: (n, .sh z xs) :: h0, n + 2⟩ ρ' := by
  obtain ⟨us, e1, e2, v, rfl, e3⟩ := rel_opq h hi
  simp only [List.map_cons, List.map_nil, List.cons.injEq, and_true] at e1
  obtain ⟨ρ1, l1, hv, q1, q2⟩ := rel_newV (gb := .sh z xs) (v := v) h hf fun ρ' => e3.sh hno
  obtain ⟨ρ2, l2, q3, q4⟩ := rel_newC (R := kb Z z xs) (cs := [n]) (us := [v]) q1 q2 (by simp [hv]) ⟨e2, v, rfl, e3⟩
  refine ⟨ρ2, q3.setSlot ?_, q4⟩
  have h1 := q3.slot d
  simp only [hs] at h1
  obtain ⟨us, f1, f2⟩ := h1
  refine ⟨us, f1, reps_setSame f2 hkc fun u hu => ⟨?_, hu.2⟩⟩
  rw [l2 _ _ hv, ← hu.1, l2 _ _ (l1 _ _ e1)]
theorem o_dupS {ops : Array Oper} {l : List Oper} {xs : List D} {cs : List C} (d k i : Nat) (hs : lkS t d = .agg cs) (hkc : cs[k]? = some (.gv r)) (hi : lkG h0 i = .opq (kb Z z xs) [r]) (hno : D.noOwn.all xs) (hk : GOps P g ops l ⟨(d, .agg (cs.set k (.gv n))) :: t, (n + 1, .opq (kb Z z xs) [n]) :: (n, .sh z xs) :: h0, n + 2⟩ Q) : GOps P g ops l ⟨t, h0, n⟩ Q := ⟨fun a w S ρ F h hf => by
  obtain ⟨ρ', q1, q2⟩ := rel_dupS hs hkc hf hi hno h
  exact hk.run _ _ _ _ _ q1 q2⟩
/-- The value of such a slice is named. -/
theorem g_nameK {c : Code} {xs : List D} (i : Nat) (hi : lkG h0 i = .opq (kb Z z xs) [r]) (hk : ∀ v : Value, GWp P g c ⟨t, (i, .opq (kbN Z z xs v) [r]) :: h0, n⟩ Q) : GWp P g c ⟨t, h0, n⟩ Q := ⟨fun a w S ρ F h hf => by
  obtain ⟨u, hu⟩ := rel_live h hi rfl
  obtain ⟨us, e1, e2, v, rfl, e3⟩ := rel_opq h hi
  exact (hk v).run _ _ _ _ _ (rel_root h (.inr ⟨u, hu, [v], e1, rfl, e2, e3⟩)) hf⟩
theorem t_unname {xs : List D} (i : Nat) (hi : lkG h0 i = .opq (kbN Z z xs v) [r]) : Conv g ⟨t, h0, n⟩ ⟨t, (i, .opq (kb Z z xs) [r]) :: h0, n⟩ := t_opqLe i hi fun w S us F ⟨h1, h2, h3⟩ => ⟨h2, v, h1, h3⟩
theorem c_nameK {xs : List D} (hi : lkG h0 i = .opq (kbN Z z xs v) [r]) : ∀ a w S ρ F u, Rel g ⟨t, h0, n⟩ a w S ρ F → RepC w S ρ (.gv r) u → RepC w S ρ (.d (.sc v)) u := fun a w S ρ F u hr h => by
  obtain ⟨us, e1, rfl, e2, e3⟩ := rel_opq hr hi
  simp only [List.map_cons, List.map_nil, List.cons.injEq, and_true] at e1
  obtain ⟨h1, h2⟩ := h
  rw [e1] at h1
  cases h1
  exact ⟨rfl, h2⟩
theorem t_nameA {cs : List C} {xs : List D} (d k i : Nat) (hs : lkS t d = .agg cs) (hk : cs[k]? = some (.gv r)) (hi : lkG h0 i = .opq (kbN Z z xs v) [r]) : Conv g ⟨t, h0, n⟩ ⟨(d, .agg (cs.set k (.d (.sc v)))) :: t, h0, n⟩ := t_cell d k hs hk (c_nameK hi)
/-- The named slices, none yet; one more. -/
theorem t_kb0 (z : Nat) (row : α → List D) (q : Nat) (hq : lkG h0 q = .opq (zw Z) []) : Conv g ⟨t, h0, n⟩ ⟨t, (n, .opq (kbA Z z row []) []) :: h0, n + 1⟩ := fun a w S ρ F hr hf => by
  obtain ⟨us, e1, e2, e3⟩ := rel_opq hr hq
  obtain ⟨ρ', _, h1, h2⟩ := rel_new (R := kbA Z z row []) hr hf ⟨rfl, e3, fun x hx => by cases hx⟩
  exact ⟨S, ρ', F, h1, h2⟩
theorem t_addK {xs : List D} (x : α) (q i : Nat) (hq : lkG h0 q = .opq (kbA Z z row L) []) (hi : lkG h0 i = .opq (kbN Z z xs v) [r]) (hx : xs = row x) : Conv g ⟨t, h0, n⟩ ⟨t, (q, .opq (kbA Z z row (L ++ [(x, v)])) []) :: h0, n⟩ := fun a w S ρ F hr hf => by
  obtain ⟨u, hu⟩ := rel_live hr hq rfl
  obtain ⟨us, e1, e2, e3, e4⟩ := rel_opq hr hq
  obtain ⟨us', e1', rfl, e3', e4'⟩ := rel_opq hr hi
  refine ⟨S, ρ, F, rel_root hr (.inr ⟨u, hu, [], rfl, rfl, e3, fun y hy => ?_⟩), hf⟩
  rcases List.mem_append.1 hy with hy | hy
  · exact e4 y hy
  · simp only [List.mem_singleton] at hy
    subst hy
    exact hx ▸ e4'
/-- Less is kept. -/
theorem t_subK {L' : List (α × Value)} (q : Nat) (hq : lkG h0 q = .opq (kbA Z z row L) []) (hs : ∀ y ∈ L', y ∈ L) : Conv g ⟨t, h0, n⟩ ⟨t, (q, .opq (kbA Z z row L') []) :: h0, n⟩ := t_opqLe q hq fun w S us F ⟨h1, h2, h3⟩ => ⟨h1, h2, fun y hy => h3 y (hs y hy)⟩
/-- The list is shut: only what its elements stand for is told. -/
theorem t_packN {E : Enc (α × Value)} (j q : Nat) (hj : lkG h0 j = .row E.z (rows E L)) (hp : D.plain.all (rows E L)) (hq : lkG h0 q = .opq (kbA Z z row L) []) : Conv g ⟨t, h0, n⟩ ⟨t, (j, .opq (ndP Z z row E (L.map (·.1))) [j]) :: h0, n⟩ := fun a w S ρ F hr hf => by
  obtain ⟨v, r1, r2⟩ := rel_rowT hr hj
  obtain ⟨us, e1, e2, e3, e4⟩ := rel_opq hr hq
  exact ⟨S, ρ, F, rel_root hr (.inr ⟨v, r1, [v], by simp [r1], e3, v, L, rfl, rfl, r2.plain ⟨rfl, hp⟩, e4⟩), hf⟩
theorem rel_openN {E : Enc (α × Value)} {ms : List α} (hpl : ∀ L : List (α × Value), D.plain.all (rows E L)) (hf : Fresh ⟨t, h0, n⟩ ρ) (hj : lkG h0 j = .opq (ndP Z z row E ms) [j]) (h : Rel g ⟨t, h0, n⟩ a w S ρ F) :
    ∃ L ρ', L.map (·.1) = ms ∧ Rel g ⟨t, (n, .opq (kbA Z z row L) []) :: (j, .row E.z (rows E L)) :: h0, n + 1⟩ a w S ρ' F ∧ Fresh ⟨t, (n, .opq (kbA Z z row L) []) :: (j, .row E.z (rows E L)) :: h0, n + 1⟩ ρ' := by
  obtain ⟨us, e1, e2, v, L, e3, rfl, e4, e5⟩ := rel_opq h hj
  simp only [List.map_cons, List.map_nil, List.cons.injEq, and_true] at e1
  have h1 : Rel g ⟨t, (j, .row E.z (rows E L)) :: h0, n⟩ a w S ρ F := rel_root h (.inr ⟨v, e1, Rep.plain e4 ⟨rfl, hpl L⟩⟩)
  obtain ⟨ρ', _, q1, q2⟩ := rel_new (R := kbA Z z row L) h1 hf ⟨rfl, e2, e5⟩
  exact ⟨L, ρ', e3, q1, q2⟩
theorem g_openN {c : Code} {E : Enc (α × Value)} {ms : List α} (j : Nat) (hpl : ∀ L : List (α × Value), D.plain.all (rows E L)) (hj : lkG h0 j = .opq (ndP Z z row E ms) [j]) (hk : ∀ L : List (α × Value), L.map (·.1) = ms → GWp P g c ⟨t, (n, .opq (kbA Z z row L) []) :: (j, .row E.z (rows E L)) :: h0, n + 1⟩ Q) : GWp P g c ⟨t, h0, n⟩ Q := ⟨fun a w S ρ F h hf => by
  obtain ⟨L, ρ', e, q1, q2⟩ := rel_openN hpl hf hj h
  exact (hk L e).run _ _ _ _ _ q1 q2⟩
def bxPlain : List C → Bool
  | [] => true
  | .gv _ :: cs => bxPlain cs
  | .d (.sc _) :: cs => bxPlain cs
  | _ => false
theorem bxPlain_rep {w : World} {S S' : Foot} {ρ : Env} : ∀ {cs : List C} {vs : List Value}, bxPlain cs = true → RepCs w S ρ cs vs → RepCs w S' ρ cs vs
  | [], vs, _, h => h
  | c :: cs, vs, hp, h => by
    simp only [RepCs] at h ⊢
    obtain ⟨v, us, rfl, h1, h2⟩ := h
    cases c with
    | gv i => exact ⟨v, us, rfl, h1, bxPlain_rep (by simpa [bxPlain] using hp) h2⟩
    | d x =>
      cases x with
      | sc u => exact ⟨v, us, rfl, h1, bxPlain_rep (by simpa [bxPlain] using hp) h2⟩
      | _ => simp [bxPlain] at hp
    | _ => simp [bxPlain] at hp
/-- At the end: a slice that was frozen is had back; a variable that holds it is kept. -/
theorem t_thawB {t' : List (Nat × SV)} {z : Nat} {row : List D} {v : Value} {cs : List C} {ds : List D} {vs : List Value} (b0 k0 i q j : Nat) (hb : lkG h0 b0 = .bx cs) (hk : cs[k0]? = some (.d (.sc v))) (hpl : bxPlain cs = true) (hbi : Nat.beq b0 i = false) (hi : lkG h0 i = .isv v) (hq : lkG h0 q = .opq (rcD g.S0 ds vs) []) (hv : vs[j]? = some v) (hd : ds[j]? = some (.sl true z row)) (hs : leS t' t) (hp : slotsPlain t') : Turn g ⟨t, h0, n⟩ ⟨t', [(i, .row z row), (b0, .bx (cs.set k0 (.gv i)))], n⟩ := by
  refine ⟨Nat.le_refl _, fun a w S ρ F h => ?_⟩
  obtain ⟨hZ, G0, hB⟩ := rel_rcD h hq
  obtain ⟨v', G, e1, e2, e3⟩ := hB.r.nth hd
  rw [hv] at e1
  obtain rfl := Option.some.inj e1
  have hvi := rel_isv h hi
  have hGS : le G S := e2.trans hB.s
  have hrep : Rep w (fun b o => S b o ∧ ¬ G b o) (.sl true z row) v G := e3.keep (Agree.refl _ _) Agree.no (no_le _) (le_refl _)
  refine ⟨fun b o => S b o ∧ ¬ G b o, fun k => if k = i then G else F k, ?_⟩
  have hGZ : Foot.dis G g.S0 := fun b o x y => hB.z b o (e2 b o x) y
  refine ⟨h.size, h.defers.keep fun r' _ m => ⟨m.at_, fun j o hj => (by split at hj; exact m.S o (hGS _ _ hj); exact m.F j o hj), fun o ho => m.S o ho.1, m.lo⟩, fun k => ?_, fun k => ?_, fun k l hkl => ?_, fun k => ?_, fun k => ?_, fun k b o hb => ?_, fun b o hb => h.exS b o hb.1, h.old, fun b o hb => ⟨h.inS b o hb, fun hg => hGZ b o hg hb⟩, fun b o hb => h.newS b o hb.1, h.pin, fun t ht => ⟨(h.tab t ht).1, fun o => ⟨(h.tab t ht).2 o, fun hh => hB.t t ht o (e2 _ _ hh)⟩⟩, h.fin⟩
  · rcases leS_lk hs k with e | e
    · show RepS _ _ _ (lkS t' k) _
      rw [e]; trivial
    · have h1 := h.slot k
      have h2 := slotsPlain_lk hp k
      show RepS _ _ _ (lkS t' k) _
      rw [e] at h2 ⊢
      exact RepS.plain h1 h2
  · simp only [lkG_cons]
    split
    · rename_i e
      subst e
      skip
      exact .inr ⟨v, hvi, hrep⟩
    · rename_i hki
      split
      · rename_i e
        subst e
        rcases h.root k with h1 | ⟨u, r1, r2⟩
        · simp only [hb] at h1; cases h1
        · simp only [hb] at r2
          obtain ⟨b, off, us, rfl, l1, l2, l3, l4⟩ := r2
          refine .inr ⟨_, r1, b, off, us, rfl, l1, ?_, by rw [List.length_set]; exact l3, by rw [List.length_set]; exact l4⟩
          exact reps_setSame (bxPlain_rep hpl l2) hk fun u hu => ⟨by rw [hvi, hu.1], hu.1 ▸ hu.2⟩
      · exact .inl rfl
  · by_cases hk : k = i
    · have hl : l ≠ i := fun e => hkl (by rw [hk, e])
      simp only [hk, if_true, if_neg hl]
      exact fun b o x y => h.disS l b o y (hGS b o x)
    · simp only [if_neg hk]
      by_cases hl : l = i
      · simp only [hl, if_true]
        exact fun b o x y => h.disS k b o x (hGS b o y)
      · simp only [if_neg hl]; exact h.dis k l hkl
  · by_cases hk : k = i
    · simp only [hk, if_true]
      exact fun b o x y => y.2 x
    · simp only [if_neg hk]
      exact fun b o x y => h.disS k b o x y.1
  · by_cases hk : k = i
    · simp only [hk, if_true]
      exact fun b o x => (h.newS b o (hGS b o x)).elim (fun hz => absurd hz fun hz => hGZ b o x hz) id
    · simp only [if_neg hk]; exact h.own k
  · by_cases hk : k = i
    · simp only [hk, if_true] at hb
      exact h.exS b o (hGS b o hb)
    · simp only [if_neg hk] at hb; exact h.ex k b o hb
/-- At the end: to be had back. -/
theorem t_rcOf (x : α) (v : Value) (q : Nat) (hq : lkG h0 q = .opq (kbA Z z row L) []) (hm : (x, v) ∈ L) : Conv g ⟨t, h0, n⟩ ⟨t, (q, .opq (rcD Z [.sl true z (row x)] [v]) []) :: h0, n⟩ := t_opqLe q hq fun w S us F ⟨h1, h2, h3⟩ => by
  obtain ⟨G, k1, k2, k3, k4⟩ := h3 _ hm
  exact ⟨h1, h2, G, ⟨⟨v, [], G, no, rfl, le_refl _, no_le _, dis_no _, k1, rfl⟩, k2, k3, k4⟩⟩
end
/-- What is known of an entry of a map. -/
structure GdE where
  p : World → Foot → Bs → Array Value → Prop
  keep : ∀ {w w' : World} {S S' : Foot} {k : Bs} {vs : Array Value}, p w S k vs → Agree w w' S → le S S' → p w' S' k vs
  one : ∀ {w : World} {S : Foot} {k : Bs} {vs : Array Value}, p w S k vs → vs.toList.all Value.oneCell' = true
/-- A map all of whose entries are good. -/
def knQ (Good : GdE) : Opq where
  p w S us F := ∃ b es c, us = [.map (some b)] ∧ mapAt w b = some (.map es c) ∧ stamps es c ∧ (∀ e ∈ es.toList, ∃ k vs, e.key = sv k ∧ e.val = .agg vs ∧ Good.p w S k vs) ∧ ∀ o, F b o
  keep := by
    rintro w w' S S' F F' us ⟨b, es, c, h1, h2, h3, h4, h5⟩ hF hS hle hf
    refine ⟨b, es, c, h1, by rw [(hF b 0 (h5 0)).2.2, h2], h3, fun e he => ?_, fun o => hf _ _ (h5 o)⟩
    obtain ⟨k, vs, g1, g3, g4⟩ := h4 e he
    exact ⟨k, vs, g1, g3, Good.keep g4 hS hle⟩
theorem repCs_app {w : World} {S : Foot} {ρ : Env} {cs' : List C} {vs' : List Value} (h' : RepCs w S ρ cs' vs') : ∀ {cs : List C} {vs : List Value}, RepCs w S ρ cs vs → RepCs w S ρ (cs ++ cs') (vs ++ vs')
  | [], vs, h => by simp only [RepCs] at h; subst h; exact h'
  | c :: cs, vs, h => by
    simp only [RepCs] at h
    obtain ⟨v, us, rfl, h1, h2⟩ := h
    exact ⟨v, us ++ vs', rfl, h1, repCs_app h' h2⟩
section
variable {P : Program} {g : Gh} {st : St} {Good : GdE}
variable {dst : Option Tmp} {ty : TypeId} {pos : String} {after : Array Edge} {guard : Option (Nat × Bool)} {x y z : Operand} {T kt et : TypeId} {i : Nat} {k : Bs}
theorem a_mkMapQ (Good : GdE) {i : Nat} : Acts P g ⟨dst, .makeMap T none, ty, pos, after, guard⟩ st (.one (.gv i)) [] [(i, .opq (knQ Good) [i])] := by
  refine ⟨fun a w S ρ F h hn K Q hK => ?_⟩
  have hn' : ρ i = none := by simpa using hn (i, .opq (knQ Good) [i]) (by simp)
  have hrun : (execOp a.eval ⟨dst, .makeMap T none, ty, pos, after, guard⟩).run P w = .ok (.value (.map (some w.heap.size))) (w.alloc (.map #[] 0)) := rfl
  refine oper_in (fun _ h => nomatch h) ?_
  rw [hrun, Oper.uponIn_value]
  refine hK (.map (some w.heap.size)) _ no _ _ (Done.new (u := .map (some w.heap.size)) (S1 := no) (G := fun b _ => b = w.heap.size) (keeps_alloc _) hn' (fun ρ' hl hu => ?_) (fun b o hb => by subst hb; exact ⟨Nat.le_refl _, by simp⟩)) ⟨by simp, rfl⟩
  refine ⟨[.map (some w.heap.size)], by simp [hu], w.heap.size, #[], 0, rfl, by simp [mapAt, heap_alloc], ⟨by simp, by simp⟩, by simp, fun _ => rfl⟩
theorem rel_mapQ {a : Act} {w : World} {S : Foot} {ρ : Env} {F : Nat → Foot} (h : Rel g st a w S ρ F) (hx : opd st x = .one (.gv i)) (hg : lkG st.h i = .opq (knQ Good) [i]) :
    ∃ b es c, a.eval x = .map (some b) ∧ ρ i = some (.map (some b)) ∧ w.heap[b]? = some (.map es c) ∧ (∀ e ∈ es.toList, ∃ k vs, e.key = sv k ∧ e.val = .agg vs ∧ Good.p w S k vs) ∧ (∀ o, F i b o) ∧ stamps es c := by
  have h1 := (opd_one h hx).1
  rcases h.root i with h0 | ⟨u, r1, r2⟩
  · rw [hg] at h0; cases h0
  rw [hg] at r2
  obtain ⟨us, e1, b, es, c, rfl, e2, e3, e4, e5⟩ := r2
  simp only [List.map_cons, List.map_nil, List.cons.injEq, and_true] at e1
  rw [e1] at h1
  simp only [Option.some.injEq] at h1
  exact ⟨b, es, c, h1.symm, e1, mapAt_some e2, e4, e5, e3⟩
/-- A look-up with two results: what is found is good. -/
theorem o_lookQ {ops : Array Oper} {l : List Oper} {d : Nat} {zs : Array Value} {Q : Exit → St → Prop} (hx : opd st x = .one (.gv i)) (hg : lkG st.h i = .opq (knQ Good) [i]) (hy : opd st y = .one (str k)) (hT : P.underlying T = some (.map kt et)) (hk : P.underlying kt = some .string) (hz : zeroV P et = some (.agg zs)) (hz1 : zs.toList.all Value.oneCell' = true) (hd : Nat.blt d g.n = true)
    {Z : Foot} {z : Nat} {xs : List D} {pr po : List Value} (hnx : D.noOwn.all xs) (hsh : ∀ w S vs, Good.p w S k vs → le Z S ∧ ∃ v, vs = (pr ++ v :: po).toArray ∧ Bk w S Z z xs v) (hyes : GOps P g ops l ⟨(d, .tup [(true, (pr.map fun v => .d (.sc v)) ++ .gv st.n :: po.map fun v => .d (.sc v)), (false, [boo true])]) :: st.t, (st.n + 1, .opq (kb Z z xs) [st.n]) :: (st.n, .sh z xs) :: st.h, st.n + 2⟩ Q)
    (hno : GOps P g ops l (st.eff (some d) (.tup [(true, zs.toList.map fun v => .d (.sc v)), (false, [boo false])]) [] st.n) Q) :
    GOps P g ops (⟨some d, .lookup T x y true, ty, pos, after, none⟩ :: l) st Q := by
  refine ⟨fun a w S ρ F h hf => ?_⟩
  refine wpListIn_plain rfl fun K hK => ?_
  obtain ⟨b, es, c, e1, e0, e2, e3, e4, e5⟩ := rel_mapQ h hx hg
  have hd' : d < g.n := Nat.le_of_ble_eq_true hd
  have hzr : (zeroValue et).run P w = .ok (.agg zs) w := run_zeroV hz
  have key : ∃ v, (Instr.lookup T (a.eval x) (a.eval y) true).run P w = .ok v w ∧ ((v = .tuple #[.agg zs, .bool false]) ∨ ∃ vs, Good.p w S k vs ∧ v = .tuple #[.agg vs, .bool true]) := by
    rw [e1, opd_sc h hy]
    rcases findNow_K k es.toList 0 (fun e he => (e3 e he).imp fun k h => by obtain ⟨_, h, _⟩ := h; exact h) with g2 | ⟨j, e, g2, g3, g4⟩
    · refine ⟨_, ?_, .inl rfl⟩
      simp [Instr.lookup, run_underlying hT, MapKept.run_getObj_map e2, MapKept.run_checkKey hk (mSB.isK k) es.isEmpty 9999, MapKept.run_findKey hk g2, hzr]
    · obtain ⟨k', vs, q1, q3, q4⟩ := e3 e (List.mem_of_getElem? g3)
      have : k' = k := mSB.inj _ _ (q1.symm.trans g4)
      subst this
      refine ⟨_, ?_, .inr ⟨vs, q4, rfl⟩⟩
      rw [q3] at g2
      simp [Instr.lookup, run_underlying hT, MapKept.run_getObj_map e2, MapKept.run_checkKey hk (mSB.isK k') es.isEmpty 9999, MapKept.run_findKey hk g2]
  obtain ⟨v, hrun, hv⟩ := key
  have hrun' : (execOp a.eval ⟨some d, .lookup T x y true, ty, pos, after, none⟩).run P w = .ok (.value v) w := by
    show (do pure (.value (← Instr.lookup T (a.eval x) (a.eval y) true)) : Sem Next).run P w = _
    simp [hrun]
  refine oper_in (fun _ h => nomatch h) ?_
  rw [hrun', Oper.uponIn_value]
  rcases hv with rfl | ⟨vs, q1, rfl⟩
  · refine hK _ _ (hno.run _ _ _ _ _ (h.done (n := st.n) (dst := some d) (sv := .tup [(true, zs.toList.map fun v => .d (.sc v)), (false, [boo false])]) (Done.nil w S ρ F) (fun d' e => by cases e; exact hd') ?_) hf)
    exact ⟨_, rfl, .agg zs, [.bool false], rfl, ⟨zs, rfl, repCs_sc hz1⟩, .bool false, [], rfl, ⟨_, [], rfl, ⟨rfl, rfl⟩, rfl⟩, rfl⟩
  · obtain ⟨e6, v, rfl, e7⟩ := hsh _ _ _ q1
    have hone := Good.one q1
    have h1 := h.done (n := st.n) (dst := some d) (v := .tuple #[.agg (pr ++ v :: po).toArray, .bool true]) (sv := .any) (Done.nil w S ρ F) (fun d' e => by cases e; exact hd') trivial
    rw [or_no] at h1
    obtain ⟨ρ1, l1, hv1, r1, r2⟩ := rel_newV (t := (d, .any) :: st.t) (h0 := st.h) (n := st.n) (gb := .sh z xs) (v := v) h1 (fun i hi => hf i hi) fun ρ' => e7.sh hnx
    obtain ⟨ρ2, l2, r3, r4⟩ := rel_newC (R := kb Z z xs) (cs := [st.n]) (us := [v]) r1 r2 (by simp [hv1]) ⟨e6, v, rfl, e7⟩
    have hv2 := l2 _ _ hv1
    refine hK _ _ (hyes.run _ w S ρ2 (mrg F F []) ?_ r4)
    have h5 := r3.setSlot (d := d) (sv := .tup [(true, (pr.map fun v => .d (.sc v)) ++ .gv st.n :: po.map fun v => .d (.sc v)), (false, [boo true])]) (by
      have hsz := h.size
      simp only [Option.elim, Act.put]
      have e8 : (a.tmps.setIfInBounds d (Value.tuple #[.agg (pr ++ v :: po).toArray, .bool true])).getD d undef = Value.tuple #[.agg (pr ++ v :: po).toArray, .bool true] := by
        rw [Array.getD_eq_getD_getElem?, Array.getElem?_setIfInBounds_self_of_lt (by omega)]
        rfl
      show RepS w S ρ2 _ ((a.tmps.setIfInBounds d _).getD d undef)
      rw [e8]
      refine ⟨_, rfl, .agg (pr ++ v :: po).toArray, [.bool true], rfl, ⟨_, rfl, ?_⟩, .bool true, [], rfl, ⟨_, [], rfl, ⟨rfl, rfl⟩, rfl⟩, rfl⟩
      rw [List.all_eq_true] at hone
      have hs1 : ∀ l : List Value, (∀ u ∈ l, u.oneCell' = true) → RepCs w S ρ2 (l.map fun v => .d (.sc v)) l := fun l hl => repCs_sc (List.all_eq_true.2 hl)
      have hcv : RepCs w S ρ2 (.gv st.n :: po.map fun v => .d (.sc v)) (v :: po) := ⟨v, po, rfl, ⟨hv2, hone v (by simp)⟩, hs1 po fun u hu => hone u (by simp [hu])⟩
      exact repCs_app hcv (hs1 pr fun u hu => hone u (by simp [hu])))
    exact h5.same (fun i => by
      show lkS ((d, _) :: st.t) i = lkS ((d, _) :: (d, SV.any) :: st.t) i
      simp only [lkS_cons]
      split <;> rfl) (fun i => rfl)
/-- A good entry is laid. -/
theorem a_updQ {cs : List C} (hx : opd st x = .one (.gv i)) (hg : lkG st.h i = .opq (knQ Good) [i]) (hy : opd st y = .one (str k)) (hv : opd st z = .agg cs) (hgood : ∀ a w S ρ F vs, Rel g st a w S ρ F → RepCs w S ρ cs vs.toList → Good.p w S k vs) (hT : P.underlying T = some (.map kt et)) (hk : P.underlying kt = some .string) :
    Acts P g ⟨none, .mapUpdate T x y z, ty, pos, after, guard⟩ st .any [i] [(i, .opq (knQ Good) [i])] := by
  refine ⟨fun a w S ρ F h _ K Q hK => ?_⟩
  obtain ⟨b, es, c, e1, e0, e2, e3, e4, e5⟩ := rel_mapQ h hx hg
  have hbs : b < w.heap.size := (Array.getElem?_eq_some_iff.1 e2).1
  have hz := h.opd z
  rw [hv] at hz
  obtain ⟨vs', hvz, hvs⟩ := hz
  have hr := hgood a w S ρ F vs' h hvs
  have key : ∃ es' c', (Instr.mapUpdate T (a.eval x) (a.eval y) (a.eval z)).run P w = .ok () { w with heap := w.heap.setIfInBounds b (.map es' c') } ∧ (∀ e ∈ es'.toList, ∃ k vs, e.key = sv k ∧ e.val = .agg vs ∧ Good.p w S k vs) ∧ stamps es' c' := by
    rw [e1, opd_sc h hy, hvz]
    rcases findNow_K k es.toList 0 (fun e he => (e3 e he).imp fun k h => by obtain ⟨_, h, _⟩ := h; exact h) with g2 | ⟨j, e, g2, g3, g4⟩
    · refine ⟨es.push { key := sv k, val := .agg vs', born := c }, c + 1, ?_, fun e he => ?_, stamps_push e5⟩
      · simp [Instr.mapUpdate, run_underlying hT, MapKept.run_getObj_map e2, MapKept.run_checkKey hk (mSB.isK k) false 9999, MapKept.run_findKey hk g2, MapKept.run_setObj_map _ e2]
      · simp only [Array.toList_push, List.mem_append, List.mem_singleton] at he
        rcases he with he | rfl
        · exact e3 e he
        · exact ⟨k, _, rfl, rfl, hr⟩
    · rw [Nat.zero_add] at g2
      have g3' : es[j]? = some e := by simpa using g3
      refine ⟨es.modify j fun e => { e with key := sv k, val := .agg vs' }, c, ?_, fun x hx => ?_, stamps_modify e5⟩
      · simp [Instr.mapUpdate, run_underlying hT, MapKept.run_getObj_map e2, MapKept.run_checkKey hk (mSB.isK k) false 9999, MapKept.run_findKey hk g2, g3', g4, MapKept.run_keyThatStays (mSB.isK k), MapKept.run_setObj_map _ e2]
      · rw [arr_modify] at hx
        obtain ⟨q, hq⟩ := List.getElem?_of_mem hx
        rw [List.getElem?_modify] at hq
        cases hqe : es.toList[q]? with
        | none => rw [hqe] at hq; simp at hq
        | some e' =>
          rw [hqe] at hq
          simp only [Option.map_eq_map, Option.map_some, Option.some.injEq] at hq
          subst hq
          split
          · exact ⟨k, _, rfl, rfl, hr⟩
          · exact e3 e' (List.mem_of_getElem? hqe)
  obtain ⟨es', c', hrun, hes, hst⟩ := key
  have hrun' : (execOp a.eval ⟨none, .mapUpdate T x y z, ty, pos, after, guard⟩).run P w = .ok .skip { w with heap := w.heap.setIfInBounds b (.map es' c') } := by
    show (do Instr.mapUpdate T (a.eval x) (a.eval y) (a.eval z); pure .skip : Sem Next).run P w = _
    simp [hrun]
  refine oper_in (fun _ h => nomatch h) ?_
  rw [hrun', Oper.uponIn_skip]
  have hk' := (keeps_map (es' := es') (c' := c') e2).mono (F1 := F i) (by rintro b' o rfl; exact e4 o)
  have hagS := hk'.agree h.exS (fun b o hb hf => h.disS i b o hf hb)
  refine hK undef _ no ρ _ (Done.chg (G := F i) hk' e0 ?_ (fun b o hb => ⟨.inl hb, by simpa using h.ex i b o hb⟩)) trivial
  refine ⟨[.map (some b)], by simp [e0], b, es', c', rfl, by simp [mapAt, (heap_set (o' := .map es' c') e2).1], hst, fun e he => ?_, e4⟩
  obtain ⟨k, vs, q1, q3, q4⟩ := hes e he
  exact ⟨k, vs, q1, q3, Good.keep q4 hagS (le_refl _)⟩
end
end Go.Proofs.YtcmdfohamphndaaGreatDoor
end
section
set_option linter.unusedVariables false
set_option linter.unusedSimpArgs false
set_option maxRecDepth 100000
set_option maxHeartbeats 4000000
namespace Go.Proofs.YtcmdfohamphndaaGreatDoor
open Go Foot
abbrev rwM (m : Mach) : List D := rows eR m.ru
/-- What is known of an entry: the node of a machine, whose rules can be had back. -/
def GdM (B sy st : Int) (Z : Foot) : GdE where
  p w S k vs := le Z S ∧ ∃ m v, NdOk sy st m ∧ k = macT m ∧ vs = #[.int .i64 m.sy, .int .i64 m.st, v, .int .i64 (ndS m B), .int .i64 (ndA m B)] ∧ Bk w S Z 3 (rwM m) v
  keep := fun ⟨h0, m, v, h1, h2, h3, h4⟩ hS hle => ⟨h0.trans hle, m, v, h1, h2, h3, h4.keep hS hle⟩
  one := by
    rintro w S k vs ⟨_, m, v, _, _, rfl, G, h, _⟩
    rw [List.all_eq_true]
    intro x hx
    have hx : x ∈ [Value.int .i64 m.sy, .int .i64 m.st, v, .int .i64 (ndS m B), .int .i64 (ndA m B)] := hx
    simp only [List.mem_cons, List.not_mem_nil, or_false] at hx
    rcases hx with rfl | rfl | rfl | rfl | rfl
    all_goals first | rfl | exact h.one
theorem gd_sh {B sy st : Int} {Z : Foot} {m : Mach} (hm : NdOk sy st m) : ∀ w S vs, (GdM B sy st Z).p w S (macT m) vs → le Z S ∧ ∃ v, vs = (([.int .i64 m.sy, .int .i64 m.st] : List Value) ++ v :: ([.int .i64 (ndS m B), .int .i64 (ndA m B)] : List Value)).toArray ∧ Bk w S Z 3 (rwM m) v := by
  rintro w S vs ⟨h0, m', v, h1, h2, h3, h4⟩
  have e := macT_inj hm h1 h2
  subst e
  exact ⟨h0, v, h3, h4⟩
theorem gd_of {B sy st : Int} {Z : Foot} {m : Mach} {g : Gh} {s : St} (q r : Nat) (hm : NdOk sy st m) (hq : lkG s.h q = .opq (kb Z 3 (rwM m)) [r]) : ∀ a w S ρ F (vs : Array Value), Rel g s a w S ρ F → RepCs w S ρ [int m.sy, int m.st, .gv r, int (ndS m B), int (ndA m B)] vs.toList → (GdM B sy st Z).p w S (macT m) vs := by
  intro a w S ρ F vs h hr
  obtain ⟨us, e1, e2, v, rfl, e3⟩ := rel_opq (t := s.t) (h0 := s.h) (n := s.n) h hq
  simp only [List.map_cons, List.map_nil, List.cons.injEq, and_true] at e1
  simp only [RepCs, RepC, Rep] at hr
  obtain ⟨_, _, f1, ⟨rfl, _⟩, _, _, rfl, ⟨rfl, _⟩, v', _, rfl, ⟨f2, _⟩, _, _, rfl, ⟨rfl, _⟩, _, _, rfl, ⟨rfl, _⟩, rfl⟩ := hr
  rw [e1] at f2
  cases f2
  refine ⟨e2, m, v, hm, rfl, ?_, e3⟩
  apply Array.ext'
  exact f1
/-- The forest's map. -/
abbrev foQ (Z : Foot) (B sy st : Int) (i : Nat) : GB := .opq (knQ (GdM B sy st Z)) [i]
abbrev kbM (Z : Foot) (m : Mach) (r : Nat) : GB := .opq (kb Z 3 (rwM m)) [r]
abbrev shM (m : Mach) : GB := .sh 3 (rwM m)
theorem preB114 {p : Prop} (h : p := by first | with_reducible assumption | omega | (simp only [List.length_append, List.length_cons, List.length_nil, List.length_set, List.length_replicate, List.length_take, List.length_drop, List.length_tail, List.length_dropLast, List.length_reverse] at *; omega) | exact mem_len (by assumption) (by omega) | (with_reducible refine Int.le_trans (Int.ofNat_le.2 (trimR_len _)) ?_; simp only [List.length_cons, List.length_tail]; omega) | (exact (ruAt_ok (by assumption) (by assumption) (by assumption)).2.1) | (exact (ruAt_ok (by assumption) (by assumption) (by assumption)).2.1) | (have := vMach_bd (by assumption); omega) | (simp only [mC_ch, mC_tu]; omega) | (have := vTag_bd (by assumption); omega) | (have := (‹Gd _ _›).le; omega) | (exact tgHalts_no (by assumption)) | (exact tgHead (by assumption) (by assumption) (by assumption)) | (exact Int.le_trans (tgStep_gd (by assumption) (by assumption) (by assumption) (by assumption)).le (by decide)) | (exact vTag_r (by assumption)) | (with_reducible refine Int.le_trans (Int.ofNat_le.2 (pushL_len _ _)) ?_; simp only [List.length_dropLast]; omega) | exact ls_at (by assumption) (by omega) | exact pt_gd (by assumption) | exact lv_at (by assumption) (by omega) | exact pt_gd (lv_at (by assumption) (by omega)) | exact (ask_ok (by assumption)).1 | exact (ask_ok (by assumption)).2.1 | exact (ask_ok (by assumption)).2.2.1 | exact (ask_ok (by assumption)).2.2.2 | trivial) : p := h
theorem mlockQ_ok (Z : Foot) (st sy B : Int) : Does Tryz.prog 148 [.one (.gp 0 3)] [.bx (foC st sy B 0), foQ Z B sy st 1] (.tup []) [.bx (foC st sy B 1), foQ Z B sy st 1] := does_lock muLib rfl rfl
theorem lookQ_ok (Z : Foot) (st sy B : Int) (m : Mach) (hm : NdOk sy st m) (h0 : 0 ≤ B) (h1 : B ≤ 1000000) : Does Tryz.prog 88 [.one (.gv 0), .agg [int m.sy, int m.st, .gv 2]] [.bx (foC st sy B 0), foQ Z B sy st 1, shM m, kbM Z m 2] (.agg [int m.sy, int m.st, .gv 4, int (ndS m B), int (ndA m B)]) [.bx (foC st sy B 0), foQ Z B sy st 1, shM m, kbM Z m 2, shM m, kbM Z m 4] := by
  have hv := hm.v
  refine does_ofU muLib Unlock_is Unlock_ent (o := 3) (k := 4) Tryz.func88 rfl Tryz.ntmps88 rfl rfl fun w F0 S0 ρ0 b off hρ => ?_
  dsimp only [argT, argH]
  refine gx_seq2 ?_
  repeat' first | (apply n3; exact a_new (gb := .bx _) rfl; exact rfl; refine dA ?_) | refine cdn ?_ | refine g_reg (id := 0) ?_ | ((first | refine o_gs rfl rfl (fun hc => ?_) (fun hc => ?_) | refine g_cond rfl (fun hc => ?_) (fun hc => ?_)) <;> (try simp only [dcB] at hc) <;> (try first | contradiction | (exfalso; omega)))
  refine qSeqX.go ?_
  refine gx_seq2 ?_
  repeat' first | (apply n3; exact a_new (gb := .bx _) rfl; exact rfl; refine dA ?_) | (apply p3; exact pu1; exact rfl) | refine cdn ?_ | refine g_reg (id := 0) ?_ | refine g_reg (id := 1) ?_ | (apply c4 0; exact callK0 (θ := [0, 1]) (hD := (mlockQ_ok Z st sy B)); exact rfl; exact rfl; exact rfl; refine dM ?_) | ((first | refine o_gs rfl rfl (fun hc => ?_) (fun hc => ?_) | refine g_cond rfl (fun hc => ?_) (fun hc => ?_)) <;> (try simp only [dcB] at hc) <;> (try first | contradiction | (exfalso; omega)))
  refine qSeqX.go ?_
  refine gx_seq rfl ?_
  refine gx_region ?_
  refine xp3 (sv := .one (.gv 0)) (a_pure (sv := .one _) rfl) rfl ?_
  refine xp3 (sv := .one (.gv 0)) (a_pure (sv := .one _) rfl) rfl ?_
  refine xp3 (sv := .one (.gp 0 3)) (a_pure (sv := .one _) rfl) rfl ?_
  refine ox_put rfl (Nat.le_of_ble_eq_true rfl) hρ rfl rfl rfl ?_
  dsimp only [Gh.put]
  refine cd ?_
  refine cd ?_
  repeat' first | (apply n3; exact a_new (gb := .bx _) rfl; exact rfl; refine dA ?_) | (apply p3; (first | exact pu1 | exact puL); exact rfl) | refine cdn ?_ | refine g_reg (id := 0) ?_ | refine g_reg (id := 1) ?_ | refine g_reg (id := 2) ?_ | refine g_reg (id := 3) ?_ | refine g_reg (id := 4) ?_ | (apply w3; (first | exact a_st_bx rfl rfl rfl rfl (fN rfl rfl) (Nat.le_of_ble_eq_true rfl) rfl | exact a_stE (E := (eNd B)) _ rfl rfl rfl rfl (fN rfl rfl) bnd (by exact rfl)); exact rfl; refine dS ?_) | (apply c4 0; exact callK0 (θ := [0, 1]) (hD := (mlockQ_ok Z st sy B)); exact rfl; exact rfl; exact rfl; refine dM ?_) | (apply c4 0; exact callK1 (θ := []) (hD := (MachineText_ok _ preB114)); exact rfl; exact rfl; exact rfl; refine dM ?_) | ((first | refine o_gs rfl rfl (fun hc => ?_) (fun hc => ?_) | refine g_cond rfl (fun hc => ?_) (fun hc => ?_)) <;> (try simp only [dcB] at hc) <;> (try first | contradiction | (exfalso; omega)))
  refine o_lookQ (Good := GdM B sy st Z) (zs := #[.int .i64 0, .int .i64 0, .slice none 0 0, .int .i64 0, .int .i64 0]) rfl rfl rfl Tryz.underlying159 (by kernel_rfl) (by kernel_rfl) (by kernel_rfl) rfl nowR (gd_sh hm) ?_ ?_
  · dsimp only [St.eff, List.map_cons, List.map_nil, List.nil_append, List.cons_append]
    repeat' first | (apply n3; exact a_new (gb := .bx _) rfl; exact rfl; refine dA ?_) | (apply p3; (first | exact pu1 | exact puL); exact rfl) | refine cd ?_ | (apply w3; (first | exact a_st_bx rfl rfl rfl rfl (fN rfl rfl) (Nat.le_of_ble_eq_true rfl) rfl | exact a_stE (E := (eNd B)) _ rfl rfl rfl rfl (fN rfl rfl) bnd (by exact rfl)); exact rfl; refine dS ?_) | (apply c4 0; exact callK0 (θ := [0, 1]) (hD := (mlockQ_ok Z st sy B)); exact rfl; exact rfl; exact rfl; refine dM ?_) | (apply c4 0; exact callK1 (θ := []) (hD := (MachineText_ok _ preB114)); exact rfl; exact rfl; exact rfl; refine dM ?_) | (apply g_drN (id := 6) okM [[],[],[1],[1,2],[1,2,3],[0,1,2,3,4],[0,1,2,3,4,5],[0,1,2,3,4,5,6],[0,1,2,3,4,5,6],[0,1,2,3,4,5,6],[0,1,2,3,4,5,6,7],[0,1,2,3,4,5,6,7,8,10],[0,1,2,3,4,5,6,7,8,9,10,11]] [([],[]),([],[]),([],[]),([],[]),([],[]),([],[]),([],[]),([],[]),([],[]),([],[]),([],[]),([],[]),([],[])] 0; (focus (refine dp 0 0 [33, 34, 35, 36] [] puL ?_; refine dp 1 0 [32] [] pu1 ?_; refine dp 2 1 [32] [] (a_pure (sv := .one _) rfl) ?_; refine dp 3 3 [32] [] (a_pure (sv := .one _) rfl) ?_; refine dp 4 7 [32] [] puL ?_; refine dp 5 31 [] [] (callD1 (n := _) 0 (θ := []) (hD := (nodeStatus_ok _ _ preB114 preB114 preB114))) ?_; refine dp 6 63 [] [] pu1 ?_; refine dp 7 127 [39, 40] [] pu2 ?_; refine dp 8 254 [38, 40, 8] [] pu2 ?_; refine dp 9 508 [38, 39, 8, 9] [] pu2 ?_; refine dp 10 1020 [39, 40] [] pu1 ?_; refine dp 11 2045 [40] [] pu1 ?_; refine dp 12 4095 [] [] pu1 ?_; (refine d_nil ?_; refine dN ?_))); any_goals kernel_rfl) | (apply g_drN (id := 8) okM [[],[0],[0,1],[0,1,2],[],[],[0,1,2,3,4,5]] [([],[]),([],[]),([],[]),([],[]),([],[]),([],[]),([],[1])] 0; (focus (refine dp 0 0 [49, 50] [] pu1 ?_; refine dp 1 1 [49, 50] [] (a_pure (sv := .one _) rfl) ?_; refine dp 2 3 [49, 50] [] (a_pure (sv := .one _) rfl) ?_; refine dp 3 7 [49, 50] [] puL ?_; refine dp 4 0 [45, 46, 47, 48, 50] [] pu1 ?_; refine dp 5 0 [45, 46, 47, 48, 49] [] puL ?_; refine duE 6 63 [] [] (a_updQ (Good := GdM B sy st Z) (k := macT m) rfl rfl rfl rfl (gd_of 3 2 hm rfl) Tryz.underlying159 (by kernel_rfl)) (by exact rfl) (by exact rfl) ?_; (refine d_nil ?_; refine dN ?_))); any_goals kernel_rfl) | ((first | refine o_gs rfl rfl (fun hc => ?_) (fun hc => ?_) | refine g_cond rfl (fun hc => ?_) (fun hc => ?_)) <;> (try simp only [dcB] at hc) <;> (try first | contradiction | (exfalso; omega)))
    repeat refine cr ?_
    refine endsU rfl rfl ?_
    repeat refine cr ?_
    refine ends_id ?_
    refine endK [6, 7] (h2 := ?_) (h3 := ?_) (nd := ?_)
    all_goals (repeat' first | exact ce0 | refine ce ?_ | refine ce2 ?_ ?_ | (refine Or.inr (bx_eq rfl rfl ?_); (try dsimp only [C.ren, C.ren.all]); (try exact rfl)) | exact SVLe.refl | refine ceb ?_)
    all_goals first | exact (show nodupB _ = true from rfl) | exact Or.inr rfl | (rfl)
  · dsimp only [St.eff, List.map_cons, List.map_nil, List.nil_append]
    repeat' first | (apply n3; exact a_new (gb := .bx _) rfl; exact rfl; refine dA ?_) | (apply p3; (first | exact pu1 | exact puL); exact rfl) | refine cdn ?_ | refine g_reg (id := 0) ?_ | refine g_reg (id := 1) ?_ | refine g_reg (id := 2) ?_ | refine g_reg (id := 3) ?_ | refine g_reg (id := 4) ?_ | refine g_reg (id := 5) ?_ | refine g_reg (id := 7) ?_ | (apply w3; (first | exact a_st_bx rfl rfl rfl rfl (fN rfl rfl) (Nat.le_of_ble_eq_true rfl) rfl | exact a_stE (E := (eNd B)) _ rfl rfl rfl rfl (fN rfl rfl) bnd (by exact rfl)); exact rfl; refine dS ?_) | (apply c4 0; exact callK0 (θ := [0, 1]) (hD := (mlockQ_ok Z st sy B)); exact rfl; exact rfl; exact rfl; refine dM ?_) | (apply c4 0; exact callK1 (θ := []) (hD := (MachineText_ok _ preB114)); exact rfl; exact rfl; exact rfl; refine dM ?_) | (apply g_drN (id := 6) okM [[],[],[1],[1,2],[1,2,3],[0,1,2,3,4],[0,1,2,3,4,5],[0,1,2,3,4,5,6],[0,1,2,3,4,5,6],[0,1,2,3,4,5,6],[0,1,2,3,4,5,6,7],[0,1,2,3,4,5,6,7,8,10],[0,1,2,3,4,5,6,7,8,9,10,11]] [([],[]),([],[]),([],[]),([],[]),([],[]),([],[]),([],[]),([],[]),([],[]),([],[]),([],[]),([],[]),([],[])] 0; (focus (refine dp 0 0 [33, 34, 35, 36] [] puL ?_; refine dp 1 0 [32] [] pu1 ?_; refine dp 2 1 [32] [] (a_pure (sv := .one _) rfl) ?_; refine dp 3 3 [32] [] (a_pure (sv := .one _) rfl) ?_; refine dp 4 7 [32] [] puL ?_; refine dp 5 31 [] [] (callD1 (n := _) 0 (θ := []) (hD := (nodeStatus_ok _ _ preB114 preB114 preB114))) ?_; refine dp 6 63 [] [] pu1 ?_; refine dp 7 127 [39, 40] [] pu2 ?_; refine dp 8 254 [38, 40, 8] [] pu2 ?_; refine dp 9 508 [38, 39, 8, 9] [] pu2 ?_; refine dp 10 1020 [39, 40] [] pu1 ?_; refine dp 11 2045 [40] [] pu1 ?_; refine dp 12 4095 [] [] pu1 ?_; (refine d_nil ?_; refine dN ?_))); any_goals kernel_rfl) | (apply g_drN (id := 8) okM [[],[0],[0,1],[0,1,2],[],[],[0,1,2,3,4,5]] [([],[]),([],[]),([],[]),([],[]),([],[]),([],[]),([],[1])] 0; (focus (refine dp 0 0 [49, 50] [] pu1 ?_; refine dp 1 1 [49, 50] [] (a_pure (sv := .one _) rfl) ?_; refine dp 2 3 [49, 50] [] (a_pure (sv := .one _) rfl) ?_; refine dp 3 7 [49, 50] [] puL ?_; refine dp 4 0 [45, 46, 47, 48, 50] [] pu1 ?_; refine dp 5 0 [45, 46, 47, 48, 49] [] puL ?_; refine duE 6 63 [] [] (a_updQ (Good := GdM B sy st Z) (k := macT m) rfl rfl rfl rfl (gd_of 3 2 hm rfl) Tryz.underlying159 (by kernel_rfl)) (by exact rfl) (by exact rfl) ?_; (refine d_nil ?_; refine dN ?_))); any_goals kernel_rfl) | ((first | refine o_gs rfl rfl (fun hc => ?_) (fun hc => ?_) | refine g_cond rfl (fun hc => ?_) (fun hc => ?_)) <;> (try simp only [dcB] at hc) <;> (try first | contradiction | (exfalso; omega)))
    refine g_reg (id := 9) ?_
    refine p3 pu2 rfl ?_
    refine o_dupS 51 2 3 rfl rfl rfl nowR ?_
    repeat' first | (apply n3; exact a_new (gb := .bx _) rfl; exact rfl; refine dA ?_) | (apply p3; (first | exact pu1 | exact puL); exact rfl) | refine cd ?_ | (apply w3; (first | exact a_st_bx rfl rfl rfl rfl (fN rfl rfl) (Nat.le_of_ble_eq_true rfl) rfl | exact a_stE (E := (eNd B)) _ rfl rfl rfl rfl (fN rfl rfl) bnd (by exact rfl)); exact rfl; refine dS ?_) | (apply c4 0; exact callK0 (θ := [0, 1]) (hD := (mlockQ_ok Z st sy B)); exact rfl; exact rfl; exact rfl; refine dM ?_) | (apply c4 0; exact callK1 (θ := []) (hD := (MachineText_ok _ preB114)); exact rfl; exact rfl; exact rfl; refine dM ?_) | (apply g_drN (id := 6) okM [[],[],[1],[1,2],[1,2,3],[0,1,2,3,4],[0,1,2,3,4,5],[0,1,2,3,4,5,6],[0,1,2,3,4,5,6],[0,1,2,3,4,5,6],[0,1,2,3,4,5,6,7],[0,1,2,3,4,5,6,7,8,10],[0,1,2,3,4,5,6,7,8,9,10,11]] [([],[]),([],[]),([],[]),([],[]),([],[]),([],[]),([],[]),([],[]),([],[]),([],[]),([],[]),([],[]),([],[])] 0; (focus (refine dp 0 0 [33, 34, 35, 36] [] puL ?_; refine dp 1 0 [32] [] pu1 ?_; refine dp 2 1 [32] [] (a_pure (sv := .one _) rfl) ?_; refine dp 3 3 [32] [] (a_pure (sv := .one _) rfl) ?_; refine dp 4 7 [32] [] puL ?_; refine dp 5 31 [] [] (callD1 (n := _) 0 (θ := []) (hD := (nodeStatus_ok _ _ preB114 preB114 preB114))) ?_; refine dp 6 63 [] [] pu1 ?_; refine dp 7 127 [39, 40] [] pu2 ?_; refine dp 8 254 [38, 40, 8] [] pu2 ?_; refine dp 9 508 [38, 39, 8, 9] [] pu2 ?_; refine dp 10 1020 [39, 40] [] pu1 ?_; refine dp 11 2045 [40] [] pu1 ?_; refine dp 12 4095 [] [] pu1 ?_; (refine d_nil ?_; refine dN ?_))); any_goals kernel_rfl) | (apply g_drN (id := 8) okM [[],[0],[0,1],[0,1,2],[],[],[0,1,2,3,4,5]] [([],[]),([],[]),([],[]),([],[]),([],[]),([],[]),([],[1])] 0; (focus (refine dp 0 0 [49, 50] [] pu1 ?_; refine dp 1 1 [49, 50] [] (a_pure (sv := .one _) rfl) ?_; refine dp 2 3 [49, 50] [] (a_pure (sv := .one _) rfl) ?_; refine dp 3 7 [49, 50] [] puL ?_; refine dp 4 0 [45, 46, 47, 48, 50] [] pu1 ?_; refine dp 5 0 [45, 46, 47, 48, 49] [] puL ?_; refine duE 6 63 [] [] (a_updQ (Good := GdM B sy st Z) (k := macT m) rfl rfl rfl rfl (gd_of 3 2 hm rfl) Tryz.underlying159 (by kernel_rfl)) (by exact rfl) (by exact rfl) ?_; (refine d_nil ?_; refine dN ?_))); any_goals kernel_rfl) | ((first | refine o_gs rfl rfl (fun hc => ?_) (fun hc => ?_) | refine g_cond rfl (fun hc => ?_) (fun hc => ?_)) <;> (try simp only [dcB] at hc) <;> (try first | contradiction | (exfalso; omega)))
    repeat refine cr ?_
    refine endsU rfl rfl ?_
    repeat refine cr ?_
    refine ends_id ?_
    refine endK [7, 8] (h2 := ?_) (h3 := ?_) (nd := ?_)
    all_goals (repeat' first | exact ce0 | refine ce ?_ | refine ce2 ?_ ?_ | (refine Or.inr (bx_eq rfl rfl ?_); (try dsimp only [C.ren, C.ren.all]); (try exact rfl)) | exact SVLe.refl | refine ceb ?_)
    all_goals first | exact (show nodupB _ = true from rfl) | exact Or.inr rfl | (rfl)
theorem forestQ_ok (Z : Foot) (st sy B : Int) : Does Tryz.prog 70 [.one (int st), .one (int sy), .one (int B)] [] (.one (.gv 0)) [.bx (foC st sy B 0), foQ Z B sy st 1] := by
  refine does_of (k := 0) Tryz.func70 rfl Tryz.ntmps70 rfl rfl fun w F0 S0 ρ0 => ?_
  dsimp only [argT, argH]
  repeat' first | (apply n3; (first | exact a_mkMapQ (GdM B sy st Z) | exact a_new (gb := .bx _) rfl); exact rfl; refine dA ?_) | (apply p3; exact pu1; exact rfl) | refine cd ?_ | ((first | refine o_gs rfl rfl (fun hc => ?_) (fun hc => ?_) | refine g_cond rfl (fun hc => ?_) (fun hc => ?_)) <;> (try simp only [dcB] at hc) <;> (try first | contradiction | (exfalso; omega)))
  repeat refine cr ?_
  refine ends_id ?_
  refine endK [?_, ?_] (h2 := ?_) (h3 := ?_) (nd := ?_)
  rotate_left 2
  all_goals (repeat' first | exact ce0 | refine ce ?_ | refine ce2 ?_ ?_ | (refine Or.inr (bx_eq rfl rfl ?_); (try dsimp only [C.ren, C.ren.all]); (try exact rfl)) | exact SVLe.refl | refine ceb ?_)
  all_goals first | exact (show nodupB _ = true from rfl) | exact Or.inr rfl | (rfl)
theorem emptyQ_ok (Z : Foot) (st sy : Int) (h1 : 1 ≤ st) (h2 : st ≤ 6) (h3 : 2 ≤ sy) (h4 : sy ≤ 6) : Does Tryz.prog 89 [.one (int st), .one (int sy)] [.opq (zw Z) []] (.agg [int (root sy st).sy, int (root sy st).st, .gv 1]) [.opq (zw Z) [], shM (root sy st), kbM Z (root sy st) 1] := by
  have hp1 : 0 ≤ st * sy := Int.mul_nonneg (by omega) (by omega)
  have hp2 : st * sy ≤ 6 * 6 := Int.mul_le_mul (by omega) (by omega) (by omega) (by omega)
  have e1 : (root sy st).sy = sy := by unfold root; rfl
  have e2 : (root sy st).st = st := by unfold root; rfl
  have e3 : (root sy st).ru = List.replicate (st * sy).toNat noR := by unfold root; rfl
  dsimp only [shM, kbM, rwM]
  rw [e1, e2, e3]
  refine does_of (k := 1) Tryz.func89 rfl Tryz.ntmps89 rfl rfl fun w F0 S0 ρ0 => ?_
  dsimp only [argT, argH]
  repeat' first | (apply n3; (first | exact a_new (gb := .bx _) rfl | exact a_litE eR [⟨_, _, _⟩] rfl rfl rfl rfl rfl rfl rfl rfl); exact rfl; refine dA ?_) | (apply p3; (first | exact pu1 | exact a_mulB rfl rfl (by omega) (by omega) (by omega) (by omega) | exact a_mul rfl rfl (by first | omega | assumption) (by first | omega | assumption)); exact rfl) | refine cd ?_ | (apply w3; (first | exact a_st_bx rfl rfl rfl rfl (fN rfl rfl) (Nat.le_of_ble_eq_true rfl) rfl | exact a_stE (E := eMa) ⟨_, _, _⟩ rfl rfl rfl rfl (fN rfl rfl) bnd (by exact rfl)); exact rfl; refine dS ?_) | (apply c4 0; exact callK1 (θ := []) (hD := noRule_ok); exact rfl; exact rfl; exact rfl; refine dM ?_) | (apply c4 1; exact callK1 (θ := []) (hD := (repeatR_ok _ _ preB114 preB114)); exact rfl; exact rfl; exact rfl; refine dM ?_) | ((first | refine o_gs rfl rfl (fun hc => ?_) (fun hc => ?_) | refine g_cond rfl (fun hc => ?_) (fun hc => ?_)) <;> (try simp only [dcB] at hc) <;> (try first | contradiction | (exfalso; omega)))
  refine g_frzS 3 0 rfl rfl plR nowR ?_
  repeat refine cr ?_
  refine ends_id ?_
  refine endK [3, 4] (h2 := ?_) (h3 := ?_) (nd := ?_)
  all_goals (repeat' first | exact ce0 | refine ce ?_ | refine ce2 ?_ ?_ | (refine Or.inr (bx_eq rfl rfl ?_); (try dsimp only [C.ren, C.ren.all]); (try exact rfl)) | exact SVLe.refl | refine ceb ?_)
  all_goals first | exact (show nodupB _ = true from rfl) | exact Or.inr rfl | (rfl)
theorem childQ_ok (Z : Foot) (m : Mach) (a : Int) (r : Rule') (hx : (m.ru.length : Int) ≤ 16777216) (h0 : 0 ≤ a) (h1 : a < m.ru.length) : Does Tryz.prog 93 [.agg (maC m), .one (int a), .agg (ruC r)] [.opq (zw Z) []] (.agg [int (chM m a r).sy, int (chM m a r).st, .gv 1]) [.opq (zw Z) [], shM (chM m a r), kbM Z (chM m a r) 1] := by
  have e1 : (chM m a r).sy = m.sy := chM_sy m a r
  have e2 : (chM m a r).st = m.st := chM_st m a r
  have e3 : (chM m a r).ru = m.ru.set a.toNat r := chM_ru m a r
  dsimp only [shM, kbM, rwM]
  rw [e1, e2, e3]
  refine does_of (k := 1) Tryz.func93 rfl Tryz.ntmps93 rfl rfl fun w F0 S0 ρ0 => ?_
  dsimp only [argT, argH]
  repeat' first | (apply n3; exact a_new (gb := .bx _) rfl; exact rfl; refine dA ?_) | (apply p3; (first | exact pu1 | exact puL | exact a_ldsE (E := eR) 0 rfl rfl rfl (fA rfl) rfl rfl (Nat.le_of_ble_eq_true rfl) (Nat.le_of_ble_eq_true rfl) bnd rfl (by repeat (first | exact trivial | exact rfl | refine And.intro ?_ ?_)) rfl | exact a_ldE (E := eR) 0 rfl rfl rfl (fC rfl) rfl rfl (Nat.le_of_ble_eq_true rfl) bnd rfl (by first | exact trivial | exact rfl) | exact a_ldE (E := eR) 1 rfl rfl rfl (fC rfl) rfl rfl (Nat.le_of_ble_eq_true rfl) bnd rfl (by first | exact trivial | exact rfl) | exact a_ldE (E := eR) 2 rfl rfl rfl (fC rfl) rfl rfl (Nat.le_of_ble_eq_true rfl) bnd rfl (by first | exact trivial | exact rfl) | exact puI); exact rfl) | refine cd ?_ | (apply w3; (first | exact a_st_bx rfl rfl rfl rfl (fN rfl rfl) (Nat.le_of_ble_eq_true rfl) rfl | exact a_stF (E := eR) ⟨_, _, _⟩ rfl rfl rfl rfl (fN rfl rfl) (Nat.le_of_ble_eq_true rfl) (Nat.le_of_ble_eq_true rfl) (by first | exact List.getElem?_set_self bnd | exact List.getElem?_eq_getElem bnd) (by (try dsimp only [setRow, List.set_cons_succ, List.set_cons_zero]); first | done | exact rfl) rfl | exact a_stE (E := eMa) ⟨_, _, _⟩ rfl rfl rfl rfl (fN rfl rfl) bnd (by exact rfl) | exact a_stE (E := eR) ⟨_, _, _⟩ rfl rfl rfl rfl (fN rfl rfl) bnd (by exact rfl)); exact rfl; refine dS ?_) | (apply c4 1; exact callK1 (θ := []) (hD := (copyMachine_ok _ preB114)); exact rfl; exact rfl; exact rfl; refine dM ?_) | ((first | refine o_gs rfl rfl (fun hc => ?_) (fun hc => ?_) | refine g_cond rfl (fun hc => ?_) (fun hc => ?_)) <;> (try simp only [dcB] at hc) <;> (try first | contradiction | (exfalso; omega)))
  refine g_frzS 4 0 rfl rfl plR nowR ?_
  repeat refine cr ?_
  refine ends_id ?_
  refine endK [4, 6] (h2 := ?_) (h3 := ?_) (nd := ?_)
  all_goals (repeat' first | exact ce0 | refine ce ?_ | refine ce2 ?_ ?_ | (refine Or.inr (bx_eq rfl rfl ?_); (try dsimp only [C.ren, C.ren.all]); (try exact rfl)) | exact SVLe.refl | refine ceb ?_)
  all_goals first | exact (show nodupB _ = true from rfl) | exact Or.inr rfl | (rfl)
end Go.Proofs.YtcmdfohamphndaaGreatDoor
end
section
set_option linter.unusedVariables false
set_option linter.unusedSimpArgs false
set_option maxRecDepth 100000
set_option maxHeartbeats 4000000
namespace Go.Proofs.YtcmdfohamphndaaGreatDoor
open Go Foot
/-- Nodes, with the values of their rules. -/
abbrev eNv (B : Int) : Enc (Mach × Value) := ⟨5, fun x => [.sc (.int .i64 x.1.sy), .sc (.int .i64 x.1.st), .sc x.2, .sc (.int .i64 (ndS x.1 B)), .sc (.int .i64 (ndA x.1 B))], fun _ => rfl, by decide⟩
theorem plain_eNv {B : Int} (L : List (Mach × Value)) : D.plain.all (rows (eNv B) L) := plR
abbrev ndsR (Z : Foot) (B : Int) (ms : List Mach) (i : Nat) : GB := .opq (ndP Z 3 rwM (eNv B) ms) [i]
theorem preB115 {p : Prop} (h : p := by first | with_reducible assumption | omega | (simp only [List.length_append, List.length_cons, List.length_nil, List.length_set, List.length_replicate, List.length_take, List.length_drop, List.length_tail, List.length_dropLast, List.length_reverse] at *; omega) | exact mem_len (by assumption) (by omega) | (with_reducible refine Int.le_trans (Int.ofNat_le.2 (trimR_len _)) ?_; simp only [List.length_cons, List.length_tail]; omega) | (exact (ruAt_ok (by assumption) (by assumption) (by assumption)).2.1) | (exact (ruAt_ok (by assumption) (by assumption) (by assumption)).2.1) | (have := vMach_bd (by assumption); omega) | (simp only [mC_ch, mC_tu]; omega) | (have := vTag_bd (by assumption); omega) | (have := (‹Gd _ _›).le; omega) | (exact tgHalts_no (by assumption)) | (exact tgHead (by assumption) (by assumption) (by assumption)) | (exact Int.le_trans (tgStep_gd (by assumption) (by assumption) (by assumption) (by assumption)).le (by decide)) | (exact vTag_r (by assumption)) | (with_reducible refine Int.le_trans (Int.ofNat_le.2 (pushL_len _ _)) ?_; simp only [List.length_dropLast]; omega) | exact ls_at (by assumption) (by omega) | exact pt_gd (by assumption) | exact lv_at (by assumption) (by omega) | exact pt_gd (lv_at (by assumption) (by omega)) | exact (ask_ok (by assumption)).1 | exact (ask_ok (by assumption)).2.1 | exact (ask_ok (by assumption)).2.2.1 | exact (ask_ok (by assumption)).2.2.2 | trivial) : p := h
theorem atQ_ok (Z : Foot) (st sy B : Int) (p : List Int) (hp : (p.length : Int) ≤ 1048576) (h1 : 1 ≤ st) (h2 : st ≤ 6) (h3 : 2 ≤ sy) (h4 : sy ≤ 6) (h5 : 0 ≤ B) (h6 : B ≤ 1000000) : Does Tryz.prog 71 [.one (.gv 0), .one (shI p)] [.bx (foC st sy B 0), foQ Z B sy st 1, .opq (zw Z) []] (.tup [(false, [.gv 3]), (false, [boo (pthL B (root sy st) p).isSome])]) [.bx (foC st sy B 0), foQ Z B sy st 1, .opq (zw Z) [], ndsR Z B ((pthL B (root sy st) p).getD []) 3] := by
  have hr := root_ok h3 h4 h1 (by omega)
  refine does_of (k := 3) Tryz.func71 rfl Tryz.ntmps71 rfl rfl fun w F0 S0 ρ0 => ?_
  dsimp only [argT, argH]
  repeat' first | (apply n3; exact a_nilO (eNv B) rfl; exact rfl) | (apply p3; exact a_pure (sv := .one _) rfl; exact rfl) | refine cdn ?_ | refine g_reg (id := 0) ?_ | (apply g_drN (id := 1) okM [[],[],[1],[1,2],[1,2,3],[],[5],[5,6],[5,6,7],[1,2,3,4,5,6,7,8],[0,1,2,3,4,5,6,7,8,9],[],[0,1,2,3,4,5,6,7,8,9,10,11]] [([],[]),([],[]),([],[]),([],[]),([],[]),([],[]),([],[]),([],[]),([],[]),([0,1],[2]),([2,3],[0,1,4,5]),([4],[]),([],[8])] 5; (focus (refine dp 0 0 [12, 13, 14, 15, 16, 17, 18, 19, 20, 6] [(true, 0), (true, 1), (false, 2), (true, 4)] pu1 ?_; refine dp 1 0 [11, 16, 17, 18, 19, 6] [(true, 4)] pu1 ?_; refine dp 2 1 [11, 16, 17, 18, 19, 6] [(true, 4)] (a_pure (sv := .one _) rfl) ?_; refine dp 3 3 [11, 16, 17, 18, 19, 6] [(true, 4)] (a_pure (sv := .one _) rfl) ?_; refine dp 4 7 [11, 16, 17, 18, 19, 6] [(true, 4)] (by first | exact a_ldE (E := eR) 0 rfl rfl rfl (fC rfl) rfl rfl (Nat.le_of_ble_eq_true rfl) bnd rfl (by first | exact trivial | exact rfl) | exact a_ldE (E := eR) 1 rfl rfl rfl (fC rfl) rfl rfl (Nat.le_of_ble_eq_true rfl) bnd rfl (by first | exact trivial | exact rfl) | exact a_ldE (E := eR) 2 rfl rfl rfl (fC rfl) rfl rfl (Nat.le_of_ble_eq_true rfl) bnd rfl (by first | exact trivial | exact rfl) | exact puL) ?_; refine dp 5 0 [11, 12, 13, 14, 15, 6] [(true, 4)] pu1 ?_; refine dp 6 1 [11, 12, 13, 14, 15, 6] [(true, 4)] (a_pure (sv := .one _) rfl) ?_; refine dp 7 3 [11, 12, 13, 14, 15, 6] [(true, 4)] (a_pure (sv := .one _) rfl) ?_; refine dp 8 7 [11, 12, 13, 14, 15, 6] [(true, 4)] (by first | exact a_ldE (E := eR) 0 rfl rfl rfl (fC rfl) rfl rfl (Nat.le_of_ble_eq_true rfl) bnd rfl (by first | exact trivial | exact rfl) | exact a_ldE (E := eR) 1 rfl rfl rfl (fC rfl) rfl rfl (Nat.le_of_ble_eq_true rfl) bnd rfl (by first | exact trivial | exact rfl) | exact a_ldE (E := eR) 2 rfl rfl rfl (fC rfl) rfl rfl (Nat.le_of_ble_eq_true rfl) bnd rfl (by first | exact trivial | exact rfl) | exact puL) ?_; refine duN 9 255 [11, 6] [(true, 4)] (callD0 (n := _) 0 (θ := [2]) (hD := (emptyQ_ok Z st sy h1 h2 h3 h4))) (by exact rfl) (by exact rfl) ?_; refine duN 10 1023 [6] [(true, 4)] (callD0 (n := _) 2 (θ := [0, 1, 4, 5]) (hD := (lookQ_ok Z st sy B (root sy st) hr preB115 preB115))) (by exact rfl) (by exact rfl) ?_; refine duE 11 0 [11, 12, 13, 14, 15, 16, 17, 18, 19, 20, 21] [(true, 0), (true, 1), (false, 2), (true, 2), (true, 3), (false, 0), (false, 1), (false, 4), (false, 5)] (atN 4 (fun _ => a_new (gb := .bx _) rfl)) (by exact rfl) (by exact rfl) ?_; refine duE 12 4095 [] [] (by first | exact a_st_bx rfl rfl rfl rfl (fN rfl rfl) (Nat.le_of_ble_eq_true rfl) rfl | exact a_stF (E := eR) ⟨_, _, _⟩ rfl rfl rfl rfl (fN rfl rfl) (Nat.le_of_ble_eq_true rfl) (Nat.le_of_ble_eq_true rfl) (by first | exact List.getElem?_set_self bnd | exact List.getElem?_eq_getElem bnd) (by (try dsimp only [setRow, List.set_cons_succ, List.set_cons_zero]); first | done | exact rfl) rfl | exact a_stE (E := (eNd B)) _ rfl rfl rfl rfl (fN rfl rfl) bnd (by exact rfl)) (by exact rfl) (by exact rfl) ?_; (refine d_nil ?_; refine dN ?_))); any_goals kernel_rfl) | ((first | refine o_gs rfl rfl (fun hc => ?_) (fun hc => ?_) | refine g_cond rfl (fun hc => ?_) (fun hc => ?_)) <;> (try simp only [dcB] at hc) <;> (try first | contradiction | (exfalso; omega)))
  refine g_nameK 7 rfl (fun v => ?_)
  refine g_conv (t_kb0 3 rwM 2 rfl) ?_
  refine g_conv (t_addK (root sy st) 9 7 rfl rfl rfl) ?_
  repeat' first | (apply n3; exact a_nilO (eNv B) rfl; exact rfl) | (apply n3; exact a_litE (eNv B) [(root sy st, v)] rfl rfl rfl rfl rfl rfl rfl rfl; exact rfl; refine dA ?_) | (apply p3; (first | exact pu1 | exact puL | exact a_ldsE (E := eR) 0 rfl rfl rfl (fA rfl) rfl rfl (Nat.le_of_ble_eq_true rfl) (Nat.le_of_ble_eq_true rfl) bnd rfl (by repeat (first | exact trivial | exact rfl | refine And.intro ?_ ?_)) rfl); exact rfl) | refine cdn ?_ | refine g_reg (id := 0) ?_ | refine g_reg (id := 2) ?_ | (refine o_conv (t_nameA 22 2 7 rfl rfl rfl) ?_) | (apply g_drN (id := 1) okM [[],[],[1],[1,2],[1,2,3],[],[5],[5,6],[5,6,7],[1,2,3,4,5,6,7,8],[0,1,2,3,4,5,6,7,8,9],[],[0,1,2,3,4,5,6,7,8,9,10,11]] [([],[]),([],[]),([],[]),([],[]),([],[]),([],[]),([],[]),([],[]),([],[]),([0,1],[2]),([2,3],[0,1,4,5]),([4],[]),([],[8])] 5; (focus (refine dp 0 0 [12, 13, 14, 15, 16, 17, 18, 19, 20, 6] [(true, 0), (true, 1), (false, 2), (true, 4)] pu1 ?_; refine dp 1 0 [11, 16, 17, 18, 19, 6] [(true, 4)] pu1 ?_; refine dp 2 1 [11, 16, 17, 18, 19, 6] [(true, 4)] (a_pure (sv := .one _) rfl) ?_; refine dp 3 3 [11, 16, 17, 18, 19, 6] [(true, 4)] (a_pure (sv := .one _) rfl) ?_; refine dp 4 7 [11, 16, 17, 18, 19, 6] [(true, 4)] (by first | exact a_ldE (E := eR) 0 rfl rfl rfl (fC rfl) rfl rfl (Nat.le_of_ble_eq_true rfl) bnd rfl (by first | exact trivial | exact rfl) | exact a_ldE (E := eR) 1 rfl rfl rfl (fC rfl) rfl rfl (Nat.le_of_ble_eq_true rfl) bnd rfl (by first | exact trivial | exact rfl) | exact a_ldE (E := eR) 2 rfl rfl rfl (fC rfl) rfl rfl (Nat.le_of_ble_eq_true rfl) bnd rfl (by first | exact trivial | exact rfl) | exact puL) ?_; refine dp 5 0 [11, 12, 13, 14, 15, 6] [(true, 4)] pu1 ?_; refine dp 6 1 [11, 12, 13, 14, 15, 6] [(true, 4)] (a_pure (sv := .one _) rfl) ?_; refine dp 7 3 [11, 12, 13, 14, 15, 6] [(true, 4)] (a_pure (sv := .one _) rfl) ?_; refine dp 8 7 [11, 12, 13, 14, 15, 6] [(true, 4)] (by first | exact a_ldE (E := eR) 0 rfl rfl rfl (fC rfl) rfl rfl (Nat.le_of_ble_eq_true rfl) bnd rfl (by first | exact trivial | exact rfl) | exact a_ldE (E := eR) 1 rfl rfl rfl (fC rfl) rfl rfl (Nat.le_of_ble_eq_true rfl) bnd rfl (by first | exact trivial | exact rfl) | exact a_ldE (E := eR) 2 rfl rfl rfl (fC rfl) rfl rfl (Nat.le_of_ble_eq_true rfl) bnd rfl (by first | exact trivial | exact rfl) | exact puL) ?_; refine duN 9 255 [11, 6] [(true, 4)] (callD0 (n := _) 0 (θ := [2]) (hD := (emptyQ_ok Z st sy h1 h2 h3 h4))) (by exact rfl) (by exact rfl) ?_; refine duN 10 1023 [6] [(true, 4)] (callD0 (n := _) 2 (θ := [0, 1, 4, 5]) (hD := (lookQ_ok Z st sy B (root sy st) hr preB115 preB115))) (by exact rfl) (by exact rfl) ?_; refine duE 11 0 [11, 12, 13, 14, 15, 16, 17, 18, 19, 20, 21] [(true, 0), (true, 1), (false, 2), (true, 2), (true, 3), (false, 0), (false, 1), (false, 4), (false, 5)] (atN 4 (fun _ => a_new (gb := .bx _) rfl)) (by exact rfl) (by exact rfl) ?_; refine duE 12 4095 [] [] (by first | exact a_st_bx rfl rfl rfl rfl (fN rfl rfl) (Nat.le_of_ble_eq_true rfl) rfl | exact a_stF (E := eR) ⟨_, _, _⟩ rfl rfl rfl rfl (fN rfl rfl) (Nat.le_of_ble_eq_true rfl) (Nat.le_of_ble_eq_true rfl) (by first | exact List.getElem?_set_self bnd | exact List.getElem?_eq_getElem bnd) (by (try dsimp only [setRow, List.set_cons_succ, List.set_cons_zero]); first | done | exact rfl) rfl | exact a_stE (E := (eNv B)) (root sy st, v) rfl rfl rfl rfl (fN rfl rfl) bnd (by exact rfl)) (by exact rfl) (by exact rfl) ?_; (refine d_nil ?_; refine dN ?_))); any_goals kernel_rfl) | ((first | refine o_gs rfl rfl (fun hc => ?_) (fun hc => ?_) | refine g_cond rfl (fun hc => ?_) (fun hc => ?_)) <;> (try simp only [dcB] at hc) <;> (try first | contradiction | (exfalso; omega)))
  refine g_conv (t_unname 7 rfl) ?_
  repeat' first | (apply n3; exact a_nilO (eNv B) rfl; exact rfl) | (apply n3; (first | exact a_litE (eNv B) [(root sy st, v)] rfl rfl rfl rfl rfl rfl rfl rfl | exact a_appN (fP rfl) rfl rfl rfl nowR (by first | omega | (simp; omega)) (by decide) (by exact rfl)); exact rfl; refine dA ?_) | (apply p3; (first | exact pu1 | exact puL | exact a_ldsE (E := eR) 0 rfl rfl rfl (fA rfl) rfl rfl (Nat.le_of_ble_eq_true rfl) (Nat.le_of_ble_eq_true rfl) bnd rfl (by repeat (first | exact trivial | exact rfl | refine And.intro ?_ ?_)) rfl | exact puN | exact a_len_str rfl (fT rfl) | exact puC | exact a_ldE (E := eR) 0 rfl rfl rfl (fC rfl) rfl rfl (Nat.le_of_ble_eq_true rfl) bnd rfl (by first | exact trivial | exact rfl) | exact a_ldE (E := eR) 1 rfl rfl rfl (fC rfl) rfl rfl (Nat.le_of_ble_eq_true rfl) bnd rfl (by first | exact trivial | exact rfl) | exact a_ldE (E := eR) 2 rfl rfl rfl (fC rfl) rfl rfl (Nat.le_of_ble_eq_true rfl) bnd rfl (by first | exact trivial | exact rfl) | exact a_sub rfl rfl (by omega) (by omega) | exact a_add rfl rfl (by omega) (by omega) | exact puI); exact rfl) | refine cd ?_ | (apply s3; exact a_appE (fP rfl) rfl rfl rfl rfl nowR (by first | omega | (simp; omega)) (by decide) (by decide) (by exact rfl); exact rfl; exact rfl) | (apply c4 1; exact callK1 (θ := []) (hD := (childrenA_ok _ _ preB115)); exact rfl; exact rfl; exact rfl; refine dM ?_) | (apply c4 0; exact callK1 (θ := []) (hD := (sizeR_ok _ preB115)); exact rfl; exact rfl; exact rfl; refine dM ?_) | (apply c4 0; exact callK1 (θ := []) (hD := (within_ok _ _ _)); exact rfl; exact rfl; exact rfl; refine dM ?_) | (apply g_drN (id := 1) okM [[],[],[1],[1,2],[1,2,3],[],[5],[5,6],[5,6,7],[1,2,3,4,5,6,7,8],[0,1,2,3,4,5,6,7,8,9],[],[0,1,2,3,4,5,6,7,8,9,10,11]] [([],[]),([],[]),([],[]),([],[]),([],[]),([],[]),([],[]),([],[]),([],[]),([0,1],[2]),([2,3],[0,1,4,5]),([4],[]),([],[8])] 5; (focus (refine dp 0 0 [12, 13, 14, 15, 16, 17, 18, 19, 20, 6] [(true, 0), (true, 1), (false, 2), (true, 4)] pu1 ?_; refine dp 1 0 [11, 16, 17, 18, 19, 6] [(true, 4)] pu1 ?_; refine dp 2 1 [11, 16, 17, 18, 19, 6] [(true, 4)] (a_pure (sv := .one _) rfl) ?_; refine dp 3 3 [11, 16, 17, 18, 19, 6] [(true, 4)] (a_pure (sv := .one _) rfl) ?_; refine dp 4 7 [11, 16, 17, 18, 19, 6] [(true, 4)] (by first | exact a_ldE (E := eR) 0 rfl rfl rfl (fC rfl) rfl rfl (Nat.le_of_ble_eq_true rfl) bnd rfl (by first | exact trivial | exact rfl) | exact a_ldE (E := eR) 1 rfl rfl rfl (fC rfl) rfl rfl (Nat.le_of_ble_eq_true rfl) bnd rfl (by first | exact trivial | exact rfl) | exact a_ldE (E := eR) 2 rfl rfl rfl (fC rfl) rfl rfl (Nat.le_of_ble_eq_true rfl) bnd rfl (by first | exact trivial | exact rfl) | exact puL) ?_; refine dp 5 0 [11, 12, 13, 14, 15, 6] [(true, 4)] pu1 ?_; refine dp 6 1 [11, 12, 13, 14, 15, 6] [(true, 4)] (a_pure (sv := .one _) rfl) ?_; refine dp 7 3 [11, 12, 13, 14, 15, 6] [(true, 4)] (a_pure (sv := .one _) rfl) ?_; refine dp 8 7 [11, 12, 13, 14, 15, 6] [(true, 4)] (by first | exact a_ldE (E := eR) 0 rfl rfl rfl (fC rfl) rfl rfl (Nat.le_of_ble_eq_true rfl) bnd rfl (by first | exact trivial | exact rfl) | exact a_ldE (E := eR) 1 rfl rfl rfl (fC rfl) rfl rfl (Nat.le_of_ble_eq_true rfl) bnd rfl (by first | exact trivial | exact rfl) | exact a_ldE (E := eR) 2 rfl rfl rfl (fC rfl) rfl rfl (Nat.le_of_ble_eq_true rfl) bnd rfl (by first | exact trivial | exact rfl) | exact puL) ?_; refine duN 9 255 [11, 6] [(true, 4)] (callD0 (n := _) 0 (θ := [2]) (hD := (emptyQ_ok Z st sy h1 h2 h3 h4))) (by exact rfl) (by exact rfl) ?_; refine duN 10 1023 [6] [(true, 4)] (callD0 (n := _) 2 (θ := [0, 1, 4, 5]) (hD := (lookQ_ok Z st sy B (root sy st) hr preB115 preB115))) (by exact rfl) (by exact rfl) ?_; refine duE 11 0 [11, 12, 13, 14, 15, 16, 17, 18, 19, 20, 21] [(true, 0), (true, 1), (false, 2), (true, 2), (true, 3), (false, 0), (false, 1), (false, 4), (false, 5)] (atN 4 (fun _ => a_new (gb := .bx _) rfl)) (by exact rfl) (by exact rfl) ?_; refine duE 12 4095 [] [] (by first | exact a_st_bx rfl rfl rfl rfl (fN rfl rfl) (Nat.le_of_ble_eq_true rfl) rfl | exact a_stF (E := eR) ⟨_, _, _⟩ rfl rfl rfl rfl (fN rfl rfl) (Nat.le_of_ble_eq_true rfl) (Nat.le_of_ble_eq_true rfl) (by first | exact List.getElem?_set_self bnd | exact List.getElem?_eq_getElem bnd) (by (try dsimp only [setRow, List.set_cons_succ, List.set_cons_zero]); first | done | exact rfl) rfl | exact a_stE (E := (eNv B)) (root sy st, v) rfl rfl rfl rfl (fN rfl rfl) bnd (by exact rfl)) (by exact rfl) (by exact rfl) ?_; (refine d_nil ?_; refine dN ?_))); any_goals kernel_rfl) | ((first | refine o_gs rfl rfl (fun hc => ?_) (fun hc => ?_) | refine g_cond rfl (fun hc => ?_) (fun hc => ?_)) <;> (try simp only [dcB] at hc) <;> (try first | contradiction | (exfalso; omega)))
  refine g_loop_id ?_
  refine loopK [0, 4, 5, 6, 7, 24, 25] [6, 7, 8, 9, 10] (fun y : Int × (Mach × Value) × List (Mach × Value) => 0 ≤ y.1 ∧ y.1 ≤ p.length ∧ NdOk sy st y.2.1.1 ∧ (y.2.2.length : Int) = y.1 ∧ (pthL B y.2.1.1 (p.drop y.1.toNat)).map (y.2.2.map (·.1) ++ ·) = pthL B (root sy st) p) (fun y => [(26, .one (int y.1))]) (fun y => [(6, shM y.2.1.1), (7, kbM Z y.2.1.1 6), (8, .bx [int y.2.1.1.sy, int y.2.1.1.st, .gv 6, int (ndS y.2.1.1 B), int (ndA y.2.1.1 B)]), (9, .opq (kbA Z 3 rwM (y.2.2 ++ [y.2.1])) []), (10, .row 5 (rows (eNv B) (y.2.2 ++ [y.2.1])))]) (fun y => (p.length - y.1).toNat) ((0 : Int), (root sy st, v), ([] : List (Mach × Value))) [0, 1, 2, 3, 4, 5, 6, 7, 8, 9, 10] (hI := ?_) (hr := ?_)
  · exact ⟨by simp, by simp, hr, by simp, by simp⟩
  · rintro ⟨i, ⟨m, v⟩, pre⟩ ⟨k0, k1, k2, k3, k4⟩
    dsimp only [List.cons_append, List.nil_append] at *
    skip
    repeat' first | (apply p3; (first | exact pu1 | exact puL | exact puC | exact a_ldE (E := eR) 0 rfl rfl rfl (fC rfl) rfl rfl (Nat.le_of_ble_eq_true rfl) bnd rfl (by first | exact trivial | exact rfl) | exact a_ldE (E := eR) 1 rfl rfl rfl (fC rfl) rfl rfl (Nat.le_of_ble_eq_true rfl) bnd rfl (by first | exact trivial | exact rfl) | exact a_ldE (E := eR) 2 rfl rfl rfl (fC rfl) rfl rfl (Nat.le_of_ble_eq_true rfl) bnd rfl (by first | exact trivial | exact rfl) | exact puI); exact rfl) | refine cdn ?_ | refine g_reg (id := 4) ?_ | refine g_reg (id := 5) ?_ | refine g_reg (id := 12) ?_ | ((first | refine o_gs rfl rfl (fun hc => ?_) (fun hc => ?_) | refine g_cond rfl (fun hc => ?_) (fun hc => ?_)) <;> (try simp only [dcB] at hc) <;> (try first | contradiction | (exfalso; omega)))
    · have hm := k2.v
      have hlr := chR_len hm
      have ha := ndA_bd (B := B) hm
      have hlm := vMach_len hm
      have hn := pthL_next (B := B) (m := m) k0 (show i.toNat < p.length by omega)
      try dsimp only at k2 k3 k4
      rw [hn] at k4
      generalize hkk : p[i.toNat]'(by omega) = k at *
      have hno : ¬ ndS m B = 0 ∨ k < 0 ∨ ((chR m).length : Int) ≤ k → pthL B (root sy st) p = none := fun h => by rw [← k4, stp_no h]; rfl
      by_cases hs : ndS m B = 0
      · skip
        repeat' first | (apply p3; (first | exact pu1 | exact puL | exact puC | exact a_ldE (E := eR) 0 rfl rfl rfl (fC rfl) rfl rfl (Nat.le_of_ble_eq_true rfl) bnd rfl (by first | exact trivial | exact rfl) | exact a_ldE (E := eR) 1 rfl rfl rfl (fC rfl) rfl rfl (Nat.le_of_ble_eq_true rfl) bnd rfl (by first | exact trivial | exact rfl) | exact a_ldE (E := eR) 2 rfl rfl rfl (fC rfl) rfl rfl (Nat.le_of_ble_eq_true rfl) bnd rfl (by first | exact trivial | exact rfl) | exact a_ldsE (E := eR) 0 rfl rfl rfl (fA rfl) rfl rfl (Nat.le_of_ble_eq_true rfl) (Nat.le_of_ble_eq_true rfl) bnd rfl (by repeat (first | exact trivial | exact rfl | refine And.intro ?_ ?_)) rfl | exact puI); exact rfl) | refine cdn ?_ | refine g_reg (id := 4) ?_ | refine g_reg (id := 5) ?_ | refine g_reg (id := 6) ?_ | refine g_reg (id := 12) ?_ | (apply c4 1; exact callK1 (θ := []) (hD := (childrenY_ok m B hm hs)); exact rfl; exact rfl; exact rfl; refine dM ?_) | (apply c4 1; exact callK1 (θ := []) (hD := (childrenA_ok _ _ preB115)); exact rfl; exact rfl; exact rfl; refine dM ?_) | ((first | refine o_gs rfl rfl (fun hc => ?_) (fun hc => ?_) | refine g_cond rfl (fun hc => ?_) (fun hc => ?_)) <;> (try simp only [dcB] at hc) <;> (try first | contradiction | (exfalso; omega)))
        by_cases hk : 0 ≤ k ∧ k < ((chR m).length : Int)
        · have hst := stp_yes (B := B) hs hk.1 (show k.toNat < (chR m).length by omega)
          have h2 := (stp_ok k2 hst).1
          rw [hst] at k4
          repeat' first | (apply n3; exact a_nilO (eNv B) rfl; exact rfl) | (apply p3; (first | exact pu1 | exact puL | exact puC | exact a_ldE (E := eR) 0 rfl rfl rfl (fC rfl) rfl rfl (Nat.le_of_ble_eq_true rfl) bnd rfl (by first | exact trivial | exact rfl) | exact a_ldE (E := eR) 1 rfl rfl rfl (fC rfl) rfl rfl (Nat.le_of_ble_eq_true rfl) bnd rfl (by first | exact trivial | exact rfl) | exact a_ldE (E := eR) 2 rfl rfl rfl (fC rfl) rfl rfl (Nat.le_of_ble_eq_true rfl) bnd rfl (by first | exact trivial | exact rfl) | exact a_ldsE (E := eR) 0 rfl rfl rfl (fA rfl) rfl rfl (Nat.le_of_ble_eq_true rfl) (Nat.le_of_ble_eq_true rfl) bnd rfl (by repeat (first | exact trivial | exact rfl | refine And.intro ?_ ?_)) rfl | exact a_sub rfl rfl (by omega) (by omega) | exact puI); exact rfl) | refine cdn ?_ | refine g_reg (id := 4) ?_ | refine g_reg (id := 5) ?_ | refine g_reg (id := 6) ?_ | refine g_reg (id := 7) ?_ | refine g_reg (id := 8) ?_ | refine g_reg (id := 12) ?_ | (apply c4 1; exact callK1 (θ := []) (hD := (childrenY_ok m B hm hs)); exact rfl; exact rfl; exact rfl; refine dM ?_) | (apply c4 1; exact callK1 (θ := []) (hD := (childrenA_ok _ _ preB115)); exact rfl; exact rfl; exact rfl; refine dM ?_) | (apply c4 0; exact callK1 (θ := []) (hD := (sizeR_ok _ preB115)); exact rfl; exact rfl; exact rfl; refine dM ?_) | (apply c4 0; exact callK1 (θ := []) (hD := (within_ok _ _ _)); exact rfl; exact rfl; exact rfl; refine dM ?_) | (apply g_drN (id := 9) okM [[],[],[1],[],[3],[],[],[5,6],[5,6,7],[1,2,3,4,5,6,7,8],[0,1,2,3,4,5,6,7,8,9],[0,1,2,3,4,5,6,7,8,9,10]] [([],[]),([],[]),([],[]),([],[]),([],[]),([],[]),([],[]),([],[]),([],[]),([0,1],[2]),([2,3],[0,1,12,13]),([],[8])] 4; (focus (refine dp 0 0 [39, 40, 41, 42, 43, 44, 45, 46, 47] [(true, 0), (true, 1), (false, 2)] pu1 ?_; refine dp 1 0 [38, 41, 42, 43, 44, 45, 46] [] (a_pure (sv := .one _) rfl) ?_; refine dp 2 1 [38, 41, 42, 43, 44, 45, 46] [] (by first | exact a_ldsE (E := eR) 0 rfl rfl rfl (fA rfl) rfl rfl (Nat.le_of_ble_eq_true rfl) (Nat.le_of_ble_eq_true rfl) bnd rfl (by repeat (first | exact trivial | exact rfl | refine And.intro ?_ ?_)) rfl | exact puL) ?_; refine dp 3 0 [38, 39, 40, 43, 44, 45, 46] [] (a_pure (sv := .one _) rfl) ?_; refine dp 4 1 [38, 39, 40, 43, 44, 45, 46] [] (by first | exact a_ldE (E := eR) 0 rfl rfl rfl (fC rfl) rfl rfl (Nat.le_of_ble_eq_true rfl) bnd rfl (by first | exact trivial | exact rfl) | exact a_ldE (E := eR) 1 rfl rfl rfl (fC rfl) rfl rfl (Nat.le_of_ble_eq_true rfl) bnd rfl (by first | exact trivial | exact rfl) | exact a_ldE (E := eR) 2 rfl rfl rfl (fC rfl) rfl rfl (Nat.le_of_ble_eq_true rfl) bnd rfl (by first | exact trivial | exact rfl) | exact puL) ?_; refine dp 5 0 [38, 39, 40, 41, 42, 44] [] pu1 ?_; refine dp 6 0 [38, 39, 40, 41, 42, 43] [] pu1 ?_; refine dp 7 3 [38, 39, 40, 41, 42] [] puI ?_; refine dp 8 7 [38, 39, 40, 41, 42] [] (by first | exact a_ldE (E := eR) 0 rfl rfl rfl (fC rfl) rfl rfl (Nat.le_of_ble_eq_true rfl) bnd rfl (by first | exact trivial | exact rfl) | exact a_ldsE (E := eR) 0 rfl rfl rfl (fA rfl) rfl rfl (Nat.le_of_ble_eq_true rfl) (Nat.le_of_ble_eq_true rfl) bnd rfl (by repeat (first | exact trivial | exact rfl | refine And.intro ?_ ?_)) rfl | exact puL) ?_; refine duN 9 255 [38] [] (callD0 (n := _) 0 (θ := [2]) (hD := (childQ_ok Z m _ _ preB115 preB115 preB115))) (by exact rfl) (by exact rfl) ?_; refine duN 10 1023 [] [] (callD0 (n := _) 2 (θ := [0, 1, 12, 13]) (hD := (lookQ_ok Z st sy B _ h2 preB115 preB115))) (by exact rfl) (by exact rfl) ?_; refine duE 11 2047 [] [] (by first | exact a_st_bx rfl rfl rfl rfl (fN rfl rfl) (Nat.le_of_ble_eq_true rfl) rfl | exact a_stF (E := eR) ⟨_, _, _⟩ rfl rfl rfl rfl (fN rfl rfl) (Nat.le_of_ble_eq_true rfl) (Nat.le_of_ble_eq_true rfl) (by first | exact List.getElem?_set_self bnd | exact List.getElem?_eq_getElem bnd) (by (try dsimp only [setRow, List.set_cons_succ, List.set_cons_zero]); first | done | exact rfl) rfl | exact a_stE (E := (eNv B)) (root sy st, v) rfl rfl rfl rfl (fN rfl rfl) bnd (by exact rfl)) (by exact rfl) (by exact rfl) ?_; (refine d_nil ?_; refine dN ?_))); any_goals kernel_rfl) | ((first | refine o_gs rfl rfl (fun hc => ?_) (fun hc => ?_) | refine g_cond rfl (fun hc => ?_) (fun hc => ?_)) <;> (try simp only [dcB] at hc) <;> (try first | contradiction | (exfalso; omega)))
          refine g_nameK 15 rfl (fun v' => ?_)
          refine g_conv (t_addK (chM m (ndA m B) ((chR m)[k.toNat]'(by omega))) 9 15 rfl rfl rfl) ?_
          repeat' first | (apply n3; exact a_nilO (eNv B) rfl; exact rfl) | (apply n3; (first | exact a_litE (eNv B) [(chM m (ndA m B) ((chR m)[k.toNat]'(by omega)), v')] rfl rfl rfl rfl rfl rfl rfl rfl | exact a_appN (fP rfl) rfl rfl rfl nowR (by first | omega | (simp; omega)) (by decide) (by exact rfl)); exact rfl; refine dA ?_) | (apply p3; (first | exact pu1 | exact puL | exact puC | exact a_ldE (E := eR) 0 rfl rfl rfl (fC rfl) rfl rfl (Nat.le_of_ble_eq_true rfl) bnd rfl (by first | exact trivial | exact rfl) | exact a_ldE (E := eR) 1 rfl rfl rfl (fC rfl) rfl rfl (Nat.le_of_ble_eq_true rfl) bnd rfl (by first | exact trivial | exact rfl) | exact a_ldE (E := eR) 2 rfl rfl rfl (fC rfl) rfl rfl (Nat.le_of_ble_eq_true rfl) bnd rfl (by first | exact trivial | exact rfl) | exact a_ldsE (E := eR) 0 rfl rfl rfl (fA rfl) rfl rfl (Nat.le_of_ble_eq_true rfl) (Nat.le_of_ble_eq_true rfl) bnd rfl (by repeat (first | exact trivial | exact rfl | refine And.intro ?_ ?_)) rfl | exact a_sub rfl rfl (by omega) (by omega) | exact puI); exact rfl) | refine cdn ?_ | refine g_reg (id := 4) ?_ | refine g_reg (id := 5) ?_ | refine g_reg (id := 6) ?_ | refine g_reg (id := 7) ?_ | refine g_reg (id := 8) ?_ | refine g_reg (id := 10) ?_ | refine g_reg (id := 12) ?_ | (apply s3; exact a_appE (fP rfl) rfl rfl rfl rfl nowR (by first | omega | (simp; omega)) (by decide) (by decide) (by exact rfl); exact rfl; exact rfl) | (apply c4 1; exact callK1 (θ := []) (hD := (childrenY_ok m B hm hs)); exact rfl; exact rfl; exact rfl; refine dM ?_) | (apply c4 1; exact callK1 (θ := []) (hD := (childrenA_ok _ _ preB115)); exact rfl; exact rfl; exact rfl; refine dM ?_) | (apply c4 0; exact callK1 (θ := []) (hD := (sizeR_ok _ preB115)); exact rfl; exact rfl; exact rfl; refine dM ?_) | (apply c4 0; exact callK1 (θ := []) (hD := (within_ok _ _ _)); exact rfl; exact rfl; exact rfl; refine dM ?_) | (refine o_conv (t_nameA 50 2 15 rfl rfl rfl) ?_) | (apply g_drN (id := 9) okM [[],[],[1],[],[3],[],[],[5,6],[5,6,7],[1,2,3,4,5,6,7,8],[0,1,2,3,4,5,6,7,8,9],[0,1,2,3,4,5,6,7,8,9,10]] [([],[]),([],[]),([],[]),([],[]),([],[]),([],[]),([],[]),([],[]),([],[]),([0,1],[2]),([2,3],[0,1,12,13]),([],[8])] 4; (focus (refine dp 0 0 [39, 40, 41, 42, 43, 44, 45, 46, 47] [(true, 0), (true, 1), (false, 2)] pu1 ?_; refine dp 1 0 [38, 41, 42, 43, 44, 45, 46] [] (a_pure (sv := .one _) rfl) ?_; refine dp 2 1 [38, 41, 42, 43, 44, 45, 46] [] (by first | exact a_ldsE (E := eR) 0 rfl rfl rfl (fA rfl) rfl rfl (Nat.le_of_ble_eq_true rfl) (Nat.le_of_ble_eq_true rfl) bnd rfl (by repeat (first | exact trivial | exact rfl | refine And.intro ?_ ?_)) rfl | exact puL) ?_; refine dp 3 0 [38, 39, 40, 43, 44, 45, 46] [] (a_pure (sv := .one _) rfl) ?_; refine dp 4 1 [38, 39, 40, 43, 44, 45, 46] [] (by first | exact a_ldE (E := eR) 0 rfl rfl rfl (fC rfl) rfl rfl (Nat.le_of_ble_eq_true rfl) bnd rfl (by first | exact trivial | exact rfl) | exact a_ldE (E := eR) 1 rfl rfl rfl (fC rfl) rfl rfl (Nat.le_of_ble_eq_true rfl) bnd rfl (by first | exact trivial | exact rfl) | exact a_ldE (E := eR) 2 rfl rfl rfl (fC rfl) rfl rfl (Nat.le_of_ble_eq_true rfl) bnd rfl (by first | exact trivial | exact rfl) | exact puL) ?_; refine dp 5 0 [38, 39, 40, 41, 42, 44] [] pu1 ?_; refine dp 6 0 [38, 39, 40, 41, 42, 43] [] pu1 ?_; refine dp 7 3 [38, 39, 40, 41, 42] [] puI ?_; refine dp 8 7 [38, 39, 40, 41, 42] [] (by first | exact a_ldE (E := eR) 0 rfl rfl rfl (fC rfl) rfl rfl (Nat.le_of_ble_eq_true rfl) bnd rfl (by first | exact trivial | exact rfl) | exact a_ldsE (E := eR) 0 rfl rfl rfl (fA rfl) rfl rfl (Nat.le_of_ble_eq_true rfl) (Nat.le_of_ble_eq_true rfl) bnd rfl (by repeat (first | exact trivial | exact rfl | refine And.intro ?_ ?_)) rfl | exact puL) ?_; refine duN 9 255 [38] [] (callD0 (n := _) 0 (θ := [2]) (hD := (childQ_ok Z m _ _ preB115 preB115 preB115))) (by exact rfl) (by exact rfl) ?_; refine duN 10 1023 [] [] (callD0 (n := _) 2 (θ := [0, 1, 12, 13]) (hD := (lookQ_ok Z st sy B _ h2 preB115 preB115))) (by exact rfl) (by exact rfl) ?_; refine duE 11 2047 [] [] (by first | exact a_st_bx rfl rfl rfl rfl (fN rfl rfl) (Nat.le_of_ble_eq_true rfl) rfl | exact a_stF (E := eR) ⟨_, _, _⟩ rfl rfl rfl rfl (fN rfl rfl) (Nat.le_of_ble_eq_true rfl) (Nat.le_of_ble_eq_true rfl) (by first | exact List.getElem?_set_self bnd | exact List.getElem?_eq_getElem bnd) (by (try dsimp only [setRow, List.set_cons_succ, List.set_cons_zero]); first | done | exact rfl) rfl | exact a_stE (E := (eNv B)) (chM m (ndA m B) ((chR m)[k.toNat]'(by omega)), v') rfl rfl rfl rfl (fN rfl rfl) bnd (by exact rfl)) (by exact rfl) (by exact rfl) ?_; (refine d_nil ?_; refine dN ?_))); any_goals kernel_rfl) | ((first | refine o_gs rfl rfl (fun hc => ?_) (fun hc => ?_) | refine g_cond rfl (fun hc => ?_) (fun hc => ?_)) <;> (try simp only [dcB] at hc) <;> (try first | contradiction | (exfalso; omega)))
          refine g_conv (t_unname 15 rfl) ?_
          repeat' first | (apply n3; exact a_nilO (eNv B) rfl; exact rfl) | (apply n3; (first | exact a_litE (eNv B) [(chM m (ndA m B) ((chR m)[k.toNat]'(by omega)), v')] rfl rfl rfl rfl rfl rfl rfl rfl | exact a_appN (fP rfl) rfl rfl rfl nowR (by first | omega | (simp; omega)) (by decide) (by exact rfl)); exact rfl; refine dA ?_) | (apply p3; (first | exact pu1 | exact puL | exact puC | exact a_ldE (E := eR) 0 rfl rfl rfl (fC rfl) rfl rfl (Nat.le_of_ble_eq_true rfl) bnd rfl (by first | exact trivial | exact rfl) | exact a_ldE (E := eR) 1 rfl rfl rfl (fC rfl) rfl rfl (Nat.le_of_ble_eq_true rfl) bnd rfl (by first | exact trivial | exact rfl) | exact a_ldE (E := eR) 2 rfl rfl rfl (fC rfl) rfl rfl (Nat.le_of_ble_eq_true rfl) bnd rfl (by first | exact trivial | exact rfl) | exact a_ldsE (E := eR) 0 rfl rfl rfl (fA rfl) rfl rfl (Nat.le_of_ble_eq_true rfl) (Nat.le_of_ble_eq_true rfl) bnd rfl (by repeat (first | exact trivial | exact rfl | refine And.intro ?_ ?_)) rfl | exact a_sub rfl rfl (by omega) (by omega) | exact a_add rfl rfl (by omega) (by omega) | exact puI); exact rfl) | refine cd ?_ | (apply s3; exact a_appE (fP rfl) rfl rfl rfl rfl nowR (by first | omega | (simp; omega)) (by decide) (by decide) (by exact rfl); exact rfl; exact rfl) | (apply c4 1; exact callK1 (θ := []) (hD := (childrenY_ok m B hm hs)); exact rfl; exact rfl; exact rfl; refine dM ?_) | (apply c4 1; exact callK1 (θ := []) (hD := (childrenA_ok _ _ preB115)); exact rfl; exact rfl; exact rfl; refine dM ?_) | (apply c4 0; exact callK1 (θ := []) (hD := (sizeR_ok _ preB115)); exact rfl; exact rfl; exact rfl; refine dM ?_) | (apply c4 0; exact callK1 (θ := []) (hD := (within_ok _ _ _)); exact rfl; exact rfl; exact rfl; refine dM ?_) | (apply g_drN (id := 9) okM [[],[],[1],[],[3],[],[],[5,6],[5,6,7],[1,2,3,4,5,6,7,8],[0,1,2,3,4,5,6,7,8,9],[0,1,2,3,4,5,6,7,8,9,10]] [([],[]),([],[]),([],[]),([],[]),([],[]),([],[]),([],[]),([],[]),([],[]),([0,1],[2]),([2,3],[0,1,12,13]),([],[8])] 4; (focus (refine dp 0 0 [39, 40, 41, 42, 43, 44, 45, 46, 47] [(true, 0), (true, 1), (false, 2)] pu1 ?_; refine dp 1 0 [38, 41, 42, 43, 44, 45, 46] [] (a_pure (sv := .one _) rfl) ?_; refine dp 2 1 [38, 41, 42, 43, 44, 45, 46] [] (by first | exact a_ldsE (E := eR) 0 rfl rfl rfl (fA rfl) rfl rfl (Nat.le_of_ble_eq_true rfl) (Nat.le_of_ble_eq_true rfl) bnd rfl (by repeat (first | exact trivial | exact rfl | refine And.intro ?_ ?_)) rfl | exact puL) ?_; refine dp 3 0 [38, 39, 40, 43, 44, 45, 46] [] (a_pure (sv := .one _) rfl) ?_; refine dp 4 1 [38, 39, 40, 43, 44, 45, 46] [] (by first | exact a_ldE (E := eR) 0 rfl rfl rfl (fC rfl) rfl rfl (Nat.le_of_ble_eq_true rfl) bnd rfl (by first | exact trivial | exact rfl) | exact a_ldE (E := eR) 1 rfl rfl rfl (fC rfl) rfl rfl (Nat.le_of_ble_eq_true rfl) bnd rfl (by first | exact trivial | exact rfl) | exact a_ldE (E := eR) 2 rfl rfl rfl (fC rfl) rfl rfl (Nat.le_of_ble_eq_true rfl) bnd rfl (by first | exact trivial | exact rfl) | exact puL) ?_; refine dp 5 0 [38, 39, 40, 41, 42, 44] [] pu1 ?_; refine dp 6 0 [38, 39, 40, 41, 42, 43] [] pu1 ?_; refine dp 7 3 [38, 39, 40, 41, 42] [] puI ?_; refine dp 8 7 [38, 39, 40, 41, 42] [] (by first | exact a_ldE (E := eR) 0 rfl rfl rfl (fC rfl) rfl rfl (Nat.le_of_ble_eq_true rfl) bnd rfl (by first | exact trivial | exact rfl) | exact a_ldsE (E := eR) 0 rfl rfl rfl (fA rfl) rfl rfl (Nat.le_of_ble_eq_true rfl) (Nat.le_of_ble_eq_true rfl) bnd rfl (by repeat (first | exact trivial | exact rfl | refine And.intro ?_ ?_)) rfl | exact puL) ?_; refine duN 9 255 [38] [] (callD0 (n := _) 0 (θ := [2]) (hD := (childQ_ok Z m _ _ preB115 preB115 preB115))) (by exact rfl) (by exact rfl) ?_; refine duN 10 1023 [] [] (callD0 (n := _) 2 (θ := [0, 1, 12, 13]) (hD := (lookQ_ok Z st sy B _ h2 preB115 preB115))) (by exact rfl) (by exact rfl) ?_; refine duE 11 2047 [] [] (by first | exact a_st_bx rfl rfl rfl rfl (fN rfl rfl) (Nat.le_of_ble_eq_true rfl) rfl | exact a_stF (E := eR) ⟨_, _, _⟩ rfl rfl rfl rfl (fN rfl rfl) (Nat.le_of_ble_eq_true rfl) (Nat.le_of_ble_eq_true rfl) (by first | exact List.getElem?_set_self bnd | exact List.getElem?_eq_getElem bnd) (by (try dsimp only [setRow, List.set_cons_succ, List.set_cons_zero]); first | done | exact rfl) rfl | exact a_stE (E := (eNv B)) (chM m (ndA m B) ((chR m)[k.toNat]'(by omega)), v') rfl rfl rfl rfl (fN rfl rfl) bnd (by exact rfl)) (by exact rfl) (by exact rfl) ?_; (refine d_nil ?_; refine dN ?_))); any_goals kernel_rfl) | ((first | refine o_gs rfl rfl (fun hc => ?_) (fun hc => ?_) | refine g_cond rfl (fun hc => ?_) (fun hc => ?_)) <;> (try simp only [dcB] at hc) <;> (try first | contradiction | (exfalso; omega)))
          refine q_again (i + 1, (chM m (ndA m B) ((chR m)[k.toNat]'(by omega)), v'), pre ++ [(m, v)]) [0, 1, 2, 3, 4, 5, 14, 15, 8, 9, 17] (by exact stk) ?_ ?_
          · refine ⟨by dsimp only; omega, by dsimp only; omega, h2, by simp; omega, ?_⟩
            rw [← k4]
            simp [Option.map_map, Function.comp_def]
          · dsimp only; omega
        · rw [hno (by omega)]
          dsimp only [Option.isSome_none, Option.getD_none]
          repeat' first | (apply n3; exact a_nilO (eNv B) rfl; exact rfl) | (apply n3; (first | exact a_litE (eNv B) [(chM m (ndA m B) ((chR m)[k.toNat]'(by omega)), v')] rfl rfl rfl rfl rfl rfl rfl rfl | exact a_appN (fP rfl) rfl rfl rfl nowR (by first | omega | (simp; omega)) (by decide) (by exact rfl)); exact rfl; refine dA ?_) | (apply p3; (first | exact pu1 | exact puL | exact puC | exact a_ldE (E := eR) 0 rfl rfl rfl (fC rfl) rfl rfl (Nat.le_of_ble_eq_true rfl) bnd rfl (by first | exact trivial | exact rfl) | exact a_ldE (E := eR) 1 rfl rfl rfl (fC rfl) rfl rfl (Nat.le_of_ble_eq_true rfl) bnd rfl (by first | exact trivial | exact rfl) | exact a_ldE (E := eR) 2 rfl rfl rfl (fC rfl) rfl rfl (Nat.le_of_ble_eq_true rfl) bnd rfl (by first | exact trivial | exact rfl) | exact a_ldsE (E := eR) 0 rfl rfl rfl (fA rfl) rfl rfl (Nat.le_of_ble_eq_true rfl) (Nat.le_of_ble_eq_true rfl) bnd rfl (by repeat (first | exact trivial | exact rfl | refine And.intro ?_ ?_)) rfl | exact a_sub rfl rfl (by omega) (by omega) | exact a_add rfl rfl (by omega) (by omega) | exact puI); exact rfl) | refine cd ?_ | (apply s3; exact a_appE (fP rfl) rfl rfl rfl rfl nowR (by first | omega | (simp; omega)) (by decide) (by decide) (by exact rfl); exact rfl; exact rfl) | (apply c4 1; exact callK1 (θ := []) (hD := (childrenY_ok m B hm hs)); exact rfl; exact rfl; exact rfl; refine dM ?_) | (apply c4 1; exact callK1 (θ := []) (hD := (childrenA_ok _ _ preB115)); exact rfl; exact rfl; exact rfl; refine dM ?_) | (apply c4 0; exact callK1 (θ := []) (hD := (sizeR_ok _ preB115)); exact rfl; exact rfl; exact rfl; refine dM ?_) | (apply c4 0; exact callK1 (θ := []) (hD := (within_ok _ _ _)); exact rfl; exact rfl; exact rfl; refine dM ?_) | (apply g_drN (id := 9) okM [[],[],[1],[],[3],[],[],[5,6],[5,6,7],[1,2,3,4,5,6,7,8],[0,1,2,3,4,5,6,7,8,9],[0,1,2,3,4,5,6,7,8,9,10]] [([],[]),([],[]),([],[]),([],[]),([],[]),([],[]),([],[]),([],[]),([],[]),([0,1],[2]),([2,3],[0,1,12,13]),([],[8])] 4; (focus (refine dp 0 0 [39, 40, 41, 42, 43, 44, 45, 46, 47] [(true, 0), (true, 1), (false, 2)] pu1 ?_; refine dp 1 0 [38, 41, 42, 43, 44, 45, 46] [] (a_pure (sv := .one _) rfl) ?_; refine dp 2 1 [38, 41, 42, 43, 44, 45, 46] [] (by first | exact a_ldsE (E := eR) 0 rfl rfl rfl (fA rfl) rfl rfl (Nat.le_of_ble_eq_true rfl) (Nat.le_of_ble_eq_true rfl) bnd rfl (by repeat (first | exact trivial | exact rfl | refine And.intro ?_ ?_)) rfl | exact puL) ?_; refine dp 3 0 [38, 39, 40, 43, 44, 45, 46] [] (a_pure (sv := .one _) rfl) ?_; refine dp 4 1 [38, 39, 40, 43, 44, 45, 46] [] (by first | exact a_ldE (E := eR) 0 rfl rfl rfl (fC rfl) rfl rfl (Nat.le_of_ble_eq_true rfl) bnd rfl (by first | exact trivial | exact rfl) | exact a_ldE (E := eR) 1 rfl rfl rfl (fC rfl) rfl rfl (Nat.le_of_ble_eq_true rfl) bnd rfl (by first | exact trivial | exact rfl) | exact a_ldE (E := eR) 2 rfl rfl rfl (fC rfl) rfl rfl (Nat.le_of_ble_eq_true rfl) bnd rfl (by first | exact trivial | exact rfl) | exact puL) ?_; refine dp 5 0 [38, 39, 40, 41, 42, 44] [] pu1 ?_; refine dp 6 0 [38, 39, 40, 41, 42, 43] [] pu1 ?_; refine dp 7 3 [38, 39, 40, 41, 42] [] puI ?_; refine dp 8 7 [38, 39, 40, 41, 42] [] (by first | exact a_ldE (E := eR) 0 rfl rfl rfl (fC rfl) rfl rfl (Nat.le_of_ble_eq_true rfl) bnd rfl (by first | exact trivial | exact rfl) | exact a_ldsE (E := eR) 0 rfl rfl rfl (fA rfl) rfl rfl (Nat.le_of_ble_eq_true rfl) (Nat.le_of_ble_eq_true rfl) bnd rfl (by repeat (first | exact trivial | exact rfl | refine And.intro ?_ ?_)) rfl | exact puL) ?_; refine duN 9 255 [38] [] (callD0 (n := _) 0 (θ := [2]) (hD := (childQ_ok Z m _ _ preB115 preB115 preB115))) (by exact rfl) (by exact rfl) ?_; refine duN 10 1023 [] [] (callD0 (n := _) 2 (θ := [0, 1, 12, 13]) (hD := (lookQ_ok Z st sy B _ h2 preB115 preB115))) (by exact rfl) (by exact rfl) ?_; refine duE 11 2047 [] [] (by first | exact a_st_bx rfl rfl rfl rfl (fN rfl rfl) (Nat.le_of_ble_eq_true rfl) rfl | exact a_stF (E := eR) ⟨_, _, _⟩ rfl rfl rfl rfl (fN rfl rfl) (Nat.le_of_ble_eq_true rfl) (Nat.le_of_ble_eq_true rfl) (by first | exact List.getElem?_set_self bnd | exact List.getElem?_eq_getElem bnd) (by (try dsimp only [setRow, List.set_cons_succ, List.set_cons_zero]); first | done | exact rfl) rfl | exact a_stE (E := (eNv B)) (chM m (ndA m B) ((chR m)[k.toNat]'(by omega)), v') rfl rfl rfl rfl (fN rfl rfl) bnd (by exact rfl)) (by exact rfl) (by exact rfl) ?_; (refine d_nil ?_; refine dN ?_))); any_goals kernel_rfl) | ((first | refine o_gs rfl rfl (fun hc => ?_) (fun hc => ?_) | refine g_cond rfl (fun hc => ?_) (fun hc => ?_)) <;> (try simp only [dcB] at hc) <;> (try first | contradiction | (exfalso; omega)))
          refine g_conv (t_subK (L' := []) 9 rfl (fun y hy => by cases hy)) ?_
          refine g_conv (t_packN (L := []) 12 9 rfl (plain_eNv _) rfl) ?_
          repeat refine cr ?_
          refine ends_id ?_
          refine endK [?_] (h2 := ?_) (h3 := ?_) (nd := ?_)
          rotate_left 1
          all_goals (repeat' first | exact ce0 | refine ce ?_ | refine ce2 ?_ ?_ | (refine Or.inr (bx_eq rfl rfl ?_); (try dsimp only [C.ren, C.ren.all]); (try exact rfl)) | exact SVLe.refl | refine ceb ?_)
          all_goals first | exact (show nodupB _ = true from rfl) | exact Or.inr rfl | (rfl)
      · rw [hno (.inl hs)]
        dsimp only [Option.isSome_none, Option.getD_none]
        repeat' first | (apply p3; (first | exact pu1 | exact puL | exact puC | exact a_ldE (E := eR) 0 rfl rfl rfl (fC rfl) rfl rfl (Nat.le_of_ble_eq_true rfl) bnd rfl (by first | exact trivial | exact rfl) | exact a_ldE (E := eR) 1 rfl rfl rfl (fC rfl) rfl rfl (Nat.le_of_ble_eq_true rfl) bnd rfl (by first | exact trivial | exact rfl) | exact a_ldE (E := eR) 2 rfl rfl rfl (fC rfl) rfl rfl (Nat.le_of_ble_eq_true rfl) bnd rfl (by first | exact trivial | exact rfl) | exact a_ldsE (E := eR) 0 rfl rfl rfl (fA rfl) rfl rfl (Nat.le_of_ble_eq_true rfl) (Nat.le_of_ble_eq_true rfl) bnd rfl (by repeat (first | exact trivial | exact rfl | refine And.intro ?_ ?_)) rfl | exact a_sub rfl rfl (by omega) (by omega) | exact puI); exact rfl) | refine cd ?_ | (apply c4 1; exact callK1 (θ := []) (hD := (childrenY_ok m B hm hs)); exact rfl; exact rfl; exact rfl; refine dM ?_) | (apply c4 1; exact callK1 (θ := []) (hD := (childrenN_ok m B hm hs)); exact rfl; exact rfl; exact rfl; refine dM ?_) | (apply c4 1; exact callK1 (θ := []) (hD := (childrenA_ok _ _ preB115)); exact rfl; exact rfl; exact rfl; refine dM ?_) | (apply c4 0; exact callK1 (θ := []) (hD := (sizeR_ok _ preB115)); exact rfl; exact rfl; exact rfl; refine dM ?_) | (apply c4 0; exact callK1 (θ := []) (hD := (within_ok _ _ _)); exact rfl; exact rfl; exact rfl; refine dM ?_) | (refine o_gs rfl rfl (fun hc => ?_) (fun hc => ?_) <;> (try simp only [dcB] at hc) <;> (try first | contradiction | (exfalso; omega))) | (refine g_cond (c := .tmp 27) rfl (fun hc => ?_) (fun hc => ?_) <;> (try simp only [dcB] at hc) <;> (try (first | contradiction | (exfalso; omega))))
        simp only [List.length_nil]
        repeat' first | (apply n3; exact a_nilO (eNv B) rfl; exact rfl) | (apply n3; (first | exact a_litE (eNv B) [(chM m (ndA m B) ((chR m)[k.toNat]'(by omega)), v')] rfl rfl rfl rfl rfl rfl rfl rfl | exact a_appN (fP rfl) rfl rfl rfl nowR (by first | omega | (simp; omega)) (by decide) (by exact rfl)); exact rfl; refine dA ?_) | (apply p3; (first | exact pu1 | exact puL | exact puC | exact a_ldE (E := eR) 0 rfl rfl rfl (fC rfl) rfl rfl (Nat.le_of_ble_eq_true rfl) bnd rfl (by first | exact trivial | exact rfl) | exact a_ldE (E := eR) 1 rfl rfl rfl (fC rfl) rfl rfl (Nat.le_of_ble_eq_true rfl) bnd rfl (by first | exact trivial | exact rfl) | exact a_ldE (E := eR) 2 rfl rfl rfl (fC rfl) rfl rfl (Nat.le_of_ble_eq_true rfl) bnd rfl (by first | exact trivial | exact rfl) | exact a_ldsE (E := eR) 0 rfl rfl rfl (fA rfl) rfl rfl (Nat.le_of_ble_eq_true rfl) (Nat.le_of_ble_eq_true rfl) bnd rfl (by repeat (first | exact trivial | exact rfl | refine And.intro ?_ ?_)) rfl | exact a_sub rfl rfl (by omega) (by omega) | exact a_add rfl rfl (by omega) (by omega) | exact puI); exact rfl) | refine cd ?_ | (apply s3; exact a_appE (fP rfl) rfl rfl rfl rfl nowR (by first | omega | (simp; omega)) (by decide) (by decide) (by exact rfl); exact rfl; exact rfl) | (apply c4 1; exact callK1 (θ := []) (hD := (childrenY_ok m B hm hs)); exact rfl; exact rfl; exact rfl; refine dM ?_) | (apply c4 1; exact callK1 (θ := []) (hD := (childrenN_ok m B hm hs)); exact rfl; exact rfl; exact rfl; refine dM ?_) | (apply c4 1; exact callK1 (θ := []) (hD := (childrenA_ok _ _ preB115)); exact rfl; exact rfl; exact rfl; refine dM ?_) | (apply c4 0; exact callK1 (θ := []) (hD := (sizeR_ok _ preB115)); exact rfl; exact rfl; exact rfl; refine dM ?_) | (apply c4 0; exact callK1 (θ := []) (hD := (within_ok _ _ _)); exact rfl; exact rfl; exact rfl; refine dM ?_) | (apply g_drN (id := 9) okM [[],[],[1],[],[3],[],[],[5,6],[5,6,7],[1,2,3,4,5,6,7,8],[0,1,2,3,4,5,6,7,8,9],[0,1,2,3,4,5,6,7,8,9,10]] [([],[]),([],[]),([],[]),([],[]),([],[]),([],[]),([],[]),([],[]),([],[]),([0,1],[2]),([2,3],[0,1,12,13]),([],[8])] 4; (focus (refine dp 0 0 [39, 40, 41, 42, 43, 44, 45, 46, 47] [(true, 0), (true, 1), (false, 2)] pu1 ?_; refine dp 1 0 [38, 41, 42, 43, 44, 45, 46] [] (a_pure (sv := .one _) rfl) ?_; refine dp 2 1 [38, 41, 42, 43, 44, 45, 46] [] (by first | exact a_ldsE (E := eR) 0 rfl rfl rfl (fA rfl) rfl rfl (Nat.le_of_ble_eq_true rfl) (Nat.le_of_ble_eq_true rfl) bnd rfl (by repeat (first | exact trivial | exact rfl | refine And.intro ?_ ?_)) rfl | exact puL) ?_; refine dp 3 0 [38, 39, 40, 43, 44, 45, 46] [] (a_pure (sv := .one _) rfl) ?_; refine dp 4 1 [38, 39, 40, 43, 44, 45, 46] [] (by first | exact a_ldE (E := eR) 0 rfl rfl rfl (fC rfl) rfl rfl (Nat.le_of_ble_eq_true rfl) bnd rfl (by first | exact trivial | exact rfl) | exact a_ldE (E := eR) 1 rfl rfl rfl (fC rfl) rfl rfl (Nat.le_of_ble_eq_true rfl) bnd rfl (by first | exact trivial | exact rfl) | exact a_ldE (E := eR) 2 rfl rfl rfl (fC rfl) rfl rfl (Nat.le_of_ble_eq_true rfl) bnd rfl (by first | exact trivial | exact rfl) | exact puL) ?_; refine dp 5 0 [38, 39, 40, 41, 42, 44] [] pu1 ?_; refine dp 6 0 [38, 39, 40, 41, 42, 43] [] pu1 ?_; refine dp 7 3 [38, 39, 40, 41, 42] [] puI ?_; refine dp 8 7 [38, 39, 40, 41, 42] [] (by first | exact a_ldE (E := eR) 0 rfl rfl rfl (fC rfl) rfl rfl (Nat.le_of_ble_eq_true rfl) bnd rfl (by first | exact trivial | exact rfl) | exact a_ldsE (E := eR) 0 rfl rfl rfl (fA rfl) rfl rfl (Nat.le_of_ble_eq_true rfl) (Nat.le_of_ble_eq_true rfl) bnd rfl (by repeat (first | exact trivial | exact rfl | refine And.intro ?_ ?_)) rfl | exact puL) ?_; refine duN 9 255 [38] [] (callD0 (n := _) 0 (θ := [2]) (hD := (childQ_ok Z m _ _ preB115 preB115 preB115))) (by exact rfl) (by exact rfl) ?_; refine duN 10 1023 [] [] (callD0 (n := _) 2 (θ := [0, 1, 12, 13]) (hD := (lookQ_ok Z st sy B _ h2 preB115 preB115))) (by exact rfl) (by exact rfl) ?_; refine duE 11 2047 [] [] (by first | exact a_st_bx rfl rfl rfl rfl (fN rfl rfl) (Nat.le_of_ble_eq_true rfl) rfl | exact a_stF (E := eR) ⟨_, _, _⟩ rfl rfl rfl rfl (fN rfl rfl) (Nat.le_of_ble_eq_true rfl) (Nat.le_of_ble_eq_true rfl) (by first | exact List.getElem?_set_self bnd | exact List.getElem?_eq_getElem bnd) (by (try dsimp only [setRow, List.set_cons_succ, List.set_cons_zero]); first | done | exact rfl) rfl | exact a_stE (E := (eNv B)) (chM m (ndA m B) ((chR m)[k.toNat]'(by omega)), v') rfl rfl rfl rfl (fN rfl rfl) bnd (by exact rfl)) (by exact rfl) (by exact rfl) ?_; (refine d_nil ?_; refine dN ?_))); any_goals kernel_rfl) | ((first | refine o_gs rfl rfl (fun hc => ?_) (fun hc => ?_) | refine g_cond rfl (fun hc => ?_) (fun hc => ?_)) <;> (try simp only [dcB] at hc) <;> (try first | contradiction | (exfalso; omega)))
        refine g_conv (t_subK (L' := []) 9 rfl (fun y hy => by cases hy)) ?_
        refine g_conv (t_packN (L := []) 12 9 rfl (plain_eNv _) rfl) ?_
        repeat refine cr ?_
        refine ends_id ?_
        refine endK [?_] (h2 := ?_) (h3 := ?_) (nd := ?_)
        rotate_left 1
        all_goals (repeat' first | exact ce0 | refine ce ?_ | refine ce2 ?_ ?_ | (refine Or.inr (bx_eq rfl rfl ?_); (try dsimp only [C.ren, C.ren.all]); (try exact rfl)) | exact SVLe.refl | refine ceb ?_)
        all_goals first | exact (show nodupB _ = true from rfl) | exact Or.inr rfl | (rfl)
    · have e : pthL B (root sy st) p = some ((pre ++ [(m, v)]).map (·.1)) := by
        rw [← k4, List.drop_of_length_le (by omega)]
        simp [pthL]
      rw [e]
      repeat' first | (apply n3; exact a_nilO (eNv B) rfl; exact rfl) | (apply n3; (first | exact a_litE (eNv B) [(chM m (ndA m B) ((chR m)[k.toNat]'(by omega)), v')] rfl rfl rfl rfl rfl rfl rfl rfl | exact a_appN (fP rfl) rfl rfl rfl nowR (by first | omega | (simp; omega)) (by decide) (by exact rfl)); exact rfl; refine dA ?_) | (apply p3; (first | exact pu1 | exact puL | exact puC | exact a_ldE (E := eR) 0 rfl rfl rfl (fC rfl) rfl rfl (Nat.le_of_ble_eq_true rfl) bnd rfl (by first | exact trivial | exact rfl) | exact a_ldE (E := eR) 1 rfl rfl rfl (fC rfl) rfl rfl (Nat.le_of_ble_eq_true rfl) bnd rfl (by first | exact trivial | exact rfl) | exact a_ldE (E := eR) 2 rfl rfl rfl (fC rfl) rfl rfl (Nat.le_of_ble_eq_true rfl) bnd rfl (by first | exact trivial | exact rfl) | exact a_ldsE (E := eR) 0 rfl rfl rfl (fA rfl) rfl rfl (Nat.le_of_ble_eq_true rfl) (Nat.le_of_ble_eq_true rfl) bnd rfl (by repeat (first | exact trivial | exact rfl | refine And.intro ?_ ?_)) rfl | exact a_sub rfl rfl (by omega) (by omega) | exact a_add rfl rfl (by omega) (by omega) | exact puI); exact rfl) | refine cd ?_ | (apply s3; exact a_appE (fP rfl) rfl rfl rfl rfl nowR (by first | omega | (simp; omega)) (by decide) (by decide) (by exact rfl); exact rfl; exact rfl) | (apply c4 1; exact callK1 (θ := []) (hD := (childrenY_ok m B hm hs)); exact rfl; exact rfl; exact rfl; refine dM ?_) | (apply c4 1; exact callK1 (θ := []) (hD := (childrenN_ok m B hm hs)); exact rfl; exact rfl; exact rfl; refine dM ?_) | (apply c4 1; exact callK1 (θ := []) (hD := (childrenA_ok _ _ preB115)); exact rfl; exact rfl; exact rfl; refine dM ?_) | (apply c4 0; exact callK1 (θ := []) (hD := (sizeR_ok _ preB115)); exact rfl; exact rfl; exact rfl; refine dM ?_) | (apply c4 0; exact callK1 (θ := []) (hD := (within_ok _ _ _)); exact rfl; exact rfl; exact rfl; refine dM ?_) | (apply g_drN (id := 9) okM [[],[],[1],[],[3],[],[],[5,6],[5,6,7],[1,2,3,4,5,6,7,8],[0,1,2,3,4,5,6,7,8,9],[0,1,2,3,4,5,6,7,8,9,10]] [([],[]),([],[]),([],[]),([],[]),([],[]),([],[]),([],[]),([],[]),([],[]),([0,1],[2]),([2,3],[0,1,12,13]),([],[8])] 4; (focus (refine dp 0 0 [39, 40, 41, 42, 43, 44, 45, 46, 47] [(true, 0), (true, 1), (false, 2)] pu1 ?_; refine dp 1 0 [38, 41, 42, 43, 44, 45, 46] [] (a_pure (sv := .one _) rfl) ?_; refine dp 2 1 [38, 41, 42, 43, 44, 45, 46] [] (by first | exact a_ldsE (E := eR) 0 rfl rfl rfl (fA rfl) rfl rfl (Nat.le_of_ble_eq_true rfl) (Nat.le_of_ble_eq_true rfl) bnd rfl (by repeat (first | exact trivial | exact rfl | refine And.intro ?_ ?_)) rfl | exact puL) ?_; refine dp 3 0 [38, 39, 40, 43, 44, 45, 46] [] (a_pure (sv := .one _) rfl) ?_; refine dp 4 1 [38, 39, 40, 43, 44, 45, 46] [] (by first | exact a_ldE (E := eR) 0 rfl rfl rfl (fC rfl) rfl rfl (Nat.le_of_ble_eq_true rfl) bnd rfl (by first | exact trivial | exact rfl) | exact a_ldE (E := eR) 1 rfl rfl rfl (fC rfl) rfl rfl (Nat.le_of_ble_eq_true rfl) bnd rfl (by first | exact trivial | exact rfl) | exact a_ldE (E := eR) 2 rfl rfl rfl (fC rfl) rfl rfl (Nat.le_of_ble_eq_true rfl) bnd rfl (by first | exact trivial | exact rfl) | exact puL) ?_; refine dp 5 0 [38, 39, 40, 41, 42, 44] [] pu1 ?_; refine dp 6 0 [38, 39, 40, 41, 42, 43] [] pu1 ?_; refine dp 7 3 [38, 39, 40, 41, 42] [] puI ?_; refine dp 8 7 [38, 39, 40, 41, 42] [] (by first | exact a_ldE (E := eR) 0 rfl rfl rfl (fC rfl) rfl rfl (Nat.le_of_ble_eq_true rfl) bnd rfl (by first | exact trivial | exact rfl) | exact a_ldsE (E := eR) 0 rfl rfl rfl (fA rfl) rfl rfl (Nat.le_of_ble_eq_true rfl) (Nat.le_of_ble_eq_true rfl) bnd rfl (by repeat (first | exact trivial | exact rfl | refine And.intro ?_ ?_)) rfl | exact puL) ?_; refine duN 9 255 [38] [] (callD0 (n := _) 0 (θ := [2]) (hD := (childQ_ok Z m _ _ preB115 preB115 preB115))) (by exact rfl) (by exact rfl) ?_; refine duN 10 1023 [] [] (callD0 (n := _) 2 (θ := [0, 1, 12, 13]) (hD := (lookQ_ok Z st sy B _ h2 preB115 preB115))) (by exact rfl) (by exact rfl) ?_; refine duE 11 2047 [] [] (by first | exact a_st_bx rfl rfl rfl rfl (fN rfl rfl) (Nat.le_of_ble_eq_true rfl) rfl | exact a_stF (E := eR) ⟨_, _, _⟩ rfl rfl rfl rfl (fN rfl rfl) (Nat.le_of_ble_eq_true rfl) (Nat.le_of_ble_eq_true rfl) (by first | exact List.getElem?_set_self bnd | exact List.getElem?_eq_getElem bnd) (by (try dsimp only [setRow, List.set_cons_succ, List.set_cons_zero]); first | done | exact rfl) rfl | exact a_stE (E := (eNv B)) (chM m (ndA m B) ((chR m)[k.toNat]'(by omega)), v') rfl rfl rfl rfl (fN rfl rfl) bnd (by exact rfl)) (by exact rfl) (by exact rfl) ?_; (refine d_nil ?_; refine dN ?_))); any_goals kernel_rfl) | ((first | refine o_gs rfl rfl (fun hc => ?_) (fun hc => ?_) | refine g_cond rfl (fun hc => ?_) (fun hc => ?_)) <;> (try simp only [dcB] at hc) <;> (try first | contradiction | (exfalso; omega)))
      refine g_conv (t_packN 10 9 rfl (plain_eNv _) rfl) ?_
      repeat refine cr ?_
      refine ends_id ?_
      refine endK [?_] (h2 := ?_) (h3 := ?_) (nd := ?_)
      rotate_left 1
      all_goals (repeat' first | exact ce0 | refine ce ?_ | refine ce2 ?_ ?_ | (refine Or.inr (bx_eq rfl rfl ?_); (try dsimp only [C.ren, C.ren.all]); (try exact rfl)) | exact SVLe.refl | refine ceb ?_)
      all_goals first | exact (show nodupB _ = true from rfl) | exact Or.inr rfl | (rfl)
/-- What TnfAt hands back. -/
@[irreducible] def tfM (st sy B : Int) (p : List Int) : Mach := if askT st sy B = 0 then (pth B (root sy st) p).getD mach0 else mach0
@[irreducible] def tfC (st sy B : Int) (p : List Int) : Int := if askT st sy B = 0 then if (pth B (root sy st) p).isSome = true then 0 else 3 else askT st sy B
theorem tf_ask {st sy B : Int} {p : List Int} (h : ¬ askT st sy B = 0) : tfM st sy B p = mach0 ∧ tfC st sy B p = askT st sy B := by
  unfold tfM tfC; rw [if_neg h, if_neg h]; exact ⟨rfl, rfl⟩
theorem tf_none {st sy B : Int} {p : List Int} (h : askT st sy B = 0) (hv : pth B (root sy st) p = none) : tfM st sy B p = mach0 ∧ tfC st sy B p = 3 := by
  unfold tfM tfC; rw [if_pos h, if_pos h, hv]; exact ⟨rfl, rfl⟩
theorem tf_some {st sy B : Int} {p : List Int} {m : Mach} (h : askT st sy B = 0) (hv : pth B (root sy st) p = some m) : tfM st sy B p = m ∧ tfC st sy B p = 0 := by
  unfold tfM tfC; rw [if_pos h, if_pos h, hv]; exact ⟨rfl, rfl⟩
theorem tfM_len (st sy B : Int) (p : List Int) : ((tfM st sy B p).ru.length : Int) ≤ 6000 := by
  by_cases h : askT st sy B = 0
  · cases hv : pth B (root sy st) p with
    | none => rw [(tf_none h hv).1]; simp
    | some m =>
      obtain ⟨q1, q2, q3, q4⟩ := ask_bd h
      rw [(tf_some h hv).1]
      exact vMach_len (pth_ok (root_ok q2.1 q2.2 q1.1 (by omega)) hv).1.v
  · rw [(tf_ask h).1]; simp
theorem sTnfAt_ok (st sy B : Int) (p : List Int) (hp : (p.length : Int) ≤ 1048576) : Does Tryz.prog 15 [.one (int st), .one (int sy), .one (shI p), .one (int B)] [] (.tup [(true, maC (tfM st sy B p)), (false, [int (tfC st sy B p)])]) [] := by
  by_cases h : askT st sy B = 0
  · obtain ⟨q1, q2, q3, q4⟩ := ask_bd h
    cases hv : pth B (root sy st) p with
    | none =>
      obtain ⟨e1, e2⟩ := tf_none h hv
      rw [e1, e2]
      refine does_of (k := 0) Tryz.func15 rfl Tryz.ntmps15 rfl rfl fun w F0 S0 ρ0 => ?_
      dsimp only [argT, argH]
      repeat' first | (apply n3; exact a_new (gb := .bx _) rfl; exact rfl; refine dA ?_) | (apply p3; (first | exact pu1 | exact a_ne rfl rfl | exact a_neS rfl rfl rfl); exact rfl) | refine cdn ?_ | refine g_reg (id := 0) ?_ | refine g_reg (id := 1) ?_ | refine g_reg (id := 2) ?_ | refine g_reg (id := 3) ?_ | refine g_reg (id := 4) ?_ | (apply w3; (first | exact a_st_bx rfl rfl rfl rfl (fN rfl rfl) (Nat.le_of_ble_eq_true rfl) rfl | exact a_stE (E := eMa) ⟨_, _, _⟩ rfl rfl rfl rfl (fN rfl rfl) bnd (by exact rfl)); exact rfl; refine dS ?_) | (apply c4 0; exact callK1 (θ := []) (hD := (l30Ask_ok _ _ _)); exact rfl; exact rfl; exact rfl; refine dM ?_) | (apply c4 0; exact callK0 (θ := []) (hD := (l30At_ok _ _ _ _ preB115 preB115 preB115 preB115 preB115 preB115 preB115)); exact rfl; exact rfl; exact rfl; refine dM ?_) | ((first | refine o_gs rfl rfl (fun hc => ?_) (fun hc => ?_) | refine g_cond rfl (fun hc => ?_) (fun hc => ?_)) <;> (try simp only [dcB] at hc) <;> (try first | contradiction | (exfalso; omega)))
      simp only [hv, Option.getD_none, Option.isSome_none]
      repeat' first | (apply n3; exact a_new (gb := .bx _) rfl; exact rfl; refine dA ?_) | (apply p3; (first | exact pu1 | exact puL | exact a_ne rfl rfl | exact a_neS rfl rfl rfl); exact rfl) | refine cd ?_ | (apply w3; (first | exact a_st_bx rfl rfl rfl rfl (fN rfl rfl) (Nat.le_of_ble_eq_true rfl) rfl | exact a_stE (E := eMa) ⟨_, _, _⟩ rfl rfl rfl rfl (fN rfl rfl) bnd (by exact rfl)); exact rfl; refine dS ?_) | (apply c4 0; exact callK1 (θ := []) (hD := (l30Ask_ok _ _ _)); exact rfl; exact rfl; exact rfl; refine dM ?_) | (apply c4 0; exact callK0 (θ := []) (hD := (l30At_ok _ _ _ _ preB115 preB115 preB115 preB115 preB115 preB115 preB115)); exact rfl; exact rfl; exact rfl; refine dM ?_) | ((first | refine o_gs rfl rfl (fun hc => ?_) (fun hc => ?_) | refine g_cond rfl (fun hc => ?_) (fun hc => ?_)) <;> (try simp only [dcB] at hc) <;> (try first | contradiction | (exfalso; omega)))
      repeat refine cr ?_
      refine ends_id ?_
      refine endK [] (h2 := ?_) (h3 := ?_) (nd := ?_)
      all_goals (repeat' first | exact ce0 | refine ce ?_ | refine ce2 ?_ ?_ | exact SVLe.refl | refine ceb ?_)
      all_goals first | exact (show nodupB _ = true from rfl) | exact Or.inr rfl | (rfl)
    | some m =>
      obtain ⟨e1, e2⟩ := tf_some h hv
      rw [e1, e2]
      refine does_of (k := 0) Tryz.func15 rfl Tryz.ntmps15 rfl rfl fun w F0 S0 ρ0 => ?_
      dsimp only [argT, argH]
      repeat' first | (apply n3; exact a_new (gb := .bx _) rfl; exact rfl; refine dA ?_) | (apply p3; (first | exact pu1 | exact a_ne rfl rfl | exact a_neS rfl rfl rfl); exact rfl) | refine cdn ?_ | refine g_reg (id := 0) ?_ | refine g_reg (id := 1) ?_ | refine g_reg (id := 2) ?_ | refine g_reg (id := 3) ?_ | refine g_reg (id := 4) ?_ | (apply w3; (first | exact a_st_bx rfl rfl rfl rfl (fN rfl rfl) (Nat.le_of_ble_eq_true rfl) rfl | exact a_stE (E := eMa) ⟨_, _, _⟩ rfl rfl rfl rfl (fN rfl rfl) bnd (by exact rfl)); exact rfl; refine dS ?_) | (apply c4 0; exact callK1 (θ := []) (hD := (l30Ask_ok _ _ _)); exact rfl; exact rfl; exact rfl; refine dM ?_) | (apply c4 0; exact callK0 (θ := []) (hD := (l30At_ok _ _ _ _ preB115 preB115 preB115 preB115 preB115 preB115 preB115)); exact rfl; exact rfl; exact rfl; refine dM ?_) | ((first | refine o_gs rfl rfl (fun hc => ?_) (fun hc => ?_) | refine g_cond rfl (fun hc => ?_) (fun hc => ?_)) <;> (try simp only [dcB] at hc) <;> (try first | contradiction | (exfalso; omega)))
      simp only [hv, Option.getD_some, Option.isSome_some]
      repeat' first | (apply n3; exact a_new (gb := .bx _) rfl; exact rfl; refine dA ?_) | (apply p3; (first | exact pu1 | exact puL | exact a_ne rfl rfl | exact a_neS rfl rfl rfl); exact rfl) | refine cd ?_ | (apply w3; (first | exact a_st_bx rfl rfl rfl rfl (fN rfl rfl) (Nat.le_of_ble_eq_true rfl) rfl | exact a_stE (E := eMa) ⟨_, _, _⟩ rfl rfl rfl rfl (fN rfl rfl) bnd (by exact rfl)); exact rfl; refine dS ?_) | (apply c4 0; exact callK1 (θ := []) (hD := (l30Ask_ok _ _ _)); exact rfl; exact rfl; exact rfl; refine dM ?_) | (apply c4 0; exact callK0 (θ := []) (hD := (l30At_ok _ _ _ _ preB115 preB115 preB115 preB115 preB115 preB115 preB115)); exact rfl; exact rfl; exact rfl; refine dM ?_) | ((first | refine o_gs rfl rfl (fun hc => ?_) (fun hc => ?_) | refine g_cond rfl (fun hc => ?_) (fun hc => ?_)) <;> (try simp only [dcB] at hc) <;> (try first | contradiction | (exfalso; omega)))
      repeat refine cr ?_
      refine ends_id ?_
      refine endK [] (h2 := ?_) (h3 := ?_) (nd := ?_)
      all_goals (repeat' first | exact ce0 | refine ce ?_ | refine ce2 ?_ ?_ | exact SVLe.refl | refine ceb ?_)
      all_goals first | exact (show nodupB _ = true from rfl) | exact Or.inr rfl | (rfl)
  · obtain ⟨e1, e2⟩ := tf_ask (p := p) h
    rw [e1, e2]
    refine does_of (k := 0) Tryz.func15 rfl Tryz.ntmps15 rfl rfl fun w F0 S0 ρ0 => ?_
    dsimp only [argT, argH]
    repeat' first | (apply n3; exact a_new (gb := .bx _) rfl; exact rfl; refine dA ?_) | (apply p3; (first | exact pu1 | exact puL | exact a_ne rfl rfl | exact a_neS rfl rfl rfl); exact rfl) | refine cd ?_ | (apply w3; (first | exact a_st_bx rfl rfl rfl rfl (fN rfl rfl) (Nat.le_of_ble_eq_true rfl) rfl | exact a_stE (E := eMa) ⟨_, _, _⟩ rfl rfl rfl rfl (fN rfl rfl) bnd (by exact rfl)); exact rfl; refine dS ?_) | (apply c4 0; exact callK1 (θ := []) (hD := (l30Ask_ok _ _ _)); exact rfl; exact rfl; exact rfl; refine dM ?_) | (apply c4 0; exact callK0 (θ := []) (hD := (l30At_ok _ _ _ _ preB115 preB115 preB115 preB115 preB115 preB115 preB115)); exact rfl; exact rfl; exact rfl; refine dM ?_) | ((first | refine o_gs rfl rfl (fun hc => ?_) (fun hc => ?_) | refine g_cond rfl (fun hc => ?_) (fun hc => ?_)) <;> (try simp only [dcB] at hc) <;> (try first | contradiction | (exfalso; omega)))
    repeat refine cr ?_
    refine ends_id ?_
    refine endK [] (h2 := ?_) (h3 := ?_) (nd := ?_)
    all_goals (repeat' first | exact ce0 | refine ce ?_ | refine ce2 ?_ ?_ | exact SVLe.refl | refine ceb ?_)
    all_goals first | exact (show nodupB _ = true from rfl) | exact Or.inr rfl | (rfl)
theorem iTnfAt_ok (st sy B : Int) (p : List Int) (hp : (p.length : Int) ≤ 1048576) : Does Tryz.prog 17 [.one (int st), .one (int sy), .one (shI p), .one (int B)] [] (.tup [(true, [int (tfM st sy B p).sy, int (tfM st sy B p).st, .gv 0]), (false, [int (tfC st sy B p)])]) [.row 3 (rows eR (tfM st sy B p).ru)] := by
  by_cases h : askT st sy B = 0
  · obtain ⟨q1, q2, q3, q4⟩ := ask_bd h
    have hls := pthL_pth (B := B) p (root sy st)
    cases hv : pth B (root sy st) p with
    | none =>
      obtain ⟨e1, e2⟩ := tf_none h hv
      rw [e1, e2]
      rw [hv] at hls
      refine does_of (k := 0) Tryz.func17 rfl Tryz.ntmps17 rfl rfl fun w F0 S0 ρ0 => ?_
      dsimp only [argT, argH]
      refine g_conv t_zw ?_
      repeat' first | (apply n3; exact a_new (gb := .bx _) rfl; exact rfl; refine dA ?_) | (apply p3; (first | exact pu1 | exact a_ne rfl rfl | exact a_neS rfl rfl rfl); exact rfl) | refine cdn ?_ | refine g_reg (id := 0) ?_ | refine g_reg (id := 1) ?_ | refine g_reg (id := 2) ?_ | refine g_reg (id := 3) ?_ | refine g_reg (id := 4) ?_ | (apply w3; (first | exact a_st_bx rfl rfl rfl rfl (fN rfl rfl) (Nat.le_of_ble_eq_true rfl) rfl | exact a_stE (E := eMa) ⟨_, _, _⟩ rfl rfl rfl rfl (fN rfl rfl) bnd (by exact rfl)); exact rfl; refine dS ?_) | (apply c4 0; exact callK1 (θ := []) (hD := (sizesCode_ok _ _ _)); exact rfl; exact rfl; exact rfl; refine dM ?_) | (apply c4 2; exact callK0 (θ := []) (hD := (forestQ_ok S0 st sy B)); exact rfl; exact rfl; exact rfl; refine dM ?_) | (apply c4 1; exact callK0 (θ := [2, 3, 0]) (hD := (atQ_ok S0 st sy B p preB115 preB115 preB115 preB115 preB115 preB115 preB115)); exact rfl; exact rfl; exact rfl; refine dM ?_) | ((first | refine o_gs rfl rfl (fun hc => ?_) (fun hc => ?_) | refine g_cond rfl (fun hc => ?_) (fun hc => ?_)) <;> (try simp only [dcB] at hc) <;> (try first | contradiction | (exfalso; omega)))
      simp only [hls, Option.isSome_none]
      repeat' first | (apply n3; exact a_new (gb := .bx _) rfl; exact rfl; refine dA ?_) | (apply p3; (first | exact pu1 | exact puL | exact a_ne rfl rfl | exact a_neS rfl rfl rfl | exact puN | exact a_len_str rfl (fT rfl) | exact a_ldsE (E := (eNd B)) 0 rfl rfl rfl (fA rfl) rfl rfl (Nat.le_of_ble_eq_true rfl) (Nat.le_of_ble_eq_true rfl) bnd rfl (by repeat (first | exact trivial | exact rfl | refine And.intro ?_ ?_)) rfl | exact puI); exact rfl) | refine cd ?_ | (apply w3; (first | exact a_st_bx rfl rfl rfl rfl (fN rfl rfl) (Nat.le_of_ble_eq_true rfl) rfl | exact a_stE (E := eMa) ⟨_, _, _⟩ rfl rfl rfl rfl (fN rfl rfl) bnd (by exact rfl)); exact rfl; refine dS ?_) | (apply c4 0; exact callK1 (θ := []) (hD := (sizesCode_ok _ _ _)); exact rfl; exact rfl; exact rfl; refine dM ?_) | (apply c4 2; exact callK0 (θ := []) (hD := (forestQ_ok S0 st sy B)); exact rfl; exact rfl; exact rfl; refine dM ?_) | (apply c4 1; exact callK0 (θ := [2, 3, 0]) (hD := (atQ_ok S0 st sy B p preB115 preB115 preB115 preB115 preB115 preB115 preB115)); exact rfl; exact rfl; exact rfl; refine dM ?_) | ((first | refine o_gs rfl rfl (fun hc => ?_) (fun hc => ?_) | refine g_cond rfl (fun hc => ?_) (fun hc => ?_)) <;> (try simp only [dcB] at hc) <;> (try first | contradiction | (exfalso; omega)))
      refine g_conv (t_nilB (i := 1) (k := 2) (z := 3) rfl rfl rfl (by decide)) ?_
      try dsimp only [setRow, List.map_cons, List.map_nil, scC, List.set_cons_zero, List.set_cons_succ, Nat.reduceAdd]
      repeat refine cr ?_
      refine ends_id ?_
      refine endK [?_] (h2 := ?_) (h3 := ?_) (nd := ?_)
      rotate_left 1
      all_goals (repeat' first | exact ce0 | refine ce ?_ | refine ce2 ?_ ?_ | (refine Or.inr (bx_eq rfl rfl ?_); (try dsimp only [C.ren, C.ren.all]); (try exact rfl)) | exact SVLe.refl | refine ceb ?_)
      all_goals first | exact (show nodupB _ = true from rfl) | exact Or.inr rfl | (rfl)
    | some m =>
      obtain ⟨e1, e2⟩ := tf_some h hv
      obtain ⟨L, hL, hLl, hLg⟩ := pthL_some hv
      rw [e1, e2]
      refine does_of (k := 0) Tryz.func17 rfl Tryz.ntmps17 rfl rfl fun w F0 S0 ρ0 => ?_
      dsimp only [argT, argH]
      refine g_conv t_zw ?_
      repeat' first | (apply n3; exact a_new (gb := .bx _) rfl; exact rfl; refine dA ?_) | (apply p3; (first | exact pu1 | exact a_ne rfl rfl | exact a_neS rfl rfl rfl); exact rfl) | refine cdn ?_ | refine g_reg (id := 0) ?_ | refine g_reg (id := 1) ?_ | refine g_reg (id := 2) ?_ | refine g_reg (id := 3) ?_ | refine g_reg (id := 4) ?_ | (apply w3; (first | exact a_st_bx rfl rfl rfl rfl (fN rfl rfl) (Nat.le_of_ble_eq_true rfl) rfl | exact a_stE (E := eMa) ⟨_, _, _⟩ rfl rfl rfl rfl (fN rfl rfl) bnd (by exact rfl)); exact rfl; refine dS ?_) | (apply c4 0; exact callK1 (θ := []) (hD := (sizesCode_ok _ _ _)); exact rfl; exact rfl; exact rfl; refine dM ?_) | (apply c4 2; exact callK0 (θ := []) (hD := (forestQ_ok S0 st sy B)); exact rfl; exact rfl; exact rfl; refine dM ?_) | (apply c4 1; exact callK0 (θ := [2, 3, 0]) (hD := (atQ_ok S0 st sy B p preB115 preB115 preB115 preB115 preB115 preB115 preB115)); exact rfl; exact rfl; exact rfl; refine dM ?_) | ((first | refine o_gs rfl rfl (fun hc => ?_) (fun hc => ?_) | refine g_cond rfl (fun hc => ?_) (fun hc => ?_)) <;> (try simp only [dcB] at hc) <;> (try first | contradiction | (exfalso; omega)))
      simp only [hL, Option.isSome_some, Option.getD_some]
      repeat' first | (apply n3; exact a_new (gb := .bx _) rfl; exact rfl; refine dA ?_) | (apply p3; (first | exact pu1 | exact a_ne rfl rfl | exact a_neS rfl rfl rfl); exact rfl) | refine cdn ?_ | refine g_reg (id := 0) ?_ | refine g_reg (id := 1) ?_ | refine g_reg (id := 2) ?_ | refine g_reg (id := 3) ?_ | refine g_reg (id := 4) ?_ | refine g_reg (id := 5) ?_ | refine g_reg (id := 6) ?_ | (apply w3; (first | exact a_st_bx rfl rfl rfl rfl (fN rfl rfl) (Nat.le_of_ble_eq_true rfl) rfl | exact a_stE (E := eMa) ⟨_, _, _⟩ rfl rfl rfl rfl (fN rfl rfl) bnd (by exact rfl)); exact rfl; refine dS ?_) | (apply c4 0; exact callK1 (θ := []) (hD := (sizesCode_ok _ _ _)); exact rfl; exact rfl; exact rfl; refine dM ?_) | (apply c4 2; exact callK0 (θ := []) (hD := (forestQ_ok S0 st sy B)); exact rfl; exact rfl; exact rfl; refine dM ?_) | (apply c4 1; exact callK0 (θ := [2, 3, 0]) (hD := (atQ_ok S0 st sy B p preB115 preB115 preB115 preB115 preB115 preB115 preB115)); exact rfl; exact rfl; exact rfl; refine dM ?_) | ((first | refine o_gs rfl rfl (fun hc => ?_) (fun hc => ?_) | refine g_cond rfl (fun hc => ?_) (fun hc => ?_)) <;> (try simp only [dcB] at hc) <;> (try first | contradiction | (exfalso; omega)))
      refine g_openN 4 plain_eNv rfl (fun K hK => ?_)
      have hKl : (K.length : Int) = p.length + 1 := by
        have := congrArg List.length hK
        rw [List.length_map] at this
        omega
      obtain ⟨v, hx⟩ : ∃ v, K[((p.length : Nat) : Int).toNat]'(by omega) = (m, v) := by
        refine ⟨(K[((p.length : Nat) : Int).toNat]'(by omega)).2, ?_⟩
        have h1 := hLg ((p.length : Nat) : Int).toNat (by omega)
        rw [List.take_of_length_le (by simp), hv] at h1
        have h2 := Option.some.inj h1
        have h3 : (K[((p.length : Nat) : Int).toNat]'(by omega)).1 = L[((p.length : Nat) : Int).toNat]'(by omega) := by
          have := congrArg (fun l => l[((p.length : Nat) : Int).toNat]?) hK
          simp only [List.getElem?_map] at this
          rw [List.getElem?_eq_getElem (by omega), List.getElem?_eq_getElem (by omega)] at this
          exact Option.some.inj this
        rw [← h2] at h3
        exact Prod.ext h3 rfl
      have hmem : (m, v) ∈ K := hx ▸ List.getElem_mem _
      repeat' first | (apply n3; exact a_new (gb := .bx _) rfl; exact rfl; refine dA ?_) | (apply p3; (first | exact pu1 | exact puL | exact a_ne rfl rfl | exact a_neS rfl rfl rfl | exact puN | exact a_len_str rfl (fT rfl) | exact a_ldsE (E := (eNv B)) 0 rfl rfl rfl (fA rfl) rfl rfl (Nat.le_of_ble_eq_true rfl) (Nat.le_of_ble_eq_true rfl) bnd rfl (by repeat (first | exact trivial | exact rfl | refine And.intro ?_ ?_)) rfl | exact puI); exact rfl) | refine cd ?_ | (apply w3; (first | exact a_st_bx rfl rfl rfl rfl (fN rfl rfl) (Nat.le_of_ble_eq_true rfl) rfl | exact a_stE (E := eMa) ⟨_, _, _⟩ rfl rfl rfl rfl (fN rfl rfl) bnd (by exact rfl)); exact rfl; refine dS ?_) | (apply c4 0; exact callK1 (θ := []) (hD := (sizesCode_ok _ _ _)); exact rfl; exact rfl; exact rfl; refine dM ?_) | (apply c4 2; exact callK0 (θ := []) (hD := (forestQ_ok S0 st sy B)); exact rfl; exact rfl; exact rfl; refine dM ?_) | (apply c4 1; exact callK0 (θ := [2, 3, 0]) (hD := (atQ_ok S0 st sy B p preB115 preB115 preB115 preB115 preB115 preB115 preB115)); exact rfl; exact rfl; exact rfl; refine dM ?_) | ((first | refine o_gs rfl rfl (fun hc => ?_) (fun hc => ?_) | refine g_cond rfl (fun hc => ?_) (fun hc => ?_)) <;> (try simp only [dcB] at hc) <;> (try first | contradiction | (exfalso; omega)))
      simp only [hx]
      refine g_conv (t_rcOf m v 5 rfl hmem) ?_
      refine g_conv (t_isv v) ?_
      refine g_turn (t_thawB (t' := [(8, .one (.gv 1)), (9, .one (int 0))]) 1 2 6 5 0 rfl rfl rfl rfl rfl rfl rfl rfl ⟨.inr rfl, .inr rfl, trivial⟩ ⟨trivial, trivial, trivial⟩) ?_
      repeat refine cr ?_
      refine ends_id ?_
      refine endK [?_] (h2 := ?_) (h3 := ?_) (nd := ?_)
      rotate_left 1
      all_goals (repeat' first | exact ce0 | refine ce ?_ | refine ce2 ?_ ?_ | (refine Or.inr (bx_eq rfl rfl ?_); (try dsimp only [C.ren, C.ren.all]); (try exact rfl)) | exact SVLe.refl | refine ceb ?_)
      all_goals first | exact (show nodupB _ = true from rfl) | exact Or.inr rfl | (rfl)
  · obtain ⟨e1, e2⟩ := tf_ask (p := p) h
    rw [e1, e2]
    refine does_of (k := 0) Tryz.func17 rfl Tryz.ntmps17 rfl rfl fun w F0 S0 ρ0 => ?_
    dsimp only [argT, argH]
    repeat' first | (apply n3; exact a_new (gb := .bx _) rfl; exact rfl; refine dA ?_) | (apply p3; (first | exact pu1 | exact puL | exact a_ne rfl rfl | exact a_neS rfl rfl rfl | exact puN | exact a_len_str rfl (fT rfl) | exact a_ldsE (E := (eNv B)) 0 rfl rfl rfl (fA rfl) rfl rfl (Nat.le_of_ble_eq_true rfl) (Nat.le_of_ble_eq_true rfl) bnd rfl (by repeat (first | exact trivial | exact rfl | refine And.intro ?_ ?_)) rfl | exact puI); exact rfl) | refine cd ?_ | (apply w3; (first | exact a_st_bx rfl rfl rfl rfl (fN rfl rfl) (Nat.le_of_ble_eq_true rfl) rfl | exact a_stE (E := eMa) ⟨_, _, _⟩ rfl rfl rfl rfl (fN rfl rfl) bnd (by exact rfl)); exact rfl; refine dS ?_) | (apply c4 0; exact callK1 (θ := []) (hD := (sizesCode_ok _ _ _)); exact rfl; exact rfl; exact rfl; refine dM ?_) | (apply c4 2; exact callK0 (θ := []) (hD := (forestQ_ok S0 st sy B)); exact rfl; exact rfl; exact rfl; refine dM ?_) | (apply c4 1; exact callK0 (θ := [2, 3, 0]) (hD := (atQ_ok S0 st sy B p preB115 preB115 preB115 preB115 preB115 preB115 preB115)); exact rfl; exact rfl; exact rfl; refine dM ?_) | ((first | refine o_gs rfl rfl (fun hc => ?_) (fun hc => ?_) | refine g_cond rfl (fun hc => ?_) (fun hc => ?_)) <;> (try simp only [dcB] at hc) <;> (try first | contradiction | (exfalso; omega)))
    refine g_conv (t_nilB (i := 0) (k := 2) (z := 3) rfl rfl rfl (by decide)) ?_
    try dsimp only [setRow, List.map_cons, List.map_nil, scC, List.set_cons_zero, List.set_cons_succ, Nat.reduceAdd]
    repeat refine cr ?_
    refine ends_id ?_
    refine endK [?_] (h2 := ?_) (h3 := ?_) (nd := ?_)
    rotate_left 1
    all_goals (repeat' first | exact ce0 | refine ce ?_ | refine ce2 ?_ ?_ | (refine Or.inr (bx_eq rfl rfl ?_); (try dsimp only [C.ren, C.ren.all]); (try exact rfl)) | exact SVLe.refl | refine ceb ?_)
    all_goals first | exact (show nodupB _ = true from rfl) | exact Or.inr rfl | (rfl)
end Go.Proofs.YtcmdfohamphndaaGreatDoor
end
section
set_option linter.unusedVariables false
set_option linter.unusedSimpArgs false
set_option maxRecDepth 100000
set_option maxHeartbeats 4000000
namespace Go.Proofs.YtcmdfohamphndaaGreatDoor
open Go Foot
/-- Numbers one behind the other. -/
@[irreducible] def marks (k : Int) (n : Nat) : List Int := (List.range n).map fun (i : Nat) => k + (i : Int)
theorem marks_len (k : Int) (n : Nat) : (marks k n).length = n := by unfold marks; simp
theorem marks_get (k : Int) (n i : Nat) (h : i < n) : (marks k n)[i]? = some (k + i) := by unfold marks; simp [h]
theorem mark_end {k : Int} {xs l : List Int} (h1 : l.length = xs.length) (h2 : ∀ j (h : j < xs.length), l[j]? = some (k + j)) : l = marks k xs.length := by
  apply List.ext_getElem?
  intro j
  by_cases hj : j < xs.length
  · rw [marks_get k _ j hj, h2 j hj]
  · rw [List.getElem?_eq_none (by omega), List.getElem?_eq_none (by rw [marks_len]; omega)]
theorem markInt64S_ok (xs : List Int) (k : Int) (h1 : 0 ≤ k) (h2 : k ≤ 4611686018427387904) (hx : (xs.length : Int) ≤ 4611686018427) : Does Tryz.prog 20 [.one (.gv 0), .one (int k)] [roI xs] (.one (int (k + xs.length))) [roI (marks k xs.length)] := by
  refine does_of (k := 1) Tryz.func20 rfl Tryz.ntmps20 rfl rfl fun w F0 S0 ρ0 => ?_
  dsimp only [argT, argH]
  repeat' first | (apply p3; (first | exact pu1 | exact puN | exact a_len_str rfl (fT rfl) | exact puC | exact a_add rfl rfl (by omega) (by omega) | exact puI); exact rfl) | refine cd ?_ | (apply w3; (first | exact a_st_bx rfl rfl rfl rfl (fN rfl rfl) (Nat.le_of_ble_eq_true rfl) rfl | exact a_st_rowI rfl rfl rfl rfl (fN rfl rfl) bnd | exact a_stE (E := eI) _ rfl rfl rfl rfl (fN rfl rfl) bnd (by exact rfl)); exact rfl; refine dS ?_) | ((first | refine o_gs rfl rfl (fun hc => ?_) (fun hc => ?_) | refine g_cond rfl (fun hc => ?_) (fun hc => ?_)) <;> (try simp only [dcB] at hc) <;> (try first | contradiction | (exfalso; omega)))
  refine g_loop_id ?_
  refine loopK [0, 4] [0] (fun y : Int × List Int => 0 ≤ y.1 ∧ y.1 ≤ xs.length ∧ y.2.length = xs.length ∧ ∀ (j : Nat), (j : Int) < y.1 → y.2[j]? = some (k + j)) (fun y => [(5, .one (int y.1)), (1, .one (int (k + y.1)))]) (fun y => [(0, roI y.2)]) (fun y => (xs.length - y.1).toNat) ((0 : Int), xs) [0] (hI := ?_) (hr := ?_)
  · exact ⟨by simp, by simp, rfl, fun j h' => by simp at h'; omega⟩
  · rintro ⟨i, l⟩ ⟨k1, k2, k3, k4⟩
    dsimp only [List.cons_append, List.nil_append] at *
    skip
    repeat' first | (apply p3; (first | exact pu1 | exact puN | exact a_len_str rfl (fT rfl) | exact puC | exact a_add rfl rfl (by omega) (by omega) | exact puI); exact rfl) | refine cd ?_ | (apply w3; (first | exact a_st_bx rfl rfl rfl rfl (fN rfl rfl) (Nat.le_of_ble_eq_true rfl) rfl | exact a_st_rowI rfl rfl rfl rfl (fN rfl rfl) bnd | exact a_stE (E := eI) _ rfl rfl rfl rfl (fN rfl rfl) bnd (by exact rfl)); exact rfl; refine dS ?_) | ((first | refine o_gs rfl rfl (fun hc => ?_) (fun hc => ?_) | refine g_cond rfl (fun hc => ?_) (fun hc => ?_)) <;> (try simp only [dcB] at hc) <;> (try first | contradiction | (exfalso; omega)))
    · refine q_again (i + 1, l.set i.toNat (k + i)) [0] (by exact stk) ?_ ?_
      · refine ⟨by dsimp only; omega, by dsimp only; omega, by simp [k3], fun j h => ?_⟩
        dsimp only at h ⊢
        rw [List.getElem?_set]
        split
        · rename_i e
          subst e
          rw [if_pos (by omega)]
          congr 1
          omega
        · exact k4 j (by omega)
      · dsimp only; omega
    · have hi : i = xs.length := by omega
      subst hi
      have hl := mark_end (k := k) k3 fun j hj => k4 j (by omega)
      repeat refine cr ?_
      refine ends_id ?_
      refine endK [] (h2 := ?_) (h3 := ?_) (nd := ?_)
      all_goals (repeat' first | exact ce0 | refine ce ?_ | refine ce2 ?_ ?_ | (refine Or.inr (bx_eq rfl rfl ?_); (try dsimp only [C.ren, C.ren.all]); (try exact rfl)) | exact SVLe.refl | refine ceb ?_)
      all_goals first | exact (show nodupB _ = true from rfl) | exact Or.inr rfl | (exact hl)
/-- Are the numbers there? Then the next number, else -1. -/
@[irreducible] def held (k : Int) (xs : List Int) : Int := if xs = marks k xs.length then k + xs.length else -1
end Go.Proofs.YtcmdfohamphndaaGreatDoor
end
section
set_option linter.unusedVariables false
set_option linter.unusedSimpArgs false
set_option maxRecDepth 100000
set_option maxHeartbeats 4000000
namespace Go.Proofs.YtcmdfohamphndaaGreatDoor
open Go Foot
/-- Rules with numbers one behind the other. -/
@[irreducible] def marksR (k : Int) (n : Nat) : List Rule' := (List.range n).map fun (i : Nat) => ⟨k + 3 * (i : Int), k + 3 * (i : Int) + 1, k + 3 * (i : Int) + 2⟩
theorem marksR_len (k : Int) (n : Nat) : (marksR k n).length = n := by unfold marksR; simp
theorem marksR_get (k : Int) (n i : Nat) (h : i < n) : (marksR k n)[i]? = some ⟨k + 3 * i, k + 3 * i + 1, k + 3 * i + 2⟩ := by unfold marksR; simp [h]
theorem markR_end {k : Int} {xs l : List Rule'} (h1 : l.length = xs.length) (h2 : ∀ j (h : j < xs.length), l[j]? = some ⟨k + 3 * j, k + 3 * j + 1, k + 3 * j + 2⟩) : l = marksR k xs.length := by
  apply List.ext_getElem?
  intro j
  by_cases hj : j < xs.length
  · rw [marksR_get k _ j hj, h2 j hj]
  · rw [List.getElem?_eq_none (by omega), List.getElem?_eq_none (by rw [marksR_len]; omega)]
theorem preD2 {p : Prop} (h : p := by first | with_reducible assumption | omega | (simp only [List.length_append, List.length_cons, List.length_nil, List.length_set, List.length_replicate, List.length_take, List.length_drop, List.length_tail, List.length_dropLast, List.length_reverse] at *; omega) | exact mem_len (by assumption) (by omega) | (with_reducible refine Int.le_trans (Int.ofNat_le.2 (trimR_len _)) ?_; simp only [List.length_cons, List.length_tail]; omega) | (exact (ruAt_ok (by assumption) (by assumption) (by assumption)).2.1) | (exact (ruAt_ok (by assumption) (by assumption) (by assumption)).2.1) | (have := vMach_bd (by assumption); omega) | (simp only [mC_ch, mC_tu]; omega) | (have := vTag_bd (by assumption); omega) | (have := (‹Gd _ _›).le; omega) | (exact tgHalts_no (by assumption)) | (exact tgHead (by assumption) (by assumption) (by assumption)) | (exact Int.le_trans (tgStep_gd (by assumption) (by assumption) (by assumption) (by assumption)).le (by decide)) | (exact vTag_r (by assumption)) | (with_reducible refine Int.le_trans (Int.ofNat_le.2 (pushL_len _ _)) ?_; simp only [List.length_dropLast]; omega) | exact ls_at (by assumption) (by omega) | exact pt_gd (by assumption) | exact lv_at (by assumption) (by omega) | exact pt_gd (lv_at (by assumption) (by omega)) | exact (ask_ok (by assumption)).1 | exact (ask_ok (by assumption)).2.1 | exact (ask_ok (by assumption)).2.2.1 | exact (ask_ok (by assumption)).2.2.2 | (simp only [marks_len]; omega) | (simp only [marksR_len]; omega) | trivial) : p := h
theorem markRuleS_ok (m : Mach) (k : Int) (h1 : 0 ≤ k) (h2 : k ≤ 4611686018427387904) (hx : (m.ru.length : Int) ≤ 4611686018427) : Does Tryz.prog 73 [.one (.gv 0), .one (int k)] [.row 3 (rows eR m.ru)] (.one (int (k + 3 * m.ru.length))) [.row 3 (rows eR (marksR k m.ru.length))] := by
  refine does_of (k := 1) Tryz.func73 rfl Tryz.ntmps73 rfl rfl fun w F0 S0 ρ0 => ?_
  dsimp only [argT, argH]
  repeat' first | (apply p3; (first | exact pu1 | exact puN | exact a_len_str rfl (fT rfl) | exact puC | exact a_add rfl rfl (by omega) (by omega) | exact puI); exact rfl) | refine cd ?_ | (apply w3; (first | exact a_st_bx rfl rfl rfl rfl (fN rfl rfl) (Nat.le_of_ble_eq_true rfl) rfl | exact a_st_rowI rfl rfl rfl rfl (fN rfl rfl) bnd | exact a_stE (E := eI) _ rfl rfl rfl rfl (fN rfl rfl) bnd (by exact rfl) | exact a_stF (E := eR) ⟨_, _, _⟩ rfl rfl rfl rfl (fN rfl rfl) (Nat.le_of_ble_eq_true rfl) (Nat.le_of_ble_eq_true rfl) (by first | exact List.getElem?_set_self bnd | exact List.getElem?_eq_getElem bnd) (by (try dsimp only [setRow, List.set_cons_succ, List.set_cons_zero]); first | done | exact rfl) rfl); exact rfl; refine dS ?_) | ((first | refine o_gs rfl rfl (fun hc => ?_) (fun hc => ?_) | refine g_cond rfl (fun hc => ?_) (fun hc => ?_)) <;> (try simp only [dcB] at hc) <;> (try first | contradiction | (exfalso; omega)))
  refine g_loop_id ?_
  refine loopK [0, 4] [0] (fun y : Int × List Rule' => 0 ≤ y.1 ∧ y.1 ≤ m.ru.length ∧ y.2.length = m.ru.length ∧ ∀ (j : Nat), (j : Int) < y.1 → y.2[j]? = some ⟨k + 3 * j, k + 3 * j + 1, k + 3 * j + 2⟩) (fun y => [(5, .one (int y.1)), (1, .one (int (k + 3 * y.1)))]) (fun y => [(0, .row 3 (rows eR y.2))]) (fun y => (m.ru.length - y.1).toNat) ((0 : Int), m.ru) [0] (hI := ?_) (hr := ?_)
  · exact ⟨by simp, by simp, rfl, fun j h' => by simp at h'; omega⟩
  · rintro ⟨i, l⟩ ⟨k1, k2, k3, k4⟩
    dsimp only [List.cons_append, List.nil_append] at *
    skip
    repeat' first | (apply p3; (first | exact pu1 | exact puN | exact a_len_str rfl (fT rfl) | exact puC | exact a_add rfl rfl (by omega) (by omega) | exact puI); exact rfl) | refine cd ?_ | (apply w3; (first | exact a_st_bx rfl rfl rfl rfl (fN rfl rfl) (Nat.le_of_ble_eq_true rfl) rfl | exact a_st_rowI rfl rfl rfl rfl (fN rfl rfl) bnd | exact a_stE (E := eI) _ rfl rfl rfl rfl (fN rfl rfl) bnd (by exact rfl) | exact a_stF (E := eR) ⟨_, _, _⟩ rfl rfl rfl rfl (fN rfl rfl) (Nat.le_of_ble_eq_true rfl) (Nat.le_of_ble_eq_true rfl) (by first | exact List.getElem?_set_self bnd | exact List.getElem?_eq_getElem bnd) (by (try dsimp only [setRow, List.set_cons_succ, List.set_cons_zero]); first | done | exact rfl) rfl); exact rfl; refine dS ?_) | ((first | refine o_gs rfl rfl (fun hc => ?_) (fun hc => ?_) | refine g_cond rfl (fun hc => ?_) (fun hc => ?_)) <;> (try simp only [dcB] at hc) <;> (try first | contradiction | (exfalso; omega)))
    · refine q_again (i + 1, _) [0] (by exact stk) ?_ ?_
      · refine ⟨by dsimp only; omega, by dsimp only; omega, by simp [k3], fun j h => ?_⟩
        dsimp only at h ⊢
        simp only [List.set_set]
        rw [List.getElem?_set]
        split
        · rename_i e
          subst e
          rw [if_pos (by omega), show ((i.toNat : Nat) : Int) = i by omega, show k + 3 * i + 1 + 1 = k + 3 * i + 2 by omega]
        · exact k4 j (by omega)
      · dsimp only; omega
    · have hi : i = m.ru.length := by omega
      subst hi
      have hl := markR_end (k := k) k3 fun j hj => k4 j (by omega)
      rw [← hl]
      repeat refine cr ?_
      refine ends_id ?_
      refine endK [] (h2 := ?_) (h3 := ?_) (nd := ?_)
      all_goals (repeat' first | exact ce0 | refine ce ?_ | refine ce2 ?_ ?_ | (refine Or.inr (bx_eq rfl rfl ?_); (try dsimp only [C.ren, C.ren.all]); (try exact rfl)) | exact SVLe.refl | refine ceb ?_)
      all_goals first | exact (show nodupB _ = true from rfl) | exact Or.inr rfl | (rfl)
theorem markMachR_ok (m : Mach) (k : Int) (h1 : 0 ≤ k) (h2 : k ≤ 4611686018427387904) (hx : (m.ru.length : Int) ≤ 4611686018427) : Does Tryz.prog 21 [.agg (maO m 0), .one (int k)] [.row 3 (rows eR m.ru)] (.one (int (k + 3 * m.ru.length))) [.row 3 (rows eR (marksR k m.ru.length))] := by
  refine does_of (k := 1) Tryz.func21 rfl Tryz.ntmps21 rfl rfl fun w F0 S0 ρ0 => ?_
  dsimp only [argT, argH]
  repeat' first | (apply n3; exact a_new (gb := .bx _) rfl; exact rfl; refine dA ?_) | (apply p3; (first | exact pu1 | exact puL); exact rfl) | refine cd ?_ | (apply c4 0; exact callK1 (θ := [_]) (hD := (markRuleS_ok _ _ preD2 preD2 preD2)); exact rfl; exact rfl; exact rfl; refine dM ?_) | ((first | refine o_gs rfl rfl (fun hc => ?_) (fun hc => ?_) | refine g_cond rfl (fun hc => ?_) (fun hc => ?_)) <;> (try simp only [dcB] at hc) <;> (try first | contradiction | (exfalso; omega)))
  repeat refine cr ?_
  refine ends_id ?_
  refine endK [] (h2 := ?_) (h3 := ?_) (nd := ?_)
  all_goals (repeat' first | exact ce0 | refine ce ?_ | refine ce2 ?_ ?_ | (refine Or.inr (bx_eq rfl rfl ?_); (try dsimp only [C.ren, C.ren.all]); (try exact rfl)) | exact SVLe.refl | refine ceb ?_)
  all_goals first | exact (show nodupB _ = true from rfl) | exact Or.inr rfl | (rfl)
end Go.Proofs.YtcmdfohamphndaaGreatDoor
end
section
set_option linter.unusedVariables false
set_option linter.unusedSimpArgs false
set_option maxRecDepth 100000
set_option maxHeartbeats 4000000
namespace Go.Proofs.YtcmdfohamphndaaGreatDoor
open Go Foot
/-- Are the numbers there? Then the next number, else -1. -/
@[irreducible] def heldR (k : Int) (xs : List Rule') : Int := if xs = marksR k xs.length then k + 3 * xs.length else -1
theorem heldR_marks (k : Int) (n : Nat) : heldR k (marksR k n) = k + 3 * n := by unfold heldR; rw [marksR_len, if_pos rfl]
theorem notR {k : Int} {xs : List Rule'} (i : Nat) (h : i < xs.length) (hn : (xs[i]).w ≠ k + 3 * i ∨ (xs[i]).m ≠ k + 3 * i + 1 ∨ (xs[i]).n ≠ k + 3 * i + 2) : heldR k xs = -1 := by
  unfold heldR
  rw [if_neg]
  intro e
  have e1 := marksR_get k xs.length i h
  rw [← e, List.getElem?_eq_getElem h] at e1
  simp only [Option.some.injEq] at e1
  rw [e1] at hn
  simp at hn
theorem preD3 {p : Prop} (h : p := by first | with_reducible assumption | omega | (simp only [List.length_append, List.length_cons, List.length_nil, List.length_set, List.length_replicate, List.length_take, List.length_drop, List.length_tail, List.length_dropLast, List.length_reverse] at *; omega) | exact mem_len (by assumption) (by omega) | (with_reducible refine Int.le_trans (Int.ofNat_le.2 (trimR_len _)) ?_; simp only [List.length_cons, List.length_tail]; omega) | (exact (ruAt_ok (by assumption) (by assumption) (by assumption)).2.1) | (exact (ruAt_ok (by assumption) (by assumption) (by assumption)).2.1) | (have := vMach_bd (by assumption); omega) | (simp only [mC_ch, mC_tu]; omega) | (have := vTag_bd (by assumption); omega) | (have := (‹Gd _ _›).le; omega) | (exact tgHalts_no (by assumption)) | (exact tgHead (by assumption) (by assumption) (by assumption)) | (exact Int.le_trans (tgStep_gd (by assumption) (by assumption) (by assumption) (by assumption)).le (by decide)) | (exact vTag_r (by assumption)) | (with_reducible refine Int.le_trans (Int.ofNat_le.2 (pushL_len _ _)) ?_; simp only [List.length_dropLast]; omega) | exact ls_at (by assumption) (by omega) | exact pt_gd (by assumption) | exact lv_at (by assumption) (by omega) | exact pt_gd (lv_at (by assumption) (by omega)) | exact (ask_ok (by assumption)).1 | exact (ask_ok (by assumption)).2.1 | exact (ask_ok (by assumption)).2.2.1 | exact (ask_ok (by assumption)).2.2.2 | (simp only [marks_len]; omega) | (simp only [marksR_len]; omega) | trivial) : p := h
theorem heldRuleS_ok (xs : List Rule') (k : Int) (h1 : 0 ≤ k) (h2 : k ≤ 4611686018427387904) (hx : (xs.length : Int) ≤ 4611686018427) : Does Tryz.prog 74 [.one (shR xs), .one (int k)] [] (.one (int (heldR k xs))) [] := by
  refine does_of (k := 0) Tryz.func74 rfl Tryz.ntmps74 rfl rfl fun w F0 S0 ρ0 => ?_
  dsimp only [argT, argH]
  repeat' first | (apply p3; (first | exact pu1 | exact puL | exact puN | exact a_len_str rfl (fT rfl) | exact puC | exact a_ldE (E := eR) 0 rfl rfl rfl (fC rfl) rfl rfl (Nat.le_of_ble_eq_true rfl) bnd rfl (by first | exact trivial | exact rfl) | exact a_ldE (E := eR) 1 rfl rfl rfl (fC rfl) rfl rfl (Nat.le_of_ble_eq_true rfl) bnd rfl (by first | exact trivial | exact rfl) | exact a_ldE (E := eR) 2 rfl rfl rfl (fC rfl) rfl rfl (Nat.le_of_ble_eq_true rfl) bnd rfl (by first | exact trivial | exact rfl) | exact a_ne rfl rfl | exact a_neS rfl rfl rfl | exact a_add rfl rfl (by omega) (by omega) | exact puI); exact rfl) | refine cd ?_ | ((first | refine o_gs rfl rfl (fun hc => ?_) (fun hc => ?_) | refine g_cond rfl (fun hc => ?_) (fun hc => ?_)) <;> (try simp only [dcB] at hc) <;> (try first | contradiction | (exfalso; omega)))
  refine g_loop_id ?_
  refine loopK [0, 4] [] (fun i : Int => 0 ≤ i ∧ i ≤ xs.length ∧ ∀ (j : Nat), (j : Int) < i → xs[j]? = some ⟨k + 3 * j, k + 3 * j + 1, k + 3 * j + 2⟩) (fun i => [(5, .one (int i)), (1, .one (int (k + 3 * i)))]) (fun _ => []) (fun i => (xs.length - i).toNat) (0 : Int) [] (hI := ?_) (hr := ?_)
  · exact ⟨by simp, by simp, fun j h' => by omega⟩
  · rintro i ⟨k1, k2, k4⟩
    dsimp only [List.cons_append, List.nil_append] at *
    skip
    repeat' first | (apply p3; (first | exact pu1 | exact puL | exact puN | exact a_len_str rfl (fT rfl) | exact puC | exact a_ldE (E := eR) 0 rfl rfl rfl (fC rfl) rfl rfl (Nat.le_of_ble_eq_true rfl) bnd rfl (by first | exact trivial | exact rfl) | exact a_ldE (E := eR) 1 rfl rfl rfl (fC rfl) rfl rfl (Nat.le_of_ble_eq_true rfl) bnd rfl (by first | exact trivial | exact rfl) | exact a_ldE (E := eR) 2 rfl rfl rfl (fC rfl) rfl rfl (Nat.le_of_ble_eq_true rfl) bnd rfl (by first | exact trivial | exact rfl) | exact a_ne rfl rfl | exact a_neS rfl rfl rfl | exact a_add rfl rfl (by omega) (by omega) | exact puI); exact rfl) | refine cd ?_ | ((first | refine o_gs rfl rfl (fun hc => ?_) (fun hc => ?_) | refine g_cond rfl (fun hc => ?_) (fun hc => ?_)) <;> (try simp only [dcB] at hc) <;> (try first | contradiction | (exfalso; omega)))
    · have hn := notR (k := k) (xs := xs) i.toNat (by omega) (.inl (by rw [show ((i.toNat : Nat) : Int) = i by omega]; assumption))
      rw [hn]
      repeat refine cr ?_
      refine ends_id ?_
      refine endK [] (h2 := ?_) (h3 := ?_) (nd := ?_)
      all_goals (repeat' first | exact ce0 | refine ce ?_ | refine ce2 ?_ ?_ | exact SVLe.refl | refine ceb ?_)
      all_goals first | exact (show nodupB _ = true from rfl) | exact Or.inr rfl | (rfl)
    · have hn := notR (k := k) (xs := xs) i.toNat (by omega) (.inr (.inl (by rw [show ((i.toNat : Nat) : Int) = i by omega]; assumption)))
      rw [hn]
      repeat refine cr ?_
      refine ends_id ?_
      refine endK [] (h2 := ?_) (h3 := ?_) (nd := ?_)
      all_goals (repeat' first | exact ce0 | refine ce ?_ | refine ce2 ?_ ?_ | exact SVLe.refl | refine ceb ?_)
      all_goals first | exact (show nodupB _ = true from rfl) | exact Or.inr rfl | (rfl)
    · have hn := notR (k := k) (xs := xs) i.toNat (by omega) (.inr (.inr (by rw [show ((i.toNat : Nat) : Int) = i by omega]; omega)))
      rw [hn]
      repeat refine cr ?_
      refine ends_id ?_
      refine endK [] (h2 := ?_) (h3 := ?_) (nd := ?_)
      all_goals (repeat' first | exact ce0 | refine ce ?_ | refine ce2 ?_ ?_ | exact SVLe.refl | refine ceb ?_)
      all_goals first | exact (show nodupB _ = true from rfl) | exact Or.inr rfl | (rfl)
    · refine q_again (i + 1) [] (by exact stk) ?_ ?_
      · refine ⟨by omega, by omega, fun j h => ?_⟩
        by_cases hj : (j : Int) < i
        · exact k4 j hj
        · have : j = i.toNat := by omega
          subst this
          rw [List.getElem?_eq_getElem (by omega), show ((i.toNat : Nat) : Int) = i by omega]
          have e1 : xs[i.toNat].w = k + 3 * i := by assumption
          have e2 : xs[i.toNat].m = k + 3 * i + 1 := by assumption
          have e3 : xs[i.toNat].n = k + 3 * i + 2 := by omega
          rw [← e3, ← e2, ← e1]
      · omega
    · have hi : i = xs.length := by omega
      subst hi
      have hl := markR_end (k := k) (xs := xs) rfl fun j hj => k4 j (by omega)
      have hh : heldR k xs = k + 3 * xs.length := by unfold heldR; exact if_pos hl
      rw [hh]
      repeat refine cr ?_
      refine ends_id ?_
      refine endK [] (h2 := ?_) (h3 := ?_) (nd := ?_)
      all_goals (repeat' first | exact ce0 | refine ce ?_ | refine ce2 ?_ ?_ | exact SVLe.refl | refine ceb ?_)
      all_goals first | exact (show nodupB _ = true from rfl) | exact Or.inr rfl | (rfl)
theorem heldMach_ok (sy st : Int) (ru : List Rule') (k : Int) (h1 : 0 ≤ k) (h2 : k ≤ 4611686018427387904) (hx : (ru.length : Int) ≤ 4611686018427) : Does Tryz.prog 22 [.agg [int sy, int st, .d (.sl false 3 (rows eR ru))], .one (int k)] [] (.one (int (heldR k ru))) [] := by
  refine does_of (k := 0) Tryz.func22 rfl Tryz.ntmps22 rfl rfl fun w F0 S0 ρ0 => ?_
  dsimp only [argT, argH]
  repeat' first | (apply n3; exact a_new (gb := .bx _) rfl; exact rfl; refine dA ?_) | (apply p3; (first | exact pu1 | exact puL | exact puC); exact rfl) | refine cd ?_ | (apply c4 0; exact callK1 (θ := []) (hD := (heldRuleS_ok _ _ preD3 preD3 preD3)); exact rfl; exact rfl; exact rfl; refine dM ?_) | ((first | refine o_gs rfl rfl (fun hc => ?_) (fun hc => ?_) | refine g_cond rfl (fun hc => ?_) (fun hc => ?_)) <;> (try simp only [dcB] at hc) <;> (try first | contradiction | (exfalso; omega)))
  · have hh : heldR k ru = -1 := by
      unfold heldR at hc ⊢
      split
      · rename_i h; rw [if_pos h] at hc; omega
      · rfl
    rw [hh]
    repeat refine cr ?_
    refine ends_id ?_
    refine endK [] (h2 := ?_) (h3 := ?_) (nd := ?_)
    all_goals (repeat' first | exact ce0 | refine ce ?_ | refine ce2 ?_ ?_ | exact SVLe.refl | refine ceb ?_)
    all_goals first | exact (show nodupB _ = true from rfl) | exact Or.inr rfl | (rfl)
  · repeat refine cr ?_
    refine ends_id ?_
    refine endK [] (h2 := ?_) (h3 := ?_) (nd := ?_)
    all_goals (repeat' first | exact ce0 | refine ce ?_ | refine ce2 ?_ ?_ | exact SVLe.refl | refine ceb ?_)
    all_goals first | exact (show nodupB _ = true from rfl) | exact Or.inr rfl | (rfl)
end Go.Proofs.YtcmdfohamphndaaGreatDoor
end
