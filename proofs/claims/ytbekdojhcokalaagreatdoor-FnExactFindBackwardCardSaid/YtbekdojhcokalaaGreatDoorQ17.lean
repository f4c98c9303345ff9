/- Parts of the proof (17 of 19). -/
import Derived.Test.YtbekdojhcokalaaGreatDoorQ16
section
set_option linter.unusedVariables false
set_option linter.unusedSimpArgs false
set_option maxRecDepth 100000
set_option maxHeartbeats 4000000
namespace Go.Proofs.YtbekdojhcokalaaGreatDoor
open Go Foot
abbrev lvB (m : Mach) (l : List Part) (s : Int) : GB := .bx [int m.sy, int m.st, shR m.ru, shPa l, int s]
/-- The keys that have been seen. -/
abbrev seenP (l : List Part) : List (Bs × Bool) := l.map fun x => (ptT x, true)
theorem getA_seen {m : Mach} (hm : vMach m = true) {y : Part} (k : PtOk m y) : ∀ {l : List Part}, (∀ x ∈ l, PtOk m x) → getA (seenP l) (ptT y) = if l.any (eqPt · y) = true then some true else none
  | [], _ => rfl
  | x :: l, g => by
    have ih := getA_seen hm k (l := l) fun z hz => g z (by simp [hz])
    simp only [List.map_cons, getA, List.any_cons]
    by_cases h : x = y
    · have e : eqPt x y = true := by unfold eqPt; rw [decide_eq_true_eq]; exact h
      rw [if_pos (by rw [h])]
      simp [e]
    · have e : eqPt x y = false := by unfold eqPt; rw [decide_eq_false_iff_not]; exact h
      rw [if_neg (fun q => h (ptT_inj hm (g x (by simp)) k q))]
      simp only [e, Bool.false_or]
      exact ih
theorem setA_seen {l : List Part} {y : Part} (h : getA (seenP l) (ptT y) = none) : setA (seenP l) (ptT y) true = seenP (l ++ [y]) := by
  have key : ∀ (l : List (Bs × Bool)) (a : Bs) (b : Bool), getA l a = none → setA l a b = l ++ [(a, b)] := by
    intro l
    induction l with
    | nil => intro a b _; rfl
    | cons x l ih =>
      intro a b h
      obtain ⟨k, v⟩ := x
      simp only [getA] at h
      split at h
      · cases h
      · rename_i hk
        simp only [setA]
        rw [if_neg hk, ih a b h]
        rfl
  rw [key _ _ _ h]
  simp [seenP]
def lvR (m : Mach) (s : Int) (lv : List Part) : Option (List Part) → GB
  | none => .dead
  | some l => lvB m l (s - lv.length)
theorem preB73 {p : Prop} (h : p := by first | with_reducible assumption | omega | (simp only [List.length_append, List.length_cons, List.length_nil, List.length_set, List.length_replicate, List.length_take, List.length_drop, List.length_tail, List.length_dropLast, List.length_reverse] at *; omega) | exact mem_len (by assumption) (by omega) | (with_reducible refine Int.le_trans (Int.ofNat_le.2 (trimR_len _)) ?_; simp only [List.length_cons, List.length_tail]; omega) | (exact (ruAt_ok (by assumption) (by assumption) (by assumption)).2.1) | (exact (ruAt_ok (by assumption) (by assumption) (by assumption)).2.1) | (have := vMach_bd (by assumption); omega) | (simp only [mC_ch, mC_tu]; omega) | (have := vTag_bd (by assumption); omega) | (have := (‹Gd _ _›).le; omega) | (exact tgHalts_no (by assumption)) | (exact tgHead (by assumption) (by assumption) (by assumption)) | (exact Int.le_trans (tgStep_gd (by assumption) (by assumption) (by assumption) (by assumption)).le (by decide)) | (exact vTag_r (by assumption)) | (with_reducible refine Int.le_trans (Int.ofNat_le.2 (pushL_len _ _)) ?_; simp only [List.length_dropLast]; omega) | exact ls_at (by assumption) (by omega) | exact pt_gd (by assumption) | exact lv_at (by assumption) (by omega) | exact pt_gd (lv_at (by assumption) (by omega)) | exact (ask_ok (by assumption)).1 | exact (ask_ok (by assumption)).2.1 | exact (ask_ok (by assumption)).2.2.1 | exact (ask_ok (by assumption)).2.2.2 | trivial) : p := h
theorem next_gen (m : Mach) (lv : List Part) (s : Int) (hm : vMach m = true) (g : LvOk m lv) (hs : 0 ≤ s) (hs2 : s ≤ 1000000) (o : Option (List Part)) (ho : (if (lv.length : Int) ≤ s then nxtL m lv [] else none) = o) : Does Tryz.prog 150 [.one (.gv 0)] [lvB m lv s] (.one (int (if o.isSome = true then 0 else 5))) [lvR m s lv o] := by
  have hx := g.n
  have hbad : (s < lv.length ∨ nxtL m lv [] = none) → o = none := fun h => by
    rw [← ho]
    split
    · rcases h with h | h
      · omega
      · exact h
    · rfl
  refine does_of (k := 1) Tryz.func150 rfl Tryz.ntmps150 rfl rfl fun w F0 S0 ρ0 => ?_
  dsimp only [argT, argH]
  repeat' first | (apply n3; (first | exact a_mkMapE mSB | exact a_litE eP [] rfl rfl rfl rfl rfl rfl rfl rfl | exact a_new (gb := .bx _) rfl | exact a_litE eP [⟨_, _, _⟩] rfl rfl rfl rfl rfl rfl rfl rfl | exact a_appN (fP rfl) rfl rfl rfl nowR (by first | omega | (simp; omega)) (by decide) (by exact rfl)); exact rfl; refine dA ?_) | (apply p3; (first | exact pu1 | exact puL | exact puN | exact a_len_str rfl (fT rfl) | exact puC | exact a_sub rfl rfl (by omega) (by omega) | exact a_ne rfl rfl | exact a_neS rfl rfl rfl | exact a_look (M := mSB) false rfl rfl rfl Tryz.underlying263 (by kernel_rfl) (by kernel_rfl) | exact a_add rfl rfl (by omega) (by omega) | exact puI); exact rfl) | refine cd ?_ | (apply s3; exact a_appE (fP rfl) rfl rfl rfl rfl nowR (by first | omega | (simp; omega)) (by decide) (by decide) (by exact rfl); exact rfl; exact rfl) | (apply w3; (first | exact a_st_bx rfl rfl rfl rfl (fN rfl rfl) (Nat.le_of_ble_eq_true rfl) rfl | exact a_stE (E := eP) ⟨_, _, _⟩ rfl rfl rfl rfl (fN rfl rfl) bnd (by exact rfl) | exact a_st_rowI rfl rfl rfl rfl (fN rfl rfl) bnd | exact a_stE (E := eI) _ rfl rfl rfl rfl (fN rfl rfl) bnd (by exact rfl) | exact a_stF (E := eP) ⟨_, _, _⟩ rfl rfl rfl rfl (fN rfl rfl) (Nat.le_of_ble_eq_true rfl) (Nat.le_of_ble_eq_true rfl) (by first | exact List.getElem?_set_self bnd | exact List.getElem?_eq_getElem bnd) (by (try dsimp only [setRow, List.set_cons_succ, List.set_cons_zero]); first | done | exact rfl) rfl | exact a_mapUpd (M := mSB) rfl rfl rfl rfl Tryz.underlying263 (by kernel_rfl)); exact rfl; refine dS ?_) | (apply c4 0; exact callK1 (θ := []) (hD := (partialText_ok _ _ preB73 preB73)); exact rfl; exact rfl; exact rfl; refine dM ?_) | refine o_no rfl rfl rfl rfl ?_ | refine o_noN rfl rfl rfl ?_ | (apply py3; exact rfl; exact rfl; (first | exact pu1 | exact puL | exact puN | exact a_len_str rfl (fT rfl) | exact puC | exact a_sub rfl rfl (by omega) (by omega) | exact a_ne rfl rfl | exact a_neS rfl rfl rfl | exact a_look (M := mSB) false rfl rfl rfl Tryz.underlying263 (by kernel_rfl) (by kernel_rfl) | exact a_add rfl rfl (by omega) (by omega) | exact puI); exact rfl; exact rfl) | (apply ny3; exact rfl; exact rfl; (first | exact a_mkMapE mSB | exact a_litE eP [] rfl rfl rfl rfl rfl rfl rfl rfl | exact a_new (gb := .bx _) rfl | exact a_litE eP [⟨_, _, _⟩] rfl rfl rfl rfl rfl rfl rfl rfl | exact a_appN (fP rfl) rfl rfl rfl nowR (by first | omega | (simp; omega)) (by decide) (by exact rfl)); exact rfl; exact rfl) | (apply cy4 0; exact rfl; exact rfl; exact callK1 (θ := []) (hD := (partialText_ok _ _ preB73 preB73)); exact rfl; exact rfl; exact rfl; exact rfl; refine dM ?_) | (apply g_drN (id := 6) okM [[],[0],[0,1],[0,1,2],[],[0,1,2,3,4],[0,1,2,3,4,5],[0,1,2,3,4,5,6],[0,1,2,3,4,5,6],[0,1,2,3,4,5,6,7],[0,1,2,3,4,5,6,7,8,9]] [([],[]),([],[]),([],[]),([],[]),([],[]),([],[]),([],[]),([],[]),([],[]),([],[]),([],[])] 0; (focus (refine dp 0 0 [35] [] pu1 ?_; refine dp 1 1 [35] [] (a_pure (sv := .one _) rfl) ?_; refine dp 2 3 [35] [] (a_pure (sv := .one _) rfl) ?_; refine dp 3 7 [35] [] puL ?_; refine dp 4 0 [31, 32, 33, 34] [] puL ?_; refine dp 5 31 [] [] (callD0 (n := _) 0 (θ := []) (hD := (predecessors_ok _ _ preB73 preB73))) ?_; refine dp 6 63 [] [] pu1 ?_; refine dp 7 127 [38] [] pu2 ?_; refine dp 8 254 [37, 7] [] pu2 ?_; refine dp 9 510 [38] [] pu1 ?_; refine dp 10 1023 [] [] pu1 ?_; (refine d_nil ?_; refine dN ?_))); any_goals kernel_rfl) | ((first | refine o_gs rfl rfl (fun hc => ?_) (fun hc => ?_) | refine g_cond rfl (fun hc => ?_) (fun hc => ?_)) <;> (try simp only [dcB] at hc) <;> (try first | contradiction | (exfalso; omega)))
  refine g_loop_id ?_
  refine loopK [0, 2, 3, 4, 17, 18] [0, 1, 2] (fun y : Int × Int × List Part => 0 ≤ y.1 ∧ y.1 ≤ lv.length ∧ (y.1 = 0 ∨ y.1 ≤ s) ∧ y.2.1 = s - y.1 ∧ (y.2.2.length : Int) ≤ 300 ∧ LvOk m y.2.2 ∧ nxtL m (lv.drop y.1.toNat) y.2.2 = nxtL m lv []) (fun y => [(19, .one (int y.1))]) (fun y => [(0, lvB m lv y.2.1), (1, mpOf mSB (seenP y.2.2)), (2, roPa y.2.2)]) (fun y => (lv.length - y.1).toNat) ((0 : Int), s, ([] : List Part)) [0, 1, 2] (hI := ?_) (hr := ?_)
  · exact ⟨by simp, by simp, .inl rfl, by simp, by simp, ⟨by simp, by simp⟩, rfl⟩
  · rintro ⟨i, t, out⟩ ⟨h0, h1, h1s, h1t, h2, h3, h4⟩
    dsimp only [List.cons_append, List.nil_append] at *
    skip
    repeat' first | (apply p3; (first | exact pu1 | exact puC); exact rfl) | refine cdn ?_ | refine g_reg (id := 3) ?_ | refine g_reg (id := 21) ?_ | (apply w3; (first | exact a_st_bx rfl rfl rfl rfl (fN rfl rfl) (Nat.le_of_ble_eq_true rfl) rfl | exact a_stF (E := eP) ⟨_, _, _⟩ rfl rfl rfl rfl (fN rfl rfl) (Nat.le_of_ble_eq_true rfl) (Nat.le_of_ble_eq_true rfl) (by first | exact List.getElem?_set_self bnd | exact List.getElem?_eq_getElem bnd) (by (try dsimp only [setRow, List.set_cons_succ, List.set_cons_zero]); first | done | exact rfl) rfl); exact rfl; refine dS ?_) | ((first | refine o_gs rfl rfl (fun hc => ?_) (fun hc => ?_) | refine g_cond rfl (fun hc => ?_) (fun hc => ?_)) <;> (try simp only [dcB] at hc) <;> (try first | contradiction | (exfalso; omega)))
    · have hn := nxtL_next (m := m) (acc := out) h0 hc
      have hi := hc
      have gi := lv_at g (show i.toNat < lv.length by omega)
      rw [h4] at hn
      cases hf : prds m (lv[i.toNat]'(by omega)) with
      | none =>
        rw [hf] at hn
        dsimp only at hn
        rw [hbad (.inr hn)]
        repeat' first | (apply n3; exact a_new (gb := .bx _) rfl; exact rfl; refine dA ?_) | (apply p3; (first | exact pu1 | exact puL | exact puC | exact a_sub rfl rfl (by omega) (by omega) | exact puI); exact rfl) | refine cdn ?_ | refine g_reg (id := 3) ?_ | refine g_reg (id := 4) ?_ | refine g_reg (id := 5) ?_ | refine g_reg (id := 20) ?_ | refine g_reg (id := 21) ?_ | (apply w3; (first | exact a_st_bx rfl rfl rfl rfl (fN rfl rfl) (Nat.le_of_ble_eq_true rfl) rfl | exact a_stE (E := eP) ⟨_, _, _⟩ rfl rfl rfl rfl (fN rfl rfl) bnd (by exact rfl) | exact a_st_rowI rfl rfl rfl rfl (fN rfl rfl) bnd | exact a_stE (E := eI) _ rfl rfl rfl rfl (fN rfl rfl) bnd (by exact rfl) | exact a_stF (E := eP) ⟨_, _, _⟩ rfl rfl rfl rfl (fN rfl rfl) (Nat.le_of_ble_eq_true rfl) (Nat.le_of_ble_eq_true rfl) (by first | exact List.getElem?_set_self bnd | exact List.getElem?_eq_getElem bnd) (by (try dsimp only [setRow, List.set_cons_succ, List.set_cons_zero]); first | done | exact rfl) rfl); exact rfl; refine dS ?_) | (apply g_drN (id := 6) okM [[],[0],[0,1],[0,1,2],[],[0,1,2,3,4],[0,1,2,3,4,5],[0,1,2,3,4,5,6],[0,1,2,3,4,5,6],[0,1,2,3,4,5,6,7],[0,1,2,3,4,5,6,7,8,9]] [([],[]),([],[]),([],[]),([],[]),([],[]),([],[]),([],[]),([],[]),([],[]),([],[]),([],[])] 0; (focus (refine dp 0 0 [35] [] pu1 ?_; refine dp 1 1 [35] [] (a_pure (sv := .one _) rfl) ?_; refine dp 2 3 [35] [] (a_pure (sv := .one _) rfl) ?_; refine dp 3 7 [35] [] puL ?_; refine dp 4 0 [31, 32, 33, 34] [] puL ?_; refine dp 5 31 [] [] (callD0 (n := _) 0 (θ := []) (hD := (predecessors_ok _ _ preB73 preB73))) ?_; refine dp 6 63 [] [] pu1 ?_; refine dp 7 127 [38] [] pu2 ?_; refine dp 8 254 [37, 7] [] pu2 ?_; refine dp 9 510 [38] [] pu1 ?_; refine dp 10 1023 [] [] pu1 ?_; (refine d_nil ?_; refine dN ?_))); any_goals kernel_rfl) | ((first | refine o_gs rfl rfl (fun hc => ?_) (fun hc => ?_) | refine g_cond rfl (fun hc => ?_) (fun hc => ?_)) <;> (try simp only [dcB] at hc) <;> (try first | contradiction | (exfalso; omega)))
        simp only [hf, Option.isSome_none, Option.getD_none]
        repeat' first | (apply n3; (first | exact a_new (gb := .bx _) rfl | exact a_litE eP [⟨_, _, _⟩] rfl rfl rfl rfl rfl rfl rfl rfl | exact a_appN (fP rfl) rfl rfl rfl nowR (by first | omega | (simp; omega)) (by decide) (by exact rfl)); exact rfl; refine dA ?_) | (apply p3; (first | exact pu1 | exact puL | exact puC | exact a_sub rfl rfl (by omega) (by omega) | exact a_ne rfl rfl | exact a_neS rfl rfl rfl | exact puN | exact a_len_str rfl (fT rfl) | exact a_look (M := mSB) false rfl rfl rfl Tryz.underlying263 (by kernel_rfl) (by kernel_rfl) | exact a_add rfl rfl (by omega) (by omega) | exact puI); exact rfl) | refine cd ?_ | (apply s3; exact a_appE (fP rfl) rfl rfl rfl rfl nowR (by first | omega | (simp; omega)) (by decide) (by decide) (by exact rfl); exact rfl; exact rfl) | (apply w3; (first | exact a_st_bx rfl rfl rfl rfl (fN rfl rfl) (Nat.le_of_ble_eq_true rfl) rfl | exact a_stE (E := eP) ⟨_, _, _⟩ rfl rfl rfl rfl (fN rfl rfl) bnd (by exact rfl) | exact a_st_rowI rfl rfl rfl rfl (fN rfl rfl) bnd | exact a_stE (E := eI) _ rfl rfl rfl rfl (fN rfl rfl) bnd (by exact rfl) | exact a_stF (E := eP) ⟨_, _, _⟩ rfl rfl rfl rfl (fN rfl rfl) (Nat.le_of_ble_eq_true rfl) (Nat.le_of_ble_eq_true rfl) (by first | exact List.getElem?_set_self bnd | exact List.getElem?_eq_getElem bnd) (by (try dsimp only [setRow, List.set_cons_succ, List.set_cons_zero]); first | done | exact rfl) rfl | exact a_mapUpd (M := mSB) rfl rfl rfl rfl Tryz.underlying263 (by kernel_rfl)); exact rfl; refine dS ?_) | (apply c4 0; exact callK1 (θ := []) (hD := (partialText_ok _ _ preB73 preB73)); exact rfl; exact rfl; exact rfl; refine dM ?_) | refine o_no rfl rfl rfl rfl ?_ | refine o_noN rfl rfl rfl ?_ | (apply py3; exact rfl; exact rfl; (first | exact pu1 | exact puL | exact puC | exact a_sub rfl rfl (by omega) (by omega) | exact a_ne rfl rfl | exact a_neS rfl rfl rfl | exact puN | exact a_len_str rfl (fT rfl) | exact a_look (M := mSB) false rfl rfl rfl Tryz.underlying263 (by kernel_rfl) (by kernel_rfl) | exact a_add rfl rfl (by omega) (by omega) | exact puI); exact rfl; exact rfl) | (apply ny3; exact rfl; exact rfl; (first | exact a_new (gb := .bx _) rfl | exact a_litE eP [⟨_, _, _⟩] rfl rfl rfl rfl rfl rfl rfl rfl | exact a_appN (fP rfl) rfl rfl rfl nowR (by first | omega | (simp; omega)) (by decide) (by exact rfl)); exact rfl; exact rfl) | (apply cy4 0; exact rfl; exact rfl; exact callK1 (θ := []) (hD := (partialText_ok _ _ preB73 preB73)); exact rfl; exact rfl; exact rfl; exact rfl; refine dM ?_) | (apply g_drN (id := 6) okM [[],[0],[0,1],[0,1,2],[],[0,1,2,3,4],[0,1,2,3,4,5],[0,1,2,3,4,5,6],[0,1,2,3,4,5,6],[0,1,2,3,4,5,6,7],[0,1,2,3,4,5,6,7,8,9]] [([],[]),([],[]),([],[]),([],[]),([],[]),([],[]),([],[]),([],[]),([],[]),([],[]),([],[])] 0; (focus (refine dp 0 0 [35] [] pu1 ?_; refine dp 1 1 [35] [] (a_pure (sv := .one _) rfl) ?_; refine dp 2 3 [35] [] (a_pure (sv := .one _) rfl) ?_; refine dp 3 7 [35] [] puL ?_; refine dp 4 0 [31, 32, 33, 34] [] puL ?_; refine dp 5 31 [] [] (callD0 (n := _) 0 (θ := []) (hD := (predecessors_ok _ _ preB73 preB73))) ?_; refine dp 6 63 [] [] pu1 ?_; refine dp 7 127 [38] [] pu2 ?_; refine dp 8 254 [37, 7] [] pu2 ?_; refine dp 9 510 [38] [] pu1 ?_; refine dp 10 1023 [] [] pu1 ?_; (refine d_nil ?_; refine dN ?_))); any_goals kernel_rfl) | ((first | refine o_gs rfl rfl (fun hc => ?_) (fun hc => ?_) | refine g_cond rfl (fun hc => ?_) (fun hc => ?_)) <;> (try simp only [dcB] at hc) <;> (try first | contradiction | (exfalso; omega)))
        repeat refine cr ?_
        refine ends_id ?_
        refine endK [] (h2 := ?_) (h3 := ?_) (nd := ?_)
        all_goals (repeat' first | exact ce0 | refine ce ?_ | refine ce2 ?_ ?_ | (refine Or.inr (bx_eq rfl rfl ?_); (try dsimp only [C.ren, C.ren.all]); (try exact rfl)) | exact SVLe.refl | refine ceb ?_)
        all_goals first | exact (show nodupB _ = true from rfl) | exact Or.inr rfl | (rfl)
      | some l =>
        rw [hf] at hn
        dsimp only at hn
        have gl := prds_lv hm gi hf
        have hll := gl.n
        repeat' first | (apply n3; exact a_new (gb := .bx _) rfl; exact rfl; refine dA ?_) | (apply p3; (first | exact pu1 | exact puL | exact puC | exact a_sub rfl rfl (by omega) (by omega) | exact puI); exact rfl) | refine cdn ?_ | refine g_reg (id := 3) ?_ | refine g_reg (id := 4) ?_ | refine g_reg (id := 5) ?_ | refine g_reg (id := 20) ?_ | refine g_reg (id := 21) ?_ | (apply w3; (first | exact a_st_bx rfl rfl rfl rfl (fN rfl rfl) (Nat.le_of_ble_eq_true rfl) rfl | exact a_stE (E := eP) ⟨_, _, _⟩ rfl rfl rfl rfl (fN rfl rfl) bnd (by exact rfl) | exact a_st_rowI rfl rfl rfl rfl (fN rfl rfl) bnd | exact a_stE (E := eI) _ rfl rfl rfl rfl (fN rfl rfl) bnd (by exact rfl) | exact a_stF (E := eP) ⟨_, _, _⟩ rfl rfl rfl rfl (fN rfl rfl) (Nat.le_of_ble_eq_true rfl) (Nat.le_of_ble_eq_true rfl) (by first | exact List.getElem?_set_self bnd | exact List.getElem?_eq_getElem bnd) (by (try dsimp only [setRow, List.set_cons_succ, List.set_cons_zero]); first | done | exact rfl) rfl); exact rfl; refine dS ?_) | (apply g_drN (id := 6) okM [[],[0],[0,1],[0,1,2],[],[0,1,2,3,4],[0,1,2,3,4,5],[0,1,2,3,4,5,6],[0,1,2,3,4,5,6],[0,1,2,3,4,5,6,7],[0,1,2,3,4,5,6,7,8,9]] [([],[]),([],[]),([],[]),([],[]),([],[]),([],[]),([],[]),([],[]),([],[]),([],[]),([],[])] 0; (focus (refine dp 0 0 [35] [] pu1 ?_; refine dp 1 1 [35] [] (a_pure (sv := .one _) rfl) ?_; refine dp 2 3 [35] [] (a_pure (sv := .one _) rfl) ?_; refine dp 3 7 [35] [] puL ?_; refine dp 4 0 [31, 32, 33, 34] [] puL ?_; refine dp 5 31 [] [] (callD0 (n := _) 0 (θ := []) (hD := (predecessors_ok _ _ preB73 preB73))) ?_; refine dp 6 63 [] [] pu1 ?_; refine dp 7 127 [38] [] pu2 ?_; refine dp 8 254 [37, 7] [] pu2 ?_; refine dp 9 510 [38] [] pu1 ?_; refine dp 10 1023 [] [] pu1 ?_; (refine d_nil ?_; refine dN ?_))); any_goals kernel_rfl) | ((first | refine o_gs rfl rfl (fun hc => ?_) (fun hc => ?_) | refine g_cond rfl (fun hc => ?_) (fun hc => ?_)) <;> (try simp only [dcB] at hc) <;> (try first | contradiction | (exfalso; omega)))
        simp only [hf, Option.isSome_some, Option.getD_some]
        repeat' first | (apply n3; exact a_new (gb := .bx _) rfl; exact rfl; refine dA ?_) | (apply p3; (first | exact pu1 | exact puL | exact puC | exact a_sub rfl rfl (by omega) (by omega) | exact a_ne rfl rfl | exact a_neS rfl rfl rfl | exact puI); exact rfl) | refine cdn ?_ | refine g_reg (id := 3) ?_ | refine g_reg (id := 4) ?_ | refine g_reg (id := 5) ?_ | refine g_reg (id := 7) ?_ | refine g_reg (id := 8) ?_ | refine g_reg (id := 20) ?_ | refine g_reg (id := 21) ?_ | (apply w3; (first | exact a_st_bx rfl rfl rfl rfl (fN rfl rfl) (Nat.le_of_ble_eq_true rfl) rfl | exact a_stE (E := eP) ⟨_, _, _⟩ rfl rfl rfl rfl (fN rfl rfl) bnd (by exact rfl) | exact a_st_rowI rfl rfl rfl rfl (fN rfl rfl) bnd | exact a_stE (E := eI) _ rfl rfl rfl rfl (fN rfl rfl) bnd (by exact rfl) | exact a_stF (E := eP) ⟨_, _, _⟩ rfl rfl rfl rfl (fN rfl rfl) (Nat.le_of_ble_eq_true rfl) (Nat.le_of_ble_eq_true rfl) (by first | exact List.getElem?_set_self bnd | exact List.getElem?_eq_getElem bnd) (by (try dsimp only [setRow, List.set_cons_succ, List.set_cons_zero]); first | done | exact rfl) rfl); exact rfl; refine dS ?_) | refine o_no rfl rfl rfl rfl ?_ | refine o_noN rfl rfl rfl ?_ | (apply py3; exact rfl; exact rfl; (first | exact pu1 | exact puL | exact puC | exact a_sub rfl rfl (by omega) (by omega) | exact a_ne rfl rfl | exact a_neS rfl rfl rfl | exact puI); exact rfl; exact rfl) | (apply ny3; exact rfl; exact rfl; exact a_new (gb := .bx _) rfl; exact rfl; exact rfl) | (apply g_drN (id := 6) okM [[],[0],[0,1],[0,1,2],[],[0,1,2,3,4],[0,1,2,3,4,5],[0,1,2,3,4,5,6],[0,1,2,3,4,5,6],[0,1,2,3,4,5,6,7],[0,1,2,3,4,5,6,7,8,9]] [([],[]),([],[]),([],[]),([],[]),([],[]),([],[]),([],[]),([],[]),([],[]),([],[]),([],[])] 0; (focus (refine dp 0 0 [35] [] pu1 ?_; refine dp 1 1 [35] [] (a_pure (sv := .one _) rfl) ?_; refine dp 2 3 [35] [] (a_pure (sv := .one _) rfl) ?_; refine dp 3 7 [35] [] puL ?_; refine dp 4 0 [31, 32, 33, 34] [] puL ?_; refine dp 5 31 [] [] (callD0 (n := _) 0 (θ := []) (hD := (predecessors_ok _ _ preB73 preB73))) ?_; refine dp 6 63 [] [] pu1 ?_; refine dp 7 127 [38] [] pu2 ?_; refine dp 8 254 [37, 7] [] pu2 ?_; refine dp 9 510 [38] [] pu1 ?_; refine dp 10 1023 [] [] pu1 ?_; (refine d_nil ?_; refine dN ?_))); any_goals kernel_rfl) | ((first | refine o_gs rfl rfl (fun hc => ?_) (fun hc => ?_) | refine g_cond rfl (fun hc => ?_) (fun hc => ?_)) <;> (try simp only [dcB] at hc) <;> (try first | contradiction | (exfalso; omega)))
        · rw [hbad (.inl (by omega))]
          repeat refine cr ?_
          refine ends_id ?_
          refine endK [] (h2 := ?_) (h3 := ?_) (nd := ?_)
          all_goals (repeat' first | exact ce0 | refine ce ?_ | refine ce2 ?_ ?_ | (refine Or.inr (bx_eq rfl rfl ?_); (try dsimp only [C.ren, C.ren.all]); (try exact rfl)) | exact SVLe.refl | refine ceb ?_)
          all_goals first | exact (show nodupB _ = true from rfl) | exact Or.inr rfl | (rfl)
        · repeat' first | (apply n3; (first | exact a_new (gb := .bx _) rfl | exact a_litE eP [⟨_, _, _⟩] rfl rfl rfl rfl rfl rfl rfl rfl | exact a_appN (fP rfl) rfl rfl rfl nowR (by first | omega | (simp; omega)) (by decide) (by exact rfl)); exact rfl; refine dA ?_) | (apply p3; (first | exact pu1 | exact puL | exact puC | exact a_sub rfl rfl (by omega) (by omega) | exact a_ne rfl rfl | exact a_neS rfl rfl rfl | exact puN | exact a_len_str rfl (fT rfl) | exact a_look (M := mSB) false rfl rfl rfl Tryz.underlying263 (by kernel_rfl) (by kernel_rfl) | exact a_add rfl rfl (by omega) (by omega) | exact puI); exact rfl) | refine cd ?_ | (apply s3; exact a_appE (fP rfl) rfl rfl rfl rfl nowR (by first | omega | (simp; omega)) (by decide) (by decide) (by exact rfl); exact rfl; exact rfl) | (apply w3; (first | exact a_st_bx rfl rfl rfl rfl (fN rfl rfl) (Nat.le_of_ble_eq_true rfl) rfl | exact a_stE (E := eP) ⟨_, _, _⟩ rfl rfl rfl rfl (fN rfl rfl) bnd (by exact rfl) | exact a_st_rowI rfl rfl rfl rfl (fN rfl rfl) bnd | exact a_stE (E := eI) _ rfl rfl rfl rfl (fN rfl rfl) bnd (by exact rfl) | exact a_stF (E := eP) ⟨_, _, _⟩ rfl rfl rfl rfl (fN rfl rfl) (Nat.le_of_ble_eq_true rfl) (Nat.le_of_ble_eq_true rfl) (by first | exact List.getElem?_set_self bnd | exact List.getElem?_eq_getElem bnd) (by (try dsimp only [setRow, List.set_cons_succ, List.set_cons_zero]); first | done | exact rfl) rfl | exact a_mapUpd (M := mSB) rfl rfl rfl rfl Tryz.underlying263 (by kernel_rfl)); exact rfl; refine dS ?_) | (apply c4 0; exact callK1 (θ := []) (hD := (partialText_ok _ _ preB73 preB73)); exact rfl; exact rfl; exact rfl; refine dM ?_) | refine o_no rfl rfl rfl rfl ?_ | refine o_noN rfl rfl rfl ?_ | (apply py3; exact rfl; exact rfl; (first | exact pu1 | exact puL | exact puC | exact a_sub rfl rfl (by omega) (by omega) | exact a_ne rfl rfl | exact a_neS rfl rfl rfl | exact puN | exact a_len_str rfl (fT rfl) | exact a_look (M := mSB) false rfl rfl rfl Tryz.underlying263 (by kernel_rfl) (by kernel_rfl) | exact a_add rfl rfl (by omega) (by omega) | exact puI); exact rfl; exact rfl) | (apply ny3; exact rfl; exact rfl; (first | exact a_new (gb := .bx _) rfl | exact a_litE eP [⟨_, _, _⟩] rfl rfl rfl rfl rfl rfl rfl rfl | exact a_appN (fP rfl) rfl rfl rfl nowR (by first | omega | (simp; omega)) (by decide) (by exact rfl)); exact rfl; exact rfl) | (apply cy4 0; exact rfl; exact rfl; exact callK1 (θ := []) (hD := (partialText_ok _ _ preB73 preB73)); exact rfl; exact rfl; exact rfl; exact rfl; refine dM ?_) | (apply g_drN (id := 6) okM [[],[0],[0,1],[0,1,2],[],[0,1,2,3,4],[0,1,2,3,4,5],[0,1,2,3,4,5,6],[0,1,2,3,4,5,6],[0,1,2,3,4,5,6,7],[0,1,2,3,4,5,6,7,8,9]] [([],[]),([],[]),([],[]),([],[]),([],[]),([],[]),([],[]),([],[]),([],[]),([],[]),([],[])] 0; (focus (refine dp 0 0 [35] [] pu1 ?_; refine dp 1 1 [35] [] (a_pure (sv := .one _) rfl) ?_; refine dp 2 3 [35] [] (a_pure (sv := .one _) rfl) ?_; refine dp 3 7 [35] [] puL ?_; refine dp 4 0 [31, 32, 33, 34] [] puL ?_; refine dp 5 31 [] [] (callD0 (n := _) 0 (θ := []) (hD := (predecessors_ok _ _ preB73 preB73))) ?_; refine dp 6 63 [] [] pu1 ?_; refine dp 7 127 [38] [] pu2 ?_; refine dp 8 254 [37, 7] [] pu2 ?_; refine dp 9 510 [38] [] pu1 ?_; refine dp 10 1023 [] [] pu1 ?_; (refine d_nil ?_; refine dN ?_))); any_goals kernel_rfl) | ((first | refine o_gs rfl rfl (fun hc => ?_) (fun hc => ?_) | refine g_cond rfl (fun hc => ?_) (fun hc => ?_)) <;> (try simp only [dcB] at hc) <;> (try first | contradiction | (exfalso; omega)))
          refine g_loop_id ?_
          refine loopK [0, 2, 3, 4, 6, 7, 8, 17, 18, 19, 20, 21, 22, 23, 24, 25, 26, 27, 28, 29, 30, 31, 32, 33, 34, 35, 36, 37, 38, 39, 40, 41, 42, 43, 44, 45, 46, 47, 48, 49] [1, 2] (fun y : Int × List Part => 0 ≤ y.1 ∧ y.1 ≤ l.length ∧ (y.2.length : Int) ≤ 300 + y.1 ∧ (∀ x ∈ y.2, PtOk m x) ∧ addP y.2 (l.drop y.1.toNat) = addP out l) (fun y => [(50, .one (int y.1))]) (fun y => [(1, mpOf mSB (seenP y.2)), (2, roPa y.2)]) (fun y => (l.length - y.1).toNat) ((0 : Int), out) [0, 1, 2, 3] (hI := ?_) (hr := ?_)
          · exact ⟨by simp, by simp, by dsimp only; omega, h3.a, rfl⟩
          · rintro ⟨k, acc⟩ ⟨k0, k1, k2, k3, k4⟩
            dsimp only [List.cons_append, List.nil_append] at *
            skip
            repeat' first | (apply p3; (first | exact pu1 | exact puC | exact puN | exact a_len_str rfl (fT rfl) | exact a_add rfl rfl (by omega) (by omega)); exact rfl) | refine cdn ?_ | refine g_reg (id := 10) ?_ | refine g_reg (id := 18) ?_ | refine g_reg (id := 19) ?_ | refine g_reg (id := 20) ?_ | refine g_reg (id := 21) ?_ | (apply w3; (first | exact a_st_bx rfl rfl rfl rfl (fN rfl rfl) (Nat.le_of_ble_eq_true rfl) rfl | exact a_stF (E := eP) ⟨_, _, _⟩ rfl rfl rfl rfl (fN rfl rfl) (Nat.le_of_ble_eq_true rfl) (Nat.le_of_ble_eq_true rfl) (by first | exact List.getElem?_set_self bnd | exact List.getElem?_eq_getElem bnd) (by (try dsimp only [setRow, List.set_cons_succ, List.set_cons_zero]); first | done | exact rfl) rfl); exact rfl; refine dS ?_) | ((first | refine o_gs rfl rfl (fun hc => ?_) (fun hc => ?_) | refine g_cond rfl (fun hc => ?_) (fun hc => ?_)) <;> (try simp only [dcB] at hc) <;> (try first | contradiction | (exfalso; omega)))
            · have gk := lv_at gl (show k.toNat < l.length by omega)
              have hk := hc
              rw [addP_next k0 hk] at k4
              have hg := getA_seen hm gk k3
              have hll2 : (acc.length : Int) ≤ 6300 := by omega
              cases ha : acc.any (eqPt · (l[k.toNat]'(by omega))) with
              | true =>
                rw [if_pos ha] at k4 hg
                have hg2 : (getA (seenP acc) (ptT (l[k.toNat]'(by omega)))).getD false = true := by rw [hg]; rfl
                repeat' first | (apply n3; exact a_new (gb := .bx _) rfl; exact rfl; refine dA ?_) | (apply p3; (first | exact pu1 | exact puL | exact puC | exact a_look (M := mSB) false rfl rfl rfl Tryz.underlying263 (by kernel_rfl) (by kernel_rfl) | exact puN | exact a_len_str rfl (fT rfl) | exact a_add rfl rfl (by omega) (by omega) | exact puI); exact rfl) | refine cd ?_ | (apply w3; (first | exact a_st_bx rfl rfl rfl rfl (fN rfl rfl) (Nat.le_of_ble_eq_true rfl) rfl | exact a_stE (E := eP) ⟨_, _, _⟩ rfl rfl rfl rfl (fN rfl rfl) bnd (by exact rfl) | exact a_stF (E := eP) ⟨_, _, _⟩ rfl rfl rfl rfl (fN rfl rfl) (Nat.le_of_ble_eq_true rfl) (Nat.le_of_ble_eq_true rfl) (by first | exact List.getElem?_set_self bnd | exact List.getElem?_eq_getElem bnd) (by (try dsimp only [setRow, List.set_cons_succ, List.set_cons_zero]); first | done | exact rfl) rfl); exact rfl; refine dS ?_) | (apply c4 0; exact callK1 (θ := []) (hD := (partialText_ok _ _ preB73 preB73)); exact rfl; exact rfl; exact rfl; refine dM ?_) | (refine o_gs rfl rfl (fun hc => ?_) (fun hc => ?_) <;> (try simp only [dcB] at hc) <;> (try first | contradiction | (exfalso; omega))) | (refine g_cond (c := .tmp 20) rfl (fun hc => ?_) (fun hc => ?_) <;> (try simp only [dcB] at hc) <;> (try (first | contradiction | (exfalso; omega)))) | (refine g_cond (c := .tmp 47) rfl (fun hc => ?_) (fun hc => ?_) <;> (try simp only [dcB] at hc) <;> (try (first | contradiction | (exfalso; omega)))) | (refine g_cond (c := .tmp 51) rfl (fun hc => ?_) (fun hc => ?_) <;> (try simp only [dcB] at hc) <;> (try (first | contradiction | (exfalso; omega)))) | (refine g_cond (c := .tmp 69) rfl (fun hc => ?_) (fun hc => ?_) <;> (try simp only [dcB] at hc) <;> (try (first | contradiction | (exfalso; omega))))
                simp only [hg2]
                repeat' first | (apply n3; (first | exact a_new (gb := .bx _) rfl | exact a_litE eP [⟨_, _, _⟩] rfl rfl rfl rfl rfl rfl rfl rfl | exact a_appN (fP rfl) rfl rfl rfl nowR (by first | omega | (simp; omega)) (by decide) (by exact rfl)); exact rfl; refine dA ?_) | (apply p3; (first | exact pu1 | exact puL | exact puC | exact a_look (M := mSB) false rfl rfl rfl Tryz.underlying263 (by kernel_rfl) (by kernel_rfl) | exact a_add rfl rfl (by omega) (by omega) | exact puN | exact a_len_str rfl (fT rfl) | exact puI); exact rfl) | refine cd ?_ | (apply s3; exact a_appE (fP rfl) rfl rfl rfl rfl nowR (by first | omega | (simp; omega)) (by decide) (by decide) (by exact rfl); exact rfl; exact rfl) | (apply w3; (first | exact a_st_bx rfl rfl rfl rfl (fN rfl rfl) (Nat.le_of_ble_eq_true rfl) rfl | exact a_stE (E := eP) ⟨_, _, _⟩ rfl rfl rfl rfl (fN rfl rfl) bnd (by exact rfl) | exact a_mapUpd (M := mSB) rfl rfl rfl rfl Tryz.underlying263 (by kernel_rfl) | exact a_stF (E := eP) ⟨_, _, _⟩ rfl rfl rfl rfl (fN rfl rfl) (Nat.le_of_ble_eq_true rfl) (Nat.le_of_ble_eq_true rfl) (by first | exact List.getElem?_set_self bnd | exact List.getElem?_eq_getElem bnd) (by (try dsimp only [setRow, List.set_cons_succ, List.set_cons_zero]); first | done | exact rfl) rfl); exact rfl; refine dS ?_) | (apply c4 0; exact callK1 (θ := []) (hD := (partialText_ok _ _ preB73 preB73)); exact rfl; exact rfl; exact rfl; refine dM ?_) | ((first | refine o_gs rfl rfl (fun hc => ?_) (fun hc => ?_) | refine g_cond rfl (fun hc => ?_) (fun hc => ?_)) <;> (try simp only [dcB] at hc) <;> (try first | contradiction | (exfalso; omega)))
                refine q_again (k + 1, acc) [0, 1, 2, 3] (by exact stk) ?_ ?_
                · exact ⟨by dsimp only; omega, by dsimp only; omega, by dsimp only; omega, k3, k4⟩
                · dsimp only; omega
              | false =>
                rw [if_neg (by simp [ha])] at k4 hg
                have hg2 : (getA (seenP acc) (ptT (l[k.toNat]'(by omega)))).getD false = false := by rw [hg]; rfl
                repeat' first | (apply n3; exact a_new (gb := .bx _) rfl; exact rfl; refine dA ?_) | (apply p3; (first | exact pu1 | exact puL | exact puC | exact a_look (M := mSB) false rfl rfl rfl Tryz.underlying263 (by kernel_rfl) (by kernel_rfl) | exact puN | exact a_len_str rfl (fT rfl) | exact a_add rfl rfl (by omega) (by omega) | exact puI); exact rfl) | refine cd ?_ | (apply w3; (first | exact a_st_bx rfl rfl rfl rfl (fN rfl rfl) (Nat.le_of_ble_eq_true rfl) rfl | exact a_stE (E := eP) ⟨_, _, _⟩ rfl rfl rfl rfl (fN rfl rfl) bnd (by exact rfl) | exact a_stF (E := eP) ⟨_, _, _⟩ rfl rfl rfl rfl (fN rfl rfl) (Nat.le_of_ble_eq_true rfl) (Nat.le_of_ble_eq_true rfl) (by first | exact List.getElem?_set_self bnd | exact List.getElem?_eq_getElem bnd) (by (try dsimp only [setRow, List.set_cons_succ, List.set_cons_zero]); first | done | exact rfl) rfl); exact rfl; refine dS ?_) | (apply c4 0; exact callK1 (θ := []) (hD := (partialText_ok _ _ preB73 preB73)); exact rfl; exact rfl; exact rfl; refine dM ?_) | (refine o_gs rfl rfl (fun hc => ?_) (fun hc => ?_) <;> (try simp only [dcB] at hc) <;> (try first | contradiction | (exfalso; omega))) | (refine g_cond (c := .tmp 20) rfl (fun hc => ?_) (fun hc => ?_) <;> (try simp only [dcB] at hc) <;> (try (first | contradiction | (exfalso; omega)))) | (refine g_cond (c := .tmp 47) rfl (fun hc => ?_) (fun hc => ?_) <;> (try simp only [dcB] at hc) <;> (try (first | contradiction | (exfalso; omega)))) | (refine g_cond (c := .tmp 51) rfl (fun hc => ?_) (fun hc => ?_) <;> (try simp only [dcB] at hc) <;> (try (first | contradiction | (exfalso; omega)))) | (refine g_cond (c := .tmp 69) rfl (fun hc => ?_) (fun hc => ?_) <;> (try simp only [dcB] at hc) <;> (try (first | contradiction | (exfalso; omega))))
                simp only [hg2]
                repeat' first | (apply n3; exact a_new (gb := .bx _) rfl; exact rfl; refine dA ?_) | (apply p3; (first | exact pu1 | exact puL | exact puC | exact a_look (M := mSB) false rfl rfl rfl Tryz.underlying263 (by kernel_rfl) (by kernel_rfl) | exact puN | exact a_len_str rfl (fT rfl) | exact a_add rfl rfl (by omega) (by omega) | exact puI); exact rfl) | refine cdn ?_ | refine g_reg (id := 10) ?_ | refine g_reg (id := 11) ?_ | refine g_reg (id := 12) ?_ | refine g_reg (id := 13) ?_ | refine g_reg (id := 14) ?_ | refine g_reg (id := 17) ?_ | refine g_reg (id := 18) ?_ | refine g_reg (id := 19) ?_ | refine g_reg (id := 20) ?_ | refine g_reg (id := 21) ?_ | (apply w3; (first | exact a_st_bx rfl rfl rfl rfl (fN rfl rfl) (Nat.le_of_ble_eq_true rfl) rfl | exact a_stE (E := eP) ⟨_, _, _⟩ rfl rfl rfl rfl (fN rfl rfl) bnd (by exact rfl) | exact a_mapUpd (M := mSB) rfl rfl rfl rfl Tryz.underlying263 (by kernel_rfl) | exact a_stF (E := eP) ⟨_, _, _⟩ rfl rfl rfl rfl (fN rfl rfl) (Nat.le_of_ble_eq_true rfl) (Nat.le_of_ble_eq_true rfl) (by first | exact List.getElem?_set_self bnd | exact List.getElem?_eq_getElem bnd) (by (try dsimp only [setRow, List.set_cons_succ, List.set_cons_zero]); first | done | exact rfl) rfl); exact rfl; refine dS ?_) | (apply c4 0; exact callK1 (θ := []) (hD := (partialText_ok _ _ preB73 preB73)); exact rfl; exact rfl; exact rfl; refine dM ?_) | ((first | refine o_gs rfl rfl (fun hc => ?_) (fun hc => ?_) | refine g_cond rfl (fun hc => ?_) (fun hc => ?_)) <;> (try simp only [dcB] at hc) <;> (try first | contradiction | (exfalso; omega)))
                rw [setA_seen hg]
                repeat' first | (apply n3; (first | exact a_new (gb := .bx _) rfl | exact a_litE eP [⟨_, _, _⟩] rfl rfl rfl rfl rfl rfl rfl rfl | exact a_appN (fP rfl) rfl rfl rfl nowR (by first | omega | (simp; omega)) (by decide) (by exact rfl)); exact rfl; refine dA ?_) | (apply p3; (first | exact pu1 | exact puL | exact puC | exact a_look (M := mSB) false rfl rfl rfl Tryz.underlying263 (by kernel_rfl) (by kernel_rfl) | exact a_add rfl rfl (by omega) (by omega) | exact puN | exact a_len_str rfl (fT rfl) | exact puI); exact rfl) | refine cd ?_ | (apply s3; exact a_appE (fP rfl) rfl rfl rfl rfl nowR (by first | omega | (simp; omega)) (by decide) (by decide) (by exact rfl); exact rfl; exact rfl) | (apply w3; (first | exact a_st_bx rfl rfl rfl rfl (fN rfl rfl) (Nat.le_of_ble_eq_true rfl) rfl | exact a_stE (E := eP) ⟨_, _, _⟩ rfl rfl rfl rfl (fN rfl rfl) bnd (by exact rfl) | exact a_mapUpd (M := mSB) rfl rfl rfl rfl Tryz.underlying263 (by kernel_rfl) | exact a_stF (E := eP) ⟨_, _, _⟩ rfl rfl rfl rfl (fN rfl rfl) (Nat.le_of_ble_eq_true rfl) (Nat.le_of_ble_eq_true rfl) (by first | exact List.getElem?_set_self bnd | exact List.getElem?_eq_getElem bnd) (by (try dsimp only [setRow, List.set_cons_succ, List.set_cons_zero]); first | done | exact rfl) rfl); exact rfl; refine dS ?_) | (apply c4 0; exact callK1 (θ := []) (hD := (partialText_ok _ _ preB73 preB73)); exact rfl; exact rfl; exact rfl; refine dM ?_) | ((first | refine o_gs rfl rfl (fun hc => ?_) (fun hc => ?_) | refine g_cond rfl (fun hc => ?_) (fun hc => ?_)) <;> (try simp only [dcB] at hc) <;> (try first | contradiction | (exfalso; omega)))
                refine q_again (k + 1, _) [0, 1, 6, 3] (by exact stk) ?_ ?_
                · refine ⟨by dsimp only; omega, by dsimp only; omega, by simp; omega, ?_, k4⟩
                  intro z hz
                  rcases List.mem_append.1 hz with hz | hz
                  · exact k3 z hz
                  · rw [List.mem_singleton.1 hz]; exact gk
                · dsimp only; omega
            · rw [addP_end (by assumption)] at k4
              subst k4
              repeat' first | (apply n3; (first | exact a_new (gb := .bx _) rfl | exact a_litE eP [⟨_, _, _⟩] rfl rfl rfl rfl rfl rfl rfl rfl | exact a_appN (fP rfl) rfl rfl rfl nowR (by first | omega | (simp; omega)) (by decide) (by exact rfl)); exact rfl; refine dA ?_) | (apply p3; (first | exact pu1 | exact puL | exact puC | exact a_look (M := mSB) false rfl rfl rfl Tryz.underlying263 (by kernel_rfl) (by kernel_rfl) | exact a_add rfl rfl (by omega) (by omega) | exact puN | exact a_len_str rfl (fT rfl) | exact puI); exact rfl) | refine cd ?_ | (apply s3; exact a_appE (fP rfl) rfl rfl rfl rfl nowR (by first | omega | (simp; omega)) (by decide) (by decide) (by exact rfl); exact rfl; exact rfl) | (apply w3; (first | exact a_st_bx rfl rfl rfl rfl (fN rfl rfl) (Nat.le_of_ble_eq_true rfl) rfl | exact a_stE (E := eP) ⟨_, _, _⟩ rfl rfl rfl rfl (fN rfl rfl) bnd (by exact rfl) | exact a_mapUpd (M := mSB) rfl rfl rfl rfl Tryz.underlying263 (by kernel_rfl) | exact a_stF (E := eP) ⟨_, _, _⟩ rfl rfl rfl rfl (fN rfl rfl) (Nat.le_of_ble_eq_true rfl) (Nat.le_of_ble_eq_true rfl) (by first | exact List.getElem?_set_self bnd | exact List.getElem?_eq_getElem bnd) (by (try dsimp only [setRow, List.set_cons_succ, List.set_cons_zero]); first | done | exact rfl) rfl); exact rfl; refine dS ?_) | (apply c4 0; exact callK1 (θ := []) (hD := (partialText_ok _ _ preB73 preB73)); exact rfl; exact rfl; exact rfl; refine dM ?_) | ((first | refine o_gs rfl rfl (fun hc => ?_) (fun hc => ?_) | refine g_cond rfl (fun hc => ?_) (fun hc => ?_)) <;> (try simp only [dcB] at hc) <;> (try first | contradiction | (exfalso; omega)))
              · rw [if_pos hc] at hn
                rw [hbad (.inr hn)]
                repeat refine cr ?_
                refine ends_id ?_
                refine endK [] (h2 := ?_) (h3 := ?_) (nd := ?_)
                all_goals (repeat' first | exact ce0 | refine ce ?_ | refine ce2 ?_ ?_ | (refine Or.inr (bx_eq rfl rfl ?_); (try dsimp only [C.ren, C.ren.all]); (try exact rfl)) | exact SVLe.refl | refine ceb ?_)
                all_goals first | exact (show nodupB _ = true from rfl) | exact Or.inr rfl | (rfl)
              · rw [if_neg hc] at hn
                refine q_again (i + 1, t - 1, _) [0, 1, 2] (by exact stk) ?_ ?_
                · exact ⟨by dsimp only; omega, by dsimp only; omega, .inr (by dsimp only; omega), by dsimp only; omega, by dsimp only; omega, ⟨by dsimp only; omega, k3⟩, hn.symm⟩
                · dsimp only; omega
    · rw [nxtL_end hc] at h4
      by_cases hle : (lv.length : Int) ≤ s
      · rw [if_pos hle, ← h4] at ho
        subst ho
        have e9 : t = s - lv.length := by omega
        subst e9
        first | refine g_turn (t_frzR (d := 4) (i := 2) rfl rfl shutR) ?_ | refine o_turn (t_frzR (d := 4) (i := 2) rfl rfl shutR) ?_
        repeat' first | (apply n3; (first | exact a_new (gb := .bx _) rfl | exact a_litE eP [⟨_, _, _⟩] rfl rfl rfl rfl rfl rfl rfl rfl | exact a_appN (fP rfl) rfl rfl rfl nowR (by first | omega | (simp; omega)) (by decide) (by exact rfl)); exact rfl; refine dA ?_) | (apply p3; (first | exact pu1 | exact puL | exact puC | exact a_look (M := mSB) false rfl rfl rfl Tryz.underlying263 (by kernel_rfl) (by kernel_rfl) | exact a_add rfl rfl (by omega) (by omega) | exact puN | exact a_len_str rfl (fT rfl) | exact puI); exact rfl) | refine cd ?_ | (apply s3; exact a_appE (fP rfl) rfl rfl rfl rfl nowR (by first | omega | (simp; omega)) (by decide) (by decide) (by exact rfl); exact rfl; exact rfl) | (apply w3; (first | exact a_st_bx rfl rfl rfl rfl (fN rfl rfl) (Nat.le_of_ble_eq_true rfl) rfl | exact a_stE (E := eP) ⟨_, _, _⟩ rfl rfl rfl rfl (fN rfl rfl) bnd (by exact rfl) | exact a_mapUpd (M := mSB) rfl rfl rfl rfl Tryz.underlying263 (by kernel_rfl) | exact a_stF (E := eP) ⟨_, _, _⟩ rfl rfl rfl rfl (fN rfl rfl) (Nat.le_of_ble_eq_true rfl) (Nat.le_of_ble_eq_true rfl) (by first | exact List.getElem?_set_self bnd | exact List.getElem?_eq_getElem bnd) (by (try dsimp only [setRow, List.set_cons_succ, List.set_cons_zero]); first | done | exact rfl) rfl); exact rfl; refine dS ?_) | (apply c4 0; exact callK1 (θ := []) (hD := (partialText_ok _ _ preB73 preB73)); exact rfl; exact rfl; exact rfl; refine dM ?_) | ((first | refine o_gs rfl rfl (fun hc => ?_) (fun hc => ?_) | refine g_cond rfl (fun hc => ?_) (fun hc => ?_)) <;> (try simp only [dcB] at hc) <;> (try first | contradiction | (exfalso; omega)))
        repeat refine cr ?_
        refine ends_id ?_
        refine endK [] (h2 := ?_) (h3 := ?_) (nd := ?_)
        all_goals (repeat' first | exact ce0 | refine ce ?_ | refine ce2 ?_ ?_ | (refine Or.inr (bx_eq rfl rfl ?_); (try dsimp only [C.ren, C.ren.all]); (try exact rfl)) | exact SVLe.refl | refine ceb ?_)
        all_goals first | exact (show nodupB _ = true from rfl) | exact Or.inr rfl | (rfl)
      · exfalso
        omega
theorem nextY_ok (m : Mach) (lv l : List Part) (s : Int) (hm : vMach m = true) (g : LvOk m lv) (hs : 0 ≤ s) (hs2 : s ≤ 1000000) (h : nxtL m lv [] = some l) (hl : (lv.length : Int) ≤ s) : Does Tryz.prog 150 [.one (.gv 0)] [lvB m lv s] (.one (int 0)) [lvB m l (s - lv.length)] :=
  next_gen m lv s hm g hs hs2 (some l) (by rw [if_pos hl, h])
theorem nextN_ok (m : Mach) (lv : List Part) (s : Int) (hm : vMach m = true) (g : LvOk m lv) (hs : 0 ≤ s) (hs2 : s ≤ 1000000) (h : (if (lv.length : Int) ≤ s then nxtL m lv [] else none) = none) : Does Tryz.prog 150 [.one (.gv 0)] [lvB m lv s] (.one (int 5)) [.dead] :=
  next_gen m lv s hm g hs hs2 none h
end Go.Proofs.YtbekdojhcokalaaGreatDoor
end
section
set_option linter.unusedVariables false
set_option linter.unusedSimpArgs false
set_option maxRecDepth 100000
set_option maxHeartbeats 4000000
namespace Go.Proofs.YtbekdojhcokalaaGreatDoor
open Go Foot
@[irreducible] def bdO (m : Mach) (b : Int) : Option Int := depQ m (haltP m) b
@[irreducible] def bdC (m : Mach) (b : Int) : Int := if vMach m = true then if 1 ≤ b ∧ b ≤ 20000 then if (bdO m b).isSome = true then 0 else 5 else 2 else 1
@[irreducible] def bdD (m : Mach) (b : Int) : Int := if vMach m = true ∧ 1 ≤ b ∧ b ≤ 20000 then (bdO m b).getD 0 else 0
theorem inB_iff {n a b : Int} : inB n a b = true ↔ a ≤ n ∧ n ≤ b := by unfold inB; rw [decide_eq_true_eq]
theorem preB68 {p : Prop} (h : p := by first | with_reducible assumption | omega | (simp only [List.length_append, List.length_cons, List.length_nil, List.length_set, List.length_replicate, List.length_take, List.length_drop, List.length_tail, List.length_dropLast, List.length_reverse] at *; omega) | exact mem_len (by assumption) (by omega) | (with_reducible refine Int.le_trans (Int.ofNat_le.2 (trimR_len _)) ?_; simp only [List.length_cons, List.length_tail]; omega) | (exact (ruAt_ok (by assumption) (by assumption) (by assumption)).2.1) | (exact (ruAt_ok (by assumption) (by assumption) (by assumption)).2.1) | (have := vMach_bd (by assumption); omega) | (simp only [mC_ch, mC_tu]; omega) | (have := vTag_bd (by assumption); omega) | (have := (‹Gd _ _›).le; omega) | (exact tgHalts_no (by assumption)) | (exact tgHead (by assumption) (by assumption) (by assumption)) | (exact Int.le_trans (tgStep_gd (by assumption) (by assumption) (by assumption) (by assumption)).le (by decide)) | (exact vTag_r (by assumption)) | (with_reducible refine Int.le_trans (Int.ofNat_le.2 (pushL_len _ _)) ?_; simp only [List.length_dropLast]; omega) | exact ls_at (by assumption) (by omega) | exact pt_gd (by assumption) | exact lv_at (by assumption) (by omega) | exact pt_gd (lv_at (by assumption) (by omega)) | exact (ask_ok (by assumption)).1 | exact (ask_ok (by assumption)).2.1 | exact (ask_ok (by assumption)).2.2.1 | exact (ask_ok (by assumption)).2.2.2 | trivial) : p := h
theorem sBackwardDepth_ok (m : Mach) (b : Int) (hm : (m.ru.length : Int) ≤ 16777216) : Does Tryz.prog 96 [.agg (maC m), .one (int b)] [] (.tup [(false, [int (bdD m b)]), (false, [int (bdC m b)])]) [] := by
  by_cases hv : vMach m = true
  · have gh := halt_lv hv
    have hv2 : ¬ vMach m = false := by simp [hv]
    by_cases hb : 1 ≤ b ∧ b ≤ 20000
    · have hb2 := inB_iff.2 hb
      have e0 : depQ m (haltP m) b = bdO m b := by unfold bdO; rfl
      have e1 : bdD m b = (bdO m b).getD 0 := by unfold bdD; rw [if_pos ⟨hv, hb⟩]
      have e2 : bdC m b = if (bdO m b).isSome = true then 0 else 5 := by unfold bdC; rw [if_pos hv, if_pos hb]
      rw [e1, e2]
      refine does_of (k := 0) Tryz.func96 rfl Tryz.ntmps96 rfl rfl fun w F0 S0 ρ0 => ?_
      dsimp only [argT, argH]
      repeat' first | (apply n3; exact a_new (gb := .bx _) rfl; exact rfl; refine dA ?_) | (apply p3; exact pu1; exact rfl) | refine cdn ?_ | refine g_reg (id := 0) ?_ | refine g_reg (id := 1) ?_ | refine g_reg (id := 2) ?_ | refine g_reg (id := 3) ?_ | refine g_reg (id := 4) ?_ | (apply c4 0; exact callK1 (θ := []) (hD := (l05Is_ok _ preB68)); exact rfl; exact rfl; exact rfl; refine dM ?_) | (apply c4 0; exact callK1 (θ := []) (hD := (l05Budget_ok _)); exact rfl; exact rfl; exact rfl; refine dM ?_) | ((first | refine o_gs rfl rfl (fun hc => ?_) (fun hc => ?_) | refine g_cond rfl (fun hc => ?_) (fun hc => ?_)) <;> (try simp only [dcB] at hc) <;> (try first | contradiction | (exfalso; omega)))
      first | refine g_turn (t_frzB (d := 2) (i := 0) rfl rfl rfl) ?_ | refine o_turn (t_frzB (d := 2) (i := 0) rfl rfl rfl) ?_
      repeat' first | (apply n3; exact a_new (gb := .bx _) rfl; exact rfl; refine dA ?_) | (apply p3; exact pu1; exact rfl) | refine cdn ?_ | refine g_reg (id := 0) ?_ | refine g_reg (id := 1) ?_ | refine g_reg (id := 2) ?_ | refine g_reg (id := 3) ?_ | refine g_reg (id := 4) ?_ | refine g_reg (id := 5) ?_ | (apply c4 0; exact callK1 (θ := []) (hD := (l05Is_ok _ preB68)); exact rfl; exact rfl; exact rfl; refine dM ?_) | (apply c4 0; exact callK1 (θ := []) (hD := (l05Budget_ok _)); exact rfl; exact rfl; exact rfl; refine dM ?_) | (apply c4 0; exact callK0 (θ := []) (hD := (l26Halting_ok _ preB68)); exact rfl; exact rfl; exact rfl; refine dM ?_) | (apply c4 0; exact callK1 (θ := []) (hD := (l26Depth_ok _ _ _ preB68 preB68 preB68 preB68)); exact rfl; exact rfl; exact rfl; refine dM ?_) | ((first | refine o_gs rfl rfl (fun hc => ?_) (fun hc => ?_) | refine g_cond rfl (fun hc => ?_) (fun hc => ?_)) <;> (try simp only [dcB] at hc) <;> (try first | contradiction | (exfalso; omega)))
      rw [e0]
      cases hd : bdO m b with
      | none =>
        dsimp only [Option.isSome_none, Option.getD_none]
        repeat' first | (apply n3; exact a_new (gb := .bx _) rfl; exact rfl; refine dA ?_) | (apply p3; exact pu1; exact rfl) | refine cd ?_ | (apply c4 0; exact callK1 (θ := []) (hD := (l05Is_ok _ preB68)); exact rfl; exact rfl; exact rfl; refine dM ?_) | (apply c4 0; exact callK1 (θ := []) (hD := (l05Budget_ok _)); exact rfl; exact rfl; exact rfl; refine dM ?_) | (apply c4 0; exact callK0 (θ := []) (hD := (l26Halting_ok _ preB68)); exact rfl; exact rfl; exact rfl; refine dM ?_) | (apply c4 0; exact callK1 (θ := []) (hD := (l26Depth_ok _ _ _ preB68 preB68 preB68 preB68)); exact rfl; exact rfl; exact rfl; refine dM ?_) | ((first | refine o_gs rfl rfl (fun hc => ?_) (fun hc => ?_) | refine g_cond rfl (fun hc => ?_) (fun hc => ?_)) <;> (try simp only [dcB] at hc) <;> (try first | contradiction | (exfalso; omega)))
        repeat refine cr ?_
        refine ends_id ?_
        refine endK [] (h2 := ?_) (h3 := ?_) (nd := ?_)
        all_goals (repeat' first | exact ce0 | refine ce ?_ | refine ce2 ?_ ?_ | exact SVLe.refl | refine ceb ?_)
        all_goals first | exact (show nodupB _ = true from rfl) | exact Or.inr rfl | (rfl)
      | some d =>
        dsimp only [Option.isSome_some, Option.getD_some]
        repeat' first | (apply n3; exact a_new (gb := .bx _) rfl; exact rfl; refine dA ?_) | (apply p3; exact pu1; exact rfl) | refine cd ?_ | (apply c4 0; exact callK1 (θ := []) (hD := (l05Is_ok _ preB68)); exact rfl; exact rfl; exact rfl; refine dM ?_) | (apply c4 0; exact callK1 (θ := []) (hD := (l05Budget_ok _)); exact rfl; exact rfl; exact rfl; refine dM ?_) | (apply c4 0; exact callK0 (θ := []) (hD := (l26Halting_ok _ preB68)); exact rfl; exact rfl; exact rfl; refine dM ?_) | (apply c4 0; exact callK1 (θ := []) (hD := (l26Depth_ok _ _ _ preB68 preB68 preB68 preB68)); exact rfl; exact rfl; exact rfl; refine dM ?_) | ((first | refine o_gs rfl rfl (fun hc => ?_) (fun hc => ?_) | refine g_cond rfl (fun hc => ?_) (fun hc => ?_)) <;> (try simp only [dcB] at hc) <;> (try first | contradiction | (exfalso; omega)))
        repeat refine cr ?_
        refine ends_id ?_
        refine endK [] (h2 := ?_) (h3 := ?_) (nd := ?_)
        all_goals (repeat' first | exact ce0 | refine ce ?_ | refine ce2 ?_ ?_ | exact SVLe.refl | refine ceb ?_)
        all_goals first | exact (show nodupB _ = true from rfl) | exact Or.inr rfl | (rfl)
    · have hb2 : ¬ inB b 1 20000 = true := fun h => hb (inB_iff.1 h)
      have e1 : bdD m b = 0 := by unfold bdD; rw [if_neg (fun h => hb h.2)]
      have e2 : bdC m b = 2 := by unfold bdC; rw [if_pos hv, if_neg hb]
      rw [e1, e2]
      refine does_of (k := 0) Tryz.func96 rfl Tryz.ntmps96 rfl rfl fun w F0 S0 ρ0 => ?_
      dsimp only [argT, argH]
      repeat' first | (apply n3; exact a_new (gb := .bx _) rfl; exact rfl; refine dA ?_) | (apply p3; exact pu1; exact rfl) | refine cd ?_ | (apply c4 0; exact callK1 (θ := []) (hD := (l05Is_ok _ preB68)); exact rfl; exact rfl; exact rfl; refine dM ?_) | (apply c4 0; exact callK1 (θ := []) (hD := (l05Budget_ok _)); exact rfl; exact rfl; exact rfl; refine dM ?_) | (apply c4 0; exact callK0 (θ := []) (hD := (l26Halting_ok _ preB68)); exact rfl; exact rfl; exact rfl; refine dM ?_) | (apply c4 0; exact callK1 (θ := []) (hD := (l26Depth_ok _ _ _ preB68 preB68 preB68 preB68)); exact rfl; exact rfl; exact rfl; refine dM ?_) | ((first | refine o_gs rfl rfl (fun hc => ?_) (fun hc => ?_) | refine g_cond rfl (fun hc => ?_) (fun hc => ?_)) <;> (try simp only [dcB] at hc) <;> (try first | contradiction | (exfalso; omega)))
      repeat refine cr ?_
      refine ends_id ?_
      refine endK [] (h2 := ?_) (h3 := ?_) (nd := ?_)
      all_goals (repeat' first | exact ce0 | refine ce ?_ | refine ce2 ?_ ?_ | exact SVLe.refl | refine ceb ?_)
      all_goals first | exact (show nodupB _ = true from rfl) | exact Or.inr rfl | (rfl)
  · have e1 : bdD m b = 0 := by unfold bdD; rw [if_neg (fun h => hv h.1)]
    have e2 : bdC m b = 1 := by unfold bdC; rw [if_neg hv]
    rw [e1, e2]
    refine does_of (k := 0) Tryz.func96 rfl Tryz.ntmps96 rfl rfl fun w F0 S0 ρ0 => ?_
    dsimp only [argT, argH]
    repeat' first | (apply n3; exact a_new (gb := .bx _) rfl; exact rfl; refine dA ?_) | (apply p3; exact pu1; exact rfl) | refine cd ?_ | (apply c4 0; exact callK1 (θ := []) (hD := (l05Is_ok _ preB68)); exact rfl; exact rfl; exact rfl; refine dM ?_) | (apply c4 0; exact callK1 (θ := []) (hD := (l05Budget_ok _)); exact rfl; exact rfl; exact rfl; refine dM ?_) | (apply c4 0; exact callK0 (θ := []) (hD := (l26Halting_ok _ preB68)); exact rfl; exact rfl; exact rfl; refine dM ?_) | (apply c4 0; exact callK1 (θ := []) (hD := (l26Depth_ok _ _ _ preB68 preB68 preB68 preB68)); exact rfl; exact rfl; exact rfl; refine dM ?_) | ((first | refine o_gs rfl rfl (fun hc => ?_) (fun hc => ?_) | refine g_cond rfl (fun hc => ?_) (fun hc => ?_)) <;> (try simp only [dcB] at hc) <;> (try first | contradiction | (exfalso; omega)))
    repeat refine cr ?_
    refine ends_id ?_
    refine endK [] (h2 := ?_) (h3 := ?_) (nd := ?_)
    all_goals (repeat' first | exact ce0 | refine ce ?_ | refine ce2 ?_ ?_ | exact SVLe.refl | refine ceb ?_)
    all_goals first | exact (show nodupB _ = true from rfl) | exact Or.inr rfl | (rfl)
theorem bd_ok {m : Mach} {b : Int} (h : bdC m b = 0) : vMach m = true ∧ (1 ≤ b ∧ b ≤ 20000) ∧ bdO m b = some (bdD m b) := by
  unfold bdC at h
  split at h
  · rename_i hv
    split at h
    · rename_i hb
      refine ⟨hv, hb, ?_⟩
      unfold bdD
      rw [if_pos ⟨hv, hb⟩]
      cases ho : bdO m b with
      | none => rw [ho] at h; simp at h
      | some d => rfl
    · omega
  · omega
theorem dpF_bd {m : Mach} {b : Int} : ∀ (f : Nat) (d s : Int) (lv : List Part) (e : Int), 0 ≤ d → dpF m b f d lv s = some e → 0 ≤ e ∧ e ≤ d + f
  | 0, _, _, _, _, _, h => by simp [dpF] at h
  | f + 1, d, s, lv, e, h0, h => by
    rw [dpF] at h
    split at h
    · cases h; omega
    · split at h
      · cases h
      · split at h
        · cases h
        · have := dpF_bd f _ _ _ e (by omega) h
          omega
theorem bd_bd {m : Mach} {b : Int} (h : bdC m b = 0) : 0 ≤ bdD m b ∧ bdD m b ≤ 61 := by
  have h1 := (bd_ok h).2.2
  unfold bdO depQ at h1
  split at h1
  · cases h1
  · have := dpF_bd 61 0 0 (haltP m) (bdD m b) (by omega) h1
    omega
@[irreducible] def fbC (m : Mach) (b : Int) : Int := if bdC m b = 0 then if erly m (bdD m b) = true then 3 else 0 else bdC m b
@[irreducible] def fbP (m : Mach) (b : Int) : Prf := if fbC m b = 0 then ⟨4, [bdD m b], []⟩ else ⟨0, [], []⟩
theorem sFindBackward_ok (m : Mach) (b : Int) (hm : (m.ru.length : Int) ≤ 16777216) : Does Tryz.prog 37 [.agg (maC m), .one (int b)] [] (.tup [(true, [int (fbP m b).k, .gv 0, .gv 1]), (false, [int (fbC m b)])]) [roI (fbP m b).nu, .row 1 []] := by
  by_cases hk : bdC m b = 0
  · have hv := (bd_ok hk).1
    have hd := bd_bd hk
    have hk2 : ¬ ¬ bdC m b = 0 := fun h => h hk
    by_cases he : erly m (bdD m b) = true
    · have he2 : ¬ erly m (bdD m b) = false := by simp [he]
      have e1 : fbC m b = 3 := by unfold fbC; rw [if_pos hk, if_pos he]
      have e2 : fbP m b = ⟨0, [], []⟩ := by unfold fbP; rw [if_neg (by omega)]
      rw [e1, e2]
      refine does_of (k := 0) Tryz.func37 rfl Tryz.ntmps37 rfl rfl fun w F0 S0 ρ0 => ?_
      dsimp only [argT, argH]
      repeat' first | (apply n3; (first | exact a_new (gb := .bx _) rfl | exact a_litE eI [_] rfl rfl rfl rfl rfl rfl rfl rfl); exact rfl; refine dA ?_) | (apply p3; (first | exact pu1 | exact puL | exact a_ne rfl rfl | exact a_neS rfl rfl rfl); exact rfl) | refine cd ?_ | (apply w3; exact a_st_bx rfl rfl rfl rfl (fN rfl rfl) (Nat.le_of_ble_eq_true rfl) rfl; exact rfl; refine dS ?_) | (apply c4 0; exact callK1 (θ := []) (hD := (sBackwardDepth_ok _ _ preB68)); exact rfl; exact rfl; exact rfl; refine dM ?_) | (apply c4 0; exact callK1 (θ := []) (hD := (l26Early_ok _ _ preB68 preB68 preB68)); exact rfl; exact rfl; exact rfl; refine dM ?_) | ((first | refine o_gs rfl rfl (fun hc => ?_) (fun hc => ?_) | refine g_cond rfl (fun hc => ?_) (fun hc => ?_)) <;> (try simp only [dcB] at hc) <;> (try first | contradiction | (exfalso; omega)))
      refine g_conv (t_nilB (i := 1) (k := 1) (z := 1) rfl rfl rfl (by decide)) ?_
      try dsimp only [setRow, List.map_cons, List.map_nil, scC, List.set_cons_zero, List.set_cons_succ]
      refine g_conv (t_nilB (i := 1) (k := 2) (z := 1) rfl rfl rfl (by decide)) ?_
      try dsimp only [setRow, List.map_cons, List.map_nil, scC, List.set_cons_zero, List.set_cons_succ]
      repeat refine cr ?_
      refine ends_id ?_
      refine endK [?_, ?_] (h2 := ?_) (h3 := ?_) (nd := ?_)
      rotate_left 2
      all_goals (repeat' first | exact ce0 | refine ce ?_ | refine ce2 ?_ ?_ | (refine Or.inr (bx_eq rfl rfl ?_); (try dsimp only [C.ren, C.ren.all]); (try exact rfl)) | exact SVLe.refl | refine ceb ?_)
      all_goals first | exact (show nodupB _ = true from rfl) | exact Or.inr rfl | (rfl)
    · have e1 : fbC m b = 0 := by unfold fbC; rw [if_pos hk, if_neg he]
      have e2 : fbP m b = ⟨4, [bdD m b], []⟩ := by unfold fbP; rw [if_pos e1]
      rw [e1, e2]
      refine does_of (k := 0) Tryz.func37 rfl Tryz.ntmps37 rfl rfl fun w F0 S0 ρ0 => ?_
      dsimp only [argT, argH]
      repeat' first | (apply n3; (first | exact a_new (gb := .bx _) rfl | exact a_litE eI [_] rfl rfl rfl rfl rfl rfl rfl rfl); exact rfl; refine dA ?_) | (apply p3; (first | exact pu1 | exact puL | exact a_ne rfl rfl | exact a_neS rfl rfl rfl); exact rfl) | refine cd ?_ | (apply w3; exact a_st_bx rfl rfl rfl rfl (fN rfl rfl) (Nat.le_of_ble_eq_true rfl) rfl; exact rfl; refine dS ?_) | (apply c4 0; exact callK1 (θ := []) (hD := (sBackwardDepth_ok _ _ preB68)); exact rfl; exact rfl; exact rfl; refine dM ?_) | (apply c4 0; exact callK1 (θ := []) (hD := (l26Early_ok _ _ preB68 preB68 preB68)); exact rfl; exact rfl; exact rfl; refine dM ?_) | ((first | refine o_gs rfl rfl (fun hc => ?_) (fun hc => ?_) | refine g_cond rfl (fun hc => ?_) (fun hc => ?_)) <;> (try simp only [dcB] at hc) <;> (try first | contradiction | (exfalso; omega)))
      refine g_conv (t_nilB (i := 1) (k := 2) (z := 1) rfl rfl rfl (by decide)) ?_
      try dsimp only [setRow, List.map_cons, List.map_nil, scC, List.set_cons_zero, List.set_cons_succ]
      repeat refine cr ?_
      refine ends_id ?_
      refine endK [?_, ?_] (h2 := ?_) (h3 := ?_) (nd := ?_)
      rotate_left 2
      all_goals (repeat' first | exact ce0 | refine ce ?_ | refine ce2 ?_ ?_ | (refine Or.inr (bx_eq rfl rfl ?_); (try dsimp only [C.ren, C.ren.all]); (try exact rfl)) | exact SVLe.refl | refine ceb ?_)
      all_goals first | exact (show nodupB _ = true from rfl) | exact Or.inr rfl | (rfl)
  · have e1 : fbC m b = bdC m b := by unfold fbC; rw [if_neg hk]
    have e2 : fbP m b = ⟨0, [], []⟩ := by unfold fbP; rw [if_neg (by omega)]
    rw [e1, e2]
    refine does_of (k := 0) Tryz.func37 rfl Tryz.ntmps37 rfl rfl fun w F0 S0 ρ0 => ?_
    dsimp only [argT, argH]
    repeat' first | (apply n3; (first | exact a_new (gb := .bx _) rfl | exact a_litE eI [_] rfl rfl rfl rfl rfl rfl rfl rfl); exact rfl; refine dA ?_) | (apply p3; (first | exact pu1 | exact puL | exact a_ne rfl rfl | exact a_neS rfl rfl rfl); exact rfl) | refine cd ?_ | (apply w3; exact a_st_bx rfl rfl rfl rfl (fN rfl rfl) (Nat.le_of_ble_eq_true rfl) rfl; exact rfl; refine dS ?_) | (apply c4 0; exact callK1 (θ := []) (hD := (sBackwardDepth_ok _ _ preB68)); exact rfl; exact rfl; exact rfl; refine dM ?_) | (apply c4 0; exact callK1 (θ := []) (hD := (l26Early_ok _ _ preB68 preB68 preB68)); exact rfl; exact rfl; exact rfl; refine dM ?_) | ((first | refine o_gs rfl rfl (fun hc => ?_) (fun hc => ?_) | refine g_cond rfl (fun hc => ?_) (fun hc => ?_)) <;> (try simp only [dcB] at hc) <;> (try first | contradiction | (exfalso; omega)))
    refine g_conv (t_nilB (i := 1) (k := 1) (z := 1) rfl rfl rfl (by decide)) ?_
    try dsimp only [setRow, List.map_cons, List.map_nil, scC, List.set_cons_zero, List.set_cons_succ]
    refine g_conv (t_nilB (i := 1) (k := 2) (z := 1) rfl rfl rfl (by decide)) ?_
    try dsimp only [setRow, List.map_cons, List.map_nil, scC, List.set_cons_zero, List.set_cons_succ]
    repeat refine cr ?_
    refine ends_id ?_
    refine endK [?_, ?_] (h2 := ?_) (h3 := ?_) (nd := ?_)
    rotate_left 2
    all_goals (repeat' first | exact ce0 | refine ce ?_ | refine ce2 ?_ ?_ | (refine Or.inr (bx_eq rfl rfl ?_); (try dsimp only [C.ren, C.ren.all]); (try exact rfl)) | exact SVLe.refl | refine ceb ?_)
    all_goals first | exact (show nodupB _ = true from rfl) | exact Or.inr rfl | (rfl)
end Go.Proofs.YtbekdojhcokalaaGreatDoor
end
section
set_option linter.unusedVariables false
set_option linter.unusedSimpArgs false
set_option maxRecDepth 100000
set_option maxHeartbeats 4000000
namespace Go.Proofs.YtbekdojhcokalaaGreatDoor
open Go Foot
theorem preB74 {p : Prop} (h : p := by first | with_reducible assumption | omega | (simp only [List.length_append, List.length_cons, List.length_nil, List.length_set, List.length_replicate, List.length_take, List.length_drop, List.length_tail, List.length_dropLast, List.length_reverse] at *; omega) | exact mem_len (by assumption) (by omega) | (with_reducible refine Int.le_trans (Int.ofNat_le.2 (trimR_len _)) ?_; simp only [List.length_cons, List.length_tail]; omega) | (exact (ruAt_ok (by assumption) (by assumption) (by assumption)).2.1) | (exact (ruAt_ok (by assumption) (by assumption) (by assumption)).2.1) | (have := vMach_bd (by assumption); omega) | (simp only [mC_ch, mC_tu]; omega) | (have := vTag_bd (by assumption); omega) | (have := (‹Gd _ _›).le; omega) | (exact tgHalts_no (by assumption)) | (exact tgHead (by assumption) (by assumption) (by assumption)) | (exact Int.le_trans (tgStep_gd (by assumption) (by assumption) (by assumption) (by assumption)).le (by decide)) | (exact vTag_r (by assumption)) | (with_reducible refine Int.le_trans (Int.ofNat_le.2 (pushL_len _ _)) ?_; simp only [List.length_dropLast]; omega) | exact ls_at (by assumption) (by omega) | exact pt_gd (by assumption) | exact lv_at (by assumption) (by omega) | exact pt_gd (lv_at (by assumption) (by omega)) | exact (ask_ok (by assumption)).1 | exact (ask_ok (by assumption)).2.1 | exact (ask_ok (by assumption)).2.2.1 | exact (ask_ok (by assumption)).2.2.2 | trivial) : p := h
theorem budgetedP_ok (m : Mach) (b : Int) (hm : (m.ru.length : Int) ≤ 16777216) : Does Tryz.prog 154 [.agg (maC m), .one (int b)] [] (.one (int (askC m blank b))) [] := by
  refine does_of (k := 0) Tryz.func154 rfl Tryz.ntmps154 rfl rfl fun w F0 S0 ρ0 => ?_
  dsimp only [argT, argH]
  repeat' first | (apply n3; exact a_new (gb := .bx _) rfl; exact rfl; refine dA ?_) | (apply p3; (first | exact pu1 | exact puL); exact rfl) | refine cd ?_ | (apply c4 0; exact callK1 (θ := []) (hD := (runCode0_ok _ _ preB74)); exact rfl; exact rfl; exact rfl; refine dM ?_) | (apply c4 0; exact callK1 (θ := []) (hD := (runCode_ok m blank b preB74 (by simp) (by simp))); exact rfl; exact rfl; exact rfl; refine dM ?_) | ((first | refine o_gs rfl rfl (fun hc => ?_) (fun hc => ?_) | refine g_cond rfl (fun hc => ?_) (fun hc => ?_)) <;> (try simp only [dcB] at hc) <;> (try first | contradiction | (exfalso; omega)))
  repeat refine cr ?_
  refine ends_id ?_
  refine endK [] (h2 := ?_) (h3 := ?_) (nd := ?_)
  all_goals (repeat' first | exact ce0 | refine ce ?_ | refine ce2 ?_ ?_ | exact SVLe.refl | refine ceb ?_)
  all_goals first | exact (show nodupB _ = true from rfl) | exact Or.inr rfl | (rfl)
theorem haltingLevel_ok (m : Mach) (s : Int) (hm : vMach m = true) : Does Tryz.prog 148 [.agg (maC m), .one (int s)] [] (.tup [(false, [.gv 0]), (false, [boo (decide (((haltP m).length : Int) ≤ 300))])]) [lvB m (haltP m) s] := by
  refine does_of (k := 0) Tryz.func148 rfl Tryz.ntmps148 rfl rfl fun w F0 S0 ρ0 => ?_
  dsimp only [argT, argH]
  repeat' first | (apply n3; exact a_new (gb := .bx _) rfl; exact rfl; refine dA ?_) | (apply p3; exact pu1; exact rfl) | refine cd ?_ | (apply g_drN (id := 1) okM [[],[],[1],[],[0,1,2,3],[0,1,2,3,4],[0,1,2,3,4,5]] [([],[]),([],[]),([],[]),([],[]),([],[]),([0],[]),([],[])] 1; (focus (refine dp 0 0 [8, 9, 10] [] puL ?_; refine dp 1 0 [7, 10] [] puL ?_; refine dp 2 1 [7, 10] [] (callD0 (n := _) 0 (θ := []) (hD := (haltingPartials_ok _ preB74))) ?_; refine dp 3 0 [7, 8, 9] [] pu1 ?_; refine dp 4 15 [] [] (a_pure (sv := .agg _) rfl) ?_; refine duE 5 31 [] [] (atN 0 (fun _ => a_new (gb := .bx _) rfl)) (by exact rfl) (by exact rfl) ?_; refine dp 6 63 [] [] pu1 ?_; (refine d_nil ?_; refine dN ?_))); any_goals kernel_rfl) | (apply g_drN (id := 2) okM [[],[],[1],[1,2],[1,2,3],[1,2,3,4],[1,2,3,4,5],[0],[0,1,2,3,4,5,6,7]] [([],[]),([],[]),([],[]),([],[]),([],[]),([],[]),([],[]),([],[]),([],[])] 0; (focus (refine dp 0 0 [14, 15, 16, 17, 18, 19] [] pu1 ?_; refine dp 1 0 [13, 4] [] pu1 ?_; refine dp 2 1 [13, 4] [] (a_pure (sv := .one _) rfl) ?_; refine dp 3 3 [13, 4] [] (a_pure (sv := .one _) rfl) ?_; refine dp 4 7 [13, 4] [] puL ?_; refine dp 5 15 [13, 4] [] (by first | exact puN | exact a_pure (sv := .one _) rfl | exact a_len_str rfl (fT rfl)) ?_; refine dp 6 31 [13, 4] [] puC ?_; refine dp 7 64 [14, 15, 16, 17, 18, 19] [] pu1 ?_; refine dp 8 255 [] [] pu1 ?_; (refine d_nil ?_; refine dN ?_))); any_goals kernel_rfl) | ((first | refine o_gs rfl rfl (fun hc => ?_) (fun hc => ?_) | refine g_cond rfl (fun hc => ?_) (fun hc => ?_)) <;> (try simp only [dcB] at hc) <;> (try first | contradiction | (exfalso; omega)))
  repeat refine cr ?_
  refine ends_id ?_
  refine endK [?_] (h2 := ?_) (h3 := ?_) (nd := ?_)
  rotate_left 1
  all_goals (repeat' first | exact ce0 | refine ce ?_ | refine ce2 ?_ ?_ | (refine Or.inr (bx_eq rfl rfl ?_); (try dsimp only [C.ren, C.ren.all]); (try exact rfl)) | exact SVLe.refl | refine ceb ?_)
  all_goals first | exact (show nodupB _ = true from rfl) | exact Or.inr rfl | (rfl)
theorem haltsBefore_ok (m : Mach) (d : Int) (hm : vMach m = true) (h0 : 0 ≤ d) (h1 : d ≤ 1000000) : Does Tryz.prog 93 [.agg (maC m), .one (int d)] [] (.one (boo (erly m d))) [] := by
  have hv := vBlank hm
  rw [← hb_erly m d h0]
  refine does_of (k := 0) Tryz.func93 rfl Tryz.ntmps93 rfl rfl fun w F0 S0 ρ0 => ?_
  dsimp only [argT, argH]
  repeat' first | (apply n3; exact a_new (gb := .bx _) rfl; exact rfl; refine dA ?_) | (apply p3; (first | exact pu1 | exact puL | exact puC); exact rfl) | refine cd ?_ | (apply c4 3; exact callK0 (θ := []) (hD := (blankRun_ok _)); exact rfl; exact rfl; exact rfl; refine dM ?_) | (apply c4 2; exact callK0 (θ := [1, 2, 3]) (hD := (run_ok m ⟨0, [], []⟩ d hm hv (by omega))); exact rfl; exact rfl; exact rfl; refine dM ?_) | refine o_no rfl rfl rfl rfl ?_ | refine o_noN rfl rfl rfl ?_ | (apply py3; exact rfl; exact rfl; (first | exact pu1 | exact puL | exact puC); exact rfl; exact rfl) | (apply ny3; exact rfl; exact rfl; exact a_new (gb := .bx _) rfl; exact rfl; exact rfl) | (apply cy4 3; exact rfl; exact rfl; exact callK0 (θ := []) (hD := (blankRun_ok _)); exact rfl; exact rfl; exact rfl; exact rfl; refine dM ?_) | (apply cy4 2; exact rfl; exact rfl; exact callK0 (θ := [1, 2, 3]) (hD := (run_ok m ⟨0, [], []⟩ d hm hv (by omega))); exact rfl; exact rfl; exact rfl; exact rfl; refine dM ?_) | ((first | refine o_gs rfl rfl (fun hc => ?_) (fun hc => ?_) | refine g_cond rfl (fun hc => ?_) (fun hc => ?_)) <;> (try simp only [dcB] at hc) <;> (try first | contradiction | (exfalso; omega)))
  all_goals
    repeat refine cr ?_
    refine ends_id ?_
    refine endK [] (h2 := ?_) (h3 := ?_) (nd := ?_)
    all_goals (repeat' first | exact ce0 | refine ce ?_ | refine ce2 ?_ ?_ | exact SVLe.refl | refine ceb ?_)
    all_goals first | exact (show nodupB _ = true from rfl) | exact Or.inr rfl | ((simp_all))
end Go.Proofs.YtbekdojhcokalaaGreatDoor
end
section
set_option linter.unusedVariables false
set_option linter.unusedSimpArgs false
set_option maxRecDepth 100000
set_option maxHeartbeats 4000000
namespace Go.Proofs.YtbekdojhcokalaaGreatDoor
open Go Foot
theorem preB75 {p : Prop} (h : p := by first | with_reducible assumption | omega | (simp only [List.length_append, List.length_cons, List.length_nil, List.length_set, List.length_replicate, List.length_take, List.length_drop, List.length_tail, List.length_dropLast, List.length_reverse] at *; omega) | exact mem_len (by assumption) (by omega) | (with_reducible refine Int.le_trans (Int.ofNat_le.2 (trimR_len _)) ?_; simp only [List.length_cons, List.length_tail]; omega) | (exact (ruAt_ok (by assumption) (by assumption) (by assumption)).2.1) | (exact (ruAt_ok (by assumption) (by assumption) (by assumption)).2.1) | (have := vMach_bd (by assumption); omega) | (simp only [mC_ch, mC_tu]; omega) | (have := vTag_bd (by assumption); omega) | (have := (‹Gd _ _›).le; omega) | (exact tgHalts_no (by assumption)) | (exact tgHead (by assumption) (by assumption) (by assumption)) | (exact Int.le_trans (tgStep_gd (by assumption) (by assumption) (by assumption) (by assumption)).le (by decide)) | (exact vTag_r (by assumption)) | (with_reducible refine Int.le_trans (Int.ofNat_le.2 (pushL_len _ _)) ?_; simp only [List.length_dropLast]; omega) | exact ls_at (by assumption) (by omega) | exact pt_gd (by assumption) | exact lv_at (by assumption) (by omega) | exact pt_gd (lv_at (by assumption) (by omega)) | exact (ask_ok (by assumption)).1 | exact (ask_ok (by assumption)).2.1 | exact (ask_ok (by assumption)).2.2.1 | exact (ask_ok (by assumption)).2.2.2 | trivial) : p := h
theorem firstEmpty_ok (m : Mach) (lv : List Part) (b : Int) (hm : vMach m = true) (g : LvOk m lv) (h3 : (lv.length : Int) ≤ 300) (h0 : 0 ≤ b) (h1 : b ≤ 1000000) : Does Tryz.prog 155 [.one (.gv 0)] [lvB m lv b] (.tup [(false, [int ((depQ m lv b).getD 0)]), (false, [int (if (depQ m lv b).isSome = true then 0 else 5)])]) [.dead] := by
  have e : depQ m lv b = dpF m b 61 0 lv 0 := by unfold depQ; rw [if_neg (by omega)]
  refine does_of (k := 1) Tryz.func155 rfl Tryz.ntmps155 rfl rfl fun w F0 S0 ρ0 => ?_
  dsimp only [argT, argH]
  repeat' first | (apply p3; (first | exact pu1 | exact puL | exact puC | exact puN | exact a_len_str rfl (fT rfl) | exact a_eqS rfl rfl rfl | exact a_ne rfl rfl | exact a_neS rfl rfl rfl | exact a_add rfl rfl (by omega) (by omega)); exact rfl) | refine cd ?_ | refine o_no rfl rfl rfl rfl ?_ | refine o_noN rfl rfl rfl ?_ | (apply py3; exact rfl; exact rfl; (first | exact pu1 | exact puL | exact puC | exact puN | exact a_len_str rfl (fT rfl) | exact a_eqS rfl rfl rfl | exact a_ne rfl rfl | exact a_neS rfl rfl rfl | exact a_add rfl rfl (by omega) (by omega)); exact rfl; exact rfl) | ((first | refine o_gs rfl rfl (fun hc => ?_) (fun hc => ?_) | refine g_cond rfl (fun hc => ?_) (fun hc => ?_)) <;> (try simp only [dcB] at hc) <;> (try first | contradiction | (exfalso; omega)))
  refine g_loop_id ?_
  refine loopK [0, 2, 3] [0] (fun y : Int × List Part × Int => 0 ≤ y.1 ∧ y.1 ≤ 60 ∧ LvOk m y.2.1 ∧ 0 ≤ y.2.2 ∧ y.2.2 ≤ b ∧ dpF m b (61 - y.1).toNat y.1 y.2.1 (b - y.2.2) = depQ m lv b) (fun y => [(5, .one (int y.1))]) (fun y => [(0, lvB m y.2.1 y.2.2)]) (fun y => (61 - y.1).toNat) ((0 : Int), lv, b) [0] (hI := ?_) (hr := ?_)
  · exact ⟨by simp, by simp, g, h0, by simp, by dsimp only; rw [e]; simp⟩
  · rintro ⟨d, l, s⟩ ⟨k0, k1, k2, k3, k4, k5⟩
    dsimp only [List.cons_append, List.nil_append] at *
    skip
    repeat' first | (apply p3; (first | exact puC | exact a_pure (sv := .one _) rfl); exact rfl) | refine cdn ?_ | refine g_reg (id := 2) ?_ | ((first | refine o_gs rfl rfl (fun hc => ?_) (fun hc => ?_) | refine g_cond rfl (fun hc => ?_) (fun hc => ?_)) <;> (try simp only [dcB] at hc) <;> (try first | contradiction | (exfalso; omega)))
    · rw [dpF_next (by omega)] at k5
      have hn := k2.n
      have hl : l = [] ↔ (l.length : Int) = 0 := by rw [← List.length_eq_zero_iff]; omega
      by_cases he : (l.length : Int) = 0
      · rw [if_pos (hl.2 he)] at k5
        rw [← k5]
        repeat' first | (apply p3; (first | exact pu1 | exact puL | exact puC | exact puN | exact a_len_str rfl (fT rfl) | exact a_eqS rfl rfl rfl | exact a_ne rfl rfl | exact a_neS rfl rfl rfl | exact a_add rfl rfl (by omega) (by omega)); exact rfl) | refine cd ?_ | refine o_no rfl rfl rfl rfl ?_ | refine o_noN rfl rfl rfl ?_ | (apply py3; exact rfl; exact rfl; (first | exact pu1 | exact puL | exact puC | exact puN | exact a_len_str rfl (fT rfl) | exact a_eqS rfl rfl rfl | exact a_ne rfl rfl | exact a_neS rfl rfl rfl | exact a_add rfl rfl (by omega) (by omega)); exact rfl; exact rfl) | ((first | refine o_gs rfl rfl (fun hc => ?_) (fun hc => ?_) | refine g_cond rfl (fun hc => ?_) (fun hc => ?_)) <;> (try simp only [dcB] at hc) <;> (try first | contradiction | (exfalso; omega)))
        repeat refine cr ?_
        refine ends_id ?_
        refine endK [] (h2 := ?_) (h3 := ?_) (nd := ?_)
        all_goals (repeat' first | exact ce0 | refine ce ?_ | refine ce2 ?_ ?_ | exact SVLe.refl | refine ceb ?_)
        all_goals first | exact (show nodupB _ = true from rfl) | exact Or.inr rfl | (rfl)
      · rw [if_neg (fun q => he (hl.1 q))] at k5
        have hst : b < b - s + l.length ↔ ¬ (l.length : Int) ≤ s := by omega
        by_cases hle : (l.length : Int) ≤ s
        · rw [if_neg (fun q => hst.1 q hle)] at k5
          cases hf : nxtL m l [] with
          | none =>
            rw [hf] at k5
            dsimp only at k5
            rw [← k5]
            have hno : (if (l.length : Int) ≤ s then nxtL m l [] else none) = none := by rw [if_pos hle, hf]
            repeat' first | (apply p3; (first | exact pu1 | exact puL | exact puC | exact puN | exact a_len_str rfl (fT rfl) | exact a_eqS rfl rfl rfl | exact a_ne rfl rfl | exact a_neS rfl rfl rfl | exact a_add rfl rfl (by omega) (by omega)); exact rfl) | refine cd ?_ | (apply c4 0; exact callK1 (θ := [0]) (hD := (nextN_ok m l s hm k2 (by omega) (by omega) hno)); exact rfl; exact rfl; exact rfl; refine dM ?_) | refine o_no rfl rfl rfl rfl ?_ | refine o_noN rfl rfl rfl ?_ | (apply py3; exact rfl; exact rfl; (first | exact pu1 | exact puL | exact puC | exact puN | exact a_len_str rfl (fT rfl) | exact a_eqS rfl rfl rfl | exact a_ne rfl rfl | exact a_neS rfl rfl rfl | exact a_add rfl rfl (by omega) (by omega)); exact rfl; exact rfl) | (apply cy4 0; exact rfl; exact rfl; exact callK1 (θ := [0]) (hD := (nextN_ok m l s hm k2 (by omega) (by omega) hno)); exact rfl; exact rfl; exact rfl; exact rfl; refine dM ?_) | ((first | refine o_gs rfl rfl (fun hc => ?_) (fun hc => ?_) | refine g_cond rfl (fun hc => ?_) (fun hc => ?_)) <;> (try simp only [dcB] at hc) <;> (try first | contradiction | (exfalso; omega)))
            all_goals
              repeat refine cr ?_
              refine ends_id ?_
              refine endK [] (h2 := ?_) (h3 := ?_) (nd := ?_)
              all_goals (repeat' first | exact ce0 | refine ce ?_ | refine ce2 ?_ ?_ | exact SVLe.refl | refine ceb ?_)
              all_goals first | exact (show nodupB _ = true from rfl) | exact Or.inr rfl | (rfl)
          | some l2 =>
            rw [hf] at k5
            dsimp only at k5
            have gl := nxt_lv hm k2 hf
            have gl2 := gl.2
            by_cases hd : d = 60
            · have e9 : depQ m lv b = none := by rw [← k5, hd]; exact dpF_end (by omega)
              rw [e9]
              repeat' first | (apply p3; (first | exact pu1 | exact puL | exact puC | exact puN | exact a_len_str rfl (fT rfl) | exact a_eqS rfl rfl rfl | exact a_ne rfl rfl | exact a_neS rfl rfl rfl | exact a_add rfl rfl (by omega) (by omega)); exact rfl) | refine cd ?_ | (apply c4 0; exact callK1 (θ := [0]) (hD := (nextN_ok m l s hm k2 (by omega) (by omega) hno)); exact rfl; exact rfl; exact rfl; refine dM ?_) | refine o_no rfl rfl rfl rfl ?_ | refine o_noN rfl rfl rfl ?_ | (apply py3; exact rfl; exact rfl; (first | exact pu1 | exact puL | exact puC | exact puN | exact a_len_str rfl (fT rfl) | exact a_eqS rfl rfl rfl | exact a_ne rfl rfl | exact a_neS rfl rfl rfl | exact a_add rfl rfl (by omega) (by omega)); exact rfl; exact rfl) | (apply cy4 0; exact rfl; exact rfl; exact callK1 (θ := [0]) (hD := (nextN_ok m l s hm k2 (by omega) (by omega) hno)); exact rfl; exact rfl; exact rfl; exact rfl; refine dM ?_) | ((first | refine o_gs rfl rfl (fun hc => ?_) (fun hc => ?_) | refine g_cond rfl (fun hc => ?_) (fun hc => ?_)) <;> (try simp only [dcB] at hc) <;> (try first | contradiction | (exfalso; omega)))
              repeat refine cr ?_
              refine ends_id ?_
              refine endK [] (h2 := ?_) (h3 := ?_) (nd := ?_)
              all_goals (repeat' first | exact ce0 | refine ce ?_ | refine ce2 ?_ ?_ | exact SVLe.refl | refine ceb ?_)
              all_goals first | exact (show nodupB _ = true from rfl) | exact Or.inr rfl | (rfl)
            · have hd2 := hd
              repeat' first | (apply p3; (first | exact pu1 | exact puL | exact puC | exact puN | exact a_len_str rfl (fT rfl) | exact a_eqS rfl rfl rfl | exact a_ne rfl rfl | exact a_neS rfl rfl rfl | exact a_add rfl rfl (by omega) (by omega)); exact rfl) | refine cd ?_ | (apply c4 0; exact callK0 (θ := [0]) (hD := (nextY_ok m l l2 s hm k2 (by omega) (by omega) hf hle)); exact rfl; exact rfl; exact rfl; refine dM ?_) | (apply c4 0; exact callK1 (θ := [0]) (hD := (nextN_ok m l s hm k2 (by omega) (by omega) hno)); exact rfl; exact rfl; exact rfl; refine dM ?_) | refine o_no rfl rfl rfl rfl ?_ | refine o_noN rfl rfl rfl ?_ | (apply py3; exact rfl; exact rfl; (first | exact pu1 | exact puL | exact puC | exact puN | exact a_len_str rfl (fT rfl) | exact a_eqS rfl rfl rfl | exact a_ne rfl rfl | exact a_neS rfl rfl rfl | exact a_add rfl rfl (by omega) (by omega)); exact rfl; exact rfl) | (apply cy4 0; exact rfl; exact rfl; exact callK0 (θ := [0]) (hD := (nextY_ok m l l2 s hm k2 (by omega) (by omega) hf hle)); exact rfl; exact rfl; exact rfl; exact rfl; refine dM ?_) | (apply cy4 0; exact rfl; exact rfl; exact callK1 (θ := [0]) (hD := (nextN_ok m l s hm k2 (by omega) (by omega) hno)); exact rfl; exact rfl; exact rfl; exact rfl; refine dM ?_) | ((first | refine o_gs rfl rfl (fun hc => ?_) (fun hc => ?_) | refine g_cond rfl (fun hc => ?_) (fun hc => ?_)) <;> (try simp only [dcB] at hc) <;> (try first | contradiction | (exfalso; omega)))
              refine q_again (d + 1, l2, s - l.length) [0] (by exact stk) ?_ ?_
              · refine ⟨by dsimp only; omega, by dsimp only; omega, gl.1, by dsimp only; omega, by dsimp only; omega, ?_⟩
                dsimp only
                rw [show b - (s - (l.length : Int)) = b - s + l.length by omega]
                exact k5
              · dsimp only; omega
        · rw [if_pos (hst.2 hle)] at k5
          rw [← k5]
          have hno : (if (l.length : Int) ≤ s then nxtL m l [] else none) = none := by rw [if_neg hle]
          repeat' first | (apply p3; (first | exact pu1 | exact puL | exact puC | exact puN | exact a_len_str rfl (fT rfl) | exact a_eqS rfl rfl rfl | exact a_ne rfl rfl | exact a_neS rfl rfl rfl | exact a_add rfl rfl (by omega) (by omega)); exact rfl) | refine cd ?_ | (apply c4 0; exact callK0 (θ := [0]) (hD := (nextY_ok m l l2 s hm k2 (by omega) (by omega) hf hle)); exact rfl; exact rfl; exact rfl; refine dM ?_) | (apply c4 0; exact callK1 (θ := [0]) (hD := (nextN_ok m l s hm k2 (by omega) (by omega) hno)); exact rfl; exact rfl; exact rfl; refine dM ?_) | (apply c4 0; exact callK1 (θ := [0]) (hD := (nextN_ok m l s hm k2 (by omega) (by omega) hno)); exact rfl; exact rfl; exact rfl; refine dM ?_) | refine o_no rfl rfl rfl rfl ?_ | refine o_noN rfl rfl rfl ?_ | (apply py3; exact rfl; exact rfl; (first | exact pu1 | exact puL | exact puC | exact puN | exact a_len_str rfl (fT rfl) | exact a_eqS rfl rfl rfl | exact a_ne rfl rfl | exact a_neS rfl rfl rfl | exact a_add rfl rfl (by omega) (by omega)); exact rfl; exact rfl) | (apply cy4 0; exact rfl; exact rfl; exact callK0 (θ := [0]) (hD := (nextY_ok m l l2 s hm k2 (by omega) (by omega) hf hle)); exact rfl; exact rfl; exact rfl; exact rfl; refine dM ?_) | (apply cy4 0; exact rfl; exact rfl; exact callK1 (θ := [0]) (hD := (nextN_ok m l s hm k2 (by omega) (by omega) hno)); exact rfl; exact rfl; exact rfl; exact rfl; refine dM ?_) | (apply cy4 0; exact rfl; exact rfl; exact callK1 (θ := [0]) (hD := (nextN_ok m l s hm k2 (by omega) (by omega) hno)); exact rfl; exact rfl; exact rfl; exact rfl; refine dM ?_) | ((first | refine o_gs rfl rfl (fun hc => ?_) (fun hc => ?_) | refine g_cond rfl (fun hc => ?_) (fun hc => ?_)) <;> (try simp only [dcB] at hc) <;> (try first | contradiction | (exfalso; omega)))
          all_goals
            repeat refine cr ?_
            refine ends_id ?_
            refine endK [] (h2 := ?_) (h3 := ?_) (nd := ?_)
            all_goals (repeat' first | exact ce0 | refine ce ?_ | refine ce2 ?_ ?_ | exact SVLe.refl | refine ceb ?_)
            all_goals first | exact (show nodupB _ = true from rfl) | exact Or.inr rfl | (rfl)
theorem BackwardDepth_ok (m : Mach) (b : Int) (hm : (m.ru.length : Int) ≤ 16777216) : Does Tryz.prog 97 [.agg (maC m), .one (int b)] [] (.tup [(false, [int (bdD m b)]), (false, [int (bdC m b)])]) [] := by
  by_cases hk : askC m blank b = 0
  · obtain ⟨hv, _, hb1, hb2⟩ := ask_ok hk
    have gh := halt_lv hv
    have e0 : depQ m (haltP m) b = bdO m b := by unfold bdO; rfl
    have e1 : bdD m b = (bdO m b).getD 0 := by unfold bdD; rw [if_pos ⟨hv, hb1, hb2⟩]
    have e2 : bdC m b = if (bdO m b).isSome = true then 0 else 5 := by unfold bdC; rw [if_pos hv, if_pos ⟨hb1, hb2⟩]
    by_cases h3 : ((haltP m).length : Int) ≤ 300
    · rw [e1, e2, ← e0]
      refine does_of (k := 0) Tryz.func97 rfl Tryz.ntmps97 rfl rfl fun w F0 S0 ρ0 => ?_
      dsimp only [argT, argH]
      repeat' first | (apply n3; exact a_new (gb := .bx _) rfl; exact rfl; refine dA ?_) | (apply p3; (first | exact pu1 | exact puL | exact a_ne rfl rfl | exact a_neS rfl rfl rfl); exact rfl) | refine cd ?_ | (apply c4 0; exact callK1 (θ := []) (hD := (budgeted_ok _ _ preB75)); exact rfl; exact rfl; exact rfl; refine dM ?_) | (apply c4 0; exact callK1 (θ := []) (hD := (budgeted_ok _ _ preB75)); exact rfl; exact rfl; exact rfl; refine dM ?_) | (apply c4 0; exact callK1 (θ := []) (hD := (budgetedP_ok _ _ preB75)); exact rfl; exact rfl; exact rfl; refine dM ?_) | (apply c4 1; exact callK0 (θ := []) (hD := (haltingLevel_ok _ _ preB75)); exact rfl; exact rfl; exact rfl; refine dM ?_) | (apply c4 0; exact callK1 (θ := [_]) (hD := (firstEmpty_ok _ _ _ preB75 preB75 preB75 preB75 preB75)); exact rfl; exact rfl; exact rfl; refine dM ?_) | ((first | refine o_gs rfl rfl (fun hc => ?_) (fun hc => ?_) | refine g_cond rfl (fun hc => ?_) (fun hc => ?_)) <;> (try simp only [dcB] at hc) <;> (try first | contradiction | (exfalso; omega)))
      repeat refine cr ?_
      refine ends_id ?_
      refine endK [] (h2 := ?_) (h3 := ?_) (nd := ?_)
      all_goals (repeat' first | exact ce0 | refine ce ?_ | refine ce2 ?_ ?_ | exact SVLe.refl | refine ceb ?_)
      all_goals first | exact (show nodupB _ = true from rfl) | exact Or.inr rfl | (rfl)
    · have e3 : bdO m b = none := by rw [← e0]; unfold depQ; rw [if_pos (by omega)]
      rw [e1, e2, e3]
      refine does_of (k := 0) Tryz.func97 rfl Tryz.ntmps97 rfl rfl fun w F0 S0 ρ0 => ?_
      dsimp only [argT, argH]
      repeat' first | (apply n3; exact a_new (gb := .bx _) rfl; exact rfl; refine dA ?_) | (apply p3; (first | exact pu1 | exact puL | exact a_ne rfl rfl | exact a_neS rfl rfl rfl); exact rfl) | refine cd ?_ | (apply c4 0; exact callK1 (θ := []) (hD := (budgeted_ok _ _ preB75)); exact rfl; exact rfl; exact rfl; refine dM ?_) | (apply c4 0; exact callK1 (θ := []) (hD := (budgeted_ok _ _ preB75)); exact rfl; exact rfl; exact rfl; refine dM ?_) | (apply c4 0; exact callK1 (θ := []) (hD := (budgetedP_ok _ _ preB75)); exact rfl; exact rfl; exact rfl; refine dM ?_) | (apply c4 1; exact callK0 (θ := []) (hD := (haltingLevel_ok _ _ preB75)); exact rfl; exact rfl; exact rfl; refine dM ?_) | (apply c4 0; exact callK1 (θ := [_]) (hD := (firstEmpty_ok _ _ _ preB75 preB75 preB75 preB75 preB75)); exact rfl; exact rfl; exact rfl; refine dM ?_) | ((first | refine o_gs rfl rfl (fun hc => ?_) (fun hc => ?_) | refine g_cond rfl (fun hc => ?_) (fun hc => ?_)) <;> (try simp only [dcB] at hc) <;> (try first | contradiction | (exfalso; omega)))
      repeat refine cr ?_
      refine ends_id ?_
      refine endK [] (h2 := ?_) (h3 := ?_) (nd := ?_)
      all_goals (repeat' first | exact ce0 | refine ce ?_ | refine ce2 ?_ ?_ | exact SVLe.refl | refine ceb ?_)
      all_goals first | exact (show nodupB _ = true from rfl) | exact Or.inr rfl | (rfl)
  · have e1 : bdD m b = 0 := by
      unfold bdD
      rw [if_neg]
      rintro ⟨q1, q2⟩
      exact hk (by unfold askC; rw [if_pos ⟨q1, vBlank q1⟩, if_pos q2])
    have e2 : bdC m b = askC m blank b := by
      unfold bdC askC
      by_cases hv : vMach m = true
      · rw [if_pos hv, if_pos (show vMach m = true ∧ vConf m blank = true from ⟨hv, vBlank hv⟩)]
        by_cases hb : 1 ≤ b ∧ b ≤ 20000
        · exfalso; exact hk (by unfold askC; rw [if_pos ⟨hv, vBlank hv⟩, if_pos hb])
        · rw [if_neg hb, if_neg hb]
      · rw [if_neg hv, if_neg (show ¬ (vMach m = true ∧ vConf m blank = true) from fun q => hv q.1)]
    rw [e1, e2]
    refine does_of (k := 0) Tryz.func97 rfl Tryz.ntmps97 rfl rfl fun w F0 S0 ρ0 => ?_
    dsimp only [argT, argH]
    repeat' first | (apply n3; exact a_new (gb := .bx _) rfl; exact rfl; refine dA ?_) | (apply p3; (first | exact pu1 | exact puL | exact a_ne rfl rfl | exact a_neS rfl rfl rfl); exact rfl) | refine cd ?_ | (apply c4 0; exact callK1 (θ := []) (hD := (budgeted_ok _ _ preB75)); exact rfl; exact rfl; exact rfl; refine dM ?_) | (apply c4 0; exact callK1 (θ := []) (hD := (budgeted_ok _ _ preB75)); exact rfl; exact rfl; exact rfl; refine dM ?_) | (apply c4 0; exact callK1 (θ := []) (hD := (budgetedP_ok _ _ preB75)); exact rfl; exact rfl; exact rfl; refine dM ?_) | (apply c4 1; exact callK0 (θ := []) (hD := (haltingLevel_ok _ _ preB75)); exact rfl; exact rfl; exact rfl; refine dM ?_) | (apply c4 0; exact callK1 (θ := [_]) (hD := (firstEmpty_ok _ _ _ preB75 preB75 preB75 preB75 preB75)); exact rfl; exact rfl; exact rfl; refine dM ?_) | ((first | refine o_gs rfl rfl (fun hc => ?_) (fun hc => ?_) | refine g_cond rfl (fun hc => ?_) (fun hc => ?_)) <;> (try simp only [dcB] at hc) <;> (try first | contradiction | (exfalso; omega)))
    repeat refine cr ?_
    refine ends_id ?_
    refine endK [] (h2 := ?_) (h3 := ?_) (nd := ?_)
    all_goals (repeat' first | exact ce0 | refine ce ?_ | refine ce2 ?_ ?_ | exact SVLe.refl | refine ceb ?_)
    all_goals first | exact (show nodupB _ = true from rfl) | exact Or.inr rfl | (rfl)
theorem iFindBackward_ok (m : Mach) (b : Int) (hm : (m.ru.length : Int) ≤ 16777216) : Does Tryz.prog 38 [.agg (maC m), .one (int b)] [] (.tup [(true, [int (fbP m b).k, .gv 0, .gv 1]), (false, [int (fbC m b)])]) [roI (fbP m b).nu, .row 1 []] := by
  by_cases hk : bdC m b = 0
  · have hv := (bd_ok hk).1
    have hd := bd_bd hk
    have hk2 : ¬ ¬ bdC m b = 0 := fun h => h hk
    by_cases he : erly m (bdD m b) = true
    · have he2 : ¬ erly m (bdD m b) = false := by simp [he]
      have e1 : fbC m b = 3 := by unfold fbC; rw [if_pos hk, if_pos he]
      have e2 : fbP m b = ⟨0, [], []⟩ := by unfold fbP; rw [if_neg (by omega)]
      rw [e1, e2]
      refine does_of (k := 0) Tryz.func38 rfl Tryz.ntmps38 rfl rfl fun w F0 S0 ρ0 => ?_
      dsimp only [argT, argH]
      repeat' first | (apply n3; (first | exact a_new (gb := .bx _) rfl | exact a_litE eI [_] rfl rfl rfl rfl rfl rfl rfl rfl); exact rfl; refine dA ?_) | (apply p3; (first | exact pu1 | exact puL | exact a_ne rfl rfl | exact a_neS rfl rfl rfl); exact rfl) | refine cd ?_ | (apply w3; exact a_st_bx rfl rfl rfl rfl (fN rfl rfl) (Nat.le_of_ble_eq_true rfl) rfl; exact rfl; refine dS ?_) | (apply c4 0; exact callK1 (θ := []) (hD := (BackwardDepth_ok _ _ preB75)); exact rfl; exact rfl; exact rfl; refine dM ?_) | (apply c4 0; exact callK1 (θ := []) (hD := (haltsBefore_ok _ _ preB75 preB75 preB75)); exact rfl; exact rfl; exact rfl; refine dM ?_) | ((first | refine o_gs rfl rfl (fun hc => ?_) (fun hc => ?_) | refine g_cond rfl (fun hc => ?_) (fun hc => ?_)) <;> (try simp only [dcB] at hc) <;> (try first | contradiction | (exfalso; omega)))
      refine g_conv (t_nilB (i := 1) (k := 1) (z := 1) rfl rfl rfl (by decide)) ?_
      try dsimp only [setRow, List.map_cons, List.map_nil, scC, List.set_cons_zero, List.set_cons_succ]
      refine g_conv (t_nilB (i := 1) (k := 2) (z := 1) rfl rfl rfl (by decide)) ?_
      try dsimp only [setRow, List.map_cons, List.map_nil, scC, List.set_cons_zero, List.set_cons_succ]
      repeat refine cr ?_
      refine ends_id ?_
      refine endK [?_, ?_] (h2 := ?_) (h3 := ?_) (nd := ?_)
      rotate_left 2
      all_goals (repeat' first | exact ce0 | refine ce ?_ | refine ce2 ?_ ?_ | (refine Or.inr (bx_eq rfl rfl ?_); (try dsimp only [C.ren, C.ren.all]); (try exact rfl)) | exact SVLe.refl | refine ceb ?_)
      all_goals first | exact (show nodupB _ = true from rfl) | exact Or.inr rfl | (rfl)
    · have e1 : fbC m b = 0 := by unfold fbC; rw [if_pos hk, if_neg he]
      have e2 : fbP m b = ⟨4, [bdD m b], []⟩ := by unfold fbP; rw [if_pos e1]
      rw [e1, e2]
      refine does_of (k := 0) Tryz.func38 rfl Tryz.ntmps38 rfl rfl fun w F0 S0 ρ0 => ?_
      dsimp only [argT, argH]
      repeat' first | (apply n3; (first | exact a_new (gb := .bx _) rfl | exact a_litE eI [_] rfl rfl rfl rfl rfl rfl rfl rfl); exact rfl; refine dA ?_) | (apply p3; (first | exact pu1 | exact puL | exact a_ne rfl rfl | exact a_neS rfl rfl rfl); exact rfl) | refine cd ?_ | (apply w3; exact a_st_bx rfl rfl rfl rfl (fN rfl rfl) (Nat.le_of_ble_eq_true rfl) rfl; exact rfl; refine dS ?_) | (apply c4 0; exact callK1 (θ := []) (hD := (BackwardDepth_ok _ _ preB75)); exact rfl; exact rfl; exact rfl; refine dM ?_) | (apply c4 0; exact callK1 (θ := []) (hD := (haltsBefore_ok _ _ preB75 preB75 preB75)); exact rfl; exact rfl; exact rfl; refine dM ?_) | ((first | refine o_gs rfl rfl (fun hc => ?_) (fun hc => ?_) | refine g_cond rfl (fun hc => ?_) (fun hc => ?_)) <;> (try simp only [dcB] at hc) <;> (try first | contradiction | (exfalso; omega)))
      refine g_conv (t_nilB (i := 1) (k := 2) (z := 1) rfl rfl rfl (by decide)) ?_
      try dsimp only [setRow, List.map_cons, List.map_nil, scC, List.set_cons_zero, List.set_cons_succ]
      repeat refine cr ?_
      refine ends_id ?_
      refine endK [?_, ?_] (h2 := ?_) (h3 := ?_) (nd := ?_)
      rotate_left 2
      all_goals (repeat' first | exact ce0 | refine ce ?_ | refine ce2 ?_ ?_ | (refine Or.inr (bx_eq rfl rfl ?_); (try dsimp only [C.ren, C.ren.all]); (try exact rfl)) | exact SVLe.refl | refine ceb ?_)
      all_goals first | exact (show nodupB _ = true from rfl) | exact Or.inr rfl | (rfl)
  · have e1 : fbC m b = bdC m b := by unfold fbC; rw [if_neg hk]
    have e2 : fbP m b = ⟨0, [], []⟩ := by unfold fbP; rw [if_neg (by omega)]
    rw [e1, e2]
    refine does_of (k := 0) Tryz.func38 rfl Tryz.ntmps38 rfl rfl fun w F0 S0 ρ0 => ?_
    dsimp only [argT, argH]
    repeat' first | (apply n3; (first | exact a_new (gb := .bx _) rfl | exact a_litE eI [_] rfl rfl rfl rfl rfl rfl rfl rfl); exact rfl; refine dA ?_) | (apply p3; (first | exact pu1 | exact puL | exact a_ne rfl rfl | exact a_neS rfl rfl rfl); exact rfl) | refine cd ?_ | (apply w3; exact a_st_bx rfl rfl rfl rfl (fN rfl rfl) (Nat.le_of_ble_eq_true rfl) rfl; exact rfl; refine dS ?_) | (apply c4 0; exact callK1 (θ := []) (hD := (BackwardDepth_ok _ _ preB75)); exact rfl; exact rfl; exact rfl; refine dM ?_) | (apply c4 0; exact callK1 (θ := []) (hD := (haltsBefore_ok _ _ preB75 preB75 preB75)); exact rfl; exact rfl; exact rfl; refine dM ?_) | ((first | refine o_gs rfl rfl (fun hc => ?_) (fun hc => ?_) | refine g_cond rfl (fun hc => ?_) (fun hc => ?_)) <;> (try simp only [dcB] at hc) <;> (try first | contradiction | (exfalso; omega)))
    refine g_conv (t_nilB (i := 1) (k := 1) (z := 1) rfl rfl rfl (by decide)) ?_
    try dsimp only [setRow, List.map_cons, List.map_nil, scC, List.set_cons_zero, List.set_cons_succ]
    refine g_conv (t_nilB (i := 1) (k := 2) (z := 1) rfl rfl rfl (by decide)) ?_
    try dsimp only [setRow, List.map_cons, List.map_nil, scC, List.set_cons_zero, List.set_cons_succ]
    repeat refine cr ?_
    refine ends_id ?_
    refine endK [?_, ?_] (h2 := ?_) (h3 := ?_) (nd := ?_)
    rotate_left 2
    all_goals (repeat' first | exact ce0 | refine ce ?_ | refine ce2 ?_ ?_ | (refine Or.inr (bx_eq rfl rfl ?_); (try dsimp only [C.ren, C.ren.all]); (try exact rfl)) | exact SVLe.refl | refine ceb ?_)
    all_goals first | exact (show nodupB _ = true from rfl) | exact Or.inr rfl | (rfl)
end Go.Proofs.YtbekdojhcokalaaGreatDoor
end
section
set_option linter.unusedVariables false
set_option linter.unusedSimpArgs false
set_option maxRecDepth 100000
set_option maxHeartbeats 4000000
namespace Go.Proofs.YtbekdojhcokalaaGreatDoor
open Go Foot
/-- Numbers one behind the other. -/
@[irreducible] def marks (k : Int) (n : Nat) : List Int := (List.range n).map fun (i : Nat) => k + (i : Int)
theorem marks_len (k : Int) (n : Nat) : (marks k n).length = n := by unfold marks; simp
theorem marks_get (k : Int) (n i : Nat) (h : i < n) : (marks k n)[i]? = some (k + i) := by unfold marks; simp [h]
theorem mark_end {k : Int} {xs l : List Int} (h1 : l.length = xs.length) (h2 : ∀ j (h : j < xs.length), l[j]? = some (k + j)) : l = marks k xs.length := by
  apply List.ext_getElem?
  intro j
  by_cases hj : j < xs.length
  · rw [marks_get k _ j hj, h2 j hj]
  · rw [List.getElem?_eq_none (by omega), List.getElem?_eq_none (by rw [marks_len]; omega)]
theorem markInt64S_ok (xs : List Int) (k : Int) (h1 : 0 ≤ k) (h2 : k ≤ 4611686018427387904) (hx : (xs.length : Int) ≤ 4611686018427) : Does Tryz.prog 18 [.one (.gv 0), .one (int k)] [roI xs] (.one (int (k + xs.length))) [roI (marks k xs.length)] := by
  refine does_of (k := 1) Tryz.func18 rfl Tryz.ntmps18 rfl rfl fun w F0 S0 ρ0 => ?_
  dsimp only [argT, argH]
  repeat' first | (apply p3; (first | exact pu1 | exact puN | exact a_len_str rfl (fT rfl) | exact puC | exact a_add rfl rfl (by omega) (by omega) | exact puI); exact rfl) | refine cd ?_ | (apply w3; (first | exact a_st_bx rfl rfl rfl rfl (fN rfl rfl) (Nat.le_of_ble_eq_true rfl) rfl | exact a_st_rowI rfl rfl rfl rfl (fN rfl rfl) bnd | exact a_stE (E := eI) _ rfl rfl rfl rfl (fN rfl rfl) bnd (by exact rfl)); exact rfl; refine dS ?_) | ((first | refine o_gs rfl rfl (fun hc => ?_) (fun hc => ?_) | refine g_cond rfl (fun hc => ?_) (fun hc => ?_)) <;> (try simp only [dcB] at hc) <;> (try first | contradiction | (exfalso; omega)))
  refine g_loop_id ?_
  refine loopK [0, 4] [0] (fun y : Int × List Int => 0 ≤ y.1 ∧ y.1 ≤ xs.length ∧ y.2.length = xs.length ∧ ∀ (j : Nat), (j : Int) < y.1 → y.2[j]? = some (k + j)) (fun y => [(5, .one (int y.1)), (1, .one (int (k + y.1)))]) (fun y => [(0, roI y.2)]) (fun y => (xs.length - y.1).toNat) ((0 : Int), xs) [0] (hI := ?_) (hr := ?_)
  · exact ⟨by simp, by simp, rfl, fun j h' => by simp at h'; omega⟩
  · rintro ⟨i, l⟩ ⟨k1, k2, k3, k4⟩
    dsimp only [List.cons_append, List.nil_append] at *
    skip
    repeat' first | (apply p3; (first | exact pu1 | exact puN | exact a_len_str rfl (fT rfl) | exact puC | exact a_add rfl rfl (by omega) (by omega) | exact puI); exact rfl) | refine cd ?_ | (apply w3; (first | exact a_st_bx rfl rfl rfl rfl (fN rfl rfl) (Nat.le_of_ble_eq_true rfl) rfl | exact a_st_rowI rfl rfl rfl rfl (fN rfl rfl) bnd | exact a_stE (E := eI) _ rfl rfl rfl rfl (fN rfl rfl) bnd (by exact rfl)); exact rfl; refine dS ?_) | ((first | refine o_gs rfl rfl (fun hc => ?_) (fun hc => ?_) | refine g_cond rfl (fun hc => ?_) (fun hc => ?_)) <;> (try simp only [dcB] at hc) <;> (try first | contradiction | (exfalso; omega)))
    · refine q_again (i + 1, l.set i.toNat (k + i)) [0] (by exact stk) ?_ ?_
      · refine ⟨by dsimp only; omega, by dsimp only; omega, by simp [k3], fun j h => ?_⟩
        dsimp only at h ⊢
        rw [List.getElem?_set]
        split
        · rename_i e
          subst e
          rw [if_pos (by omega)]
          congr 1
          omega
        · exact k4 j (by omega)
      · dsimp only; omega
    · have hi : i = xs.length := by omega
      subst hi
      have hl := mark_end (k := k) k3 fun j hj => k4 j (by omega)
      repeat refine cr ?_
      refine ends_id ?_
      refine endK [] (h2 := ?_) (h3 := ?_) (nd := ?_)
      all_goals (repeat' first | exact ce0 | refine ce ?_ | refine ce2 ?_ ?_ | (refine Or.inr (bx_eq rfl rfl ?_); (try dsimp only [C.ren, C.ren.all]); (try exact rfl)) | exact SVLe.refl | refine ceb ?_)
      all_goals first | exact (show nodupB _ = true from rfl) | exact Or.inr rfl | (exact hl)
/-- Are the numbers there? Then the next number, else -1. -/
@[irreducible] def held (k : Int) (xs : List Int) : Int := if xs = marks k xs.length then k + xs.length else -1
theorem held_marks (k : Int) (n : Nat) : held k (marks k n) = k + n := by unfold held; rw [marks_len, if_pos rfl]
theorem heldInt64S_ok (xs : List Int) (k : Int) (h1 : 0 ≤ k) (h2 : k ≤ 4611686018427387904) (hx : (xs.length : Int) ≤ 4611686018427) : Does Tryz.prog 19 [.one (shI xs), .one (int k)] [] (.one (int (held k xs))) [] := by
  refine does_of (k := 0) Tryz.func19 rfl Tryz.ntmps19 rfl rfl fun w F0 S0 ρ0 => ?_
  dsimp only [argT, argH]
  repeat' first | (apply p3; (first | exact pu1 | exact puL | exact puN | exact a_len_str rfl (fT rfl) | exact puC | exact a_ne rfl rfl | exact a_neS rfl rfl rfl | exact a_add rfl rfl (by omega) (by omega) | exact puI); exact rfl) | refine cd ?_ | ((first | refine o_gs rfl rfl (fun hc => ?_) (fun hc => ?_) | refine g_cond rfl (fun hc => ?_) (fun hc => ?_)) <;> (try simp only [dcB] at hc) <;> (try first | contradiction | (exfalso; omega)))
  refine g_loop_id ?_
  refine loopK [0, 4] [] (fun i : Int => 0 ≤ i ∧ i ≤ xs.length ∧ ∀ (j : Nat), (j : Int) < i → xs[j]? = some (k + j)) (fun i => [(5, .one (int i)), (1, .one (int (k + i)))]) (fun _ => []) (fun i => (xs.length - i).toNat) (0 : Int) [] (hI := ?_) (hr := ?_)
  · exact ⟨by simp, by simp, fun j h' => by omega⟩
  · rintro i ⟨k1, k2, k4⟩
    dsimp only [List.cons_append, List.nil_append] at *
    skip
    repeat' first | (apply p3; (first | exact pu1 | exact puL | exact puN | exact a_len_str rfl (fT rfl) | exact puC | exact a_ne rfl rfl | exact a_neS rfl rfl rfl | exact a_add rfl rfl (by omega) (by omega) | exact puI); exact rfl) | refine cd ?_ | ((first | refine o_gs rfl rfl (fun hc => ?_) (fun hc => ?_) | refine g_cond rfl (fun hc => ?_) (fun hc => ?_)) <;> (try simp only [dcB] at hc) <;> (try first | contradiction | (exfalso; omega)))
    · repeat refine cr ?_
      refine ends_id ?_
      refine endK [] (h2 := ?_) (h3 := ?_) (nd := ?_)
      all_goals (repeat' first | exact ce0 | refine ce ?_ | refine ce2 ?_ ?_ | exact SVLe.refl | refine ceb ?_)
      all_goals first | exact (show nodupB _ = true from rfl) | exact Or.inr rfl | ((unfold held; rw [if_neg]; intro e; have e1 := marks_get k xs.length i.toNat (by omega); rw [← e, List.getElem?_eq_getElem (by omega)] at e1; simp only [Option.some.injEq] at e1; omega))
    · refine q_again (i + 1) [] (by exact stk) ?_ ?_
      · refine ⟨by omega, by omega, fun j h => ?_⟩
        by_cases hj : (j : Int) < i
        · exact k4 j hj
        · have : j = i.toNat := by omega
          subst this
          rw [List.getElem?_eq_getElem (by omega), hc]
          congr 1
          omega
      · omega
    · have hi : i = xs.length := by omega
      subst hi
      have hl := mark_end (k := k) (xs := xs) rfl fun j hj => k4 j (by omega)
      repeat refine cr ?_
      refine ends_id ?_
      refine endK [] (h2 := ?_) (h3 := ?_) (nd := ?_)
      all_goals (repeat' first | exact ce0 | refine ce ?_ | refine ce2 ?_ ?_ | exact SVLe.refl | refine ceb ?_)
      all_goals first | exact (show nodupB _ = true from rfl) | exact Or.inr rfl | ((unfold held; rw [if_pos hl]))
end Go.Proofs.YtbekdojhcokalaaGreatDoor
end
section
set_option linter.unusedVariables false
set_option linter.unusedSimpArgs false
set_option maxRecDepth 100000
set_option maxHeartbeats 4000000
namespace Go.Proofs.YtbekdojhcokalaaGreatDoor
open Go Foot
/-- Rules with numbers one behind the other. -/
@[irreducible] def marksR (k : Int) (n : Nat) : List Rule' := (List.range n).map fun (i : Nat) => ⟨k + 3 * (i : Int), k + 3 * (i : Int) + 1, k + 3 * (i : Int) + 2⟩
theorem marksR_len (k : Int) (n : Nat) : (marksR k n).length = n := by unfold marksR; simp
theorem marksR_get (k : Int) (n i : Nat) (h : i < n) : (marksR k n)[i]? = some ⟨k + 3 * i, k + 3 * i + 1, k + 3 * i + 2⟩ := by unfold marksR; simp [h]
theorem markR_end {k : Int} {xs l : List Rule'} (h1 : l.length = xs.length) (h2 : ∀ j (h : j < xs.length), l[j]? = some ⟨k + 3 * j, k + 3 * j + 1, k + 3 * j + 2⟩) : l = marksR k xs.length := by
  apply List.ext_getElem?
  intro j
  by_cases hj : j < xs.length
  · rw [marksR_get k _ j hj, h2 j hj]
  · rw [List.getElem?_eq_none (by omega), List.getElem?_eq_none (by rw [marksR_len]; omega)]
theorem preD2 {p : Prop} (h : p := by first | with_reducible assumption | omega | (simp only [List.length_append, List.length_cons, List.length_nil, List.length_set, List.length_replicate, List.length_take, List.length_drop, List.length_tail, List.length_dropLast, List.length_reverse] at *; omega) | exact mem_len (by assumption) (by omega) | (with_reducible refine Int.le_trans (Int.ofNat_le.2 (trimR_len _)) ?_; simp only [List.length_cons, List.length_tail]; omega) | (exact (ruAt_ok (by assumption) (by assumption) (by assumption)).2.1) | (exact (ruAt_ok (by assumption) (by assumption) (by assumption)).2.1) | (have := vMach_bd (by assumption); omega) | (simp only [mC_ch, mC_tu]; omega) | (have := vTag_bd (by assumption); omega) | (have := (‹Gd _ _›).le; omega) | (exact tgHalts_no (by assumption)) | (exact tgHead (by assumption) (by assumption) (by assumption)) | (exact Int.le_trans (tgStep_gd (by assumption) (by assumption) (by assumption) (by assumption)).le (by decide)) | (exact vTag_r (by assumption)) | (with_reducible refine Int.le_trans (Int.ofNat_le.2 (pushL_len _ _)) ?_; simp only [List.length_dropLast]; omega) | exact ls_at (by assumption) (by omega) | exact (ask_ok (by assumption)).1 | exact (ask_ok (by assumption)).2.1 | exact (ask_ok (by assumption)).2.2.1 | exact (ask_ok (by assumption)).2.2.2 | (simp only [marks_len]; omega) | (simp only [marksR_len]; omega) | trivial) : p := h
theorem markRuleS_ok (m : Mach) (k : Int) (h1 : 0 ≤ k) (h2 : k ≤ 4611686018427387904) (hx : (m.ru.length : Int) ≤ 4611686018427) : Does Tryz.prog 57 [.one (.gv 0), .one (int k)] [.row 3 (rows eR m.ru)] (.one (int (k + 3 * m.ru.length))) [.row 3 (rows eR (marksR k m.ru.length))] := by
  refine does_of (k := 1) Tryz.func57 rfl Tryz.ntmps57 rfl rfl fun w F0 S0 ρ0 => ?_
  dsimp only [argT, argH]
  repeat' first | (apply p3; (first | exact pu1 | exact puN | exact a_len_str rfl (fT rfl) | exact puC | exact a_add rfl rfl (by omega) (by omega) | exact puI); exact rfl) | refine cd ?_ | (apply w3; (first | exact a_st_bx rfl rfl rfl rfl (fN rfl rfl) (Nat.le_of_ble_eq_true rfl) rfl | exact a_st_rowI rfl rfl rfl rfl (fN rfl rfl) bnd | exact a_stE (E := eI) _ rfl rfl rfl rfl (fN rfl rfl) bnd (by exact rfl) | exact a_stF (E := eR) ⟨_, _, _⟩ rfl rfl rfl rfl (fN rfl rfl) (Nat.le_of_ble_eq_true rfl) (Nat.le_of_ble_eq_true rfl) (by first | exact List.getElem?_set_self bnd | exact List.getElem?_eq_getElem bnd) (by (try dsimp only [setRow, List.set_cons_succ, List.set_cons_zero]); first | done | exact rfl) rfl); exact rfl; refine dS ?_) | ((first | refine o_gs rfl rfl (fun hc => ?_) (fun hc => ?_) | refine g_cond rfl (fun hc => ?_) (fun hc => ?_)) <;> (try simp only [dcB] at hc) <;> (try first | contradiction | (exfalso; omega)))
  refine g_loop_id ?_
  refine loopK [0, 4] [0] (fun y : Int × List Rule' => 0 ≤ y.1 ∧ y.1 ≤ m.ru.length ∧ y.2.length = m.ru.length ∧ ∀ (j : Nat), (j : Int) < y.1 → y.2[j]? = some ⟨k + 3 * j, k + 3 * j + 1, k + 3 * j + 2⟩) (fun y => [(5, .one (int y.1)), (1, .one (int (k + 3 * y.1)))]) (fun y => [(0, .row 3 (rows eR y.2))]) (fun y => (m.ru.length - y.1).toNat) ((0 : Int), m.ru) [0] (hI := ?_) (hr := ?_)
  · exact ⟨by simp, by simp, rfl, fun j h' => by simp at h'; omega⟩
  · rintro ⟨i, l⟩ ⟨k1, k2, k3, k4⟩
    dsimp only [List.cons_append, List.nil_append] at *
    skip
    repeat' first | (apply p3; (first | exact pu1 | exact puN | exact a_len_str rfl (fT rfl) | exact puC | exact a_add rfl rfl (by omega) (by omega) | exact puI); exact rfl) | refine cd ?_ | (apply w3; (first | exact a_st_bx rfl rfl rfl rfl (fN rfl rfl) (Nat.le_of_ble_eq_true rfl) rfl | exact a_st_rowI rfl rfl rfl rfl (fN rfl rfl) bnd | exact a_stE (E := eI) _ rfl rfl rfl rfl (fN rfl rfl) bnd (by exact rfl) | exact a_stF (E := eR) ⟨_, _, _⟩ rfl rfl rfl rfl (fN rfl rfl) (Nat.le_of_ble_eq_true rfl) (Nat.le_of_ble_eq_true rfl) (by first | exact List.getElem?_set_self bnd | exact List.getElem?_eq_getElem bnd) (by (try dsimp only [setRow, List.set_cons_succ, List.set_cons_zero]); first | done | exact rfl) rfl); exact rfl; refine dS ?_) | ((first | refine o_gs rfl rfl (fun hc => ?_) (fun hc => ?_) | refine g_cond rfl (fun hc => ?_) (fun hc => ?_)) <;> (try simp only [dcB] at hc) <;> (try first | contradiction | (exfalso; omega)))
    · refine q_again (i + 1, _) [0] (by exact stk) ?_ ?_
      · refine ⟨by dsimp only; omega, by dsimp only; omega, by simp [k3], fun j h => ?_⟩
        dsimp only at h ⊢
        simp only [List.set_set]
        rw [List.getElem?_set]
        split
        · rename_i e
          subst e
          rw [if_pos (by omega), show ((i.toNat : Nat) : Int) = i by omega, show k + 3 * i + 1 + 1 = k + 3 * i + 2 by omega]
        · exact k4 j (by omega)
      · dsimp only; omega
    · have hi : i = m.ru.length := by omega
      subst hi
      have hl := markR_end (k := k) k3 fun j hj => k4 j (by omega)
      rw [← hl]
      repeat refine cr ?_
      refine ends_id ?_
      refine endK [] (h2 := ?_) (h3 := ?_) (nd := ?_)
      all_goals (repeat' first | exact ce0 | refine ce ?_ | refine ce2 ?_ ?_ | (refine Or.inr (bx_eq rfl rfl ?_); (try dsimp only [C.ren, C.ren.all]); (try exact rfl)) | exact SVLe.refl | refine ceb ?_)
      all_goals first | exact (show nodupB _ = true from rfl) | exact Or.inr rfl | (rfl)
theorem markMachR_ok (m : Mach) (k : Int) (h1 : 0 ≤ k) (h2 : k ≤ 4611686018427387904) (hx : (m.ru.length : Int) ≤ 4611686018427) : Does Tryz.prog 39 [.agg (maO m 0), .one (int k)] [.row 3 (rows eR m.ru)] (.one (int (k + 3 * m.ru.length))) [.row 3 (rows eR (marksR k m.ru.length))] := by
  refine does_of (k := 1) Tryz.func39 rfl Tryz.ntmps39 rfl rfl fun w F0 S0 ρ0 => ?_
  dsimp only [argT, argH]
  repeat' first | (apply n3; exact a_new (gb := .bx _) rfl; exact rfl; refine dA ?_) | (apply p3; (first | exact pu1 | exact puL); exact rfl) | refine cd ?_ | (apply c4 0; exact callK1 (θ := [_]) (hD := (markRuleS_ok _ _ preD2 preD2 preD2)); exact rfl; exact rfl; exact rfl; refine dM ?_) | ((first | refine o_gs rfl rfl (fun hc => ?_) (fun hc => ?_) | refine g_cond rfl (fun hc => ?_) (fun hc => ?_)) <;> (try simp only [dcB] at hc) <;> (try first | contradiction | (exfalso; omega)))
  repeat refine cr ?_
  refine ends_id ?_
  refine endK [] (h2 := ?_) (h3 := ?_) (nd := ?_)
  all_goals (repeat' first | exact ce0 | refine ce ?_ | refine ce2 ?_ ?_ | (refine Or.inr (bx_eq rfl rfl ?_); (try dsimp only [C.ren, C.ren.all]); (try exact rfl)) | exact SVLe.refl | refine ceb ?_)
  all_goals first | exact (show nodupB _ = true from rfl) | exact Or.inr rfl | (rfl)
end Go.Proofs.YtbekdojhcokalaaGreatDoor
end
section
set_option linter.unusedVariables false
set_option linter.unusedSimpArgs false
set_option maxRecDepth 100000
set_option maxHeartbeats 4000000
namespace Go.Proofs.YtbekdojhcokalaaGreatDoor
open Go Foot
theorem preD4 {p : Prop} (h : p := by first | with_reducible assumption | omega | (simp only [List.length_append, List.length_cons, List.length_nil, List.length_set, List.length_replicate, List.length_take, List.length_drop, List.length_tail, List.length_dropLast, List.length_reverse] at *; omega) | exact mem_len (by assumption) (by omega) | (with_reducible refine Int.le_trans (Int.ofNat_le.2 (trimR_len _)) ?_; simp only [List.length_cons, List.length_tail]; omega) | (exact (ruAt_ok (by assumption) (by assumption) (by assumption)).2.1) | (exact (ruAt_ok (by assumption) (by assumption) (by assumption)).2.1) | (have := vMach_bd (by assumption); omega) | (simp only [mC_ch, mC_tu]; omega) | (have := vTag_bd (by assumption); omega) | (have := (‹Gd _ _›).le; omega) | (exact tgHalts_no (by assumption)) | (exact tgHead (by assumption) (by assumption) (by assumption)) | (exact Int.le_trans (tgStep_gd (by assumption) (by assumption) (by assumption) (by assumption)).le (by decide)) | (exact vTag_r (by assumption)) | (with_reducible refine Int.le_trans (Int.ofNat_le.2 (pushL_len _ _)) ?_; simp only [List.length_dropLast]; omega) | exact ls_at (by assumption) (by omega) | exact pt_gd (by assumption) | exact lv_at (by assumption) (by omega) | exact pt_gd (lv_at (by assumption) (by omega)) | exact (ask_ok (by assumption)).1 | exact (ask_ok (by assumption)).2.1 | exact (ask_ok (by assumption)).2.2.1 | exact (ask_ok (by assumption)).2.2.2 | (simp only [marks_len]; omega) | (simp only [marksR_len]; omega) | trivial) : p := h
theorem markInt64SS0_ok (k : Int) : Does Tryz.prog 58 [.one (.gv 0), .one (int k)] [roW []] (.one (int k)) [roW []] := by
  refine does_of (k := 1) Tryz.func58 rfl Tryz.ntmps58 rfl rfl fun w F0 S0 ρ0 => ?_
  dsimp only [argT, argH]
  repeat' first | (apply p3; (first | exact pu1 | exact puL | exact puN | exact a_len_str rfl (fT rfl) | exact puC | exact a_add rfl rfl (by omega) (by omega) | exact puI); exact rfl) | refine cd ?_ | (apply c4 0; exact callK1 (θ := [_]) (hD := (markInt64S_ok _ _ preD4 preD4 preD4)); exact rfl; exact rfl; exact rfl; refine dM ?_) | ((first | refine o_gs rfl rfl (fun hc => ?_) (fun hc => ?_) | refine g_cond rfl (fun hc => ?_) (fun hc => ?_)) <;> (try simp only [dcB] at hc) <;> (try first | contradiction | (exfalso; omega)))
  refine g_loop_id ?_
  refine loopK [0, 1, 4] [] (fun i : Int => i = 0) (fun i => [(5, .one (int i))]) (fun _ => []) (fun i => 0) (0 : Int) [0] (hI := ?_) (hr := ?_)
  · rfl
  · rintro i h0
    dsimp only [List.cons_append, List.nil_append] at *
    skip
    repeat' first | (apply p3; (first | exact pu1 | exact puL | exact puN | exact a_len_str rfl (fT rfl) | exact puC | exact a_add rfl rfl (by omega) (by omega) | exact puI); exact rfl) | refine cd ?_ | (apply c4 0; exact callK1 (θ := [_]) (hD := (markInt64S_ok _ _ preD4 preD4 preD4)); exact rfl; exact rfl; exact rfl; refine dM ?_) | ((first | refine o_gs rfl rfl (fun hc => ?_) (fun hc => ?_) | refine g_cond rfl (fun hc => ?_) (fun hc => ?_)) <;> (try simp only [dcB] at hc) <;> (try first | contradiction | (exfalso; omega)))
    · exfalso; rw [List.length_nil] at hc; omega
    · repeat' first | (apply p3; (first | exact pu1 | exact puL | exact puN | exact a_len_str rfl (fT rfl) | exact puC | exact a_add rfl rfl (by omega) (by omega) | exact puI); exact rfl) | refine cd ?_ | (apply c4 0; exact callK1 (θ := [_]) (hD := (markInt64S_ok _ _ preD4 preD4 preD4)); exact rfl; exact rfl; exact rfl; refine dM ?_) | ((first | refine o_gs rfl rfl (fun hc => ?_) (fun hc => ?_) | refine g_cond rfl (fun hc => ?_) (fun hc => ?_)) <;> (try simp only [dcB] at hc) <;> (try first | contradiction | (exfalso; omega)))
      repeat refine cr ?_
      refine ends_id ?_
      refine endK [] (h2 := ?_) (h3 := ?_) (nd := ?_)
      all_goals (repeat' first | exact ce0 | refine ce ?_ | refine ce2 ?_ ?_ | exact SVLe.refl | refine ceb ?_)
      all_goals first | exact (show nodupB _ = true from rfl) | exact Or.inr rfl | (rfl)
theorem heldInt64SS0_ok (k : Int) : Does Tryz.prog 79 [.one (shW []), .one (int k)] [] (.one (int k)) [] := by
  refine does_of (k := 0) Tryz.func79 rfl Tryz.ntmps79 rfl rfl fun w F0 S0 ρ0 => ?_
  dsimp only [argT, argH]
  repeat' first | (apply p3; (first | exact pu1 | exact puL | exact puN | exact a_len_str rfl (fT rfl) | exact puC | exact a_add rfl rfl (by omega) (by omega) | exact puI); exact rfl) | refine cd ?_ | (apply c4 0; exact callK1 (θ := []) (hD := (heldInt64S_ok _ _ preD4 preD4 preD4)); exact rfl; exact rfl; exact rfl; refine dM ?_) | ((first | refine o_gs rfl rfl (fun hc => ?_) (fun hc => ?_) | refine g_cond rfl (fun hc => ?_) (fun hc => ?_)) <;> (try simp only [dcB] at hc) <;> (try first | contradiction | (exfalso; omega)))
  refine g_loop_id ?_
  refine loopK [0, 1, 4] [] (fun i : Int => i = 0) (fun i => [(5, .one (int i))]) (fun _ => []) (fun i => 0) (0 : Int) [] (hI := ?_) (hr := ?_)
  · rfl
  · rintro i h0
    dsimp only [List.cons_append, List.nil_append] at *
    skip
    repeat' first | (apply p3; (first | exact pu1 | exact puL | exact puN | exact a_len_str rfl (fT rfl) | exact puC | exact a_add rfl rfl (by omega) (by omega) | exact puI); exact rfl) | refine cd ?_ | (apply c4 0; exact callK1 (θ := []) (hD := (heldInt64S_ok _ _ preD4 preD4 preD4)); exact rfl; exact rfl; exact rfl; refine dM ?_) | ((first | refine o_gs rfl rfl (fun hc => ?_) (fun hc => ?_) | refine g_cond rfl (fun hc => ?_) (fun hc => ?_)) <;> (try simp only [dcB] at hc) <;> (try first | contradiction | (exfalso; omega)))
    · exfalso; rw [List.length_nil] at hc; omega
    · repeat' first | (apply p3; (first | exact pu1 | exact puL | exact puN | exact a_len_str rfl (fT rfl) | exact puC | exact a_add rfl rfl (by omega) (by omega) | exact puI); exact rfl) | refine cd ?_ | (apply c4 0; exact callK1 (θ := []) (hD := (heldInt64S_ok _ _ preD4 preD4 preD4)); exact rfl; exact rfl; exact rfl; refine dM ?_) | ((first | refine o_gs rfl rfl (fun hc => ?_) (fun hc => ?_) | refine g_cond rfl (fun hc => ?_) (fun hc => ?_)) <;> (try simp only [dcB] at hc) <;> (try first | contradiction | (exfalso; omega)))
      repeat refine cr ?_
      refine ends_id ?_
      refine endK [] (h2 := ?_) (h3 := ?_) (nd := ?_)
      all_goals (repeat' first | exact ce0 | refine ce ?_ | refine ce2 ?_ ?_ | exact SVLe.refl | refine ceb ?_)
      all_goals first | exact (show nodupB _ = true from rfl) | exact Or.inr rfl | (rfl)
theorem markProof0_ok (kd : Int) (nu : List Int) (k : Int) (h1 : 0 ≤ k) (h2 : k ≤ 4611686018427387904) (hx : (nu.length : Int) ≤ 4611686018427) : Does Tryz.prog 40 [.agg [int kd, .gv 0, .gv 1], .one (int k)] [roI nu, roW []] (.one (int (k + nu.length))) [roI (marks k nu.length), roW []] := by
  refine does_of (k := 2) Tryz.func40 rfl Tryz.ntmps40 rfl rfl fun w F0 S0 ρ0 => ?_
  dsimp only [argT, argH]
  repeat' first | (apply n3; exact a_new (gb := .bx _) rfl; exact rfl; refine dA ?_) | (apply p3; (first | exact pu1 | exact puL); exact rfl) | refine cd ?_ | (apply c4 0; exact callK1 (θ := [_]) (hD := (markInt64S_ok _ _ preD4 preD4 preD4)); exact rfl; exact rfl; exact rfl; refine dM ?_) | (apply c4 0; exact callK0 (θ := [_]) (hD := (markInt64SS0_ok _)); exact rfl; exact rfl; exact rfl; refine dM ?_) | (apply c4 0; exact callK1 (θ := [_]) (hD := (markInt64SSn_ok _ _ preD4 preD4 preD4 preD4)); exact rfl; exact rfl; exact rfl; refine dM ?_) | ((first | refine o_gs rfl rfl (fun hc => ?_) (fun hc => ?_) | refine g_cond rfl (fun hc => ?_) (fun hc => ?_)) <;> (try simp only [dcB] at hc) <;> (try first | contradiction | (exfalso; omega)))
  repeat refine cr ?_
  refine ends_id ?_
  refine endK [] (h2 := ?_) (h3 := ?_) (nd := ?_)
  all_goals (repeat' first | exact ce0 | refine ce ?_ | refine ce2 ?_ ?_ | (refine Or.inr (bx_eq rfl rfl ?_); (try dsimp only [C.ren, C.ren.all]); (try exact rfl)) | exact SVLe.refl | refine ceb ?_)
  all_goals first | exact (show nodupB _ = true from rfl) | exact Or.inr rfl | (rfl)
theorem heldProof0_ok (kd : Int) (nu : List Int) (k : Int) (h1 : 0 ≤ k) (h2 : k ≤ 4611686018427387904) (hx : (nu.length : Int) ≤ 4611686018427) : Does Tryz.prog 41 [.agg [int kd, shI nu, shW []], .one (int k)] [] (.one (int (held k nu))) [] := by
  refine does_of (k := 0) Tryz.func41 rfl Tryz.ntmps41 rfl rfl fun w F0 S0 ρ0 => ?_
  dsimp only [argT, argH]
  repeat' first | (apply n3; exact a_new (gb := .bx _) rfl; exact rfl; refine dA ?_) | (apply p3; (first | exact pu1 | exact puL | exact puC); exact rfl) | refine cd ?_ | (apply c4 0; exact callK1 (θ := []) (hD := (heldInt64S_ok _ _ preD4 preD4 preD4)); exact rfl; exact rfl; exact rfl; refine dM ?_) | (apply c4 0; exact callK1 (θ := []) (hD := (heldInt64SS0_ok _)); exact rfl; exact rfl; exact rfl; refine dM ?_) | ((first | refine o_gs rfl rfl (fun hc => ?_) (fun hc => ?_) | refine g_cond rfl (fun hc => ?_) (fun hc => ?_)) <;> (try simp only [dcB] at hc) <;> (try first | contradiction | (exfalso; omega)))
  · have hh : held k nu = -1 := by
      unfold held at hc ⊢
      split
      · rename_i h; rw [if_pos h] at hc; omega
      · rfl
    rw [hh]
    repeat refine cr ?_
    refine ends_id ?_
    refine endK [] (h2 := ?_) (h3 := ?_) (nd := ?_)
    all_goals (repeat' first | exact ce0 | refine ce ?_ | refine ce2 ?_ ?_ | exact SVLe.refl | refine ceb ?_)
    all_goals first | exact (show nodupB _ = true from rfl) | exact Or.inr rfl | (rfl)
  · repeat refine cr ?_
    refine ends_id ?_
    refine endK [] (h2 := ?_) (h3 := ?_) (nd := ?_)
    all_goals (repeat' first | exact ce0 | refine ce ?_ | refine ce2 ?_ ?_ | exact SVLe.refl | refine ceb ?_)
    all_goals first | exact (show nodupB _ = true from rfl) | exact Or.inr rfl | (rfl)
end Go.Proofs.YtbekdojhcokalaaGreatDoor
end
