/- Parts of the proof (17 of 21). -/
import Derived.Test.YtcmdfohamphndaaGreatDoorQ16
section
set_option linter.unusedVariables false
set_option linter.unusedSimpArgs false
set_option maxRecDepth 100000
set_option maxHeartbeats 4000000
namespace Go.Proofs.YtcmdfohamphndaaGreatDoor
open Go Foot
theorem stp_some {B : Int} {m m' : Mach} {k : Int} (h : stp B m k = some m') : ndS m B = 0 ∧ 0 ≤ k ∧ k < (chR m).length := by
  unfold stp at h
  split at h
  · assumption
  · cases h
theorem pth_at {B sy st : Int} {rt m0 : Mach} {p : List Int} (hok : NdOk sy st rt) (hv : pth B rt p = some m0) (k : Nat) (hk : k < p.length) : ∃ m, pth B rt (p.take k) = some m ∧ NdOk sy st m ∧ ndS m B = 0 ∧ 0 ≤ p[k] ∧ p[k] < ((chR m).length : Int) := by
  have e : p = p.take k ++ p.drop k := (List.take_append_drop k p).symm
  rw [e, pth_app] at hv
  cases h1 : pth B rt (p.take k) with
  | none => rw [h1] at hv; cases hv
  | some m =>
    rw [h1, Option.bind_some, List.drop_eq_getElem_cons hk, pth] at hv
    cases h2 : stp B m p[k] with
    | none => rw [h2] at hv; cases hv
    | some m' =>
      have h3 := stp_some h2
      exact ⟨m, rfl, (pth_ok hok h1).1, h3.1, h3.2.1, h3.2.2⟩
theorem pth_len {B sy st : Int} {rt m0 : Mach} {p : List Int} (hok : NdOk sy st rt) (hv : pth B rt p = some m0) (h1 : sy ≤ 6) (h2 : st ≤ 6) (h3 : 0 ≤ st) (h4 : 0 ≤ sy) : p.length ≤ 36 := by
  obtain ⟨h, e⟩ := pth_ok hok hv
  have hl := (vMach_bd h.v).2.2
  rw [h.sy, h.st] at hl
  have h5 : sy * st ≤ 6 * 6 := Int.mul_le_mul (by omega) (by omega) (by omega) (by omega)
  have := rcL_le m0.ru
  omega
/-- The path beside the last elements of one. -/
def asd (B : Int) (rt : Mach) (p : List Int) (least : Nat) : Nat → Option (List Int)
  | 0 => none
  | n + 1 => if n + 1 ≤ least then none else if ((pth B rt (p.take n)).bind fun m => stp B m (p.getD n 0 + 1)).isSome = true then some (p.take n ++ [p.getD n 0 + 1]) else asd B rt p least n
theorem asd_end {B : Int} {rt : Mach} {p : List Int} {least : Nat} {n : Int} (h : n.toNat ≤ least) : asd B rt p least n.toNat = none := by
  cases hn : n.toNat with
  | zero => rfl
  | succ k => rw [asd, if_pos (by omega)]
theorem asd_step {B : Int} {rt m : Mach} {p : List Int} {least : Nat} {n : Int} (h0 : 0 < n) (h1 : least < n.toNat) (hk : (n - 1).toNat < p.length) (hm : pth B rt (p.take (n - 1).toNat) = some m) : asd B rt p least n.toNat = if (stp B m (p[(n - 1).toNat] + 1)).isSome = true then some (p.take (n - 1).toNat ++ [p[(n - 1).toNat] + 1]) else asd B rt p least (n - 1).toNat := by
  have e : n.toNat = (n - 1).toNat + 1 := by omega
  rw [e, asd, if_neg (by omega), hm, Option.bind_some, List.getD_eq_getElem?_getD, List.getElem?_eq_getElem hk]
  rfl
/-- The path that comes next. -/
@[irreducible] def nxt (B : Int) (rt m : Mach) (p : List Int) (least : Nat) : Option (List Int) := if ndS m B = 0 then some (p ++ [0]) else asd B rt p least p.length
theorem preB98 {p : Prop} (h : p := by first | with_reducible assumption | omega | (simp only [List.length_append, List.length_cons, List.length_nil, List.length_set, List.length_replicate, List.length_take, List.length_drop, List.length_tail, List.length_dropLast, List.length_reverse] at *; omega) | exact mem_len (by assumption) (by omega) | (with_reducible refine Int.le_trans (Int.ofNat_le.2 (trimR_len _)) ?_; simp only [List.length_cons, List.length_tail]; omega) | (exact (ruAt_ok (by assumption) (by assumption) (by assumption)).2.1) | (exact (ruAt_ok (by assumption) (by assumption) (by assumption)).2.1) | (have := vMach_bd (by assumption); omega) | (simp only [mC_ch, mC_tu]; omega) | (have := vTag_bd (by assumption); omega) | (have := (‹Gd _ _›).le; omega) | (exact tgHalts_no (by assumption)) | (exact tgHead (by assumption) (by assumption) (by assumption)) | (exact Int.le_trans (tgStep_gd (by assumption) (by assumption) (by assumption) (by assumption)).le (by decide)) | (exact vTag_r (by assumption)) | (with_reducible refine Int.le_trans (Int.ofNat_le.2 (pushL_len _ _)) ?_; simp only [List.length_dropLast]; omega) | exact ls_at (by assumption) (by omega) | exact pt_gd (by assumption) | exact lv_at (by assumption) (by omega) | exact pt_gd (lv_at (by assumption) (by omega)) | exact (ask_ok (by assumption)).1 | exact (ask_ok (by assumption)).2.1 | exact (ask_ok (by assumption)).2.2.1 | exact (ask_ok (by assumption)).2.2.2 | trivial) : p := h
theorem l30Aside_ok (st sy B least : Int) (p : List Int) (m0 : Mach) (hp : (p.length : Int) ≤ 1048576) (h1 : 1 ≤ st) (h2 : st ≤ 6) (h3 : 2 ≤ sy) (h4 : sy ≤ 6) (h5 : 0 ≤ B) (h6 : B ≤ 1000000) (h7 : 0 ≤ least) (h8 : least ≤ 1048576) (hv : pth B (root sy st) p = some m0) : Does Tryz.prog 140 [.one (int st), .one (int sy), .one (shI p), .one (int least), .one (int B)] [] (.tup [(false, [.gv 0]), (false, [boo (asd B (root sy st) p least.toNat p.length).isSome])]) [roI ((asd B (root sy st) p least.toNat p.length).getD [])] := by
  have hr := root_ok h3 h4 h1 (by omega)
  refine does_of (k := 0) Tryz.func140 rfl Tryz.ntmps140 rfl rfl fun w F0 S0 ρ0 => ?_
  dsimp only [argT, argH]
  repeat' first | (apply n3; exact a_nilO eI rfl; exact rfl) | (apply n3; exact a_new (gb := .bx _) rfl; exact rfl; refine dA ?_) | (apply p3; (first | exact pu1 | exact puL | exact puN | exact a_len_str rfl (fT rfl) | exact puC | exact a_sub rfl rfl (by omega) (by omega) | exact a_sl0 rfl rfl (fS rfl) | exact a_slH rfl rfl rfl (fS rfl) (by omega) (by omega) (by exact rfl) | exact a_add rfl rfl (by omega) (by omega) | exact puI); exact rfl) | refine cd ?_ | (apply s3; exact a_slHO rfl rfl rfl (fS rfl) (by omega) (by omega) (by exact rfl) (by decide); exact rfl; exact rfl) | (apply w3; (first | exact a_st_bx rfl rfl rfl rfl (fN rfl rfl) (Nat.le_of_ble_eq_true rfl) rfl | exact a_stE (E := eMa) ⟨_, _, _⟩ rfl rfl rfl rfl (fN rfl rfl) bnd (by exact rfl)); exact rfl; refine dS ?_) | (apply c4 0; exact callK0 (θ := []) (hD := (l30At_ok _ _ _ _ preB98 preB98 preB98 preB98 preB98 preB98 preB98)); exact rfl; exact rfl; exact rfl; refine dM ?_) | (apply c4 0; exact callK0 (θ := [_]) (hD := (l30Down_ok _ _ _ preB98 preB98 preB98)); exact rfl; exact rfl; exact rfl; refine dM ?_) | (apply g_drN (id := 7) okM [[],[],[1],[0,1,2],[0,1,2,3],[],[],[6],[5,6,7],[5,6,7,8],[5,6,7,8,9],[5,6,7,8,9,10],[0,1,2,3,4,5,6,7,8,9,10,11],[0,1,2,3,4,5,6,7,8,9,10,11,12],[0,1,2,3,4,5,6,7,8,9,10,11,12,13]] [([],[]),([],[]),([],[]),([],[]),([0],[]),([],[]),([],[]),([],[]),([],[]),([],[]),([],[]),([1],[]),([2],[_]),([],[]),([],[])] 3; (focus (refine dp 0 0 [48, 49, 52, 53, 54, 55, 56, 57, 58] [(true, 1)] pu1 ?_; refine dp 1 0 [47, 52, 53, 54, 55, 56, 57, 58] [(true, 1)] pu1 ?_; refine dp 2 1 [47, 52, 53, 54, 55, 56, 57, 58] [(true, 1)] (a_sub rfl rfl (by omega) (by omega)) ?_; refine dp 3 7 [52, 53, 54, 55, 56, 57, 58] [(true, 1)] (by first | exact a_sl0 rfl rfl (fS rfl) | exact a_slH rfl rfl rfl (fS rfl) (by omega) (by omega) (by exact rfl) | exact atS 0 (fun _ hj => a_slHO rfl rfl rfl (fS rfl) (by omega) (by omega) (by exact rfl) hj) (by decide)) ?_; refine duN 4 15 [52, 53, 54, 55, 56, 57, 58] [(true, 1)] (callD1 (n := _) 0 (θ := []) (hD := (l00Own_ok _ preB98))) (by exact rfl) (by exact rfl) ?_; refine dp 5 0 [47, 48, 49, 50, 51, 53, 54] [(true, 0)] pu1 ?_; refine dp 6 0 [47, 48, 49, 50, 51, 52] [(true, 0)] pu1 ?_; refine dp 7 1 [47, 48, 49, 50, 51, 52] [(true, 0)] (a_sub rfl rfl (by omega) (by omega)) ?_; refine dp 8 7 [47, 48, 49, 50, 51] [(true, 0)] puI ?_; refine dp 9 15 [47, 48, 49, 50, 51] [(true, 0)] puL ?_; refine dp 10 31 [47, 48, 49, 50, 51] [(true, 0)] (a_add rfl rfl (by omega) (by omega)) ?_; refine duE 11 63 [47, 48, 49, 50, 51] [(true, 0)] (atN 1 (fun _ => a_litE eI [_] rfl rfl rfl rfl rfl rfl rfl rfl)) (by exact rfl) (by exact rfl) ?_; refine duE 12 4095 [] [] (atS 2 (fun _ hj => a_appE (fP rfl) rfl rfl rfl rfl nowR (by first | omega | (simp; omega)) (by decide) hj (by exact rfl)) (by decide)) (by exact rfl) (by exact rfl) ?_; refine dp 13 8191 [] [] pu1 ?_; refine dp 14 16383 [] [] (a_pure (sv := .one _) rfl) ?_; (refine d_nil ?_; refine dN ?_))); any_goals kernel_rfl) | ((first | refine o_gs rfl rfl (fun hc => ?_) (fun hc => ?_) | refine g_cond rfl (fun hc => ?_) (fun hc => ?_)) <;> (try simp only [dcB] at hc) <;> (try first | contradiction | (exfalso; omega)))
  refine g_loop_id ?_
  refine loopK [0, 1, 2, 3, 4, 10, 11] [] (fun n : Int => 0 ≤ n ∧ n ≤ p.length ∧ asd B (root sy st) p least.toNat n.toNat = asd B (root sy st) p least.toNat p.length) (fun n => [(12, .one (int n))]) (fun _ => []) (fun n => n.toNat) (p.length : Int) [0] (hI := ?_) (hr := ?_)
  · exact ⟨by omega, by omega, by simp⟩
  · rintro n ⟨k0, k1, k2⟩
    dsimp only [List.cons_append, List.nil_append] at *
    skip
    repeat' first | (apply n3; exact a_nilO eI rfl; exact rfl) | (apply p3; (first | exact pu1 | exact puC); exact rfl) | refine cdn ?_ | refine g_reg (id := 2) ?_ | refine g_reg (id := 8) ?_ | ((first | refine o_gs rfl rfl (fun hc => ?_) (fun hc => ?_) | refine g_cond rfl (fun hc => ?_) (fun hc => ?_)) <;> (try simp only [dcB] at hc) <;> (try first | contradiction | (exfalso; omega)))
    · obtain ⟨m, q1, q2, q3, q4, q5⟩ := pth_at hr hv (n - 1).toNat (by omega)
      have hm := q2.v
      have hlr := chR_len hm
      have hn := asd_step (least := least.toNat) (show 0 < n by omega) (by omega) (show (n - 1).toNat < p.length by omega) q1
      rw [← k2, hn]
      repeat' first | (apply n3; exact a_nilO eI rfl; exact rfl) | (apply n3; exact a_new (gb := .bx _) rfl; exact rfl; refine dA ?_) | (apply p3; (first | exact pu1 | exact puC | exact a_sub rfl rfl (by omega) (by omega) | exact a_sl0 rfl rfl (fS rfl) | exact a_slH rfl rfl rfl (fS rfl) (by omega) (by omega) (by exact rfl)); exact rfl) | refine cdn ?_ | refine g_reg (id := 2) ?_ | refine g_reg (id := 4) ?_ | refine g_reg (id := 8) ?_ | (apply s3; exact a_slHO rfl rfl rfl (fS rfl) (by omega) (by omega) (by exact rfl) (by decide); exact rfl; exact rfl) | (apply w3; (first | exact a_st_bx rfl rfl rfl rfl (fN rfl rfl) (Nat.le_of_ble_eq_true rfl) rfl | exact a_stE (E := eMa) ⟨_, _, _⟩ rfl rfl rfl rfl (fN rfl rfl) bnd (by exact rfl)); exact rfl; refine dS ?_) | (apply c4 0; exact callK0 (θ := []) (hD := (l30At_ok _ _ _ _ preB98 preB98 preB98 preB98 preB98 preB98 preB98)); exact rfl; exact rfl; exact rfl; refine dM ?_) | ((first | refine o_gs rfl rfl (fun hc => ?_) (fun hc => ?_) | refine g_cond rfl (fun hc => ?_) (fun hc => ?_)) <;> (try simp only [dcB] at hc) <;> (try first | contradiction | (exfalso; omega)))
      simp only [q1, Option.getD_some, Option.isSome_some]
      repeat' first | (apply n3; exact a_nilO eI rfl; exact rfl) | (apply n3; exact a_new (gb := .bx _) rfl; exact rfl; refine dA ?_) | (apply p3; (first | exact pu1 | exact puL | exact puC | exact a_sub rfl rfl (by omega) (by omega) | exact a_sl0 rfl rfl (fS rfl) | exact a_slH rfl rfl rfl (fS rfl) (by omega) (by omega) (by exact rfl) | exact a_add rfl rfl (by omega) (by omega) | exact puI); exact rfl) | refine cdn ?_ | refine g_reg (id := 2) ?_ | refine g_reg (id := 4) ?_ | refine g_reg (id := 5) ?_ | refine g_reg (id := 8) ?_ | (apply s3; exact a_slHO rfl rfl rfl (fS rfl) (by omega) (by omega) (by exact rfl) (by decide); exact rfl; exact rfl) | (apply w3; (first | exact a_st_bx rfl rfl rfl rfl (fN rfl rfl) (Nat.le_of_ble_eq_true rfl) rfl | exact a_stE (E := eMa) ⟨_, _, _⟩ rfl rfl rfl rfl (fN rfl rfl) bnd (by exact rfl)); exact rfl; refine dS ?_) | (apply c4 0; exact callK0 (θ := []) (hD := (l30At_ok _ _ _ _ preB98 preB98 preB98 preB98 preB98 preB98 preB98)); exact rfl; exact rfl; exact rfl; refine dM ?_) | (apply c4 0; exact callK0 (θ := [1]) (hD := (l30Down_ok m _ B hm preB98 preB98)); exact rfl; exact rfl; exact rfl; refine dM ?_) | ((first | refine o_gs rfl rfl (fun hc => ?_) (fun hc => ?_) | refine g_cond rfl (fun hc => ?_) (fun hc => ?_)) <;> (try simp only [dcB] at hc) <;> (try first | contradiction | (exfalso; omega)))
      cases hs : stp B m (p[(n - 1).toNat]'(by omega) + 1) with
      | none =>
        rw [hs] at hn
        simp only [hs, Option.isSome_none, Bool.false_eq_true, if_false, Option.getD_none]
        repeat' first | (apply n3; exact a_nilO eI rfl; exact rfl) | (apply n3; exact a_new (gb := .bx _) rfl; exact rfl; refine dA ?_) | (apply p3; (first | exact pu1 | exact puL | exact puC | exact a_sub rfl rfl (by omega) (by omega) | exact a_sl0 rfl rfl (fS rfl) | exact a_slH rfl rfl rfl (fS rfl) (by omega) (by omega) (by exact rfl) | exact a_add rfl rfl (by omega) (by omega) | exact puI); exact rfl) | refine cd ?_ | (apply s3; exact a_slHO rfl rfl rfl (fS rfl) (by omega) (by omega) (by exact rfl) (by decide); exact rfl; exact rfl) | (apply w3; (first | exact a_st_bx rfl rfl rfl rfl (fN rfl rfl) (Nat.le_of_ble_eq_true rfl) rfl | exact a_stE (E := eMa) ⟨_, _, _⟩ rfl rfl rfl rfl (fN rfl rfl) bnd (by exact rfl)); exact rfl; refine dS ?_) | (apply c4 0; exact callK0 (θ := []) (hD := (l30At_ok _ _ _ _ preB98 preB98 preB98 preB98 preB98 preB98 preB98)); exact rfl; exact rfl; exact rfl; refine dM ?_) | (apply c4 0; exact callK0 (θ := [1]) (hD := (l30Down_ok m _ B hm preB98 preB98)); exact rfl; exact rfl; exact rfl; refine dM ?_) | (apply g_drN (id := 7) okM [[],[],[1],[0,1,2],[0,1,2,3],[],[],[6],[5,6,7],[5,6,7,8],[5,6,7,8,9],[5,6,7,8,9,10],[0,1,2,3,4,5,6,7,8,9,10,11],[0,1,2,3,4,5,6,7,8,9,10,11,12],[0,1,2,3,4,5,6,7,8,9,10,11,12,13]] [([],[]),([],[]),([],[]),([],[]),([0],[]),([],[]),([],[]),([],[]),([],[]),([],[]),([],[]),([1],[]),([2],[3]),([],[]),([],[])] 3; (focus (refine dp 0 0 [48, 49, 52, 53, 54, 55, 56, 57, 58] [(true, 1)] pu1 ?_; refine dp 1 0 [47, 52, 53, 54, 55, 56, 57, 58] [(true, 1)] pu1 ?_; refine dp 2 1 [47, 52, 53, 54, 55, 56, 57, 58] [(true, 1)] (a_sub rfl rfl (by omega) (by omega)) ?_; refine dp 3 7 [52, 53, 54, 55, 56, 57, 58] [(true, 1)] (by first | exact a_sl0 rfl rfl (fS rfl) | exact a_slH rfl rfl rfl (fS rfl) (by omega) (by omega) (by exact rfl) | exact atS 0 (fun _ hj => a_slHO rfl rfl rfl (fS rfl) (by omega) (by omega) (by exact rfl) hj) (by decide)) ?_; refine duN 4 15 [52, 53, 54, 55, 56, 57, 58] [(true, 1)] (callD1 (n := _) 0 (θ := []) (hD := (l00Own_ok _ preB98))) (by exact rfl) (by exact rfl) ?_; refine dp 5 0 [47, 48, 49, 50, 51, 53, 54] [(true, 0)] pu1 ?_; refine dp 6 0 [47, 48, 49, 50, 51, 52] [(true, 0)] pu1 ?_; refine dp 7 1 [47, 48, 49, 50, 51, 52] [(true, 0)] (a_sub rfl rfl (by omega) (by omega)) ?_; refine dp 8 7 [47, 48, 49, 50, 51] [(true, 0)] puI ?_; refine dp 9 15 [47, 48, 49, 50, 51] [(true, 0)] puL ?_; refine dp 10 31 [47, 48, 49, 50, 51] [(true, 0)] (a_add rfl rfl (by omega) (by omega)) ?_; refine duE 11 63 [47, 48, 49, 50, 51] [(true, 0)] (atN 1 (fun _ => a_litE eI [_] rfl rfl rfl rfl rfl rfl rfl rfl)) (by exact rfl) (by exact rfl) ?_; refine duE 12 4095 [] [] (atS 2 (fun _ hj => a_appE (fP rfl) rfl rfl rfl rfl nowR (by first | omega | (simp; omega)) (by decide) hj (by exact rfl)) (by decide)) (by exact rfl) (by exact rfl) ?_; refine dp 13 8191 [] [] pu1 ?_; refine dp 14 16383 [] [] (a_pure (sv := .one _) rfl) ?_; (refine d_nil ?_; refine dN ?_))); any_goals kernel_rfl) | ((first | refine o_gs rfl rfl (fun hc => ?_) (fun hc => ?_) | refine g_cond rfl (fun hc => ?_) (fun hc => ?_)) <;> (try simp only [dcB] at hc) <;> (try first | contradiction | (exfalso; omega)))
        refine q_again (n - 1) [0] (by exact stk) ?_ ?_
        · refine ⟨by omega, by omega, ?_⟩
          first | rfl | (rw [← k2, hn]; rfl)
        · omega
      | some m' =>
        try simp only [Option.isSome_some, if_true, Option.getD_some]
        try simp only [hs, Option.isSome_some, if_true, Option.getD_some]
        repeat' first | (apply n3; exact a_nilO eI rfl; exact rfl) | (apply n3; exact a_new (gb := .bx _) rfl; exact rfl; refine dA ?_) | (apply p3; (first | exact pu1 | exact puL | exact puC | exact a_sub rfl rfl (by omega) (by omega) | exact a_sl0 rfl rfl (fS rfl) | exact a_slH rfl rfl rfl (fS rfl) (by omega) (by omega) (by exact rfl) | exact a_add rfl rfl (by omega) (by omega) | exact puI); exact rfl) | refine cd ?_ | (apply s3; exact a_slHO rfl rfl rfl (fS rfl) (by omega) (by omega) (by exact rfl) (by decide); exact rfl; exact rfl) | (apply w3; (first | exact a_st_bx rfl rfl rfl rfl (fN rfl rfl) (Nat.le_of_ble_eq_true rfl) rfl | exact a_stE (E := eMa) ⟨_, _, _⟩ rfl rfl rfl rfl (fN rfl rfl) bnd (by exact rfl)); exact rfl; refine dS ?_) | (apply c4 0; exact callK0 (θ := []) (hD := (l30At_ok _ _ _ _ preB98 preB98 preB98 preB98 preB98 preB98 preB98)); exact rfl; exact rfl; exact rfl; refine dM ?_) | (apply c4 0; exact callK0 (θ := [1]) (hD := (l30Down_ok m _ B hm preB98 preB98)); exact rfl; exact rfl; exact rfl; refine dM ?_) | (apply g_drN (id := 7) okM [[],[],[1],[0,1,2],[0,1,2,3],[],[],[6],[5,6,7],[5,6,7,8],[5,6,7,8,9],[5,6,7,8,9,10],[0,1,2,3,4,5,6,7,8,9,10,11],[0,1,2,3,4,5,6,7,8,9,10,11,12],[0,1,2,3,4,5,6,7,8,9,10,11,12,13]] [([],[]),([],[]),([],[]),([],[]),([0],[]),([],[]),([],[]),([],[]),([],[]),([],[]),([],[]),([1],[]),([2],[3]),([],[]),([],[])] 3; (focus (refine dp 0 0 [48, 49, 52, 53, 54, 55, 56, 57, 58] [(true, 1)] pu1 ?_; refine dp 1 0 [47, 52, 53, 54, 55, 56, 57, 58] [(true, 1)] pu1 ?_; refine dp 2 1 [47, 52, 53, 54, 55, 56, 57, 58] [(true, 1)] (a_sub rfl rfl (by omega) (by omega)) ?_; refine dp 3 7 [52, 53, 54, 55, 56, 57, 58] [(true, 1)] (by first | exact a_sl0 rfl rfl (fS rfl) | exact a_slH rfl rfl rfl (fS rfl) (by omega) (by omega) (by exact rfl) | exact atS 0 (fun _ hj => a_slHO rfl rfl rfl (fS rfl) (by omega) (by omega) (by exact rfl) hj) (by decide)) ?_; refine duN 4 15 [52, 53, 54, 55, 56, 57, 58] [(true, 1)] (callD1 (n := _) 0 (θ := []) (hD := (l00Own_ok _ preB98))) (by exact rfl) (by exact rfl) ?_; refine dp 5 0 [47, 48, 49, 50, 51, 53, 54] [(true, 0)] pu1 ?_; refine dp 6 0 [47, 48, 49, 50, 51, 52] [(true, 0)] pu1 ?_; refine dp 7 1 [47, 48, 49, 50, 51, 52] [(true, 0)] (a_sub rfl rfl (by omega) (by omega)) ?_; refine dp 8 7 [47, 48, 49, 50, 51] [(true, 0)] puI ?_; refine dp 9 15 [47, 48, 49, 50, 51] [(true, 0)] puL ?_; refine dp 10 31 [47, 48, 49, 50, 51] [(true, 0)] (a_add rfl rfl (by omega) (by omega)) ?_; refine duE 11 63 [47, 48, 49, 50, 51] [(true, 0)] (atN 1 (fun _ => a_litE eI [_] rfl rfl rfl rfl rfl rfl rfl rfl)) (by exact rfl) (by exact rfl) ?_; refine duE 12 4095 [] [] (atS 2 (fun _ hj => a_appE (fP rfl) rfl rfl rfl rfl nowR (by first | omega | (simp; omega)) (by decide) hj (by exact rfl)) (by decide)) (by exact rfl) (by exact rfl) ?_; refine dp 13 8191 [] [] pu1 ?_; refine dp 14 16383 [] [] (a_pure (sv := .one _) rfl) ?_; (refine d_nil ?_; refine dN ?_))); any_goals kernel_rfl) | ((first | refine o_gs rfl rfl (fun hc => ?_) (fun hc => ?_) | refine g_cond rfl (fun hc => ?_) (fun hc => ?_)) <;> (try simp only [dcB] at hc) <;> (try first | contradiction | (exfalso; omega)))
        repeat refine cr ?_
        refine ends_id ?_
        refine endK [?_] (h2 := ?_) (h3 := ?_) (nd := ?_)
        rotate_left 1
        all_goals (repeat' first | exact ce0 | refine ce ?_ | refine ce2 ?_ ?_ | (refine Or.inr (bx_eq rfl rfl ?_); (try dsimp only [C.ren, C.ren.all]); (try exact rfl)) | exact SVLe.refl | refine ceb ?_)
        all_goals first | exact (show nodupB _ = true from rfl) | exact Or.inr rfl | (rfl)
    · have e : asd B (root sy st) p least.toNat p.length = none := by rw [← k2]; exact asd_end (by omega)
      rw [e]
      repeat' first | (apply n3; exact a_nilO eI rfl; exact rfl) | (apply n3; exact a_new (gb := .bx _) rfl; exact rfl; refine dA ?_) | (apply p3; (first | exact pu1 | exact puL | exact puC | exact a_sub rfl rfl (by omega) (by omega) | exact a_sl0 rfl rfl (fS rfl) | exact a_slH rfl rfl rfl (fS rfl) (by omega) (by omega) (by exact rfl) | exact a_add rfl rfl (by omega) (by omega) | exact puI); exact rfl) | refine cd ?_ | (apply s3; exact a_slHO rfl rfl rfl (fS rfl) (by omega) (by omega) (by exact rfl) (by decide); exact rfl; exact rfl) | (apply w3; (first | exact a_st_bx rfl rfl rfl rfl (fN rfl rfl) (Nat.le_of_ble_eq_true rfl) rfl | exact a_stE (E := eMa) ⟨_, _, _⟩ rfl rfl rfl rfl (fN rfl rfl) bnd (by exact rfl)); exact rfl; refine dS ?_) | (apply c4 0; exact callK0 (θ := []) (hD := (l30At_ok _ _ _ _ preB98 preB98 preB98 preB98 preB98 preB98 preB98)); exact rfl; exact rfl; exact rfl; refine dM ?_) | (apply c4 0; exact callK0 (θ := [1]) (hD := (l30Down_ok m _ B hm preB98 preB98)); exact rfl; exact rfl; exact rfl; refine dM ?_) | (apply g_drN (id := 7) okM [[],[],[1],[0,1,2],[0,1,2,3],[],[],[6],[5,6,7],[5,6,7,8],[5,6,7,8,9],[5,6,7,8,9,10],[0,1,2,3,4,5,6,7,8,9,10,11],[0,1,2,3,4,5,6,7,8,9,10,11,12],[0,1,2,3,4,5,6,7,8,9,10,11,12,13]] [([],[]),([],[]),([],[]),([],[]),([0],[]),([],[]),([],[]),([],[]),([],[]),([],[]),([],[]),([1],[]),([2],[3]),([],[]),([],[])] 3; (focus (refine dp 0 0 [48, 49, 52, 53, 54, 55, 56, 57, 58] [(true, 1)] pu1 ?_; refine dp 1 0 [47, 52, 53, 54, 55, 56, 57, 58] [(true, 1)] pu1 ?_; refine dp 2 1 [47, 52, 53, 54, 55, 56, 57, 58] [(true, 1)] (a_sub rfl rfl (by omega) (by omega)) ?_; refine dp 3 7 [52, 53, 54, 55, 56, 57, 58] [(true, 1)] (by first | exact a_sl0 rfl rfl (fS rfl) | exact a_slH rfl rfl rfl (fS rfl) (by omega) (by omega) (by exact rfl) | exact atS 0 (fun _ hj => a_slHO rfl rfl rfl (fS rfl) (by omega) (by omega) (by exact rfl) hj) (by decide)) ?_; refine duN 4 15 [52, 53, 54, 55, 56, 57, 58] [(true, 1)] (callD1 (n := _) 0 (θ := []) (hD := (l00Own_ok _ preB98))) (by exact rfl) (by exact rfl) ?_; refine dp 5 0 [47, 48, 49, 50, 51, 53, 54] [(true, 0)] pu1 ?_; refine dp 6 0 [47, 48, 49, 50, 51, 52] [(true, 0)] pu1 ?_; refine dp 7 1 [47, 48, 49, 50, 51, 52] [(true, 0)] (a_sub rfl rfl (by omega) (by omega)) ?_; refine dp 8 7 [47, 48, 49, 50, 51] [(true, 0)] puI ?_; refine dp 9 15 [47, 48, 49, 50, 51] [(true, 0)] puL ?_; refine dp 10 31 [47, 48, 49, 50, 51] [(true, 0)] (a_add rfl rfl (by omega) (by omega)) ?_; refine duE 11 63 [47, 48, 49, 50, 51] [(true, 0)] (atN 1 (fun _ => a_litE eI [_] rfl rfl rfl rfl rfl rfl rfl rfl)) (by exact rfl) (by exact rfl) ?_; refine duE 12 4095 [] [] (atS 2 (fun _ hj => a_appE (fP rfl) rfl rfl rfl rfl nowR (by first | omega | (simp; omega)) (by decide) hj (by exact rfl)) (by decide)) (by exact rfl) (by exact rfl) ?_; refine dp 13 8191 [] [] pu1 ?_; refine dp 14 16383 [] [] (a_pure (sv := .one _) rfl) ?_; (refine d_nil ?_; refine dN ?_))); any_goals kernel_rfl) | ((first | refine o_gs rfl rfl (fun hc => ?_) (fun hc => ?_) | refine g_cond rfl (fun hc => ?_) (fun hc => ?_)) <;> (try simp only [dcB] at hc) <;> (try first | contradiction | (exfalso; omega)))
      repeat refine cr ?_
      refine ends_id ?_
      refine endK [?_] (h2 := ?_) (h3 := ?_) (nd := ?_)
      rotate_left 1
      all_goals (repeat' first | exact ce0 | refine ce ?_ | refine ce2 ?_ ?_ | (refine Or.inr (bx_eq rfl rfl ?_); (try dsimp only [C.ren, C.ren.all]); (try exact rfl)) | exact SVLe.refl | refine ceb ?_)
      all_goals first | exact (show nodupB _ = true from rfl) | exact Or.inr rfl | (rfl)
theorem l30Next_ok (st sy B least : Int) (p : List Int) (m0 : Mach) (hp : (p.length : Int) ≤ 1048576) (h1 : 1 ≤ st) (h2 : st ≤ 6) (h3 : 2 ≤ sy) (h4 : sy ≤ 6) (h5 : 0 ≤ B) (h6 : B ≤ 1000000) (h7 : 0 ≤ least) (h8 : least ≤ 1048576) (hv : pth B (root sy st) p = some m0) : Does Tryz.prog 75 [.one (int st), .one (int sy), .one (shI p), .one (int least), .one (int B)] [] (.tup [(false, [.gv 0]), (false, [boo (nxt B (root sy st) m0 p least.toNat).isSome])]) [roI ((nxt B (root sy st) m0 p least.toNat).getD [])] := by
  have hr := root_ok h3 h4 h1 (by omega)
  have hm := (pth_ok hr hv).1.v
  have hN : nxt B (root sy st) m0 p least.toNat = if ndS m0 B = 0 then some (p ++ [0]) else asd B (root sy st) p least.toNat p.length := by unfold nxt; rfl
  rw [hN]
  refine does_of (k := 0) Tryz.func75 rfl Tryz.ntmps75 rfl rfl fun w F0 S0 ρ0 => ?_
  dsimp only [argT, argH]
  repeat' first | (apply n3; exact a_nilO eI rfl; exact rfl) | (apply n3; exact a_new (gb := .bx _) rfl; exact rfl; refine dA ?_) | (apply p3; exact pu1; exact rfl) | refine cdn ?_ | refine g_reg (id := 0) ?_ | refine g_reg (id := 1) ?_ | (apply w3; (first | exact a_st_bx rfl rfl rfl rfl (fN rfl rfl) (Nat.le_of_ble_eq_true rfl) rfl | exact a_stE (E := eMa) ⟨_, _, _⟩ rfl rfl rfl rfl (fN rfl rfl) bnd (by exact rfl)); exact rfl; refine dS ?_) | (apply c4 0; exact callK0 (θ := []) (hD := (l30At_ok _ _ _ _ preB98 preB98 preB98 preB98 preB98 preB98 preB98)); exact rfl; exact rfl; exact rfl; refine dM ?_) | ((first | refine o_gs rfl rfl (fun hc => ?_) (fun hc => ?_) | refine g_cond rfl (fun hc => ?_) (fun hc => ?_)) <;> (try simp only [dcB] at hc) <;> (try first | contradiction | (exfalso; omega)))
  simp only [hv, Option.getD_some, Option.isSome_some]
  by_cases hs : ndS m0 B = 0
  · rw [if_pos hs]
    repeat' first | (apply n3; exact a_nilO eI rfl; exact rfl) | (apply n3; (first | exact a_new (gb := .bx _) rfl | exact a_litE eI [_] rfl rfl rfl rfl rfl rfl rfl rfl | exact a_appN (fP rfl) rfl rfl rfl nowR (by first | omega | (simp; omega)) (by decide) (by exact rfl)); exact rfl; refine dA ?_) | (apply p3; (first | exact pu1 | exact puC | exact a_eqS rfl rfl rfl); exact rfl) | refine cd ?_ | (apply s3; exact a_appE (fP rfl) rfl rfl rfl rfl nowR (by first | omega | (simp; omega)) (by decide) (by decide) (by exact rfl); exact rfl; exact rfl) | (apply w3; (first | exact a_st_bx rfl rfl rfl rfl (fN rfl rfl) (Nat.le_of_ble_eq_true rfl) rfl | exact a_stE (E := eMa) ⟨_, _, _⟩ rfl rfl rfl rfl (fN rfl rfl) bnd (by exact rfl)); exact rfl; refine dS ?_) | (apply c4 0; exact callK0 (θ := []) (hD := (l30At_ok _ _ _ _ preB98 preB98 preB98 preB98 preB98 preB98 preB98)); exact rfl; exact rfl; exact rfl; refine dM ?_) | (apply c4 0; exact callK1 (θ := []) (hD := (l30Status_ok _ _ preB98 preB98 preB98)); exact rfl; exact rfl; exact rfl; refine dM ?_) | (apply c4 1; exact callK1 (θ := []) (hD := (l00Own_ok _ preB98)); exact rfl; exact rfl; exact rfl; refine dM ?_) | (apply c4 1; exact callK1 (θ := []) (hD := (l30Aside_ok _ _ _ _ _ _ preB98 preB98 preB98 preB98 preB98 preB98 preB98 preB98 preB98 preB98)); exact rfl; exact rfl; exact rfl; refine dM ?_) | ((first | refine o_gs rfl rfl (fun hc => ?_) (fun hc => ?_) | refine g_cond rfl (fun hc => ?_) (fun hc => ?_)) <;> (try simp only [dcB] at hc) <;> (try first | contradiction | (exfalso; omega)))
    repeat refine cr ?_
    refine ends_id ?_
    refine endK [?_] (h2 := ?_) (h3 := ?_) (nd := ?_)
    rotate_left 1
    all_goals (repeat' first | exact ce0 | refine ce ?_ | refine ce2 ?_ ?_ | (refine Or.inr (bx_eq rfl rfl ?_); (try dsimp only [C.ren, C.ren.all]); (try exact rfl)) | exact SVLe.refl | refine ceb ?_)
    all_goals first | exact (show nodupB _ = true from rfl) | exact Or.inr rfl | (rfl)
  · rw [if_neg hs]
    repeat' first | (apply n3; exact a_nilO eI rfl; exact rfl) | (apply n3; (first | exact a_new (gb := .bx _) rfl | exact a_litE eI [_] rfl rfl rfl rfl rfl rfl rfl rfl | exact a_appN (fP rfl) rfl rfl rfl nowR (by first | omega | (simp; omega)) (by decide) (by exact rfl)); exact rfl; refine dA ?_) | (apply p3; (first | exact pu1 | exact puC | exact a_eqS rfl rfl rfl); exact rfl) | refine cd ?_ | (apply s3; exact a_appE (fP rfl) rfl rfl rfl rfl nowR (by first | omega | (simp; omega)) (by decide) (by decide) (by exact rfl); exact rfl; exact rfl) | (apply w3; (first | exact a_st_bx rfl rfl rfl rfl (fN rfl rfl) (Nat.le_of_ble_eq_true rfl) rfl | exact a_stE (E := eMa) ⟨_, _, _⟩ rfl rfl rfl rfl (fN rfl rfl) bnd (by exact rfl)); exact rfl; refine dS ?_) | (apply c4 0; exact callK0 (θ := []) (hD := (l30At_ok _ _ _ _ preB98 preB98 preB98 preB98 preB98 preB98 preB98)); exact rfl; exact rfl; exact rfl; refine dM ?_) | (apply c4 0; exact callK1 (θ := []) (hD := (l30Status_ok _ _ preB98 preB98 preB98)); exact rfl; exact rfl; exact rfl; refine dM ?_) | (apply c4 1; exact callK1 (θ := []) (hD := (l00Own_ok _ preB98)); exact rfl; exact rfl; exact rfl; refine dM ?_) | (apply c4 1; exact callK1 (θ := []) (hD := (l30Aside_ok _ _ _ _ _ _ preB98 preB98 preB98 preB98 preB98 preB98 preB98 preB98 preB98 preB98)); exact rfl; exact rfl; exact rfl; refine dM ?_) | ((first | refine o_gs rfl rfl (fun hc => ?_) (fun hc => ?_) | refine g_cond rfl (fun hc => ?_) (fun hc => ?_)) <;> (try simp only [dcB] at hc) <;> (try first | contradiction | (exfalso; omega)))
    repeat refine cr ?_
    refine ends_id ?_
    refine endK [?_] (h2 := ?_) (h3 := ?_) (nd := ?_)
    rotate_left 1
    all_goals (repeat' first | exact ce0 | refine ce ?_ | refine ce2 ?_ ?_ | (refine Or.inr (bx_eq rfl rfl ?_); (try dsimp only [C.ren, C.ren.all]); (try exact rfl)) | exact SVLe.refl | refine ceb ?_)
    all_goals first | exact (show nodupB _ = true from rfl) | exact Or.inr rfl | (rfl)
end Go.Proofs.YtcmdfohamphndaaGreatDoor
end
section
set_option linter.unusedVariables false
set_option linter.unusedSimpArgs false
set_option maxRecDepth 100000
set_option maxHeartbeats 4000000
namespace Go.Proofs.YtcmdfohamphndaaGreatDoor
open Go Foot
theorem stp_nat {B : Int} {x : Mach} {k : Nat} (hs : ndS x B = 0) (h : k < (chR x).length) : stp B x ((k : Nat) : Int) = some (chM x (ndA x B) ((chR x).getD k noR)) := by
  unfold stp
  rw [if_pos ⟨hs, by omega, by omega⟩]
  simp
theorem pth_child {B : Int} {rt x : Mach} {q : List Int} {k : Nat} (hq : pth B rt q = some x) (hs : ndS x B = 0) (h : k < (chR x).length) : pth B rt (q ++ [((k : Nat) : Int)]) = some (chM x (ndA x B) ((chR x).getD k noR)) := by
  rw [pth_app, hq, Option.bind_some, pth, stp_nat hs h]
  rfl
end Go.Proofs.YtcmdfohamphndaaGreatDoor
end
section
set_option linter.unusedVariables false
set_option linter.unusedSimpArgs false
set_option maxRecDepth 100000
set_option maxHeartbeats 4000000
namespace Go.Proofs.YtcmdfohamphndaaGreatDoor
open Go Foot
end Go.Proofs.YtcmdfohamphndaaGreatDoor
end
