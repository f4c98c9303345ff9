/- Parts of the proof (19 of 21). -/
import Derived.Conc.MuData
import Derived.Test.YtcmdfohamphndaaGreatDoorQ18
section
set_option linter.unusedVariables false
namespace Go.Proofs.YtcmdfohamphndaaGreatDoor
open Go
abbrev muLink : Go.Conc.Locks.MuLink := { lock := 148, unlock := 149, ilock := 195, iunlock := 196, lockSlow := 233, unlockSlow := 236, disable := 229, enable := 231, acquire := 232, relMerge := 234, cas32 := 230, add32 := 235, tMutex := 166, tIMutex := 164, tPMutex := 227, tPIMutex := 267, tPI32 := 269, tUP := 271, tNoCopy := 161, tU32 := 162 }
theorem muLib : Go.Conc.Locks.MuLib Tryz.prog muLink :=
  ⟨Tryz.func148, Tryz.func149, Tryz.func195, Tryz.func196, Tryz.func229, Tryz.func231, Tryz.func232, Tryz.func234, Tryz.func230, Tryz.func235, Tryz.underlying164, Tryz.runUnderlying164, Tryz.sizeOf164, Tryz.isAgg164, Tryz.zeroValue164, Tryz.underlying166, Tryz.runUnderlying166, Tryz.sizeOf166, Tryz.isAgg166, Tryz.zeroValue166, Tryz.underlying227, Tryz.runUnderlying227, Tryz.sizeOf227, Tryz.isAgg227, Tryz.zeroValue227, Tryz.underlying267, Tryz.runUnderlying267, Tryz.sizeOf267, Tryz.isAgg267, Tryz.zeroValue267, Tryz.underlying269, Tryz.runUnderlying269, Tryz.sizeOf269, Tryz.isAgg269, Tryz.zeroValue269, Tryz.underlying271, Tryz.runUnderlying271, Tryz.sizeOf271, Tryz.isAgg271, Tryz.zeroValue271, Tryz.underlying161, Tryz.runUnderlying161, Tryz.sizeOf161, Tryz.isAgg161, Tryz.zeroValue161, Tryz.underlying21, Tryz.runUnderlying21, Tryz.sizeOf21, Tryz.isAgg21, Tryz.zeroValue21, (by kernel_rfl)⟩
theorem Unlock_is : muLink.unlock = 149 := rfl
theorem Unlock_ent : entB Tryz.prog 149 = true := by kernel_rfl
end Go.Proofs.YtcmdfohamphndaaGreatDoor
end
section
set_option linter.unusedVariables false
set_option linter.unusedSimpArgs false
set_option maxRecDepth 100000
set_option maxHeartbeats 4000000
namespace Go.Proofs.YtcmdfohamphndaaGreatDoor
open Go Foot
/-- A node. -/
abbrev ndC (m : Mach) (B : Int) : List C := [int m.sy, int m.st, shR m.ru, int (ndS m B), int (ndA m B)]
abbrev ndD (m : Mach) (B : Int) : List D := [.sc (.int .i64 m.sy), .sc (.int .i64 m.st), .sl false 3 (rows eR m.ru), .sc (.int .i64 (ndS m B)), .sc (.int .i64 (ndA m B))]
def kn (B sy st : Int) (k : Bs) (ds : List D) : Prop := ∃ m, NdOk sy st m ∧ k = macT m ∧ ds = ndD m B
theorem kn_good {B sy st : Int} {m : Mach} (h : NdOk sy st m) : kn B sy st (macT m) (ndD m B) := ⟨m, h, rfl, rfl⟩
theorem kn_same {B sy st : Int} {m : Mach} {ds : List D} (h : NdOk sy st m) (hk : kn B sy st (macT m) ds) : ds = ndD m B := by
  obtain ⟨m', h1, h2, h3⟩ := hk
  rw [h3, macT_inj h1 h h2.symm]
/-- The forest's cells, its map. -/
abbrev foC (st sy B z : Int) : List C := [int st, int sy, int B, i32 z, .d (.sc (.int .u32 0)), .gv 1]
abbrev foM (B sy st : Int) (i : Nat) : GB := .opq (knP (kn B sy st)) [i]
theorem preB94 {p : Prop} (h : p := by first | with_reducible assumption | omega | (simp only [List.length_append, List.length_cons, List.length_nil, List.length_set, List.length_replicate, List.length_take, List.length_drop, List.length_tail, List.length_dropLast, List.length_reverse] at *; omega) | exact mem_len (by assumption) (by omega) | (with_reducible refine Int.le_trans (Int.ofNat_le.2 (trimR_len _)) ?_; simp only [List.length_cons, List.length_tail]; omega) | (exact (ruAt_ok (by assumption) (by assumption) (by assumption)).2.1) | (exact (ruAt_ok (by assumption) (by assumption) (by assumption)).2.1) | (have := vMach_bd (by assumption); omega) | (simp only [mC_ch, mC_tu]; omega) | (have := vTag_bd (by assumption); omega) | (have := (‹Gd _ _›).le; omega) | (exact tgHalts_no (by assumption)) | (exact tgHead (by assumption) (by assumption) (by assumption)) | (exact Int.le_trans (tgStep_gd (by assumption) (by assumption) (by assumption) (by assumption)).le (by decide)) | (exact vTag_r (by assumption)) | (with_reducible refine Int.le_trans (Int.ofNat_le.2 (pushL_len _ _)) ?_; simp only [List.length_dropLast]; omega) | exact ls_at (by assumption) (by omega) | exact pt_gd (by assumption) | exact lv_at (by assumption) (by omega) | exact pt_gd (lv_at (by assumption) (by omega)) | exact (ask_ok (by assumption)).1 | exact (ask_ok (by assumption)).2.1 | exact (ask_ok (by assumption)).2.2.1 | exact (ask_ok (by assumption)).2.2.2 | trivial) : p := h
theorem mlock_ok (st sy B : Int) : Does Tryz.prog 148 [.one (.gp 0 3)] [.bx (foC st sy B 0), foM B sy st 1] (.tup []) [.bx (foC st sy B 1), foM B sy st 1] := does_lock muLib rfl rfl
theorem look_ok (st sy B : Int) (m : Mach) (hm : NdOk sy st m) (h0 : 0 ≤ B) (h1 : B ≤ 1000000) : Does Tryz.prog 88 [.one (.gv 0), .agg (maC m)] [.bx (foC st sy B 0), foM B sy st 1] (.agg (ndC m B)) [.bx (foC st sy B 0), foM B sy st 1] := by
  have hv := hm.v
  refine does_ofU muLib Unlock_is Unlock_ent (o := 3) (k := 2) Tryz.func88 rfl Tryz.ntmps88 rfl rfl fun w F0 S0 ρ0 b off hρ => ?_
  dsimp only [argT, argH]
  refine gx_seq2 ?_
  repeat' first | (apply n3; exact a_new (gb := .bx _) rfl; exact rfl; refine dA ?_) | refine cdn ?_ | refine g_reg (id := 0) ?_ | ((first | refine o_gs rfl rfl (fun hc => ?_) (fun hc => ?_) | refine g_cond rfl (fun hc => ?_) (fun hc => ?_)) <;> (try simp only [dcB] at hc) <;> (try first | contradiction | (exfalso; omega)))
  refine qSeqX.go ?_
  refine gx_seq2 ?_
  repeat' first | (apply n3; exact a_new (gb := .bx _) rfl; exact rfl; refine dA ?_) | (apply p3; exact pu1; exact rfl) | refine cdn ?_ | refine g_reg (id := 0) ?_ | refine g_reg (id := 1) ?_ | (apply c4 0; exact callK0 (θ := [0, 1]) (hD := (mlock_ok st sy B)); exact rfl; exact rfl; exact rfl; refine dM ?_) | ((first | refine o_gs rfl rfl (fun hc => ?_) (fun hc => ?_) | refine g_cond rfl (fun hc => ?_) (fun hc => ?_)) <;> (try simp only [dcB] at hc) <;> (try first | contradiction | (exfalso; omega)))
  refine qSeqX.go ?_
  refine gx_seq rfl ?_
  refine gx_region ?_
  refine xp3 (sv := .one (.gv 0)) (a_pure (sv := .one _) rfl) rfl ?_
  refine xp3 (sv := .one (.gv 0)) (a_pure (sv := .one _) rfl) rfl ?_
  refine xp3 (sv := .one (.gp 0 3)) (a_pure (sv := .one _) rfl) rfl ?_
  refine ox_put rfl (Nat.le_of_ble_eq_true rfl) hρ rfl rfl rfl ?_
  dsimp only [Gh.put]
  refine cd ?_
  refine cd ?_
  repeat' first | (apply n3; exact a_new (gb := .bx _) rfl; exact rfl; refine dA ?_) | (apply p3; (first | exact pu1 | exact puL); exact rfl) | refine cdn ?_ | refine g_reg (id := 0) ?_ | refine g_reg (id := 1) ?_ | refine g_reg (id := 2) ?_ | refine g_reg (id := 3) ?_ | refine g_reg (id := 4) ?_ | (apply w3; (first | exact a_st_bx rfl rfl rfl rfl (fN rfl rfl) (Nat.le_of_ble_eq_true rfl) rfl | exact a_stE (E := (eNd B)) _ rfl rfl rfl rfl (fN rfl rfl) bnd (by exact rfl)); exact rfl; refine dS ?_) | (apply c4 0; exact callK0 (θ := [0, 1]) (hD := (mlock_ok st sy B)); exact rfl; exact rfl; exact rfl; refine dM ?_) | (apply c4 0; exact callK1 (θ := []) (hD := (MachineText_ok _ preB94)); exact rfl; exact rfl; exact rfl; refine dM ?_) | ((first | refine o_gs rfl rfl (fun hc => ?_) (fun hc => ?_) | refine g_cond rfl (fun hc => ?_) (fun hc => ?_)) <;> (try simp only [dcB] at hc) <;> (try first | contradiction | (exfalso; omega)))
  refine o_lookK (Good := kn B sy st) (zs := #[.int .i64 0, .int .i64 0, .slice none 0 0, .int .i64 0, .int .i64 0]) rfl rfl rfl Tryz.underlying159 (by kernel_rfl) (by kernel_rfl) (by kernel_rfl) rfl (fun ds hds => ?_) ?_
  · obtain rfl := kn_same hm hds
    dsimp only [St.eff, List.map_cons, List.map_nil, List.nil_append]
    repeat' first | (apply n3; exact a_new (gb := .bx _) rfl; exact rfl; refine dA ?_) | (apply p3; (first | exact pu1 | exact puL); exact rfl) | refine cd ?_ | (apply w3; (first | exact a_st_bx rfl rfl rfl rfl (fN rfl rfl) (Nat.le_of_ble_eq_true rfl) rfl | exact a_stE (E := (eNd B)) _ rfl rfl rfl rfl (fN rfl rfl) bnd (by exact rfl)); exact rfl; refine dS ?_) | (apply c4 0; exact callK0 (θ := [0, 1]) (hD := (mlock_ok st sy B)); exact rfl; exact rfl; exact rfl; refine dM ?_) | (apply c4 0; exact callK1 (θ := []) (hD := (MachineText_ok _ preB94)); exact rfl; exact rfl; exact rfl; refine dM ?_) | (apply g_drN (id := 6) okM [[],[],[1],[1,2],[1,2,3],[0,1,2,3,4],[0,1,2,3,4,5],[0,1,2,3,4,5,6],[0,1,2,3,4,5,6],[0,1,2,3,4,5,6],[0,1,2,3,4,5,6,7],[0,1,2,3,4,5,6,7,8,10],[0,1,2,3,4,5,6,7,8,9,10,11]] [([],[]),([],[]),([],[]),([],[]),([],[]),([],[]),([],[]),([],[]),([],[]),([],[]),([],[]),([],[]),([],[])] 0; (focus (refine dp 0 0 [33, 34, 35, 36] [] puL ?_; refine dp 1 0 [32] [] pu1 ?_; refine dp 2 1 [32] [] (a_pure (sv := .one _) rfl) ?_; refine dp 3 3 [32] [] (a_pure (sv := .one _) rfl) ?_; refine dp 4 7 [32] [] puL ?_; refine dp 5 31 [] [] (callD1 (n := _) 0 (θ := []) (hD := (nodeStatus_ok _ _ preB94 preB94 preB94))) ?_; refine dp 6 63 [] [] pu1 ?_; refine dp 7 127 [39, 40] [] pu2 ?_; refine dp 8 254 [38, 40, 8] [] pu2 ?_; refine dp 9 508 [38, 39, 8, 9] [] pu2 ?_; refine dp 10 1020 [39, 40] [] pu1 ?_; refine dp 11 2045 [40] [] pu1 ?_; refine dp 12 4095 [] [] pu1 ?_; (refine d_nil ?_; refine dN ?_))); any_goals kernel_rfl) | (apply g_drN (id := 8) okM [[],[0],[0,1],[0,1,2],[],[],[0,1,2,3,4,5]] [([],[]),([],[]),([],[]),([],[]),([],[]),([],[]),([],[1])] 0; (focus (refine dp 0 0 [49, 50] [] pu1 ?_; refine dp 1 1 [49, 50] [] (a_pure (sv := .one _) rfl) ?_; refine dp 2 3 [49, 50] [] (a_pure (sv := .one _) rfl) ?_; refine dp 3 7 [49, 50] [] puL ?_; refine dp 4 0 [45, 46, 47, 48, 50] [] pu1 ?_; refine dp 5 0 [45, 46, 47, 48, 49] [] puL ?_; refine duE 6 63 [] [] (a_updK (Good := kn B sy st) (k := macT m) (ds := ndD m B) rfl rfl rfl rfl rfl (kn_good (by assumption)) Tryz.underlying159 (by kernel_rfl)) (by exact rfl) (by exact rfl) ?_; (refine d_nil ?_; refine dN ?_))); any_goals kernel_rfl) | ((first | refine o_gs rfl rfl (fun hc => ?_) (fun hc => ?_) | refine g_cond rfl (fun hc => ?_) (fun hc => ?_)) <;> (try simp only [dcB] at hc) <;> (try first | contradiction | (exfalso; omega)))
    repeat refine cr ?_
    refine endsU rfl rfl ?_
    repeat refine cr ?_
    refine ends_id ?_
    refine endK [] (h2 := ?_) (h3 := ?_) (nd := ?_)
    all_goals (repeat' first | exact ce0 | refine ce ?_ | refine ce2 ?_ ?_ | (refine Or.inr (bx_eq rfl rfl ?_); (try dsimp only [C.ren, C.ren.all]); (try exact rfl)) | exact SVLe.refl | refine ceb ?_)
    all_goals first | exact (show nodupB _ = true from rfl) | exact Or.inr rfl | (rfl)
  · dsimp only [St.eff, List.map_cons, List.map_nil, List.nil_append]
    repeat' first | (apply n3; exact a_new (gb := .bx _) rfl; exact rfl; refine dA ?_) | (apply p3; (first | exact pu1 | exact puL); exact rfl) | refine cd ?_ | (apply w3; (first | exact a_st_bx rfl rfl rfl rfl (fN rfl rfl) (Nat.le_of_ble_eq_true rfl) rfl | exact a_stE (E := (eNd B)) _ rfl rfl rfl rfl (fN rfl rfl) bnd (by exact rfl)); exact rfl; refine dS ?_) | (apply c4 0; exact callK0 (θ := [0, 1]) (hD := (mlock_ok st sy B)); exact rfl; exact rfl; exact rfl; refine dM ?_) | (apply c4 0; exact callK1 (θ := []) (hD := (MachineText_ok _ preB94)); exact rfl; exact rfl; exact rfl; refine dM ?_) | (apply g_drN (id := 6) okM [[],[],[1],[1,2],[1,2,3],[0,1,2,3,4],[0,1,2,3,4,5],[0,1,2,3,4,5,6],[0,1,2,3,4,5,6],[0,1,2,3,4,5,6],[0,1,2,3,4,5,6,7],[0,1,2,3,4,5,6,7,8,10],[0,1,2,3,4,5,6,7,8,9,10,11]] [([],[]),([],[]),([],[]),([],[]),([],[]),([],[]),([],[]),([],[]),([],[]),([],[]),([],[]),([],[]),([],[])] 0; (focus (refine dp 0 0 [33, 34, 35, 36] [] puL ?_; refine dp 1 0 [32] [] pu1 ?_; refine dp 2 1 [32] [] (a_pure (sv := .one _) rfl) ?_; refine dp 3 3 [32] [] (a_pure (sv := .one _) rfl) ?_; refine dp 4 7 [32] [] puL ?_; refine dp 5 31 [] [] (callD1 (n := _) 0 (θ := []) (hD := (nodeStatus_ok _ _ preB94 preB94 preB94))) ?_; refine dp 6 63 [] [] pu1 ?_; refine dp 7 127 [39, 40] [] pu2 ?_; refine dp 8 254 [38, 40, 8] [] pu2 ?_; refine dp 9 508 [38, 39, 8, 9] [] pu2 ?_; refine dp 10 1020 [39, 40] [] pu1 ?_; refine dp 11 2045 [40] [] pu1 ?_; refine dp 12 4095 [] [] pu1 ?_; (refine d_nil ?_; refine dN ?_))); any_goals kernel_rfl) | (apply g_drN (id := 8) okM [[],[0],[0,1],[0,1,2],[],[],[0,1,2,3,4,5]] [([],[]),([],[]),([],[]),([],[]),([],[]),([],[]),([],[1])] 0; (focus (refine dp 0 0 [49, 50] [] pu1 ?_; refine dp 1 1 [49, 50] [] (a_pure (sv := .one _) rfl) ?_; refine dp 2 3 [49, 50] [] (a_pure (sv := .one _) rfl) ?_; refine dp 3 7 [49, 50] [] puL ?_; refine dp 4 0 [45, 46, 47, 48, 50] [] pu1 ?_; refine dp 5 0 [45, 46, 47, 48, 49] [] puL ?_; refine duE 6 63 [] [] (a_updK (Good := kn B sy st) (k := macT m) (ds := ndD m B) rfl rfl rfl rfl rfl (kn_good (by assumption)) Tryz.underlying159 (by kernel_rfl)) (by exact rfl) (by exact rfl) ?_; (refine d_nil ?_; refine dN ?_))); any_goals kernel_rfl) | ((first | refine o_gs rfl rfl (fun hc => ?_) (fun hc => ?_) | refine g_cond rfl (fun hc => ?_) (fun hc => ?_)) <;> (try simp only [dcB] at hc) <;> (try first | contradiction | (exfalso; omega)))
    repeat refine cr ?_
    refine endsU rfl rfl ?_
    repeat refine cr ?_
    refine ends_id ?_
    refine endK [] (h2 := ?_) (h3 := ?_) (nd := ?_)
    all_goals (repeat' first | exact ce0 | refine ce ?_ | refine ce2 ?_ ?_ | (refine Or.inr (bx_eq rfl rfl ?_); (try dsimp only [C.ren, C.ren.all]); (try exact rfl)) | exact SVLe.refl | refine ceb ?_)
    all_goals first | exact (show nodupB _ = true from rfl) | exact Or.inr rfl | (rfl)
end Go.Proofs.YtcmdfohamphndaaGreatDoor
end
section
set_option linter.unusedVariables false
set_option linter.unusedSimpArgs false
set_option maxRecDepth 100000
set_option maxHeartbeats 4000000
namespace Go.Proofs.YtcmdfohamphndaaGreatDoor
open Go Foot
theorem preB97 {p : Prop} (h : p := by first | with_reducible assumption | omega | (simp only [List.length_append, List.length_cons, List.length_nil, List.length_set, List.length_replicate, List.length_take, List.length_drop, List.length_tail, List.length_dropLast, List.length_reverse] at *; omega) | exact mem_len (by assumption) (by omega) | (with_reducible refine Int.le_trans (Int.ofNat_le.2 (trimR_len _)) ?_; simp only [List.length_cons, List.length_tail]; omega) | (exact (ruAt_ok (by assumption) (by assumption) (by assumption)).2.1) | (exact (ruAt_ok (by assumption) (by assumption) (by assumption)).2.1) | (have := vMach_bd (by assumption); omega) | (simp only [mC_ch, mC_tu]; omega) | (have := vTag_bd (by assumption); omega) | (have := (‹Gd _ _›).le; omega) | (exact tgHalts_no (by assumption)) | (exact tgHead (by assumption) (by assumption) (by assumption)) | (exact Int.le_trans (tgStep_gd (by assumption) (by assumption) (by assumption) (by assumption)).le (by decide)) | (exact vTag_r (by assumption)) | (with_reducible refine Int.le_trans (Int.ofNat_le.2 (pushL_len _ _)) ?_; simp only [List.length_dropLast]; omega) | exact ls_at (by assumption) (by omega) | exact pt_gd (by assumption) | exact lv_at (by assumption) (by omega) | exact pt_gd (lv_at (by assumption) (by omega)) | exact (ask_ok (by assumption)).1 | exact (ask_ok (by assumption)).2.1 | exact (ask_ok (by assumption)).2.2.1 | exact (ask_ok (by assumption)).2.2.2 | trivial) : p := h
theorem symbolsOk_ok (n : Int) : Does Tryz.prog 137 [.one (int n)] [] (.one (boo (inB n 2 6))) [] := by
  refine does_of (k := 0) Tryz.func137 rfl Tryz.ntmps137 rfl rfl fun w F0 S0 ρ0 => ?_
  dsimp only [argT, argH]
  repeat' first | (apply p3; exact pu1; exact rfl) | refine cd ?_ | (apply c4 0; exact callK1 (θ := []) (hD := (within_ok _ _ _)); exact rfl; exact rfl; exact rfl; refine dM ?_) | ((first | refine o_gs rfl rfl (fun hc => ?_) (fun hc => ?_) | refine g_cond rfl (fun hc => ?_) (fun hc => ?_)) <;> (try simp only [dcB] at hc) <;> (try first | contradiction | (exfalso; omega)))
  repeat refine cr ?_
  refine ends_id ?_
  refine endK [] (h2 := ?_) (h3 := ?_) (nd := ?_)
  all_goals (repeat' first | exact ce0 | refine ce ?_ | refine ce2 ?_ ?_ | exact SVLe.refl | refine ceb ?_)
  all_goals first | exact (show nodupB _ = true from rfl) | exact Or.inr rfl | (rfl)
theorem sizesCode_ok (s y B : Int) : Does Tryz.prog 69 [.one (int s), .one (int y), .one (int B)] [] (.one (int (askT s y B))) [] := by
  have e : askT s y B = if inB s 1 6 = true ∧ inB y 2 6 = true ∧ inB B 1 20000 = true then 0 else 2 := by unfold askT; rfl
  rw [e]
  refine does_of (k := 0) Tryz.func69 rfl Tryz.ntmps69 rfl rfl fun w F0 S0 ρ0 => ?_
  dsimp only [argT, argH]
  repeat' first | (apply p3; exact pu1; exact rfl) | refine cd ?_ | (apply c4 0; exact callK1 (θ := []) (hD := (within_ok _ _ _)); exact rfl; exact rfl; exact rfl; refine dM ?_) | (apply c4 0; exact callK1 (θ := []) (hD := (symbolsOk_ok _)); exact rfl; exact rfl; exact rfl; refine dM ?_) | (apply c4 0; exact callK1 (θ := []) (hD := (budgetOk_ok _)); exact rfl; exact rfl; exact rfl; refine dM ?_) | refine o_no rfl rfl rfl rfl ?_ | refine o_noN rfl rfl rfl ?_ | (apply py3; exact rfl; exact rfl; exact pu1; exact rfl; exact rfl) | (apply cy4 0; exact rfl; exact rfl; exact callK1 (θ := []) (hD := (within_ok _ _ _)); exact rfl; exact rfl; exact rfl; exact rfl; refine dM ?_) | (apply cy4 0; exact rfl; exact rfl; exact callK1 (θ := []) (hD := (symbolsOk_ok _)); exact rfl; exact rfl; exact rfl; exact rfl; refine dM ?_) | (apply cy4 0; exact rfl; exact rfl; exact callK1 (θ := []) (hD := (budgetOk_ok _)); exact rfl; exact rfl; exact rfl; exact rfl; refine dM ?_) | ((first | refine o_gs rfl rfl (fun hc => ?_) (fun hc => ?_) | refine g_cond rfl (fun hc => ?_) (fun hc => ?_)) <;> (try simp only [dcB] at hc) <;> (try first | contradiction | (exfalso; omega)))
  all_goals
    repeat refine cr ?_
    refine ends_id ?_
    refine endK [] (h2 := ?_) (h3 := ?_) (nd := ?_)
    all_goals (repeat' first | exact ce0 | refine ce ?_ | refine ce2 ?_ ?_ | exact SVLe.refl | refine ceb ?_)
    all_goals first | exact (show nodupB _ = true from rfl) | exact Or.inr rfl | ((simp_all <;> omega))
theorem forestOf_ok (st sy B : Int) : Does Tryz.prog 70 [.one (int st), .one (int sy), .one (int B)] [] (.one (.gv 0)) [.bx (foC st sy B 0), foM B sy st 1] := by
  refine does_of (k := 0) Tryz.func70 rfl Tryz.ntmps70 rfl rfl fun w F0 S0 ρ0 => ?_
  dsimp only [argT, argH]
  repeat' first | (apply n3; (first | exact a_mkMapK (kn B sy st) | exact a_new (gb := .bx _) rfl); exact rfl; refine dA ?_) | (apply p3; exact pu1; exact rfl) | refine cd ?_ | ((first | refine o_gs rfl rfl (fun hc => ?_) (fun hc => ?_) | refine g_cond rfl (fun hc => ?_) (fun hc => ?_)) <;> (try simp only [dcB] at hc) <;> (try first | contradiction | (exfalso; omega)))
  repeat refine cr ?_
  refine ends_id ?_
  refine endK [?_, ?_] (h2 := ?_) (h3 := ?_) (nd := ?_)
  rotate_left 2
  all_goals (repeat' first | exact ce0 | refine ce ?_ | refine ce2 ?_ ?_ | (refine Or.inr (bx_eq rfl rfl ?_); (try dsimp only [C.ren, C.ren.all]); (try exact rfl)) | exact SVLe.refl | refine ceb ?_)
  all_goals first | exact (show nodupB _ = true from rfl) | exact Or.inr rfl | (rfl)
theorem emptyRoot_ok (st sy : Int) (h1 : 1 ≤ st) (h2 : st ≤ 6) (h3 : 2 ≤ sy) (h4 : sy ≤ 6) : Does Tryz.prog 89 [.one (int st), .one (int sy)] [] (.agg [int (root sy st).sy, int (root sy st).st, .gv 0]) [.row 3 (rows eR (root sy st).ru)] := by
  have hp1 : 0 ≤ st * sy := Int.mul_nonneg (by omega) (by omega)
  have hp2 : st * sy ≤ 6 * 6 := Int.mul_le_mul (by omega) (by omega) (by omega) (by omega)
  unfold root
  exact emptyMachine_ok st sy (by omega) (by omega) (by omega) (by omega) hp1 (by omega)
theorem childM_ok (m : Mach) (a : Int) (r : Rule') (hx : (m.ru.length : Int) ≤ 16777216) (h0 : 0 ≤ a) (h1 : a < m.ru.length) : Does Tryz.prog 93 [.agg (maC m), .one (int a), .agg (ruC r)] [] (.agg [int (chM m a r).sy, int (chM m a r).st, .gv 0]) [.row 3 (rows eR (chM m a r).ru)] := by
  unfold chM
  exact child_ok m a r hx h0 h1
theorem childrenY_ok (m : Mach) (B : Int) (hm : vMach m = true) (hs : ndS m B = 0) : Does Tryz.prog 92 [.agg (ndC m B)] [] (.one (.gv 0)) [.row 3 (rows eR (chR m))] := by
  have h := children_ok m (ndS m B) (ndA m B) hm
  rw [if_pos hs] at h
  exact h
theorem childrenN_ok (m : Mach) (B : Int) (hm : vMach m = true) (hs : ¬ ndS m B = 0) : Does Tryz.prog 92 [.agg (ndC m B)] [] (.one (.gv 0)) [.row 3 (rows eR [])] := by
  have h := children_ok m (ndS m B) (ndA m B) hm
  rw [if_neg hs] at h
  exact h
/-- Lists of nodes. -/
abbrev eNd (B : Int) : Enc Mach := ⟨5, fun m => ndD m B, fun _ => rfl, by decide⟩
theorem stp_yes {B : Int} {m : Mach} {k : Int} (hs : ndS m B = 0) (h0 : 0 ≤ k) (h1 : k.toNat < (chR m).length) : stp B m k = some (chM m (ndA m B) ((chR m)[k.toNat])) := by
  unfold stp
  rw [if_pos ⟨hs, h0, by omega⟩, List.getD_eq_getElem?_getD, List.getElem?_eq_getElem h1]
  rfl
theorem stp_no {B : Int} {m : Mach} {k : Int} (h : ¬ ndS m B = 0 ∨ k < 0 ∨ (chR m).length ≤ k) : stp B m k = none := by
  unfold stp
  rw [if_neg]
  omega
theorem pthL_next {B : Int} {m : Mach} {p : List Int} {i : Int} (h0 : 0 ≤ i) (h : i.toNat < p.length) : pthL B m (p.drop i.toNat) = (stp B m p[i.toNat]).bind fun m' => (pthL B m' (p.drop (i + 1).toNat)).map (m :: ·) := by
  rw [drop_get h0 h, pthL]
theorem at_f_ok (st sy B : Int) (p : List Int) (hp : (p.length : Int) ≤ 1048576) (h1 : 1 ≤ st) (h2 : st ≤ 6) (h3 : 2 ≤ sy) (h4 : sy ≤ 6) (h5 : 0 ≤ B) (h6 : B ≤ 1000000) : Does Tryz.prog 71 [.one (.gv 0), .one (shI p)] [.bx (foC st sy B 0), foM B sy st 1] (.tup [(false, [.gv 2]), (false, [boo (pthL B (root sy st) p).isSome])]) [.bx (foC st sy B 0), foM B sy st 1, .row 5 (rows (eNd B) ((pthL B (root sy st) p).getD []))] := by
  have hr := root_ok h3 h4 h1 (by omega)
  refine does_of (k := 2) Tryz.func71 rfl Tryz.ntmps71 rfl rfl fun w F0 S0 ρ0 => ?_
  dsimp only [argT, argH]
  repeat' first | (apply n3; exact a_nilO (eNd B) rfl; exact rfl) | (apply n3; (first | exact a_litE (eNd B) [_] rfl rfl rfl rfl rfl rfl rfl rfl | exact a_appN (fP rfl) rfl rfl rfl nowR (by first | omega | (simp; omega)) (by decide) (by exact rfl)); exact rfl; refine dA ?_) | (apply p3; (first | exact pu1 | exact puL | exact a_ldsE (E := eR) 0 rfl rfl rfl (fA rfl) rfl rfl (Nat.le_of_ble_eq_true rfl) (Nat.le_of_ble_eq_true rfl) bnd rfl (by repeat (first | exact trivial | exact rfl | refine And.intro ?_ ?_)) rfl | exact puN | exact a_len_str rfl (fT rfl) | exact puC | exact a_ldE (E := eR) 0 rfl rfl rfl (fC rfl) rfl rfl (Nat.le_of_ble_eq_true rfl) bnd rfl (by first | exact trivial | exact rfl) | exact a_ldE (E := eR) 1 rfl rfl rfl (fC rfl) rfl rfl (Nat.le_of_ble_eq_true rfl) bnd rfl (by first | exact trivial | exact rfl) | exact a_ldE (E := eR) 2 rfl rfl rfl (fC rfl) rfl rfl (Nat.le_of_ble_eq_true rfl) bnd rfl (by first | exact trivial | exact rfl) | exact a_sub rfl rfl (by omega) (by omega) | exact a_add rfl rfl (by omega) (by omega) | exact puI); exact rfl) | refine cd ?_ | (apply s3; exact a_appE (fP rfl) rfl rfl rfl rfl nowR (by first | omega | (simp; omega)) (by decide) (by decide) (by exact rfl); exact rfl; exact rfl) | (apply c4 1; exact callK1 (θ := []) (hD := (childrenY_ok _ _ preB97 preB97)); exact rfl; exact rfl; exact rfl; refine dM ?_) | (apply c4 1; exact callK1 (θ := []) (hD := (childrenN_ok _ _ preB97 preB97)); exact rfl; exact rfl; exact rfl; refine dM ?_) | (apply c4 0; exact callK1 (θ := []) (hD := (sizeR_ok _ preB97)); exact rfl; exact rfl; exact rfl; refine dM ?_) | (apply c4 0; exact callK1 (θ := []) (hD := (within_ok _ _ _)); exact rfl; exact rfl; exact rfl; refine dM ?_) | (apply g_drN (id := 1) okM [[],[],[1],[1,2],[1,2,3],[],[5],[5,6],[5,6,7],[1,2,3,4,5,6,7,8],[0,1,2,3,4,5,6,7,8,9],[],[0,1,2,3,4,5,6,7,8,9,10,11]] [([],[]),([],[]),([],[]),([],[]),([],[]),([],[]),([],[]),([],[]),([],[]),([],[]),([],[0,1]),([0],[]),([],[3])] 1; (focus (refine dp 0 0 [12, 13, 14, 15, 16, 17, 18, 19, 20, 6] [(true, 0)] pu1 ?_; refine dp 1 0 [11, 16, 17, 18, 19, 6] [(true, 0)] pu1 ?_; refine dp 2 1 [11, 16, 17, 18, 19, 6] [(true, 0)] (a_pure (sv := .one _) rfl) ?_; refine dp 3 3 [11, 16, 17, 18, 19, 6] [(true, 0)] (a_pure (sv := .one _) rfl) ?_; refine dp 4 7 [11, 16, 17, 18, 19, 6] [(true, 0)] (by first | exact a_ldE (E := eR) 0 rfl rfl rfl (fC rfl) rfl rfl (Nat.le_of_ble_eq_true rfl) bnd rfl (by first | exact trivial | exact rfl) | exact a_ldE (E := eR) 1 rfl rfl rfl (fC rfl) rfl rfl (Nat.le_of_ble_eq_true rfl) bnd rfl (by first | exact trivial | exact rfl) | exact a_ldE (E := eR) 2 rfl rfl rfl (fC rfl) rfl rfl (Nat.le_of_ble_eq_true rfl) bnd rfl (by first | exact trivial | exact rfl) | exact puL) ?_; refine dp 5 0 [11, 12, 13, 14, 15, 6] [(true, 0)] pu1 ?_; refine dp 6 1 [11, 12, 13, 14, 15, 6] [(true, 0)] (a_pure (sv := .one _) rfl) ?_; refine dp 7 3 [11, 12, 13, 14, 15, 6] [(true, 0)] (a_pure (sv := .one _) rfl) ?_; refine dp 8 7 [11, 12, 13, 14, 15, 6] [(true, 0)] (by first | exact a_ldE (E := eR) 0 rfl rfl rfl (fC rfl) rfl rfl (Nat.le_of_ble_eq_true rfl) bnd rfl (by first | exact trivial | exact rfl) | exact a_ldE (E := eR) 1 rfl rfl rfl (fC rfl) rfl rfl (Nat.le_of_ble_eq_true rfl) bnd rfl (by first | exact trivial | exact rfl) | exact a_ldE (E := eR) 2 rfl rfl rfl (fC rfl) rfl rfl (Nat.le_of_ble_eq_true rfl) bnd rfl (by first | exact trivial | exact rfl) | exact puL) ?_; refine dp 9 255 [11, 6] [(true, 0)] (callFD 0 (hD := (emptyRoot_ok _ _ preB97 preB97 preB97 preB97))) ?_; refine duN 10 1023 [6] [(true, 0)] (callD0 (n := _) 0 (θ := [0, 1]) (hD := (look_ok st sy B (root sy st) hr preB97 preB97))) (by exact rfl) (by exact rfl) ?_; refine duE 11 0 [11, 12, 13, 14, 15, 16, 17, 18, 19, 20, 21] [(false, 0), (false, 1)] (atN 0 (fun _ => a_new (gb := .bx _) rfl)) (by exact rfl) (by exact rfl) ?_; refine duE 12 4095 [] [] (by first | exact a_st_bx rfl rfl rfl rfl (fN rfl rfl) (Nat.le_of_ble_eq_true rfl) rfl | exact a_stF (E := eR) ⟨_, _, _⟩ rfl rfl rfl rfl (fN rfl rfl) (Nat.le_of_ble_eq_true rfl) (Nat.le_of_ble_eq_true rfl) (by first | exact List.getElem?_set_self bnd | exact List.getElem?_eq_getElem bnd) (by (try dsimp only [setRow, List.set_cons_succ, List.set_cons_zero]); first | done | exact rfl) rfl | exact a_stE (E := (eNd B)) _ rfl rfl rfl rfl (fN rfl rfl) bnd (by exact rfl)) (by exact rfl) (by exact rfl) ?_; (refine d_nil ?_; refine dN ?_))); any_goals kernel_rfl) | (apply g_drN (id := 9) okM [[],[],[1],[],[3],[],[],[5,6],[5,6,7],[1,2,3,4,5,6,7,8],[0,1,2,3,4,5,6,7,8,9],[0,1,2,3,4,5,6,7,8,9,10]] [([],[]),([],[]),([],[]),([],[]),([],[]),([],[]),([],[]),([],[]),([],[]),([],[]),([],[_,_]),([],[2])] 0; (focus (refine dp 0 0 [39, 40, 41, 42, 43, 44, 45, 46, 47] [] pu1 ?_; refine dp 1 0 [38, 41, 42, 43, 44, 45, 46] [] (a_pure (sv := .one _) rfl) ?_; refine dp 2 1 [38, 41, 42, 43, 44, 45, 46] [] (by first | exact a_ldsE (E := eR) 0 rfl rfl rfl (fA rfl) rfl rfl (Nat.le_of_ble_eq_true rfl) (Nat.le_of_ble_eq_true rfl) bnd rfl (by repeat (first | exact trivial | exact rfl | refine And.intro ?_ ?_)) rfl | exact puL) ?_; refine dp 3 0 [38, 39, 40, 43, 44, 45, 46] [] (a_pure (sv := .one _) rfl) ?_; refine dp 4 1 [38, 39, 40, 43, 44, 45, 46] [] (by first | exact a_ldE (E := eR) 0 rfl rfl rfl (fC rfl) rfl rfl (Nat.le_of_ble_eq_true rfl) bnd rfl (by first | exact trivial | exact rfl) | exact a_ldE (E := eR) 1 rfl rfl rfl (fC rfl) rfl rfl (Nat.le_of_ble_eq_true rfl) bnd rfl (by first | exact trivial | exact rfl) | exact a_ldE (E := eR) 2 rfl rfl rfl (fC rfl) rfl rfl (Nat.le_of_ble_eq_true rfl) bnd rfl (by first | exact trivial | exact rfl) | exact puL) ?_; refine dp 5 0 [38, 39, 40, 41, 42, 44] [] pu1 ?_; refine dp 6 0 [38, 39, 40, 41, 42, 43] [] pu1 ?_; refine dp 7 3 [38, 39, 40, 41, 42] [] puI ?_; refine dp 8 7 [38, 39, 40, 41, 42] [] (by first | exact a_ldE (E := eR) 0 rfl rfl rfl (fC rfl) rfl rfl (Nat.le_of_ble_eq_true rfl) bnd rfl (by first | exact trivial | exact rfl) | exact a_ldsE (E := eR) 0 rfl rfl rfl (fA rfl) rfl rfl (Nat.le_of_ble_eq_true rfl) (Nat.le_of_ble_eq_true rfl) bnd rfl (by repeat (first | exact trivial | exact rfl | refine And.intro ?_ ?_)) rfl | exact puL) ?_; refine dp 9 255 [38] [] (callFD 0 (hD := (childM_ok _ _ _ preB97 preB97 preB97))) ?_; refine duN 10 1023 [] [] (callD0 (n := _) 0 (θ := [0, 1]) (hD := (look_ok st sy B (root sy st) hr preB97 preB97))) (by exact rfl) (by exact rfl) ?_; refine duE 11 2047 [] [] (by first | exact a_st_bx rfl rfl rfl rfl (fN rfl rfl) (Nat.le_of_ble_eq_true rfl) rfl | exact a_stF (E := eR) ⟨_, _, _⟩ rfl rfl rfl rfl (fN rfl rfl) (Nat.le_of_ble_eq_true rfl) (Nat.le_of_ble_eq_true rfl) (by first | exact List.getElem?_set_self bnd | exact List.getElem?_eq_getElem bnd) (by (try dsimp only [setRow, List.set_cons_succ, List.set_cons_zero]); first | done | exact rfl) rfl | exact a_stE (E := (eNd B)) _ rfl rfl rfl rfl (fN rfl rfl) bnd (by exact rfl)) (by exact rfl) (by exact rfl) ?_; (refine d_nil ?_; refine dN ?_))); any_goals kernel_rfl) | ((first | refine o_gs rfl rfl (fun hc => ?_) (fun hc => ?_) | refine g_cond rfl (fun hc => ?_) (fun hc => ?_)) <;> (try simp only [dcB] at hc) <;> (try first | contradiction | (exfalso; omega)))
  refine g_loop_id ?_
  refine loopK [0, 4, 5, 6, 7, 24, 25] [3, 4] (fun y : Int × Mach × List Mach => 0 ≤ y.1 ∧ y.1 ≤ p.length ∧ NdOk sy st y.2.1 ∧ (y.2.2.length : Int) = y.1 ∧ (pthL B y.2.1 (p.drop y.1.toNat)).map (y.2.2 ++ ·) = pthL B (root sy st) p) (fun y => [(26, .one (int y.1))]) (fun y => [(3, .bx (ndC y.2.1 B)), (4, .row 5 (rows (eNd B) (y.2.2 ++ [y.2.1])))]) (fun y => (p.length - y.1).toNat) ((0 : Int), root sy st, ([] : List Mach)) [0, 1, 2, 3, 4] (hI := ?_) (hr := ?_)
  · exact ⟨by simp, by simp, hr, by simp, by simp⟩
  · rintro ⟨i, m, pre⟩ ⟨k0, k1, k2, k3, k4⟩
    dsimp only [List.cons_append, List.nil_append] at *
    skip
    repeat' first | (apply p3; (first | exact pu1 | exact puL | exact puC | exact a_ldE (E := eR) 0 rfl rfl rfl (fC rfl) rfl rfl (Nat.le_of_ble_eq_true rfl) bnd rfl (by first | exact trivial | exact rfl) | exact a_ldE (E := eR) 1 rfl rfl rfl (fC rfl) rfl rfl (Nat.le_of_ble_eq_true rfl) bnd rfl (by first | exact trivial | exact rfl) | exact a_ldE (E := eR) 2 rfl rfl rfl (fC rfl) rfl rfl (Nat.le_of_ble_eq_true rfl) bnd rfl (by first | exact trivial | exact rfl) | exact puI); exact rfl) | refine cdn ?_ | refine g_reg (id := 4) ?_ | refine g_reg (id := 5) ?_ | refine g_reg (id := 12) ?_ | ((first | refine o_gs rfl rfl (fun hc => ?_) (fun hc => ?_) | refine g_cond rfl (fun hc => ?_) (fun hc => ?_)) <;> (try simp only [dcB] at hc) <;> (try first | contradiction | (exfalso; omega)))
    · have hm := k2.v
      have hlr := chR_len hm
      have ha := ndA_bd (B := B) hm
      have hlm := vMach_len hm
      have hn := pthL_next (B := B) (m := m) k0 (show i.toNat < p.length by omega)
      try dsimp only at k3 k4
      rw [hn] at k4
      generalize hkk : p[i.toNat]'(by omega) = k at *
      have hno : ¬ ndS m B = 0 ∨ k < 0 ∨ ((chR m).length : Int) ≤ k → pthL B (root sy st) p = none := fun h => by rw [← k4, stp_no h]; rfl
      by_cases hs : ndS m B = 0
      · repeat' first | (apply p3; (first | exact pu1 | exact puL | exact puC | exact a_ldE (E := eR) 0 rfl rfl rfl (fC rfl) rfl rfl (Nat.le_of_ble_eq_true rfl) bnd rfl (by first | exact trivial | exact rfl) | exact a_ldE (E := eR) 1 rfl rfl rfl (fC rfl) rfl rfl (Nat.le_of_ble_eq_true rfl) bnd rfl (by first | exact trivial | exact rfl) | exact a_ldE (E := eR) 2 rfl rfl rfl (fC rfl) rfl rfl (Nat.le_of_ble_eq_true rfl) bnd rfl (by first | exact trivial | exact rfl) | exact a_ldsE (E := eR) 0 rfl rfl rfl (fA rfl) rfl rfl (Nat.le_of_ble_eq_true rfl) (Nat.le_of_ble_eq_true rfl) bnd rfl (by repeat (first | exact trivial | exact rfl | refine And.intro ?_ ?_)) rfl | exact puI); exact rfl) | refine cdn ?_ | refine g_reg (id := 4) ?_ | refine g_reg (id := 5) ?_ | refine g_reg (id := 6) ?_ | refine g_reg (id := 12) ?_ | (apply c4 1; exact callK1 (θ := []) (hD := (childrenY_ok _ _ preB97 preB97)); exact rfl; exact rfl; exact rfl; refine dM ?_) | (apply c4 1; exact callK1 (θ := []) (hD := (childrenN_ok _ _ preB97 preB97)); exact rfl; exact rfl; exact rfl; refine dM ?_) | ((first | refine o_gs rfl rfl (fun hc => ?_) (fun hc => ?_) | refine g_cond rfl (fun hc => ?_) (fun hc => ?_)) <;> (try simp only [dcB] at hc) <;> (try first | contradiction | (exfalso; omega)))
        by_cases hk : 0 ≤ k ∧ k < ((chR m).length : Int)
        · have hst := stp_yes (B := B) hs hk.1 (show k.toNat < (chR m).length by omega)
          have h2 := (stp_ok k2 hst).1
          rw [hst] at k4
          repeat' first | (apply n3; exact a_nilO (eNd B) rfl; exact rfl) | (apply n3; (first | exact a_litE (eNd B) [_] rfl rfl rfl rfl rfl rfl rfl rfl | exact a_appN (fP rfl) rfl rfl rfl nowR (by first | omega | (simp; omega)) (by decide) (by exact rfl)); exact rfl; refine dA ?_) | (apply p3; (first | exact pu1 | exact puL | exact puC | exact a_ldE (E := eR) 0 rfl rfl rfl (fC rfl) rfl rfl (Nat.le_of_ble_eq_true rfl) bnd rfl (by first | exact trivial | exact rfl) | exact a_ldE (E := eR) 1 rfl rfl rfl (fC rfl) rfl rfl (Nat.le_of_ble_eq_true rfl) bnd rfl (by first | exact trivial | exact rfl) | exact a_ldE (E := eR) 2 rfl rfl rfl (fC rfl) rfl rfl (Nat.le_of_ble_eq_true rfl) bnd rfl (by first | exact trivial | exact rfl) | exact a_ldsE (E := eR) 0 rfl rfl rfl (fA rfl) rfl rfl (Nat.le_of_ble_eq_true rfl) (Nat.le_of_ble_eq_true rfl) bnd rfl (by repeat (first | exact trivial | exact rfl | refine And.intro ?_ ?_)) rfl | exact a_sub rfl rfl (by omega) (by omega) | exact a_add rfl rfl (by omega) (by omega) | exact puI); exact rfl) | refine cd ?_ | (apply s3; exact a_appE (fP rfl) rfl rfl rfl rfl nowR (by first | omega | (simp; omega)) (by decide) (by decide) (by exact rfl); exact rfl; exact rfl) | (apply c4 1; exact callK1 (θ := []) (hD := (childrenY_ok _ _ preB97 preB97)); exact rfl; exact rfl; exact rfl; refine dM ?_) | (apply c4 1; exact callK1 (θ := []) (hD := (childrenN_ok _ _ preB97 preB97)); exact rfl; exact rfl; exact rfl; refine dM ?_) | (apply c4 0; exact callK1 (θ := []) (hD := (sizeR_ok _ preB97)); exact rfl; exact rfl; exact rfl; refine dM ?_) | (apply c4 0; exact callK1 (θ := []) (hD := (within_ok _ _ _)); exact rfl; exact rfl; exact rfl; refine dM ?_) | (apply g_drN (id := 9) okM [[],[],[1],[],[3],[],[],[5,6],[5,6,7],[1,2,3,4,5,6,7,8],[0,1,2,3,4,5,6,7,8,9],[0,1,2,3,4,5,6,7,8,9,10]] [([],[]),([],[]),([],[]),([],[]),([],[]),([],[]),([],[]),([],[]),([],[]),([],[]),([],[0,1]),([],[3])] 0; (focus (refine dp 0 0 [39, 40, 41, 42, 43, 44, 45, 46, 47] [] pu1 ?_; refine dp 1 0 [38, 41, 42, 43, 44, 45, 46] [] (a_pure (sv := .one _) rfl) ?_; refine dp 2 1 [38, 41, 42, 43, 44, 45, 46] [] (by first | exact a_ldsE (E := eR) 0 rfl rfl rfl (fA rfl) rfl rfl (Nat.le_of_ble_eq_true rfl) (Nat.le_of_ble_eq_true rfl) bnd rfl (by repeat (first | exact trivial | exact rfl | refine And.intro ?_ ?_)) rfl | exact puL) ?_; refine dp 3 0 [38, 39, 40, 43, 44, 45, 46] [] (a_pure (sv := .one _) rfl) ?_; refine dp 4 1 [38, 39, 40, 43, 44, 45, 46] [] (by first | exact a_ldE (E := eR) 0 rfl rfl rfl (fC rfl) rfl rfl (Nat.le_of_ble_eq_true rfl) bnd rfl (by first | exact trivial | exact rfl) | exact a_ldE (E := eR) 1 rfl rfl rfl (fC rfl) rfl rfl (Nat.le_of_ble_eq_true rfl) bnd rfl (by first | exact trivial | exact rfl) | exact a_ldE (E := eR) 2 rfl rfl rfl (fC rfl) rfl rfl (Nat.le_of_ble_eq_true rfl) bnd rfl (by first | exact trivial | exact rfl) | exact puL) ?_; refine dp 5 0 [38, 39, 40, 41, 42, 44] [] pu1 ?_; refine dp 6 0 [38, 39, 40, 41, 42, 43] [] pu1 ?_; refine dp 7 3 [38, 39, 40, 41, 42] [] puI ?_; refine dp 8 7 [38, 39, 40, 41, 42] [] (by first | exact a_ldE (E := eR) 0 rfl rfl rfl (fC rfl) rfl rfl (Nat.le_of_ble_eq_true rfl) bnd rfl (by first | exact trivial | exact rfl) | exact a_ldsE (E := eR) 0 rfl rfl rfl (fA rfl) rfl rfl (Nat.le_of_ble_eq_true rfl) (Nat.le_of_ble_eq_true rfl) bnd rfl (by repeat (first | exact trivial | exact rfl | refine And.intro ?_ ?_)) rfl | exact puL) ?_; refine dp 9 255 [38] [] (callFD 0 (hD := (childM_ok _ _ _ preB97 preB97 preB97))) ?_; refine duN 10 1023 [] [] (by first | exact callD0 (n := _) 0 (θ := [0, 1]) (hD := (look_ok st sy B (root sy st) hr preB97 preB97)) | exact callD0 (n := _) 0 (θ := [0, 1]) (hD := (look_ok st sy B _ h2 preB97 preB97))) (by exact rfl) (by exact rfl) ?_; refine duE 11 2047 [] [] (by first | exact a_st_bx rfl rfl rfl rfl (fN rfl rfl) (Nat.le_of_ble_eq_true rfl) rfl | exact a_stF (E := eR) ⟨_, _, _⟩ rfl rfl rfl rfl (fN rfl rfl) (Nat.le_of_ble_eq_true rfl) (Nat.le_of_ble_eq_true rfl) (by first | exact List.getElem?_set_self bnd | exact List.getElem?_eq_getElem bnd) (by (try dsimp only [setRow, List.set_cons_succ, List.set_cons_zero]); first | done | exact rfl) rfl | exact a_stE (E := (eNd B)) _ rfl rfl rfl rfl (fN rfl rfl) bnd (by exact rfl)) (by exact rfl) (by exact rfl) ?_; (refine d_nil ?_; refine dN ?_))); any_goals kernel_rfl) | ((first | refine o_gs rfl rfl (fun hc => ?_) (fun hc => ?_) | refine g_cond rfl (fun hc => ?_) (fun hc => ?_)) <;> (try simp only [dcB] at hc) <;> (try first | contradiction | (exfalso; omega)))
          refine q_again (i + 1, chM m (ndA m B) ((chR m)[k.toNat]'(by omega)), pre ++ [m]) [0, 1, 2, 3, 7] (by exact stk) ?_ ?_
          · refine ⟨by dsimp only; omega, by dsimp only; omega, h2, by simp; omega, ?_⟩
            rw [← k4]
            simp [Option.map_map, Function.comp_def]
          · dsimp only; omega
        · rw [hno (by omega)]
          dsimp only [Option.isSome_none, Option.getD_none]
          repeat' first | (apply n3; exact a_nilO (eNd B) rfl; exact rfl) | (apply n3; (first | exact a_litE (eNd B) [_] rfl rfl rfl rfl rfl rfl rfl rfl | exact a_appN (fP rfl) rfl rfl rfl nowR (by first | omega | (simp; omega)) (by decide) (by exact rfl)); exact rfl; refine dA ?_) | (apply p3; (first | exact pu1 | exact puL | exact puC | exact a_ldE (E := eR) 0 rfl rfl rfl (fC rfl) rfl rfl (Nat.le_of_ble_eq_true rfl) bnd rfl (by first | exact trivial | exact rfl) | exact a_ldE (E := eR) 1 rfl rfl rfl (fC rfl) rfl rfl (Nat.le_of_ble_eq_true rfl) bnd rfl (by first | exact trivial | exact rfl) | exact a_ldE (E := eR) 2 rfl rfl rfl (fC rfl) rfl rfl (Nat.le_of_ble_eq_true rfl) bnd rfl (by first | exact trivial | exact rfl) | exact a_ldsE (E := eR) 0 rfl rfl rfl (fA rfl) rfl rfl (Nat.le_of_ble_eq_true rfl) (Nat.le_of_ble_eq_true rfl) bnd rfl (by repeat (first | exact trivial | exact rfl | refine And.intro ?_ ?_)) rfl | exact a_sub rfl rfl (by omega) (by omega) | exact a_add rfl rfl (by omega) (by omega) | exact puI); exact rfl) | refine cd ?_ | (apply s3; exact a_appE (fP rfl) rfl rfl rfl rfl nowR (by first | omega | (simp; omega)) (by decide) (by decide) (by exact rfl); exact rfl; exact rfl) | (apply c4 1; exact callK1 (θ := []) (hD := (childrenY_ok _ _ preB97 preB97)); exact rfl; exact rfl; exact rfl; refine dM ?_) | (apply c4 1; exact callK1 (θ := []) (hD := (childrenN_ok _ _ preB97 preB97)); exact rfl; exact rfl; exact rfl; refine dM ?_) | (apply c4 0; exact callK1 (θ := []) (hD := (sizeR_ok _ preB97)); exact rfl; exact rfl; exact rfl; refine dM ?_) | (apply c4 0; exact callK1 (θ := []) (hD := (within_ok _ _ _)); exact rfl; exact rfl; exact rfl; refine dM ?_) | (apply g_drN (id := 9) okM [[],[],[1],[],[3],[],[],[5,6],[5,6,7],[1,2,3,4,5,6,7,8],[0,1,2,3,4,5,6,7,8,9],[0,1,2,3,4,5,6,7,8,9,10]] [([],[]),([],[]),([],[]),([],[]),([],[]),([],[]),([],[]),([],[]),([],[]),([],[]),([],[0,1]),([],[3])] 0; (focus (refine dp 0 0 [39, 40, 41, 42, 43, 44, 45, 46, 47] [] pu1 ?_; refine dp 1 0 [38, 41, 42, 43, 44, 45, 46] [] (a_pure (sv := .one _) rfl) ?_; refine dp 2 1 [38, 41, 42, 43, 44, 45, 46] [] (by first | exact a_ldsE (E := eR) 0 rfl rfl rfl (fA rfl) rfl rfl (Nat.le_of_ble_eq_true rfl) (Nat.le_of_ble_eq_true rfl) bnd rfl (by repeat (first | exact trivial | exact rfl | refine And.intro ?_ ?_)) rfl | exact puL) ?_; refine dp 3 0 [38, 39, 40, 43, 44, 45, 46] [] (a_pure (sv := .one _) rfl) ?_; refine dp 4 1 [38, 39, 40, 43, 44, 45, 46] [] (by first | exact a_ldE (E := eR) 0 rfl rfl rfl (fC rfl) rfl rfl (Nat.le_of_ble_eq_true rfl) bnd rfl (by first | exact trivial | exact rfl) | exact a_ldE (E := eR) 1 rfl rfl rfl (fC rfl) rfl rfl (Nat.le_of_ble_eq_true rfl) bnd rfl (by first | exact trivial | exact rfl) | exact a_ldE (E := eR) 2 rfl rfl rfl (fC rfl) rfl rfl (Nat.le_of_ble_eq_true rfl) bnd rfl (by first | exact trivial | exact rfl) | exact puL) ?_; refine dp 5 0 [38, 39, 40, 41, 42, 44] [] pu1 ?_; refine dp 6 0 [38, 39, 40, 41, 42, 43] [] pu1 ?_; refine dp 7 3 [38, 39, 40, 41, 42] [] puI ?_; refine dp 8 7 [38, 39, 40, 41, 42] [] (by first | exact a_ldE (E := eR) 0 rfl rfl rfl (fC rfl) rfl rfl (Nat.le_of_ble_eq_true rfl) bnd rfl (by first | exact trivial | exact rfl) | exact a_ldsE (E := eR) 0 rfl rfl rfl (fA rfl) rfl rfl (Nat.le_of_ble_eq_true rfl) (Nat.le_of_ble_eq_true rfl) bnd rfl (by repeat (first | exact trivial | exact rfl | refine And.intro ?_ ?_)) rfl | exact puL) ?_; refine dp 9 255 [38] [] (callFD 0 (hD := (childM_ok _ _ _ preB97 preB97 preB97))) ?_; refine duN 10 1023 [] [] (by first | exact callD0 (n := _) 0 (θ := [0, 1]) (hD := (look_ok st sy B (root sy st) hr preB97 preB97)) | exact callD0 (n := _) 0 (θ := [0, 1]) (hD := (look_ok st sy B _ h2 preB97 preB97))) (by exact rfl) (by exact rfl) ?_; refine duE 11 2047 [] [] (by first | exact a_st_bx rfl rfl rfl rfl (fN rfl rfl) (Nat.le_of_ble_eq_true rfl) rfl | exact a_stF (E := eR) ⟨_, _, _⟩ rfl rfl rfl rfl (fN rfl rfl) (Nat.le_of_ble_eq_true rfl) (Nat.le_of_ble_eq_true rfl) (by first | exact List.getElem?_set_self bnd | exact List.getElem?_eq_getElem bnd) (by (try dsimp only [setRow, List.set_cons_succ, List.set_cons_zero]); first | done | exact rfl) rfl | exact a_stE (E := (eNd B)) _ rfl rfl rfl rfl (fN rfl rfl) bnd (by exact rfl)) (by exact rfl) (by exact rfl) ?_; (refine d_nil ?_; refine dN ?_))); any_goals kernel_rfl) | ((first | refine o_gs rfl rfl (fun hc => ?_) (fun hc => ?_) | refine g_cond rfl (fun hc => ?_) (fun hc => ?_)) <;> (try simp only [dcB] at hc) <;> (try first | contradiction | (exfalso; omega)))
          repeat refine cr ?_
          refine ends_id ?_
          refine endK [?_] (h2 := ?_) (h3 := ?_) (nd := ?_)
          rotate_left 1
          all_goals (repeat' first | exact ce0 | refine ce ?_ | refine ce2 ?_ ?_ | (refine Or.inr (bx_eq rfl rfl ?_); (try dsimp only [C.ren, C.ren.all]); (try exact rfl)) | exact SVLe.refl | refine ceb ?_)
          all_goals first | exact (show nodupB _ = true from rfl) | exact Or.inr rfl | (rfl)
      · rw [hno (.inl hs)]
        dsimp only [Option.isSome_none, Option.getD_none]
        repeat' first | (apply p3; (first | exact pu1 | exact puL | exact puC | exact a_ldE (E := eR) 0 rfl rfl rfl (fC rfl) rfl rfl (Nat.le_of_ble_eq_true rfl) bnd rfl (by first | exact trivial | exact rfl) | exact a_ldE (E := eR) 1 rfl rfl rfl (fC rfl) rfl rfl (Nat.le_of_ble_eq_true rfl) bnd rfl (by first | exact trivial | exact rfl) | exact a_ldE (E := eR) 2 rfl rfl rfl (fC rfl) rfl rfl (Nat.le_of_ble_eq_true rfl) bnd rfl (by first | exact trivial | exact rfl) | exact a_ldsE (E := eR) 0 rfl rfl rfl (fA rfl) rfl rfl (Nat.le_of_ble_eq_true rfl) (Nat.le_of_ble_eq_true rfl) bnd rfl (by repeat (first | exact trivial | exact rfl | refine And.intro ?_ ?_)) rfl | exact a_sub rfl rfl (by omega) (by omega) | exact puI); exact rfl) | refine cd ?_ | (apply c4 1; exact callK1 (θ := []) (hD := (childrenY_ok _ _ preB97 preB97)); exact rfl; exact rfl; exact rfl; refine dM ?_) | (apply c4 1; exact callK1 (θ := []) (hD := (childrenN_ok _ _ preB97 preB97)); exact rfl; exact rfl; exact rfl; refine dM ?_) | (apply c4 0; exact callK1 (θ := []) (hD := (sizeR_ok _ preB97)); exact rfl; exact rfl; exact rfl; refine dM ?_) | (apply c4 0; exact callK1 (θ := []) (hD := (within_ok _ _ _)); exact rfl; exact rfl; exact rfl; refine dM ?_) | (refine o_gs rfl rfl (fun hc => ?_) (fun hc => ?_) <;> (try simp only [dcB] at hc) <;> (try first | contradiction | (exfalso; omega))) | (refine g_cond (c := .tmp 27) rfl (fun hc => ?_) (fun hc => ?_) <;> (try simp only [dcB] at hc) <;> (try (first | contradiction | (exfalso; omega))))
        simp only [List.length_nil]
        repeat' first | (apply n3; exact a_nilO (eNd B) rfl; exact rfl) | (apply n3; (first | exact a_litE (eNd B) [_] rfl rfl rfl rfl rfl rfl rfl rfl | exact a_appN (fP rfl) rfl rfl rfl nowR (by first | omega | (simp; omega)) (by decide) (by exact rfl)); exact rfl; refine dA ?_) | (apply p3; (first | exact pu1 | exact puL | exact puC | exact a_ldE (E := eR) 0 rfl rfl rfl (fC rfl) rfl rfl (Nat.le_of_ble_eq_true rfl) bnd rfl (by first | exact trivial | exact rfl) | exact a_ldE (E := eR) 1 rfl rfl rfl (fC rfl) rfl rfl (Nat.le_of_ble_eq_true rfl) bnd rfl (by first | exact trivial | exact rfl) | exact a_ldE (E := eR) 2 rfl rfl rfl (fC rfl) rfl rfl (Nat.le_of_ble_eq_true rfl) bnd rfl (by first | exact trivial | exact rfl) | exact a_ldsE (E := eR) 0 rfl rfl rfl (fA rfl) rfl rfl (Nat.le_of_ble_eq_true rfl) (Nat.le_of_ble_eq_true rfl) bnd rfl (by repeat (first | exact trivial | exact rfl | refine And.intro ?_ ?_)) rfl | exact a_sub rfl rfl (by omega) (by omega) | exact a_add rfl rfl (by omega) (by omega) | exact puI); exact rfl) | refine cd ?_ | (apply s3; exact a_appE (fP rfl) rfl rfl rfl rfl nowR (by first | omega | (simp; omega)) (by decide) (by decide) (by exact rfl); exact rfl; exact rfl) | (apply c4 1; exact callK1 (θ := []) (hD := (childrenY_ok _ _ preB97 preB97)); exact rfl; exact rfl; exact rfl; refine dM ?_) | (apply c4 1; exact callK1 (θ := []) (hD := (childrenN_ok _ _ preB97 preB97)); exact rfl; exact rfl; exact rfl; refine dM ?_) | (apply c4 0; exact callK1 (θ := []) (hD := (sizeR_ok _ preB97)); exact rfl; exact rfl; exact rfl; refine dM ?_) | (apply c4 0; exact callK1 (θ := []) (hD := (within_ok _ _ _)); exact rfl; exact rfl; exact rfl; refine dM ?_) | (apply g_drN (id := 9) okM [[],[],[1],[],[3],[],[],[5,6],[5,6,7],[1,2,3,4,5,6,7,8],[0,1,2,3,4,5,6,7,8,9],[0,1,2,3,4,5,6,7,8,9,10]] [([],[]),([],[]),([],[]),([],[]),([],[]),([],[]),([],[]),([],[]),([],[]),([],[]),([],[0,1]),([],[3])] 0; (focus (refine dp 0 0 [39, 40, 41, 42, 43, 44, 45, 46, 47] [] pu1 ?_; refine dp 1 0 [38, 41, 42, 43, 44, 45, 46] [] (a_pure (sv := .one _) rfl) ?_; refine dp 2 1 [38, 41, 42, 43, 44, 45, 46] [] (by first | exact a_ldsE (E := eR) 0 rfl rfl rfl (fA rfl) rfl rfl (Nat.le_of_ble_eq_true rfl) (Nat.le_of_ble_eq_true rfl) bnd rfl (by repeat (first | exact trivial | exact rfl | refine And.intro ?_ ?_)) rfl | exact puL) ?_; refine dp 3 0 [38, 39, 40, 43, 44, 45, 46] [] (a_pure (sv := .one _) rfl) ?_; refine dp 4 1 [38, 39, 40, 43, 44, 45, 46] [] (by first | exact a_ldE (E := eR) 0 rfl rfl rfl (fC rfl) rfl rfl (Nat.le_of_ble_eq_true rfl) bnd rfl (by first | exact trivial | exact rfl) | exact a_ldE (E := eR) 1 rfl rfl rfl (fC rfl) rfl rfl (Nat.le_of_ble_eq_true rfl) bnd rfl (by first | exact trivial | exact rfl) | exact a_ldE (E := eR) 2 rfl rfl rfl (fC rfl) rfl rfl (Nat.le_of_ble_eq_true rfl) bnd rfl (by first | exact trivial | exact rfl) | exact puL) ?_; refine dp 5 0 [38, 39, 40, 41, 42, 44] [] pu1 ?_; refine dp 6 0 [38, 39, 40, 41, 42, 43] [] pu1 ?_; refine dp 7 3 [38, 39, 40, 41, 42] [] puI ?_; refine dp 8 7 [38, 39, 40, 41, 42] [] (by first | exact a_ldE (E := eR) 0 rfl rfl rfl (fC rfl) rfl rfl (Nat.le_of_ble_eq_true rfl) bnd rfl (by first | exact trivial | exact rfl) | exact a_ldsE (E := eR) 0 rfl rfl rfl (fA rfl) rfl rfl (Nat.le_of_ble_eq_true rfl) (Nat.le_of_ble_eq_true rfl) bnd rfl (by repeat (first | exact trivial | exact rfl | refine And.intro ?_ ?_)) rfl | exact puL) ?_; refine dp 9 255 [38] [] (callFD 0 (hD := (childM_ok _ _ _ preB97 preB97 preB97))) ?_; refine duN 10 1023 [] [] (by first | exact callD0 (n := _) 0 (θ := [0, 1]) (hD := (look_ok st sy B (root sy st) hr preB97 preB97)) | exact callD0 (n := _) 0 (θ := [0, 1]) (hD := (look_ok st sy B _ h2 preB97 preB97))) (by exact rfl) (by exact rfl) ?_; refine duE 11 2047 [] [] (by first | exact a_st_bx rfl rfl rfl rfl (fN rfl rfl) (Nat.le_of_ble_eq_true rfl) rfl | exact a_stF (E := eR) ⟨_, _, _⟩ rfl rfl rfl rfl (fN rfl rfl) (Nat.le_of_ble_eq_true rfl) (Nat.le_of_ble_eq_true rfl) (by first | exact List.getElem?_set_self bnd | exact List.getElem?_eq_getElem bnd) (by (try dsimp only [setRow, List.set_cons_succ, List.set_cons_zero]); first | done | exact rfl) rfl | exact a_stE (E := (eNd B)) _ rfl rfl rfl rfl (fN rfl rfl) bnd (by exact rfl)) (by exact rfl) (by exact rfl) ?_; (refine d_nil ?_; refine dN ?_))); any_goals kernel_rfl) | ((first | refine o_gs rfl rfl (fun hc => ?_) (fun hc => ?_) | refine g_cond rfl (fun hc => ?_) (fun hc => ?_)) <;> (try simp only [dcB] at hc) <;> (try first | contradiction | (exfalso; omega)))
        repeat refine cr ?_
        refine ends_id ?_
        refine endK [?_] (h2 := ?_) (h3 := ?_) (nd := ?_)
        rotate_left 1
        all_goals (repeat' first | exact ce0 | refine ce ?_ | refine ce2 ?_ ?_ | (refine Or.inr (bx_eq rfl rfl ?_); (try dsimp only [C.ren, C.ren.all]); (try exact rfl)) | exact SVLe.refl | refine ceb ?_)
        all_goals first | exact (show nodupB _ = true from rfl) | exact Or.inr rfl | (rfl)
    · have e : pthL B (root sy st) p = some (pre ++ [m]) := by
        rw [← k4, List.drop_of_length_le (by omega)]
        rfl
      rw [e]
      repeat' first | (apply n3; exact a_nilO (eNd B) rfl; exact rfl) | (apply n3; (first | exact a_litE (eNd B) [_] rfl rfl rfl rfl rfl rfl rfl rfl | exact a_appN (fP rfl) rfl rfl rfl nowR (by first | omega | (simp; omega)) (by decide) (by exact rfl)); exact rfl; refine dA ?_) | (apply p3; (first | exact pu1 | exact puL | exact puC | exact a_ldE (E := eR) 0 rfl rfl rfl (fC rfl) rfl rfl (Nat.le_of_ble_eq_true rfl) bnd rfl (by first | exact trivial | exact rfl) | exact a_ldE (E := eR) 1 rfl rfl rfl (fC rfl) rfl rfl (Nat.le_of_ble_eq_true rfl) bnd rfl (by first | exact trivial | exact rfl) | exact a_ldE (E := eR) 2 rfl rfl rfl (fC rfl) rfl rfl (Nat.le_of_ble_eq_true rfl) bnd rfl (by first | exact trivial | exact rfl) | exact a_ldsE (E := eR) 0 rfl rfl rfl (fA rfl) rfl rfl (Nat.le_of_ble_eq_true rfl) (Nat.le_of_ble_eq_true rfl) bnd rfl (by repeat (first | exact trivial | exact rfl | refine And.intro ?_ ?_)) rfl | exact a_sub rfl rfl (by omega) (by omega) | exact a_add rfl rfl (by omega) (by omega) | exact puI); exact rfl) | refine cd ?_ | (apply s3; exact a_appE (fP rfl) rfl rfl rfl rfl nowR (by first | omega | (simp; omega)) (by decide) (by decide) (by exact rfl); exact rfl; exact rfl) | (apply c4 1; exact callK1 (θ := []) (hD := (childrenY_ok _ _ preB97 preB97)); exact rfl; exact rfl; exact rfl; refine dM ?_) | (apply c4 1; exact callK1 (θ := []) (hD := (childrenN_ok _ _ preB97 preB97)); exact rfl; exact rfl; exact rfl; refine dM ?_) | (apply c4 0; exact callK1 (θ := []) (hD := (sizeR_ok _ preB97)); exact rfl; exact rfl; exact rfl; refine dM ?_) | (apply c4 0; exact callK1 (θ := []) (hD := (within_ok _ _ _)); exact rfl; exact rfl; exact rfl; refine dM ?_) | (apply g_drN (id := 9) okM [[],[],[1],[],[3],[],[],[5,6],[5,6,7],[1,2,3,4,5,6,7,8],[0,1,2,3,4,5,6,7,8,9],[0,1,2,3,4,5,6,7,8,9,10]] [([],[]),([],[]),([],[]),([],[]),([],[]),([],[]),([],[]),([],[]),([],[]),([],[]),([],[0,1]),([],[3])] 0; (focus (refine dp 0 0 [39, 40, 41, 42, 43, 44, 45, 46, 47] [] pu1 ?_; refine dp 1 0 [38, 41, 42, 43, 44, 45, 46] [] (a_pure (sv := .one _) rfl) ?_; refine dp 2 1 [38, 41, 42, 43, 44, 45, 46] [] (by first | exact a_ldsE (E := eR) 0 rfl rfl rfl (fA rfl) rfl rfl (Nat.le_of_ble_eq_true rfl) (Nat.le_of_ble_eq_true rfl) bnd rfl (by repeat (first | exact trivial | exact rfl | refine And.intro ?_ ?_)) rfl | exact puL) ?_; refine dp 3 0 [38, 39, 40, 43, 44, 45, 46] [] (a_pure (sv := .one _) rfl) ?_; refine dp 4 1 [38, 39, 40, 43, 44, 45, 46] [] (by first | exact a_ldE (E := eR) 0 rfl rfl rfl (fC rfl) rfl rfl (Nat.le_of_ble_eq_true rfl) bnd rfl (by first | exact trivial | exact rfl) | exact a_ldE (E := eR) 1 rfl rfl rfl (fC rfl) rfl rfl (Nat.le_of_ble_eq_true rfl) bnd rfl (by first | exact trivial | exact rfl) | exact a_ldE (E := eR) 2 rfl rfl rfl (fC rfl) rfl rfl (Nat.le_of_ble_eq_true rfl) bnd rfl (by first | exact trivial | exact rfl) | exact puL) ?_; refine dp 5 0 [38, 39, 40, 41, 42, 44] [] pu1 ?_; refine dp 6 0 [38, 39, 40, 41, 42, 43] [] pu1 ?_; refine dp 7 3 [38, 39, 40, 41, 42] [] puI ?_; refine dp 8 7 [38, 39, 40, 41, 42] [] (by first | exact a_ldE (E := eR) 0 rfl rfl rfl (fC rfl) rfl rfl (Nat.le_of_ble_eq_true rfl) bnd rfl (by first | exact trivial | exact rfl) | exact a_ldsE (E := eR) 0 rfl rfl rfl (fA rfl) rfl rfl (Nat.le_of_ble_eq_true rfl) (Nat.le_of_ble_eq_true rfl) bnd rfl (by repeat (first | exact trivial | exact rfl | refine And.intro ?_ ?_)) rfl | exact puL) ?_; refine dp 9 255 [38] [] (callFD 0 (hD := (childM_ok _ _ _ preB97 preB97 preB97))) ?_; refine duN 10 1023 [] [] (by first | exact callD0 (n := _) 0 (θ := [0, 1]) (hD := (look_ok st sy B (root sy st) hr preB97 preB97)) | exact callD0 (n := _) 0 (θ := [0, 1]) (hD := (look_ok st sy B _ h2 preB97 preB97))) (by exact rfl) (by exact rfl) ?_; refine duE 11 2047 [] [] (by first | exact a_st_bx rfl rfl rfl rfl (fN rfl rfl) (Nat.le_of_ble_eq_true rfl) rfl | exact a_stF (E := eR) ⟨_, _, _⟩ rfl rfl rfl rfl (fN rfl rfl) (Nat.le_of_ble_eq_true rfl) (Nat.le_of_ble_eq_true rfl) (by first | exact List.getElem?_set_self bnd | exact List.getElem?_eq_getElem bnd) (by (try dsimp only [setRow, List.set_cons_succ, List.set_cons_zero]); first | done | exact rfl) rfl | exact a_stE (E := (eNd B)) _ rfl rfl rfl rfl (fN rfl rfl) bnd (by exact rfl)) (by exact rfl) (by exact rfl) ?_; (refine d_nil ?_; refine dN ?_))); any_goals kernel_rfl) | ((first | refine o_gs rfl rfl (fun hc => ?_) (fun hc => ?_) | refine g_cond rfl (fun hc => ?_) (fun hc => ?_)) <;> (try simp only [dcB] at hc) <;> (try first | contradiction | (exfalso; omega)))
      repeat refine cr ?_
      refine ends_id ?_
      refine endK [?_] (h2 := ?_) (h3 := ?_) (nd := ?_)
      rotate_left 1
      all_goals (repeat' first | exact ce0 | refine ce ?_ | refine ce2 ?_ ?_ | (refine Or.inr (bx_eq rfl rfl ?_); (try dsimp only [C.ren, C.ren.all]); (try exact rfl)) | exact SVLe.refl | refine ceb ?_)
      all_goals first | exact (show nodupB _ = true from rfl) | exact Or.inr rfl | (rfl)
end Go.Proofs.YtcmdfohamphndaaGreatDoor
end
section
set_option linter.unusedVariables false
set_option linter.unusedSimpArgs false
set_option maxRecDepth 100000
set_option maxHeartbeats 4000000
namespace Go.Proofs.YtcmdfohamphndaaGreatDoor
open Go Foot
theorem pthL_some {B : Int} {rt m0 : Mach} {p : List Int} (hv : pth B rt p = some m0) : ∃ L, pthL B rt p = some L ∧ L.length = p.length + 1 ∧ ∀ (i : Nat) (h : i < L.length), pth B rt (p.take i) = some L[i] := by
  have h1 := pthL_pth (B := B) p rt
  rw [hv] at h1
  obtain ⟨L, hL⟩ := Option.isSome_iff_exists.1 (show (pthL B rt p).isSome = true from h1)
  have h2 := pthL_get hL
  exact ⟨L, hL, h2.1, fun i h => by rw [h2.2 i (by omega), List.getElem?_eq_getElem h]⟩
theorem stp_is {B : Int} {m : Mach} {k : Int} (h0 : 0 ≤ k) : (stp B m k).isSome = true ↔ k < ((if ndS m B = 0 then chR m else []).length : Int) := by
  unfold stp
  by_cases hs : ndS m B = 0
  · rw [if_pos hs]
    by_cases hk : k < (chR m).length
    · rw [if_pos ⟨hs, h0, hk⟩]; simp [hk]
    · rw [if_neg (fun h => hk h.2.2)]; simp [hk]
  · rw [if_neg hs, if_neg (fun h => hs h.1)]
    simp
    exact h0
theorem preB99 {p : Prop} (h : p := by first | with_reducible assumption | omega | (simp only [List.length_append, List.length_cons, List.length_nil, List.length_set, List.length_replicate, List.length_take, List.length_drop, List.length_tail, List.length_dropLast, List.length_reverse] at *; omega) | exact mem_len (by assumption) (by omega) | (with_reducible refine Int.le_trans (Int.ofNat_le.2 (trimR_len _)) ?_; simp only [List.length_cons, List.length_tail]; omega) | (exact (ruAt_ok (by assumption) (by assumption) (by assumption)).2.1) | (exact (ruAt_ok (by assumption) (by assumption) (by assumption)).2.1) | (have := vMach_bd (by assumption); omega) | (simp only [mC_ch, mC_tu]; omega) | (have := vTag_bd (by assumption); omega) | (have := (‹Gd _ _›).le; omega) | (exact tgHalts_no (by assumption)) | (exact tgHead (by assumption) (by assumption) (by assumption)) | (exact Int.le_trans (tgStep_gd (by assumption) (by assumption) (by assumption) (by assumption)).le (by decide)) | (exact vTag_r (by assumption)) | (with_reducible refine Int.le_trans (Int.ofNat_le.2 (pushL_len _ _)) ?_; simp only [List.length_dropLast]; omega) | exact ls_at (by assumption) (by omega) | exact pt_gd (by assumption) | exact lv_at (by assumption) (by omega) | exact pt_gd (lv_at (by assumption) (by omega)) | exact (ask_ok (by assumption)).1 | exact (ask_ok (by assumption)).2.1 | exact (ask_ok (by assumption)).2.2.1 | exact (ask_ok (by assumption)).2.2.2 | trivial) : p := h
theorem childrenA_ok (m : Mach) (B : Int) (hm : vMach m = true) : Does Tryz.prog 92 [.agg (ndC m B)] [] (.one (.gv 0)) [.row 3 (rows eR (if ndS m B = 0 then chR m else []))] := children_ok m (ndS m B) (ndA m B) hm
theorem next_f_ok (st sy B : Int) (p : List Int) (m0 : Mach) (hp : (p.length : Int) ≤ 1048576) (h1 : 1 ≤ st) (h2 : st ≤ 6) (h3 : 2 ≤ sy) (h4 : sy ≤ 6) (h5 : 0 ≤ B) (h6 : B ≤ 1000000) (hv : pth B (root sy st) p = some m0) : Does Tryz.prog 76 [.one (.gv 0), .one (shI p)] [.bx (foC st sy B 0), foM B sy st 1] (.tup [(false, [.gv 2]), (false, [boo (nxt B (root sy st) m0 p 0).isSome])]) [.bx (foC st sy B 0), foM B sy st 1, roI ((nxt B (root sy st) m0 p 0).getD [])] := by
  have hr := root_ok h3 h4 h1 (by omega)
  obtain ⟨L, hL, hLl, hLg⟩ := pthL_some hv
  have hm := (pth_ok hr hv).1.v
  have hg : L[((p.length : Nat) : Int).toNat]'(by omega) = m0 := by
    have := hLg ((p.length : Nat) : Int).toNat (by omega)
    rw [List.take_of_length_le (by simp), hv] at this
    exact (Option.some.inj this).symm
  have hvL : vMach (L[((p.length : Nat) : Int).toNat]'(by omega)) = true := by rw [hg]; exact hm
  have hlr := chR_len hm
  have hN : nxt B (root sy st) m0 p 0 = if ndS m0 B = 0 then some (p ++ [0]) else asd B (root sy st) p 0 p.length := by unfold nxt; rfl
  rw [hN]
  refine does_of (k := 2) Tryz.func76 rfl Tryz.ntmps76 rfl rfl fun w F0 S0 ρ0 => ?_
  dsimp only [argT, argH]
  repeat' first | (apply n3; exact a_nilO eI rfl; exact rfl) | (apply p3; exact pu1; exact rfl) | refine cdn ?_ | refine g_reg (id := 0) ?_ | refine g_reg (id := 1) ?_ | (apply c4 1; exact callK0 (θ := [0, 1]) (hD := (at_f_ok st sy B p preB99 preB99 preB99 preB99 preB99 preB99 preB99)); exact rfl; exact rfl; exact rfl; refine dM ?_) | ((first | refine o_gs rfl rfl (fun hc => ?_) (fun hc => ?_) | refine g_cond rfl (fun hc => ?_) (fun hc => ?_)) <;> (try simp only [dcB] at hc) <;> (try first | contradiction | (exfalso; omega)))
  simp only [hL, Option.getD_some, Option.isSome_some]
  repeat' first | (apply n3; exact a_nilO eI rfl; exact rfl) | (apply p3; (first | exact pu1 | exact puL | exact puN | exact a_len_str rfl (fT rfl) | exact a_ldE (E := (eNd B)) 0 rfl rfl rfl (fC rfl) rfl rfl (Nat.le_of_ble_eq_true rfl) bnd rfl (by first | exact trivial | exact rfl) | exact a_ldsE (E := (eNd B)) 0 rfl rfl rfl (fA rfl) rfl rfl (Nat.le_of_ble_eq_true rfl) (Nat.le_of_ble_eq_true rfl) bnd rfl (by repeat (first | exact trivial | exact rfl | refine And.intro ?_ ?_)) rfl | exact puC | exact puI); exact rfl) | refine cd ?_ | (apply c4 1; exact callK0 (θ := [0, 1]) (hD := (at_f_ok st sy B p preB99 preB99 preB99 preB99 preB99 preB99 preB99)); exact rfl; exact rfl; exact rfl; refine dM ?_) | (apply c4 1; exact callK1 (θ := []) (hD := (childrenA_ok _ _ preB99)); exact rfl; exact rfl; exact rfl; refine dM ?_) | (refine o_gs rfl rfl (fun hc => ?_) (fun hc => ?_) <;> (try simp only [dcB] at hc) <;> (try first | contradiction | (exfalso; omega))) | (refine g_cond (c := .tmp 31) rfl (fun hc => ?_) (fun hc => ?_) <;> (try simp only [dcB] at hc) <;> (try (first | contradiction | (exfalso; omega)))) | (refine g_cond (c := .tmp 45) rfl (fun hc => ?_) (fun hc => ?_) <;> (try simp only [dcB] at hc) <;> (try (first | contradiction | (exfalso; omega))))
  simp only [hg]
  by_cases hs : ndS m0 B = 0
  · simp only [if_pos hs]
    have hj : JnOk [p, [0]] := jn_two (by simp; omega)
    repeat' first | (apply p3; exact a_litF (dst := some 24) eI [_] rfl rfl rfl rfl rfl rfl rfl rfl nowR; exact rfl) | (apply n3; exact a_nilO eI rfl; exact rfl) | (apply n3; exact a_litE eW [_, _] rfl rfl rfl rfl rfl rfl rfl rfl; exact rfl; refine dA ?_) | (apply p3; (first | exact pu1 | exact puL | exact puN | exact a_len_str rfl (fT rfl) | exact a_ldE (E := (eNd B)) 0 rfl rfl rfl (fC rfl) rfl rfl (Nat.le_of_ble_eq_true rfl) bnd rfl (by first | exact trivial | exact rfl) | exact a_ldsE (E := (eNd B)) 0 rfl rfl rfl (fA rfl) rfl rfl (Nat.le_of_ble_eq_true rfl) (Nat.le_of_ble_eq_true rfl) bnd rfl (by repeat (first | exact trivial | exact rfl | refine And.intro ?_ ?_)) rfl | exact puC | exact a_sub rfl rfl (by omega) (by omega) | exact puI); exact rfl) | refine cd ?_ | (apply c4 1; exact callK0 (θ := [0, 1]) (hD := (at_f_ok st sy B p preB99 preB99 preB99 preB99 preB99 preB99 preB99)); exact rfl; exact rfl; exact rfl; refine dM ?_) | (apply c4 1; exact callK1 (θ := []) (hD := (childrenA_ok _ _ preB99)); exact rfl; exact rfl; exact rfl; refine dM ?_) | (apply c4 1; exact callK1 (θ := []) (hD := (joined_ok _ preB99)); exact rfl; exact rfl; exact rfl; refine dM ?_) | (apply g_drN (id := 7) okM [[],[],[0,1],[0,1,2],[0,1,2,3],[],[],[5,6],[5,6,7],[5,6,7,8],[5,6,7,8,9],[0,1,2,3,4,5,6,7,8,9,10]] [([],[]),([],[]),([],[]),([],[]),([],[]),([],[]),([],[]),([],[]),([],[]),([0],[]),([],[]),([],[])] 1; (focus (refine dp 0 0 [35, 39, 40, 41, 42, 43, 44] [(true, 0)] pu1 ?_; refine dp 1 0 [34, 39, 40, 41, 42, 43, 44] [(true, 0)] pu1 ?_; refine dp 2 3 [39, 40, 41, 42, 43, 44] [(true, 0)] puI ?_; refine dp 3 7 [39, 40, 41, 42, 43, 44] [(true, 0)] (by first | exact a_ldE (E := (eNd B)) 0 rfl rfl rfl (fC rfl) rfl rfl (Nat.le_of_ble_eq_true rfl) bnd rfl (by first | exact trivial | exact rfl) | exact a_ldE (E := (eNd B)) 1 rfl rfl rfl (fC rfl) rfl rfl (Nat.le_of_ble_eq_true rfl) bnd rfl (by first | exact trivial | exact rfl) | exact a_ldE (E := (eNd B)) 2 rfl rfl rfl (fC rfl) rfl rfl (Nat.le_of_ble_eq_true rfl) bnd rfl (by first | exact trivial | exact rfl) | exact a_ldE (E := (eNd B)) 3 rfl rfl rfl (fC rfl) rfl rfl (Nat.le_of_ble_eq_true rfl) bnd rfl (by first | exact trivial | exact rfl) | exact a_ldE (E := (eNd B)) 4 rfl rfl rfl (fC rfl) rfl rfl (Nat.le_of_ble_eq_true rfl) bnd rfl (by first | exact trivial | exact rfl) | exact puL) ?_; refine dp 4 15 [39, 40, 41, 42, 43, 44] [(true, 0)] (a_add rfl rfl (by omega) (by omega)) ?_; refine dp 5 0 [34, 35, 36, 37, 38, 40] [] pu1 ?_; refine dp 6 0 [34, 35, 36, 37, 38, 39] [] pu1 ?_; refine dp 7 3 [34, 35, 36, 37, 38] [] puI ?_; refine dp 8 7 [34, 35, 36, 37, 38] [] (by first | exact a_ldE (E := (eNd B)) 0 rfl rfl rfl (fC rfl) rfl rfl (Nat.le_of_ble_eq_true rfl) bnd rfl (by first | exact trivial | exact rfl) | exact a_ldsE (E := (eNd B)) 0 rfl rfl rfl (fA rfl) rfl rfl (Nat.le_of_ble_eq_true rfl) (Nat.le_of_ble_eq_true rfl) bnd rfl (by repeat (first | exact trivial | exact rfl | refine And.intro ?_ ?_)) rfl | exact puL) ?_; refine duN 9 15 [34, 35, 36, 37, 38] [] (callD1 (n := _) 0 (θ := []) (hD := (childrenA_ok _ _ preB99))) (by exact rfl) (by exact rfl) ?_; refine dp 10 31 [34, 35, 36, 37, 38] [] (callD1 (n := _) 1 (θ := []) (hD := (sizeR_ok _ preB99))) ?_; refine dp 11 2047 [] [] puC ?_; (refine d_nil ?_; refine dN ?_))); any_goals kernel_rfl) | (apply g_drN (id := 8) okM [[],[],[0,1],[0,1,2],[],[],[4,5],[4,5,6],[4,5,6,7],[4,5,6,7,8],[0,1,2,3,4,5,6,7,8,9],[0,1,2,3,4,5,6,7,8,9,10],[0,1,2,3,4,5,6,7,8,9,10,11]] [([],[]),([],[]),([],[]),([0],[]),([],[]),([],[]),([],[]),([],[]),([],[]),([1],[]),([2],[_]),([],[]),([],[])] 3; (focus (refine dp 0 0 [47, 50, 51, 52, 53, 54, 55] [(true, 1)] pu1 ?_; refine dp 1 0 [46, 50, 51, 52, 53, 54, 55] [(true, 1)] pu1 ?_; refine dp 2 3 [50, 51, 52, 53, 54, 55] [(true, 1)] (by first | exact a_sl0 rfl rfl (fS rfl) | exact a_slH rfl rfl rfl (fS rfl) (by omega) (by omega) (by exact rfl) | exact atS 0 (fun _ hj => a_slHO rfl rfl rfl (fS rfl) (by omega) (by omega) (by exact rfl) hj) (by decide)) ?_; refine duN 3 7 [50, 51, 52, 53, 54, 55] [(true, 1)] (callD1 (n := _) 0 (θ := []) (hD := (clone_ok _ preB99))) (by exact rfl) (by exact rfl) ?_; refine dp 4 0 [46, 47, 48, 49, 51] [(true, 0)] pu1 ?_; refine dp 5 0 [46, 47, 48, 49, 50] [(true, 0)] pu1 ?_; refine dp 6 3 [46, 47, 48, 49] [(true, 0)] puI ?_; refine dp 7 7 [46, 47, 48, 49] [(true, 0)] (by first | exact a_ldE (E := (eNd B)) 0 rfl rfl rfl (fC rfl) rfl rfl (Nat.le_of_ble_eq_true rfl) bnd rfl (by first | exact trivial | exact rfl) | exact a_ldE (E := (eNd B)) 1 rfl rfl rfl (fC rfl) rfl rfl (Nat.le_of_ble_eq_true rfl) bnd rfl (by first | exact trivial | exact rfl) | exact a_ldE (E := (eNd B)) 2 rfl rfl rfl (fC rfl) rfl rfl (Nat.le_of_ble_eq_true rfl) bnd rfl (by first | exact trivial | exact rfl) | exact a_ldE (E := (eNd B)) 3 rfl rfl rfl (fC rfl) rfl rfl (Nat.le_of_ble_eq_true rfl) bnd rfl (by first | exact trivial | exact rfl) | exact a_ldE (E := (eNd B)) 4 rfl rfl rfl (fC rfl) rfl rfl (Nat.le_of_ble_eq_true rfl) bnd rfl (by first | exact trivial | exact rfl) | exact puL) ?_; refine dp 8 15 [46, 47, 48, 49] [(true, 0)] (a_add rfl rfl (by omega) (by omega)) ?_; refine duE 9 31 [46, 47, 48, 49] [(true, 0)] (atN 1 (fun _ => a_litE eI [_] rfl rfl rfl rfl rfl rfl rfl rfl)) (by exact rfl) (by exact rfl) ?_; refine duE 10 1023 [] [] (atS 2 (fun _ hj => a_appE (fP rfl) rfl rfl rfl rfl nowR (by first | omega | (simp; omega)) (by decide) hj (by exact rfl)) (by decide)) (by exact rfl) (by exact rfl) ?_; refine dp 11 2047 [] [] pu1 ?_; refine dp 12 4095 [] [] (a_pure (sv := .one _) rfl) ?_; (refine d_nil ?_; refine dN ?_))); any_goals kernel_rfl) | ((first | refine o_gs rfl rfl (fun hc => ?_) (fun hc => ?_) | refine g_cond rfl (fun hc => ?_) (fun hc => ?_)) <;> (try simp only [dcB] at hc) <;> (try first | contradiction | (exfalso; omega)))
    repeat refine cr ?_
    refine ends_id ?_
    refine endK [?_] (h2 := ?_) (h3 := ?_) (nd := ?_)
    rotate_left 1
    all_goals (repeat' first | exact ce0 | refine ce ?_ | refine ce2 ?_ ?_ | (refine Or.inr (bx_eq rfl rfl ?_); (try dsimp only [C.ren, C.ren.all]); (try exact rfl)) | exact SVLe.refl | refine ceb ?_)
    all_goals first | exact (show nodupB _ = true from rfl) | exact Or.inr rfl | ((simp))
  · simp only [if_neg hs, List.length_nil]
    repeat' first | (apply p3; exact a_litF (dst := some 24) eI [_] rfl rfl rfl rfl rfl rfl rfl rfl nowR; exact rfl) | (apply n3; exact a_nilO eI rfl; exact rfl) | (apply n3; exact a_litE eW [_, _] rfl rfl rfl rfl rfl rfl rfl rfl; exact rfl; refine dA ?_) | (apply p3; (first | exact pu1 | exact puL | exact puN | exact a_len_str rfl (fT rfl) | exact a_ldE (E := (eNd B)) 0 rfl rfl rfl (fC rfl) rfl rfl (Nat.le_of_ble_eq_true rfl) bnd rfl (by first | exact trivial | exact rfl) | exact a_ldsE (E := (eNd B)) 0 rfl rfl rfl (fA rfl) rfl rfl (Nat.le_of_ble_eq_true rfl) (Nat.le_of_ble_eq_true rfl) bnd rfl (by repeat (first | exact trivial | exact rfl | refine And.intro ?_ ?_)) rfl | exact puC | exact a_sub rfl rfl (by omega) (by omega) | exact puI); exact rfl) | refine cd ?_ | (apply c4 1; exact callK0 (θ := [0, 1]) (hD := (at_f_ok st sy B p preB99 preB99 preB99 preB99 preB99 preB99 preB99)); exact rfl; exact rfl; exact rfl; refine dM ?_) | (apply c4 1; exact callK1 (θ := []) (hD := (childrenA_ok _ _ preB99)); exact rfl; exact rfl; exact rfl; refine dM ?_) | (apply c4 1; exact callK1 (θ := []) (hD := (joined_ok _ preB99)); exact rfl; exact rfl; exact rfl; refine dM ?_) | (apply g_drN (id := 7) okM [[],[],[0,1],[0,1,2],[0,1,2,3],[],[],[5,6],[5,6,7],[5,6,7,8],[5,6,7,8,9],[0,1,2,3,4,5,6,7,8,9,10]] [([],[]),([],[]),([],[]),([],[]),([],[]),([],[]),([],[]),([],[]),([],[]),([0],[]),([],[]),([],[])] 1; (focus (refine dp 0 0 [35, 39, 40, 41, 42, 43, 44] [(true, 0)] pu1 ?_; refine dp 1 0 [34, 39, 40, 41, 42, 43, 44] [(true, 0)] pu1 ?_; refine dp 2 3 [39, 40, 41, 42, 43, 44] [(true, 0)] puI ?_; refine dp 3 7 [39, 40, 41, 42, 43, 44] [(true, 0)] (by first | exact a_ldE (E := (eNd B)) 0 rfl rfl rfl (fC rfl) rfl rfl (Nat.le_of_ble_eq_true rfl) bnd rfl (by first | exact trivial | exact rfl) | exact a_ldE (E := (eNd B)) 1 rfl rfl rfl (fC rfl) rfl rfl (Nat.le_of_ble_eq_true rfl) bnd rfl (by first | exact trivial | exact rfl) | exact a_ldE (E := (eNd B)) 2 rfl rfl rfl (fC rfl) rfl rfl (Nat.le_of_ble_eq_true rfl) bnd rfl (by first | exact trivial | exact rfl) | exact a_ldE (E := (eNd B)) 3 rfl rfl rfl (fC rfl) rfl rfl (Nat.le_of_ble_eq_true rfl) bnd rfl (by first | exact trivial | exact rfl) | exact a_ldE (E := (eNd B)) 4 rfl rfl rfl (fC rfl) rfl rfl (Nat.le_of_ble_eq_true rfl) bnd rfl (by first | exact trivial | exact rfl) | exact puL) ?_; refine dp 4 15 [39, 40, 41, 42, 43, 44] [(true, 0)] (a_add rfl rfl (by omega) (by omega)) ?_; refine dp 5 0 [34, 35, 36, 37, 38, 40] [] pu1 ?_; refine dp 6 0 [34, 35, 36, 37, 38, 39] [] pu1 ?_; refine dp 7 3 [34, 35, 36, 37, 38] [] puI ?_; refine dp 8 7 [34, 35, 36, 37, 38] [] (by first | exact a_ldE (E := (eNd B)) 0 rfl rfl rfl (fC rfl) rfl rfl (Nat.le_of_ble_eq_true rfl) bnd rfl (by first | exact trivial | exact rfl) | exact a_ldsE (E := (eNd B)) 0 rfl rfl rfl (fA rfl) rfl rfl (Nat.le_of_ble_eq_true rfl) (Nat.le_of_ble_eq_true rfl) bnd rfl (by repeat (first | exact trivial | exact rfl | refine And.intro ?_ ?_)) rfl | exact puL) ?_; refine duN 9 15 [34, 35, 36, 37, 38] [] (callD1 (n := _) 0 (θ := []) (hD := (childrenA_ok _ _ preB99))) (by exact rfl) (by exact rfl) ?_; refine dp 10 31 [34, 35, 36, 37, 38] [] (callD1 (n := _) 1 (θ := []) (hD := (sizeR_ok _ preB99))) ?_; refine dp 11 2047 [] [] puC ?_; (refine d_nil ?_; refine dN ?_))); any_goals kernel_rfl) | (apply g_drN (id := 8) okM [[],[],[0,1],[0,1,2],[],[],[4,5],[4,5,6],[4,5,6,7],[4,5,6,7,8],[0,1,2,3,4,5,6,7,8,9],[0,1,2,3,4,5,6,7,8,9,10],[0,1,2,3,4,5,6,7,8,9,10,11]] [([],[]),([],[]),([],[]),([0],[]),([],[]),([],[]),([],[]),([],[]),([],[]),([1],[]),([2],[_]),([],[]),([],[])] 3; (focus (refine dp 0 0 [47, 50, 51, 52, 53, 54, 55] [(true, 1)] pu1 ?_; refine dp 1 0 [46, 50, 51, 52, 53, 54, 55] [(true, 1)] pu1 ?_; refine dp 2 3 [50, 51, 52, 53, 54, 55] [(true, 1)] (by first | exact a_sl0 rfl rfl (fS rfl) | exact a_slH rfl rfl rfl (fS rfl) (by omega) (by omega) (by exact rfl) | exact atS 0 (fun _ hj => a_slHO rfl rfl rfl (fS rfl) (by omega) (by omega) (by exact rfl) hj) (by decide)) ?_; refine duN 3 7 [50, 51, 52, 53, 54, 55] [(true, 1)] (callD1 (n := _) 0 (θ := []) (hD := (clone_ok _ preB99))) (by exact rfl) (by exact rfl) ?_; refine dp 4 0 [46, 47, 48, 49, 51] [(true, 0)] pu1 ?_; refine dp 5 0 [46, 47, 48, 49, 50] [(true, 0)] pu1 ?_; refine dp 6 3 [46, 47, 48, 49] [(true, 0)] puI ?_; refine dp 7 7 [46, 47, 48, 49] [(true, 0)] (by first | exact a_ldE (E := (eNd B)) 0 rfl rfl rfl (fC rfl) rfl rfl (Nat.le_of_ble_eq_true rfl) bnd rfl (by first | exact trivial | exact rfl) | exact a_ldE (E := (eNd B)) 1 rfl rfl rfl (fC rfl) rfl rfl (Nat.le_of_ble_eq_true rfl) bnd rfl (by first | exact trivial | exact rfl) | exact a_ldE (E := (eNd B)) 2 rfl rfl rfl (fC rfl) rfl rfl (Nat.le_of_ble_eq_true rfl) bnd rfl (by first | exact trivial | exact rfl) | exact a_ldE (E := (eNd B)) 3 rfl rfl rfl (fC rfl) rfl rfl (Nat.le_of_ble_eq_true rfl) bnd rfl (by first | exact trivial | exact rfl) | exact a_ldE (E := (eNd B)) 4 rfl rfl rfl (fC rfl) rfl rfl (Nat.le_of_ble_eq_true rfl) bnd rfl (by first | exact trivial | exact rfl) | exact puL) ?_; refine dp 8 15 [46, 47, 48, 49] [(true, 0)] (a_add rfl rfl (by omega) (by omega)) ?_; refine duE 9 31 [46, 47, 48, 49] [(true, 0)] (atN 1 (fun _ => a_litE eI [_] rfl rfl rfl rfl rfl rfl rfl rfl)) (by exact rfl) (by exact rfl) ?_; refine duE 10 1023 [] [] (atS 2 (fun _ hj => a_appE (fP rfl) rfl rfl rfl rfl nowR (by first | omega | (simp; omega)) (by decide) hj (by exact rfl)) (by decide)) (by exact rfl) (by exact rfl) ?_; refine dp 11 2047 [] [] pu1 ?_; refine dp 12 4095 [] [] (a_pure (sv := .one _) rfl) ?_; (refine d_nil ?_; refine dN ?_))); any_goals kernel_rfl) | ((first | refine o_gs rfl rfl (fun hc => ?_) (fun hc => ?_) | refine g_cond rfl (fun hc => ?_) (fun hc => ?_)) <;> (try simp only [dcB] at hc) <;> (try first | contradiction | (exfalso; omega)))
    refine g_loop_id ?_
    refine loopK [1, 4, 5, 6] [] (fun k : Int => -1 ≤ k ∧ k < p.length ∧ asd B (root sy st) p 0 (k + 1).toNat = asd B (root sy st) p 0 p.length) (fun k => [(8, .one (int k))]) (fun _ => []) (fun k => (k + 1).toNat) ((p.length : Int) - 1) [0, 1, 2, 3, 4] (hI := ?_) (hr := ?_)
    · exact ⟨by omega, by omega, by simp⟩
    · rintro k ⟨k0, k1, k2⟩
      dsimp only [List.cons_append, List.nil_append] at *
      skip
      repeat' first | (apply n3; exact a_nilO eI rfl; exact rfl) | (apply p3; (first | exact pu1 | exact puC); exact rfl) | refine cdn ?_ | refine g_reg (id := 5) ?_ | refine g_reg (id := 9) ?_ | ((first | refine o_gs rfl rfl (fun hc => ?_) (fun hc => ?_) | refine g_cond rfl (fun hc => ?_) (fun hc => ?_)) <;> (try simp only [dcB] at hc) <;> (try first | contradiction | (exfalso; omega)))
      · obtain ⟨m, q1, q2, q3, q4, q5⟩ := pth_at hr hv k.toNat (by omega)
        have hmk := q2.v
        have hlm := chR_len hmk
        have hgk : L[k.toNat]'(by omega) = m := by
          have := hLg k.toNat (by omega)
          rw [q1] at this
          exact (Option.some.inj this).symm
        have hvk : vMach (L[k.toNat]'(by omega)) = true := by rw [hgk]; exact hmk
        have hn := asd_step (B := B) (rt := root sy st) (p := p) (least := 0) (n := k + 1) (m := m) (by omega) (by omega) (by omega) (by rw [show k + 1 - 1 = k by omega]; exact q1)
        simp only [show k + 1 - 1 = k by omega] at hn
        have his := stp_is (B := B) (m := m) (k := p[k.toNat]'(by omega) + 1) (by omega)
        rw [if_pos q3] at his
        rw [← k2, hn]
        have hll : ((if ndS (L[k.toNat]'(by omega)) B = 0 then chR (L[k.toNat]'(by omega)) else []).length : Int) ≤ 16777216 := by rw [hgk, if_pos q3]; omega
        repeat' first | (apply n3; exact a_nilO eI rfl; exact rfl) | (apply p3; (first | exact pu1 | exact puC); exact rfl) | refine cd ?_ | (apply g_drN (id := 7) okM [[],[],[0,1],[0,1,2],[0,1,2,3],[],[],[5,6],[5,6,7],[5,6,7,8],[5,6,7,8,9],[0,1,2,3,4,5,6,7,8,9,10]] [([],[]),([],[]),([],[]),([],[]),([],[]),([],[]),([],[]),([],[]),([],[]),([0],[]),([],[]),([],[])] 1; (focus (refine dp 0 0 [35, 39, 40, 41, 42, 43, 44] [(true, 0)] pu1 ?_; refine dp 1 0 [34, 39, 40, 41, 42, 43, 44] [(true, 0)] pu1 ?_; refine dp 2 3 [39, 40, 41, 42, 43, 44] [(true, 0)] puI ?_; refine dp 3 7 [39, 40, 41, 42, 43, 44] [(true, 0)] (by first | exact a_ldE (E := (eNd B)) 0 rfl rfl rfl (fC rfl) rfl rfl (Nat.le_of_ble_eq_true rfl) bnd rfl (by first | exact trivial | exact rfl) | exact a_ldE (E := (eNd B)) 1 rfl rfl rfl (fC rfl) rfl rfl (Nat.le_of_ble_eq_true rfl) bnd rfl (by first | exact trivial | exact rfl) | exact a_ldE (E := (eNd B)) 2 rfl rfl rfl (fC rfl) rfl rfl (Nat.le_of_ble_eq_true rfl) bnd rfl (by first | exact trivial | exact rfl) | exact a_ldE (E := (eNd B)) 3 rfl rfl rfl (fC rfl) rfl rfl (Nat.le_of_ble_eq_true rfl) bnd rfl (by first | exact trivial | exact rfl) | exact a_ldE (E := (eNd B)) 4 rfl rfl rfl (fC rfl) rfl rfl (Nat.le_of_ble_eq_true rfl) bnd rfl (by first | exact trivial | exact rfl) | exact puL) ?_; refine dp 4 15 [39, 40, 41, 42, 43, 44] [(true, 0)] (a_add rfl rfl (by omega) (by omega)) ?_; refine dp 5 0 [34, 35, 36, 37, 38, 40] [] pu1 ?_; refine dp 6 0 [34, 35, 36, 37, 38, 39] [] pu1 ?_; refine dp 7 3 [34, 35, 36, 37, 38] [] puI ?_; refine dp 8 7 [34, 35, 36, 37, 38] [] (by first | exact a_ldE (E := (eNd B)) 0 rfl rfl rfl (fC rfl) rfl rfl (Nat.le_of_ble_eq_true rfl) bnd rfl (by first | exact trivial | exact rfl) | exact a_ldsE (E := (eNd B)) 0 rfl rfl rfl (fA rfl) rfl rfl (Nat.le_of_ble_eq_true rfl) (Nat.le_of_ble_eq_true rfl) bnd rfl (by repeat (first | exact trivial | exact rfl | refine And.intro ?_ ?_)) rfl | exact puL) ?_; refine duN 9 15 [34, 35, 36, 37, 38] [] (callD1 (n := _) 0 (θ := []) (hD := (childrenA_ok _ _ preB99))) (by exact rfl) (by exact rfl) ?_; refine dp 10 31 [34, 35, 36, 37, 38] [] (callD1 (n := _) 1 (θ := []) (hD := (sizeR_ok _ preB99))) ?_; refine dp 11 2047 [] [] puC ?_; (refine d_nil ?_; refine dN ?_))); any_goals kernel_rfl) | (refine o_gs rfl rfl (fun hc => ?_) (fun hc => ?_) <;> (try simp only [dcB] at hc) <;> (try first | contradiction | (exfalso; omega))) | (refine g_cond (c := .tmp 22) rfl (fun hc => ?_) (fun hc => ?_) <;> (try simp only [dcB] at hc) <;> (try (first | contradiction | (exfalso; omega)))) | (refine g_cond (c := .tmp 31) rfl (fun hc => ?_) (fun hc => ?_) <;> (try simp only [dcB] at hc) <;> (try (first | contradiction | (exfalso; omega))))
        simp only [hgk, if_pos q3]
        by_cases hc2 : p[k.toNat]'(by omega) + 1 < ((chR m).length : Int)
        · have e := his.2 hc2
          simp only [e, if_true, Option.isSome_some, Option.getD_some]
          repeat' first | (apply n3; exact a_nilO eI rfl; exact rfl) | (apply p3; (first | exact pu1 | exact puC | exact a_sub rfl rfl (by omega) (by omega)); exact rfl) | refine cd ?_ | (apply g_drN (id := 7) okM [[],[],[0,1],[0,1,2],[0,1,2,3],[],[],[5,6],[5,6,7],[5,6,7,8],[5,6,7,8,9],[0,1,2,3,4,5,6,7,8,9,10]] [([],[]),([],[]),([],[]),([],[]),([],[]),([],[]),([],[]),([],[]),([],[]),([0],[]),([],[]),([],[])] 1; (focus (refine dp 0 0 [35, 39, 40, 41, 42, 43, 44] [(true, 0)] pu1 ?_; refine dp 1 0 [34, 39, 40, 41, 42, 43, 44] [(true, 0)] pu1 ?_; refine dp 2 3 [39, 40, 41, 42, 43, 44] [(true, 0)] puI ?_; refine dp 3 7 [39, 40, 41, 42, 43, 44] [(true, 0)] (by first | exact a_ldE (E := (eNd B)) 0 rfl rfl rfl (fC rfl) rfl rfl (Nat.le_of_ble_eq_true rfl) bnd rfl (by first | exact trivial | exact rfl) | exact a_ldE (E := (eNd B)) 1 rfl rfl rfl (fC rfl) rfl rfl (Nat.le_of_ble_eq_true rfl) bnd rfl (by first | exact trivial | exact rfl) | exact a_ldE (E := (eNd B)) 2 rfl rfl rfl (fC rfl) rfl rfl (Nat.le_of_ble_eq_true rfl) bnd rfl (by first | exact trivial | exact rfl) | exact a_ldE (E := (eNd B)) 3 rfl rfl rfl (fC rfl) rfl rfl (Nat.le_of_ble_eq_true rfl) bnd rfl (by first | exact trivial | exact rfl) | exact a_ldE (E := (eNd B)) 4 rfl rfl rfl (fC rfl) rfl rfl (Nat.le_of_ble_eq_true rfl) bnd rfl (by first | exact trivial | exact rfl) | exact puL) ?_; refine dp 4 15 [39, 40, 41, 42, 43, 44] [(true, 0)] (a_add rfl rfl (by omega) (by omega)) ?_; refine dp 5 0 [34, 35, 36, 37, 38, 40] [] pu1 ?_; refine dp 6 0 [34, 35, 36, 37, 38, 39] [] pu1 ?_; refine dp 7 3 [34, 35, 36, 37, 38] [] puI ?_; refine dp 8 7 [34, 35, 36, 37, 38] [] (by first | exact a_ldE (E := (eNd B)) 0 rfl rfl rfl (fC rfl) rfl rfl (Nat.le_of_ble_eq_true rfl) bnd rfl (by first | exact trivial | exact rfl) | exact a_ldsE (E := (eNd B)) 0 rfl rfl rfl (fA rfl) rfl rfl (Nat.le_of_ble_eq_true rfl) (Nat.le_of_ble_eq_true rfl) bnd rfl (by repeat (first | exact trivial | exact rfl | refine And.intro ?_ ?_)) rfl | exact puL) ?_; refine duN 9 15 [34, 35, 36, 37, 38] [] (callD1 (n := _) 0 (θ := []) (hD := (childrenA_ok _ _ preB99))) (by exact rfl) (by exact rfl) ?_; refine dp 10 31 [34, 35, 36, 37, 38] [] (callD1 (n := _) 1 (θ := []) (hD := (sizeR_ok _ preB99))) ?_; refine dp 11 2047 [] [] puC ?_; (refine d_nil ?_; refine dN ?_))); any_goals kernel_rfl) | (apply g_drN (id := 8) okM [[],[],[0,1],[0,1,2],[],[],[4,5],[4,5,6],[4,5,6,7],[4,5,6,7,8],[0,1,2,3,4,5,6,7,8,9],[0,1,2,3,4,5,6,7,8,9,10],[0,1,2,3,4,5,6,7,8,9,10,11]] [([],[]),([],[]),([],[]),([0],[]),([],[]),([],[]),([],[]),([],[]),([],[]),([1],[]),([2],[6]),([],[]),([],[])] 3; (focus (refine dp 0 0 [47, 50, 51, 52, 53, 54, 55] [(true, 1)] pu1 ?_; refine dp 1 0 [46, 50, 51, 52, 53, 54, 55] [(true, 1)] pu1 ?_; refine dp 2 3 [50, 51, 52, 53, 54, 55] [(true, 1)] (by first | exact a_sl0 rfl rfl (fS rfl) | exact a_slH rfl rfl rfl (fS rfl) (by omega) (by omega) (by exact rfl) | exact atS 0 (fun _ hj => a_slHO rfl rfl rfl (fS rfl) (by omega) (by omega) (by exact rfl) hj) (by decide)) ?_; refine duN 3 7 [50, 51, 52, 53, 54, 55] [(true, 1)] (callD1 (n := _) 0 (θ := []) (hD := (clone_ok _ preB99))) (by exact rfl) (by exact rfl) ?_; refine dp 4 0 [46, 47, 48, 49, 51] [(true, 0)] pu1 ?_; refine dp 5 0 [46, 47, 48, 49, 50] [(true, 0)] pu1 ?_; refine dp 6 3 [46, 47, 48, 49] [(true, 0)] puI ?_; refine dp 7 7 [46, 47, 48, 49] [(true, 0)] (by first | exact a_ldE (E := (eNd B)) 0 rfl rfl rfl (fC rfl) rfl rfl (Nat.le_of_ble_eq_true rfl) bnd rfl (by first | exact trivial | exact rfl) | exact a_ldE (E := (eNd B)) 1 rfl rfl rfl (fC rfl) rfl rfl (Nat.le_of_ble_eq_true rfl) bnd rfl (by first | exact trivial | exact rfl) | exact a_ldE (E := (eNd B)) 2 rfl rfl rfl (fC rfl) rfl rfl (Nat.le_of_ble_eq_true rfl) bnd rfl (by first | exact trivial | exact rfl) | exact a_ldE (E := (eNd B)) 3 rfl rfl rfl (fC rfl) rfl rfl (Nat.le_of_ble_eq_true rfl) bnd rfl (by first | exact trivial | exact rfl) | exact a_ldE (E := (eNd B)) 4 rfl rfl rfl (fC rfl) rfl rfl (Nat.le_of_ble_eq_true rfl) bnd rfl (by first | exact trivial | exact rfl) | exact puL) ?_; refine dp 8 15 [46, 47, 48, 49] [(true, 0)] (a_add rfl rfl (by omega) (by omega)) ?_; refine duE 9 31 [46, 47, 48, 49] [(true, 0)] (atN 1 (fun _ => a_litE eI [_] rfl rfl rfl rfl rfl rfl rfl rfl)) (by exact rfl) (by exact rfl) ?_; refine duE 10 1023 [] [] (atS 2 (fun _ hj => a_appE (fP rfl) rfl rfl rfl rfl nowR (by first | omega | (simp; omega)) (by decide) hj (by exact rfl)) (by decide)) (by exact rfl) (by exact rfl) ?_; refine dp 11 2047 [] [] pu1 ?_; refine dp 12 4095 [] [] (a_pure (sv := .one _) rfl) ?_; (refine d_nil ?_; refine dN ?_))); any_goals kernel_rfl) | ((first | refine o_gs rfl rfl (fun hc => ?_) (fun hc => ?_) | refine g_cond rfl (fun hc => ?_) (fun hc => ?_)) <;> (try simp only [dcB] at hc) <;> (try first | contradiction | (exfalso; omega)))
          repeat refine cr ?_
          refine ends_id ?_
          refine endK [?_] (h2 := ?_) (h3 := ?_) (nd := ?_)
          rotate_left 1
          all_goals (repeat' first | exact ce0 | refine ce ?_ | refine ce2 ?_ ?_ | (refine Or.inr (bx_eq rfl rfl ?_); (try dsimp only [C.ren, C.ren.all]); (try exact rfl)) | exact SVLe.refl | refine ceb ?_)
          all_goals first | exact (show nodupB _ = true from rfl) | exact Or.inr rfl | (rfl)
        · have e : ¬ (stp B m (p[k.toNat]'(by omega) + 1)).isSome = true := fun h => hc2 (his.1 h)
          rw [if_neg e] at hn ⊢
          repeat' first | (apply n3; exact a_nilO eI rfl; exact rfl) | (apply p3; (first | exact pu1 | exact puC | exact a_sub rfl rfl (by omega) (by omega)); exact rfl) | refine cd ?_ | (apply g_drN (id := 7) okM [[],[],[0,1],[0,1,2],[0,1,2,3],[],[],[5,6],[5,6,7],[5,6,7,8],[5,6,7,8,9],[0,1,2,3,4,5,6,7,8,9,10]] [([],[]),([],[]),([],[]),([],[]),([],[]),([],[]),([],[]),([],[]),([],[]),([0],[]),([],[]),([],[])] 1; (focus (refine dp 0 0 [35, 39, 40, 41, 42, 43, 44] [(true, 0)] pu1 ?_; refine dp 1 0 [34, 39, 40, 41, 42, 43, 44] [(true, 0)] pu1 ?_; refine dp 2 3 [39, 40, 41, 42, 43, 44] [(true, 0)] puI ?_; refine dp 3 7 [39, 40, 41, 42, 43, 44] [(true, 0)] (by first | exact a_ldE (E := (eNd B)) 0 rfl rfl rfl (fC rfl) rfl rfl (Nat.le_of_ble_eq_true rfl) bnd rfl (by first | exact trivial | exact rfl) | exact a_ldE (E := (eNd B)) 1 rfl rfl rfl (fC rfl) rfl rfl (Nat.le_of_ble_eq_true rfl) bnd rfl (by first | exact trivial | exact rfl) | exact a_ldE (E := (eNd B)) 2 rfl rfl rfl (fC rfl) rfl rfl (Nat.le_of_ble_eq_true rfl) bnd rfl (by first | exact trivial | exact rfl) | exact a_ldE (E := (eNd B)) 3 rfl rfl rfl (fC rfl) rfl rfl (Nat.le_of_ble_eq_true rfl) bnd rfl (by first | exact trivial | exact rfl) | exact a_ldE (E := (eNd B)) 4 rfl rfl rfl (fC rfl) rfl rfl (Nat.le_of_ble_eq_true rfl) bnd rfl (by first | exact trivial | exact rfl) | exact puL) ?_; refine dp 4 15 [39, 40, 41, 42, 43, 44] [(true, 0)] (a_add rfl rfl (by omega) (by omega)) ?_; refine dp 5 0 [34, 35, 36, 37, 38, 40] [] pu1 ?_; refine dp 6 0 [34, 35, 36, 37, 38, 39] [] pu1 ?_; refine dp 7 3 [34, 35, 36, 37, 38] [] puI ?_; refine dp 8 7 [34, 35, 36, 37, 38] [] (by first | exact a_ldE (E := (eNd B)) 0 rfl rfl rfl (fC rfl) rfl rfl (Nat.le_of_ble_eq_true rfl) bnd rfl (by first | exact trivial | exact rfl) | exact a_ldsE (E := (eNd B)) 0 rfl rfl rfl (fA rfl) rfl rfl (Nat.le_of_ble_eq_true rfl) (Nat.le_of_ble_eq_true rfl) bnd rfl (by repeat (first | exact trivial | exact rfl | refine And.intro ?_ ?_)) rfl | exact puL) ?_; refine duN 9 15 [34, 35, 36, 37, 38] [] (callD1 (n := _) 0 (θ := []) (hD := (childrenA_ok _ _ preB99))) (by exact rfl) (by exact rfl) ?_; refine dp 10 31 [34, 35, 36, 37, 38] [] (callD1 (n := _) 1 (θ := []) (hD := (sizeR_ok _ preB99))) ?_; refine dp 11 2047 [] [] puC ?_; (refine d_nil ?_; refine dN ?_))); any_goals kernel_rfl) | (apply g_drN (id := 8) okM [[],[],[0,1],[0,1,2],[],[],[4,5],[4,5,6],[4,5,6,7],[4,5,6,7,8],[0,1,2,3,4,5,6,7,8,9],[0,1,2,3,4,5,6,7,8,9,10],[0,1,2,3,4,5,6,7,8,9,10,11]] [([],[]),([],[]),([],[]),([0],[]),([],[]),([],[]),([],[]),([],[]),([],[]),([1],[]),([2],[6]),([],[]),([],[])] 3; (focus (refine dp 0 0 [47, 50, 51, 52, 53, 54, 55] [(true, 1)] pu1 ?_; refine dp 1 0 [46, 50, 51, 52, 53, 54, 55] [(true, 1)] pu1 ?_; refine dp 2 3 [50, 51, 52, 53, 54, 55] [(true, 1)] (by first | exact a_sl0 rfl rfl (fS rfl) | exact a_slH rfl rfl rfl (fS rfl) (by omega) (by omega) (by exact rfl) | exact atS 0 (fun _ hj => a_slHO rfl rfl rfl (fS rfl) (by omega) (by omega) (by exact rfl) hj) (by decide)) ?_; refine duN 3 7 [50, 51, 52, 53, 54, 55] [(true, 1)] (callD1 (n := _) 0 (θ := []) (hD := (clone_ok _ preB99))) (by exact rfl) (by exact rfl) ?_; refine dp 4 0 [46, 47, 48, 49, 51] [(true, 0)] pu1 ?_; refine dp 5 0 [46, 47, 48, 49, 50] [(true, 0)] pu1 ?_; refine dp 6 3 [46, 47, 48, 49] [(true, 0)] puI ?_; refine dp 7 7 [46, 47, 48, 49] [(true, 0)] (by first | exact a_ldE (E := (eNd B)) 0 rfl rfl rfl (fC rfl) rfl rfl (Nat.le_of_ble_eq_true rfl) bnd rfl (by first | exact trivial | exact rfl) | exact a_ldE (E := (eNd B)) 1 rfl rfl rfl (fC rfl) rfl rfl (Nat.le_of_ble_eq_true rfl) bnd rfl (by first | exact trivial | exact rfl) | exact a_ldE (E := (eNd B)) 2 rfl rfl rfl (fC rfl) rfl rfl (Nat.le_of_ble_eq_true rfl) bnd rfl (by first | exact trivial | exact rfl) | exact a_ldE (E := (eNd B)) 3 rfl rfl rfl (fC rfl) rfl rfl (Nat.le_of_ble_eq_true rfl) bnd rfl (by first | exact trivial | exact rfl) | exact a_ldE (E := (eNd B)) 4 rfl rfl rfl (fC rfl) rfl rfl (Nat.le_of_ble_eq_true rfl) bnd rfl (by first | exact trivial | exact rfl) | exact puL) ?_; refine dp 8 15 [46, 47, 48, 49] [(true, 0)] (a_add rfl rfl (by omega) (by omega)) ?_; refine duE 9 31 [46, 47, 48, 49] [(true, 0)] (atN 1 (fun _ => a_litE eI [_] rfl rfl rfl rfl rfl rfl rfl rfl)) (by exact rfl) (by exact rfl) ?_; refine duE 10 1023 [] [] (atS 2 (fun _ hj => a_appE (fP rfl) rfl rfl rfl rfl nowR (by first | omega | (simp; omega)) (by decide) hj (by exact rfl)) (by decide)) (by exact rfl) (by exact rfl) ?_; refine dp 11 2047 [] [] pu1 ?_; refine dp 12 4095 [] [] (a_pure (sv := .one _) rfl) ?_; (refine d_nil ?_; refine dN ?_))); any_goals kernel_rfl) | ((first | refine o_gs rfl rfl (fun hc => ?_) (fun hc => ?_) | refine g_cond rfl (fun hc => ?_) (fun hc => ?_)) <;> (try simp only [dcB] at hc) <;> (try first | contradiction | (exfalso; omega)))
          refine q_again (k - 1) [0, 1, 2, 3, 4] (by exact stk) ?_ ?_
          · refine ⟨by omega, by omega, ?_⟩
            rw [show k - 1 + 1 = k by omega]
            try first | rfl | (rw [← k2, hn])
          · omega
      · have e : asd B (root sy st) p 0 p.length = none := by rw [← k2]; exact asd_end (by omega)
        rw [e]
        repeat' first | (apply n3; exact a_nilO eI rfl; exact rfl) | (apply p3; (first | exact pu1 | exact puC | exact a_sub rfl rfl (by omega) (by omega)); exact rfl) | refine cd ?_ | (apply g_drN (id := 7) okM [[],[],[0,1],[0,1,2],[0,1,2,3],[],[],[5,6],[5,6,7],[5,6,7,8],[5,6,7,8,9],[0,1,2,3,4,5,6,7,8,9,10]] [([],[]),([],[]),([],[]),([],[]),([],[]),([],[]),([],[]),([],[]),([],[]),([0],[]),([],[]),([],[])] 1; (focus (refine dp 0 0 [35, 39, 40, 41, 42, 43, 44] [(true, 0)] pu1 ?_; refine dp 1 0 [34, 39, 40, 41, 42, 43, 44] [(true, 0)] pu1 ?_; refine dp 2 3 [39, 40, 41, 42, 43, 44] [(true, 0)] puI ?_; refine dp 3 7 [39, 40, 41, 42, 43, 44] [(true, 0)] (by first | exact a_ldE (E := (eNd B)) 0 rfl rfl rfl (fC rfl) rfl rfl (Nat.le_of_ble_eq_true rfl) bnd rfl (by first | exact trivial | exact rfl) | exact a_ldE (E := (eNd B)) 1 rfl rfl rfl (fC rfl) rfl rfl (Nat.le_of_ble_eq_true rfl) bnd rfl (by first | exact trivial | exact rfl) | exact a_ldE (E := (eNd B)) 2 rfl rfl rfl (fC rfl) rfl rfl (Nat.le_of_ble_eq_true rfl) bnd rfl (by first | exact trivial | exact rfl) | exact a_ldE (E := (eNd B)) 3 rfl rfl rfl (fC rfl) rfl rfl (Nat.le_of_ble_eq_true rfl) bnd rfl (by first | exact trivial | exact rfl) | exact a_ldE (E := (eNd B)) 4 rfl rfl rfl (fC rfl) rfl rfl (Nat.le_of_ble_eq_true rfl) bnd rfl (by first | exact trivial | exact rfl) | exact puL) ?_; refine dp 4 15 [39, 40, 41, 42, 43, 44] [(true, 0)] (a_add rfl rfl (by omega) (by omega)) ?_; refine dp 5 0 [34, 35, 36, 37, 38, 40] [] pu1 ?_; refine dp 6 0 [34, 35, 36, 37, 38, 39] [] pu1 ?_; refine dp 7 3 [34, 35, 36, 37, 38] [] puI ?_; refine dp 8 7 [34, 35, 36, 37, 38] [] (by first | exact a_ldE (E := (eNd B)) 0 rfl rfl rfl (fC rfl) rfl rfl (Nat.le_of_ble_eq_true rfl) bnd rfl (by first | exact trivial | exact rfl) | exact a_ldsE (E := (eNd B)) 0 rfl rfl rfl (fA rfl) rfl rfl (Nat.le_of_ble_eq_true rfl) (Nat.le_of_ble_eq_true rfl) bnd rfl (by repeat (first | exact trivial | exact rfl | refine And.intro ?_ ?_)) rfl | exact puL) ?_; refine duN 9 15 [34, 35, 36, 37, 38] [] (callD1 (n := _) 0 (θ := []) (hD := (childrenA_ok _ _ preB99))) (by exact rfl) (by exact rfl) ?_; refine dp 10 31 [34, 35, 36, 37, 38] [] (callD1 (n := _) 1 (θ := []) (hD := (sizeR_ok _ preB99))) ?_; refine dp 11 2047 [] [] puC ?_; (refine d_nil ?_; refine dN ?_))); any_goals kernel_rfl) | (apply g_drN (id := 8) okM [[],[],[0,1],[0,1,2],[],[],[4,5],[4,5,6],[4,5,6,7],[4,5,6,7,8],[0,1,2,3,4,5,6,7,8,9],[0,1,2,3,4,5,6,7,8,9,10],[0,1,2,3,4,5,6,7,8,9,10,11]] [([],[]),([],[]),([],[]),([0],[]),([],[]),([],[]),([],[]),([],[]),([],[]),([1],[]),([2],[6]),([],[]),([],[])] 3; (focus (refine dp 0 0 [47, 50, 51, 52, 53, 54, 55] [(true, 1)] pu1 ?_; refine dp 1 0 [46, 50, 51, 52, 53, 54, 55] [(true, 1)] pu1 ?_; refine dp 2 3 [50, 51, 52, 53, 54, 55] [(true, 1)] (by first | exact a_sl0 rfl rfl (fS rfl) | exact a_slH rfl rfl rfl (fS rfl) (by omega) (by omega) (by exact rfl) | exact atS 0 (fun _ hj => a_slHO rfl rfl rfl (fS rfl) (by omega) (by omega) (by exact rfl) hj) (by decide)) ?_; refine duN 3 7 [50, 51, 52, 53, 54, 55] [(true, 1)] (callD1 (n := _) 0 (θ := []) (hD := (clone_ok _ preB99))) (by exact rfl) (by exact rfl) ?_; refine dp 4 0 [46, 47, 48, 49, 51] [(true, 0)] pu1 ?_; refine dp 5 0 [46, 47, 48, 49, 50] [(true, 0)] pu1 ?_; refine dp 6 3 [46, 47, 48, 49] [(true, 0)] puI ?_; refine dp 7 7 [46, 47, 48, 49] [(true, 0)] (by first | exact a_ldE (E := (eNd B)) 0 rfl rfl rfl (fC rfl) rfl rfl (Nat.le_of_ble_eq_true rfl) bnd rfl (by first | exact trivial | exact rfl) | exact a_ldE (E := (eNd B)) 1 rfl rfl rfl (fC rfl) rfl rfl (Nat.le_of_ble_eq_true rfl) bnd rfl (by first | exact trivial | exact rfl) | exact a_ldE (E := (eNd B)) 2 rfl rfl rfl (fC rfl) rfl rfl (Nat.le_of_ble_eq_true rfl) bnd rfl (by first | exact trivial | exact rfl) | exact a_ldE (E := (eNd B)) 3 rfl rfl rfl (fC rfl) rfl rfl (Nat.le_of_ble_eq_true rfl) bnd rfl (by first | exact trivial | exact rfl) | exact a_ldE (E := (eNd B)) 4 rfl rfl rfl (fC rfl) rfl rfl (Nat.le_of_ble_eq_true rfl) bnd rfl (by first | exact trivial | exact rfl) | exact puL) ?_; refine dp 8 15 [46, 47, 48, 49] [(true, 0)] (a_add rfl rfl (by omega) (by omega)) ?_; refine duE 9 31 [46, 47, 48, 49] [(true, 0)] (atN 1 (fun _ => a_litE eI [_] rfl rfl rfl rfl rfl rfl rfl rfl)) (by exact rfl) (by exact rfl) ?_; refine duE 10 1023 [] [] (atS 2 (fun _ hj => a_appE (fP rfl) rfl rfl rfl rfl nowR (by first | omega | (simp; omega)) (by decide) hj (by exact rfl)) (by decide)) (by exact rfl) (by exact rfl) ?_; refine dp 11 2047 [] [] pu1 ?_; refine dp 12 4095 [] [] (a_pure (sv := .one _) rfl) ?_; (refine d_nil ?_; refine dN ?_))); any_goals kernel_rfl) | ((first | refine o_gs rfl rfl (fun hc => ?_) (fun hc => ?_) | refine g_cond rfl (fun hc => ?_) (fun hc => ?_)) <;> (try simp only [dcB] at hc) <;> (try first | contradiction | (exfalso; omega)))
        repeat refine cr ?_
        refine ends_id ?_
        refine endK [?_] (h2 := ?_) (h3 := ?_) (nd := ?_)
        rotate_left 1
        all_goals (repeat' first | exact ce0 | refine ce ?_ | refine ce2 ?_ ?_ | (refine Or.inr (bx_eq rfl rfl ?_); (try dsimp only [C.ren, C.ren.all]); (try exact rfl)) | exact SVLe.refl | refine ceb ?_)
        all_goals first | exact (show nodupB _ = true from rfl) | exact Or.inr rfl | (rfl)
end Go.Proofs.YtcmdfohamphndaaGreatDoor
end
section
set_option linter.unusedVariables false
set_option linter.unusedSimpArgs false
set_option maxRecDepth 100000
set_option maxHeartbeats 4000000
namespace Go.Proofs.YtcmdfohamphndaaGreatDoor
open Go Foot
theorem bndQ {p : Prop} (h : p := by first | omega | (simp only [cnt, rows_len, List.length_cons, List.length_nil, Nat.mul_one, Nat.div_one]; omega)) : p := h
theorem Kept.all : ∀ {ps : List (List Int)} {vs : List Value}, vs.length = ps.length → Kept ps vs ps vs
  | [], [], _ => .nil
  | [], _ :: _, h => by simp at h
  | _ :: _, [], h => by simp at h
  | p :: ps, v :: vs, h => .keep (Kept.all (by simpa using h))
/-- A list of paths that can be had back, as1 a root. -/
abbrev thR (Z : Foot) (ps : List (List Int)) (i : Nat) : GB := .opq (thP Z ps) [i]
end Go.Proofs.YtcmdfohamphndaaGreatDoor
end
section
set_option linter.unusedVariables false
set_option linter.unusedSimpArgs false
set_option maxRecDepth 100000
set_option maxHeartbeats 4000000
namespace Go.Proofs.YtcmdfohamphndaaGreatDoor
open Go Foot
end Go.Proofs.YtcmdfohamphndaaGreatDoor
end
section
set_option linter.unusedVariables false
set_option linter.unusedSimpArgs false
set_option maxRecDepth 100000
set_option maxHeartbeats 4000000
namespace Go.Proofs.YtcmdfohamphndaaGreatDoor
open Go Foot
end Go.Proofs.YtcmdfohamphndaaGreatDoor
end
section
set_option linter.unusedVariables false
set_option linter.unusedSimpArgs false
set_option maxRecDepth 100000
set_option maxHeartbeats 4000000
namespace Go.Proofs.YtcmdfohamphndaaGreatDoor
open Go Foot
end Go.Proofs.YtcmdfohamphndaaGreatDoor
end
section
set_option linter.unusedVariables false
set_option linter.unusedSimpArgs false
set_option maxRecDepth 100000
set_option maxHeartbeats 4000000
namespace Go.Proofs.YtcmdfohamphndaaGreatDoor
open Go Foot
end Go.Proofs.YtcmdfohamphndaaGreatDoor
end
section
set_option linter.unusedVariables false
set_option linter.unusedSimpArgs false
set_option maxRecDepth 100000
set_option maxHeartbeats 4000000
namespace Go.Proofs.YtcmdfohamphndaaGreatDoor
open Go Foot
end Go.Proofs.YtcmdfohamphndaaGreatDoor
end
section
set_option linter.unusedVariables false
set_option linter.unusedSimpArgs false
set_option maxRecDepth 100000
set_option maxHeartbeats 4000000
namespace Go.Proofs.YtcmdfohamphndaaGreatDoor
open Go Foot
/-- The path behind one. -/
@[irreducible] def nxP (B : Int) (rt : Mach) (q : List Int) : Option (List Int) := (pth B rt q).bind fun m => nxt B rt m q 0
/-- So many nodes from one on. -/
def nfs (B : Int) (rt : Mach) : Nat → List Int → List (List Int)
  | 0, _ => []
  | k + 1, q => q :: (match nxP B rt q with
    | none => []
    | some q' => nfs B rt k q')
theorem nfs_none {B : Int} {rt : Mach} {k : Nat} {q : List Int} (h : nxP B rt q = none) : nfs B rt (k + 1) q = [q] := by rw [nfs, h]
theorem nfs_some {B : Int} {rt : Mach} {k : Nat} {q q' : List Int} (h : nxP B rt q = some q') : nfs B rt (k + 1) q = q :: nfs B rt k q' := by rw [nfs, h]
theorem nfs_one {B : Int} {rt : Mach} {q : List Int} : nfs B rt 1 q = [q] := by
  rw [nfs]
  cases nxP B rt q <;> rfl
theorem nxP_is {B : Int} {rt m : Mach} {q : List Int} (h : pth B rt q = some m) : nxP B rt q = nxt B rt m q 0 := by unfold nxP; rw [h]; rfl
theorem asd_pth {B : Int} {rt : Mach} {p : List Int} {least : Nat} : ∀ {n : Nat} {q : List Int}, asd B rt p least n = some q → ∃ y, pth B rt q = some y
  | 0, q, h => by cases h
  | n + 1, q, h => by
    rw [asd] at h
    split at h
    · cases h
    · split at h
      · rename_i h1
        simp only [Option.some.injEq] at h
        rw [← h, pth_app]
        obtain ⟨y, hy⟩ := Option.isSome_iff_exists.1 h1
        rw [Option.bind_eq_some_iff] at hy
        obtain ⟨m, e1, e2⟩ := hy
        refine ⟨y, ?_⟩
        rw [e1, Option.bind_some, pth, e2]
        rfl
      · exact asd_pth h
theorem nxP_ok {B sy st : Int} {rt m : Mach} {q q' : List Int} (hrt : NdOk sy st rt) (h : pth B rt q = some m) (hn : nxP B rt q = some q') : ∃ y, pth B rt q' = some y := by
  rw [nxP_is h] at hn
  unfold nxt at hn
  split at hn
  · rename_i hs
    simp only [Option.some.injEq] at hn
    have hc := (chR_len (pth_ok hrt h).1.v).1
    exact ⟨_, hn ▸ pth_child (k := 0) h hs (by omega)⟩
  · exact asd_pth hn
theorem nfs_len (B : Int) (rt : Mach) : ∀ (k : Nat) (q : List Int), (nfs B rt k q).length ≤ k
  | 0, q => by simp [nfs]
  | k + 1, q => by
    rw [nfs]
    split
    · simp
    · rename_i q' h
      have := nfs_len B rt k q'
      simp
      omega
theorem nfs_mem {B sy st : Int} {rt : Mach} (hrt : NdOk sy st rt) : ∀ (k : Nat) {q : List Int} {m : Mach}, pth B rt q = some m → ∀ p ∈ nfs B rt k q, ∃ y, pth B rt p = some y
  | 0, q, m, h, p, hp => by simp [nfs] at hp
  | k + 1, q, m, h, p, hp => by
    rw [nfs] at hp
    rcases List.mem_cons.1 hp with rfl | hp
    · exact ⟨m, h⟩
    · split at hp
      · cases hp
      · rename_i q' hn
        obtain ⟨y, hy⟩ := nxP_ok hrt h hn
        exact nfs_mem hrt k hy p hp
/-- What NodesFrom hands back. -/
@[irreducible] def nfC (st sy B many : Int) (p : List Int) : Int := if askT st sy B = 0 then if 1 ≤ many ∧ many ≤ 400 then if (pth B (root sy st) p).isSome = true then 0 else 3 else 2 else askT st sy B
@[irreducible] def nfL (st sy B many : Int) (p : List Int) : List (List Int) := if askT st sy B = 0 then if 1 ≤ many ∧ many ≤ 400 then if (pth B (root sy st) p).isSome = true then nfs B (root sy st) many.toNat p else [] else [] else []
theorem nf_ask {st sy B many : Int} {p : List Int} (h : ¬ askT st sy B = 0) : nfC st sy B many p = askT st sy B ∧ nfL st sy B many p = [] := by
  unfold nfC nfL; rw [if_neg h, if_neg h]; exact ⟨rfl, rfl⟩
theorem nf_many {st sy B many : Int} {p : List Int} (h : askT st sy B = 0) (h2 : ¬ (1 ≤ many ∧ many ≤ 400)) : nfC st sy B many p = 2 ∧ nfL st sy B many p = [] := by
  unfold nfC nfL; rw [if_pos h, if_pos h, if_neg h2, if_neg h2]; exact ⟨rfl, rfl⟩
theorem nf_none {st sy B many : Int} {p : List Int} (h : askT st sy B = 0) (h2 : 1 ≤ many ∧ many ≤ 400) (h3 : pth B (root sy st) p = none) : nfC st sy B many p = 3 ∧ nfL st sy B many p = [] := by
  unfold nfC nfL; rw [if_pos h, if_pos h, if_pos h2, if_pos h2, h3]; exact ⟨rfl, rfl⟩
theorem nf_ok {st sy B many : Int} {p : List Int} {m : Mach} (h : askT st sy B = 0) (h2 : 1 ≤ many ∧ many ≤ 400) (h3 : pth B (root sy st) p = some m) : nfC st sy B many p = 0 ∧ nfL st sy B many p = nfs B (root sy st) many.toNat p := by
  unfold nfC nfL; rw [if_pos h, if_pos h, if_pos h2, if_pos h2, h3]; exact ⟨rfl, rfl⟩
theorem nfL_bd (st sy B many : Int) (p : List Int) : ((nfL st sy B many p).length : Int) ≤ 400 ∧ ∀ x ∈ nfL st sy B many p, (x.length : Int) ≤ 36 := by
  by_cases h : askT st sy B = 0
  · by_cases h2 : 1 ≤ many ∧ many ≤ 400
    · cases hv : pth B (root sy st) p with
      | none => rw [(nf_none h h2 hv).2]; exact ⟨by simp, fun x hx => by cases hx⟩
      | some m =>
        obtain ⟨q1, q2, q3, q4⟩ := ask_bd h
        have hr := root_ok q2.1 q2.2 q1.1 (by omega)
        rw [(nf_ok h h2 hv).2]
        have := nfs_len B (root sy st) many.toNat p
        refine ⟨by omega, fun x hx => ?_⟩
        obtain ⟨y, hy⟩ := nfs_mem hr many.toNat hv x hx
        have := pth_len hr hy q2.2 q1.2 (by omega) (by omega)
        omega
    · rw [(nf_many h h2).2]; exact ⟨by simp, fun x hx => by cases hx⟩
  · rw [(nf_ask h).2]; exact ⟨by simp, fun x hx => by cases hx⟩
theorem preB109 {p : Prop} (h : p := by first | with_reducible assumption | omega | (simp only [List.length_append, List.length_cons, List.length_nil, List.length_set, List.length_replicate, List.length_take, List.length_drop, List.length_tail, List.length_dropLast, List.length_reverse] at *; omega) | exact mem_len (by assumption) (by omega) | (with_reducible refine Int.le_trans (Int.ofNat_le.2 (trimR_len _)) ?_; simp only [List.length_cons, List.length_tail]; omega) | (exact (ruAt_ok (by assumption) (by assumption) (by assumption)).2.1) | (exact (ruAt_ok (by assumption) (by assumption) (by assumption)).2.1) | (have := vMach_bd (by assumption); omega) | (simp only [mC_ch, mC_tu]; omega) | (have := vTag_bd (by assumption); omega) | (have := (‹Gd _ _›).le; omega) | (exact tgHalts_no (by assumption)) | (exact tgHead (by assumption) (by assumption) (by assumption)) | (exact Int.le_trans (tgStep_gd (by assumption) (by assumption) (by assumption) (by assumption)).le (by decide)) | (exact vTag_r (by assumption)) | (with_reducible refine Int.le_trans (Int.ofNat_le.2 (pushL_len _ _)) ?_; simp only [List.length_dropLast]; omega) | exact ls_at (by assumption) (by omega) | exact pt_gd (by assumption) | exact lv_at (by assumption) (by omega) | exact pt_gd (lv_at (by assumption) (by omega)) | exact (ask_ok (by assumption)).1 | exact (ask_ok (by assumption)).2.1 | exact (ask_ok (by assumption)).2.2.1 | exact (ask_ok (by assumption)).2.2.2 | trivial) : p := h
theorem sNodesFrom_ok (st sy B many : Int) (p : List Int) (hp : (p.length : Int) ≤ 1048576) : Does Tryz.prog 26 [.one (int st), .one (int sy), .one (shI p), .one (int many), .one (int B)] [] (.tup [(false, [.gv 0]), (false, [int (nfC st sy B many p)])]) [.row 1 (rows eW (nfL st sy B many p))] := by
  by_cases h : askT st sy B = 0
  · obtain ⟨q1, q2, q3, q4⟩ := ask_bd h
    by_cases h2 : 1 ≤ many ∧ many ≤ 400
    · cases hv : pth B (root sy st) p with
      | none =>
        obtain ⟨e1, e2⟩ := nf_none h h2 hv
        rw [e1, e2]
        refine does_of (k := 0) Tryz.func26 rfl Tryz.ntmps26 rfl rfl fun w F0 S0 ρ0 => ?_
        dsimp only [argT, argH]
        repeat' first | (apply n3; exact a_nilO eW rfl; exact rfl) | (apply n3; exact a_new (gb := .bx _) rfl; exact rfl; refine dA ?_) | (apply p3; (first | exact pu1 | exact a_ne rfl rfl | exact a_neS rfl rfl rfl); exact rfl) | refine cdn ?_ | refine g_reg (id := 0) ?_ | refine g_reg (id := 1) ?_ | refine g_reg (id := 2) ?_ | refine g_reg (id := 3) ?_ | refine g_reg (id := 4) ?_ | refine g_reg (id := 5) ?_ | refine g_reg (id := 6) ?_ | (apply w3; (first | exact a_st_bx rfl rfl rfl rfl (fN rfl rfl) (Nat.le_of_ble_eq_true rfl) rfl | exact a_stE (E := eMa) ⟨_, _, _⟩ rfl rfl rfl rfl (fN rfl rfl) bnd (by exact rfl)); exact rfl; refine dS ?_) | (apply c4 0; exact callK1 (θ := []) (hD := (l30Ask_ok _ _ _)); exact rfl; exact rfl; exact rfl; refine dM ?_) | (apply c4 0; exact callK1 (θ := []) (hD := (l00In_ok _ _ _)); exact rfl; exact rfl; exact rfl; refine dM ?_) | (apply c4 0; exact callK0 (θ := []) (hD := (l30At_ok _ _ _ _ preB109 preB109 preB109 preB109 preB109 preB109 preB109)); exact rfl; exact rfl; exact rfl; refine dM ?_) | ((first | refine o_gs rfl rfl (fun hc => ?_) (fun hc => ?_) | refine g_cond rfl (fun hc => ?_) (fun hc => ?_)) <;> (try simp only [dcB] at hc) <;> (try first | contradiction | (exfalso; omega)))
        simp only [hv, Option.isSome_none]
        repeat' first | (apply n3; exact a_nilO eW rfl; exact rfl) | (apply n3; (first | exact a_new (gb := .bx _) rfl | exact a_litE eW [_] rfl rfl rfl rfl rfl rfl rfl rfl | exact a_appN (fP rfl) rfl rfl rfl nowR (by first | omega | (simp; omega)) (by decide) (by exact rfl)); exact rfl; refine dA ?_) | (apply p3; (first | exact pu1 | exact puL | exact a_ne rfl rfl | exact a_neS rfl rfl rfl | exact puN | exact a_len_str rfl (fT rfl) | exact puC | exact a_sub rfl rfl (by omega) (by omega) | exact a_ldE (E := eW) 0 rfl rfl rfl (fC rfl) rfl rfl (Nat.le_of_ble_eq_true rfl) bnd rfl (by first | exact trivial | exact rfl) | exact puI); exact rfl) | refine cd ?_ | (apply s3; exact a_appE (fP rfl) rfl rfl rfl rfl nowR (by first | omega | (simp; omega)) (by decide) (by decide) (by exact rfl); exact rfl; exact rfl) | (apply w3; (first | exact a_st_bx rfl rfl rfl rfl (fN rfl rfl) (Nat.le_of_ble_eq_true rfl) rfl | exact a_stE (E := eMa) ⟨_, _, _⟩ rfl rfl rfl rfl (fN rfl rfl) bnd (by exact rfl)); exact rfl; refine dS ?_) | (apply c4 0; exact callK1 (θ := []) (hD := (l30Ask_ok _ _ _)); exact rfl; exact rfl; exact rfl; refine dM ?_) | (apply c4 0; exact callK1 (θ := []) (hD := (l00In_ok _ _ _)); exact rfl; exact rfl; exact rfl; refine dM ?_) | (apply c4 0; exact callK0 (θ := []) (hD := (l30At_ok _ _ _ _ preB109 preB109 preB109 preB109 preB109 preB109 preB109)); exact rfl; exact rfl; exact rfl; refine dM ?_) | (apply c4 1; exact callK1 (θ := []) (hD := (l00Own_ok _ preB109)); exact rfl; exact rfl; exact rfl; refine dM ?_) | (apply c4 1; exact callK1 (θ := []) (hD := (l30Next_ok _ _ _ _ _ _ preB109 preB109 preB109 preB109 preB109 preB109 preB109 preB109 preB109 preB109)); exact rfl; exact rfl; exact rfl; refine dM ?_) | ((first | refine o_gs rfl rfl (fun hc => ?_) (fun hc => ?_) | refine g_cond rfl (fun hc => ?_) (fun hc => ?_)) <;> (try simp only [dcB] at hc) <;> (try first | contradiction | (exfalso; omega)))
        repeat refine cr ?_
        refine ends_id ?_
        refine endK [?_] (h2 := ?_) (h3 := ?_) (nd := ?_)
        rotate_left 1
        all_goals (repeat' first | exact ce0 | refine ce ?_ | refine ce2 ?_ ?_ | (refine Or.inr (bx_eq rfl rfl ?_); (try dsimp only [C.ren, C.ren.all]); (try exact rfl)) | exact SVLe.refl | refine ceb ?_)
        all_goals first | exact (show nodupB _ = true from rfl) | exact Or.inr rfl | (rfl)
      | some m =>
        obtain ⟨e1, e2⟩ := nf_ok h h2 hv
        have hr := root_ok q2.1 q2.2 q1.1 (show st ≤ 1000 by omega)
        rw [e1, e2]
        refine does_of (k := 0) Tryz.func26 rfl Tryz.ntmps26 rfl rfl fun w F0 S0 ρ0 => ?_
        dsimp only [argT, argH]
        repeat' first | (apply n3; exact a_nilO eW rfl; exact rfl) | (apply n3; exact a_new (gb := .bx _) rfl; exact rfl; refine dA ?_) | (apply p3; (first | exact pu1 | exact a_ne rfl rfl | exact a_neS rfl rfl rfl); exact rfl) | refine cdn ?_ | refine g_reg (id := 0) ?_ | refine g_reg (id := 1) ?_ | refine g_reg (id := 2) ?_ | refine g_reg (id := 3) ?_ | refine g_reg (id := 4) ?_ | refine g_reg (id := 5) ?_ | refine g_reg (id := 6) ?_ | (apply w3; (first | exact a_st_bx rfl rfl rfl rfl (fN rfl rfl) (Nat.le_of_ble_eq_true rfl) rfl | exact a_stE (E := eMa) ⟨_, _, _⟩ rfl rfl rfl rfl (fN rfl rfl) bnd (by exact rfl)); exact rfl; refine dS ?_) | (apply c4 0; exact callK1 (θ := []) (hD := (l30Ask_ok _ _ _)); exact rfl; exact rfl; exact rfl; refine dM ?_) | (apply c4 0; exact callK1 (θ := []) (hD := (l00In_ok _ _ _)); exact rfl; exact rfl; exact rfl; refine dM ?_) | (apply c4 0; exact callK0 (θ := []) (hD := (l30At_ok _ _ _ _ preB109 preB109 preB109 preB109 preB109 preB109 preB109)); exact rfl; exact rfl; exact rfl; refine dM ?_) | ((first | refine o_gs rfl rfl (fun hc => ?_) (fun hc => ?_) | refine g_cond rfl (fun hc => ?_) (fun hc => ?_)) <;> (try simp only [dcB] at hc) <;> (try first | contradiction | (exfalso; omega)))
        simp only [hv, Option.isSome_some]
        repeat' first | (apply n3; exact a_nilO eW rfl; exact rfl) | (apply n3; (first | exact a_new (gb := .bx _) rfl | exact a_litE eW [_] rfl rfl rfl rfl rfl rfl rfl rfl | exact a_appN (fP rfl) rfl rfl rfl nowR (by first | omega | (simp; omega)) (by decide) (by exact rfl)); exact rfl; refine dA ?_) | (apply p3; (first | exact pu1 | exact puL | exact a_ne rfl rfl | exact a_neS rfl rfl rfl | exact puN | exact a_len_str rfl (fT rfl) | exact puC | exact a_sub rfl rfl (by omega) (by omega) | exact a_ldE (E := eW) 0 rfl rfl rfl (fC rfl) rfl rfl (Nat.le_of_ble_eq_true rfl) bnd rfl (by first | exact trivial | exact rfl) | exact puI); exact rfl) | refine cd ?_ | (apply s3; exact a_appE (fP rfl) rfl rfl rfl rfl nowR (by first | omega | (simp; omega)) (by decide) (by decide) (by exact rfl); exact rfl; exact rfl) | (apply w3; (first | exact a_st_bx rfl rfl rfl rfl (fN rfl rfl) (Nat.le_of_ble_eq_true rfl) rfl | exact a_stE (E := eMa) ⟨_, _, _⟩ rfl rfl rfl rfl (fN rfl rfl) bnd (by exact rfl)); exact rfl; refine dS ?_) | (apply c4 0; exact callK1 (θ := []) (hD := (l30Ask_ok _ _ _)); exact rfl; exact rfl; exact rfl; refine dM ?_) | (apply c4 0; exact callK1 (θ := []) (hD := (l00In_ok _ _ _)); exact rfl; exact rfl; exact rfl; refine dM ?_) | (apply c4 0; exact callK0 (θ := []) (hD := (l30At_ok _ _ _ _ preB109 preB109 preB109 preB109 preB109 preB109 preB109)); exact rfl; exact rfl; exact rfl; refine dM ?_) | (apply c4 0; exact callF (hD := (l00Own_ok _ preB109)); exact rfl; exact rfl; exact rfl; refine dM ?_) | (apply c4 0; exact callF (hD := (l30Next_ok _ _ _ _ _ _ preB109 preB109 preB109 preB109 preB109 preB109 preB109 preB109 preB109 preB109)); exact rfl; exact rfl; exact rfl; refine dM ?_) | ((first | refine o_gs rfl rfl (fun hc => ?_) (fun hc => ?_) | refine g_cond rfl (fun hc => ?_) (fun hc => ?_)) <;> (try simp only [dcB] at hc) <;> (try first | contradiction | (exfalso; omega)))
        refine g_loop_id ?_
        refine loopK [0, 1, 3, 4, 10, 11, 15] [2] (fun L : List (List Int) => 1 ≤ L.length ∧ (L.length : Int) ≤ many ∧ ∃ pre q, L = pre ++ [q] ∧ (∃ y, pth B (root sy st) q = some y) ∧ pre ++ nfs B (root sy st) (many.toNat - pre.length) q = nfs B (root sy st) many.toNat p) (fun _ => []) (fun L => [(2, .row 1 (rows eW L))]) (fun L => many.toNat - L.length) ([p] : List (List Int)) [0, 1, 2] (hI := ?_) (hr := ?_)
        · exact ⟨by simp, by simp; omega, [], p, rfl, ⟨m, hv⟩, by simp⟩
        · rintro L ⟨k0, k1, pre, q, k2, ⟨y, hy⟩, k3⟩
          dsimp only [List.cons_append, List.nil_append] at *
          skip
          repeat' first | (apply p3; (first | exact pu1 | exact puN | exact a_len_str rfl (fT rfl) | exact puC); exact rfl) | refine cdn ?_ | refine g_reg (id := 10) ?_ | ((first | refine o_gs rfl rfl (fun hc => ?_) (fun hc => ?_) | refine g_cond rfl (fun hc => ?_) (fun hc => ?_)) <;> (try simp only [dcB] at hc) <;> (try first | contradiction | (exfalso; omega)))
          · have hL : (L.length : Int) = pre.length + 1 := by rw [k2]; simp
            have hg : L[((L.length : Int) - 1).toNat]'(by omega) = q := by
              subst k2
              rw [List.getElem_append_right (by omega)]
              simp
            have hql := pth_len hr hy q2.2 q1.2 (by omega) (by omega)
            have hgy := hy
            rw [← hg] at hgy
            have hgl : ((L[((L.length : Int) - 1).toNat]'(by omega)).length : Int) ≤ 1048576 := by rw [hg]; omega
            have hz : (0 : Int).toNat = 0 := rfl
            have hlt : ((L.length : Int) - 1).toNat < L.length := by omega
            have hk : many.toNat - pre.length = (many.toNat - pre.length - 1) + 1 := by omega
            have hnx := nxP_is hy
            repeat' first | (apply p3; (first | exact pu1 | exact puL | exact puN | exact a_len_str rfl (fT rfl) | exact puC | exact a_sub rfl rfl (by omega) (by omega) | exact a_ldE (E := eW) 0 rfl rfl rfl (fC rfl) rfl rfl (Nat.le_of_ble_eq_true rfl) bnd rfl (by first | exact trivial | exact rfl) | exact puI); exact rfl) | refine cdn ?_ | refine g_reg (id := 10) ?_ | refine g_reg (id := 11) ?_ | refine g_reg (id := 14) ?_ | (apply c4 0; exact callF (hD := (l30Next_ok st sy B 0 (L[((L.length : Int) - 1).toNat]'hlt) y hgl preB109 preB109 preB109 preB109 preB109 preB109 preB109 preB109 hgy)); exact rfl; exact rfl; exact rfl; refine dM ?_) | ((first | refine o_gs rfl rfl (fun hc => ?_) (fun hc => ?_) | refine g_cond rfl (fun hc => ?_) (fun hc => ?_)) <;> (try simp only [dcB] at hc) <;> (try first | contradiction | (exfalso; omega)))
            simp only [hg, hz]
            cases hn : nxt B (root sy st) y q 0 with
            | none =>
              rw [hn] at hnx
              rw [hk, nfs_none hnx, ← k2] at k3
              simp only [Option.isSome_none, Option.getD_none]
              repeat' first | (apply n3; (first | exact a_litE eW [_] rfl rfl rfl rfl rfl rfl rfl rfl | exact a_appN (fP rfl) rfl rfl rfl nowR (by first | omega | (simp; omega)) (by decide) (by exact rfl)); exact rfl; refine dA ?_) | (apply p3; (first | exact pu1 | exact puL | exact puN | exact a_len_str rfl (fT rfl) | exact puC | exact a_sub rfl rfl (by omega) (by omega) | exact a_ldE (E := eW) 0 rfl rfl rfl (fC rfl) rfl rfl (Nat.le_of_ble_eq_true rfl) bnd rfl (by first | exact trivial | exact rfl) | exact puI); exact rfl) | refine cd ?_ | (apply s3; exact a_appE (fP rfl) rfl rfl rfl rfl nowR (by first | omega | (simp; omega)) (by decide) (by decide) (by exact rfl); exact rfl; exact rfl) | (apply c4 0; exact callF (hD := (l30Next_ok st sy B 0 (L[((L.length : Int) - 1).toNat]'hlt) y hgl preB109 preB109 preB109 preB109 preB109 preB109 preB109 preB109 hgy)); exact rfl; exact rfl; exact rfl; refine dM ?_) | ((first | refine o_gs rfl rfl (fun hc => ?_) (fun hc => ?_) | refine g_cond rfl (fun hc => ?_) (fun hc => ?_)) <;> (try simp only [dcB] at hc) <;> (try first | contradiction | (exfalso; omega)))
              rw [← k3]
              repeat refine cr ?_
              refine ends_id ?_
              refine endK [?_] (h2 := ?_) (h3 := ?_) (nd := ?_)
              rotate_left 1
              all_goals (repeat' first | exact ce0 | refine ce ?_ | refine ce2 ?_ ?_ | (refine Or.inr (bx_eq rfl rfl ?_); (try dsimp only [C.ren, C.ren.all]); (try exact rfl)) | exact SVLe.refl | refine ceb ?_)
              all_goals first | exact (show nodupB _ = true from rfl) | exact Or.inr rfl | (rfl)
            | some q' =>
              rw [hn] at hnx
              rw [hk, nfs_some hnx] at k3
              simp only [Option.isSome_some, Option.getD_some]
              repeat' first | (apply n3; (first | exact a_litE eW [_] rfl rfl rfl rfl rfl rfl rfl rfl | exact a_appN (fP rfl) rfl rfl rfl nowR (by first | omega | (simp; omega)) (by decide) (by exact rfl)); exact rfl; refine dA ?_) | (apply p3; (first | exact pu1 | exact puL | exact puN | exact a_len_str rfl (fT rfl) | exact puC | exact a_sub rfl rfl (by omega) (by omega) | exact a_ldE (E := eW) 0 rfl rfl rfl (fC rfl) rfl rfl (Nat.le_of_ble_eq_true rfl) bnd rfl (by first | exact trivial | exact rfl) | exact puI); exact rfl) | refine cd ?_ | (apply s3; exact a_appE (fP rfl) rfl rfl rfl rfl nowR (by first | omega | (simp; omega)) (by decide) (by decide) (by exact rfl); exact rfl; exact rfl) | (apply c4 0; exact callF (hD := (l30Next_ok st sy B 0 (L[((L.length : Int) - 1).toNat]'hlt) y hgl preB109 preB109 preB109 preB109 preB109 preB109 preB109 preB109 hgy)); exact rfl; exact rfl; exact rfl; refine dM ?_) | ((first | refine o_gs rfl rfl (fun hc => ?_) (fun hc => ?_) | refine g_cond rfl (fun hc => ?_) (fun hc => ?_)) <;> (try simp only [dcB] at hc) <;> (try first | contradiction | (exfalso; omega)))
              refine q_again (L ++ [q']) [0, 1, 4] (by exact stk) ?_ ?_
              · refine ⟨by simp, by simp; omega, L, q', rfl, nxP_ok hr hy hnx, ?_⟩
                rw [k2]
                rw [List.append_assoc]
                rw [show many.toNat - (pre ++ [q]).length = many.toNat - pre.length - 1 by simp; omega]
                exact k3
              · simp
                omega
          · have hL : (L.length : Int) = pre.length + 1 := by rw [k2]; simp
            have hk : many.toNat - pre.length = 1 := by omega
            rw [hk, nfs_one, ← k2] at k3
            repeat' first | (apply n3; (first | exact a_litE eW [_] rfl rfl rfl rfl rfl rfl rfl rfl | exact a_appN (fP rfl) rfl rfl rfl nowR (by first | omega | (simp; omega)) (by decide) (by exact rfl)); exact rfl; refine dA ?_) | (apply p3; (first | exact pu1 | exact puL | exact puN | exact a_len_str rfl (fT rfl) | exact puC | exact a_sub rfl rfl (by omega) (by omega) | exact a_ldE (E := eW) 0 rfl rfl rfl (fC rfl) rfl rfl (Nat.le_of_ble_eq_true rfl) bnd rfl (by first | exact trivial | exact rfl) | exact puI); exact rfl) | refine cd ?_ | (apply s3; exact a_appE (fP rfl) rfl rfl rfl rfl nowR (by first | omega | (simp; omega)) (by decide) (by decide) (by exact rfl); exact rfl; exact rfl) | (apply c4 0; exact callF (hD := (l30Next_ok st sy B 0 (L[((L.length : Int) - 1).toNat]'hlt) y hgl preB109 preB109 preB109 preB109 preB109 preB109 preB109 preB109 hgy)); exact rfl; exact rfl; exact rfl; refine dM ?_) | ((first | refine o_gs rfl rfl (fun hc => ?_) (fun hc => ?_) | refine g_cond rfl (fun hc => ?_) (fun hc => ?_)) <;> (try simp only [dcB] at hc) <;> (try first | contradiction | (exfalso; omega)))
            rw [← k3]
            repeat refine cr ?_
            refine ends_id ?_
            refine endK [?_] (h2 := ?_) (h3 := ?_) (nd := ?_)
            rotate_left 1
            all_goals (repeat' first | exact ce0 | refine ce ?_ | refine ce2 ?_ ?_ | (refine Or.inr (bx_eq rfl rfl ?_); (try dsimp only [C.ren, C.ren.all]); (try exact rfl)) | exact SVLe.refl | refine ceb ?_)
            all_goals first | exact (show nodupB _ = true from rfl) | exact Or.inr rfl | (rfl)
    · obtain ⟨e1, e2⟩ := nf_many (p := p) h h2
      rw [e1, e2]
      refine does_of (k := 0) Tryz.func26 rfl Tryz.ntmps26 rfl rfl fun w F0 S0 ρ0 => ?_
      dsimp only [argT, argH]
      repeat' first | (apply n3; exact a_nilO eW rfl; exact rfl) | (apply n3; (first | exact a_new (gb := .bx _) rfl | exact a_litE eW [_] rfl rfl rfl rfl rfl rfl rfl rfl | exact a_appN (fP rfl) rfl rfl rfl nowR (by first | omega | (simp; omega)) (by decide) (by exact rfl)); exact rfl; refine dA ?_) | (apply p3; (first | exact pu1 | exact puL | exact a_ne rfl rfl | exact a_neS rfl rfl rfl | exact puN | exact a_len_str rfl (fT rfl) | exact puC | exact a_sub rfl rfl (by omega) (by omega) | exact a_ldE (E := eW) 0 rfl rfl rfl (fC rfl) rfl rfl (Nat.le_of_ble_eq_true rfl) bnd rfl (by first | exact trivial | exact rfl) | exact puI); exact rfl) | refine cd ?_ | (apply s3; exact a_appE (fP rfl) rfl rfl rfl rfl nowR (by first | omega | (simp; omega)) (by decide) (by decide) (by exact rfl); exact rfl; exact rfl) | (apply w3; (first | exact a_st_bx rfl rfl rfl rfl (fN rfl rfl) (Nat.le_of_ble_eq_true rfl) rfl | exact a_stE (E := eMa) ⟨_, _, _⟩ rfl rfl rfl rfl (fN rfl rfl) bnd (by exact rfl)); exact rfl; refine dS ?_) | (apply c4 0; exact callK1 (θ := []) (hD := (l30Ask_ok _ _ _)); exact rfl; exact rfl; exact rfl; refine dM ?_) | (apply c4 0; exact callK1 (θ := []) (hD := (l00In_ok _ _ _)); exact rfl; exact rfl; exact rfl; refine dM ?_) | (apply c4 0; exact callK0 (θ := []) (hD := (l30At_ok _ _ _ _ preB109 preB109 preB109 preB109 preB109 preB109 preB109)); exact rfl; exact rfl; exact rfl; refine dM ?_) | (apply c4 0; exact callF (hD := (l00Own_ok _ preB109)); exact rfl; exact rfl; exact rfl; refine dM ?_) | (apply c4 0; exact callF (hD := (l30Next_ok st sy B 0 (L[((L.length : Int) - 1).toNat]'hlt) y hgl preB109 preB109 preB109 preB109 preB109 preB109 preB109 preB109 hgy)); exact rfl; exact rfl; exact rfl; refine dM ?_) | ((first | refine o_gs rfl rfl (fun hc => ?_) (fun hc => ?_) | refine g_cond rfl (fun hc => ?_) (fun hc => ?_)) <;> (try simp only [dcB] at hc) <;> (try first | contradiction | (exfalso; omega)))
      repeat refine cr ?_
      refine ends_id ?_
      refine endK [?_] (h2 := ?_) (h3 := ?_) (nd := ?_)
      rotate_left 1
      all_goals (repeat' first | exact ce0 | refine ce ?_ | refine ce2 ?_ ?_ | (refine Or.inr (bx_eq rfl rfl ?_); (try dsimp only [C.ren, C.ren.all]); (try exact rfl)) | exact SVLe.refl | refine ceb ?_)
      all_goals first | exact (show nodupB _ = true from rfl) | exact Or.inr rfl | (rfl)
  · obtain ⟨e1, e2⟩ := nf_ask (many := many) (p := p) h
    rw [e1, e2]
    refine does_of (k := 0) Tryz.func26 rfl Tryz.ntmps26 rfl rfl fun w F0 S0 ρ0 => ?_
    dsimp only [argT, argH]
    repeat' first | (apply n3; exact a_nilO eW rfl; exact rfl) | (apply n3; (first | exact a_new (gb := .bx _) rfl | exact a_litE eW [_] rfl rfl rfl rfl rfl rfl rfl rfl | exact a_appN (fP rfl) rfl rfl rfl nowR (by first | omega | (simp; omega)) (by decide) (by exact rfl)); exact rfl; refine dA ?_) | (apply p3; (first | exact pu1 | exact puL | exact a_ne rfl rfl | exact a_neS rfl rfl rfl | exact puN | exact a_len_str rfl (fT rfl) | exact puC | exact a_sub rfl rfl (by omega) (by omega) | exact a_ldE (E := eW) 0 rfl rfl rfl (fC rfl) rfl rfl (Nat.le_of_ble_eq_true rfl) bnd rfl (by first | exact trivial | exact rfl) | exact puI); exact rfl) | refine cd ?_ | (apply s3; exact a_appE (fP rfl) rfl rfl rfl rfl nowR (by first | omega | (simp; omega)) (by decide) (by decide) (by exact rfl); exact rfl; exact rfl) | (apply w3; (first | exact a_st_bx rfl rfl rfl rfl (fN rfl rfl) (Nat.le_of_ble_eq_true rfl) rfl | exact a_stE (E := eMa) ⟨_, _, _⟩ rfl rfl rfl rfl (fN rfl rfl) bnd (by exact rfl)); exact rfl; refine dS ?_) | (apply c4 0; exact callK1 (θ := []) (hD := (l30Ask_ok _ _ _)); exact rfl; exact rfl; exact rfl; refine dM ?_) | (apply c4 0; exact callK1 (θ := []) (hD := (l00In_ok _ _ _)); exact rfl; exact rfl; exact rfl; refine dM ?_) | (apply c4 0; exact callK0 (θ := []) (hD := (l30At_ok _ _ _ _ preB109 preB109 preB109 preB109 preB109 preB109 preB109)); exact rfl; exact rfl; exact rfl; refine dM ?_) | (apply c4 0; exact callF (hD := (l00Own_ok _ preB109)); exact rfl; exact rfl; exact rfl; refine dM ?_) | (apply c4 0; exact callF (hD := (l30Next_ok st sy B 0 (L[((L.length : Int) - 1).toNat]'hlt) y hgl preB109 preB109 preB109 preB109 preB109 preB109 preB109 preB109 hgy)); exact rfl; exact rfl; exact rfl; refine dM ?_) | ((first | refine o_gs rfl rfl (fun hc => ?_) (fun hc => ?_) | refine g_cond rfl (fun hc => ?_) (fun hc => ?_)) <;> (try simp only [dcB] at hc) <;> (try first | contradiction | (exfalso; omega)))
    repeat refine cr ?_
    refine ends_id ?_
    refine endK [?_] (h2 := ?_) (h3 := ?_) (nd := ?_)
    rotate_left 1
    all_goals (repeat' first | exact ce0 | refine ce ?_ | refine ce2 ?_ ?_ | (refine Or.inr (bx_eq rfl rfl ?_); (try dsimp only [C.ren, C.ren.all]); (try exact rfl)) | exact SVLe.refl | refine ceb ?_)
    all_goals first | exact (show nodupB _ = true from rfl) | exact Or.inr rfl | (rfl)
end Go.Proofs.YtcmdfohamphndaaGreatDoor
end
section
set_option linter.unusedVariables false
set_option linter.unusedSimpArgs false
set_option maxRecDepth 100000
set_option maxHeartbeats 4000000
namespace Go.Proofs.YtcmdfohamphndaaGreatDoor
open Go Foot
end Go.Proofs.YtcmdfohamphndaaGreatDoor
end
section
set_option linter.unusedVariables false
set_option linter.unusedSimpArgs false
set_option maxRecDepth 100000
namespace Go.Proofs.YtcmdfohamphndaaGreatDoor
open Go Foot
/-- The roots after a round, told by those before it. -/
structure TellsT (HS HT : List GB) : Prop where
  l : HT.length = HS.length
  a : allG (HS.length + 1) HT = true
  z : renL (fun i => i - 1 + 1) HT
section
variable {P : Program} {g : Gh} {tm : Array Value} {ρs : Env} {t0 : List (Nat × SV)} {hx hx' : List (Nat × GB)} {n kq kp l : Nat} {θc θp θu cy : List Nat} {r0 : Loop} {ys : List SV} {HS : List GB} {j : Option Code}
theorem round_outT {HT : List GB} (hT : TellsT HS HT) {w w1 : World} {S S1 : Foot} {ρy ρ ρ0 ρ1 : Env} {Fy Fr F1 : Nat → Foot} {a : Act} {rb rj : Loop} (hN : RNums g t0 n kq kp θc θp θu cy ys HS)
    (hkx : keysB kq kp n hx' = true) (hlx : allH n hx' = true) (hrx : renB (gapF kq kp n) hx') (hG : Given w S ρy Fy (.opq (pk g tm ρs t0 hx n θc θp l r0) cy :: HS)) {us : List Value} (hus : cy.map ρy = us.map some) (hP : Pkd g tm ρs t0 hx n θc θp l r0 w S us (Fy 0) ρ Fr) {v0 : Value} (hv0 : ρy 0 = some v0)
    (hq : ∀ i, i < kq → ρ0 i = ρ i) (hL : ∀ i, i < HS.length + 1 → ρ0 (thF (n :: (θp ++ θu)) i) = ρy i)
    (h : Rel ⟨g.n, w, upTo Fy (HS.length + 1), S, kp, ρ0, some l, []⟩ ⟨[], (n, .lp l rb) :: (upOf (thF (n :: (θp ++ θu))) 1 HT ++ (deads θc ++ hx')), n + 1⟩ a w1 S1 ρ1 F1) (hf : ∀ i, n + 1 ≤ i → ρ1 i = none) (v : Value) :
    ∃ S2 ρ' F', Ret w (w1.putObj l (.loop rj)) S S2 ρy ρ' Fy F' (HS.length + 1) (.opq (pk g tm ρs t0 hx' n θc θp l rj) cy :: HT) ∧ S.or S2 = S1 := by
  have hndL := hN.ndL
  have hTl := hT.l
  have hqp := hN.n_qp
  have hpn := hN.n_pn
  have hkq := hN.n_kq
  have hlenL : (n :: (θp ++ θu)).length = HS.length + 1 := by rw [List.length_cons, ← hN.n_len]
  have h2 := h.putLp (i := n) (l := l) (r := rb) (by simp [lkG]) rj
  generalize hw2 : w1.putObj l (.loop rj) = w2 at *
  generalize hLe : (n :: (θp ++ θu)) = L at *
  have hmem : ∀ i, i ∈ L ↔ i = n ∨ i ∈ θp ++ θu := fun i => by rw [← hLe]; exact List.mem_cons
  have hth0 : thF L 0 = n := by rw [← hLe]; rfl
  have hmL : ∀ i, i < HS.length + 1 → thF L i ∈ L := fun i hi => by
    simp only [thF, List.getD_eq_getElem?_getD, List.getElem?_eq_getElem (show i < L.length by omega), Option.getD_some]; exact List.getElem_mem _
  have hths : ∀ i, i < HS.length + 1 → i ≠ 0 → thF L i ∈ θp ++ θu := fun i hi hne => by
    rcases (hmem _).1 (hmL i hi) with e | e
    · exact absurd (nodupB_inj hndL i 0 (by omega) (by omega) hne) (by rw [hth0, e]; simp)
    · exact e
  have hns : n ∉ θp ++ θu := fun hm => by have := hN.s' n hm; omega
  -- what is known of the roots that were handed over
  have hlive : ∀ i, i < HS.length → ∃ u, ρy (i + 1) = some u := fun i hi => by
    have hg : (GB.opq (pk g tm ρs t0 hx n θc θp l r0) cy :: HS)[i + 1]? = some HS[i] := by simp [hi]
    rcases hG.roots _ _ hg with e | ⟨u, e, _⟩
    · have := (List.all_eq_true.1 hN.n_live) HS[i] (List.getElem_mem hi)
      rw [e] at this; cases this
    · exact ⟨u, e⟩
  have hpin : ∀ i, i < HS.length + 1 → i ≠ 0 → ρ1 (thF L i) = ρy i := fun i hi hne => by
    obtain ⟨u, e⟩ := hlive (i - 1) (by omega)
    rw [show i - 1 + 1 = i by omega] at e
    rw [e]
    exact h2.pin _ u (hN.s' _ (hths i hi hne)) (by rw [← e]; exact hL i hi)
  let S2 : Foot := fun b o => S1 b o ∧ newOr w (upTo Fy (HS.length + 1)) b o
  have hSS : S.or S2 = S1 := by
    funext b o
    refine propext ⟨fun h => h.elim (h2.inS b o) (fun h => h.1), fun h => ?_⟩
    rcases h2.newS b o h with h' | h'
    · exact .inl h'
    · exact .inr ⟨h, h'⟩
  -- the package
  let ρn : Env := fun i => if n ≤ i ∨ (kq ≤ i ∧ i < kp) then none else ρ1 i
  let Fn : Nat → Foot := fun i => if i ∈ θc ∨ i ∈ L then no else F1 i
  let F0 : Foot := fun b o => ∃ i, i ∉ θp ++ θu ∧ F1 i b o
  let F' : Nat → Foot := fun i => if i = 0 then F0 else F1 (thF L i)
  have hρr : Env.le (fun i => if i < kq then ρ i else none) ρn := fun i u hu => by
    by_cases hi : i < kq
    · simp only [if_pos hi] at hu
      have e0 : ρ0 i = some u := by rw [hq i hi]; exact hu
      have e1 := h2.pin i u (show i < kp by omega) e0
      simp only [ρn, if_neg (show ¬ (n ≤ i ∨ (kq ≤ i ∧ i < kp)) by omega)]
      exact e1
    · simp only [if_neg hi] at hu; cases hu
  have hkp : ∀ i, i ∈ θp → i < kq := fun i hi => hN.c' i (hN.p' i hi)
  have hold : Keeps (upTo Fy (HS.length + 1)) w w2 := h2.old
  have hSag : Agree w w2 S := hold.agree hG.exS fun b o hb ⟨i, hi, hf⟩ => hG.disS i hi b o hf hb
  have hlpr : mapAt w2 l = some (.loop rj) ∧ ∀ o, F1 n l o := by
    have := h2.root n
    simp only [lkG, Nat.beq_refl, cond_true] at this
    rcases this with e | ⟨u, _, e⟩
    · cases e
    · exact e
  have hlk : ∀ i, i ≠ n → i ∉ θp ++ θu → i ∉ θc → lkG ((n, .lp l rj) :: (n, .lp l rb) :: (upOf (thF L) 1 HT ++ (deads θc ++ hx'))) i = lkG hx' i := fun i h1 h3 h4 => by
    simp only [lkG, beq_ne h1, cond_false]
    rw [lkG_append, lkG_deads' h4]
    rintro ⟨gb, hm⟩
    obtain ⟨k, gb', q1, q2⟩ := upOf_mem hm
    obtain ⟨e1, e2⟩ := Prod.mk.inj q2
    have hk := (List.getElem?_eq_some_iff.1 q1).1
    exact h3 (e1 ▸ hths (1 + k) (by omega) (by omega))
  have hpkd : Pkd g tm ρs t0 hx' n θc θp l rj w2 S1 us F0 ρn Fn := by
    refine ⟨fun i => ?_, fun i hic => ?_, fun i k hik => ?_, fun i => ?_, fun i hi => if_pos (.inl hi), fun i o hb => ?_, hlpr.1, fun o => ⟨n, hns, hlpr.2 o⟩, ?_, fun i hi => ?_, fun i u hi hu => ?_, fun i hi => if_pos (.inl hi)⟩
    · exact (RepS.ltE (ρ' := fun i => if i < kq then ρ i else none) (fun i hi => if_pos hi) (hP.slot i) (allT_lk hN.n_t i)).keep hSag h2.inS hρr
    · rcases keysB_lk (i := i) hkx with e | ⟨hin, hgap⟩
      · exact .inl e
      have hine : i ≠ n := by omega
      have hins : i ∉ θp ++ θu := fun hm => by
        rcases List.mem_append.1 hm with hm | hm
        · exact hic (hN.p' i hm)
        · have := hN.u' i hm; omega
      have hr := h2.root i
      simp only at hr
      rw [hlk i hine hins hic] at hr
      rcases hr with e | ⟨u, e1, e2⟩
      · exact .inl e
      · refine .inr ⟨u, by simp only [ρn, if_neg (show ¬ (n ≤ i ∨ (kq ≤ i ∧ i < kp)) by omega)]; exact e1, ?_⟩
        have hFn : Fn i = F1 i := if_neg fun hm => hm.elim hic fun hm => ((hmem i).1 hm).elim hine hins
        rw [hFn]
        refine rep_gap e2 (allH_lk hlx i) (renB_lk hrx) ?_ fun k hk hk' => by
          simp only [ρn, if_neg (show ¬ (n ≤ k ∨ (kq ≤ k ∧ k < kp)) by omega)]
        rw [hf _ (by omega)]
        exact if_pos (.inl (by omega))
    · simp only [Fn]
      split
      · exact no_dis _
      · split
        · exact dis_no _
        · exact h2.dis i k hik
    · simp only [Fn]
      split
      · exact no_le _
      · rename_i hm
        exact fun b o hb => ⟨i, fun hm' => hm (.inr ((hmem i).2 (.inr hm'))), hb⟩
    · simp only [Fn] at hb
      split at hb
      · exact hb.elim
      · rename_i hm
        exact h2.dis i n (fun e => hm (.inr ((hmem i).2 (.inl e)))) l o hb (hlpr.2 o)
    · refine envs_le hρr ?_
      rw [← hP.us]
      exact List.map_congr_left fun i hi => if_pos (hkp i hi)
    · obtain ⟨u, e1, e2⟩ := hP.val i hi
      exact ⟨u, e1, hρr i u (by simp only [if_pos (hN.c' i hi)]; exact e2)⟩
    · exact hρr i u (by simp only [if_pos (show i < kq by omega)]; exact hP.pin i u hi hu)
  refine ⟨S2, ρy, F', ⟨hold, fun b o h => h.2, fun b o h => h2.exS b o h.1, (by simp [hTl]), fun i u _ h => h, fun i hi => hG.new i (by simp only [List.length_cons] at hi ⊢; omega), fun i gb hi => ?_, fun i k hi hk hik => ?_, fun i hi => ?_, fun i hi => ?_, fun i hi => ?_⟩, hSS⟩
  · rw [hSS]
    cases i with
    | zero =>
      simp only [List.getElem?_cons_zero, Option.some.injEq] at hi
      subst hi
      exact .inr ⟨v0, hv0, us, hus, ρn, Fn, hpkd⟩
    | succ i =>
      simp only [List.getElem?_cons_succ] at hi
      have hilT : i < HT.length := (List.getElem?_eq_some_iff.1 hi).1
      have hil : i < HS.length := by omega
      obtain ⟨u, hu⟩ := hlive i hil
      have hl1 : lkG ((n, .lp l rj) :: (n, .lp l rb) :: (upOf (thF L) 1 HT ++ (deads θc ++ hx'))) (thF L (i + 1)) = gb.ren (thF L) := by
        have hne : thF L (i + 1) ≠ n := fun e => hns (e ▸ hths (i + 1) (by omega) (by omega))
        simp only [lkG, beq_ne hne, cond_false]
        have hki : keyIn (upOf (thF L) 1 HT) (thF L (i + 1)) := by
          obtain ⟨gb', hm⟩ := upOf_has (f := thF L) (H := HT) (k := 1) (i := i) hilT
          rw [Nat.add_comm] at hm
          exact ⟨gb', hm⟩
        obtain ⟨k, gb', q1, q2⟩ := upOf_mem (lkG_key _ (deads θc ++ hx') _ hki)
        obtain ⟨e1, e2⟩ := Prod.mk.inj q2
        have hk := (List.getElem?_eq_some_iff.1 q1).1
        have : 1 + k = i + 1 := Classical.byContradiction fun hne' => nodupB_inj hndL (i + 1) (1 + k) (by omega) (by omega) (fun e => hne' e.symm) e1
        rw [e2]
        have : k = i := by omega
        subst this
        rw [hi] at q1
        cases q1
        rfl
      have hr := h2.root (thF L (i + 1))
      simp only at hr
      rw [hl1] at hr
      rcases hr with e | ⟨u', e1, e2⟩
      · refine .inl ?_
        cases gb <;> simp [GB.ren] at e ⊢
      · rw [hpin (i + 1) (by omega) (by omega)] at e1
        refine .inr ⟨u', e1, ?_⟩
        show RepG w2 S1 ρy gb u' (if i + 1 = 0 then F0 else F1 (thF L (i + 1)))
        rw [if_neg (by omega)]
        have e3 : RepG w2 S1 (fun k => ρ1 (thF L k)) gb u' (F1 (thF L (i + 1))) := RepG.ren.1 e2
        have hz := renL_get hT.z hi
        have e4 : RepG w2 S1 (fun k => ρ1 (thF L (k - 1 + 1))) gb u' (F1 (thF L (i + 1))) := RepG.ren (f := fun k => k - 1 + 1) (ρ := fun k => ρ1 (thF L k)) |>.1 (hz.symm ▸ e3)
        have e5 : RepG w2 S1 (fun k => ρy (k - 1 + 1)) gb u' (F1 (thF L (i + 1))) := RepG.ltE (fun k hk => (hpin (k - 1 + 1) (by omega) (by omega)).symm) e4 (allG_get hT.a hi)
        exact hz ▸ (RepG.ren (f := fun k => k - 1 + 1) (ρ := ρy) |>.2 e5)
  · have hi' : i < HS.length + 1 := by simp only [List.length_cons] at hi; omega
    have hk' : k < HS.length + 1 := by simp only [List.length_cons] at hk; omega
    have key : ∀ q, q < HS.length + 1 → q ≠ 0 → Foot.dis F0 (F1 (thF L q)) := fun q hq hne b o ⟨i, hi, hb⟩ hb' => h2.dis i (thF L q) (fun e => hi (e ▸ hths q hq hne)) b o hb hb'
    simp only [F']
    by_cases h0 : i = 0
    · rw [if_pos h0, if_neg (by omega)]
      exact key k hk' (by omega)
    · rw [if_neg h0]
      by_cases h1 : k = 0
      · rw [if_pos h1]; exact (key i hi' h0).symm
      · rw [if_neg h1]; exact h2.dis _ _ (nodupB_inj hndL i k (by omega) (by omega) hik)
  · simp only [F']
    split
    · exact fun b o ⟨i, _, hb⟩ hs => h2.disS i b o hb hs.1
    · exact fun b o hb hs => h2.disS _ b o hb hs.1
  · simp only [F']
    split
    · exact fun b o ⟨i, _, hb⟩ => h2.own i b o hb
    · exact h2.own _
  · simp only [F']
    split
    · exact fun b o ⟨i, _, hb⟩ => h2.ex i b o hb
    · exact h2.ex _
/-- A round begins: what is handed out may be told by the roots of the round. -/
theorem round_inT {w : World} {S : Foot} {ρy : Env} {Fy : Nat → Foot} {vs : List Value} (hN : RNums g t0 n kq kp θc θp θu cy [] HS) (hys : ltA (HS.length + 1) ys = true) (htm : tm.size = g.n) {ps : List Nat} (hps : ∀ p ∈ ps, p < g.n)
    (hkx : keysB kq kp n hx = true) (hlx : allH n hx = true) (hrx : renB (gapF kq kp n) hx) (hA : RepA w S ρy ys vs) (hG : Given w S ρy Fy (.opq (pk g tm ρs t0 hx n θc θp l r0) cy :: HS)) {us : List Value} {ρ : Env} {Fr : Nat → Foot} (hus : cy.map ρy = us.map some) (hP : Pkd g tm ρs t0 hx n θc θp l r0 w S us (Fy 0) ρ Fr) {v0 : Value} (hv0 : ρy 0 = some v0) :
    ∃ ρ2 F2, Rel ⟨g.n, w, upTo Fy (HS.length + 1), S, kp, ρ2, some l, []⟩ ⟨parT ps (ys.map (SV.ren (thF (n :: (θp ++ θu))))) t0, (n, .lp l r0) :: (upOf (thF (n :: (θp ++ θu))) 1 HS ++ (deads θc ++ hx)), n + 1⟩ { tmps := (ps.zip vs).foldl (fun tm x => tm.setIfInBounds x.1 x.2) tm, defers := [] } w S ρ2 F2 ∧
      (∀ i, n + 1 ≤ i → ρ2 i = none) ∧ (∀ i, i < kq → ρ2 i = ρ i) ∧ (∀ i, i < HS.length + 1 → ρ2 (thF (n :: (θp ++ θu)) i) = ρy i) := by
  obtain ⟨ρ2, F2, h, h1, h2, h3⟩ := round_in (vs := []) (ps := ps) hN htm hps hkx hlx hrx rfl hG hus hP hv0
  have e1 : parT ps [] t0 = t0 := by cases ps <;> rfl
  rw [e1, List.zip_nil_right, List.foldl_nil] at h
  have hA' : ∀ {ys : List SV} {vs : List Value}, ltA (HS.length + 1) ys = true → RepA w S ρy ys vs → RepA w S ρ2 (ys.map (SV.ren (thF (n :: (θp ++ θu))))) vs := by
    intro ys
    induction ys with
    | nil => intro vs _ h; exact h
    | cons y ys ih =>
      intro vs hl h
      simp only [ltA, Bool.and_eq_true] at hl
      simp only [RepA] at h
      obtain ⟨v, us, rfl, q1, q2⟩ := h
      refine ⟨v, us, rfl, RepS.ren.2 (RepS.ltE (fun i hi => h3 i hi) q1 hl.1), ih hl.2 q2⟩
  refine ⟨ρ2, F2, ⟨?_, h.defers, ?_, h.root, h.dis, h.disS, h.own, h.ex, h.exS, h.old, h.inS, h.newS, h.pin, h.tab, h.fin⟩, h1, h2, h3⟩
  · rw [← htm]; exact par_size
  · exact par_rep (hA' hys hA) (fun p hp => by rw [htm]; exact hps p hp) h.slot
/-- **The contract of yield**, from the walk of the loop's body. -/
theorem yield_okT {HT : List GB} (hT : TellsT HS HT) (hN : RNums g t0 n kq kp θc θp θu cy [] HS) (hys : ltA (HS.length + 1) ys = true) (htm : tm.size = g.n) (htmp : r0.tmps = tm) (hps : ∀ p ∈ r0.params.toList, p < g.n) (hyl : ys.length = r0.params.toList.length)
    (hkx : keysB kq kp n hx = true) (hlx : allH n hx = true) (hrx : renB (gapF kq kp n) hx) (hkx' : keysB kq kp n hx' = true) (hlx' : allH n hx' = true) (hrx' : renB (gapF kq kp n) hx')
    (hr : ∀ (w0 : World) (F0 S0 : Foot) (ρ0 : Env) (r : Loop), GWp P ⟨g.n, w0, F0, S0, kp, ρ0, some l, []⟩ r0.assign ⟨parT r0.params.toList (ys.map (SV.ren (thF (n :: (θp ++ θu))))) t0, (n, .lp l r) :: (upOf (thF (n :: (θp ++ θu))) 1 HS ++ (deads θc ++ hx)), n + 1⟩
      (qAsg P ⟨g.n, w0, F0, S0, kp, ρ0, some l, []⟩ r0.body n l r (qRound kp (fun (_ : Unit) => ⟨[], (n, .lp l (busy r)) :: (upOf (thF (n :: (θp ++ θu))) 1 HT ++ (deads θc ++ hx')), n + 1⟩) ((), j)))) :
    DoesW (YC P l) ys (.opq (pk g tm ρs t0 hx n θc θp l (recJ r0 none)) cy :: HS) (.one (.d (.sc (.bool j.isNone)))) (.opq (pk g tm ρs t0 hx' n θc θp l (recJ r0 j)) cy :: HT) := by
  intro vs w S ρy Fy hA hG
  have h0 := hG.roots 0 _ rfl
  rcases h0 with h0 | ⟨v0, hv0, us, hus, ρ, Fr, hP⟩
  · cases h0
  obtain ⟨ρ2, F2, hrel, hfr, hq, hL⟩ := round_inT (ps := r0.params.toList) hN hys htm hps hkx hlx hrx hA hG hus hP hv0
  have hvl : vs.length = r0.params.toList.length := by rw [repA_len hA, hyl]
  have hloop := mapAt_of hP.rcd
  have hrun := run_yield (P := P) (args := vs.toArray) hloop (by simp [recJ]; simpa using hvl)
  have hfold : (((recJ r0 none).params.zip vs.toArray).foldl (fun tmps x => tmps.setIfInBounds x.1 x.2) (recJ r0 none).tmps) = (r0.params.toList.zip vs).foldl (fun tm x => tm.setIfInBounds x.1 x.2) tm := by
    rw [← htmp, ← Array.foldl_toList, Array.toList_zip]
    rfl
  refine ⟨_, _, _, _, hrun, roundIn_of_wpIn (F := fen none) trivial ?_⟩
  have hw := (hr w (upTo Fy (HS.length + 1)) S ρ2 (recJ r0 none)).run _ w S ρ2 F2 hrel (fun i hi => hfr i hi)
  rw [← hfold] at hw
  refine wpIn_mono hw ?_
  rintro e a1 w1 ⟨st1, S1, ρ1, F1, hrel1, hf1, hq1⟩
  cases hq1 with
  | go hl hbody =>
    have hlp : mapAt w1 l = some (.loop (recJ r0 none)) := by
      rcases hrel1.root n with e | ⟨u, _, e⟩
      · rw [hl] at e; cases e
      · rw [hl] at e; exact e.1
    have hbeg := run_beginRound (P := P) (mapAt_of hlp) rfl
    refine ⟨_, hbeg, ?_⟩
    have hrel1' := hrel1.putLp hl (busy (recJ r0 none))
    refine wpIn_mono (hbody.run a1 _ S1 ρ1 F1 hrel1' hf1) ?_
    rintro e a2 w2 ⟨st2, S2, ρ3, F3, hrel2, hf2, hq2⟩
    have fin : ∀ (θ : List Nat) (jj : Option Code) (s : St), StLe kp θ st2 s → SameSt s ⟨[], (n, .lp l (busy (recJ r0 none))) :: (upOf (thF (n :: (θp ++ θu))) 1 HT ++ (deads θc ++ hx')), n + 1⟩ → jj = j →
        ∃ v w', (Instr.endRound l jj).run P w2 = .ok v w' ∧ ∃ v' S1 ρ' F', Ending.returned v = .returned v' ∧ Ret w w' S S1 ρy ρ' Fy F' (HS.length + 1) (.opq (pk g tm ρs t0 hx' n θc θp l (recJ r0 j)) cy :: HT) ∧ RepS w' (S.or S1) ρ' (.one (.d (.sc (.bool j.isNone)))) v' := by
      rintro θ jj s hle hss rfl
      obtain ⟨ρ4, F4, hrel4', hf4⟩ := hle.rel hrel2
      have hrel4 := hss.rel hrel4'
      have hlp4 : mapAt w2 l = some (.loop (busy (recJ r0 none))) := by
        have := hrel4.root n
        simp only [lkG, Nat.beq_refl, cond_true] at this
        rcases this with e | ⟨u, _, e⟩
        · cases e
        · exact e.1
      obtain ⟨S5, ρ5, F5, hret, _⟩ := round_outT (rj := recJ r0 jj) hT hN hkx' hlx' hrx' hG hus hP hv0 hq hL hrel4 (fun i hi => hf4 i (by rw [hss.n]; exact hi)) v0
      exact ⟨_, _, run_endRound jj (mapAt_of hlp4), _, S5, ρ5, F5, rfl, hret, rfl, rfl⟩
    cases hq2 with
    | next θ hx hl hs => exact fin θ none _ hl hs hx.symm
    | ret θ hx hl hs => exact fin θ (some .ret) _ hl hs hx.symm
    | exit θ hx hl hs => exact fin θ (some (.exit _)) _ hl hs hx.symm
end
section
variable {P : Program} {g : Gh} {Q : Exit → St → Prop}
theorem g_rangeT {X A : Type} {fo : Operand} {ps : Array Tmp} {assign body : Code} {f : Nat} {c0 : C} {cap : List C} {ags : List SV} {H H' : List GB} {res : SV}
    (kq kp : Nat) (θc θp θu cH cy : List Nat) (hs : X → List (Nat × GB)) {h1 : List (Nat × GB)} {t0 : List (Nat × SV)} {n : Nat}
    (ya : A → List SV) (HS HT : A → List GB) (hT : ∀ a, TellsT (HS a) (HT a)) (bd : X → A → X × Option Code) (Pre : X → A → Prop) (x0 xe : X) (je : Option Code)
    (hrd : g.rd = none) (hdf : g.df = [])
    (hc : opd ⟨t0, hs x0 ++ h1, n⟩ fo = .one c0) (hv : fnv c0 = some (.func f, cap)) (hE : entB P f = true)
    (ha : cap.map SV.one = ags.map (SV.ren (calF (n :: θc) (n + 1)))) (hH : rootsEq (calF (n :: θc) (n + 1)) ⟨t0, hs x0 ++ h1, n⟩ 1 H)
    (hD : ∀ (l : Nat) (R : X → Option Code → Opq), (∀ x a, Pre x a → DoesW (YC P l) (ya a) (.opq (R x none) cy :: HS a) (.one (.d (.sc (.bool (bd x a).2.isNone)))) (.opq (R (bd x a).1 (bd x a).2) cy :: HT a)) →
      Does P f (.one (.d (.fn (.yield l) [])) :: ags) (.opq (R x0 none) cH :: H) res (.opq (R xe je) cH :: H'))
    (hk : H.length = θc.length) (hk' : Nat.ble θc.length H'.length = true) (hθ : nodupB θc = true) (hcH : cH.all (fun i => Nat.blt i (H.length + 1)) = true) (hcHp : cH.map (calF (n :: θc) (n + 1)) = θp)
    (hlt : ltA (H.length + 1) ags = true) (hltH : allG (H.length + 1) H = true) (hltr : res.lt (H'.length + 1) = true) (hltH' : allG (H'.length + 1) H' = true)
    (hN : ∀ a, RNums g t0 n kq kp θc θp θu cy [] (HS a)) (hys : ∀ a, ltA ((HS a).length + 1) (ya a) = true) (hqn : Nat.ble kq n = true) (hkq : Nat.ble g.k kq = true) (htk : allT kq t0 = true) (hck : θc.all (fun i => Nat.blt i kq) = true) (hpk : θp.all (fun i => θc.any (Nat.beq i)) = true)
    (hkx : ∀ x, keysB kq kp n (hs x ++ h1) = true) (hlx : ∀ x, allH n (hs x ++ h1) = true) (hrx : ∀ x, renB (gapF kq kp n) (hs x ++ h1))
    (hps : ps.toList.all (fun p => Nat.blt p g.n) = true) (hyl : ∀ a, (ya a).length = ps.toList.length)
    (hr : ∀ x a, Pre x a → ∀ (l : Nat) (w0 : World) (F0 S0 : Foot) (ρ0 : Env) (r : Loop), GWp P ⟨g.n, w0, F0, S0, kp, ρ0, some l, []⟩ assign ⟨parT ps.toList ((ya a).map (SV.ren (thF (n :: (θp ++ θu))))) t0, (n, .lp l r) :: (upOf (thF (n :: (θp ++ θu))) 1 (HS a) ++ (deads θc ++ (hs x ++ h1))), n + 1⟩
      (qAsg P ⟨g.n, w0, F0, S0, kp, ρ0, some l, []⟩ body n l r (qRound kp (fun (x' : X) => ⟨[], (n, .lp l (busy r)) :: (upOf (thF (n :: (θp ++ θu))) 1 (HT a) ++ (deads θc ++ (hs x' ++ h1))), n + 1⟩) (bd x a))))
    (hend : match je with
      | none => Q .normal ⟨t0, upOf (calF (n :: θc) (n + 1)) 1 H' ++ (deads θc ++ (hs xe ++ h1)), n + 1 + (H'.length - θc.length)⟩
      | some c => GWp P g c ⟨t0, upOf (calF (n :: θc) (n + 1)) 1 H' ++ (deads θc ++ (hs xe ++ h1)), n + 1 + (H'.length - θc.length)⟩ Q) :
    GWp P g (.rangeFunc fo ps assign body) ⟨t0, hs x0 ++ h1, n⟩ Q := by
  refine ⟨fun a w S ρ F hrel hf => ?_⟩
  have hqn' := Nat.le_of_ble_eq_true hqn
  have hkq' := Nat.le_of_ble_eq_true hkq
  have hk'' := Nat.le_of_ble_eq_true hk'
  have hc' : ∀ i ∈ θc, i < kq := fun i hi => blt_lt ((List.all_eq_true.1 hck) i hi)
  have hp' : ∀ i ∈ θp, i ∈ θc := fun i hi => by
    have := (List.all_eq_true.1 hpk) i hi
    rw [List.any_eq_true] at this
    obtain ⟨j, hj, e⟩ := this
    rw [Nat.eq_of_beq_eq_true e]
    exact hj
  have hcal : ∀ i, i < θc.length → calF (n :: θc) (n + 1) (1 + i) = thF θc i := fun i hi => by
    rw [calF_eq]
    have : Nat.blt (1 + i) (n :: θc).length = true := Nat.ble_eq_true_of_le (by simp only [List.length_cons]; omega)
    rw [this, Nat.add_comm]; rfl
  have hthm : ∀ i, i < θc.length → thF θc i ∈ θc := fun i hi => by
    simp only [thF, List.getD_eq_getElem?_getD, List.getElem?_eq_getElem hi, Option.getD_some]; exact List.getElem_mem _
  have hlive : ∀ i ∈ θc, ∃ u, ρ i = some u := fun i hi => by
    obtain ⟨q1, q2⟩ := th_idx hi
    have hi' : θc.idxOf i < H.length := by omega
    obtain ⟨e1, e2⟩ := rootsEq_get hH (List.getElem?_eq_getElem hi')
    rw [hcal _ q1, q2] at e1
    rcases hrel.root i with r0 | ⟨u, r1, _⟩
    · simp only at r0 e1
      rw [e1] at r0
      cases hg : H[θc.idxOf i] <;> rw [hg] at r0 e2 <;> simp [GB.ren, GB.lives] at r0 e2
    · exact ⟨u, r1⟩
  refine wpIn_rangeFunc fun fn _ => ?_
  let r0 : Loop := { state := .ready, pending := none, fn, tmps := a.tmps, params := ps, assign, body, defers := w.heap.size }
  let l := w.heap.size + 1
  let a1 : Act := { a with defers := [mkd w.heap.size] ++ a.defers }
  let w1 := (w.alloc (.deferred (some []))).alloc (.loop r0)
  obtain ⟨ρI, FI, hrI, hfI, hρI⟩ := range_in (r0 := r0) (θp := θp) hrel hf hkq' hqn' hc' hp' hlive hdf
  obtain ⟨vs, e1, e2⟩ := fnv_eval (opd_one hrel hc) hv
  have henter : (Instr.enterLoop fn a.tmps ps assign body (fen g.rd).round).run P w = .ok (l, [mkd w.heap.size]) w1 := by
    show (Instr.enterLoop fn a.tmps ps assign body g.rd).run P w = _
    rw [hrd]
    exact run_enterLoop_outer fn a.tmps ps assign body
  have hres : (resolve a.eval (rangeCall fo l) 0).run P w1 = .ok { target := .fn (.func f) vs, args := #[.func (.yield l) #[] #[]] } w1 := by
    have e3 : a.eval (.const (.func (.yield l) #[] #[])) = .func (.yield l) #[] #[] := rfl
    simp [resolve, rangeCall, e1, e3, Deferred.ofValue]
  have hinv : (invoke (.fn (.func f) vs) #[.func (.yield l) #[] #[]]).run P w1 = .ok (.enter f (#[Value.func (.yield l) #[] #[]] ++ vs)) w1 := by
    have := run_callFunc hE (#[Value.func (.yield l) #[] #[]] ++ vs) w1
    rw [← this]
    simp [invoke]
  refine ⟨l, [mkd w.heap.size], w1, _, w1, f, _, w1, henter, hres, fun _ _ => trivial, hinv, fen_depth, calls_in ?_⟩
  -- the call
  let R : X → Option Code → Opq := fun x j => pk g a.tmps ρ t0 (hs x ++ h1) n θc θp l (recJ r0 j)
  have hDoes := hD l R fun x aa hpre => yield_okT (r0 := r0) (hT aa) (hN aa) (hys aa) hrel.size rfl (fun p hp => blt_lt ((List.all_eq_true.1 hps) p hp)) (hyl aa) (hkx x) (hlx x) (hrx x) (hkx (bd x aa).1) (hlx (bd x aa).1) (hrx (bd x aa).1)
    fun w0 F0 S0 ρ0 r => g_mono (hr x aa hpre l w0 F0 S0 ρ0 r) fun e st hq => by
      cases hq with
      | go h1 h2 =>
        refine .go h1 (g_mono h2 fun e st hq => ?_)
        cases hq with
        | next θ hx hl hs => exact .next θ hx hl ⟨hs.t, hs.n, hs.h⟩
        | ret θ hx hl hs => exact .ret θ hx hl ⟨hs.t, hs.n, hs.h⟩
        | exit θ hx hl hs => exact .exit θ hx hl ⟨hs.t, hs.n, hs.h⟩
  have hsel : ∀ i ∈ θc, lkG ((n, GB.opq (R x0 none) θp) :: (θc.map fun k => (k, lkG (hs x0 ++ h1) k))) i = lkG (hs x0 ++ h1) i := fun i hi => by
    have := hc' i hi
    simp only [lkG, beq_ne (show i ≠ n by omega), cond_false]
    exact lkG_sel.1 hi
  have hren : ∀ j : Option Code, ∀ x, (GB.opq (R x j) cH).ren (calF (n :: θc) (n + 1)) = .opq (R x j) θp := fun j x => by simp only [GB.ren, hcHp]
  have hA : RepA w1 S ρI (.one (.d (.fn (.yield l) [])) :: cap.map .one) (Value.func (.yield l) #[] #[] :: vs.toList) := by
    refine ⟨_, _, rfl, ⟨#[], rfl, rfl⟩, repA_one ?_⟩
    have hk : Keeps no w w1 := (keeps_alloc _).trans (keeps_alloc _) (no_le _)
    exact e2.keep (hk.agree hrel.exS (dis_no _)) (le_refl _) fun i u hu => by
      have : i ≠ n := fun e => by rw [e, hf n (Nat.le_refl _)] at hu; cases hu
      rw [hρI i this]; exact hu
  have hup : ∀ i gb, (i, gb) ∈ upOf (calF (n :: θc) (n + 1)) 0 (.opq (R xe je) cH :: H') → (i ∈ n :: θc ∨ (n + 1 ≤ i ∧ i < n + 1 + (H'.length - θc.length))) := fun i gb hm => by
    obtain ⟨k, gb', q1, q2⟩ := upOf_mem hm
    have hk1 := (List.getElem?_eq_some_iff.1 q1).1
    simp only [List.length_cons] at hk1
    obtain ⟨e1, e2⟩ := Prod.mk.inj q2
    rw [e1, Nat.zero_add, calF_eq]
    cases hb : Nat.blt k (n :: θc).length with
    | true =>
      simp only [cond_true]
      have hi' := blt_lt hb
      left
      simp only [thF, List.getD_eq_getElem?_getD, List.getElem?_eq_getElem hi', Option.getD_some]; exact List.getElem_mem _
    | false =>
      simp only [cond_false]
      have : ¬ k < (n :: θc).length := fun hlt => by
        have : Nat.blt k (n :: θc).length = true := Nat.ble_eq_true_of_le hlt
        rw [this] at hb; cases hb
      simp only [List.length_cons] at this ⊢
      right; omega
  have hcall := call_done (Callee := fun vs w R => Calls P f vs.toArray w R) (m := n + 1) (θ := n :: θc) (ld := []) (args := .one (.d (.fn (.yield l) [])) :: cap.map .one) (fun _ _ _ _ h hr => Calls.mono h hr) hDoes
    (.cons .refl (ha ▸ asle_refl _))
    ⟨⟨by
      rw [hren]
      simp only [calF, lkG, Nat.beq_refl, cond_true]
      rfl, rfl⟩, rootsEq_at fun i gb hi => by
        obtain ⟨e1, e2⟩ := rootsEq_get hH hi
        have hil : i < θc.length := by rw [← hk]; exact (List.getElem?_eq_some_iff.1 hi).1
        have hm : calF (n :: θc) (n + 1) (1 + i) ∈ θc := by rw [hcal i hil]; exact hthm i hil
        rw [show 0 + 1 + i = 1 + i by omega]
        refine ⟨?_, e2⟩
        rw [← e1]
        exact hsel _ hm⟩
    (by simp [hk]) (by
      simp only [nodupB, Bool.and_eq_true, Bool.not_eq_true', List.any_eq_false]
      refine ⟨fun i hi e => ?_, hθ⟩
      have := hc' i hi
      have := Nat.eq_of_beq_eq_true e
      omega) (by
      simp only [List.all_cons, Bool.and_eq_true, List.all_eq_true]
      refine ⟨Nat.ble_eq_true_of_le (Nat.le_refl _), fun i hi => Nat.ble_eq_true_of_le ?_⟩
      have := hc' i hi
      show i + 1 ≤ n + 1
      omega) rfl (.inl rfl)
    (by simp only [ltA, Bool.and_eq_true]; exact ⟨rfl, hlt⟩) (by simp only [allG, Bool.and_eq_true]; exact ⟨hcH, hltH⟩) hltr (by
      simp only [allG, Bool.and_eq_true]
      refine ⟨?_, hltH'⟩
      refine List.all_eq_true.2 fun i hi => ?_
      have := blt_lt ((List.all_eq_true.1 hcH) i hi)
      exact Nat.ble_eq_true_of_le (by simp only [List.length_cons]; omega)) rfl rfl hrI
    (fun x hx => by
      rcases hup x.1 x.2 hx with h | h
      · exact .inl h
      · exact .inr (hfI _ h.1)) hA
  rw [show (#[Value.func (.yield l) #[] #[]] ++ vs) = (Value.func (.yield l) #[] #[] :: vs.toList).toArray by simp]
  refine Calls.mono hcall ?_
  rintro e w' ⟨v, S1, ρ', F', rfl, hdone, _⟩
  have hrD := Rel.done hrI hdone (n := n + 1 + (H'.length - θc.length)) (dst := none) (v := v) (sv := .any) (fun _ h => by cases h) trivial
  have hrD' : Rel g ⟨t0, (n, .opq (pk g a.tmps ρ t0 (hs xe ++ h1) n θc θp l (recJ r0 je)) θp) :: (upOf (calF (n :: θc) (n + 1)) 1 H' ++ ((n, GB.opq (R x0 none) θp) :: (θc.map fun k => (k, lkG (hs x0 ++ h1) k)))), n + 1 + (H'.length - θc.length)⟩ a1 w' (S.or S1) ρ' (mrg FI F' (upOf (calF (n :: θc) (n + 1)) 0 (.opq (R xe je) cH :: H'))) := by
    have e : upOf (calF (n :: θc) (n + 1)) 0 (.opq (R xe je) cH :: H') = (n, .opq (R xe je) θp) :: upOf (calF (n :: θc) (n + 1)) 1 H' := by
      simp only [upOf, hren]
      rfl
    rw [e] at hrD ⊢
    exact hrD
  obtain ⟨hml, ρF, FF, hF, hFρ⟩ := range_out (a := a1) (kq := kq) (kp := kp) (r2 := { recJ r0 je with state := .exhausted }) hrD' hkq' hqn' hc' htk (hkx xe) (hlx xe) hltH' hk'' (fun i hi u hu => hdone.sub i u (by
    have := hc' i hi
    rw [hρI i (by omega)]; exact hu))
  have hfF : ∀ i, n + 1 + (H'.length - θc.length) ≤ i → ρF i = none := fun i hi => by
    rw [hFρ i (by omega)]
    refine hdone.dom i (hfI i (by omega)) fun gb hm => ?_
    rcases hup i gb hm with h | h
    · rcases List.mem_cons.1 h with h | h
      · omega
      · have := hc' i h; omega
    · omega
  have hend' := run_endLoop (P := P) (mapAt_of hml) (by simp only [recJ]; split <;> simp)
  refine ⟨_, _, hend', ?_⟩
  cases je with
  | none => exact ⟨_, _, _, _, hF, fun i hi => hfF i hi, hend⟩
  | some c => exact hend.run _ _ _ _ _ hF fun i hi => hfF i hi
end
section
variable {g : Gh} {Q : Exit → St → Prop} {t t0 : List (Nat × SV)} {h h0 hE : List (Nat × GB)} {n n1 : Nat}
inductive PickRo : List Nat → List (Nat × GB) → List (Nat × GB) → Prop where
  | nil {t : List (Nat × GB)} : PickRo [] t []
  | row {i z : Nat} {l : List Nat} {xs : List D} {t r : List (Nat × GB)} (e : lkG t i = .row z xs) (h : PickRo l t r) : PickRo (i :: l) t ((i, .row z xs) :: r)
  | sh {i z : Nat} {l : List Nat} {xs : List D} {t r : List (Nat × GB)} (e : lkG t i = .sh z xs) (h : PickRo l t r) : PickRo (i :: l) t ((i, .sh z xs) :: r)
  | bx {i : Nat} {l : List Nat} {cs : List C} {t r : List (Nat × GB)} (e : lkG t i = .bx cs) (h : PickRo l t r) : PickRo (i :: l) t ((i, .bx cs) :: r)
  | mp {i : Nat} {l : List Nat} {kv : List (Value × Value)} {t r : List (Nat × GB)} (e : lkG t i = .mp kv) (h : PickRo l t r) : PickRo (i :: l) t ((i, .mp kv) :: r)
  | opq {i : Nat} {l : List Nat} {R : Opq} {cs : List Nat} {t r : List (Nat × GB)} (e : lkG t i = .opq R cs) (h : PickRo l t r) : PickRo (i :: l) t ((i, .opq R cs) :: r)
theorem rangeT {X A : Type} {fo : Operand} {ps : Array Tmp} {assign body : Code} {f : Nat} {c0 : C} {cap : List C} {ags : List SV} {H H' : List GB} {res : SV}
    (live ex : List Nat) (uh : X → List (Nat × GB)) (θ0 : List Nat) (kq kp : Nat) (θc θp θu cH cy : List Nat) (ya : A → List SV) (HS HT : A → List GB) (bd : X → A → X × Option Code) (Pre : X → A → Prop) (x0 : X) {xe : X} {je : Option Code}
    (hp : Pick live t t0 := by repeat (first | exact Pick.nil | apply Pick.one rfl | apply Pick.agg rfl | apply Pick.tup rfl | apply Pick.any)) (hqE : PickRo θc h hE := by repeat (first | exact PickRo.nil | apply PickRo.bx rfl | apply PickRo.row rfl | apply PickRo.sh rfl | apply PickRo.mp rfl | apply PickRo.opq rfl)) (hq : PickH (ex ++ θc) h n1 h0 := by repeat (first | exact PickH.zero | apply PickH.row rfl rfl | apply PickH.sh rfl rfl | apply PickH.bx rfl rfl | apply PickH.mp rfl rfl | apply PickH.lp rfl rfl | apply PickH.bld rfl rfl | apply PickH.opq rfl rfl | apply PickH.out)) (hin : StLe g.k θ0 ⟨t, h, n⟩ ⟨t0, uh x0 ++ (hE ++ h0), n1⟩ := by exact stk)
    (hrd : g.rd = none := by exact rfl) (hdf : g.df = [] := by exact rfl)
    (hc : opd ⟨t0, uh x0 ++ (hE ++ h0), n1⟩ fo = .one c0 := by exact rfl) (hv : fnv c0 = some (.func f, cap) := by exact rfl) (hE' : entB Tryz.prog f = true := by exact fQ rfl)
    (hD : ∀ (l : Nat) (R : X → Option Code → Opq), (∀ x a, Pre x a → DoesW (YC Tryz.prog l) (ya a) (.opq (R x none) cy :: HS a) (.one (.d (.sc (.bool (bd x a).2.isNone)))) (.opq (R (bd x a).1 (bd x a).2) cy :: HT a)) →
      Does Tryz.prog f (.one (.d (.fn (.yield l) [])) :: ags) (.opq (R x0 none) cH :: H) res (.opq (R xe je) cH :: H'))
    (ha : cap.map SV.one = ags.map (SV.ren (calF (n1 :: θc) (n1 + 1))) := by exact rfl) (hH : rootsEq (calF (n1 :: θc) (n1 + 1)) ⟨t0, uh x0 ++ (hE ++ h0), n1⟩ 1 H := by repeat (first | exact trivial | refine And.intro ?_ ?_ | exact rfl))
    (hk : H.length = θc.length := by exact rfl) (hk' : Nat.ble θc.length H'.length = true := by exact rfl) (hθ : nodupB θc = true := by exact rfl) (hcH : cH.all (fun i => Nat.blt i (H.length + 1)) = true := by exact rfl) (hcHp : cH.map (calF (n1 :: θc) (n1 + 1)) = θp := by exact rfl)
    (hlt : ltA (H.length + 1) ags = true := by exact rfl) (hltH : allG (H.length + 1) H = true := by exact rfl) (hltr : res.lt (H'.length + 1) = true := by exact rfl) (hltH' : allG (H'.length + 1) H' = true := by exact rfl)
    (hys : ∀ a, ltA ((HS a).length + 1) (ya a) = true := by (intro a; exact rfl)) (hN : ∀ a, RNums g t0 n1 kq kp θc θp θu cy [] (HS a) := by (intro a; exact ⟨Nat.le_of_ble_eq_true rfl, Nat.le_of_ble_eq_true rfl, Nat.le_of_ble_eq_true rfl, rfl, rfl, rfl, rfl, rfl, rfl, rfl, rfl, rfl, rfl, (by repeat (first | exact trivial | refine And.intro ?_ ?_ | exact rfl)), rfl⟩)) (hT : ∀ a, TellsT (HS a) (HT a) := by (intro a; exact ⟨rfl, rfl, (by repeat (first | exact trivial | refine And.intro ?_ ?_ | exact rfl))⟩)) (hqn : Nat.ble kq n1 = true := by exact rfl) (hkq : Nat.ble g.k kq = true := by exact rfl) (htk : allT kq t0 = true := by exact rfl) (hck : θc.all (fun i => Nat.blt i kq) = true := by exact rfl) (hpk : θp.all (fun i => θc.any (Nat.beq i)) = true := by exact rfl)
    (hkx : ∀ x, keysB kq kp n1 (uh x ++ (hE ++ h0)) = true := by (intro x; exact rfl)) (hlx : ∀ x, allH n1 (uh x ++ (hE ++ h0)) = true := by (intro x; exact rfl)) (hrx : ∀ x, renB (gapF kq kp n1) (uh x ++ (hE ++ h0)) := by (intro x; repeat (first | exact trivial | refine And.intro ?_ ?_ | exact rfl)))
    (hno : ∀ x, (uh x ++ h0).all (fun y => !(θc.any (Nat.beq y.1))) = true := by (intro x; exact rfl)) (hEk : hE.all (fun x => θc.any (Nat.beq x.1)) = true := by exact rfl) (hps : ps.toList.all (fun p => Nat.blt p g.n) = true := by exact rfl) (hyl : ∀ a, (ya a).length = ps.toList.length := by (intro a; exact rfl))
    (hr : ∀ x a, Pre x a → ∀ (l : Nat) (w0 : World) (F0 S0 : Foot) (ρ0 : Env) (r : Loop), GWp Tryz.prog ⟨g.n, w0, F0, S0, kp, ρ0, some l, []⟩ assign ⟨parT ps.toList ((ya a).map (SV.ren (thN (n1 :: (θp ++ θu))))) t0, (n1, .lp l r) :: (upOf (thN (n1 :: (θp ++ θu))) 1 (HS a) ++ (uh x ++ h0)), n1 + 1⟩
      (qAsg Tryz.prog ⟨g.n, w0, F0, S0, kp, ρ0, some l, []⟩ body n1 l r (qRound kp (fun (x' : X) => ⟨[], (n1, .lp l (busy r)) :: (upOf (thN (n1 :: (θp ++ θu))) 1 (HT a) ++ (uh x' ++ h0)), n1 + 1⟩) (bd x a))))
    (hn : je = none → Q .normal ⟨t0, upOf (calF (n1 :: θc) (n1 + 1)) 1 H' ++ (deadR θc ++ (uh xe ++ (hE ++ h0))), n1 + 1 + (H'.length - θc.length)⟩)
    (hs : ∀ c, je = some c → GWp Tryz.prog g c ⟨t0, upOf (calF (n1 :: θc) (n1 + 1)) 1 H' ++ (deadR θc ++ (uh xe ++ (hE ++ h0))), n1 + 1 + (H'.length - θc.length)⟩ Q) :
    GWp Tryz.prog g (.rangeFunc fo ps assign body) ⟨t, h, n⟩ Q := by
  have hS : ∀ (A : List (Nat × GB)) (x : X) (i : Nat), lkG (A ++ (deads θc ++ (uh x ++ (hE ++ h0)))) i = lkG (A ++ (uh x ++ h0)) i := fun A x i => lkG_app A (same_out hEk (hno x)) i
  refine g_le hin (g_rangeT kq kp θc θp θu cH cy uh ya HS HT hT bd Pre x0 xe je hrd hdf hc hv hE' ha hH hD hk hk' hθ hcH hcHp hlt hltH hltr hltH' hN hys hqn hkq htk hck hpk hkx hlx hrx hps hyl (fun x a hp l w0 F0 S0 ρ0 r => ?_) ?_)
  · have := hr x a hp l w0 F0 S0 ρ0 r
    rw [← thF_eq] at this
    have hw := g_mono (Q' := qAsg Tryz.prog ⟨g.n, w0, F0, S0, kp, ρ0, some l, []⟩ body n1 l r (qRound kp (fun (x' : X) => ⟨[], (n1, .lp l (busy r)) :: (upOf (thF (n1 :: (θp ++ θu))) 1 (HT a) ++ (deads θc ++ (uh x' ++ (hE ++ h0)))), n1 + 1⟩) (bd x a))) this fun e st hq => by
      cases hq with
      | go h1 h2 => exact .go h1 (g_mono h2 fun e st hq => hq.same fun x' => ⟨rfl, rfl, fun i => (hS ((n1, .lp l (busy r)) :: upOf (thF (n1 :: (θp ++ θu))) 1 (HT a)) x' i).symm⟩)
    refine g_same ?_ hw
    exact ⟨rfl, rfl, fun i => hS ((n1, .lp l r) :: upOf (thF (n1 :: (θp ++ θu))) 1 (HS a)) x i⟩
  · rw [← deads_eq] at hn hs
    cases je with
    | none => exact hn rfl
    | some c => exact hs c rfl
end
end Go.Proofs.YtcmdfohamphndaaGreatDoor
end
section
set_option linter.unusedVariables false
set_option linter.unusedSimpArgs false
set_option maxRecDepth 100000
set_option maxHeartbeats 4000000
namespace Go.Proofs.YtcmdfohamphndaaGreatDoor
open Go Foot
/-- A loop over the paths from one on. -/
def itP {X : Type} (B : Int) (rt : Mach) (bd : X → List Int → X × Option Code) : Nat → X → List Int → X × Option Code
  | 0, x, _ => (x, none)
  | k + 1, x, q => if (bd x q).2.isSome = true then bd x q else match nxP B rt q with
    | none => ((bd x q).1, none)
    | some q' => itP B rt bd k (bd x q).1 q'
section
variable {X : Type} {B : Int} {rt : Mach} {bd : X → List Int → X × Option Code} {k : Nat} {x : X} {q q' : List Int} {O : X × Option Code}
theorem itP_out (h : (bd x q).2.isNone = false) (hO : itP B rt bd (k + 1) x q = O) : O = bd x q := by
  rw [← hO, itP, if_pos (by cases hh : (bd x q).2 <;> simp_all)]
theorem itP_end (h : (bd x q).2 = none) (hn : nxP B rt q = none) (hO : itP B rt bd (k + 1) x q = O) : ((bd x q).1, none) = O := by
  rw [← hO, itP, if_neg (by simp [h]), hn]
theorem itP_next (h : (bd x q).2 = none) (hn : nxP B rt q = some q') (hO : itP B rt bd (k + 1) x q = O) : itP B rt bd k (bd x q).1 q' = O := by
  rw [← hO]; conv => rhs; rw [itP, if_neg (by simp [h]), hn]
end
theorem preB110 {p : Prop} (h : p := by first | with_reducible assumption | omega | (simp only [List.length_append, List.length_cons, List.length_nil, List.length_set, List.length_replicate, List.length_take, List.length_drop, List.length_tail, List.length_dropLast, List.length_reverse] at *; omega) | exact mem_len (by assumption) (by omega) | (with_reducible refine Int.le_trans (Int.ofNat_le.2 (trimR_len _)) ?_; simp only [List.length_cons, List.length_tail]; omega) | (exact (ruAt_ok (by assumption) (by assumption) (by assumption)).2.1) | (exact (ruAt_ok (by assumption) (by assumption) (by assumption)).2.1) | (have := vMach_bd (by assumption); omega) | (simp only [mC_ch, mC_tu]; omega) | (have := vTag_bd (by assumption); omega) | (have := (‹Gd _ _›).le; omega) | (exact tgHalts_no (by assumption)) | (exact tgHead (by assumption) (by assumption) (by assumption)) | (exact Int.le_trans (tgStep_gd (by assumption) (by assumption) (by assumption) (by assumption)).le (by decide)) | (exact vTag_r (by assumption)) | (with_reducible refine Int.le_trans (Int.ofNat_le.2 (pushL_len _ _)) ?_; simp only [List.length_dropLast]; omega) | exact ls_at (by assumption) (by omega) | exact pt_gd (by assumption) | exact lv_at (by assumption) (by omega) | exact pt_gd (lv_at (by assumption) (by omega)) | exact (ask_ok (by assumption)).1 | exact (ask_ok (by assumption)).2.1 | exact (ask_ok (by assumption)).2.2.1 | exact (ask_ok (by assumption)).2.2.2 | trivial) : p := h
theorem paths_ok (st sy B : Int) (p : List Int) : Does Tryz.prog 80 [.one (.gv 0), .one (shI p)] [.bx (foC st sy B 0), foM B sy st 1] (.one (.fn (.func 141) [.gv 3, .gv 2])) [.bx (foC st sy B 0), foM B sy st 1, .bx [.gv 0], .bx [shI p]] := by
  refine does_of (k := 2) Tryz.func80 rfl Tryz.ntmps80 rfl rfl fun w F0 S0 ρ0 => ?_
  dsimp only [argT, argH]
  repeat' first | (apply n3; exact a_new (gb := .bx _) rfl; exact rfl; refine dA ?_) | (apply p3; exact pu1; exact rfl) | refine cd ?_ | ((first | refine o_gs rfl rfl (fun hc => ?_) (fun hc => ?_) | refine g_cond rfl (fun hc => ?_) (fun hc => ?_)) <;> (try simp only [dcB] at hc) <;> (try first | contradiction | (exfalso; omega)))
  repeat refine cr ?_
  refine ends_id ?_
  refine endK [?_, ?_] (h2 := ?_) (h3 := ?_) (nd := ?_)
  rotate_left 2
  all_goals (repeat' first | exact ce0 | refine ce ?_ | refine ce2 ?_ ?_ | (refine Or.inr (bx_eq rfl rfl ?_); (try dsimp only [C.ren, C.ren.all]); (try exact rfl)) | exact SVLe.refl | refine ceb ?_)
  all_goals first | exact (show nodupB _ = true from rfl) | exact Or.inr rfl | (rfl)
theorem pathsIt_ok (st sy B : Int) (p : List Int) {X : Type} (l : Nat) (R : X → Option Code → Opq) (bd : X → List Int → X × Option Code) (Pre : X → List Int → Prop) (μX : X → Nat) (x0 : X) (m0 : Mach) (h1 : 1 ≤ st) (h2 : st ≤ 6) (h3 : 2 ≤ sy) (h4 : sy ≤ 6) (h5 : 0 ≤ B) (h6 : B ≤ 1000000) (hv : pth B (root sy st) p = some m0) (h0 : Pre x0 p) (hst : ∀ x q q', Pre x q → (bd x q).2 = none → nxP B (root sy st) q = some q' → Pre (bd x q).1 q' ∧ μX (bd x q).1 < μX x) (hY : ∀ x q, Pre x q → DoesW (YC Tryz.prog l) [.one (.gv 1)] [.opq (R x none) [], roI q] (.one (boo (bd x q).2.isNone)) [.opq (R (bd x q).1 (bd x q).2) [], .sh 1 (rows eI q)]) : Does Tryz.prog 141 [.one (.d (.fn (.yield l) [])), .one (.gv 4), .one (.gv 3)] [.opq (R x0 none) [], foM B sy st 1, .bx (foC st sy B 0), .bx [.gv 2], .bx [shI p]] (.tup []) [.opq (R (itP B (root sy st) bd (μX x0 + 1) x0 p).1 (itP B (root sy st) bd (μX x0 + 1) x0 p).2) [], foM B sy st 1, .bx (foC st sy B 0), .bx [.gv 2], .dead] := by
  have hr := root_ok h3 h4 h1 (show st ≤ 1000 by omega)
  have hpl := pth_len hr hv h4 h2 (by omega) (by omega)
  generalize hO : itP B (root sy st) bd (μX x0 + 1) x0 p = O
  refine does_of (k := 5) Tryz.func141 rfl Tryz.ntmps141 rfl rfl fun w F0 S0 ρ0 => ?_
  dsimp only [argT, argH]
  repeat' first | (apply p3; (first | exact pu1 | exact puL); exact rfl) | refine cd ?_ | (apply w3; (first | exact a_st_bx rfl rfl rfl rfl (fN rfl rfl) (Nat.le_of_ble_eq_true rfl) rfl | exact a_stE (E := eW) _ rfl rfl rfl rfl (fN rfl rfl) bnd (by exact rfl)); exact rfl; refine dS ?_) | (apply c4 1; exact callK1 (θ := []) (hD := (clone_ok _ preB110)); exact rfl; exact rfl; exact rfl; refine dM ?_) | (apply c4 0; exact callY (θ := [0, 5]) (hD := (hY _ _ (by assumption))); exact rfl; exact rfl; exact rfl; refine dM ?_) | (apply c4 1; exact callK0 (θ := [_, _]) (hD := (next_f_ok _ _ _ _ _ preB110 preB110 preB110 preB110 preB110 preB110 preB110 preB110)); exact rfl; exact rfl; exact rfl; refine dM ?_) | refine o_no rfl rfl rfl rfl ?_ | refine o_noN rfl rfl rfl ?_ | (apply py3; exact rfl; exact rfl; (first | exact pu1 | exact puL); exact rfl; exact rfl) | (apply cy4 1; exact rfl; exact rfl; exact callK1 (θ := []) (hD := (clone_ok _ preB110)); exact rfl; exact rfl; exact rfl; exact rfl; refine dM ?_) | (apply cy4 0; exact rfl; exact rfl; exact callY (θ := [0, 5]) (hD := (hY _ _ (by assumption))); exact rfl; exact rfl; exact rfl; exact rfl; refine dM ?_) | (apply cy4 1; exact rfl; exact rfl; exact callK0 (θ := [_, _]) (hD := (next_f_ok _ _ _ _ _ preB110 preB110 preB110 preB110 preB110 preB110 preB110 preB110)); exact rfl; exact rfl; exact rfl; exact rfl; refine dM ?_) | ((first | refine o_gs rfl rfl (fun hc => ?_) (fun hc => ?_) | refine g_cond rfl (fun hc => ?_) (fun hc => ?_)) <;> (try simp only [dcB] at hc) <;> (try first | contradiction | (exfalso; omega)))
  refine g_loop_id ?_
  refine loopK [0, 1, 2] [0, 4, 5] (fun y : X × List Int × Bool × Nat => (y.2.2.1 = true → Pre y.1 y.2.1 ∧ (∃ m, pth B (root sy st) y.2.1 = some m) ∧ μX y.1 < y.2.2.2 ∧ itP B (root sy st) bd y.2.2.2 y.1 y.2.1 = O) ∧ (y.2.2.1 = false → (y.1, none) = O)) (fun y => [(4, .one (boo y.2.2.1))]) (fun y => [(0, .opq (R y.1 none) []), (4, .bx [.gv 5]), (5, roI y.2.1)]) (fun y => y.2.2.2) (x0, p, true, μX x0 + 1) [0, 1, 2, 3, 4, 5] (hI := ?_) (hr := ?_)
  · exact ⟨fun _ => ⟨h0, ⟨m0, hv⟩, Nat.lt_succ_self _, hO⟩, fun h => (by cases h)⟩
  · rintro ⟨x, q, ok, k⟩ ⟨k1, k2⟩
    cases ok with
    | false =>
      have hE := k2 rfl
      subst hE
      repeat' first | (apply p3; (first | exact pu1 | exact puL); exact rfl) | refine cd ?_ | (apply w3; (first | exact a_st_bx rfl rfl rfl rfl (fN rfl rfl) (Nat.le_of_ble_eq_true rfl) rfl | exact a_stE (E := eW) _ rfl rfl rfl rfl (fN rfl rfl) bnd (by exact rfl)); exact rfl; refine dS ?_) | (apply c4 0; exact callY (θ := [0, 5]) (hD := (hY _ _ (by assumption))); exact rfl; exact rfl; exact rfl; refine dM ?_) | (apply c4 1; exact callK0 (θ := [_, _]) (hD := (next_f_ok _ _ _ _ _ preB110 preB110 preB110 preB110 preB110 preB110 preB110 preB110)); exact rfl; exact rfl; exact rfl; refine dM ?_) | refine o_no rfl rfl rfl rfl ?_ | refine o_noN rfl rfl rfl ?_ | (apply py3; exact rfl; exact rfl; (first | exact pu1 | exact puL); exact rfl; exact rfl) | (apply cy4 0; exact rfl; exact rfl; exact callY (θ := [0, 5]) (hD := (hY _ _ (by assumption))); exact rfl; exact rfl; exact rfl; exact rfl; refine dM ?_) | (apply cy4 1; exact rfl; exact rfl; exact callK0 (θ := [_, _]) (hD := (next_f_ok _ _ _ _ _ preB110 preB110 preB110 preB110 preB110 preB110 preB110 preB110)); exact rfl; exact rfl; exact rfl; exact rfl; refine dM ?_) | ((first | refine o_gs rfl rfl (fun hc => ?_) (fun hc => ?_) | refine g_cond rfl (fun hc => ?_) (fun hc => ?_)) <;> (try simp only [dcB] at hc) <;> (try first | contradiction | (exfalso; omega)))
      repeat refine cr ?_
      refine ends_id ?_
      refine endK [] (h2 := ?_) (h3 := ?_) (nd := ?_)
      all_goals (repeat' first | exact ce0 | refine ce ?_ | refine ce2 ?_ ?_ | (refine Or.inr (bx_eq rfl rfl ?_); (try dsimp only [C.ren, C.ren.all]); (try exact rfl)) | exact SVLe.refl | refine ceb ?_)
      all_goals first | exact (show nodupB _ = true from rfl) | exact Or.inr rfl | (rfl)
    | true =>
      obtain ⟨hp, ⟨m, hm⟩, hk, hit⟩ := k1 rfl
      clear k1 k2
      dsimp only at hp hm hk hit
      obtain ⟨k', rfl⟩ : ∃ k', k = k' + 1 := ⟨k - 1, by omega⟩
      have hql := pth_len hr hm h4 h2 (by omega) (by omega)
      have hnx := nxP_is hm
      have hq1 : (q.length : Int) ≤ 1048576 := by omega
      repeat' first | (apply p3; (first | exact pu1 | exact puL); exact rfl) | refine cd ?_ | (apply w3; (first | exact a_st_bx rfl rfl rfl rfl (fN rfl rfl) (Nat.le_of_ble_eq_true rfl) rfl | exact a_stE (E := eW) _ rfl rfl rfl rfl (fN rfl rfl) bnd (by exact rfl)); exact rfl; refine dS ?_) | (apply c4 1; exact callK1 (θ := []) (hD := (clone_ok _ preB110)); exact rfl; exact rfl; exact rfl; refine dM ?_) | (apply c4 0; exact callY (θ := [0, 5]) (hD := (hY _ _ (by assumption))); exact rfl; exact rfl; exact rfl; refine dM ?_) | (apply c4 1; exact callK0 (θ := [2, 1]) (hD := (next_f_ok st sy B q m hq1 preB110 preB110 preB110 preB110 preB110 preB110 hm)); exact rfl; exact rfl; exact rfl; refine dM ?_) | refine o_no rfl rfl rfl rfl ?_ | refine o_noN rfl rfl rfl ?_ | (apply py3; exact rfl; exact rfl; (first | exact pu1 | exact puL); exact rfl; exact rfl) | (apply cy4 1; exact rfl; exact rfl; exact callK1 (θ := []) (hD := (clone_ok _ preB110)); exact rfl; exact rfl; exact rfl; exact rfl; refine dM ?_) | (apply cy4 0; exact rfl; exact rfl; exact callY (θ := [0, 5]) (hD := (hY _ _ (by assumption))); exact rfl; exact rfl; exact rfl; exact rfl; refine dM ?_) | (apply cy4 1; exact rfl; exact rfl; exact callK0 (θ := [2, 1]) (hD := (next_f_ok st sy B q m hq1 preB110 preB110 preB110 preB110 preB110 preB110 hm)); exact rfl; exact rfl; exact rfl; exact rfl; refine dM ?_) | ((first | refine o_gs rfl rfl (fun hc => ?_) (fun hc => ?_) | refine g_cond rfl (fun hc => ?_) (fun hc => ?_)) <;> (try simp only [dcB] at hc) <;> (try first | contradiction | (exfalso; omega)))
      · have e : (bd x q).2 = none := by cases hh : (bd x q).2 <;> simp_all
        simp only [← hnx]
        cases hn : nxP B (root sy st) q with
        | none =>
          have hE := itP_end e hn hit
          simp only [e, Option.isSome_none, Option.getD_none]
          refine q_again ((bd x q).1, [], false, k') [0, 1, 2, 3, 4, 6] (by exact stk) ?_ ?_
          · exact ⟨fun h => (by cases h), fun _ => hE⟩
          · exact Nat.lt_succ_self _
        | some q' =>
          have hE := itP_next e hn hit
          have hs := hst x q q' hp e hn
          simp only [e, Option.isSome_some, Option.getD_some]
          refine q_again ((bd x q).1, q', true, k') [0, 1, 2, 3, 4, 6] (by exact stk) ?_ ?_
          · exact ⟨fun _ => ⟨hs.1, nxP_ok hr hm hn, (by dsimp only; omega), hE⟩, fun h => (by cases h)⟩
          · exact Nat.lt_succ_self _
      · have hE := itP_out hc hit
        subst hE
        repeat refine cr ?_
        refine ends_id ?_
        refine endK [] (h2 := ?_) (h3 := ?_) (nd := ?_)
        all_goals (repeat' first | exact ce0 | refine ce ?_ | refine ce2 ?_ ?_ | (refine Or.inr (bx_eq rfl rfl ?_); (try dsimp only [C.ren, C.ren.all]); (try exact rfl)) | exact SVLe.refl | refine ceb ?_)
        all_goals first | exact (show nodupB _ = true from rfl) | exact Or.inr rfl | (rfl)
end Go.Proofs.YtcmdfohamphndaaGreatDoor
end
section
set_option linter.unusedVariables false
set_option linter.unusedSimpArgs false
set_option maxRecDepth 100000
set_option maxHeartbeats 4000000
namespace Go.Proofs.YtcmdfohamphndaaGreatDoor
open Go Foot
theorem preB111 {p : Prop} (h : p := by first | with_reducible assumption | omega | (simp only [List.length_append, List.length_cons, List.length_nil, List.length_set, List.length_replicate, List.length_take, List.length_drop, List.length_tail, List.length_dropLast, List.length_reverse] at *; omega) | exact mem_len (by assumption) (by omega) | (with_reducible refine Int.le_trans (Int.ofNat_le.2 (trimR_len _)) ?_; simp only [List.length_cons, List.length_tail]; omega) | (exact (ruAt_ok (by assumption) (by assumption) (by assumption)).2.1) | (exact (ruAt_ok (by assumption) (by assumption) (by assumption)).2.1) | (have := vMach_bd (by assumption); omega) | (simp only [mC_ch, mC_tu]; omega) | (have := vTag_bd (by assumption); omega) | (have := (‹Gd _ _›).le; omega) | (exact tgHalts_no (by assumption)) | (exact tgHead (by assumption) (by assumption) (by assumption)) | (exact Int.le_trans (tgStep_gd (by assumption) (by assumption) (by assumption) (by assumption)).le (by decide)) | (exact vTag_r (by assumption)) | (with_reducible refine Int.le_trans (Int.ofNat_le.2 (pushL_len _ _)) ?_; simp only [List.length_dropLast]; omega) | exact ls_at (by assumption) (by omega) | exact pt_gd (by assumption) | exact lv_at (by assumption) (by omega) | exact pt_gd (lv_at (by assumption) (by omega)) | exact (ask_ok (by assumption)).1 | exact (ask_ok (by assumption)).2.1 | exact (ask_ok (by assumption)).2.2.1 | exact (ask_ok (by assumption)).2.2.2 | trivial) : p := h
theorem sizeV_ok (vs : List Value) (hx : (vs.length : Int) ≤ 16777216) : Does Tryz.prog 81 [.one (.d (.sl false 1 (rows eVv vs)))] [] (.one (int vs.length)) [] := by
  refine does_of (k := 0) Tryz.func81 rfl Tryz.ntmps81 rfl rfl fun w F0 S0 ρ0 => ?_
  dsimp only [argT, argH]
  repeat' first | (apply p3; (first | exact pu1 | exact puN | exact a_len_str rfl (fT rfl)); exact rfl) | refine cd ?_ | ((first | refine o_gs rfl rfl (fun hc => ?_) (fun hc => ?_) | refine g_cond rfl (fun hc => ?_) (fun hc => ?_)) <;> (try simp only [dcB] at hc) <;> (try first | contradiction | (exfalso; omega)))
  repeat refine cr ?_
  refine ends_id ?_
  refine endK [] (h2 := ?_) (h3 := ?_) (nd := ?_)
  all_goals (repeat' first | exact ce0 | refine ce ?_ | refine ce2 ?_ ?_ | exact SVLe.refl | refine ceb ?_)
  all_goals first | exact (show nodupB _ = true from rfl) | exact Or.inr rfl | (rfl)
/-- The body of the loop in NodesFrom. -/
def bdN (many : Int) (ps : List (List Int)) (q : List Int) : List (List Int) × Option Code := (ps ++ [q], if (ps.length : Int) + 1 = many then some (.exit 0) else none)
theorem itP_nfs {B : Int} {rt : Mach} {many : Int} : ∀ (k : Nat) (ps : List (List Int)) (q : List Int), (ps.length : Int) < many → many.toNat - ps.length ≤ k → (itP B rt (bdN many) k ps q).1 = ps ++ nfs B rt (many.toNat - ps.length) q ∧ ∀ c, (itP B rt (bdN many) k ps q).2 = some c → c = .exit 0
  | 0, ps, q, h, hk => by omega
  | k + 1, ps, q, h, hk => by
    rw [itP]
    by_cases hl : (ps.length : Int) + 1 = many
    · rw [if_pos (by simp [bdN, hl])]
      have e : many.toNat - ps.length = 1 := by omega
      rw [e, nfs_one]
      exact ⟨rfl, fun c hc => by simp [bdN, hl] at hc; exact hc.symm⟩
    · rw [if_neg (by simp [bdN, hl])]
      obtain ⟨m, hm⟩ : ∃ m, many.toNat - ps.length = m + 1 := ⟨many.toNat - ps.length - 1, by omega⟩
      rw [hm]
      cases hn : nxP B rt q with
      | none => rw [nfs_none hn]; exact ⟨rfl, fun c hc => by cases hc⟩
      | some q' =>
        rw [nfs_some hn]
        have ih := itP_nfs (B := B) (rt := rt) (many := many) k (ps ++ [q]) q' (by simp; omega) (by simp; omega)
        have e : many.toNat - (ps ++ [q]).length = m := by simp; omega
        rw [e] at ih
        refine ⟨?_, ih.2⟩
        show (itP B rt (bdN many) k (ps ++ [q]) q').1 = _
        rw [ih.1]
        simp
theorem iNodesFrom_ok (st sy B many : Int) (p : List Int) (hp : (p.length : Int) ≤ 1048576) : Does Tryz.prog 27 [.one (int st), .one (int sy), .one (shI p), .one (int many), .one (int B)] [] (.tup [(false, [.gv 0]), (false, [int (nfC st sy B many p)])]) [.row 1 (rows eO1 (nfL st sy B many p))] := by
  by_cases h : askT st sy B = 0
  · obtain ⟨q1, q2, q3, q4⟩ := ask_bd h
    by_cases h2 : 1 ≤ many ∧ many ≤ 400
    · have hls := pthL_pth (B := B) p (root sy st)
      cases hv : pth B (root sy st) p with
      | none =>
        obtain ⟨e1, e2⟩ := nf_none h h2 hv
        rw [e1, e2]
        rw [hv] at hls
        refine does_of (k := 0) Tryz.func27 rfl Tryz.ntmps27 rfl rfl fun w F0 S0 ρ0 => ?_
        dsimp only [argT, argH]
        repeat' first | (apply n3; exact a_nilO eO1 rfl; exact rfl) | (apply n3; exact a_new (gb := .bx _) rfl; exact rfl; refine dA ?_) | (apply p3; (first | exact pu1 | exact puL | exact a_ne rfl rfl | exact a_neS rfl rfl rfl); exact rfl) | refine cdn ?_ | refine g_reg (id := 0) ?_ | refine g_reg (id := 1) ?_ | refine g_reg (id := 2) ?_ | refine g_reg (id := 3) ?_ | refine g_reg (id := 4) ?_ | refine g_reg (id := 5) ?_ | (apply c4 0; exact callK1 (θ := []) (hD := (sizesCode_ok _ _ _)); exact rfl; exact rfl; exact rfl; refine dM ?_) | (apply c4 0; exact callK1 (θ := []) (hD := (within_ok _ _ _)); exact rfl; exact rfl; exact rfl; refine dM ?_) | ((first | refine o_gs rfl rfl (fun hc => ?_) (fun hc => ?_) | refine g_cond rfl (fun hc => ?_) (fun hc => ?_)) <;> (try simp only [dcB] at hc) <;> (try first | contradiction | (exfalso; omega)))
        refine g_conv t_zw ?_
        repeat' first | (apply n3; exact a_nilO eO1 rfl; exact rfl) | (apply n3; exact a_new (gb := .bx _) rfl; exact rfl; refine dA ?_) | (apply p3; (first | exact pu1 | exact puL | exact a_ne rfl rfl | exact a_neS rfl rfl rfl); exact rfl) | refine cdn ?_ | refine g_reg (id := 0) ?_ | refine g_reg (id := 1) ?_ | refine g_reg (id := 2) ?_ | refine g_reg (id := 3) ?_ | refine g_reg (id := 4) ?_ | refine g_reg (id := 5) ?_ | refine g_reg (id := 6) ?_ | refine g_reg (id := 7) ?_ | (apply c4 0; exact callK1 (θ := []) (hD := (sizesCode_ok _ _ _)); exact rfl; exact rfl; exact rfl; refine dM ?_) | (apply c4 0; exact callK1 (θ := []) (hD := (within_ok _ _ _)); exact rfl; exact rfl; exact rfl; refine dM ?_) | (apply c4 2; exact callK0 (θ := []) (hD := (forestOf_ok _ _ _)); exact rfl; exact rfl; exact rfl; refine dM ?_) | (apply c4 1; exact callK0 (θ := [3, 4]) (hD := (at_f_ok st sy B p preB111 preB111 preB111 preB111 preB111 preB111 preB111)); exact rfl; exact rfl; exact rfl; refine dM ?_) | ((first | refine o_gs rfl rfl (fun hc => ?_) (fun hc => ?_) | refine g_cond rfl (fun hc => ?_) (fun hc => ?_)) <;> (try simp only [dcB] at hc) <;> (try first | contradiction | (exfalso; omega)))
        simp only [hls, Option.isSome_none]
        repeat' first | (apply n3; exact a_nilO eO1 rfl; exact rfl) | (apply n3; (first | exact a_new (gb := .bx _) rfl | exact a_litE eW [] rfl rfl rfl rfl rfl rfl rfl rfl | exact a_litE eW [_] rfl rfl rfl rfl rfl rfl rfl rfl | exact a_appN (fP rfl) rfl rfl rfl nowR (by first | omega | (simp; omega)) (by decide) (by exact rfl)); exact rfl; refine dA ?_) | (apply p3; (first | exact pu1 | exact puL | exact a_ne rfl rfl | exact a_neS rfl rfl rfl); exact rfl) | refine cd ?_ | (apply s3; exact a_appE (fP rfl) rfl rfl rfl rfl nowR (by first | omega | (simp; omega)) (by decide) (by decide) (by exact rfl); exact rfl; exact rfl) | (apply w3; exact a_st_bx rfl rfl rfl rfl (fN rfl rfl) (Nat.le_of_ble_eq_true rfl) rfl; exact rfl; refine dS ?_) | (apply c4 0; exact callK1 (θ := []) (hD := (sizesCode_ok _ _ _)); exact rfl; exact rfl; exact rfl; refine dM ?_) | (apply c4 0; exact callK1 (θ := []) (hD := (within_ok _ _ _)); exact rfl; exact rfl; exact rfl; refine dM ?_) | (apply c4 2; exact callK0 (θ := []) (hD := (forestOf_ok _ _ _)); exact rfl; exact rfl; exact rfl; refine dM ?_) | (apply c4 1; exact callK0 (θ := [3, 4]) (hD := (at_f_ok st sy B p preB111 preB111 preB111 preB111 preB111 preB111 preB111)); exact rfl; exact rfl; exact rfl; refine dM ?_) | (apply c4 2; exact callK0 (θ := [_, _]) (hD := (paths_ok _ _ _ _)); exact rfl; exact rfl; exact rfl; refine dM ?_) | (apply g_drN (id := 14) okM [[],[0],[],[0,1,2]] [([],[]),([],[]),([],[]),([],[])] 0; (focus (refine dp 0 0 [51] [] puL ?_; refine dp 1 1 [51] [] (by first | exact callD1 (n := _) 0 (θ := []) (hD := (sizeW_ok _ preB111)) | exact callD1 (n := _) 0 (θ := []) (hD := (sizeV_ok _ preB111))) ?_; refine dp 2 0 [49, 50] [] puL ?_; refine dp 3 7 [] [] (by first | exact puC | exact a_eqS rfl rfl rfl) ?_; (refine d_nil ?_; refine dN ?_))); any_goals kernel_rfl) | ((first | refine o_gs rfl rfl (fun hc => ?_) (fun hc => ?_) | refine g_cond rfl (fun hc => ?_) (fun hc => ?_)) <;> (try simp only [dcB] at hc) <;> (try first | contradiction | (exfalso; omega)))
        repeat refine cr ?_
        refine ends_id ?_
        refine endK [?_] (h2 := ?_) (h3 := ?_) (nd := ?_)
        rotate_left 1
        all_goals (repeat' first | exact ce0 | refine ce ?_ | refine ce2 ?_ ?_ | (refine Or.inr (bx_eq rfl rfl ?_); (try dsimp only [C.ren, C.ren.all]); (try exact rfl)) | exact SVLe.refl | refine ceb ?_)
        all_goals first | exact (show nodupB _ = true from rfl) | exact Or.inr rfl | (rfl)
      | some m =>
        obtain ⟨e1, e2⟩ := nf_ok h h2 hv
        have hr := root_ok q2.1 q2.2 q1.1 (show st ≤ 1000 by omega)
        rw [hv] at hls
        have hres := itP_nfs (B := B) (rt := root sy st) (many := many) (many.toNat + 1) [] p (by simp; omega) (by simp)
        simp only [List.length_nil, Nat.sub_zero, List.nil_append] at hres
        rw [e1, e2, ← hres.1]
        have hres2 := hres.2
        clear hres e1 e2
        refine does_of (k := 0) Tryz.func27 rfl Tryz.ntmps27 rfl rfl fun w F0 S0 ρ0 => ?_
        dsimp only [argT, argH]
        repeat' first | (apply n3; exact a_nilO eO1 rfl; exact rfl) | (apply n3; exact a_new (gb := .bx _) rfl; exact rfl; refine dA ?_) | (apply p3; (first | exact pu1 | exact puL | exact a_ne rfl rfl | exact a_neS rfl rfl rfl); exact rfl) | refine cdn ?_ | refine g_reg (id := 0) ?_ | refine g_reg (id := 1) ?_ | refine g_reg (id := 2) ?_ | refine g_reg (id := 3) ?_ | refine g_reg (id := 4) ?_ | refine g_reg (id := 5) ?_ | (apply c4 0; exact callK1 (θ := []) (hD := (sizesCode_ok _ _ _)); exact rfl; exact rfl; exact rfl; refine dM ?_) | (apply c4 0; exact callK1 (θ := []) (hD := (within_ok _ _ _)); exact rfl; exact rfl; exact rfl; refine dM ?_) | ((first | refine o_gs rfl rfl (fun hc => ?_) (fun hc => ?_) | refine g_cond rfl (fun hc => ?_) (fun hc => ?_)) <;> (try simp only [dcB] at hc) <;> (try first | contradiction | (exfalso; omega)))
        refine g_conv t_zw ?_
        repeat' first | (apply n3; exact a_nilO eO1 rfl; exact rfl) | (apply n3; exact a_new (gb := .bx _) rfl; exact rfl; refine dA ?_) | (apply p3; (first | exact pu1 | exact puL | exact a_ne rfl rfl | exact a_neS rfl rfl rfl); exact rfl) | refine cdn ?_ | refine g_reg (id := 0) ?_ | refine g_reg (id := 1) ?_ | refine g_reg (id := 2) ?_ | refine g_reg (id := 3) ?_ | refine g_reg (id := 4) ?_ | refine g_reg (id := 5) ?_ | refine g_reg (id := 6) ?_ | refine g_reg (id := 7) ?_ | (apply c4 0; exact callK1 (θ := []) (hD := (sizesCode_ok _ _ _)); exact rfl; exact rfl; exact rfl; refine dM ?_) | (apply c4 0; exact callK1 (θ := []) (hD := (within_ok _ _ _)); exact rfl; exact rfl; exact rfl; refine dM ?_) | (apply c4 2; exact callK0 (θ := []) (hD := (forestOf_ok _ _ _)); exact rfl; exact rfl; exact rfl; refine dM ?_) | (apply c4 1; exact callK0 (θ := [3, 4]) (hD := (at_f_ok st sy B p preB111 preB111 preB111 preB111 preB111 preB111 preB111)); exact rfl; exact rfl; exact rfl; refine dM ?_) | ((first | refine o_gs rfl rfl (fun hc => ?_) (fun hc => ?_) | refine g_cond rfl (fun hc => ?_) (fun hc => ?_)) <;> (try simp only [dcB] at hc) <;> (try first | contradiction | (exfalso; omega)))
        simp only [hls, Option.isSome_some]
        repeat' first | (apply n3; exact a_nilO eO1 rfl; exact rfl) | (apply n3; (first | exact a_new (gb := .bx _) rfl | exact a_litE eW [] rfl rfl rfl rfl rfl rfl rfl rfl | exact a_litE eW [_] rfl rfl rfl rfl rfl rfl rfl rfl | exact a_appN (fP rfl) rfl rfl rfl nowR (by first | omega | (simp; omega)) (by decide) (by exact rfl)); exact rfl; refine dA ?_) | (apply p3; (first | exact pu1 | exact puL | exact a_ne rfl rfl | exact a_neS rfl rfl rfl); exact rfl) | refine cd ?_ | (apply s3; exact a_appE (fP rfl) rfl rfl rfl rfl nowR (by first | omega | (simp; omega)) (by decide) (by decide) (by exact rfl); exact rfl; exact rfl) | (apply w3; exact a_st_bx rfl rfl rfl rfl (fN rfl rfl) (Nat.le_of_ble_eq_true rfl) rfl; exact rfl; refine dS ?_) | (apply c4 0; exact callK1 (θ := []) (hD := (sizesCode_ok _ _ _)); exact rfl; exact rfl; exact rfl; refine dM ?_) | (apply c4 0; exact callK1 (θ := []) (hD := (within_ok _ _ _)); exact rfl; exact rfl; exact rfl; refine dM ?_) | (apply c4 2; exact callK0 (θ := []) (hD := (forestOf_ok _ _ _)); exact rfl; exact rfl; exact rfl; refine dM ?_) | (apply c4 1; exact callK0 (θ := [3, 4]) (hD := (at_f_ok st sy B p preB111 preB111 preB111 preB111 preB111 preB111 preB111)); exact rfl; exact rfl; exact rfl; refine dM ?_) | (apply c4 2; exact callK0 (θ := [_, _]) (hD := (paths_ok _ _ _ _)); exact rfl; exact rfl; exact rfl; refine dM ?_) | (apply g_drN (id := 14) okM [[],[0],[],[0,1,2]] [([],[]),([],[]),([],[]),([],[])] 0; (focus (refine dp 0 0 [51] [] puL ?_; refine dp 1 1 [51] [] (by first | exact callD1 (n := _) 0 (θ := []) (hD := (sizeW_ok _ preB111)) | exact callD1 (n := _) 0 (θ := []) (hD := (sizeV_ok _ preB111))) ?_; refine dp 2 0 [49, 50] [] puL ?_; refine dp 3 7 [] [] (by first | exact puC | exact a_eqS rfl rfl rfl) ?_; (refine d_nil ?_; refine dN ?_))); any_goals kernel_rfl) | ((first | refine o_gs rfl rfl (fun hc => ?_) (fun hc => ?_) | refine g_cond rfl (fun hc => ?_) (fun hc => ?_)) <;> (try simp only [dcB] at hc) <;> (try first | contradiction | (exfalso; omega)))
        refine g_conv t_zw ?_
        refine g_conv (t_mvB (i := 6) (j := 7) (k := 0) rfl rfl rfl rfl rfl rfl) ?_
        try dsimp only [setRow, List.map_cons, List.map_nil, scC, List.set_cons_zero, List.set_cons_succ]
        refine g_conv (t_mkT (i := 11) (q := 2) rfl rfl) ?_
        refine rangeT [8, 10, 11, 16, 43] [7, 10, 11] (fun ps : List (List Int) => [(7, .bx [.gv 11]), (11, thR _ ps 11)]) [0, 1, 2, 3, 4, 5, 6, 7, 8, 9, 900, 11] 10 11 [4, 3, 8, 9] [] [10] [] [] (fun _ : List Int => [.one (.gv 1)]) (fun q => [roI q]) (fun q => [.sh 1 (rows eI q)]) (bdN many) (fun ps _ => (ps.length : Int) < many) ([] : List (List Int)) (n1 := 12) (hD := fun l R hY => pathsIt_ok st sy B p l R (bdN many) (fun ps _ => (ps.length : Int) < many) (fun ps => many.toNat - ps.length) [] m q1.1 q1.2 q2.1 q2.2 preB111 preB111 hv (by simp; omega) (fun ps q q' hp he hn => ⟨by simp [bdN] at he ⊢; omega, by simp [bdN]; omega⟩) (fun x q h => hY x q h)) (hr := ?_) (hn := ?_) (hs := ?_)
        · rintro ps q hps lp0 w0 F0 S0 ρ0 rc0
          dsimp only [parT, upOf, deadR, thN, List.map_cons, List.map_nil, SV.ren, List.cons_append, List.nil_append, GB.ren, C.ren, C.ren.all, Nat.reduceAdd] at *
          repeat' first | refine g_seq ?_ | refine g_reg ?_ | (apply p3; (first | exact a_pure (sv := .one _) rfl | exact a_pure (sv := .agg _) rfl); exact rfl) | refine o_nil ?_ | refine q_s ?_ | refine qAsg.go rfl ?_
          dsimp only
          repeat' first | refine cdn ?_ | ((first | refine o_gs rfl rfl (fun hc => ?_) (fun hc => ?_) | refine g_cond rfl (fun hc => ?_) (fun hc => ?_)) <;> (try simp only [dcB] at hc) <;> (try first | contradiction | (exfalso; omega)))
          refine g_openT (i := 11) rfl rfl (fun vs hvs => ?_)
          repeat' first | (apply n3; exact a_litQ (fP rfl) (by decide) rfl (by decide) rfl rfl rfl; exact rfl; refine dA ?_) | (apply p3; (first | exact pu1 | exact puL); exact rfl) | refine cdn ?_ | refine g_reg (id := 13) ?_ | (apply s3; exact a_appQ (fP rfl) rfl rfl rfl rfl qno bndQ bndQ (by decide); exact rfl; exact rfl) | (apply w3; exact a_st_bx rfl rfl rfl rfl (fN rfl rfl) (Nat.le_of_ble_eq_true rfl) rfl; exact rfl; refine dS ?_) | ((first | refine o_gs rfl rfl (fun hc => ?_) (fun hc => ?_) | refine g_cond rfl (fun hc => ?_) (fun hc => ?_)) <;> (try simp only [dcB] at hc) <;> (try first | contradiction | (exfalso; omega)))
          refine g_turn (t_appT (j := 15) (q := 13) (r := 10) (p := q) rfl rfl rfl rfl rfl rfl) ?_
          refine g_openT (i := 15) rfl rfl (fun vs2 hvs2 => ?_)
          have hv2 : (vs2.length : Int) = ps.length + 1 := by rw [hvs2]; simp
          repeat' first | (apply n3; (first | exact a_litE eW [_] rfl rfl rfl rfl rfl rfl rfl rfl | exact a_appN (fP rfl) rfl rfl rfl nowR (by first | omega | (simp; omega)) (by decide) (by exact rfl)); exact rfl; refine dA ?_) | (apply p3; (first | exact pu1 | exact puL); exact rfl) | refine cd ?_ | (apply s3; exact a_appE (fP rfl) rfl rfl rfl rfl nowR (by first | omega | (simp; omega)) (by decide) (by decide) (by exact rfl); exact rfl; exact rfl) | (apply w3; exact a_st_bx rfl rfl rfl rfl (fN rfl rfl) (Nat.le_of_ble_eq_true rfl) rfl; exact rfl; refine dS ?_) | (apply g_drN (id := 14) okM [[],[0],[],[0,1,2]] [([],[]),([],[]),([],[]),([],[])] 0; (focus (refine dp 0 0 [51] [] puL ?_; refine dp 1 1 [51] [] (by first | exact callD1 (n := _) 0 (θ := []) (hD := (sizeW_ok _ preB111)) | exact callD1 (n := _) 0 (θ := []) (hD := (sizeV_ok _ preB111))) ?_; refine dp 2 0 [49, 50] [] puL ?_; refine dp 3 7 [] [] (by first | exact puC | exact a_eqS rfl rfl rfl) ?_; (refine d_nil ?_; refine dN ?_))); any_goals kernel_rfl) | (refine o_gs rfl rfl (fun hc => ?_) (fun hc => ?_) <;> (try simp only [dcB] at hc) <;> (try first | contradiction | (exfalso; omega))) | (refine g_cond (c := .tmp 23) rfl (fun hc => ?_) (fun hc => ?_) <;> (try simp only [dcB] at hc) <;> (try (first | contradiction | (exfalso; omega)))) | (refine g_cond (c := .tmp 27) rfl (fun hc => ?_) (fun hc => ?_) <;> (try simp only [dcB] at hc) <;> (try (first | contradiction | (exfalso; omega)))) | (refine g_cond (c := .tmp 39) rfl (fun hc => ?_) (fun hc => ?_) <;> (try simp only [dcB] at hc) <;> (try (first | contradiction | (exfalso; omega))))
          refine g_conv (t_shutT (j := 15) (q := 16) rfl rfl (Kept.all hvs2) rfl) ?_
          repeat' first | (apply n3; (first | exact a_litE eW [_] rfl rfl rfl rfl rfl rfl rfl rfl | exact a_appN (fP rfl) rfl rfl rfl nowR (by first | omega | (simp; omega)) (by decide) (by exact rfl)); exact rfl; refine dA ?_) | (apply p3; (first | exact pu1 | exact puL); exact rfl) | refine cd ?_ | (apply s3; exact a_appE (fP rfl) rfl rfl rfl rfl nowR (by first | omega | (simp; omega)) (by decide) (by decide) (by exact rfl); exact rfl; exact rfl) | (apply w3; exact a_st_bx rfl rfl rfl rfl (fN rfl rfl) (Nat.le_of_ble_eq_true rfl) rfl; exact rfl; refine dS ?_) | (apply g_drN (id := 14) okM [[],[0],[],[0,1,2]] [([],[]),([],[]),([],[]),([],[])] 0; (focus (refine dp 0 0 [51] [] puL ?_; refine dp 1 1 [51] [] (by first | exact callD1 (n := _) 0 (θ := []) (hD := (sizeW_ok _ preB111)) | exact callD1 (n := _) 0 (θ := []) (hD := (sizeV_ok _ preB111))) ?_; refine dp 2 0 [49, 50] [] puL ?_; refine dp 3 7 [] [] (by first | exact puC | exact a_eqS rfl rfl rfl) ?_; (refine d_nil ?_; refine dN ?_))); any_goals kernel_rfl) | ((first | refine o_gs rfl rfl (fun hc => ?_) (fun hc => ?_) | refine g_cond rfl (fun hc => ?_) (fun hc => ?_)) <;> (try simp only [dcB] at hc) <;> (try first | contradiction | (exfalso; omega)))
          · repeat (first | refine g_ret ?_ | refine q_sr ?_ | refine q_br ?_ | refine g_exit ?_ | refine q_se ?_ | refine q_be rfl ?_ | refine q_bn rfl ?_)
            first | refine q_next (ps ++ [q]) [0, 1, 2, 3, 4, 5, 6, 7, 8, 9, 10, 15, 12] (by exact stk) ?_ | refine q_ret (ps ++ [q]) [0, 1, 2, 3, 4, 5, 6, 7, 8, 9, 10, 15, 12] (by exact stk) ?_ | refine q_exit (ps ++ [q]) [0, 1, 2, 3, 4, 5, 6, 7, 8, 9, 10, 15, 12] (by exact stk) ?_
            simp [bdN, show (ps.length : Int) + 1 = many by omega]
          · refine q_next (ps ++ [q]) [0, 1, 2, 3, 4, 5, 6, 7, 8, 9, 10, 15, 12] (by exact stk) ?_
            simp [bdN, show ¬ (ps.length : Int) + 1 = many by omega]
        · rintro hj
          dsimp only [upOf, deadR, calF, List.cons_append, List.nil_append, GB.ren, C.ren, C.ren.all, List.length_cons, List.length_nil, Nat.reduceAdd, Nat.reduceSub] at *
          skip
          repeat' first | (apply p3; (first | exact pu1 | exact puL); exact rfl) | refine cd ?_ | ((first | refine o_gs rfl rfl (fun hc => ?_) (fun hc => ?_) | refine g_cond rfl (fun hc => ?_) (fun hc => ?_)) <;> (try simp only [dcB] at hc) <;> (try first | contradiction | (exfalso; omega)))
          repeat' first | (apply p3; (first | exact pu1 | exact puL); exact rfl) | refine cd ?_ | ((first | refine o_gs rfl rfl (fun hc => ?_) (fun hc => ?_) | refine g_cond rfl (fun hc => ?_) (fun hc => ?_)) <;> (try simp only [dcB] at hc) <;> (try first | contradiction | (exfalso; omega)))
          refine g_turn (t_thaw (i := 11) (t' := [(10, .one (.gv 11)), (11, .one (int 0))]) rfl ⟨.inr rfl, .inr rfl, trivial⟩ ⟨trivial, trivial, trivial⟩) ?_
          repeat refine cr ?_
          refine ends_id ?_
          refine endK [?_] (h2 := ?_) (h3 := ?_) (nd := ?_)
          rotate_left 1
          all_goals (repeat' first | exact ce0 | refine ce ?_ | refine ce2 ?_ ?_ | (refine Or.inr (bx_eq rfl rfl ?_); (try dsimp only [C.ren, C.ren.all]); (try exact rfl)) | exact SVLe.refl | refine ceb ?_)
          all_goals first | exact (show nodupB _ = true from rfl) | exact Or.inr rfl | (rfl)
        · rintro c hj
          dsimp only [upOf, deadR, calF, List.cons_append, List.nil_append, GB.ren, C.ren, C.ren.all, List.length_cons, List.length_nil, Nat.reduceAdd, Nat.reduceSub] at *
          skip
          repeat' first | (apply p3; (first | exact pu1 | exact puL); exact rfl) | refine cd ?_ | ((first | refine o_gs rfl rfl (fun hc => ?_) (fun hc => ?_) | refine g_cond rfl (fun hc => ?_) (fun hc => ?_)) <;> (try simp only [dcB] at hc) <;> (try first | contradiction | (exfalso; omega)))
          obtain rfl := hres2 _ hj
          repeat' first | (apply p3; (first | exact pu1 | exact puL); exact rfl) | refine cd ?_ | ((first | refine o_gs rfl rfl (fun hc => ?_) (fun hc => ?_) | refine g_cond rfl (fun hc => ?_) (fun hc => ?_)) <;> (try simp only [dcB] at hc) <;> (try first | contradiction | (exfalso; omega)))
          refine g_turn (t_thaw (i := 11) (t' := [(10, .one (.gv 11)), (11, .one (int 0))]) rfl ⟨.inr rfl, .inr rfl, trivial⟩ ⟨trivial, trivial, trivial⟩) ?_
          repeat refine cr ?_
          refine ends_id ?_
          refine endK [?_] (h2 := ?_) (h3 := ?_) (nd := ?_)
          rotate_left 1
          all_goals (repeat' first | exact ce0 | refine ce ?_ | refine ce2 ?_ ?_ | (refine Or.inr (bx_eq rfl rfl ?_); (try dsimp only [C.ren, C.ren.all]); (try exact rfl)) | exact SVLe.refl | refine ceb ?_)
          all_goals first | exact (show nodupB _ = true from rfl) | exact Or.inr rfl | (rfl)
    · obtain ⟨e1, e2⟩ := nf_many (p := p) h h2
      rw [e1, e2]
      refine does_of (k := 0) Tryz.func27 rfl Tryz.ntmps27 rfl rfl fun w F0 S0 ρ0 => ?_
      dsimp only [argT, argH]
      repeat' first | (apply n3; exact a_nilO eO1 rfl; exact rfl) | (apply n3; (first | exact a_new (gb := .bx _) rfl | exact a_litE eW [] rfl rfl rfl rfl rfl rfl rfl rfl | exact a_litE eW [_] rfl rfl rfl rfl rfl rfl rfl rfl | exact a_appN (fP rfl) rfl rfl rfl nowR (by first | omega | (simp; omega)) (by decide) (by exact rfl)); exact rfl; refine dA ?_) | (apply p3; (first | exact pu1 | exact puL | exact a_ne rfl rfl | exact a_neS rfl rfl rfl); exact rfl) | refine cd ?_ | (apply s3; exact a_appE (fP rfl) rfl rfl rfl rfl nowR (by first | omega | (simp; omega)) (by decide) (by decide) (by exact rfl); exact rfl; exact rfl) | (apply w3; exact a_st_bx rfl rfl rfl rfl (fN rfl rfl) (Nat.le_of_ble_eq_true rfl) rfl; exact rfl; refine dS ?_) | (apply c4 0; exact callK1 (θ := []) (hD := (sizesCode_ok _ _ _)); exact rfl; exact rfl; exact rfl; refine dM ?_) | (apply c4 0; exact callK1 (θ := []) (hD := (within_ok _ _ _)); exact rfl; exact rfl; exact rfl; refine dM ?_) | (apply c4 2; exact callK0 (θ := []) (hD := (forestOf_ok _ _ _)); exact rfl; exact rfl; exact rfl; refine dM ?_) | (apply c4 1; exact callK0 (θ := [3, 4]) (hD := (at_f_ok st sy B p preB111 preB111 preB111 preB111 preB111 preB111 preB111)); exact rfl; exact rfl; exact rfl; refine dM ?_) | (apply c4 2; exact callK0 (θ := [_, _]) (hD := (paths_ok _ _ _ _)); exact rfl; exact rfl; exact rfl; refine dM ?_) | (apply g_drN (id := 14) okM [[],[0],[],[0,1,2]] [([],[]),([],[]),([],[]),([],[])] 0; (focus (refine dp 0 0 [51] [] puL ?_; refine dp 1 1 [51] [] (by first | exact callD1 (n := _) 0 (θ := []) (hD := (sizeW_ok _ preB111)) | exact callD1 (n := _) 0 (θ := []) (hD := (sizeV_ok _ preB111))) ?_; refine dp 2 0 [49, 50] [] puL ?_; refine dp 3 7 [] [] (by first | exact puC | exact a_eqS rfl rfl rfl) ?_; (refine d_nil ?_; refine dN ?_))); any_goals kernel_rfl) | ((first | refine o_gs rfl rfl (fun hc => ?_) (fun hc => ?_) | refine g_cond rfl (fun hc => ?_) (fun hc => ?_)) <;> (try simp only [dcB] at hc) <;> (try first | contradiction | (exfalso; omega)))
      repeat refine cr ?_
      refine ends_id ?_
      refine endK [?_] (h2 := ?_) (h3 := ?_) (nd := ?_)
      rotate_left 1
      all_goals (repeat' first | exact ce0 | refine ce ?_ | refine ce2 ?_ ?_ | (refine Or.inr (bx_eq rfl rfl ?_); (try dsimp only [C.ren, C.ren.all]); (try exact rfl)) | exact SVLe.refl | refine ceb ?_)
      all_goals first | exact (show nodupB _ = true from rfl) | exact Or.inr rfl | (rfl)
  · obtain ⟨e1, e2⟩ := nf_ask (many := many) (p := p) h
    rw [e1, e2]
    refine does_of (k := 0) Tryz.func27 rfl Tryz.ntmps27 rfl rfl fun w F0 S0 ρ0 => ?_
    dsimp only [argT, argH]
    repeat' first | (apply n3; exact a_nilO eO1 rfl; exact rfl) | (apply n3; (first | exact a_new (gb := .bx _) rfl | exact a_litE eW [] rfl rfl rfl rfl rfl rfl rfl rfl | exact a_litE eW [_] rfl rfl rfl rfl rfl rfl rfl rfl | exact a_appN (fP rfl) rfl rfl rfl nowR (by first | omega | (simp; omega)) (by decide) (by exact rfl)); exact rfl; refine dA ?_) | (apply p3; (first | exact pu1 | exact puL | exact a_ne rfl rfl | exact a_neS rfl rfl rfl); exact rfl) | refine cd ?_ | (apply s3; exact a_appE (fP rfl) rfl rfl rfl rfl nowR (by first | omega | (simp; omega)) (by decide) (by decide) (by exact rfl); exact rfl; exact rfl) | (apply w3; exact a_st_bx rfl rfl rfl rfl (fN rfl rfl) (Nat.le_of_ble_eq_true rfl) rfl; exact rfl; refine dS ?_) | (apply c4 0; exact callK1 (θ := []) (hD := (sizesCode_ok _ _ _)); exact rfl; exact rfl; exact rfl; refine dM ?_) | (apply c4 0; exact callK1 (θ := []) (hD := (within_ok _ _ _)); exact rfl; exact rfl; exact rfl; refine dM ?_) | (apply c4 2; exact callK0 (θ := []) (hD := (forestOf_ok _ _ _)); exact rfl; exact rfl; exact rfl; refine dM ?_) | (apply c4 1; exact callK0 (θ := [3, 4]) (hD := (at_f_ok st sy B p preB111 preB111 preB111 preB111 preB111 preB111 preB111)); exact rfl; exact rfl; exact rfl; refine dM ?_) | (apply c4 2; exact callK0 (θ := [_, _]) (hD := (paths_ok _ _ _ _)); exact rfl; exact rfl; exact rfl; refine dM ?_) | (apply g_drN (id := 14) okM [[],[0],[],[0,1,2]] [([],[]),([],[]),([],[]),([],[])] 0; (focus (refine dp 0 0 [51] [] puL ?_; refine dp 1 1 [51] [] (by first | exact callD1 (n := _) 0 (θ := []) (hD := (sizeW_ok _ preB111)) | exact callD1 (n := _) 0 (θ := []) (hD := (sizeV_ok _ preB111))) ?_; refine dp 2 0 [49, 50] [] puL ?_; refine dp 3 7 [] [] (by first | exact puC | exact a_eqS rfl rfl rfl) ?_; (refine d_nil ?_; refine dN ?_))); any_goals kernel_rfl) | ((first | refine o_gs rfl rfl (fun hc => ?_) (fun hc => ?_) | refine g_cond rfl (fun hc => ?_) (fun hc => ?_)) <;> (try simp only [dcB] at hc) <;> (try first | contradiction | (exfalso; omega)))
    repeat refine cr ?_
    refine ends_id ?_
    refine endK [?_] (h2 := ?_) (h3 := ?_) (nd := ?_)
    rotate_left 1
    all_goals (repeat' first | exact ce0 | refine ce ?_ | refine ce2 ?_ ?_ | (refine Or.inr (bx_eq rfl rfl ?_); (try dsimp only [C.ren, C.ren.all]); (try exact rfl)) | exact SVLe.refl | refine ceb ?_)
    all_goals first | exact (show nodupB _ = true from rfl) | exact Or.inr rfl | (rfl)
end Go.Proofs.YtcmdfohamphndaaGreatDoor
end
section
set_option linter.unusedVariables false
set_option linter.unusedSimpArgs false
set_option maxRecDepth 100000
set_option maxHeartbeats 4000000
namespace Go.Proofs.YtcmdfohamphndaaGreatDoor
open Go Foot
/-- Numbers one behind the other. -/
@[irreducible] def marks (k : Int) (n : Nat) : List Int := (List.range n).map fun (i : Nat) => k + (i : Int)
theorem marks_len (k : Int) (n : Nat) : (marks k n).length = n := by unfold marks; simp
theorem marks_get (k : Int) (n i : Nat) (h : i < n) : (marks k n)[i]? = some (k + i) := by unfold marks; simp [h]
theorem mark_end {k : Int} {xs l : List Int} (h1 : l.length = xs.length) (h2 : ∀ j (h : j < xs.length), l[j]? = some (k + j)) : l = marks k xs.length := by
  apply List.ext_getElem?
  intro j
  by_cases hj : j < xs.length
  · rw [marks_get k _ j hj, h2 j hj]
  · rw [List.getElem?_eq_none (by omega), List.getElem?_eq_none (by rw [marks_len]; omega)]
theorem markInt64S_ok (xs : List Int) (k : Int) (h1 : 0 ≤ k) (h2 : k ≤ 4611686018427387904) (hx : (xs.length : Int) ≤ 4611686018427) : Does Tryz.prog 20 [.one (.gv 0), .one (int k)] [roI xs] (.one (int (k + xs.length))) [roI (marks k xs.length)] := by
  refine does_of (k := 1) Tryz.func20 rfl Tryz.ntmps20 rfl rfl fun w F0 S0 ρ0 => ?_
  dsimp only [argT, argH]
  repeat' first | (apply p3; (first | exact pu1 | exact puN | exact a_len_str rfl (fT rfl) | exact puC | exact a_add rfl rfl (by omega) (by omega) | exact puI); exact rfl) | refine cd ?_ | (apply w3; (first | exact a_st_bx rfl rfl rfl rfl (fN rfl rfl) (Nat.le_of_ble_eq_true rfl) rfl | exact a_st_rowI rfl rfl rfl rfl (fN rfl rfl) bnd | exact a_stE (E := eI) _ rfl rfl rfl rfl (fN rfl rfl) bnd (by exact rfl)); exact rfl; refine dS ?_) | ((first | refine o_gs rfl rfl (fun hc => ?_) (fun hc => ?_) | refine g_cond rfl (fun hc => ?_) (fun hc => ?_)) <;> (try simp only [dcB] at hc) <;> (try first | contradiction | (exfalso; omega)))
  refine g_loop_id ?_
  refine loopK [0, 4] [0] (fun y : Int × List Int => 0 ≤ y.1 ∧ y.1 ≤ xs.length ∧ y.2.length = xs.length ∧ ∀ (j : Nat), (j : Int) < y.1 → y.2[j]? = some (k + j)) (fun y => [(5, .one (int y.1)), (1, .one (int (k + y.1)))]) (fun y => [(0, roI y.2)]) (fun y => (xs.length - y.1).toNat) ((0 : Int), xs) [0] (hI := ?_) (hr := ?_)
  · exact ⟨by simp, by simp, rfl, fun j h' => by simp at h'; omega⟩
  · rintro ⟨i, l⟩ ⟨k1, k2, k3, k4⟩
    dsimp only [List.cons_append, List.nil_append] at *
    skip
    repeat' first | (apply p3; (first | exact pu1 | exact puN | exact a_len_str rfl (fT rfl) | exact puC | exact a_add rfl rfl (by omega) (by omega) | exact puI); exact rfl) | refine cd ?_ | (apply w3; (first | exact a_st_bx rfl rfl rfl rfl (fN rfl rfl) (Nat.le_of_ble_eq_true rfl) rfl | exact a_st_rowI rfl rfl rfl rfl (fN rfl rfl) bnd | exact a_stE (E := eI) _ rfl rfl rfl rfl (fN rfl rfl) bnd (by exact rfl)); exact rfl; refine dS ?_) | ((first | refine o_gs rfl rfl (fun hc => ?_) (fun hc => ?_) | refine g_cond rfl (fun hc => ?_) (fun hc => ?_)) <;> (try simp only [dcB] at hc) <;> (try first | contradiction | (exfalso; omega)))
    · refine q_again (i + 1, l.set i.toNat (k + i)) [0] (by exact stk) ?_ ?_
      · refine ⟨by dsimp only; omega, by dsimp only; omega, by simp [k3], fun j h => ?_⟩
        dsimp only at h ⊢
        rw [List.getElem?_set]
        split
        · rename_i e
          subst e
          rw [if_pos (by omega)]
          congr 1
          omega
        · exact k4 j (by omega)
      · dsimp only; omega
    · have hi : i = xs.length := by omega
      subst hi
      have hl := mark_end (k := k) k3 fun j hj => k4 j (by omega)
      repeat refine cr ?_
      refine ends_id ?_
      refine endK [] (h2 := ?_) (h3 := ?_) (nd := ?_)
      all_goals (repeat' first | exact ce0 | refine ce ?_ | refine ce2 ?_ ?_ | (refine Or.inr (bx_eq rfl rfl ?_); (try dsimp only [C.ren, C.ren.all]); (try exact rfl)) | exact SVLe.refl | refine ceb ?_)
      all_goals first | exact (show nodupB _ = true from rfl) | exact Or.inr rfl | (exact hl)
/-- Are the numbers there? Then the next number, else -1. -/
@[irreducible] def held (k : Int) (xs : List Int) : Int := if xs = marks k xs.length then k + xs.length else -1
theorem held_marks (k : Int) (n : Nat) : held k (marks k n) = k + n := by unfold held; rw [marks_len, if_pos rfl]
theorem heldInt64S_ok (xs : List Int) (k : Int) (h1 : 0 ≤ k) (h2 : k ≤ 4611686018427387904) (hx : (xs.length : Int) ≤ 4611686018427) : Does Tryz.prog 25 [.one (shI xs), .one (int k)] [] (.one (int (held k xs))) [] := by
  refine does_of (k := 0) Tryz.func25 rfl Tryz.ntmps25 rfl rfl fun w F0 S0 ρ0 => ?_
  dsimp only [argT, argH]
  repeat' first | (apply p3; (first | exact pu1 | exact puL | exact puN | exact a_len_str rfl (fT rfl) | exact puC | exact a_ne rfl rfl | exact a_neS rfl rfl rfl | exact a_add rfl rfl (by omega) (by omega) | exact puI); exact rfl) | refine cd ?_ | ((first | refine o_gs rfl rfl (fun hc => ?_) (fun hc => ?_) | refine g_cond rfl (fun hc => ?_) (fun hc => ?_)) <;> (try simp only [dcB] at hc) <;> (try first | contradiction | (exfalso; omega)))
  refine g_loop_id ?_
  refine loopK [0, 4] [] (fun i : Int => 0 ≤ i ∧ i ≤ xs.length ∧ ∀ (j : Nat), (j : Int) < i → xs[j]? = some (k + j)) (fun i => [(5, .one (int i)), (1, .one (int (k + i)))]) (fun _ => []) (fun i => (xs.length - i).toNat) (0 : Int) [] (hI := ?_) (hr := ?_)
  · exact ⟨by simp, by simp, fun j h' => by omega⟩
  · rintro i ⟨k1, k2, k4⟩
    dsimp only [List.cons_append, List.nil_append] at *
    skip
    repeat' first | (apply p3; (first | exact pu1 | exact puL | exact puN | exact a_len_str rfl (fT rfl) | exact puC | exact a_ne rfl rfl | exact a_neS rfl rfl rfl | exact a_add rfl rfl (by omega) (by omega) | exact puI); exact rfl) | refine cd ?_ | ((first | refine o_gs rfl rfl (fun hc => ?_) (fun hc => ?_) | refine g_cond rfl (fun hc => ?_) (fun hc => ?_)) <;> (try simp only [dcB] at hc) <;> (try first | contradiction | (exfalso; omega)))
    · repeat refine cr ?_
      refine ends_id ?_
      refine endK [] (h2 := ?_) (h3 := ?_) (nd := ?_)
      all_goals (repeat' first | exact ce0 | refine ce ?_ | refine ce2 ?_ ?_ | exact SVLe.refl | refine ceb ?_)
      all_goals first | exact (show nodupB _ = true from rfl) | exact Or.inr rfl | ((unfold held; rw [if_neg]; intro e; have e1 := marks_get k xs.length i.toNat (by omega); rw [← e, List.getElem?_eq_getElem (by omega)] at e1; simp only [Option.some.injEq] at e1; omega))
    · refine q_again (i + 1) [] (by exact stk) ?_ ?_
      · refine ⟨by omega, by omega, fun j h => ?_⟩
        by_cases hj : (j : Int) < i
        · exact k4 j hj
        · have : j = i.toNat := by omega
          subst this
          rw [List.getElem?_eq_getElem (by omega), hc]
          congr 1
          omega
      · omega
    · have hi : i = xs.length := by omega
      subst hi
      have hl := mark_end (k := k) (xs := xs) rfl fun j hj => k4 j (by omega)
      repeat refine cr ?_
      refine ends_id ?_
      refine endK [] (h2 := ?_) (h3 := ?_) (nd := ?_)
      all_goals (repeat' first | exact ce0 | refine ce ?_ | refine ce2 ?_ ?_ | exact SVLe.refl | refine ceb ?_)
      all_goals first | exact (show nodupB _ = true from rfl) | exact Or.inr rfl | ((unfold held; rw [if_pos hl]))
end Go.Proofs.YtcmdfohamphndaaGreatDoor
end
section
set_option linter.unusedVariables false
set_option linter.unusedSimpArgs false
set_option maxRecDepth 100000
set_option maxHeartbeats 4000000
namespace Go.Proofs.YtcmdfohamphndaaGreatDoor
open Go Foot
/-- Lists of own lists. -/
abbrev eWn : Enc (List Int) := ⟨1, fun l => [.sl true 1 (rows eI l)], fun _ => rfl, by decide⟩
abbrev roWn (l : List (List Int)) : GB := .row 1 (rows eWn l)
def totL {α : Type} (sz : α → Int) : List α → Int
  | [] => 0
  | x :: xs => sz x + totL sz xs
def mkL {α : Type} (sz : α → Int) (mk : Int → α → α) : Int → List α → List α
  | _, [] => []
  | k, x :: xs => mk k x :: mkL sz mk (k + sz x) xs
theorem totL_app {α : Type} (sz : α → Int) : ∀ (xs ys : List α), totL sz (xs ++ ys) = totL sz xs + totL sz ys
  | [], ys => by simp [totL]
  | x :: xs, ys => by simp [totL, totL_app sz xs ys]; omega
theorem mkL_app {α : Type} (sz : α → Int) (mk : Int → α → α) : ∀ (k : Int) (xs ys : List α), mkL sz mk k (xs ++ ys) = mkL sz mk k xs ++ mkL sz mk (k + totL sz xs) ys
  | k, [], ys => by simp [mkL, totL]
  | k, x :: xs, ys => by simp [mkL, totL, mkL_app sz mk _ xs ys, Int.add_assoc]
theorem mkL_len {α : Type} (sz : α → Int) (mk : Int → α → α) : ∀ (k : Int) (xs : List α), (mkL sz mk k xs).length = xs.length
  | k, [] => rfl
  | k, x :: xs => by simp [mkL, mkL_len sz mk _ xs]
theorem totL_next {α : Type} (sz : α → Int) {xs : List α} {i : Int} (h0 : 0 ≤ i) (h : i.toNat < xs.length) : totL sz (xs.take (i + 1).toNat) = totL sz (xs.take i.toNat) + sz (xs[i.toNat]) := by
  rw [show (i + 1).toNat = i.toNat + 1 by omega, List.take_succ_eq_append_getElem h, totL_app]
  simp [totL]
theorem totL_bd {α : Type} (sz : α → Int) (b : Int) : ∀ {xs : List α}, (∀ x ∈ xs, 0 ≤ sz x ∧ sz x ≤ b) → 0 ≤ totL sz xs ∧ totL sz xs ≤ xs.length * b
  | [], _ => by simp [totL]
  | x :: xs, h => by
    have h1 := totL_bd sz b (xs := xs) (fun y hy => h y (by simp [hy]))
    have h2 := h x (by simp)
    simp only [totL, List.length_cons, Int.natCast_add, Int.add_mul, Int.natCast_one, Int.one_mul]
    omega
/-- What has been written into a list so far. -/
def mkT {α : Type} (sz : α → Int) (mk : Int → α → α) (k : Int) (xs : List α) (i : Nat) : List α := mkL sz mk k (xs.take i) ++ xs.drop i
theorem mkT_len {α : Type} (sz : α → Int) (mk : Int → α → α) (k : Int) (xs : List α) (i : Nat) (h : i ≤ xs.length) : (mkT sz mk k xs i).length = xs.length := by
  unfold mkT; rw [List.length_append, mkL_len, List.length_take, List.length_drop]; omega
theorem mkT_get {α : Type} (sz : α → Int) (mk : Int → α → α) (k : Int) (xs : List α) (i : Nat) (h : i < xs.length) (h' : i < (mkT sz mk k xs i).length) : (mkT sz mk k xs i)[i]'h' = xs[i] := by
  have e : (mkL sz mk k (xs.take i)).length = i := by rw [mkL_len, List.length_take]; omega
  have e2 : (mkT sz mk k xs i)[i]? = some xs[i] := by
    unfold mkT
    rw [List.getElem?_append_right (by omega), e, Nat.sub_self, List.getElem?_drop, Nat.add_zero, List.getElem?_eq_getElem h]
  rw [List.getElem?_eq_getElem h'] at e2
  exact Option.some.inj e2
theorem mkT_0 {α : Type} (sz : α → Int) (mk : Int → α → α) (k : Int) (xs : List α) : mkT sz mk k xs 0 = xs := by unfold mkT; simp [mkL]
theorem mkT_next {α : Type} (sz : α → Int) (mk : Int → α → α) (k : Int) (xs : List α) (i : Nat) (h : i < xs.length) : (mkT sz mk k xs i).set i (mk (k + totL sz (xs.take i)) xs[i]) = mkT sz mk k xs (i + 1) := by
  have e : (mkL sz mk k (xs.take i)).length = i := by rw [mkL_len, List.length_take]; omega
  unfold mkT
  rw [List.set_append_right _ _ (by omega), e, Nat.sub_self, List.drop_eq_getElem_cons h, List.set_cons_zero, List.take_succ_eq_append_getElem h, mkL_app]
  simp [mkL]
theorem mkT_end {α : Type} (sz : α → Int) (mk : Int → α → α) (k : Int) (xs : List α) : mkT sz mk k xs xs.length = mkL sz mk k xs := by unfold mkT; simp
abbrev szw (x : List Int) : Int := x.length
abbrev mkw (k : Int) (x : List Int) : List Int := marks k x.length
@[irreducible] def totW (xs : List (List Int)) : Int := totL szw xs
@[irreducible] def mksW (k : Int) (xs : List (List Int)) : List (List Int) := mkL szw mkw k xs
theorem preD7 {p : Prop} (h : p := by first | with_reducible assumption | omega | (simp only [List.length_append, List.length_cons, List.length_nil, List.length_set, List.length_replicate, List.length_take, List.length_drop, List.length_tail, List.length_dropLast, List.length_reverse] at *; omega) | exact mem_len (by assumption) (by omega) | (with_reducible refine Int.le_trans (Int.ofNat_le.2 (trimR_len _)) ?_; simp only [List.length_cons, List.length_tail]; omega) | (exact (ruAt_ok (by assumption) (by assumption) (by assumption)).2.1) | (exact (ruAt_ok (by assumption) (by assumption) (by assumption)).2.1) | (have := vMach_bd (by assumption); omega) | (simp only [mC_ch, mC_tu]; omega) | (have := vTag_bd (by assumption); omega) | (have := (‹Gd _ _›).le; omega) | (exact tgHalts_no (by assumption)) | (exact tgHead (by assumption) (by assumption) (by assumption)) | (exact Int.le_trans (tgStep_gd (by assumption) (by assumption) (by assumption) (by assumption)).le (by decide)) | (exact vTag_r (by assumption)) | (with_reducible refine Int.le_trans (Int.ofNat_le.2 (pushL_len _ _)) ?_; simp only [List.length_dropLast]; omega) | exact ls_at (by assumption) (by omega) | exact pt_gd (by assumption) | exact lv_at (by assumption) (by omega) | exact pt_gd (lv_at (by assumption) (by omega)) | exact (ask_ok (by assumption)).1 | exact (ask_ok (by assumption)).2.1 | exact (ask_ok (by assumption)).2.2.1 | exact (ask_ok (by assumption)).2.2.2 | (simp only [marks_len]; omega) | (simp only [marksR_len]; omega) | exact lns_at (by assumption) (by omega) | exact bgs_at (by assumption) (by omega) | trivial) : p := h
theorem markInt64SSn_ok (xs : List (List Int)) (k : Int) (h1 : 0 ≤ k) (h2 : k + totW xs ≤ 4611686018427387904) (hx : (xs.length : Int) ≤ 4611686018427) (hxs : ∀ x ∈ xs, (x.length : Int) ≤ 4611686018427) : Does Tryz.prog 29 [.one (.gv 0), .one (int k)] [roWn xs] (.one (int (k + totW xs))) [roWn (mksW k xs)] := by
  refine does_of (k := 1) Tryz.func29 rfl Tryz.ntmps29 rfl rfl fun w F0 S0 ρ0 => ?_
  dsimp only [argT, argH]
  repeat' first | (apply p3; (first | exact pu1 | exact puL | exact puN | exact a_len_str rfl (fT rfl) | exact puC | exact a_ldE (E := eW) 0 rfl rfl rfl (fC rfl) rfl rfl (Nat.le_of_ble_eq_true rfl) bnd rfl (by first | exact trivial | exact rfl) | exact a_add rfl rfl (by omega) (by omega) | exact puI); exact rfl) | refine cd ?_ | (apply c4 0; exact callK1 (θ := [_]) (hD := (markInt64S_ok _ _ preD7 preD7 preD7)); exact rfl; exact rfl; exact rfl; refine dM ?_) | ((first | refine o_gs rfl rfl (fun hc => ?_) (fun hc => ?_) | refine g_cond rfl (fun hc => ?_) (fun hc => ?_)) <;> (try simp only [dcB] at hc) <;> (try first | contradiction | (exfalso; omega)))
  refine g_loop_id ?_
  refine loopK [0, 4] [0] (fun y : Int × Int × List (List Int) => 0 ≤ y.1 ∧ y.1 ≤ xs.length ∧ y.2.1 = k + totL szw (xs.take y.1.toNat) ∧ y.2.2 = mkT szw mkw k xs y.1.toNat) (fun y => [(5, .one (int y.1)), (1, .one (int y.2.1))]) (fun y => [(0, roWn y.2.2)]) (fun y => (xs.length - y.1).toNat) ((0 : Int), k, xs) [0] (hI := ?_) (hr := ?_)
  · exact ⟨by simp, by simp, by simp [totL], (mkT_0 _ _ _ _).symm⟩
  · rintro ⟨i, k', l⟩ ⟨k1, k2, k3, k4⟩
    dsimp only [List.cons_append, List.nil_append] at *
    skip
    repeat' first | (apply p3; (first | exact pu1 | exact puN | exact a_len_str rfl (fT rfl) | exact puC); exact rfl) | refine cdn ?_ | refine g_reg (id := 2) ?_ | refine g_reg (id := 5) ?_ | ((first | refine o_gs rfl rfl (fun hc => ?_) (fun hc => ?_) | refine g_cond rfl (fun hc => ?_) (fun hc => ?_)) <;> (try simp only [dcB] at hc) <;> (try first | contradiction | (exfalso; omega)))
    · have hl := mkT_len szw mkw k xs i.toNat (by omega)
      rw [← k4] at hl
      have hi : i.toNat < xs.length := by omega
      have hg : l[i.toNat]'(by omega) = xs[i.toNat] := by subst k4; exact mkT_get _ _ _ _ _ hi _
      have hb := totL_bd szw 4611686018427 (xs := xs.take i.toNat) (fun x hx => ⟨by unfold szw; omega, hxs x (List.mem_of_mem_take hx)⟩)
      have hx2 := hxs _ (List.getElem_mem hi)
      have hn := totL_next szw k1 (xs := xs) hi
      have ht := totL_app szw (xs.take (i + 1).toNat) (xs.drop (i + 1).toNat)
      have hd := totL_bd szw 4611686018427 (xs := xs.drop (i + 1).toNat) (fun x hx => ⟨by unfold szw; omega, hxs x (List.mem_of_mem_drop hx)⟩)
      rw [List.take_append_drop] at ht
      unfold totW at h2
      have hs : szw xs[i.toNat] = (xs[i.toNat].length : Int) := rfl
      first | refine g_conv (t_qE (i := 0) (i.toNat) bnd rfl) ?_ | refine o_conv (t_qE (i := 0) (i.toNat) bnd rfl) ?_
      try dsimp only [List.map_cons, List.map_nil, List.set_cons_zero, List.set_cons_succ, List.length_cons, List.length_nil, List.cons_append, List.nil_append, Nat.reduceAdd, setRow]
      first | refine g_conv (t_open1 (i := 0) (k := 0) rfl rfl rfl) ?_ | refine o_conv (t_open1 (i := 0) (k := 0) rfl rfl rfl) ?_
      try dsimp only [List.map_cons, List.map_nil, List.set_cons_zero, List.set_cons_succ, List.length_cons, List.length_nil, List.cons_append, List.nil_append, Nat.reduceAdd, setRow]
      simp only [hg]
      repeat' first | (apply p3; (first | exact pu1 | exact puL | exact puN | exact a_len_str rfl (fT rfl) | exact puC | exact puX | exact puQ | exact puI); exact rfl) | refine cdn ?_ | refine g_reg (id := 2) ?_ | refine g_reg (id := 4) ?_ | refine g_reg (id := 5) ?_ | (apply c4 0; exact callK1 (θ := [_]) (hD := (markInt64S_ok _ _ preD7 preD7 preD7)); exact rfl; exact rfl; exact rfl; refine dM ?_) | ((first | refine o_gs rfl rfl (fun hc => ?_) (fun hc => ?_) | refine g_cond rfl (fun hc => ?_) (fun hc => ?_)) <;> (try simp only [dcB] at hc) <;> (try first | contradiction | (exfalso; omega)))
      first | refine g_conv (t_close1 (i := 0) (j := 1) (k := 0) (m := 0) rfl rfl rfl rfl rfl) ?_ | refine o_conv (t_close1 (i := 0) (j := 1) (k := 0) (m := 0) rfl rfl rfl rfl rfl) ?_
      try dsimp only [List.map_cons, List.map_nil, List.set_cons_zero, List.set_cons_succ, List.length_cons, List.length_nil, List.cons_append, List.nil_append, Nat.reduceAdd, setRow]
      first | refine g_conv (t_uE (i := 0) (marks k' xs[i.toNat].length) bnd rfl rfl) ?_ | refine o_conv (t_uE (i := 0) (marks k' xs[i.toNat].length) bnd rfl rfl) ?_
      repeat' first | (apply p3; (first | exact pu1 | exact puL | exact puN | exact a_len_str rfl (fT rfl) | exact puC | exact puX | exact puQ | exact a_add rfl rfl (by omega) (by omega) | exact puI); exact rfl) | refine cd ?_ | (apply c4 0; exact callK1 (θ := [_]) (hD := (markInt64S_ok _ _ preD7 preD7 preD7)); exact rfl; exact rfl; exact rfl; refine dM ?_) | ((first | refine o_gs rfl rfl (fun hc => ?_) (fun hc => ?_) | refine g_cond rfl (fun hc => ?_) (fun hc => ?_)) <;> (try simp only [dcB] at hc) <;> (try first | contradiction | (exfalso; omega)))
      refine q_again (i + 1, k' + xs[i.toNat].length, l.set i.toNat (marks k' xs[i.toNat].length)) [0] (by exact stk) ?_ ?_
      · refine ⟨by dsimp only; omega, by dsimp only; omega, by dsimp only; omega, ?_⟩
        dsimp only
        rw [show (i + 1).toNat = i.toNat + 1 by omega, ← mkT_next szw mkw k xs i.toNat hi, ← k3, ← k4]
      · dsimp only; omega
    · have hl := mkT_len szw mkw k xs i.toNat (by omega)
      rw [← k4] at hl
      have hi : i.toNat = xs.length := by omega
      rw [hi, mkT_end] at k4
      rw [hi, List.take_length] at k3
      have e1 : totW xs = totL szw xs := by unfold totW; rfl
      have e2 : mksW k xs = mkL szw mkw k xs := by unfold mksW; rfl
      rw [e1, e2, ← k3, ← k4]
      repeat' first | (apply p3; (first | exact pu1 | exact puL | exact puN | exact a_len_str rfl (fT rfl) | exact puC | exact puX | exact puQ | exact a_add rfl rfl (by omega) (by omega) | exact puI); exact rfl) | refine cd ?_ | (apply c4 0; exact callK1 (θ := [_]) (hD := (markInt64S_ok _ _ preD7 preD7 preD7)); exact rfl; exact rfl; exact rfl; refine dM ?_) | ((first | refine o_gs rfl rfl (fun hc => ?_) (fun hc => ?_) | refine g_cond rfl (fun hc => ?_) (fun hc => ?_)) <;> (try simp only [dcB] at hc) <;> (try first | contradiction | (exfalso; omega)))
      repeat refine cr ?_
      refine ends_id ?_
      refine endK [] (h2 := ?_) (h3 := ?_) (nd := ?_)
      all_goals (repeat' first | exact ce0 | refine ce ?_ | refine ce2 ?_ ?_ | (refine Or.inr (bx_eq rfl rfl ?_); (try dsimp only [C.ren, C.ren.all]); (try exact rfl)) | exact SVLe.refl | refine ceb ?_)
      all_goals first | exact (show nodupB _ = true from rfl) | exact Or.inr rfl | (rfl)
end Go.Proofs.YtcmdfohamphndaaGreatDoor
end
section
set_option linter.unusedVariables false
set_option linter.unusedSimpArgs false
set_option maxRecDepth 100000
set_option maxHeartbeats 4000000
namespace Go.Proofs.YtcmdfohamphndaaGreatDoor
open Go Foot
theorem mkL_get {α : Type} (sz : α → Int) (mk : Int → α → α) : ∀ (k : Int) (xs : List α) (i : Nat) (h : i < xs.length), (mkL sz mk k xs)[i]? = some (mk (k + totL sz (xs.take i)) xs[i])
  | k, [], i, h => by simp at h
  | k, x :: xs, 0, h => by simp [mkL, totL]
  | k, x :: xs, i + 1, h => by
    have := mkL_get sz mk (k + sz x) xs i (by simpa using h)
    simp only [mkL, List.getElem?_cons_succ, this, List.take_succ_cons, totL, List.getElem_cons_succ, Int.add_assoc]
theorem mksW_len (k : Int) (T : List (List Int)) : (mksW k T).length = T.length := by unfold mksW; rw [mkL_len]
theorem mksW_get (k : Int) (T : List (List Int)) (i : Nat) (h : i < (mksW k T).length) (h' : i < T.length) : (mksW k T)[i]'h = marks (k + totL szw (T.take i)) (T[i]'h').length := by
  have e := mkL_get szw mkw k T i h'
  have e2 : mksW k T = mkL szw mkw k T := by unfold mksW; rfl
  rw [← e2, List.getElem?_eq_getElem h] at e
  exact Option.some.inj e
theorem preD9 {p : Prop} (h : p := by first | with_reducible assumption | omega | (simp only [List.length_append, List.length_cons, List.length_nil, List.length_set, List.length_replicate, List.length_take, List.length_drop, List.length_tail, List.length_dropLast, List.length_reverse] at *; omega) | exact mem_len (by assumption) (by omega) | (with_reducible refine Int.le_trans (Int.ofNat_le.2 (trimR_len _)) ?_; simp only [List.length_cons, List.length_tail]; omega) | (exact (ruAt_ok (by assumption) (by assumption) (by assumption)).2.1) | (exact (ruAt_ok (by assumption) (by assumption) (by assumption)).2.1) | (have := vMach_bd (by assumption); omega) | (simp only [mC_ch, mC_tu]; omega) | (have := vTag_bd (by assumption); omega) | (have := (‹Gd _ _›).le; omega) | (exact tgHalts_no (by assumption)) | (exact tgHead (by assumption) (by assumption) (by assumption)) | (exact Int.le_trans (tgStep_gd (by assumption) (by assumption) (by assumption) (by assumption)).le (by decide)) | (exact vTag_r (by assumption)) | (with_reducible refine Int.le_trans (Int.ofNat_le.2 (pushL_len _ _)) ?_; simp only [List.length_dropLast]; omega) | exact ls_at (by assumption) (by omega) | exact pt_gd (by assumption) | exact lv_at (by assumption) (by omega) | exact pt_gd (lv_at (by assumption) (by omega)) | exact (ask_ok (by assumption)).1 | exact (ask_ok (by assumption)).2.1 | exact (ask_ok (by assumption)).2.2.1 | exact (ask_ok (by assumption)).2.2.2 | (simp only [marks_len]; omega) | (simp only [marksR_len]; omega) | exact lns_at (by assumption) (by omega) | exact bgs_at (by assumption) (by omega) | trivial) : p := h
theorem heldMarksW_ok (T : List (List Int)) (k : Int) (h1 : 0 ≤ k) (h2 : k + totW T ≤ 4611686018427387904) (hx : (T.length : Int) ≤ 4611686018427) (hxs : ∀ x ∈ T, (x.length : Int) ≤ 4611686018427) : Does Tryz.prog 30 [.one (shW (mksW k T)), .one (int k)] [] (.one (int (k + totW T))) [] := by
  have hl := mksW_len k T
  refine does_of (k := 0) Tryz.func30 rfl Tryz.ntmps30 rfl rfl fun w F0 S0 ρ0 => ?_
  dsimp only [argT, argH]
  repeat' first | (apply p3; (first | exact pu1 | exact puL | exact puN | exact a_len_str rfl (fT rfl) | exact puC | exact a_ldE (E := eW) 0 rfl rfl rfl (fC rfl) rfl rfl (Nat.le_of_ble_eq_true rfl) bnd rfl (by first | exact trivial | exact rfl) | exact a_add rfl rfl (by omega) (by omega) | exact puI); exact rfl) | refine cd ?_ | (apply c4 0; exact callK1 (θ := []) (hD := (heldInt64S_ok _ _ preD9 preD9 preD9)); exact rfl; exact rfl; exact rfl; refine dM ?_) | ((first | refine o_gs rfl rfl (fun hc => ?_) (fun hc => ?_) | refine g_cond rfl (fun hc => ?_) (fun hc => ?_)) <;> (try simp only [dcB] at hc) <;> (try first | contradiction | (exfalso; omega)))
  refine g_loop_id ?_
  refine loopK [0, 4] [] (fun y : Int × Int => 0 ≤ y.1 ∧ y.1 ≤ T.length ∧ y.2 = k + totL szw (T.take y.1.toNat)) (fun y => [(5, .one (int y.1)), (1, .one (int y.2))]) (fun _ => []) (fun y => (T.length - y.1).toNat) ((0 : Int), k) [] (hI := ?_) (hr := ?_)
  · exact ⟨by simp, by simp, by simp [totL]⟩
  · rintro ⟨i, k'⟩ ⟨k1, k2, k3⟩
    dsimp only [List.cons_append, List.nil_append] at *
    skip
    repeat' first | (apply p3; (first | exact pu1 | exact puN | exact a_len_str rfl (fT rfl) | exact puC); exact rfl) | refine cdn ?_ | refine g_reg (id := 2) ?_ | refine g_reg (id := 7) ?_ | ((first | refine o_gs rfl rfl (fun hc => ?_) (fun hc => ?_) | refine g_cond rfl (fun hc => ?_) (fun hc => ?_)) <;> (try simp only [dcB] at hc) <;> (try first | contradiction | (exfalso; omega)))
    · have hi : i.toNat < T.length := by omega
      have hg := mksW_get k T i.toNat (by omega) hi
      rw [← k3] at hg
      have hh : held k' ((mksW k T)[i.toNat]'(by omega)) = k' + (T[i.toNat]'hi).length := by rw [hg, held_marks]
      have hgl : ((mksW k T)[i.toNat]'(by omega)).length = (T[i.toNat]'hi).length := by rw [hg, marks_len]
      have hb := totL_bd szw 4611686018427 (xs := T.take i.toNat) (fun x hx => ⟨by unfold szw; omega, hxs x (List.mem_of_mem_take hx)⟩)
      have hx2 := hxs _ (List.getElem_mem hi)
      have hn := totL_next szw k1 (xs := T) hi
      have ht := totL_app szw (T.take (i + 1).toNat) (T.drop (i + 1).toNat)
      have hd := totL_bd szw 4611686018427 (xs := T.drop (i + 1).toNat) (fun x hx => ⟨by unfold szw; omega, hxs x (List.mem_of_mem_drop hx)⟩)
      rw [List.take_append_drop] at ht
      unfold totW at h2
      have hs : szw T[i.toNat] = (T[i.toNat].length : Int) := rfl
      repeat' first | (apply p3; (first | exact pu1 | exact puL | exact puN | exact a_len_str rfl (fT rfl) | exact puC | exact a_ldE (E := eW) 0 rfl rfl rfl (fC rfl) rfl rfl (Nat.le_of_ble_eq_true rfl) bnd rfl (by first | exact trivial | exact rfl) | exact puI); exact rfl) | refine cdn ?_ | refine g_reg (id := 2) ?_ | refine g_reg (id := 4) ?_ | refine g_reg (id := 7) ?_ | (apply c4 0; exact callK1 (θ := []) (hD := (heldInt64S_ok _ _ preD9 preD9 preD9)); exact rfl; exact rfl; exact rfl; refine dM ?_) | ((first | refine o_gs rfl rfl (fun hc => ?_) (fun hc => ?_) | refine g_cond rfl (fun hc => ?_) (fun hc => ?_)) <;> (try simp only [dcB] at hc) <;> (try first | contradiction | (exfalso; omega)))
      simp only [hh]
      repeat' first | (apply p3; (first | exact pu1 | exact puL | exact puN | exact a_len_str rfl (fT rfl) | exact puC | exact a_ldE (E := eW) 0 rfl rfl rfl (fC rfl) rfl rfl (Nat.le_of_ble_eq_true rfl) bnd rfl (by first | exact trivial | exact rfl) | exact a_add rfl rfl (by omega) (by omega) | exact puI); exact rfl) | refine cd ?_ | (apply c4 0; exact callK1 (θ := []) (hD := (heldInt64S_ok _ _ preD9 preD9 preD9)); exact rfl; exact rfl; exact rfl; refine dM ?_) | ((first | refine o_gs rfl rfl (fun hc => ?_) (fun hc => ?_) | refine g_cond rfl (fun hc => ?_) (fun hc => ?_)) <;> (try simp only [dcB] at hc) <;> (try first | contradiction | (exfalso; omega)))
      refine q_again (i + 1, k' + (T[i.toNat]'hi).length) [] (by exact stk) ?_ ?_
      · exact ⟨by dsimp only; omega, by dsimp only; omega, by dsimp only; omega⟩
      · dsimp only; omega
    · have hi : i.toNat = T.length := by omega
      rw [hi, List.take_length] at k3
      have e1 : totW T = totL szw T := by unfold totW; rfl
      rw [e1, ← k3]
      repeat' first | (apply p3; (first | exact pu1 | exact puL | exact puN | exact a_len_str rfl (fT rfl) | exact puC | exact a_ldE (E := eW) 0 rfl rfl rfl (fC rfl) rfl rfl (Nat.le_of_ble_eq_true rfl) bnd rfl (by first | exact trivial | exact rfl) | exact a_add rfl rfl (by omega) (by omega) | exact puI); exact rfl) | refine cd ?_ | (apply c4 0; exact callK1 (θ := []) (hD := (heldInt64S_ok _ _ preD9 preD9 preD9)); exact rfl; exact rfl; exact rfl; refine dM ?_) | ((first | refine o_gs rfl rfl (fun hc => ?_) (fun hc => ?_) | refine g_cond rfl (fun hc => ?_) (fun hc => ?_)) <;> (try simp only [dcB] at hc) <;> (try first | contradiction | (exfalso; omega)))
      repeat refine cr ?_
      refine ends_id ?_
      refine endK [] (h2 := ?_) (h3 := ?_) (nd := ?_)
      all_goals (repeat' first | exact ce0 | refine ce ?_ | refine ce2 ?_ ?_ | exact SVLe.refl | refine ceb ?_)
      all_goals first | exact (show nodupB _ = true from rfl) | exact Or.inr rfl | (rfl)
end Go.Proofs.YtcmdfohamphndaaGreatDoor
end
section
set_option linter.unusedVariables false
set_option linter.unusedSimpArgs false
set_option maxRecDepth 100000
set_option maxHeartbeats 4000000
namespace Go.Proofs.YtcmdfohamphndaaGreatDoor
open Go Foot
/-- Rules with numbers one behind the other. -/
@[irreducible] def marksR (k : Int) (n : Nat) : List Rule' := (List.range n).map fun (i : Nat) => ⟨k + 3 * (i : Int), k + 3 * (i : Int) + 1, k + 3 * (i : Int) + 2⟩
theorem marksR_len (k : Int) (n : Nat) : (marksR k n).length = n := by unfold marksR; simp
end Go.Proofs.YtcmdfohamphndaaGreatDoor
end
