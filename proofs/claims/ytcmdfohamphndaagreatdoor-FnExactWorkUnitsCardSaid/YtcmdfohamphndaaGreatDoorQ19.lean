/- Parts of the proof (19 of 22). -/
import Derived.Conc.MuData
import Derived.Test.YtcmdfohamphndaaGreatDoorQ18
section
set_option linter.unusedVariables false
namespace Go.Proofs.YtcmdfohamphndaaGreatDoor
open Go
abbrev muLink : Go.Conc.Locks.MuLink := { lock := 148,unlock := 149,ilock := 195,iunlock := 196,lockSlow := 233,unlockSlow := 236,disable := 229,enable := 231,acquire := 232,relMerge := 234,cas32 := 230,add32 := 235,tMutex := 166,tIMutex := 164,tPMutex := 227,tPIMutex := 267,tPI32 := 269,tUP := 271,tNoCopy := 161,tU32 := 162 }
theorem muLib : Go.Conc.Locks.MuLib Tryz.prog muLink :=
  ⟨Tryz.func148,Tryz.func149,Tryz.func195,Tryz.func196,Tryz.func229,Tryz.func231,Tryz.func232,Tryz.func234,Tryz.func230,Tryz.func235,Tryz.underlying164,Tryz.runUnderlying164,Tryz.sizeOf164,Tryz.isAgg164,Tryz.zeroValue164,Tryz.underlying166,Tryz.runUnderlying166,Tryz.sizeOf166,Tryz.isAgg166,Tryz.zeroValue166,Tryz.underlying227,Tryz.runUnderlying227,Tryz.sizeOf227,Tryz.isAgg227,Tryz.zeroValue227,Tryz.underlying267,Tryz.runUnderlying267,Tryz.sizeOf267,Tryz.isAgg267,Tryz.zeroValue267,Tryz.underlying269,Tryz.runUnderlying269,Tryz.sizeOf269,Tryz.isAgg269,Tryz.zeroValue269,Tryz.underlying271,Tryz.runUnderlying271,Tryz.sizeOf271,Tryz.isAgg271,Tryz.zeroValue271,Tryz.underlying161,Tryz.runUnderlying161,Tryz.sizeOf161,Tryz.isAgg161,Tryz.zeroValue161,Tryz.underlying21,Tryz.runUnderlying21,Tryz.sizeOf21,Tryz.isAgg21,Tryz.zeroValue21,(by kernel_rfl)⟩
theorem Unlock_is : muLink.unlock = 149 := rfl
theorem Unlock_ent : entB Tryz.prog 149 = true := by kernel_rfl
end Go.Proofs.YtcmdfohamphndaaGreatDoor
end
section
set_option linter.unusedVariables false
set_option linter.unusedSimpArgs false
set_option maxRecDepth 100000
set_option maxHeartbeats 4000000
namespace Go.Proofs.YtcmdfohamphndaaGreatDoor
open Go Foot
abbrev ndC (m : Mach) (B : Int) : List C := [int m.sy,int m.st,shR m.ru,int (ndS m B),int (ndA m B)]
abbrev ndD (m : Mach) (B : Int) : List D := [.sc (.int .i64 m.sy),.sc (.int .i64 m.st),.sl false 3 (rows eR m.ru),.sc (.int .i64 (ndS m B)),.sc (.int .i64 (ndA m B))]
def kn (B sy st : Int) (k : Bs) (ds : List D) : Prop := ∃ m,NdOk sy st m ∧ k = macT m ∧ ds = ndD m B
theorem kn_good {B sy st : Int} {m : Mach} (h : NdOk sy st m) : kn B sy st (macT m) (ndD m B) := ⟨m,h,rfl,rfl⟩
theorem kn_same {B sy st : Int} {m : Mach} {ds : List D} (h : NdOk sy st m) (hk : kn B sy st (macT m) ds) : ds = ndD m B := by
  obtain ⟨m',h1,h2,h3⟩ := hk
  rw [h3,macT_inj h1 h h2.symm]
abbrev foC (st sy B z : Int) : List C := [int st,int sy,int B,i32 z,.d (.sc (.int .u32 0)),.gv 1]
abbrev foM (B sy st : Int) (i : Nat) : GB := .opq (knP (kn B sy st)) [i]
theorem preB94 {p : Prop} (h : p := by first | with_reducible assumption | omega | (simp only [List.length_append,List.length_cons,List.length_nil,List.length_set,List.length_replicate,List.length_take,List.length_drop,List.length_tail,List.length_dropLast,List.length_reverse] at *; omega) | exact mem_len (by assumption) (by omega) | (with_reducible refine Int.le_trans (Int.ofNat_le.2 (trimR_len _)) ?_; simp only [List.length_cons,List.length_tail]; omega) | (exact (ruAt_ok (by assumption) (by assumption) (by assumption)).2.1) | (exact (ruAt_ok (by assumption) (by assumption) (by assumption)).2.1) | (have := vMach_bd (by assumption); omega) | (simp only [mC_ch,mC_tu]; omega) | (have := vTag_bd (by assumption); omega) | (have := (‹Gd _ _›).le; omega) | (exact tgHalts_no (by assumption)) | (exact tgHead (by assumption) (by assumption) (by assumption)) | (exact Int.le_trans (tgStep_gd (by assumption) (by assumption) (by assumption) (by assumption)).le (by decide)) | (exact vTag_r (by assumption)) | (with_reducible refine Int.le_trans (Int.ofNat_le.2 (pushL_len _ _)) ?_; simp only [List.length_dropLast]; omega) | exact ls_at (by assumption) (by omega) | exact pt_gd (by assumption) | exact lv_at (by assumption) (by omega) | exact pt_gd (lv_at (by assumption) (by omega)) | exact (ask_ok (by assumption)).1 | exact (ask_ok (by assumption)).2.1 | exact (ask_ok (by assumption)).2.2.1 | exact (ask_ok (by assumption)).2.2.2 | trivial) : p := h
theorem mlock_ok (st sy B : Int) : Does Tryz.prog 148 [.one (.gp 0 3)] [.bx (foC st sy B 0),foM B sy st 1] (.tup []) [.bx (foC st sy B 1),foM B sy st 1] := does_lock muLib rfl rfl
theorem look_ok (st sy B : Int) (m : Mach) (hm : NdOk sy st m) (h0 : 0 ≤ B) (h1 : B ≤ 1000000) : Does Tryz.prog 88 [.one (.gv 0),.agg (maC m)] [.bx (foC st sy B 0),foM B sy st 1] (.agg (ndC m B)) [.bx (foC st sy B 0),foM B sy st 1] := by
  have hv := hm.v
  refine does_ofU muLib Unlock_is Unlock_ent (o := 3) (k := 2) Tryz.func88 rfl Tryz.ntmps88 rfl rfl fun w F0 S0 ρ0 b off hρ => ?_
  dsimp only [argT,argH]
  refine gx_seq2 ?_
  repeat' first|(apply n3;exact a_new (gb := .bx _) rfl;exact rfl;refine dA ?_)|refine cdn ?_|refine g_reg (id := 0) ?_|((first|refine o_gs rfl rfl (fun hc => ?_) (fun hc => ?_)|refine g_cond rfl (fun hc => ?_) (fun hc => ?_)) <;> (try simp only [dcB] at hc) <;> (try first|contradiction|(exfalso;omega)))
  refine qSeqX.go ?_
  refine gx_seq2 ?_
  repeat' first|(apply n3;exact a_new (gb := .bx _) rfl;exact rfl;refine dA ?_)|(apply p3;exact pu1;exact rfl)|refine cdn ?_|refine g_reg (id := 0) ?_|refine g_reg (id := 1) ?_|(apply c4 0;exact callK0 (θ := [0,1]) (hD := (mlock_ok st sy B));exact rfl;exact rfl;exact rfl;refine dM ?_)|((first|refine o_gs rfl rfl (fun hc => ?_) (fun hc => ?_)|refine g_cond rfl (fun hc => ?_) (fun hc => ?_)) <;> (try simp only [dcB] at hc) <;> (try first|contradiction|(exfalso;omega)))
  refine qSeqX.go ?_
  refine gx_seq rfl ?_
  refine gx_region ?_
  refine xp3 (sv := .one (.gv 0)) (a_pure (sv := .one _) rfl) rfl ?_
  refine xp3 (sv := .one (.gv 0)) (a_pure (sv := .one _) rfl) rfl ?_
  refine xp3 (sv := .one (.gp 0 3)) (a_pure (sv := .one _) rfl) rfl ?_
  refine ox_put rfl (Nat.le_of_ble_eq_true rfl) hρ rfl rfl rfl ?_
  dsimp only [Gh.put]
  refine cd ?_
  refine cd ?_
  repeat' first|(apply n3;exact a_new (gb := .bx _) rfl;exact rfl;refine dA ?_)|(apply p3;(first|exact pu1|exact puL);exact rfl)|refine cdn ?_|refine g_reg (id := 0) ?_|refine g_reg (id := 1) ?_|refine g_reg (id := 2) ?_|refine g_reg (id := 3) ?_|refine g_reg (id := 4) ?_|(apply w3;(first|exact a_st_bx rfl rfl rfl rfl (fN rfl rfl) (Nat.le_of_ble_eq_true rfl) rfl|exact a_stE (E := (eNd B)) _ rfl rfl rfl rfl (fN rfl rfl) bnd (by exact rfl));exact rfl;refine dS ?_)|(apply c4 0;exact callK0 (θ := [0,1]) (hD := (mlock_ok st sy B));exact rfl;exact rfl;exact rfl;refine dM ?_)|(apply c4 0;exact callK1 (θ := []) (hD := (MachineText_ok _ preB94));exact rfl;exact rfl;exact rfl;refine dM ?_)|((first|refine o_gs rfl rfl (fun hc => ?_) (fun hc => ?_)|refine g_cond rfl (fun hc => ?_) (fun hc => ?_)) <;> (try simp only [dcB] at hc) <;> (try first|contradiction|(exfalso;omega)))
  refine o_lookK (Good := kn B sy st) (zs := #[.int .i64 0,.int .i64 0,.slice none 0 0,.int .i64 0,.int .i64 0]) rfl rfl rfl Tryz.underlying159 (by kernel_rfl) (by kernel_rfl) (by kernel_rfl) rfl (fun ds hds => ?_) ?_
  · obtain rfl := kn_same hm hds
    dsimp only [St.eff,List.map_cons,List.map_nil,List.nil_append]
    repeat' first|(apply n3;exact a_new (gb := .bx _) rfl;exact rfl;refine dA ?_)|(apply p3;(first|exact pu1|exact puL);exact rfl)|refine cd ?_|(apply w3;(first|exact a_st_bx rfl rfl rfl rfl (fN rfl rfl) (Nat.le_of_ble_eq_true rfl) rfl|exact a_stE (E := (eNd B)) _ rfl rfl rfl rfl (fN rfl rfl) bnd (by exact rfl));exact rfl;refine dS ?_)|(apply c4 0;exact callK0 (θ := [0,1]) (hD := (mlock_ok st sy B));exact rfl;exact rfl;exact rfl;refine dM ?_)|(apply c4 0;exact callK1 (θ := []) (hD := (MachineText_ok _ preB94));exact rfl;exact rfl;exact rfl;refine dM ?_)|(apply g_drN (id := 6) okM [[],[],[1],[1,2],[1,2,3],[0,1,2,3,4],[0,1,2,3,4,5],[0,1,2,3,4,5,6],[0,1,2,3,4,5,6],[0,1,2,3,4,5,6],[0,1,2,3,4,5,6,7],[0,1,2,3,4,5,6,7,8,10],[0,1,2,3,4,5,6,7,8,9,10,11]] [([],[]),([],[]),([],[]),([],[]),([],[]),([],[]),([],[]),([],[]),([],[]),([],[]),([],[]),([],[]),([],[])] 0;(focus (refine dp 0 0 [33,34,35,36] [] puL ?_;refine dp 1 0 [32] [] pu1 ?_;refine dp 2 1 [32] [] (a_pure (sv := .one _) rfl) ?_;refine dp 3 3 [32] [] (a_pure (sv := .one _) rfl) ?_;refine dp 4 7 [32] [] puL ?_;refine dp 5 31 [] [] (callD1 (n := _) 0 (θ := []) (hD := (nodeStatus_ok _ _ preB94 preB94 preB94))) ?_;refine dp 6 63 [] [] pu1 ?_;refine dp 7 127 [39,40] [] pu2 ?_;refine dp 8 254 [38,40,8] [] pu2 ?_;refine dp 9 508 [38,39,8,9] [] pu2 ?_;refine dp 10 1020 [39,40] [] pu1 ?_;refine dp 11 2045 [40] [] pu1 ?_;refine dp 12 4095 [] [] pu1 ?_;(refine d_nil ?_;refine dN ?_)));any_goals kernel_rfl)|(apply g_drN (id := 8) okM [[],[0],[0,1],[0,1,2],[],[],[0,1,2,3,4,5]] [([],[]),([],[]),([],[]),([],[]),([],[]),([],[]),([],[1])] 0;(focus (refine dp 0 0 [49,50] [] pu1 ?_;refine dp 1 1 [49,50] [] (a_pure (sv := .one _) rfl) ?_;refine dp 2 3 [49,50] [] (a_pure (sv := .one _) rfl) ?_;refine dp 3 7 [49,50] [] puL ?_;refine dp 4 0 [45,46,47,48,50] [] pu1 ?_;refine dp 5 0 [45,46,47,48,49] [] puL ?_;refine duE 6 63 [] [] (a_updK (Good := kn B sy st) (k := macT m) (ds := ndD m B) rfl rfl rfl rfl rfl (kn_good (by assumption)) Tryz.underlying159 (by kernel_rfl)) (by exact rfl) (by exact rfl) ?_;(refine d_nil ?_;refine dN ?_)));any_goals kernel_rfl)|((first|refine o_gs rfl rfl (fun hc => ?_) (fun hc => ?_)|refine g_cond rfl (fun hc => ?_) (fun hc => ?_)) <;> (try simp only [dcB] at hc) <;> (try first|contradiction|(exfalso;omega)))
    repeat refine cr ?_
    refine endsU rfl rfl ?_
    repeat refine cr ?_
    refine ends_id ?_
    refine endK [] (h2 := ?_) (h3 := ?_) (nd := ?_)
    all_goals (repeat' first|exact ce0|refine ce ?_|refine ce2 ?_ ?_|(refine Or.inr (bx_eq rfl rfl ?_);(try dsimp only [C.ren,C.ren.all]);(try exact rfl))|exact SVLe.refl|refine ceb ?_)
    all_goals first | exact (show nodupB _ = true from rfl) | exact Or.inr rfl | (rfl)
  · dsimp only [St.eff,List.map_cons,List.map_nil,List.nil_append]
    repeat' first|(apply n3;exact a_new (gb := .bx _) rfl;exact rfl;refine dA ?_)|(apply p3;(first|exact pu1|exact puL);exact rfl)|refine cd ?_|(apply w3;(first|exact a_st_bx rfl rfl rfl rfl (fN rfl rfl) (Nat.le_of_ble_eq_true rfl) rfl|exact a_stE (E := (eNd B)) _ rfl rfl rfl rfl (fN rfl rfl) bnd (by exact rfl));exact rfl;refine dS ?_)|(apply c4 0;exact callK0 (θ := [0,1]) (hD := (mlock_ok st sy B));exact rfl;exact rfl;exact rfl;refine dM ?_)|(apply c4 0;exact callK1 (θ := []) (hD := (MachineText_ok _ preB94));exact rfl;exact rfl;exact rfl;refine dM ?_)|(apply g_drN (id := 6) okM [[],[],[1],[1,2],[1,2,3],[0,1,2,3,4],[0,1,2,3,4,5],[0,1,2,3,4,5,6],[0,1,2,3,4,5,6],[0,1,2,3,4,5,6],[0,1,2,3,4,5,6,7],[0,1,2,3,4,5,6,7,8,10],[0,1,2,3,4,5,6,7,8,9,10,11]] [([],[]),([],[]),([],[]),([],[]),([],[]),([],[]),([],[]),([],[]),([],[]),([],[]),([],[]),([],[]),([],[])] 0;(focus (refine dp 0 0 [33,34,35,36] [] puL ?_;refine dp 1 0 [32] [] pu1 ?_;refine dp 2 1 [32] [] (a_pure (sv := .one _) rfl) ?_;refine dp 3 3 [32] [] (a_pure (sv := .one _) rfl) ?_;refine dp 4 7 [32] [] puL ?_;refine dp 5 31 [] [] (callD1 (n := _) 0 (θ := []) (hD := (nodeStatus_ok _ _ preB94 preB94 preB94))) ?_;refine dp 6 63 [] [] pu1 ?_;refine dp 7 127 [39,40] [] pu2 ?_;refine dp 8 254 [38,40,8] [] pu2 ?_;refine dp 9 508 [38,39,8,9] [] pu2 ?_;refine dp 10 1020 [39,40] [] pu1 ?_;refine dp 11 2045 [40] [] pu1 ?_;refine dp 12 4095 [] [] pu1 ?_;(refine d_nil ?_;refine dN ?_)));any_goals kernel_rfl)|(apply g_drN (id := 8) okM [[],[0],[0,1],[0,1,2],[],[],[0,1,2,3,4,5]] [([],[]),([],[]),([],[]),([],[]),([],[]),([],[]),([],[1])] 0;(focus (refine dp 0 0 [49,50] [] pu1 ?_;refine dp 1 1 [49,50] [] (a_pure (sv := .one _) rfl) ?_;refine dp 2 3 [49,50] [] (a_pure (sv := .one _) rfl) ?_;refine dp 3 7 [49,50] [] puL ?_;refine dp 4 0 [45,46,47,48,50] [] pu1 ?_;refine dp 5 0 [45,46,47,48,49] [] puL ?_;refine duE 6 63 [] [] (a_updK (Good := kn B sy st) (k := macT m) (ds := ndD m B) rfl rfl rfl rfl rfl (kn_good (by assumption)) Tryz.underlying159 (by kernel_rfl)) (by exact rfl) (by exact rfl) ?_;(refine d_nil ?_;refine dN ?_)));any_goals kernel_rfl)|((first|refine o_gs rfl rfl (fun hc => ?_) (fun hc => ?_)|refine g_cond rfl (fun hc => ?_) (fun hc => ?_)) <;> (try simp only [dcB] at hc) <;> (try first|contradiction|(exfalso;omega)))
    repeat refine cr ?_
    refine endsU rfl rfl ?_
    repeat refine cr ?_
    refine ends_id ?_
    refine endK [] (h2 := ?_) (h3 := ?_) (nd := ?_)
    all_goals (repeat' first|exact ce0|refine ce ?_|refine ce2 ?_ ?_|(refine Or.inr (bx_eq rfl rfl ?_);(try dsimp only [C.ren,C.ren.all]);(try exact rfl))|exact SVLe.refl|refine ceb ?_)
    all_goals first | exact (show nodupB _ = true from rfl) | exact Or.inr rfl | (rfl)
end Go.Proofs.YtcmdfohamphndaaGreatDoor
end
section
set_option linter.unusedVariables false
set_option linter.unusedSimpArgs false
set_option maxRecDepth 100000
set_option maxHeartbeats 4000000
namespace Go.Proofs.YtcmdfohamphndaaGreatDoor
open Go Foot
theorem preB97 {p : Prop} (h : p := by first | with_reducible assumption | omega | (simp only [List.length_append,List.length_cons,List.length_nil,List.length_set,List.length_replicate,List.length_take,List.length_drop,List.length_tail,List.length_dropLast,List.length_reverse] at *; omega) | exact mem_len (by assumption) (by omega) | (with_reducible refine Int.le_trans (Int.ofNat_le.2 (trimR_len _)) ?_; simp only [List.length_cons,List.length_tail]; omega) | (exact (ruAt_ok (by assumption) (by assumption) (by assumption)).2.1) | (exact (ruAt_ok (by assumption) (by assumption) (by assumption)).2.1) | (have := vMach_bd (by assumption); omega) | (simp only [mC_ch,mC_tu]; omega) | (have := vTag_bd (by assumption); omega) | (have := (‹Gd _ _›).le; omega) | (exact tgHalts_no (by assumption)) | (exact tgHead (by assumption) (by assumption) (by assumption)) | (exact Int.le_trans (tgStep_gd (by assumption) (by assumption) (by assumption) (by assumption)).le (by decide)) | (exact vTag_r (by assumption)) | (with_reducible refine Int.le_trans (Int.ofNat_le.2 (pushL_len _ _)) ?_; simp only [List.length_dropLast]; omega) | exact ls_at (by assumption) (by omega) | exact pt_gd (by assumption) | exact lv_at (by assumption) (by omega) | exact pt_gd (lv_at (by assumption) (by omega)) | exact (ask_ok (by assumption)).1 | exact (ask_ok (by assumption)).2.1 | exact (ask_ok (by assumption)).2.2.1 | exact (ask_ok (by assumption)).2.2.2 | trivial) : p := h
theorem symbolsOk_ok (n : Int) : Does Tryz.prog 137 [.one (int n)] [] (.one (boo (inB n 2 6))) [] := by
  refine does_of (k := 0) Tryz.func137 rfl Tryz.ntmps137 rfl rfl fun w F0 S0 ρ0 => ?_
  dsimp only [argT,argH]
  repeat' first|(apply p3;exact pu1;exact rfl)|refine cd ?_|(apply c4 0;exact callK1 (θ := []) (hD := (within_ok _ _ _));exact rfl;exact rfl;exact rfl;refine dM ?_)|((first|refine o_gs rfl rfl (fun hc => ?_) (fun hc => ?_)|refine g_cond rfl (fun hc => ?_) (fun hc => ?_)) <;> (try simp only [dcB] at hc) <;> (try first|contradiction|(exfalso;omega)))
  repeat refine cr ?_
  refine ends_id ?_
  refine endK [] (h2 := ?_) (h3 := ?_) (nd := ?_)
  all_goals (repeat' first|exact ce0|refine ce ?_|refine ce2 ?_ ?_|exact SVLe.refl|refine ceb ?_)
  all_goals first | exact (show nodupB _ = true from rfl) | exact Or.inr rfl | (rfl)
theorem sizesCode_ok (s y B : Int) : Does Tryz.prog 69 [.one (int s),.one (int y),.one (int B)] [] (.one (int (askT s y B))) [] := by
  have e : askT s y B = if inB s 1 6 = true ∧ inB y 2 6 = true ∧ inB B 1 20000 = true then 0 else 2 := by unfold askT; rfl
  rw [e]
  refine does_of (k := 0) Tryz.func69 rfl Tryz.ntmps69 rfl rfl fun w F0 S0 ρ0 => ?_
  dsimp only [argT,argH]
  repeat' first|(apply p3;exact pu1;exact rfl)|refine cd ?_|(apply c4 0;exact callK1 (θ := []) (hD := (within_ok _ _ _));exact rfl;exact rfl;exact rfl;refine dM ?_)|(apply c4 0;exact callK1 (θ := []) (hD := (symbolsOk_ok _));exact rfl;exact rfl;exact rfl;refine dM ?_)|(apply c4 0;exact callK1 (θ := []) (hD := (budgetOk_ok _));exact rfl;exact rfl;exact rfl;refine dM ?_)|refine o_no rfl rfl rfl rfl ?_|refine o_noN rfl rfl rfl ?_|(apply py3;exact rfl;exact rfl;exact pu1;exact rfl;exact rfl)|(apply cy4 0;exact rfl;exact rfl;exact callK1 (θ := []) (hD := (within_ok _ _ _));exact rfl;exact rfl;exact rfl;exact rfl;refine dM ?_)|(apply cy4 0;exact rfl;exact rfl;exact callK1 (θ := []) (hD := (symbolsOk_ok _));exact rfl;exact rfl;exact rfl;exact rfl;refine dM ?_)|(apply cy4 0;exact rfl;exact rfl;exact callK1 (θ := []) (hD := (budgetOk_ok _));exact rfl;exact rfl;exact rfl;exact rfl;refine dM ?_)|((first|refine o_gs rfl rfl (fun hc => ?_) (fun hc => ?_)|refine g_cond rfl (fun hc => ?_) (fun hc => ?_)) <;> (try simp only [dcB] at hc) <;> (try first|contradiction|(exfalso;omega)))
  all_goals
    repeat refine cr ?_
    refine ends_id ?_
    refine endK [] (h2 := ?_) (h3 := ?_) (nd := ?_)
    all_goals (repeat' first|exact ce0|refine ce ?_|refine ce2 ?_ ?_|exact SVLe.refl|refine ceb ?_)
    all_goals first | exact (show nodupB _ = true from rfl) | exact Or.inr rfl | ((simp_all <;> omega))
theorem forestOf_ok (st sy B : Int) : Does Tryz.prog 70 [.one (int st),.one (int sy),.one (int B)] [] (.one (.gv 0)) [.bx (foC st sy B 0),foM B sy st 1] := by
  refine does_of (k := 0) Tryz.func70 rfl Tryz.ntmps70 rfl rfl fun w F0 S0 ρ0 => ?_
  dsimp only [argT,argH]
  repeat' first|(apply n3;(first|exact a_mkMapK (kn B sy st)|exact a_new (gb := .bx _) rfl);exact rfl;refine dA ?_)|(apply p3;exact pu1;exact rfl)|refine cd ?_|((first|refine o_gs rfl rfl (fun hc => ?_) (fun hc => ?_)|refine g_cond rfl (fun hc => ?_) (fun hc => ?_)) <;> (try simp only [dcB] at hc) <;> (try first|contradiction|(exfalso;omega)))
  repeat refine cr ?_
  refine ends_id ?_
  refine endK [?_,?_] (h2 := ?_) (h3 := ?_) (nd := ?_)
  rotate_left 2
  all_goals (repeat' first|exact ce0|refine ce ?_|refine ce2 ?_ ?_|(refine Or.inr (bx_eq rfl rfl ?_);(try dsimp only [C.ren,C.ren.all]);(try exact rfl))|exact SVLe.refl|refine ceb ?_)
  all_goals first | exact (show nodupB _ = true from rfl) | exact Or.inr rfl | (rfl)
theorem emptyRoot_ok (st sy : Int) (h1 : 1 ≤ st) (h2 : st ≤ 6) (h3 : 2 ≤ sy) (h4 : sy ≤ 6) : Does Tryz.prog 89 [.one (int st),.one (int sy)] [] (.agg [int (root sy st).sy,int (root sy st).st,.gv 0]) [.row 3 (rows eR (root sy st).ru)] := by
  have hp1 : 0 ≤ st * sy := Int.mul_nonneg (by omega) (by omega)
  have hp2 : st * sy ≤ 6 * 6 := Int.mul_le_mul (by omega) (by omega) (by omega) (by omega)
  unfold root
  exact emptyMachine_ok st sy (by omega) (by omega) (by omega) (by omega) hp1 (by omega)
theorem childM_ok (m : Mach) (a : Int) (r : Rule') (hx : (m.ru.length : Int) ≤ 16777216) (h0 : 0 ≤ a) (h1 : a < m.ru.length) : Does Tryz.prog 93 [.agg (maC m),.one (int a),.agg (ruC r)] [] (.agg [int (chM m a r).sy,int (chM m a r).st,.gv 0]) [.row 3 (rows eR (chM m a r).ru)] := by
  unfold chM
  exact child_ok m a r hx h0 h1
theorem childrenY_ok (m : Mach) (B : Int) (hm : vMach m = true) (hs : ndS m B = 0) : Does Tryz.prog 92 [.agg (ndC m B)] [] (.one (.gv 0)) [.row 3 (rows eR (chR m))] := by
  have h := children_ok m (ndS m B) (ndA m B) hm
  rw [if_pos hs] at h
  exact h
theorem childrenN_ok (m : Mach) (B : Int) (hm : vMach m = true) (hs : ¬ ndS m B = 0) : Does Tryz.prog 92 [.agg (ndC m B)] [] (.one (.gv 0)) [.row 3 (rows eR [])] := by
  have h := children_ok m (ndS m B) (ndA m B) hm
  rw [if_neg hs] at h
  exact h
abbrev eNd (B : Int) : Enc Mach := ⟨5,fun m => ndD m B,fun _ => rfl,by decide⟩
theorem stp_yes {B : Int} {m : Mach} {k : Int} (hs : ndS m B = 0) (h0 : 0 ≤ k) (h1 : k.toNat < (chR m).length) : stp B m k = some (chM m (ndA m B) ((chR m)[k.toNat])) := by
  unfold stp
  rw [if_pos ⟨hs,h0,by omega⟩,List.getD_eq_getElem?_getD,List.getElem?_eq_getElem h1]
  rfl
theorem stp_no {B : Int} {m : Mach} {k : Int} (h : ¬ ndS m B = 0 ∨ k < 0 ∨ (chR m).length ≤ k) : stp B m k = none := by
  unfold stp
  rw [if_neg]
  omega
theorem pthL_next {B : Int} {m : Mach} {p : List Int} {i : Int} (h0 : 0 ≤ i) (h : i.toNat < p.length) : pthL B m (p.drop i.toNat) = (stp B m p[i.toNat]).bind fun m' => (pthL B m' (p.drop (i + 1).toNat)).map (m :: ·) := by
  rw [drop_get h0 h,pthL]
theorem at_f_ok (st sy B : Int) (p : List Int) (hp : (p.length : Int) ≤ 1048576) (h1 : 1 ≤ st) (h2 : st ≤ 6) (h3 : 2 ≤ sy) (h4 : sy ≤ 6) (h5 : 0 ≤ B) (h6 : B ≤ 1000000) : Does Tryz.prog 71 [.one (.gv 0),.one (shI p)] [.bx (foC st sy B 0),foM B sy st 1] (.tup [(false,[.gv 2]),(false,[boo (pthL B (root sy st) p).isSome])]) [.bx (foC st sy B 0),foM B sy st 1,.row 5 (rows (eNd B) ((pthL B (root sy st) p).getD []))] := by
  have hr := root_ok h3 h4 h1 (by omega)
  refine does_of (k := 2) Tryz.func71 rfl Tryz.ntmps71 rfl rfl fun w F0 S0 ρ0 => ?_
  dsimp only [argT,argH]
  repeat' first|(apply n3;exact a_nilO (eNd B) rfl;exact rfl)|(apply n3;(first|exact a_litE (eNd B) [_] rfl rfl rfl rfl rfl rfl rfl rfl|exact a_appN (fP rfl) rfl rfl rfl nowR (by first|omega|(simp;omega)) (by decide) (by exact rfl));exact rfl;refine dA ?_)|(apply p3;(first|exact pu1|exact puL|exact a_ldsE (E := eR) 0 rfl rfl rfl (fA rfl) rfl rfl (Nat.le_of_ble_eq_true rfl) (Nat.le_of_ble_eq_true rfl) bnd rfl (by repeat (first|exact trivial|exact rfl|refine And.intro ?_ ?_)) rfl|exact puN|exact a_len_str rfl (fT rfl)|exact puC|exact a_ldE (E := eR) 0 rfl rfl rfl (fC rfl) rfl rfl (Nat.le_of_ble_eq_true rfl) bnd rfl (by first|exact trivial|exact rfl)|exact a_ldE (E := eR) 1 rfl rfl rfl (fC rfl) rfl rfl (Nat.le_of_ble_eq_true rfl) bnd rfl (by first|exact trivial|exact rfl)|exact a_ldE (E := eR) 2 rfl rfl rfl (fC rfl) rfl rfl (Nat.le_of_ble_eq_true rfl) bnd rfl (by first|exact trivial|exact rfl)|exact a_sub rfl rfl (by omega) (by omega)|exact a_add rfl rfl (by omega) (by omega)|exact puI);exact rfl)|refine cd ?_|(apply s3;exact a_appE (fP rfl) rfl rfl rfl rfl nowR (by first|omega|(simp;omega)) (by decide) (by decide) (by exact rfl);exact rfl;exact rfl)|(apply c4 1;exact callK1 (θ := []) (hD := (childrenY_ok _ _ preB97 preB97));exact rfl;exact rfl;exact rfl;refine dM ?_)|(apply c4 1;exact callK1 (θ := []) (hD := (childrenN_ok _ _ preB97 preB97));exact rfl;exact rfl;exact rfl;refine dM ?_)|(apply c4 0;exact callK1 (θ := []) (hD := (sizeR_ok _ preB97));exact rfl;exact rfl;exact rfl;refine dM ?_)|(apply c4 0;exact callK1 (θ := []) (hD := (within_ok _ _ _));exact rfl;exact rfl;exact rfl;refine dM ?_)|(apply g_drN (id := 1) okM [[],[],[1],[1,2],[1,2,3],[],[5],[5,6],[5,6,7],[1,2,3,4,5,6,7,8],[0,1,2,3,4,5,6,7,8,9],[],[0,1,2,3,4,5,6,7,8,9,10,11]] [([],[]),([],[]),([],[]),([],[]),([],[]),([],[]),([],[]),([],[]),([],[]),([],[]),([],[0,1]),([0],[]),([],[3])] 1;(focus (refine dp 0 0 [12,13,14,15,16,17,18,19,20,6] [(true,0)] pu1 ?_;refine dp 1 0 [11,16,17,18,19,6] [(true,0)] pu1 ?_;refine dp 2 1 [11,16,17,18,19,6] [(true,0)] (a_pure (sv := .one _) rfl) ?_;refine dp 3 3 [11,16,17,18,19,6] [(true,0)] (a_pure (sv := .one _) rfl) ?_;refine dp 4 7 [11,16,17,18,19,6] [(true,0)] (by first|exact a_ldE (E := eR) 0 rfl rfl rfl (fC rfl) rfl rfl (Nat.le_of_ble_eq_true rfl) bnd rfl (by first|exact trivial|exact rfl)|exact a_ldE (E := eR) 1 rfl rfl rfl (fC rfl) rfl rfl (Nat.le_of_ble_eq_true rfl) bnd rfl (by first|exact trivial|exact rfl)|exact a_ldE (E := eR) 2 rfl rfl rfl (fC rfl) rfl rfl (Nat.le_of_ble_eq_true rfl) bnd rfl (by first|exact trivial|exact rfl)|exact puL) ?_;refine dp 5 0 [11,12,13,14,15,6] [(true,0)] pu1 ?_;refine dp 6 1 [11,12,13,14,15,6] [(true,0)] (a_pure (sv := .one _) rfl) ?_;refine dp 7 3 [11,12,13,14,15,6] [(true,0)] (a_pure (sv := .one _) rfl) ?_;refine dp 8 7 [11,12,13,14,15,6] [(true,0)] (by first|exact a_ldE (E := eR) 0 rfl rfl rfl (fC rfl) rfl rfl (Nat.le_of_ble_eq_true rfl) bnd rfl (by first|exact trivial|exact rfl)|exact a_ldE (E := eR) 1 rfl rfl rfl (fC rfl) rfl rfl (Nat.le_of_ble_eq_true rfl) bnd rfl (by first|exact trivial|exact rfl)|exact a_ldE (E := eR) 2 rfl rfl rfl (fC rfl) rfl rfl (Nat.le_of_ble_eq_true rfl) bnd rfl (by first|exact trivial|exact rfl)|exact puL) ?_;refine dp 9 255 [11,6] [(true,0)] (callFD 0 (hD := (emptyRoot_ok _ _ preB97 preB97 preB97 preB97))) ?_;refine duN 10 1023 [6] [(true,0)] (callD0 (n := _) 0 (θ := [0,1]) (hD := (look_ok st sy B (root sy st) hr preB97 preB97))) (by exact rfl) (by exact rfl) ?_;refine duE 11 0 [11,12,13,14,15,16,17,18,19,20,21] [(false,0),(false,1)] (atN 0 (fun _ => a_new (gb := .bx _) rfl)) (by exact rfl) (by exact rfl) ?_;refine duE 12 4095 [] [] (by first|exact a_st_bx rfl rfl rfl rfl (fN rfl rfl) (Nat.le_of_ble_eq_true rfl) rfl|exact a_stF (E := eR) ⟨_,_,_⟩ rfl rfl rfl rfl (fN rfl rfl) (Nat.le_of_ble_eq_true rfl) (Nat.le_of_ble_eq_true rfl) (by first|exact List.getElem?_set_self bnd|exact List.getElem?_eq_getElem bnd) (by (try dsimp only [setRow,List.set_cons_succ,List.set_cons_zero]);first|done|exact rfl) rfl|exact a_stE (E := (eNd B)) _ rfl rfl rfl rfl (fN rfl rfl) bnd (by exact rfl)) (by exact rfl) (by exact rfl) ?_;(refine d_nil ?_;refine dN ?_)));any_goals kernel_rfl)|(apply g_drN (id := 9) okM [[],[],[1],[],[3],[],[],[5,6],[5,6,7],[1,2,3,4,5,6,7,8],[0,1,2,3,4,5,6,7,8,9],[0,1,2,3,4,5,6,7,8,9,10]] [([],[]),([],[]),([],[]),([],[]),([],[]),([],[]),([],[]),([],[]),([],[]),([],[]),([],[_,_]),([],[2])] 0;(focus (refine dp 0 0 [39,40,41,42,43,44,45,46,47] [] pu1 ?_;refine dp 1 0 [38,41,42,43,44,45,46] [] (a_pure (sv := .one _) rfl) ?_;refine dp 2 1 [38,41,42,43,44,45,46] [] (by first|exact a_ldsE (E := eR) 0 rfl rfl rfl (fA rfl) rfl rfl (Nat.le_of_ble_eq_true rfl) (Nat.le_of_ble_eq_true rfl) bnd rfl (by repeat (first|exact trivial|exact rfl|refine And.intro ?_ ?_)) rfl|exact puL) ?_;refine dp 3 0 [38,39,40,43,44,45,46] [] (a_pure (sv := .one _) rfl) ?_;refine dp 4 1 [38,39,40,43,44,45,46] [] (by first|exact a_ldE (E := eR) 0 rfl rfl rfl (fC rfl) rfl rfl (Nat.le_of_ble_eq_true rfl) bnd rfl (by first|exact trivial|exact rfl)|exact a_ldE (E := eR) 1 rfl rfl rfl (fC rfl) rfl rfl (Nat.le_of_ble_eq_true rfl) bnd rfl (by first|exact trivial|exact rfl)|exact a_ldE (E := eR) 2 rfl rfl rfl (fC rfl) rfl rfl (Nat.le_of_ble_eq_true rfl) bnd rfl (by first|exact trivial|exact rfl)|exact puL) ?_;refine dp 5 0 [38,39,40,41,42,44] [] pu1 ?_;refine dp 6 0 [38,39,40,41,42,43] [] pu1 ?_;refine dp 7 3 [38,39,40,41,42] [] puI ?_;refine dp 8 7 [38,39,40,41,42] [] (by first|exact a_ldE (E := eR) 0 rfl rfl rfl (fC rfl) rfl rfl (Nat.le_of_ble_eq_true rfl) bnd rfl (by first|exact trivial|exact rfl)|exact a_ldsE (E := eR) 0 rfl rfl rfl (fA rfl) rfl rfl (Nat.le_of_ble_eq_true rfl) (Nat.le_of_ble_eq_true rfl) bnd rfl (by repeat (first|exact trivial|exact rfl|refine And.intro ?_ ?_)) rfl|exact puL) ?_;refine dp 9 255 [38] [] (callFD 0 (hD := (childM_ok _ _ _ preB97 preB97 preB97))) ?_;refine duN 10 1023 [] [] (callD0 (n := _) 0 (θ := [0,1]) (hD := (look_ok st sy B (root sy st) hr preB97 preB97))) (by exact rfl) (by exact rfl) ?_;refine duE 11 2047 [] [] (by first|exact a_st_bx rfl rfl rfl rfl (fN rfl rfl) (Nat.le_of_ble_eq_true rfl) rfl|exact a_stF (E := eR) ⟨_,_,_⟩ rfl rfl rfl rfl (fN rfl rfl) (Nat.le_of_ble_eq_true rfl) (Nat.le_of_ble_eq_true rfl) (by first|exact List.getElem?_set_self bnd|exact List.getElem?_eq_getElem bnd) (by (try dsimp only [setRow,List.set_cons_succ,List.set_cons_zero]);first|done|exact rfl) rfl|exact a_stE (E := (eNd B)) _ rfl rfl rfl rfl (fN rfl rfl) bnd (by exact rfl)) (by exact rfl) (by exact rfl) ?_;(refine d_nil ?_;refine dN ?_)));any_goals kernel_rfl)|((first|refine o_gs rfl rfl (fun hc => ?_) (fun hc => ?_)|refine g_cond rfl (fun hc => ?_) (fun hc => ?_)) <;> (try simp only [dcB] at hc) <;> (try first|contradiction|(exfalso;omega)))
  refine g_loop_id ?_
  refine loopK [0,4,5,6,7,24,25] [3,4] (fun y : Int × Mach × List Mach => 0 ≤ y.1 ∧ y.1 ≤ p.length ∧ NdOk sy st y.2.1 ∧ (y.2.2.length : Int) = y.1 ∧ (pthL B y.2.1 (p.drop y.1.toNat)).map (y.2.2 ++ ·) = pthL B (root sy st) p) (fun y => [(26,.one (int y.1))]) (fun y => [(3,.bx (ndC y.2.1 B)),(4,.row 5 (rows (eNd B) (y.2.2 ++ [y.2.1])))]) (fun y => (p.length - y.1).toNat) ((0 : Int),root sy st,([] : List Mach)) [0,1,2,3,4] (hI := ?_) (hr := ?_)
  · exact ⟨by simp,by simp,hr,by simp,by simp⟩
  · rintro ⟨i,m,pre⟩ ⟨k0,k1,k2,k3,k4⟩
    dsimp only [List.cons_append,List.nil_append] at *
    skip
    repeat' first|(apply p3;(first|exact pu1|exact puL|exact puC|exact a_ldE (E := eR) 0 rfl rfl rfl (fC rfl) rfl rfl (Nat.le_of_ble_eq_true rfl) bnd rfl (by first|exact trivial|exact rfl)|exact a_ldE (E := eR) 1 rfl rfl rfl (fC rfl) rfl rfl (Nat.le_of_ble_eq_true rfl) bnd rfl (by first|exact trivial|exact rfl)|exact a_ldE (E := eR) 2 rfl rfl rfl (fC rfl) rfl rfl (Nat.le_of_ble_eq_true rfl) bnd rfl (by first|exact trivial|exact rfl)|exact puI);exact rfl)|refine cdn ?_|refine g_reg (id := 4) ?_|refine g_reg (id := 5) ?_|refine g_reg (id := 12) ?_|((first|refine o_gs rfl rfl (fun hc => ?_) (fun hc => ?_)|refine g_cond rfl (fun hc => ?_) (fun hc => ?_)) <;> (try simp only [dcB] at hc) <;> (try first|contradiction|(exfalso;omega)))
    · have hm := k2.v
      have hlr := chR_len hm
      have ha := ndA_bd (B := B) hm
      have hlm := vMach_len hm
      have hn := pthL_next (B := B) (m := m) k0 (show i.toNat < p.length by omega)
      try dsimp only at k3 k4
      rw [hn] at k4
      generalize hkk : p[i.toNat]'(by omega) = k at *
      have hno : ¬ ndS m B = 0 ∨ k < 0 ∨ ((chR m).length : Int) ≤ k → pthL B (root sy st) p = none := fun h => by rw [← k4,stp_no h]; rfl
      by_cases hs : ndS m B = 0
      · repeat' first|(apply p3;(first|exact pu1|exact puL|exact puC|exact a_ldE (E := eR) 0 rfl rfl rfl (fC rfl) rfl rfl (Nat.le_of_ble_eq_true rfl) bnd rfl (by first|exact trivial|exact rfl)|exact a_ldE (E := eR) 1 rfl rfl rfl (fC rfl) rfl rfl (Nat.le_of_ble_eq_true rfl) bnd rfl (by first|exact trivial|exact rfl)|exact a_ldE (E := eR) 2 rfl rfl rfl (fC rfl) rfl rfl (Nat.le_of_ble_eq_true rfl) bnd rfl (by first|exact trivial|exact rfl)|exact a_ldsE (E := eR) 0 rfl rfl rfl (fA rfl) rfl rfl (Nat.le_of_ble_eq_true rfl) (Nat.le_of_ble_eq_true rfl) bnd rfl (by repeat (first|exact trivial|exact rfl|refine And.intro ?_ ?_)) rfl|exact puI);exact rfl)|refine cdn ?_|refine g_reg (id := 4) ?_|refine g_reg (id := 5) ?_|refine g_reg (id := 6) ?_|refine g_reg (id := 12) ?_|(apply c4 1;exact callK1 (θ := []) (hD := (childrenY_ok _ _ preB97 preB97));exact rfl;exact rfl;exact rfl;refine dM ?_)|(apply c4 1;exact callK1 (θ := []) (hD := (childrenN_ok _ _ preB97 preB97));exact rfl;exact rfl;exact rfl;refine dM ?_)|((first|refine o_gs rfl rfl (fun hc => ?_) (fun hc => ?_)|refine g_cond rfl (fun hc => ?_) (fun hc => ?_)) <;> (try simp only [dcB] at hc) <;> (try first|contradiction|(exfalso;omega)))
        by_cases hk : 0 ≤ k ∧ k < ((chR m).length : Int)
        · have hst := stp_yes (B := B) hs hk.1 (show k.toNat < (chR m).length by omega)
          have h2 := (stp_ok k2 hst).1
          rw [hst] at k4
          repeat' first|(apply n3;exact a_nilO (eNd B) rfl;exact rfl)|(apply n3;(first|exact a_litE (eNd B) [_] rfl rfl rfl rfl rfl rfl rfl rfl|exact a_appN (fP rfl) rfl rfl rfl nowR (by first|omega|(simp;omega)) (by decide) (by exact rfl));exact rfl;refine dA ?_)|(apply p3;(first|exact pu1|exact puL|exact puC|exact a_ldE (E := eR) 0 rfl rfl rfl (fC rfl) rfl rfl (Nat.le_of_ble_eq_true rfl) bnd rfl (by first|exact trivial|exact rfl)|exact a_ldE (E := eR) 1 rfl rfl rfl (fC rfl) rfl rfl (Nat.le_of_ble_eq_true rfl) bnd rfl (by first|exact trivial|exact rfl)|exact a_ldE (E := eR) 2 rfl rfl rfl (fC rfl) rfl rfl (Nat.le_of_ble_eq_true rfl) bnd rfl (by first|exact trivial|exact rfl)|exact a_ldsE (E := eR) 0 rfl rfl rfl (fA rfl) rfl rfl (Nat.le_of_ble_eq_true rfl) (Nat.le_of_ble_eq_true rfl) bnd rfl (by repeat (first|exact trivial|exact rfl|refine And.intro ?_ ?_)) rfl|exact a_sub rfl rfl (by omega) (by omega)|exact a_add rfl rfl (by omega) (by omega)|exact puI);exact rfl)|refine cd ?_|(apply s3;exact a_appE (fP rfl) rfl rfl rfl rfl nowR (by first|omega|(simp;omega)) (by decide) (by decide) (by exact rfl);exact rfl;exact rfl)|(apply c4 1;exact callK1 (θ := []) (hD := (childrenY_ok _ _ preB97 preB97));exact rfl;exact rfl;exact rfl;refine dM ?_)|(apply c4 1;exact callK1 (θ := []) (hD := (childrenN_ok _ _ preB97 preB97));exact rfl;exact rfl;exact rfl;refine dM ?_)|(apply c4 0;exact callK1 (θ := []) (hD := (sizeR_ok _ preB97));exact rfl;exact rfl;exact rfl;refine dM ?_)|(apply c4 0;exact callK1 (θ := []) (hD := (within_ok _ _ _));exact rfl;exact rfl;exact rfl;refine dM ?_)|(apply g_drN (id := 9) okM [[],[],[1],[],[3],[],[],[5,6],[5,6,7],[1,2,3,4,5,6,7,8],[0,1,2,3,4,5,6,7,8,9],[0,1,2,3,4,5,6,7,8,9,10]] [([],[]),([],[]),([],[]),([],[]),([],[]),([],[]),([],[]),([],[]),([],[]),([],[]),([],[0,1]),([],[3])] 0;(focus (refine dp 0 0 [39,40,41,42,43,44,45,46,47] [] pu1 ?_;refine dp 1 0 [38,41,42,43,44,45,46] [] (a_pure (sv := .one _) rfl) ?_;refine dp 2 1 [38,41,42,43,44,45,46] [] (by first|exact a_ldsE (E := eR) 0 rfl rfl rfl (fA rfl) rfl rfl (Nat.le_of_ble_eq_true rfl) (Nat.le_of_ble_eq_true rfl) bnd rfl (by repeat (first|exact trivial|exact rfl|refine And.intro ?_ ?_)) rfl|exact puL) ?_;refine dp 3 0 [38,39,40,43,44,45,46] [] (a_pure (sv := .one _) rfl) ?_;refine dp 4 1 [38,39,40,43,44,45,46] [] (by first|exact a_ldE (E := eR) 0 rfl rfl rfl (fC rfl) rfl rfl (Nat.le_of_ble_eq_true rfl) bnd rfl (by first|exact trivial|exact rfl)|exact a_ldE (E := eR) 1 rfl rfl rfl (fC rfl) rfl rfl (Nat.le_of_ble_eq_true rfl) bnd rfl (by first|exact trivial|exact rfl)|exact a_ldE (E := eR) 2 rfl rfl rfl (fC rfl) rfl rfl (Nat.le_of_ble_eq_true rfl) bnd rfl (by first|exact trivial|exact rfl)|exact puL) ?_;refine dp 5 0 [38,39,40,41,42,44] [] pu1 ?_;refine dp 6 0 [38,39,40,41,42,43] [] pu1 ?_;refine dp 7 3 [38,39,40,41,42] [] puI ?_;refine dp 8 7 [38,39,40,41,42] [] (by first|exact a_ldE (E := eR) 0 rfl rfl rfl (fC rfl) rfl rfl (Nat.le_of_ble_eq_true rfl) bnd rfl (by first|exact trivial|exact rfl)|exact a_ldsE (E := eR) 0 rfl rfl rfl (fA rfl) rfl rfl (Nat.le_of_ble_eq_true rfl) (Nat.le_of_ble_eq_true rfl) bnd rfl (by repeat (first|exact trivial|exact rfl|refine And.intro ?_ ?_)) rfl|exact puL) ?_;refine dp 9 255 [38] [] (callFD 0 (hD := (childM_ok _ _ _ preB97 preB97 preB97))) ?_;refine duN 10 1023 [] [] (by first|exact callD0 (n := _) 0 (θ := [0,1]) (hD := (look_ok st sy B (root sy st) hr preB97 preB97))|exact callD0 (n := _) 0 (θ := [0,1]) (hD := (look_ok st sy B _ h2 preB97 preB97))) (by exact rfl) (by exact rfl) ?_;refine duE 11 2047 [] [] (by first|exact a_st_bx rfl rfl rfl rfl (fN rfl rfl) (Nat.le_of_ble_eq_true rfl) rfl|exact a_stF (E := eR) ⟨_,_,_⟩ rfl rfl rfl rfl (fN rfl rfl) (Nat.le_of_ble_eq_true rfl) (Nat.le_of_ble_eq_true rfl) (by first|exact List.getElem?_set_self bnd|exact List.getElem?_eq_getElem bnd) (by (try dsimp only [setRow,List.set_cons_succ,List.set_cons_zero]);first|done|exact rfl) rfl|exact a_stE (E := (eNd B)) _ rfl rfl rfl rfl (fN rfl rfl) bnd (by exact rfl)) (by exact rfl) (by exact rfl) ?_;(refine d_nil ?_;refine dN ?_)));any_goals kernel_rfl)|((first|refine o_gs rfl rfl (fun hc => ?_) (fun hc => ?_)|refine g_cond rfl (fun hc => ?_) (fun hc => ?_)) <;> (try simp only [dcB] at hc) <;> (try first|contradiction|(exfalso;omega)))
          refine q_again (i + 1,chM m (ndA m B) ((chR m)[k.toNat]'(by omega)),pre ++ [m]) [0,1,2,3,7] (by exact stk) ?_ ?_
          · refine ⟨by dsimp only; omega,by dsimp only; omega,h2,by simp; omega,?_⟩
            rw [← k4]
            simp [Option.map_map,Function.comp_def]
          · dsimp only; omega
        · rw [hno (by omega)]
          dsimp only [Option.isSome_none,Option.getD_none]
          repeat' first|(apply n3;exact a_nilO (eNd B) rfl;exact rfl)|(apply n3;(first|exact a_litE (eNd B) [_] rfl rfl rfl rfl rfl rfl rfl rfl|exact a_appN (fP rfl) rfl rfl rfl nowR (by first|omega|(simp;omega)) (by decide) (by exact rfl));exact rfl;refine dA ?_)|(apply p3;(first|exact pu1|exact puL|exact puC|exact a_ldE (E := eR) 0 rfl rfl rfl (fC rfl) rfl rfl (Nat.le_of_ble_eq_true rfl) bnd rfl (by first|exact trivial|exact rfl)|exact a_ldE (E := eR) 1 rfl rfl rfl (fC rfl) rfl rfl (Nat.le_of_ble_eq_true rfl) bnd rfl (by first|exact trivial|exact rfl)|exact a_ldE (E := eR) 2 rfl rfl rfl (fC rfl) rfl rfl (Nat.le_of_ble_eq_true rfl) bnd rfl (by first|exact trivial|exact rfl)|exact a_ldsE (E := eR) 0 rfl rfl rfl (fA rfl) rfl rfl (Nat.le_of_ble_eq_true rfl) (Nat.le_of_ble_eq_true rfl) bnd rfl (by repeat (first|exact trivial|exact rfl|refine And.intro ?_ ?_)) rfl|exact a_sub rfl rfl (by omega) (by omega)|exact a_add rfl rfl (by omega) (by omega)|exact puI);exact rfl)|refine cd ?_|(apply s3;exact a_appE (fP rfl) rfl rfl rfl rfl nowR (by first|omega|(simp;omega)) (by decide) (by decide) (by exact rfl);exact rfl;exact rfl)|(apply c4 1;exact callK1 (θ := []) (hD := (childrenY_ok _ _ preB97 preB97));exact rfl;exact rfl;exact rfl;refine dM ?_)|(apply c4 1;exact callK1 (θ := []) (hD := (childrenN_ok _ _ preB97 preB97));exact rfl;exact rfl;exact rfl;refine dM ?_)|(apply c4 0;exact callK1 (θ := []) (hD := (sizeR_ok _ preB97));exact rfl;exact rfl;exact rfl;refine dM ?_)|(apply c4 0;exact callK1 (θ := []) (hD := (within_ok _ _ _));exact rfl;exact rfl;exact rfl;refine dM ?_)|(apply g_drN (id := 9) okM [[],[],[1],[],[3],[],[],[5,6],[5,6,7],[1,2,3,4,5,6,7,8],[0,1,2,3,4,5,6,7,8,9],[0,1,2,3,4,5,6,7,8,9,10]] [([],[]),([],[]),([],[]),([],[]),([],[]),([],[]),([],[]),([],[]),([],[]),([],[]),([],[0,1]),([],[3])] 0;(focus (refine dp 0 0 [39,40,41,42,43,44,45,46,47] [] pu1 ?_;refine dp 1 0 [38,41,42,43,44,45,46] [] (a_pure (sv := .one _) rfl) ?_;refine dp 2 1 [38,41,42,43,44,45,46] [] (by first|exact a_ldsE (E := eR) 0 rfl rfl rfl (fA rfl) rfl rfl (Nat.le_of_ble_eq_true rfl) (Nat.le_of_ble_eq_true rfl) bnd rfl (by repeat (first|exact trivial|exact rfl|refine And.intro ?_ ?_)) rfl|exact puL) ?_;refine dp 3 0 [38,39,40,43,44,45,46] [] (a_pure (sv := .one _) rfl) ?_;refine dp 4 1 [38,39,40,43,44,45,46] [] (by first|exact a_ldE (E := eR) 0 rfl rfl rfl (fC rfl) rfl rfl (Nat.le_of_ble_eq_true rfl) bnd rfl (by first|exact trivial|exact rfl)|exact a_ldE (E := eR) 1 rfl rfl rfl (fC rfl) rfl rfl (Nat.le_of_ble_eq_true rfl) bnd rfl (by first|exact trivial|exact rfl)|exact a_ldE (E := eR) 2 rfl rfl rfl (fC rfl) rfl rfl (Nat.le_of_ble_eq_true rfl) bnd rfl (by first|exact trivial|exact rfl)|exact puL) ?_;refine dp 5 0 [38,39,40,41,42,44] [] pu1 ?_;refine dp 6 0 [38,39,40,41,42,43] [] pu1 ?_;refine dp 7 3 [38,39,40,41,42] [] puI ?_;refine dp 8 7 [38,39,40,41,42] [] (by first|exact a_ldE (E := eR) 0 rfl rfl rfl (fC rfl) rfl rfl (Nat.le_of_ble_eq_true rfl) bnd rfl (by first|exact trivial|exact rfl)|exact a_ldsE (E := eR) 0 rfl rfl rfl (fA rfl) rfl rfl (Nat.le_of_ble_eq_true rfl) (Nat.le_of_ble_eq_true rfl) bnd rfl (by repeat (first|exact trivial|exact rfl|refine And.intro ?_ ?_)) rfl|exact puL) ?_;refine dp 9 255 [38] [] (callFD 0 (hD := (childM_ok _ _ _ preB97 preB97 preB97))) ?_;refine duN 10 1023 [] [] (by first|exact callD0 (n := _) 0 (θ := [0,1]) (hD := (look_ok st sy B (root sy st) hr preB97 preB97))|exact callD0 (n := _) 0 (θ := [0,1]) (hD := (look_ok st sy B _ h2 preB97 preB97))) (by exact rfl) (by exact rfl) ?_;refine duE 11 2047 [] [] (by first|exact a_st_bx rfl rfl rfl rfl (fN rfl rfl) (Nat.le_of_ble_eq_true rfl) rfl|exact a_stF (E := eR) ⟨_,_,_⟩ rfl rfl rfl rfl (fN rfl rfl) (Nat.le_of_ble_eq_true rfl) (Nat.le_of_ble_eq_true rfl) (by first|exact List.getElem?_set_self bnd|exact List.getElem?_eq_getElem bnd) (by (try dsimp only [setRow,List.set_cons_succ,List.set_cons_zero]);first|done|exact rfl) rfl|exact a_stE (E := (eNd B)) _ rfl rfl rfl rfl (fN rfl rfl) bnd (by exact rfl)) (by exact rfl) (by exact rfl) ?_;(refine d_nil ?_;refine dN ?_)));any_goals kernel_rfl)|((first|refine o_gs rfl rfl (fun hc => ?_) (fun hc => ?_)|refine g_cond rfl (fun hc => ?_) (fun hc => ?_)) <;> (try simp only [dcB] at hc) <;> (try first|contradiction|(exfalso;omega)))
          repeat refine cr ?_
          refine ends_id ?_
          refine endK [?_] (h2 := ?_) (h3 := ?_) (nd := ?_)
          rotate_left 1
          all_goals (repeat' first|exact ce0|refine ce ?_|refine ce2 ?_ ?_|(refine Or.inr (bx_eq rfl rfl ?_);(try dsimp only [C.ren,C.ren.all]);(try exact rfl))|exact SVLe.refl|refine ceb ?_)
          all_goals first | exact (show nodupB _ = true from rfl) | exact Or.inr rfl | (rfl)
      · rw [hno (.inl hs)]
        dsimp only [Option.isSome_none,Option.getD_none]
        repeat' first|(apply p3;(first|exact pu1|exact puL|exact puC|exact a_ldE (E := eR) 0 rfl rfl rfl (fC rfl) rfl rfl (Nat.le_of_ble_eq_true rfl) bnd rfl (by first|exact trivial|exact rfl)|exact a_ldE (E := eR) 1 rfl rfl rfl (fC rfl) rfl rfl (Nat.le_of_ble_eq_true rfl) bnd rfl (by first|exact trivial|exact rfl)|exact a_ldE (E := eR) 2 rfl rfl rfl (fC rfl) rfl rfl (Nat.le_of_ble_eq_true rfl) bnd rfl (by first|exact trivial|exact rfl)|exact a_ldsE (E := eR) 0 rfl rfl rfl (fA rfl) rfl rfl (Nat.le_of_ble_eq_true rfl) (Nat.le_of_ble_eq_true rfl) bnd rfl (by repeat (first|exact trivial|exact rfl|refine And.intro ?_ ?_)) rfl|exact a_sub rfl rfl (by omega) (by omega)|exact puI);exact rfl)|refine cd ?_|(apply c4 1;exact callK1 (θ := []) (hD := (childrenY_ok _ _ preB97 preB97));exact rfl;exact rfl;exact rfl;refine dM ?_)|(apply c4 1;exact callK1 (θ := []) (hD := (childrenN_ok _ _ preB97 preB97));exact rfl;exact rfl;exact rfl;refine dM ?_)|(apply c4 0;exact callK1 (θ := []) (hD := (sizeR_ok _ preB97));exact rfl;exact rfl;exact rfl;refine dM ?_)|(apply c4 0;exact callK1 (θ := []) (hD := (within_ok _ _ _));exact rfl;exact rfl;exact rfl;refine dM ?_)|(refine o_gs rfl rfl (fun hc => ?_) (fun hc => ?_) <;> (try simp only [dcB] at hc) <;> (try first|contradiction|(exfalso;omega)))|(refine g_cond (c := .tmp 27) rfl (fun hc => ?_) (fun hc => ?_) <;> (try simp only [dcB] at hc) <;> (try (first|contradiction|(exfalso;omega))))
        simp only [List.length_nil]
        repeat' first|(apply n3;exact a_nilO (eNd B) rfl;exact rfl)|(apply n3;(first|exact a_litE (eNd B) [_] rfl rfl rfl rfl rfl rfl rfl rfl|exact a_appN (fP rfl) rfl rfl rfl nowR (by first|omega|(simp;omega)) (by decide) (by exact rfl));exact rfl;refine dA ?_)|(apply p3;(first|exact pu1|exact puL|exact puC|exact a_ldE (E := eR) 0 rfl rfl rfl (fC rfl) rfl rfl (Nat.le_of_ble_eq_true rfl) bnd rfl (by first|exact trivial|exact rfl)|exact a_ldE (E := eR) 1 rfl rfl rfl (fC rfl) rfl rfl (Nat.le_of_ble_eq_true rfl) bnd rfl (by first|exact trivial|exact rfl)|exact a_ldE (E := eR) 2 rfl rfl rfl (fC rfl) rfl rfl (Nat.le_of_ble_eq_true rfl) bnd rfl (by first|exact trivial|exact rfl)|exact a_ldsE (E := eR) 0 rfl rfl rfl (fA rfl) rfl rfl (Nat.le_of_ble_eq_true rfl) (Nat.le_of_ble_eq_true rfl) bnd rfl (by repeat (first|exact trivial|exact rfl|refine And.intro ?_ ?_)) rfl|exact a_sub rfl rfl (by omega) (by omega)|exact a_add rfl rfl (by omega) (by omega)|exact puI);exact rfl)|refine cd ?_|(apply s3;exact a_appE (fP rfl) rfl rfl rfl rfl nowR (by first|omega|(simp;omega)) (by decide) (by decide) (by exact rfl);exact rfl;exact rfl)|(apply c4 1;exact callK1 (θ := []) (hD := (childrenY_ok _ _ preB97 preB97));exact rfl;exact rfl;exact rfl;refine dM ?_)|(apply c4 1;exact callK1 (θ := []) (hD := (childrenN_ok _ _ preB97 preB97));exact rfl;exact rfl;exact rfl;refine dM ?_)|(apply c4 0;exact callK1 (θ := []) (hD := (sizeR_ok _ preB97));exact rfl;exact rfl;exact rfl;refine dM ?_)|(apply c4 0;exact callK1 (θ := []) (hD := (within_ok _ _ _));exact rfl;exact rfl;exact rfl;refine dM ?_)|(apply g_drN (id := 9) okM [[],[],[1],[],[3],[],[],[5,6],[5,6,7],[1,2,3,4,5,6,7,8],[0,1,2,3,4,5,6,7,8,9],[0,1,2,3,4,5,6,7,8,9,10]] [([],[]),([],[]),([],[]),([],[]),([],[]),([],[]),([],[]),([],[]),([],[]),([],[]),([],[0,1]),([],[3])] 0;(focus (refine dp 0 0 [39,40,41,42,43,44,45,46,47] [] pu1 ?_;refine dp 1 0 [38,41,42,43,44,45,46] [] (a_pure (sv := .one _) rfl) ?_;refine dp 2 1 [38,41,42,43,44,45,46] [] (by first|exact a_ldsE (E := eR) 0 rfl rfl rfl (fA rfl) rfl rfl (Nat.le_of_ble_eq_true rfl) (Nat.le_of_ble_eq_true rfl) bnd rfl (by repeat (first|exact trivial|exact rfl|refine And.intro ?_ ?_)) rfl|exact puL) ?_;refine dp 3 0 [38,39,40,43,44,45,46] [] (a_pure (sv := .one _) rfl) ?_;refine dp 4 1 [38,39,40,43,44,45,46] [] (by first|exact a_ldE (E := eR) 0 rfl rfl rfl (fC rfl) rfl rfl (Nat.le_of_ble_eq_true rfl) bnd rfl (by first|exact trivial|exact rfl)|exact a_ldE (E := eR) 1 rfl rfl rfl (fC rfl) rfl rfl (Nat.le_of_ble_eq_true rfl) bnd rfl (by first|exact trivial|exact rfl)|exact a_ldE (E := eR) 2 rfl rfl rfl (fC rfl) rfl rfl (Nat.le_of_ble_eq_true rfl) bnd rfl (by first|exact trivial|exact rfl)|exact puL) ?_;refine dp 5 0 [38,39,40,41,42,44] [] pu1 ?_;refine dp 6 0 [38,39,40,41,42,43] [] pu1 ?_;refine dp 7 3 [38,39,40,41,42] [] puI ?_;refine dp 8 7 [38,39,40,41,42] [] (by first|exact a_ldE (E := eR) 0 rfl rfl rfl (fC rfl) rfl rfl (Nat.le_of_ble_eq_true rfl) bnd rfl (by first|exact trivial|exact rfl)|exact a_ldsE (E := eR) 0 rfl rfl rfl (fA rfl) rfl rfl (Nat.le_of_ble_eq_true rfl) (Nat.le_of_ble_eq_true rfl) bnd rfl (by repeat (first|exact trivial|exact rfl|refine And.intro ?_ ?_)) rfl|exact puL) ?_;refine dp 9 255 [38] [] (callFD 0 (hD := (childM_ok _ _ _ preB97 preB97 preB97))) ?_;refine duN 10 1023 [] [] (by first|exact callD0 (n := _) 0 (θ := [0,1]) (hD := (look_ok st sy B (root sy st) hr preB97 preB97))|exact callD0 (n := _) 0 (θ := [0,1]) (hD := (look_ok st sy B _ h2 preB97 preB97))) (by exact rfl) (by exact rfl) ?_;refine duE 11 2047 [] [] (by first|exact a_st_bx rfl rfl rfl rfl (fN rfl rfl) (Nat.le_of_ble_eq_true rfl) rfl|exact a_stF (E := eR) ⟨_,_,_⟩ rfl rfl rfl rfl (fN rfl rfl) (Nat.le_of_ble_eq_true rfl) (Nat.le_of_ble_eq_true rfl) (by first|exact List.getElem?_set_self bnd|exact List.getElem?_eq_getElem bnd) (by (try dsimp only [setRow,List.set_cons_succ,List.set_cons_zero]);first|done|exact rfl) rfl|exact a_stE (E := (eNd B)) _ rfl rfl rfl rfl (fN rfl rfl) bnd (by exact rfl)) (by exact rfl) (by exact rfl) ?_;(refine d_nil ?_;refine dN ?_)));any_goals kernel_rfl)|((first|refine o_gs rfl rfl (fun hc => ?_) (fun hc => ?_)|refine g_cond rfl (fun hc => ?_) (fun hc => ?_)) <;> (try simp only [dcB] at hc) <;> (try first|contradiction|(exfalso;omega)))
        repeat refine cr ?_
        refine ends_id ?_
        refine endK [?_] (h2 := ?_) (h3 := ?_) (nd := ?_)
        rotate_left 1
        all_goals (repeat' first|exact ce0|refine ce ?_|refine ce2 ?_ ?_|(refine Or.inr (bx_eq rfl rfl ?_);(try dsimp only [C.ren,C.ren.all]);(try exact rfl))|exact SVLe.refl|refine ceb ?_)
        all_goals first | exact (show nodupB _ = true from rfl) | exact Or.inr rfl | (rfl)
    · have e : pthL B (root sy st) p = some (pre ++ [m]) := by
        rw [← k4,List.drop_of_length_le (by omega)]
        rfl
      rw [e]
      repeat' first|(apply n3;exact a_nilO (eNd B) rfl;exact rfl)|(apply n3;(first|exact a_litE (eNd B) [_] rfl rfl rfl rfl rfl rfl rfl rfl|exact a_appN (fP rfl) rfl rfl rfl nowR (by first|omega|(simp;omega)) (by decide) (by exact rfl));exact rfl;refine dA ?_)|(apply p3;(first|exact pu1|exact puL|exact puC|exact a_ldE (E := eR) 0 rfl rfl rfl (fC rfl) rfl rfl (Nat.le_of_ble_eq_true rfl) bnd rfl (by first|exact trivial|exact rfl)|exact a_ldE (E := eR) 1 rfl rfl rfl (fC rfl) rfl rfl (Nat.le_of_ble_eq_true rfl) bnd rfl (by first|exact trivial|exact rfl)|exact a_ldE (E := eR) 2 rfl rfl rfl (fC rfl) rfl rfl (Nat.le_of_ble_eq_true rfl) bnd rfl (by first|exact trivial|exact rfl)|exact a_ldsE (E := eR) 0 rfl rfl rfl (fA rfl) rfl rfl (Nat.le_of_ble_eq_true rfl) (Nat.le_of_ble_eq_true rfl) bnd rfl (by repeat (first|exact trivial|exact rfl|refine And.intro ?_ ?_)) rfl|exact a_sub rfl rfl (by omega) (by omega)|exact a_add rfl rfl (by omega) (by omega)|exact puI);exact rfl)|refine cd ?_|(apply s3;exact a_appE (fP rfl) rfl rfl rfl rfl nowR (by first|omega|(simp;omega)) (by decide) (by decide) (by exact rfl);exact rfl;exact rfl)|(apply c4 1;exact callK1 (θ := []) (hD := (childrenY_ok _ _ preB97 preB97));exact rfl;exact rfl;exact rfl;refine dM ?_)|(apply c4 1;exact callK1 (θ := []) (hD := (childrenN_ok _ _ preB97 preB97));exact rfl;exact rfl;exact rfl;refine dM ?_)|(apply c4 0;exact callK1 (θ := []) (hD := (sizeR_ok _ preB97));exact rfl;exact rfl;exact rfl;refine dM ?_)|(apply c4 0;exact callK1 (θ := []) (hD := (within_ok _ _ _));exact rfl;exact rfl;exact rfl;refine dM ?_)|(apply g_drN (id := 9) okM [[],[],[1],[],[3],[],[],[5,6],[5,6,7],[1,2,3,4,5,6,7,8],[0,1,2,3,4,5,6,7,8,9],[0,1,2,3,4,5,6,7,8,9,10]] [([],[]),([],[]),([],[]),([],[]),([],[]),([],[]),([],[]),([],[]),([],[]),([],[]),([],[0,1]),([],[3])] 0;(focus (refine dp 0 0 [39,40,41,42,43,44,45,46,47] [] pu1 ?_;refine dp 1 0 [38,41,42,43,44,45,46] [] (a_pure (sv := .one _) rfl) ?_;refine dp 2 1 [38,41,42,43,44,45,46] [] (by first|exact a_ldsE (E := eR) 0 rfl rfl rfl (fA rfl) rfl rfl (Nat.le_of_ble_eq_true rfl) (Nat.le_of_ble_eq_true rfl) bnd rfl (by repeat (first|exact trivial|exact rfl|refine And.intro ?_ ?_)) rfl|exact puL) ?_;refine dp 3 0 [38,39,40,43,44,45,46] [] (a_pure (sv := .one _) rfl) ?_;refine dp 4 1 [38,39,40,43,44,45,46] [] (by first|exact a_ldE (E := eR) 0 rfl rfl rfl (fC rfl) rfl rfl (Nat.le_of_ble_eq_true rfl) bnd rfl (by first|exact trivial|exact rfl)|exact a_ldE (E := eR) 1 rfl rfl rfl (fC rfl) rfl rfl (Nat.le_of_ble_eq_true rfl) bnd rfl (by first|exact trivial|exact rfl)|exact a_ldE (E := eR) 2 rfl rfl rfl (fC rfl) rfl rfl (Nat.le_of_ble_eq_true rfl) bnd rfl (by first|exact trivial|exact rfl)|exact puL) ?_;refine dp 5 0 [38,39,40,41,42,44] [] pu1 ?_;refine dp 6 0 [38,39,40,41,42,43] [] pu1 ?_;refine dp 7 3 [38,39,40,41,42] [] puI ?_;refine dp 8 7 [38,39,40,41,42] [] (by first|exact a_ldE (E := eR) 0 rfl rfl rfl (fC rfl) rfl rfl (Nat.le_of_ble_eq_true rfl) bnd rfl (by first|exact trivial|exact rfl)|exact a_ldsE (E := eR) 0 rfl rfl rfl (fA rfl) rfl rfl (Nat.le_of_ble_eq_true rfl) (Nat.le_of_ble_eq_true rfl) bnd rfl (by repeat (first|exact trivial|exact rfl|refine And.intro ?_ ?_)) rfl|exact puL) ?_;refine dp 9 255 [38] [] (callFD 0 (hD := (childM_ok _ _ _ preB97 preB97 preB97))) ?_;refine duN 10 1023 [] [] (by first|exact callD0 (n := _) 0 (θ := [0,1]) (hD := (look_ok st sy B (root sy st) hr preB97 preB97))|exact callD0 (n := _) 0 (θ := [0,1]) (hD := (look_ok st sy B _ h2 preB97 preB97))) (by exact rfl) (by exact rfl) ?_;refine duE 11 2047 [] [] (by first|exact a_st_bx rfl rfl rfl rfl (fN rfl rfl) (Nat.le_of_ble_eq_true rfl) rfl|exact a_stF (E := eR) ⟨_,_,_⟩ rfl rfl rfl rfl (fN rfl rfl) (Nat.le_of_ble_eq_true rfl) (Nat.le_of_ble_eq_true rfl) (by first|exact List.getElem?_set_self bnd|exact List.getElem?_eq_getElem bnd) (by (try dsimp only [setRow,List.set_cons_succ,List.set_cons_zero]);first|done|exact rfl) rfl|exact a_stE (E := (eNd B)) _ rfl rfl rfl rfl (fN rfl rfl) bnd (by exact rfl)) (by exact rfl) (by exact rfl) ?_;(refine d_nil ?_;refine dN ?_)));any_goals kernel_rfl)|((first|refine o_gs rfl rfl (fun hc => ?_) (fun hc => ?_)|refine g_cond rfl (fun hc => ?_) (fun hc => ?_)) <;> (try simp only [dcB] at hc) <;> (try first|contradiction|(exfalso;omega)))
      repeat refine cr ?_
      refine ends_id ?_
      refine endK [?_] (h2 := ?_) (h3 := ?_) (nd := ?_)
      rotate_left 1
      all_goals (repeat' first|exact ce0|refine ce ?_|refine ce2 ?_ ?_|(refine Or.inr (bx_eq rfl rfl ?_);(try dsimp only [C.ren,C.ren.all]);(try exact rfl))|exact SVLe.refl|refine ceb ?_)
      all_goals first | exact (show nodupB _ = true from rfl) | exact Or.inr rfl | (rfl)
end Go.Proofs.YtcmdfohamphndaaGreatDoor
end
section
set_option linter.unusedVariables false
set_option linter.unusedSimpArgs false
set_option maxRecDepth 100000
set_option maxHeartbeats 4000000
namespace Go.Proofs.YtcmdfohamphndaaGreatDoor
open Go Foot
theorem pthL_some {B : Int} {rt m0 : Mach} {p : List Int} (hv : pth B rt p = some m0) : ∃ L,pthL B rt p = some L ∧ L.length = p.length + 1 ∧ ∀ (i : Nat) (h : i < L.length),pth B rt (p.take i) = some L[i] := by
  have h1 := pthL_pth (B := B) p rt
  rw [hv] at h1
  obtain ⟨L,hL⟩ := Option.isSome_iff_exists.1 (show (pthL B rt p).isSome = true from h1)
  have h2 := pthL_get hL
  exact ⟨L,hL,h2.1,fun i h => by rw [h2.2 i (by omega),List.getElem?_eq_getElem h]⟩
theorem childrenA_ok (m : Mach) (B : Int) (hm : vMach m = true) : Does Tryz.prog 92 [.agg (ndC m B)] [] (.one (.gv 0)) [.row 3 (rows eR (if ndS m B = 0 then chR m else []))] := children_ok m (ndS m B) (ndA m B) hm
end Go.Proofs.YtcmdfohamphndaaGreatDoor
end
section
set_option linter.unusedVariables false
set_option linter.unusedSimpArgs false
set_option maxRecDepth 100000
set_option maxHeartbeats 4000000
namespace Go.Proofs.YtcmdfohamphndaaGreatDoor
open Go Foot
theorem bndQ {p : Prop} (h : p := by first | omega | (simp only [cnt,rows_len,List.length_cons,List.length_nil,Nat.mul_one,Nat.div_one]; omega)) : p := h
theorem Kept.all : ∀ {ps : List (List Int)} {vs : List Value},vs.length = ps.length → Kept ps vs ps vs
  | [],[],_ => .nil
  | [],_ :: _,h => by simp at h
  | _ :: _,[],h => by simp at h
  | p :: ps,v :: vs,h => .keep (Kept.all (by simpa using h))
abbrev thR (Z : Foot) (ps : List (List Int)) (i : Nat) : GB := .opq (thP Z ps) [i]
theorem preB104 {p : Prop} (h : p := by first | with_reducible assumption | omega | (simp only [List.length_append,List.length_cons,List.length_nil,List.length_set,List.length_replicate,List.length_take,List.length_drop,List.length_tail,List.length_dropLast,List.length_reverse] at *; omega) | exact mem_len (by assumption) (by omega) | (with_reducible refine Int.le_trans (Int.ofNat_le.2 (trimR_len _)) ?_; simp only [List.length_cons,List.length_tail]; omega) | (exact (ruAt_ok (by assumption) (by assumption) (by assumption)).2.1) | (exact (ruAt_ok (by assumption) (by assumption) (by assumption)).2.1) | (have := vMach_bd (by assumption); omega) | (simp only [mC_ch,mC_tu]; omega) | (have := vTag_bd (by assumption); omega) | (have := (‹Gd _ _›).le; omega) | (exact tgHalts_no (by assumption)) | (exact tgHead (by assumption) (by assumption) (by assumption)) | (exact Int.le_trans (tgStep_gd (by assumption) (by assumption) (by assumption) (by assumption)).le (by decide)) | (exact vTag_r (by assumption)) | (with_reducible refine Int.le_trans (Int.ofNat_le.2 (pushL_len _ _)) ?_; simp only [List.length_dropLast]; omega) | exact ls_at (by assumption) (by omega) | exact pt_gd (by assumption) | exact lv_at (by assumption) (by omega) | exact pt_gd (lv_at (by assumption) (by omega)) | exact (ask_ok (by assumption)).1 | exact (ask_ok (by assumption)).2.1 | exact (ask_ok (by assumption)).2.2.1 | exact (ask_ok (by assumption)).2.2.2 | trivial) : p := h
theorem sizeL_ok (xs : List Int) (hx : (xs.length : Int) ≤ 16777216) : Does Tryz.prog 109 [.one (shI xs)] [] (.one (int xs.length)) [] := sizeI_ok xs hx
theorem visitL_ok (st sy B depth : Int) (Z : Foot) (acc : List (List Int)) (q : List Int) (x : Mach) (hq : depth < q.length) (hl : (q.length : Int) ≤ 1048576) : Does Tryz.prog 157 [.one (.gv 7),.agg (ndC x B),.one (.gv 2),.one (.gv 3),.one (.gv 4),.one (.gv 5)] [.bx (foC st sy B 0),foM B sy st 1,.bx [int depth],.bx [.gv 6],.bx [.fn (.func 157) [.gv 2,.gv 3,.gv 4,.gv 5]],.bx [.gv 0],thR Z acc 6,roI q] (.one (boo true)) [.bx (foC st sy B 0),foM B sy st 1,.bx [int depth],.bx [.gv 8],.bx [.fn (.func 157) [.gv 2,.gv 3,.gv 4,.gv 5]],.bx [.gv 0],.dead,.dead,thR Z acc 8] := by
  refine does_of (k := 8) Tryz.func157 rfl Tryz.ntmps157 rfl rfl fun w F0 S0 ρ0 => ?_
  dsimp only [argT,argH]
  repeat' first|(apply n3;(first|exact a_new (gb := .bx _) rfl|exact a_litE eW [_] rfl rfl rfl rfl rfl rfl rfl rfl|exact a_appN (fP rfl) rfl rfl rfl nowR (by first|omega|(simp;omega)) (by decide) (by exact rfl));exact rfl;refine dA ?_)|(apply p3;(first|exact pu1|exact puL|exact a_ldE (E := eR) 0 rfl rfl rfl (fC rfl) rfl rfl (Nat.le_of_ble_eq_true rfl) bnd rfl (by first|exact trivial|exact rfl)|exact a_ldE (E := eR) 1 rfl rfl rfl (fC rfl) rfl rfl (Nat.le_of_ble_eq_true rfl) bnd rfl (by first|exact trivial|exact rfl)|exact a_ldE (E := eR) 2 rfl rfl rfl (fC rfl) rfl rfl (Nat.le_of_ble_eq_true rfl) bnd rfl (by first|exact trivial|exact rfl)|exact puN|exact a_len_str rfl (fT rfl)|exact puC|exact a_eqS rfl rfl rfl|exact a_ldsE (E := eR) 0 rfl rfl rfl (fA rfl) rfl rfl (Nat.le_of_ble_eq_true rfl) (Nat.le_of_ble_eq_true rfl) bnd rfl (by repeat (first|exact trivial|exact rfl|refine And.intro ?_ ?_)) rfl|exact a_add rfl rfl (by omega) (by omega)|exact puI);exact rfl)|refine cd ?_|(apply s3;exact a_appE (fP rfl) rfl rfl rfl rfl nowR (by first|omega|(simp;omega)) (by decide) (by decide) (by exact rfl);exact rfl;exact rfl)|(apply w3;(first|exact a_st_bx rfl rfl rfl rfl (fN rfl rfl) (Nat.le_of_ble_eq_true rfl) rfl|exact a_stF (E := eR) ⟨_,_,_⟩ rfl rfl rfl rfl (fN rfl rfl) (Nat.le_of_ble_eq_true rfl) (Nat.le_of_ble_eq_true rfl) (by first|exact List.getElem?_set_self bnd|exact List.getElem?_eq_getElem bnd) (by (try dsimp only [setRow,List.set_cons_succ,List.set_cons_zero]);first|done|exact rfl) rfl|exact a_stE (E := eR) ⟨_,_,_⟩ rfl rfl rfl rfl (fN rfl rfl) bnd (by exact rfl));exact rfl;refine dS ?_)|(apply c4 1;exact callK1 (θ := []) (hD := (childrenA_ok _ _ preB104));exact rfl;exact rfl;exact rfl;refine dM ?_)|(apply g_drN (id := 1) okM [[],[0],[],[0,1,2]] [([],[]),([],[]),([],[]),([],[])] 0;(focus (refine dp 0 0 [13] [] pu1 ?_;refine dp 1 1 [13] [] (by first|exact callD1 (n := _) 0 (θ := []) (hD := (sizeI_ok _ preB104))|exact callD1 (n := _) 0 (θ := []) (hD := (sizeL_ok _ preB104))) ?_;refine dp 2 0 [11,12] [] (by first|exact a_ldE (E := eR) 0 rfl rfl rfl (fC rfl) rfl rfl (Nat.le_of_ble_eq_true rfl) bnd rfl (by first|exact trivial|exact rfl)|exact a_ldE (E := eR) 1 rfl rfl rfl (fC rfl) rfl rfl (Nat.le_of_ble_eq_true rfl) bnd rfl (by first|exact trivial|exact rfl)|exact a_ldE (E := eR) 2 rfl rfl rfl (fC rfl) rfl rfl (Nat.le_of_ble_eq_true rfl) bnd rfl (by first|exact trivial|exact rfl)|exact puL) ?_;refine dp 3 7 [] [] puC ?_;(refine d_nil ?_;refine dN ?_)));any_goals kernel_rfl)|(apply g_drN (id := 6) okM [[],[0],[],[0,1,2]] [([],[]),([],[]),([],[]),([],[])] 0;(focus (refine dp 0 0 [24] [] pu1 ?_;refine dp 1 1 [24] [] (by first|exact callD1 (n := _) 0 (θ := []) (hD := (sizeI_ok _ preB104))|exact callD1 (n := _) 0 (θ := []) (hD := (sizeL_ok _ preB104))) ?_;refine dp 2 0 [22,23] [] (by first|exact a_ldE (E := eR) 0 rfl rfl rfl (fC rfl) rfl rfl (Nat.le_of_ble_eq_true rfl) bnd rfl (by first|exact trivial|exact rfl)|exact a_ldE (E := eR) 1 rfl rfl rfl (fC rfl) rfl rfl (Nat.le_of_ble_eq_true rfl) bnd rfl (by first|exact trivial|exact rfl)|exact a_ldE (E := eR) 2 rfl rfl rfl (fC rfl) rfl rfl (Nat.le_of_ble_eq_true rfl) bnd rfl (by first|exact trivial|exact rfl)|exact puL) ?_;refine dp 3 7 [] [] (by first|exact puC|exact a_eqS rfl rfl rfl) ?_;(refine d_nil ?_;refine dN ?_)));any_goals kernel_rfl)|((first|refine o_gs rfl rfl (fun hc => ?_) (fun hc => ?_)|refine g_cond rfl (fun hc => ?_) (fun hc => ?_)) <;> (try simp only [dcB] at hc) <;> (try first|contradiction|(exfalso;omega)))
  repeat refine cr ?_
  refine ends_id ?_
  refine endK [?_] (h2 := ?_) (h3 := ?_) (nd := ?_)
  rotate_left 1
  all_goals (repeat' first|exact ce0|refine ce ?_|refine ce2 ?_ ?_|(refine Or.inr (bx_eq rfl rfl ?_);(try dsimp only [C.ren,C.ren.all]);(try exact rfl))|exact SVLe.refl|refine ceb ?_)
  all_goals first | exact (show nodupB _ = true from rfl) | exact Or.inr rfl | (rfl)
def VisD (st sy B depth : Int) (Z : Foot) (f : Nat) : Prop := ∀ (q : List Int) (x : Mach) (acc : List (List Int)),NdOk sy st x → (q.length : Int) + f = depth → (acc.length : Int) ≤ 400 →
  Does Tryz.prog 157 [.one (.gv 7),.agg (ndC x B),.one (.gv 2),.one (.gv 3),.one (.gv 4),.one (.gv 5)] [.bx (foC st sy B 0),foM B sy st 1,.bx [int depth],.bx [.gv 6],.bx [.fn (.func 157) [.gv 2,.gv 3,.gv 4,.gv 5]],.bx [.gv 0],thR Z acc 6,roI q]
    (.one (boo (decide (((acc ++ tre B f q x).length : Int) ≤ 400)))) [.bx (foC st sy B 0),foM B sy st 1,.bx [int depth],.bx [.gv 8],.bx [.fn (.func 157) [.gv 2,.gv 3,.gv 4,.gv 5]],.bx [.gv 0],.dead,.dead,thR Z ((acc ++ tre B f q x).take 400) 8]
theorem take_more {l m : List (List Int)} (h : 400 ≤ l.length) : (l ++ m).take 400 = l.take 400 := by rw [List.take_append_of_le_length h]
theorem trs_split (B : Int) (f : Nat) (q : List Int) (x : Mach) : ∀ {n k : Nat},k ≤ n → ∃ r,trs B f q x n = trs B f q x k ++ r
  | 0,k,h => ⟨[],by rw [show k = 0 by omega]; rfl⟩
  | n + 1,k,h => by
    by_cases hk : k = n + 1
    · exact ⟨[],by rw [hk]; simp⟩
    · obtain ⟨r,hr⟩ := trs_split B f q x (n := n) (k := k) (by omega)
      exact ⟨r ++ tre B f (q ++ [((n : Nat) : Int)]) (chM x (ndA x B) ((chR x).getD n noR)),by rw [trs_next,hr,List.append_assoc]⟩
theorem visit_ok (st sy B depth : Int) (Z : Foot) (f : Nat) (q : List Int) (x : Mach) (acc : List (List Int)) (h5 : 0 ≤ B) (h6 : B ≤ 1000000) (hd : depth ≤ 36) (hx : NdOk sy st x) (hq : (q.length : Int) + f = depth) (ha : (acc.length : Int) ≤ 400) (ih : ∀ g,f = g + 1 → VisD st sy B depth Z g) : Does Tryz.prog 157 [.one (.gv 7),.agg (ndC x B),.one (.gv 2),.one (.gv 3),.one (.gv 4),.one (.gv 5)] [.bx (foC st sy B 0),foM B sy st 1,.bx [int depth],.bx [.gv 6],.bx [.fn (.func 157) [.gv 2,.gv 3,.gv 4,.gv 5]],.bx [.gv 0],thR Z acc 6,roI q] (.one (boo (decide (((acc ++ tre B f q x).length : Int) ≤ 400)))) [.bx (foC st sy B 0),foM B sy st 1,.bx [int depth],.bx [.gv 8],.bx [.fn (.func 157) [.gv 2,.gv 3,.gv 4,.gv 5]],.bx [.gv 0],.dead,.dead,thR Z ((acc ++ tre B f q x).take 400) 8] := by
  obtain ⟨tl,htl⟩ := tre_head B f q x
  have hv := hx.v
  have hlx := vMach_len hv
  have hax := ndA_bd (B := B) hv
  refine does_of (k := 8) Tryz.func157 rfl Tryz.ntmps157 rfl rfl fun w F0 S0 ρ0 => ?_
  dsimp only [argT,argH]
  repeat' first|(apply n3;exact a_new (gb := .bx _) rfl;exact rfl;refine dA ?_)|(apply p3;exact a_pure (sv := .one _) rfl;exact rfl)|refine cdn ?_|refine g_reg (id := 0) ?_|refine g_reg (id := 2) ?_|(apply g_drN (id := 1) okM [[],[0],[],[0,1,2]] [([],[]),([],[]),([],[]),([],[])] 0;(focus (refine dp 0 0 [13] [] pu1 ?_;refine dp 1 1 [13] [] (by first|exact callD1 (n := _) 0 (θ := []) (hD := (sizeI_ok _ preB104))|exact callD1 (n := _) 0 (θ := []) (hD := (sizeL_ok _ preB104))) ?_;refine dp 2 0 [11,12] [] (by first|exact a_ldE (E := eR) 0 rfl rfl rfl (fC rfl) rfl rfl (Nat.le_of_ble_eq_true rfl) bnd rfl (by first|exact trivial|exact rfl)|exact a_ldE (E := eR) 1 rfl rfl rfl (fC rfl) rfl rfl (Nat.le_of_ble_eq_true rfl) bnd rfl (by first|exact trivial|exact rfl)|exact a_ldE (E := eR) 2 rfl rfl rfl (fC rfl) rfl rfl (Nat.le_of_ble_eq_true rfl) bnd rfl (by first|exact trivial|exact rfl)|exact puL) ?_;refine dp 3 7 [] [] puC ?_;(refine d_nil ?_;refine dN ?_)));any_goals kernel_rfl)|((first|refine o_gs rfl rfl (fun hc => ?_) (fun hc => ?_)|refine g_cond rfl (fun hc => ?_) (fun hc => ?_)) <;> (try simp only [dcB] at hc) <;> (try first|contradiction|(exfalso;omega)))
  refine g_openT (i := 6) rfl rfl (fun vs hvs => ?_)
  repeat' first|(apply n3;exact a_new (gb := .bx _) rfl;exact rfl;refine dA ?_)|(apply p3;(first|exact a_ldE (E := eR) 0 rfl rfl rfl (fC rfl) rfl rfl (Nat.le_of_ble_eq_true rfl) bnd rfl (by first|exact trivial|exact rfl)|exact a_ldE (E := eR) 1 rfl rfl rfl (fC rfl) rfl rfl (Nat.le_of_ble_eq_true rfl) bnd rfl (by first|exact trivial|exact rfl)|exact a_ldE (E := eR) 2 rfl rfl rfl (fC rfl) rfl rfl (Nat.le_of_ble_eq_true rfl) bnd rfl (by first|exact trivial|exact rfl)|exact puN|exact a_len_str rfl (fT rfl)|exact puC|exact a_eqS rfl rfl rfl|exact puL);exact rfl)|refine cdn ?_|refine g_reg (id := 0) ?_|refine g_reg (id := 2) ?_|refine g_reg (id := 3) ?_|(apply g_drN (id := 1) okM [[],[0],[],[0,1,2]] [([],[]),([],[]),([],[]),([],[])] 0;(focus (refine dp 0 0 [13] [] pu1 ?_;refine dp 1 1 [13] [] (by first|exact callD1 (n := _) 0 (θ := []) (hD := (sizeI_ok _ preB104))|exact callD1 (n := _) 0 (θ := []) (hD := (sizeL_ok _ preB104))) ?_;refine dp 2 0 [11,12] [] (by first|exact a_ldE (E := eR) 0 rfl rfl rfl (fC rfl) rfl rfl (Nat.le_of_ble_eq_true rfl) bnd rfl (by first|exact trivial|exact rfl)|exact a_ldE (E := eR) 1 rfl rfl rfl (fC rfl) rfl rfl (Nat.le_of_ble_eq_true rfl) bnd rfl (by first|exact trivial|exact rfl)|exact a_ldE (E := eR) 2 rfl rfl rfl (fC rfl) rfl rfl (Nat.le_of_ble_eq_true rfl) bnd rfl (by first|exact trivial|exact rfl)|exact puL) ?_;refine dp 3 7 [] [] puC ?_;(refine d_nil ?_;refine dN ?_)));any_goals kernel_rfl)|((first|refine o_gs rfl rfl (fun hc => ?_) (fun hc => ?_)|refine g_cond rfl (fun hc => ?_) (fun hc => ?_)) <;> (try simp only [dcB] at hc) <;> (try first|contradiction|(exfalso;omega)))
  · have hT : (acc ++ tre B f q x).take 400 = acc := by rw [List.take_append_of_le_length (by omega),List.take_of_length_le (by omega)]
    have hF : decide (((acc ++ tre B f q x).length : Int) ≤ 400) = false := by
      rw [decide_eq_false_iff_not,htl]
      simp
      omega
    rw [hT,hF]
    refine g_conv (t_shutT (j := 6) (q := 9) rfl rfl (Kept.all hvs) rfl) ?_
    repeat' first|(apply n3;(first|exact a_new (gb := .bx _) rfl|exact a_litE eW [_] rfl rfl rfl rfl rfl rfl rfl rfl|exact a_appN (fP rfl) rfl rfl rfl nowR (by first|omega|(simp;omega)) (by decide) (by exact rfl));exact rfl;refine dA ?_)|(apply p3;(first|exact pu1|exact puL|exact a_ldE (E := eR) 0 rfl rfl rfl (fC rfl) rfl rfl (Nat.le_of_ble_eq_true rfl) bnd rfl (by first|exact trivial|exact rfl)|exact a_ldE (E := eR) 1 rfl rfl rfl (fC rfl) rfl rfl (Nat.le_of_ble_eq_true rfl) bnd rfl (by first|exact trivial|exact rfl)|exact a_ldE (E := eR) 2 rfl rfl rfl (fC rfl) rfl rfl (Nat.le_of_ble_eq_true rfl) bnd rfl (by first|exact trivial|exact rfl)|exact puN|exact a_len_str rfl (fT rfl)|exact puC|exact a_eqS rfl rfl rfl|exact a_ldsE (E := eR) 0 rfl rfl rfl (fA rfl) rfl rfl (Nat.le_of_ble_eq_true rfl) (Nat.le_of_ble_eq_true rfl) bnd rfl (by repeat (first|exact trivial|exact rfl|refine And.intro ?_ ?_)) rfl|exact a_add rfl rfl (by omega) (by omega)|exact puI);exact rfl)|refine cd ?_|(apply s3;exact a_appE (fP rfl) rfl rfl rfl rfl nowR (by first|omega|(simp;omega)) (by decide) (by decide) (by exact rfl);exact rfl;exact rfl)|(apply w3;(first|exact a_st_bx rfl rfl rfl rfl (fN rfl rfl) (Nat.le_of_ble_eq_true rfl) rfl|exact a_stF (E := eR) ⟨_,_,_⟩ rfl rfl rfl rfl (fN rfl rfl) (Nat.le_of_ble_eq_true rfl) (Nat.le_of_ble_eq_true rfl) (by first|exact List.getElem?_set_self bnd|exact List.getElem?_eq_getElem bnd) (by (try dsimp only [setRow,List.set_cons_succ,List.set_cons_zero]);first|done|exact rfl) rfl|exact a_stE (E := eR) ⟨_,_,_⟩ rfl rfl rfl rfl (fN rfl rfl) bnd (by exact rfl));exact rfl;refine dS ?_)|(apply c4 1;exact callK1 (θ := []) (hD := (childrenA_ok _ _ preB104));exact rfl;exact rfl;exact rfl;refine dM ?_)|(apply g_drN (id := 1) okM [[],[0],[],[0,1,2]] [([],[]),([],[]),([],[]),([],[])] 0;(focus (refine dp 0 0 [13] [] pu1 ?_;refine dp 1 1 [13] [] (by first|exact callD1 (n := _) 0 (θ := []) (hD := (sizeI_ok _ preB104))|exact callD1 (n := _) 0 (θ := []) (hD := (sizeL_ok _ preB104))) ?_;refine dp 2 0 [11,12] [] (by first|exact a_ldE (E := eR) 0 rfl rfl rfl (fC rfl) rfl rfl (Nat.le_of_ble_eq_true rfl) bnd rfl (by first|exact trivial|exact rfl)|exact a_ldE (E := eR) 1 rfl rfl rfl (fC rfl) rfl rfl (Nat.le_of_ble_eq_true rfl) bnd rfl (by first|exact trivial|exact rfl)|exact a_ldE (E := eR) 2 rfl rfl rfl (fC rfl) rfl rfl (Nat.le_of_ble_eq_true rfl) bnd rfl (by first|exact trivial|exact rfl)|exact puL) ?_;refine dp 3 7 [] [] puC ?_;(refine d_nil ?_;refine dN ?_)));any_goals kernel_rfl)|(apply g_drN (id := 6) okM [[],[0],[],[0,1,2]] [([],[]),([],[]),([],[]),([],[])] 0;(focus (refine dp 0 0 [24] [] pu1 ?_;refine dp 1 1 [24] [] (by first|exact callD1 (n := _) 0 (θ := []) (hD := (sizeI_ok _ preB104))|exact callD1 (n := _) 0 (θ := []) (hD := (sizeL_ok _ preB104))) ?_;refine dp 2 0 [22,23] [] (by first|exact a_ldE (E := eR) 0 rfl rfl rfl (fC rfl) rfl rfl (Nat.le_of_ble_eq_true rfl) bnd rfl (by first|exact trivial|exact rfl)|exact a_ldE (E := eR) 1 rfl rfl rfl (fC rfl) rfl rfl (Nat.le_of_ble_eq_true rfl) bnd rfl (by first|exact trivial|exact rfl)|exact a_ldE (E := eR) 2 rfl rfl rfl (fC rfl) rfl rfl (Nat.le_of_ble_eq_true rfl) bnd rfl (by first|exact trivial|exact rfl)|exact puL) ?_;refine dp 3 7 [] [] (by first|exact puC|exact a_eqS rfl rfl rfl) ?_;(refine d_nil ?_;refine dN ?_)));any_goals kernel_rfl)|((first|refine o_gs rfl rfl (fun hc => ?_) (fun hc => ?_)|refine g_cond rfl (fun hc => ?_) (fun hc => ?_)) <;> (try simp only [dcB] at hc) <;> (try first|contradiction|(exfalso;omega)))
    repeat refine cr ?_
    refine ends_id ?_
    refine endK [?_] (h2 := ?_) (h3 := ?_) (nd := ?_)
    rotate_left 1
    all_goals (repeat' first|exact ce0|refine ce ?_|refine ce2 ?_ ?_|(refine Or.inr (bx_eq rfl rfl ?_);(try dsimp only [C.ren,C.ren.all]);(try exact rfl))|exact SVLe.refl|refine ceb ?_)
    all_goals first | exact (show nodupB _ = true from rfl) | exact Or.inr rfl | (rfl)
  · skip
    repeat' first|(apply n3;(first|exact a_new (gb := .bx _) rfl|exact a_litQ (fP rfl) (by decide) rfl (by decide) rfl rfl rfl);exact rfl;refine dA ?_)|(apply p3;(first|exact pu1|exact puL|exact a_ldE (E := eR) 0 rfl rfl rfl (fC rfl) rfl rfl (Nat.le_of_ble_eq_true rfl) bnd rfl (by first|exact trivial|exact rfl)|exact a_ldE (E := eR) 1 rfl rfl rfl (fC rfl) rfl rfl (Nat.le_of_ble_eq_true rfl) bnd rfl (by first|exact trivial|exact rfl)|exact a_ldE (E := eR) 2 rfl rfl rfl (fC rfl) rfl rfl (Nat.le_of_ble_eq_true rfl) bnd rfl (by first|exact trivial|exact rfl)|exact puN|exact a_len_str rfl (fT rfl)|exact puC|exact a_eqS rfl rfl rfl);exact rfl)|refine cdn ?_|refine g_reg (id := 0) ?_|refine g_reg (id := 2) ?_|refine g_reg (id := 3) ?_|refine g_reg (id := 4) ?_|refine g_reg (id := 5) ?_|(apply s3;exact a_appQ (fP rfl) rfl rfl rfl rfl qno bndQ bndQ (by decide);exact rfl;exact rfl)|(apply w3;(first|exact a_st_bx rfl rfl rfl rfl (fN rfl rfl) (Nat.le_of_ble_eq_true rfl) rfl|exact a_stF (E := eR) ⟨_,_,_⟩ rfl rfl rfl rfl (fN rfl rfl) (Nat.le_of_ble_eq_true rfl) (Nat.le_of_ble_eq_true rfl) (by first|exact List.getElem?_set_self bnd|exact List.getElem?_eq_getElem bnd) (by (try dsimp only [setRow,List.set_cons_succ,List.set_cons_zero]);first|done|exact rfl) rfl);exact rfl;refine dS ?_)|(apply g_drN (id := 1) okM [[],[0],[],[0,1,2]] [([],[]),([],[]),([],[]),([],[])] 0;(focus (refine dp 0 0 [13] [] pu1 ?_;refine dp 1 1 [13] [] (by first|exact callD1 (n := _) 0 (θ := []) (hD := (sizeI_ok _ preB104))|exact callD1 (n := _) 0 (θ := []) (hD := (sizeL_ok _ preB104))) ?_;refine dp 2 0 [11,12] [] (by first|exact a_ldE (E := eR) 0 rfl rfl rfl (fC rfl) rfl rfl (Nat.le_of_ble_eq_true rfl) bnd rfl (by first|exact trivial|exact rfl)|exact a_ldE (E := eR) 1 rfl rfl rfl (fC rfl) rfl rfl (Nat.le_of_ble_eq_true rfl) bnd rfl (by first|exact trivial|exact rfl)|exact a_ldE (E := eR) 2 rfl rfl rfl (fC rfl) rfl rfl (Nat.le_of_ble_eq_true rfl) bnd rfl (by first|exact trivial|exact rfl)|exact puL) ?_;refine dp 3 7 [] [] puC ?_;(refine d_nil ?_;refine dN ?_)));any_goals kernel_rfl)|((first|refine o_gs rfl rfl (fun hc => ?_) (fun hc => ?_)|refine g_cond rfl (fun hc => ?_) (fun hc => ?_)) <;> (try simp only [dcB] at hc) <;> (try first|contradiction|(exfalso;omega)))
    refine g_turn (t_appT (j := 11) (q := 9) (r := 7) (p := q) rfl rfl rfl rfl rfl rfl) ?_
    refine g_conv (t_leS 0 (.one (shI q)) (SVLe.one (.sh rfl))) ?_
    have hal : (acc.length : Int) ≤ 399 := by omega
    repeat' first|(apply n3;(first|exact a_new (gb := .bx _) rfl|exact a_litE eW [_] rfl rfl rfl rfl rfl rfl rfl rfl|exact a_appN (fP rfl) rfl rfl rfl nowR (by first|omega|(simp;omega)) (by decide) (by exact rfl));exact rfl;refine dA ?_)|(apply p3;(first|exact pu1|exact puL|exact a_ldE (E := eR) 0 rfl rfl rfl (fC rfl) rfl rfl (Nat.le_of_ble_eq_true rfl) bnd rfl (by first|exact trivial|exact rfl)|exact a_ldE (E := eR) 1 rfl rfl rfl (fC rfl) rfl rfl (Nat.le_of_ble_eq_true rfl) bnd rfl (by first|exact trivial|exact rfl)|exact a_ldE (E := eR) 2 rfl rfl rfl (fC rfl) rfl rfl (Nat.le_of_ble_eq_true rfl) bnd rfl (by first|exact trivial|exact rfl)|exact puN|exact a_len_str rfl (fT rfl)|exact puC|exact a_eqS rfl rfl rfl);exact rfl)|refine cdn ?_|refine g_reg (id := 0) ?_|refine g_reg (id := 2) ?_|refine g_reg (id := 3) ?_|refine g_reg (id := 4) ?_|refine g_reg (id := 5) ?_|(apply s3;exact a_appE (fP rfl) rfl rfl rfl rfl nowR (by first|omega|(simp;omega)) (by decide) (by decide) (by exact rfl);exact rfl;exact rfl)|(apply w3;(first|exact a_st_bx rfl rfl rfl rfl (fN rfl rfl) (Nat.le_of_ble_eq_true rfl) rfl|exact a_stF (E := eR) ⟨_,_,_⟩ rfl rfl rfl rfl (fN rfl rfl) (Nat.le_of_ble_eq_true rfl) (Nat.le_of_ble_eq_true rfl) (by first|exact List.getElem?_set_self bnd|exact List.getElem?_eq_getElem bnd) (by (try dsimp only [setRow,List.set_cons_succ,List.set_cons_zero]);first|done|exact rfl) rfl);exact rfl;refine dS ?_)|(apply g_drN (id := 1) okM [[],[0],[],[0,1,2]] [([],[]),([],[]),([],[]),([],[])] 0;(focus (refine dp 0 0 [13] [] pu1 ?_;refine dp 1 1 [13] [] (by first|exact callD1 (n := _) 0 (θ := []) (hD := (sizeI_ok _ preB104))|exact callD1 (n := _) 0 (θ := []) (hD := (sizeL_ok _ preB104))) ?_;refine dp 2 0 [11,12] [] (by first|exact a_ldE (E := eR) 0 rfl rfl rfl (fC rfl) rfl rfl (Nat.le_of_ble_eq_true rfl) bnd rfl (by first|exact trivial|exact rfl)|exact a_ldE (E := eR) 1 rfl rfl rfl (fC rfl) rfl rfl (Nat.le_of_ble_eq_true rfl) bnd rfl (by first|exact trivial|exact rfl)|exact a_ldE (E := eR) 2 rfl rfl rfl (fC rfl) rfl rfl (Nat.le_of_ble_eq_true rfl) bnd rfl (by first|exact trivial|exact rfl)|exact puL) ?_;refine dp 3 7 [] [] puC ?_;(refine d_nil ?_;refine dN ?_)));any_goals kernel_rfl)|(apply g_drN (id := 6) okM [[],[0],[],[0,1,2]] [([],[]),([],[]),([],[]),([],[])] 0;(focus (refine dp 0 0 [24] [] pu1 ?_;refine dp 1 1 [24] [] (by first|exact callD1 (n := _) 0 (θ := []) (hD := (sizeI_ok _ preB104))|exact callD1 (n := _) 0 (θ := []) (hD := (sizeL_ok _ preB104))) ?_;refine dp 2 0 [22,23] [] (by first|exact a_ldE (E := eR) 0 rfl rfl rfl (fC rfl) rfl rfl (Nat.le_of_ble_eq_true rfl) bnd rfl (by first|exact trivial|exact rfl)|exact a_ldE (E := eR) 1 rfl rfl rfl (fC rfl) rfl rfl (Nat.le_of_ble_eq_true rfl) bnd rfl (by first|exact trivial|exact rfl)|exact a_ldE (E := eR) 2 rfl rfl rfl (fC rfl) rfl rfl (Nat.le_of_ble_eq_true rfl) bnd rfl (by first|exact trivial|exact rfl)|exact puL) ?_;refine dp 3 7 [] [] (by first|exact puC|exact a_eqS rfl rfl rfl) ?_;(refine d_nil ?_;refine dN ?_)));any_goals kernel_rfl)|((first|refine o_gs rfl rfl (fun hc => ?_) (fun hc => ?_)|refine g_cond rfl (fun hc => ?_) (fun hc => ?_)) <;> (try simp only [dcB] at hc) <;> (try first|contradiction|(exfalso;omega)))
    · have hf : f = 0 := by omega
      subst hf
      have hT : (acc ++ tre B 0 q x).take 400 = acc ++ [q] := by rw [tre,List.take_of_length_le (by simp; omega)]
      have hF : decide (((acc ++ tre B 0 q x).length : Int) ≤ 400) = true := by
        rw [decide_eq_true_eq,tre]
        simp
        omega
      rw [hT,hF]
      repeat' first|(apply n3;(first|exact a_new (gb := .bx _) rfl|exact a_litE eW [_] rfl rfl rfl rfl rfl rfl rfl rfl|exact a_appN (fP rfl) rfl rfl rfl nowR (by first|omega|(simp;omega)) (by decide) (by exact rfl));exact rfl;refine dA ?_)|(apply p3;(first|exact pu1|exact puL|exact a_ldE (E := eR) 0 rfl rfl rfl (fC rfl) rfl rfl (Nat.le_of_ble_eq_true rfl) bnd rfl (by first|exact trivial|exact rfl)|exact a_ldE (E := eR) 1 rfl rfl rfl (fC rfl) rfl rfl (Nat.le_of_ble_eq_true rfl) bnd rfl (by first|exact trivial|exact rfl)|exact a_ldE (E := eR) 2 rfl rfl rfl (fC rfl) rfl rfl (Nat.le_of_ble_eq_true rfl) bnd rfl (by first|exact trivial|exact rfl)|exact puN|exact a_len_str rfl (fT rfl)|exact puC|exact a_eqS rfl rfl rfl|exact a_ldsE (E := eR) 0 rfl rfl rfl (fA rfl) rfl rfl (Nat.le_of_ble_eq_true rfl) (Nat.le_of_ble_eq_true rfl) bnd rfl (by repeat (first|exact trivial|exact rfl|refine And.intro ?_ ?_)) rfl|exact a_add rfl rfl (by omega) (by omega)|exact puI);exact rfl)|refine cd ?_|(apply s3;exact a_appE (fP rfl) rfl rfl rfl rfl nowR (by first|omega|(simp;omega)) (by decide) (by decide) (by exact rfl);exact rfl;exact rfl)|(apply w3;(first|exact a_st_bx rfl rfl rfl rfl (fN rfl rfl) (Nat.le_of_ble_eq_true rfl) rfl|exact a_stF (E := eR) ⟨_,_,_⟩ rfl rfl rfl rfl (fN rfl rfl) (Nat.le_of_ble_eq_true rfl) (Nat.le_of_ble_eq_true rfl) (by first|exact List.getElem?_set_self bnd|exact List.getElem?_eq_getElem bnd) (by (try dsimp only [setRow,List.set_cons_succ,List.set_cons_zero]);first|done|exact rfl) rfl|exact a_stE (E := eR) ⟨_,_,_⟩ rfl rfl rfl rfl (fN rfl rfl) bnd (by exact rfl));exact rfl;refine dS ?_)|(apply c4 1;exact callK1 (θ := []) (hD := (childrenA_ok _ _ preB104));exact rfl;exact rfl;exact rfl;refine dM ?_)|(apply g_drN (id := 1) okM [[],[0],[],[0,1,2]] [([],[]),([],[]),([],[]),([],[])] 0;(focus (refine dp 0 0 [13] [] pu1 ?_;refine dp 1 1 [13] [] (by first|exact callD1 (n := _) 0 (θ := []) (hD := (sizeI_ok _ preB104))|exact callD1 (n := _) 0 (θ := []) (hD := (sizeL_ok _ preB104))) ?_;refine dp 2 0 [11,12] [] (by first|exact a_ldE (E := eR) 0 rfl rfl rfl (fC rfl) rfl rfl (Nat.le_of_ble_eq_true rfl) bnd rfl (by first|exact trivial|exact rfl)|exact a_ldE (E := eR) 1 rfl rfl rfl (fC rfl) rfl rfl (Nat.le_of_ble_eq_true rfl) bnd rfl (by first|exact trivial|exact rfl)|exact a_ldE (E := eR) 2 rfl rfl rfl (fC rfl) rfl rfl (Nat.le_of_ble_eq_true rfl) bnd rfl (by first|exact trivial|exact rfl)|exact puL) ?_;refine dp 3 7 [] [] puC ?_;(refine d_nil ?_;refine dN ?_)));any_goals kernel_rfl)|(apply g_drN (id := 6) okM [[],[0],[],[0,1,2]] [([],[]),([],[]),([],[]),([],[])] 0;(focus (refine dp 0 0 [24] [] pu1 ?_;refine dp 1 1 [24] [] (by first|exact callD1 (n := _) 0 (θ := []) (hD := (sizeI_ok _ preB104))|exact callD1 (n := _) 0 (θ := []) (hD := (sizeL_ok _ preB104))) ?_;refine dp 2 0 [22,23] [] (by first|exact a_ldE (E := eR) 0 rfl rfl rfl (fC rfl) rfl rfl (Nat.le_of_ble_eq_true rfl) bnd rfl (by first|exact trivial|exact rfl)|exact a_ldE (E := eR) 1 rfl rfl rfl (fC rfl) rfl rfl (Nat.le_of_ble_eq_true rfl) bnd rfl (by first|exact trivial|exact rfl)|exact a_ldE (E := eR) 2 rfl rfl rfl (fC rfl) rfl rfl (Nat.le_of_ble_eq_true rfl) bnd rfl (by first|exact trivial|exact rfl)|exact puL) ?_;refine dp 3 7 [] [] (by first|exact puC|exact a_eqS rfl rfl rfl) ?_;(refine d_nil ?_;refine dN ?_)));any_goals kernel_rfl)|((first|refine o_gs rfl rfl (fun hc => ?_) (fun hc => ?_)|refine g_cond rfl (fun hc => ?_) (fun hc => ?_)) <;> (try simp only [dcB] at hc) <;> (try first|contradiction|(exfalso;omega)))
      repeat refine cr ?_
      refine ends_id ?_
      refine endK [?_] (h2 := ?_) (h3 := ?_) (nd := ?_)
      rotate_left 1
      all_goals (repeat' first|exact ce0|refine ce ?_|refine ce2 ?_ ?_|(refine Or.inr (bx_eq rfl rfl ?_);(try dsimp only [C.ren,C.ren.all]);(try exact rfl))|exact SVLe.refl|refine ceb ?_)
      all_goals first | exact (show nodupB _ = true from rfl) | exact Or.inr rfl | (rfl)
    · obtain ⟨g,hfg⟩ : ∃ g,f = g + 1 := ⟨f - 1,by omega⟩
      subst hfg
      have ihg := ih g rfl
      have hlr := chR_len hv
      rw [tre_succ]
      by_cases hs0 : ¬ ndS x B = 0
      · rw [if_neg hs0]
        have hT : (acc ++ [q]).take 400 = acc ++ [q] := List.take_of_length_le (by simp; omega)
        have hF : decide (((acc ++ [q]).length : Int) ≤ 400) = true := by
          rw [decide_eq_true_eq]
          simp
          omega
        rw [hT,hF]
        repeat' first|(apply n3;(first|exact a_new (gb := .bx _) rfl|exact a_litE eW [_] rfl rfl rfl rfl rfl rfl rfl rfl|exact a_appN (fP rfl) rfl rfl rfl nowR (by first|omega|(simp;omega)) (by decide) (by exact rfl));exact rfl;refine dA ?_)|(apply p3;(first|exact pu1|exact puL|exact a_ldE (E := eR) 0 rfl rfl rfl (fC rfl) rfl rfl (Nat.le_of_ble_eq_true rfl) bnd rfl (by first|exact trivial|exact rfl)|exact a_ldE (E := eR) 1 rfl rfl rfl (fC rfl) rfl rfl (Nat.le_of_ble_eq_true rfl) bnd rfl (by first|exact trivial|exact rfl)|exact a_ldE (E := eR) 2 rfl rfl rfl (fC rfl) rfl rfl (Nat.le_of_ble_eq_true rfl) bnd rfl (by first|exact trivial|exact rfl)|exact puN|exact a_len_str rfl (fT rfl)|exact puC|exact a_eqS rfl rfl rfl|exact a_ldsE (E := eR) 0 rfl rfl rfl (fA rfl) rfl rfl (Nat.le_of_ble_eq_true rfl) (Nat.le_of_ble_eq_true rfl) bnd rfl (by repeat (first|exact trivial|exact rfl|refine And.intro ?_ ?_)) rfl);exact rfl)|refine cdn ?_|refine g_reg (id := 0) ?_|refine g_reg (id := 2) ?_|refine g_reg (id := 3) ?_|refine g_reg (id := 4) ?_|refine g_reg (id := 5) ?_|refine g_reg (id := 7) ?_|refine g_reg (id := 8) ?_|(apply s3;exact a_appE (fP rfl) rfl rfl rfl rfl nowR (by first|omega|(simp;omega)) (by decide) (by decide) (by exact rfl);exact rfl;exact rfl)|(apply w3;(first|exact a_st_bx rfl rfl rfl rfl (fN rfl rfl) (Nat.le_of_ble_eq_true rfl) rfl|exact a_stF (E := eR) ⟨_,_,_⟩ rfl rfl rfl rfl (fN rfl rfl) (Nat.le_of_ble_eq_true rfl) (Nat.le_of_ble_eq_true rfl) (by first|exact List.getElem?_set_self bnd|exact List.getElem?_eq_getElem bnd) (by (try dsimp only [setRow,List.set_cons_succ,List.set_cons_zero]);first|done|exact rfl) rfl);exact rfl;refine dS ?_)|(apply c4 1;exact callK1 (θ := []) (hD := (childrenA_ok _ _ preB104));exact rfl;exact rfl;exact rfl;refine dM ?_)|(apply g_drN (id := 1) okM [[],[0],[],[0,1,2]] [([],[]),([],[]),([],[]),([],[])] 0;(focus (refine dp 0 0 [13] [] pu1 ?_;refine dp 1 1 [13] [] (by first|exact callD1 (n := _) 0 (θ := []) (hD := (sizeI_ok _ preB104))|exact callD1 (n := _) 0 (θ := []) (hD := (sizeL_ok _ preB104))) ?_;refine dp 2 0 [11,12] [] (by first|exact a_ldE (E := eR) 0 rfl rfl rfl (fC rfl) rfl rfl (Nat.le_of_ble_eq_true rfl) bnd rfl (by first|exact trivial|exact rfl)|exact a_ldE (E := eR) 1 rfl rfl rfl (fC rfl) rfl rfl (Nat.le_of_ble_eq_true rfl) bnd rfl (by first|exact trivial|exact rfl)|exact a_ldE (E := eR) 2 rfl rfl rfl (fC rfl) rfl rfl (Nat.le_of_ble_eq_true rfl) bnd rfl (by first|exact trivial|exact rfl)|exact puL) ?_;refine dp 3 7 [] [] puC ?_;(refine d_nil ?_;refine dN ?_)));any_goals kernel_rfl)|(apply g_drN (id := 6) okM [[],[0],[],[0,1,2]] [([],[]),([],[]),([],[]),([],[])] 0;(focus (refine dp 0 0 [24] [] pu1 ?_;refine dp 1 1 [24] [] (by first|exact callD1 (n := _) 0 (θ := []) (hD := (sizeI_ok _ preB104))|exact callD1 (n := _) 0 (θ := []) (hD := (sizeL_ok _ preB104))) ?_;refine dp 2 0 [22,23] [] (by first|exact a_ldE (E := eR) 0 rfl rfl rfl (fC rfl) rfl rfl (Nat.le_of_ble_eq_true rfl) bnd rfl (by first|exact trivial|exact rfl)|exact a_ldE (E := eR) 1 rfl rfl rfl (fC rfl) rfl rfl (Nat.le_of_ble_eq_true rfl) bnd rfl (by first|exact trivial|exact rfl)|exact a_ldE (E := eR) 2 rfl rfl rfl (fC rfl) rfl rfl (Nat.le_of_ble_eq_true rfl) bnd rfl (by first|exact trivial|exact rfl)|exact puL) ?_;refine dp 3 7 [] [] (by first|exact puC|exact a_eqS rfl rfl rfl) ?_;(refine d_nil ?_;refine dN ?_)));any_goals kernel_rfl)|((first|refine o_gs rfl rfl (fun hc => ?_) (fun hc => ?_)|refine g_cond rfl (fun hc => ?_) (fun hc => ?_)) <;> (try simp only [dcB] at hc) <;> (try first|contradiction|(exfalso;omega)))
        simp only [if_neg hs0]
        repeat' first|(apply n3;(first|exact a_new (gb := .bx _) rfl|exact a_litE eW [_] rfl rfl rfl rfl rfl rfl rfl rfl|exact a_appN (fP rfl) rfl rfl rfl nowR (by first|omega|(simp;omega)) (by decide) (by exact rfl));exact rfl;refine dA ?_)|(apply p3;(first|exact pu1|exact puL|exact a_ldE (E := eR) 0 rfl rfl rfl (fC rfl) rfl rfl (Nat.le_of_ble_eq_true rfl) bnd rfl (by first|exact trivial|exact rfl)|exact a_ldE (E := eR) 1 rfl rfl rfl (fC rfl) rfl rfl (Nat.le_of_ble_eq_true rfl) bnd rfl (by first|exact trivial|exact rfl)|exact a_ldE (E := eR) 2 rfl rfl rfl (fC rfl) rfl rfl (Nat.le_of_ble_eq_true rfl) bnd rfl (by first|exact trivial|exact rfl)|exact puN|exact a_len_str rfl (fT rfl)|exact puC|exact a_eqS rfl rfl rfl|exact a_ldsE (E := eR) 0 rfl rfl rfl (fA rfl) rfl rfl (Nat.le_of_ble_eq_true rfl) (Nat.le_of_ble_eq_true rfl) bnd rfl (by repeat (first|exact trivial|exact rfl|refine And.intro ?_ ?_)) rfl|exact a_add rfl rfl (by omega) (by omega)|exact puI);exact rfl)|refine cd ?_|(apply s3;exact a_appE (fP rfl) rfl rfl rfl rfl nowR (by first|omega|(simp;omega)) (by decide) (by decide) (by exact rfl);exact rfl;exact rfl)|(apply w3;(first|exact a_st_bx rfl rfl rfl rfl (fN rfl rfl) (Nat.le_of_ble_eq_true rfl) rfl|exact a_stF (E := eR) ⟨_,_,_⟩ rfl rfl rfl rfl (fN rfl rfl) (Nat.le_of_ble_eq_true rfl) (Nat.le_of_ble_eq_true rfl) (by first|exact List.getElem?_set_self bnd|exact List.getElem?_eq_getElem bnd) (by (try dsimp only [setRow,List.set_cons_succ,List.set_cons_zero]);first|done|exact rfl) rfl|exact a_stE (E := eR) ⟨_,_,_⟩ rfl rfl rfl rfl (fN rfl rfl) bnd (by exact rfl));exact rfl;refine dS ?_)|(apply c4 1;exact callK1 (θ := []) (hD := (childrenA_ok _ _ preB104));exact rfl;exact rfl;exact rfl;refine dM ?_)|(apply g_drN (id := 1) okM [[],[0],[],[0,1,2]] [([],[]),([],[]),([],[]),([],[])] 0;(focus (refine dp 0 0 [13] [] pu1 ?_;refine dp 1 1 [13] [] (by first|exact callD1 (n := _) 0 (θ := []) (hD := (sizeI_ok _ preB104))|exact callD1 (n := _) 0 (θ := []) (hD := (sizeL_ok _ preB104))) ?_;refine dp 2 0 [11,12] [] (by first|exact a_ldE (E := eR) 0 rfl rfl rfl (fC rfl) rfl rfl (Nat.le_of_ble_eq_true rfl) bnd rfl (by first|exact trivial|exact rfl)|exact a_ldE (E := eR) 1 rfl rfl rfl (fC rfl) rfl rfl (Nat.le_of_ble_eq_true rfl) bnd rfl (by first|exact trivial|exact rfl)|exact a_ldE (E := eR) 2 rfl rfl rfl (fC rfl) rfl rfl (Nat.le_of_ble_eq_true rfl) bnd rfl (by first|exact trivial|exact rfl)|exact puL) ?_;refine dp 3 7 [] [] puC ?_;(refine d_nil ?_;refine dN ?_)));any_goals kernel_rfl)|(apply g_drN (id := 6) okM [[],[0],[],[0,1,2]] [([],[]),([],[]),([],[]),([],[])] 0;(focus (refine dp 0 0 [24] [] pu1 ?_;refine dp 1 1 [24] [] (by first|exact callD1 (n := _) 0 (θ := []) (hD := (sizeI_ok _ preB104))|exact callD1 (n := _) 0 (θ := []) (hD := (sizeL_ok _ preB104))) ?_;refine dp 2 0 [22,23] [] (by first|exact a_ldE (E := eR) 0 rfl rfl rfl (fC rfl) rfl rfl (Nat.le_of_ble_eq_true rfl) bnd rfl (by first|exact trivial|exact rfl)|exact a_ldE (E := eR) 1 rfl rfl rfl (fC rfl) rfl rfl (Nat.le_of_ble_eq_true rfl) bnd rfl (by first|exact trivial|exact rfl)|exact a_ldE (E := eR) 2 rfl rfl rfl (fC rfl) rfl rfl (Nat.le_of_ble_eq_true rfl) bnd rfl (by first|exact trivial|exact rfl)|exact puL) ?_;refine dp 3 7 [] [] (by first|exact puC|exact a_eqS rfl rfl rfl) ?_;(refine d_nil ?_;refine dN ?_)));any_goals kernel_rfl)|((first|refine o_gs rfl rfl (fun hc => ?_) (fun hc => ?_)|refine g_cond rfl (fun hc => ?_) (fun hc => ?_)) <;> (try simp only [dcB] at hc) <;> (try first|contradiction|(exfalso;omega)))
        refine g_loop_id ?_
        refine loopK [0,4,5,7,8,27,28] [3,11] (fun y : Int × List (List Int) => y.1 = 0 ∧ y.2 = acc ++ [q]) (fun y => [(29,.one (int y.1))]) (fun y => [(3,.bx [.gv 11]),(11,thR Z y.2 11)]) (fun _ => 0) ((0 : Int),acc ++ [q]) [0,1,2,3,4,5,6,7,8,9,10,11,12] (hI := ?_) (hr := ?_)
        · exact ⟨rfl,rfl⟩
        · rintro ⟨k,ac⟩ ⟨k0,k1⟩
          dsimp only [List.cons_append,List.nil_append] at *
          skip
          repeat' first|(apply p3;(first|exact puC|exact a_pure (sv := .one _) rfl);exact rfl)|refine cdn ?_|refine g_reg (id := 9) ?_|((first|refine o_gs rfl rfl (fun hc => ?_) (fun hc => ?_)|refine g_cond rfl (fun hc => ?_) (fun hc => ?_)) <;> (try simp only [dcB] at hc) <;> (try first|contradiction|(exfalso;omega)))
          · exfalso
            simp only [List.length_nil] at hc
            omega
          · try dsimp only at k1
            rw [k1]
            repeat' first|(apply n3;exact a_new (gb := .bx _) rfl;exact rfl;refine dA ?_)|(apply p3;(first|exact pu1|exact puL|exact puC|exact a_ldE (E := eR) 0 rfl rfl rfl (fC rfl) rfl rfl (Nat.le_of_ble_eq_true rfl) bnd rfl (by first|exact trivial|exact rfl)|exact a_ldsE (E := eR) 0 rfl rfl rfl (fA rfl) rfl rfl (Nat.le_of_ble_eq_true rfl) (Nat.le_of_ble_eq_true rfl) bnd rfl (by repeat (first|exact trivial|exact rfl|refine And.intro ?_ ?_)) rfl|exact a_add rfl rfl (by omega) (by omega)|exact puI);exact rfl)|refine cd ?_|(apply w3;(first|exact a_st_bx rfl rfl rfl rfl (fN rfl rfl) (Nat.le_of_ble_eq_true rfl) rfl|exact a_stE (E := eR) ⟨_,_,_⟩ rfl rfl rfl rfl (fN rfl rfl) bnd (by exact rfl));exact rfl;refine dS ?_)|((first|refine o_gs rfl rfl (fun hc => ?_) (fun hc => ?_)|refine g_cond rfl (fun hc => ?_) (fun hc => ?_)) <;> (try simp only [dcB] at hc) <;> (try first|contradiction|(exfalso;omega)))
            repeat refine cr ?_
            refine ends_id ?_
            refine endK [?_] (h2 := ?_) (h3 := ?_) (nd := ?_)
            rotate_left 1
            all_goals (repeat' first|exact ce0|refine ce ?_|refine ce2 ?_ ?_|(refine Or.inr (bx_eq rfl rfl ?_);(try dsimp only [C.ren,C.ren.all]);(try exact rfl))|exact SVLe.refl|refine ceb ?_)
            all_goals first | exact (show nodupB _ = true from rfl) | exact Or.inr rfl | (rfl)
      · have hs : ndS x B = 0 := by omega
        rw [if_pos hs]
        repeat' first|(apply n3;(first|exact a_new (gb := .bx _) rfl|exact a_litE eW [_] rfl rfl rfl rfl rfl rfl rfl rfl|exact a_appN (fP rfl) rfl rfl rfl nowR (by first|omega|(simp;omega)) (by decide) (by exact rfl));exact rfl;refine dA ?_)|(apply p3;(first|exact pu1|exact puL|exact a_ldE (E := eR) 0 rfl rfl rfl (fC rfl) rfl rfl (Nat.le_of_ble_eq_true rfl) bnd rfl (by first|exact trivial|exact rfl)|exact a_ldE (E := eR) 1 rfl rfl rfl (fC rfl) rfl rfl (Nat.le_of_ble_eq_true rfl) bnd rfl (by first|exact trivial|exact rfl)|exact a_ldE (E := eR) 2 rfl rfl rfl (fC rfl) rfl rfl (Nat.le_of_ble_eq_true rfl) bnd rfl (by first|exact trivial|exact rfl)|exact puN|exact a_len_str rfl (fT rfl)|exact puC|exact a_eqS rfl rfl rfl|exact a_ldsE (E := eR) 0 rfl rfl rfl (fA rfl) rfl rfl (Nat.le_of_ble_eq_true rfl) (Nat.le_of_ble_eq_true rfl) bnd rfl (by repeat (first|exact trivial|exact rfl|refine And.intro ?_ ?_)) rfl);exact rfl)|refine cdn ?_|refine g_reg (id := 0) ?_|refine g_reg (id := 2) ?_|refine g_reg (id := 3) ?_|refine g_reg (id := 4) ?_|refine g_reg (id := 5) ?_|refine g_reg (id := 7) ?_|refine g_reg (id := 8) ?_|(apply s3;exact a_appE (fP rfl) rfl rfl rfl rfl nowR (by first|omega|(simp;omega)) (by decide) (by decide) (by exact rfl);exact rfl;exact rfl)|(apply w3;(first|exact a_st_bx rfl rfl rfl rfl (fN rfl rfl) (Nat.le_of_ble_eq_true rfl) rfl|exact a_stF (E := eR) ⟨_,_,_⟩ rfl rfl rfl rfl (fN rfl rfl) (Nat.le_of_ble_eq_true rfl) (Nat.le_of_ble_eq_true rfl) (by first|exact List.getElem?_set_self bnd|exact List.getElem?_eq_getElem bnd) (by (try dsimp only [setRow,List.set_cons_succ,List.set_cons_zero]);first|done|exact rfl) rfl);exact rfl;refine dS ?_)|(apply c4 1;exact callK1 (θ := []) (hD := (childrenA_ok _ _ preB104));exact rfl;exact rfl;exact rfl;refine dM ?_)|(apply g_drN (id := 1) okM [[],[0],[],[0,1,2]] [([],[]),([],[]),([],[]),([],[])] 0;(focus (refine dp 0 0 [13] [] pu1 ?_;refine dp 1 1 [13] [] (by first|exact callD1 (n := _) 0 (θ := []) (hD := (sizeI_ok _ preB104))|exact callD1 (n := _) 0 (θ := []) (hD := (sizeL_ok _ preB104))) ?_;refine dp 2 0 [11,12] [] (by first|exact a_ldE (E := eR) 0 rfl rfl rfl (fC rfl) rfl rfl (Nat.le_of_ble_eq_true rfl) bnd rfl (by first|exact trivial|exact rfl)|exact a_ldE (E := eR) 1 rfl rfl rfl (fC rfl) rfl rfl (Nat.le_of_ble_eq_true rfl) bnd rfl (by first|exact trivial|exact rfl)|exact a_ldE (E := eR) 2 rfl rfl rfl (fC rfl) rfl rfl (Nat.le_of_ble_eq_true rfl) bnd rfl (by first|exact trivial|exact rfl)|exact puL) ?_;refine dp 3 7 [] [] puC ?_;(refine d_nil ?_;refine dN ?_)));any_goals kernel_rfl)|(apply g_drN (id := 6) okM [[],[0],[],[0,1,2]] [([],[]),([],[]),([],[]),([],[])] 0;(focus (refine dp 0 0 [24] [] pu1 ?_;refine dp 1 1 [24] [] (by first|exact callD1 (n := _) 0 (θ := []) (hD := (sizeI_ok _ preB104))|exact callD1 (n := _) 0 (θ := []) (hD := (sizeL_ok _ preB104))) ?_;refine dp 2 0 [22,23] [] (by first|exact a_ldE (E := eR) 0 rfl rfl rfl (fC rfl) rfl rfl (Nat.le_of_ble_eq_true rfl) bnd rfl (by first|exact trivial|exact rfl)|exact a_ldE (E := eR) 1 rfl rfl rfl (fC rfl) rfl rfl (Nat.le_of_ble_eq_true rfl) bnd rfl (by first|exact trivial|exact rfl)|exact a_ldE (E := eR) 2 rfl rfl rfl (fC rfl) rfl rfl (Nat.le_of_ble_eq_true rfl) bnd rfl (by first|exact trivial|exact rfl)|exact puL) ?_;refine dp 3 7 [] [] (by first|exact puC|exact a_eqS rfl rfl rfl) ?_;(refine d_nil ?_;refine dN ?_)));any_goals kernel_rfl)|((first|refine o_gs rfl rfl (fun hc => ?_) (fun hc => ?_)|refine g_cond rfl (fun hc => ?_) (fun hc => ?_)) <;> (try simp only [dcB] at hc) <;> (try first|contradiction|(exfalso;omega)))
        simp only [if_pos hs]
        repeat' first|(apply n3;(first|exact a_new (gb := .bx _) rfl|exact a_litE eW [_] rfl rfl rfl rfl rfl rfl rfl rfl|exact a_appN (fP rfl) rfl rfl rfl nowR (by first|omega|(simp;omega)) (by decide) (by exact rfl));exact rfl;refine dA ?_)|(apply p3;(first|exact pu1|exact puL|exact a_ldE (E := eR) 0 rfl rfl rfl (fC rfl) rfl rfl (Nat.le_of_ble_eq_true rfl) bnd rfl (by first|exact trivial|exact rfl)|exact a_ldE (E := eR) 1 rfl rfl rfl (fC rfl) rfl rfl (Nat.le_of_ble_eq_true rfl) bnd rfl (by first|exact trivial|exact rfl)|exact a_ldE (E := eR) 2 rfl rfl rfl (fC rfl) rfl rfl (Nat.le_of_ble_eq_true rfl) bnd rfl (by first|exact trivial|exact rfl)|exact puN|exact a_len_str rfl (fT rfl)|exact puC|exact a_eqS rfl rfl rfl|exact a_ldsE (E := eR) 0 rfl rfl rfl (fA rfl) rfl rfl (Nat.le_of_ble_eq_true rfl) (Nat.le_of_ble_eq_true rfl) bnd rfl (by repeat (first|exact trivial|exact rfl|refine And.intro ?_ ?_)) rfl|exact a_add rfl rfl (by omega) (by omega)|exact puI);exact rfl)|refine cd ?_|(apply s3;exact a_appE (fP rfl) rfl rfl rfl rfl nowR (by first|omega|(simp;omega)) (by decide) (by decide) (by exact rfl);exact rfl;exact rfl)|(apply w3;(first|exact a_st_bx rfl rfl rfl rfl (fN rfl rfl) (Nat.le_of_ble_eq_true rfl) rfl|exact a_stF (E := eR) ⟨_,_,_⟩ rfl rfl rfl rfl (fN rfl rfl) (Nat.le_of_ble_eq_true rfl) (Nat.le_of_ble_eq_true rfl) (by first|exact List.getElem?_set_self bnd|exact List.getElem?_eq_getElem bnd) (by (try dsimp only [setRow,List.set_cons_succ,List.set_cons_zero]);first|done|exact rfl) rfl|exact a_stE (E := eR) ⟨_,_,_⟩ rfl rfl rfl rfl (fN rfl rfl) bnd (by exact rfl));exact rfl;refine dS ?_)|(apply c4 1;exact callK1 (θ := []) (hD := (childrenA_ok _ _ preB104));exact rfl;exact rfl;exact rfl;refine dM ?_)|(apply g_drN (id := 1) okM [[],[0],[],[0,1,2]] [([],[]),([],[]),([],[]),([],[])] 0;(focus (refine dp 0 0 [13] [] pu1 ?_;refine dp 1 1 [13] [] (by first|exact callD1 (n := _) 0 (θ := []) (hD := (sizeI_ok _ preB104))|exact callD1 (n := _) 0 (θ := []) (hD := (sizeL_ok _ preB104))) ?_;refine dp 2 0 [11,12] [] (by first|exact a_ldE (E := eR) 0 rfl rfl rfl (fC rfl) rfl rfl (Nat.le_of_ble_eq_true rfl) bnd rfl (by first|exact trivial|exact rfl)|exact a_ldE (E := eR) 1 rfl rfl rfl (fC rfl) rfl rfl (Nat.le_of_ble_eq_true rfl) bnd rfl (by first|exact trivial|exact rfl)|exact a_ldE (E := eR) 2 rfl rfl rfl (fC rfl) rfl rfl (Nat.le_of_ble_eq_true rfl) bnd rfl (by first|exact trivial|exact rfl)|exact puL) ?_;refine dp 3 7 [] [] puC ?_;(refine d_nil ?_;refine dN ?_)));any_goals kernel_rfl)|(apply g_drN (id := 6) okM [[],[0],[],[0,1,2]] [([],[]),([],[]),([],[]),([],[])] 0;(focus (refine dp 0 0 [24] [] pu1 ?_;refine dp 1 1 [24] [] (by first|exact callD1 (n := _) 0 (θ := []) (hD := (sizeI_ok _ preB104))|exact callD1 (n := _) 0 (θ := []) (hD := (sizeL_ok _ preB104))) ?_;refine dp 2 0 [22,23] [] (by first|exact a_ldE (E := eR) 0 rfl rfl rfl (fC rfl) rfl rfl (Nat.le_of_ble_eq_true rfl) bnd rfl (by first|exact trivial|exact rfl)|exact a_ldE (E := eR) 1 rfl rfl rfl (fC rfl) rfl rfl (Nat.le_of_ble_eq_true rfl) bnd rfl (by first|exact trivial|exact rfl)|exact a_ldE (E := eR) 2 rfl rfl rfl (fC rfl) rfl rfl (Nat.le_of_ble_eq_true rfl) bnd rfl (by first|exact trivial|exact rfl)|exact puL) ?_;refine dp 3 7 [] [] (by first|exact puC|exact a_eqS rfl rfl rfl) ?_;(refine d_nil ?_;refine dN ?_)));any_goals kernel_rfl)|((first|refine o_gs rfl rfl (fun hc => ?_) (fun hc => ?_)|refine g_cond rfl (fun hc => ?_) (fun hc => ?_)) <;> (try simp only [dcB] at hc) <;> (try first|contradiction|(exfalso;omega)))
        refine g_loop_id ?_
        refine loopK [0,4,5,7,8,27,28] [3,11] (fun y : Int × List (List Int) => 0 ≤ y.1 ∧ y.1 ≤ (chR x).length ∧ y.2 = acc ++ [q] ++ trs B g q x y.1.toNat ∧ (y.2.length : Int) ≤ 400) (fun y => [(29,.one (int y.1))]) (fun y => [(3,.bx [.gv 11]),(11,thR Z y.2 11)]) (fun y => ((chR x).length - y.1).toNat) ((0 : Int),acc ++ [q]) [0,1,2,3,4,5,6,7,8,9,10,11,12] (hI := ?_) (hr := ?_)
        · exact ⟨by simp,by simp,by simp [trs_0],by simp; omega⟩
        · rintro ⟨k,ac⟩ ⟨k0,k1,k2,k3⟩
          dsimp only [List.cons_append,List.nil_append] at *
          skip
          repeat' first|(apply n3;exact a_new (gb := .bx _) rfl;exact rfl;refine dA ?_)|(apply p3;(first|exact pu1|exact puL|exact puC|exact a_ldE (E := eR) 0 rfl rfl rfl (fC rfl) rfl rfl (Nat.le_of_ble_eq_true rfl) bnd rfl (by first|exact trivial|exact rfl)|exact a_ldsE (E := eR) 0 rfl rfl rfl (fA rfl) rfl rfl (Nat.le_of_ble_eq_true rfl) (Nat.le_of_ble_eq_true rfl) bnd rfl (by repeat (first|exact trivial|exact rfl|refine And.intro ?_ ?_)) rfl|exact puI);exact rfl)|refine cdn ?_|refine g_reg (id := 9) ?_|refine g_reg (id := 10) ?_|refine g_reg (id := 14) ?_|(apply w3;(first|exact a_st_bx rfl rfl rfl rfl (fN rfl rfl) (Nat.le_of_ble_eq_true rfl) rfl|exact a_stE (E := eR) ⟨_,_,_⟩ rfl rfl rfl rfl (fN rfl rfl) bnd (by exact rfl));exact rfl;refine dS ?_)|((first|refine o_gs rfl rfl (fun hc => ?_) (fun hc => ?_)|refine g_cond rfl (fun hc => ?_) (fun hc => ?_)) <;> (try simp only [dcB] at hc) <;> (try first|contradiction|(exfalso;omega)))
          · have hst := stp_yes (B := B) hs k0 (show k.toNat < (chR x).length by omega)
            have h2y := (stp_ok hx hst).1
            have hj : JnOk [q,[k]] := jn_two (by simp; omega)
            have hqk : ((q ++ [k]).length : Int) + g = depth := by simp; omega
            have hgd : (chR x).getD k.toNat noR = (chR x)[k.toNat]'(by omega) := by rw [List.getD_eq_getElem?_getD,List.getElem?_eq_getElem (by omega)]; rfl
            have hnx := trs_next B g q x k.toNat
            rw [show ((k.toNat : Nat) : Int) = k by omega,hgd,show k.toNat + 1 = (k + 1).toNat by omega] at hnx
            have hih := ihg (q ++ [k]) (chM x (ndA x B) ((chR x)[k.toNat]'(by omega))) ac h2y hqk k3
            obtain ⟨rest,hrest⟩ := trs_split B g q x (n := (chR x).length) (k := (k + 1).toNat) (by omega)
            have htot : acc ++ q :: trs B g q x (chR x).length = (ac ++ tre B g (q ++ [k]) (chM x (ndA x B) ((chR x)[k.toNat]'(by omega)))) ++ rest := by
              rw [hrest,hnx,k2]
              simp
            by_cases hfit : ((ac ++ tre B g (q ++ [k]) (chM x (ndA x B) ((chR x)[k.toNat]'(by omega)))).length : Int) ≤ 400
            · rw [List.take_of_length_le (by omega),decide_eq_true hfit] at hih
              repeat' first|(apply n3;exact a_new (gb := .bx _) rfl;exact rfl;refine dA ?_)|(apply p3;(first|exact pu1|exact puL|exact puC|exact a_ldE (E := eR) 0 rfl rfl rfl (fC rfl) rfl rfl (Nat.le_of_ble_eq_true rfl) bnd rfl (by first|exact trivial|exact rfl)|exact a_ldsE (E := eR) 0 rfl rfl rfl (fA rfl) rfl rfl (Nat.le_of_ble_eq_true rfl) (Nat.le_of_ble_eq_true rfl) bnd rfl (by repeat (first|exact trivial|exact rfl|refine And.intro ?_ ?_)) rfl|exact a_add rfl rfl (by omega) (by omega)|exact puI);exact rfl)|refine cd ?_|(apply w3;(first|exact a_st_bx rfl rfl rfl rfl (fN rfl rfl) (Nat.le_of_ble_eq_true rfl) rfl|exact a_stE (E := eR) ⟨_,_,_⟩ rfl rfl rfl rfl (fN rfl rfl) bnd (by exact rfl));exact rfl;refine dS ?_)|(apply g_drN (id := 11) okM [[],[],[],[2],[1,2,3],[1,2,3,4],[],[],[7],[],[9],[],[1,2,3,4,5,7,8,9,10,11],[1,2,3,4,5,6,7,8,9,10,11,12],[0,1,2,3,4,5,6,7,8,9,10,11,12,13],[0,1,2,3,4,5,6,7,8,9,10,11,12,13,14]] [([],[]),([],[]),([],[]),([],[]),([0],[]),([1],[]),([],[]),([],[]),([],[]),([],[]),([],[]),([],[]),([],[]),([],[0,1]),([2],[0,1,2,3,4,5,11,15]),([],[])] 3;(focus (refine dp 0 0 [35,36,37,38,39,40,41,42,43,44,45,46,47] [(true,0),(true,1),(false,0),(false,1)] (by first|exact a_ldsE (E := eR) 0 rfl rfl rfl (fA rfl) rfl rfl (Nat.le_of_ble_eq_true rfl) (Nat.le_of_ble_eq_true rfl) bnd rfl (by repeat (first|exact trivial|exact rfl|refine And.intro ?_ ?_)) rfl|exact puL) ?_;refine dp 1 0 [34,36,37,40,41,42,43,44,45] [] pu1 ?_;refine dp 2 0 [34,35,40,41,42,43,44,45] [] pu1 ?_;refine dp 3 1 [34,35,40,41,42,43,44,45] [] (a_litF (dst := some 37) eI [_] rfl rfl rfl rfl rfl rfl rfl rfl nowR) ?_;refine duE 4 7 [34,40,41,42,43,44,45] [] (atN 0 (fun _ => a_litE eW [_,_] rfl rfl rfl rfl rfl rfl rfl rfl)) (by exact rfl) (by exact rfl) ?_;refine duN 5 15 [34,40,41,42,43,44,45] [] (callD1 (n := _) 1 (θ := []) (hD := (joined_ok _ preB104))) (by exact rfl) (by exact rfl) ?_;refine dp 6 0 [34,35,36,37,38,39,41,42,43,44,45,46] [(true,0),(true,1)] (by first|exact a_ldsE (E := eR) 0 rfl rfl rfl (fA rfl) rfl rfl (Nat.le_of_ble_eq_true rfl) (Nat.le_of_ble_eq_true rfl) bnd rfl (by repeat (first|exact trivial|exact rfl|refine And.intro ?_ ?_)) rfl|exact puL) ?_;refine dp 7 0 [34,35,36,37,38,39,40,43,44,45] [(true,0),(true,1)] (a_pure (sv := .one _) rfl) ?_;refine dp 8 1 [34,35,36,37,38,39,40,43,44,45] [(true,0),(true,1)] (by first|exact a_ldsE (E := eR) 0 rfl rfl rfl (fA rfl) rfl rfl (Nat.le_of_ble_eq_true rfl) (Nat.le_of_ble_eq_true rfl) bnd rfl (by repeat (first|exact trivial|exact rfl|refine And.intro ?_ ?_)) rfl|exact puL) ?_;refine dp 9 0 [34,35,36,37,38,39,40,41,42,45] [(true,0),(true,1)] (a_pure (sv := .one _) rfl) ?_;refine dp 10 1 [34,35,36,37,38,39,40,41,42,45] [(true,0),(true,1)] (by first|exact a_ldE (E := eR) 0 rfl rfl rfl (fC rfl) rfl rfl (Nat.le_of_ble_eq_true rfl) bnd rfl (by first|exact trivial|exact rfl)|exact a_ldE (E := eR) 1 rfl rfl rfl (fC rfl) rfl rfl (Nat.le_of_ble_eq_true rfl) bnd rfl (by first|exact trivial|exact rfl)|exact a_ldE (E := eR) 2 rfl rfl rfl (fC rfl) rfl rfl (Nat.le_of_ble_eq_true rfl) bnd rfl (by first|exact trivial|exact rfl)|exact puL) ?_;refine dp 11 0 [34,35,36,37,38,39,40,41,42,43,44] [(true,0),(true,1)] (by first|exact a_ldE (E := eR) 0 rfl rfl rfl (fC rfl) rfl rfl (Nat.le_of_ble_eq_true rfl) bnd rfl (by first|exact trivial|exact rfl)|exact a_ldsE (E := eR) 0 rfl rfl rfl (fA rfl) rfl rfl (Nat.le_of_ble_eq_true rfl) (Nat.le_of_ble_eq_true rfl) bnd rfl (by repeat (first|exact trivial|exact rfl|refine And.intro ?_ ?_)) rfl|exact puL) ?_;refine dp 12 2015 [34,40] [] (callFD 2 (hD := (childM_ok _ _ _ preB104 preB104 preB104))) ?_;refine duN 13 4095 [34] [] (callD0 (n := _) 2 (θ := [0,1]) (hD := (look_ok st sy B _ h2y preB104 preB104))) (by exact rfl) (by exact rfl) ?_;refine duN 14 16383 [] [] (callD0 (n := _) 2 (θ := [0,1,2,3,4,5,11,15]) (hD := (hih))) (by exact rfl) (by exact rfl) ?_;refine dp 15 32767 [] [] (a_pure (sv := .one _) rfl) ?_;(refine d_nil ?_;refine dN ?_)));any_goals kernel_rfl)|((first|refine o_gs rfl rfl (fun hc => ?_) (fun hc => ?_)|refine g_cond rfl (fun hc => ?_) (fun hc => ?_)) <;> (try simp only [dcB] at hc) <;> (try first|contradiction|(exfalso;omega)))
              refine q_again (k + 1,ac ++ tre B g (q ++ [k]) (chM x (ndA x B) ((chR x)[k.toNat]'(by omega)))) [0,1,2,3,4,5,6,7,8,9,10,16,12] (by exact stk) ?_ ?_
              · exact ⟨by dsimp only; omega,by dsimp only; omega,by dsimp only; rw [hnx,k2]; simp,hfit⟩
              · dsimp only; omega
            · rw [decide_eq_false hfit] at hih
              have hT : (acc ++ q :: trs B g q x (chR x).length).take 400 = (ac ++ tre B g (q ++ [k]) (chM x (ndA x B) ((chR x)[k.toNat]'(by omega)))).take 400 := by rw [htot,take_more (by omega)]
              have hF : decide (((acc ++ q :: trs B g q x (chR x).length).length : Int) ≤ 400) = false := by
                rw [decide_eq_false_iff_not,htot,List.length_append]
                omega
              rw [hT,hF]
              repeat' first|(apply n3;exact a_new (gb := .bx _) rfl;exact rfl;refine dA ?_)|(apply p3;(first|exact pu1|exact puL|exact puC|exact a_ldE (E := eR) 0 rfl rfl rfl (fC rfl) rfl rfl (Nat.le_of_ble_eq_true rfl) bnd rfl (by first|exact trivial|exact rfl)|exact a_ldsE (E := eR) 0 rfl rfl rfl (fA rfl) rfl rfl (Nat.le_of_ble_eq_true rfl) (Nat.le_of_ble_eq_true rfl) bnd rfl (by repeat (first|exact trivial|exact rfl|refine And.intro ?_ ?_)) rfl|exact a_add rfl rfl (by omega) (by omega)|exact puI);exact rfl)|refine cd ?_|(apply w3;(first|exact a_st_bx rfl rfl rfl rfl (fN rfl rfl) (Nat.le_of_ble_eq_true rfl) rfl|exact a_stE (E := eR) ⟨_,_,_⟩ rfl rfl rfl rfl (fN rfl rfl) bnd (by exact rfl));exact rfl;refine dS ?_)|(apply g_drN (id := 11) okM [[],[],[],[2],[1,2,3],[1,2,3,4],[],[],[7],[],[9],[],[1,2,3,4,5,7,8,9,10,11],[1,2,3,4,5,6,7,8,9,10,11,12],[0,1,2,3,4,5,6,7,8,9,10,11,12,13],[0,1,2,3,4,5,6,7,8,9,10,11,12,13,14]] [([],[]),([],[]),([],[]),([],[]),([0],[]),([1],[]),([],[]),([],[]),([],[]),([],[]),([],[]),([],[]),([],[]),([],[0,1]),([2],[0,1,2,3,4,5,11,15]),([],[])] 3;(focus (refine dp 0 0 [35,36,37,38,39,40,41,42,43,44,45,46,47] [(true,0),(true,1),(false,0),(false,1)] (by first|exact a_ldsE (E := eR) 0 rfl rfl rfl (fA rfl) rfl rfl (Nat.le_of_ble_eq_true rfl) (Nat.le_of_ble_eq_true rfl) bnd rfl (by repeat (first|exact trivial|exact rfl|refine And.intro ?_ ?_)) rfl|exact puL) ?_;refine dp 1 0 [34,36,37,40,41,42,43,44,45] [] pu1 ?_;refine dp 2 0 [34,35,40,41,42,43,44,45] [] pu1 ?_;refine dp 3 1 [34,35,40,41,42,43,44,45] [] (a_litF (dst := some 37) eI [_] rfl rfl rfl rfl rfl rfl rfl rfl nowR) ?_;refine duE 4 7 [34,40,41,42,43,44,45] [] (atN 0 (fun _ => a_litE eW [_,_] rfl rfl rfl rfl rfl rfl rfl rfl)) (by exact rfl) (by exact rfl) ?_;refine duN 5 15 [34,40,41,42,43,44,45] [] (callD1 (n := _) 1 (θ := []) (hD := (joined_ok _ preB104))) (by exact rfl) (by exact rfl) ?_;refine dp 6 0 [34,35,36,37,38,39,41,42,43,44,45,46] [(true,0),(true,1)] (by first|exact a_ldsE (E := eR) 0 rfl rfl rfl (fA rfl) rfl rfl (Nat.le_of_ble_eq_true rfl) (Nat.le_of_ble_eq_true rfl) bnd rfl (by repeat (first|exact trivial|exact rfl|refine And.intro ?_ ?_)) rfl|exact puL) ?_;refine dp 7 0 [34,35,36,37,38,39,40,43,44,45] [(true,0),(true,1)] (a_pure (sv := .one _) rfl) ?_;refine dp 8 1 [34,35,36,37,38,39,40,43,44,45] [(true,0),(true,1)] (by first|exact a_ldsE (E := eR) 0 rfl rfl rfl (fA rfl) rfl rfl (Nat.le_of_ble_eq_true rfl) (Nat.le_of_ble_eq_true rfl) bnd rfl (by repeat (first|exact trivial|exact rfl|refine And.intro ?_ ?_)) rfl|exact puL) ?_;refine dp 9 0 [34,35,36,37,38,39,40,41,42,45] [(true,0),(true,1)] (a_pure (sv := .one _) rfl) ?_;refine dp 10 1 [34,35,36,37,38,39,40,41,42,45] [(true,0),(true,1)] (by first|exact a_ldE (E := eR) 0 rfl rfl rfl (fC rfl) rfl rfl (Nat.le_of_ble_eq_true rfl) bnd rfl (by first|exact trivial|exact rfl)|exact a_ldE (E := eR) 1 rfl rfl rfl (fC rfl) rfl rfl (Nat.le_of_ble_eq_true rfl) bnd rfl (by first|exact trivial|exact rfl)|exact a_ldE (E := eR) 2 rfl rfl rfl (fC rfl) rfl rfl (Nat.le_of_ble_eq_true rfl) bnd rfl (by first|exact trivial|exact rfl)|exact puL) ?_;refine dp 11 0 [34,35,36,37,38,39,40,41,42,43,44] [(true,0),(true,1)] (by first|exact a_ldE (E := eR) 0 rfl rfl rfl (fC rfl) rfl rfl (Nat.le_of_ble_eq_true rfl) bnd rfl (by first|exact trivial|exact rfl)|exact a_ldsE (E := eR) 0 rfl rfl rfl (fA rfl) rfl rfl (Nat.le_of_ble_eq_true rfl) (Nat.le_of_ble_eq_true rfl) bnd rfl (by repeat (first|exact trivial|exact rfl|refine And.intro ?_ ?_)) rfl|exact puL) ?_;refine dp 12 2015 [34,40] [] (callFD 2 (hD := (childM_ok _ _ _ preB104 preB104 preB104))) ?_;refine duN 13 4095 [34] [] (callD0 (n := _) 2 (θ := [0,1]) (hD := (look_ok st sy B _ h2y preB104 preB104))) (by exact rfl) (by exact rfl) ?_;refine duN 14 16383 [] [] (callD0 (n := _) 2 (θ := [0,1,2,3,4,5,11,15]) (hD := (hih))) (by exact rfl) (by exact rfl) ?_;refine dp 15 32767 [] [] (a_pure (sv := .one _) rfl) ?_;(refine d_nil ?_;refine dN ?_)));any_goals kernel_rfl)|((first|refine o_gs rfl rfl (fun hc => ?_) (fun hc => ?_)|refine g_cond rfl (fun hc => ?_) (fun hc => ?_)) <;> (try simp only [dcB] at hc) <;> (try first|contradiction|(exfalso;omega)))
              repeat refine cr ?_
              refine ends_id ?_
              refine endK [?_] (h2 := ?_) (h3 := ?_) (nd := ?_)
              rotate_left 1
              all_goals (repeat' first|exact ce0|refine ce ?_|refine ce2 ?_ ?_|(refine Or.inr (bx_eq rfl rfl ?_);(try dsimp only [C.ren,C.ren.all]);(try exact rfl))|exact SVLe.refl|refine ceb ?_)
              all_goals first | exact (show nodupB _ = true from rfl) | exact Or.inr rfl | (rfl)
          · have hT : acc ++ q :: trs B g q x (chR x).length = ac := by
              rw [k2,show k.toNat = (chR x).length by omega]
              simp
            rw [hT,List.take_of_length_le (by omega),decide_eq_true k3]
            repeat' first|(apply n3;exact a_new (gb := .bx _) rfl;exact rfl;refine dA ?_)|(apply p3;(first|exact pu1|exact puL|exact puC|exact a_ldE (E := eR) 0 rfl rfl rfl (fC rfl) rfl rfl (Nat.le_of_ble_eq_true rfl) bnd rfl (by first|exact trivial|exact rfl)|exact a_ldsE (E := eR) 0 rfl rfl rfl (fA rfl) rfl rfl (Nat.le_of_ble_eq_true rfl) (Nat.le_of_ble_eq_true rfl) bnd rfl (by repeat (first|exact trivial|exact rfl|refine And.intro ?_ ?_)) rfl|exact a_add rfl rfl (by omega) (by omega)|exact puI);exact rfl)|refine cd ?_|(apply w3;(first|exact a_st_bx rfl rfl rfl rfl (fN rfl rfl) (Nat.le_of_ble_eq_true rfl) rfl|exact a_stE (E := eR) ⟨_,_,_⟩ rfl rfl rfl rfl (fN rfl rfl) bnd (by exact rfl));exact rfl;refine dS ?_)|(apply g_drN (id := 11) okM [[],[],[],[2],[1,2,3],[1,2,3,4],[],[],[7],[],[9],[],[1,2,3,4,5,7,8,9,10,11],[1,2,3,4,5,6,7,8,9,10,11,12],[0,1,2,3,4,5,6,7,8,9,10,11,12,13],[0,1,2,3,4,5,6,7,8,9,10,11,12,13,14]] [([],[]),([],[]),([],[]),([],[]),([0],[]),([1],[]),([],[]),([],[]),([],[]),([],[]),([],[]),([],[]),([],[]),([],[0,1]),([2],[0,1,2,3,4,5,11,15]),([],[])] 3;(focus (refine dp 0 0 [35,36,37,38,39,40,41,42,43,44,45,46,47] [(true,0),(true,1),(false,0),(false,1)] (by first|exact a_ldsE (E := eR) 0 rfl rfl rfl (fA rfl) rfl rfl (Nat.le_of_ble_eq_true rfl) (Nat.le_of_ble_eq_true rfl) bnd rfl (by repeat (first|exact trivial|exact rfl|refine And.intro ?_ ?_)) rfl|exact puL) ?_;refine dp 1 0 [34,36,37,40,41,42,43,44,45] [] pu1 ?_;refine dp 2 0 [34,35,40,41,42,43,44,45] [] pu1 ?_;refine dp 3 1 [34,35,40,41,42,43,44,45] [] (a_litF (dst := some 37) eI [_] rfl rfl rfl rfl rfl rfl rfl rfl nowR) ?_;refine duE 4 7 [34,40,41,42,43,44,45] [] (atN 0 (fun _ => a_litE eW [_,_] rfl rfl rfl rfl rfl rfl rfl rfl)) (by exact rfl) (by exact rfl) ?_;refine duN 5 15 [34,40,41,42,43,44,45] [] (callD1 (n := _) 1 (θ := []) (hD := (joined_ok _ preB104))) (by exact rfl) (by exact rfl) ?_;refine dp 6 0 [34,35,36,37,38,39,41,42,43,44,45,46] [(true,0),(true,1)] (by first|exact a_ldsE (E := eR) 0 rfl rfl rfl (fA rfl) rfl rfl (Nat.le_of_ble_eq_true rfl) (Nat.le_of_ble_eq_true rfl) bnd rfl (by repeat (first|exact trivial|exact rfl|refine And.intro ?_ ?_)) rfl|exact puL) ?_;refine dp 7 0 [34,35,36,37,38,39,40,43,44,45] [(true,0),(true,1)] (a_pure (sv := .one _) rfl) ?_;refine dp 8 1 [34,35,36,37,38,39,40,43,44,45] [(true,0),(true,1)] (by first|exact a_ldsE (E := eR) 0 rfl rfl rfl (fA rfl) rfl rfl (Nat.le_of_ble_eq_true rfl) (Nat.le_of_ble_eq_true rfl) bnd rfl (by repeat (first|exact trivial|exact rfl|refine And.intro ?_ ?_)) rfl|exact puL) ?_;refine dp 9 0 [34,35,36,37,38,39,40,41,42,45] [(true,0),(true,1)] (a_pure (sv := .one _) rfl) ?_;refine dp 10 1 [34,35,36,37,38,39,40,41,42,45] [(true,0),(true,1)] (by first|exact a_ldE (E := eR) 0 rfl rfl rfl (fC rfl) rfl rfl (Nat.le_of_ble_eq_true rfl) bnd rfl (by first|exact trivial|exact rfl)|exact a_ldE (E := eR) 1 rfl rfl rfl (fC rfl) rfl rfl (Nat.le_of_ble_eq_true rfl) bnd rfl (by first|exact trivial|exact rfl)|exact a_ldE (E := eR) 2 rfl rfl rfl (fC rfl) rfl rfl (Nat.le_of_ble_eq_true rfl) bnd rfl (by first|exact trivial|exact rfl)|exact puL) ?_;refine dp 11 0 [34,35,36,37,38,39,40,41,42,43,44] [(true,0),(true,1)] (by first|exact a_ldE (E := eR) 0 rfl rfl rfl (fC rfl) rfl rfl (Nat.le_of_ble_eq_true rfl) bnd rfl (by first|exact trivial|exact rfl)|exact a_ldsE (E := eR) 0 rfl rfl rfl (fA rfl) rfl rfl (Nat.le_of_ble_eq_true rfl) (Nat.le_of_ble_eq_true rfl) bnd rfl (by repeat (first|exact trivial|exact rfl|refine And.intro ?_ ?_)) rfl|exact puL) ?_;refine dp 12 2015 [34,40] [] (callFD 2 (hD := (childM_ok _ _ _ preB104 preB104 preB104))) ?_;refine duN 13 4095 [34] [] (callD0 (n := _) 2 (θ := [0,1]) (hD := (look_ok st sy B _ h2y preB104 preB104))) (by exact rfl) (by exact rfl) ?_;refine duN 14 16383 [] [] (callD0 (n := _) 2 (θ := [0,1,2,3,4,5,11,15]) (hD := (hih))) (by exact rfl) (by exact rfl) ?_;refine dp 15 32767 [] [] (a_pure (sv := .one _) rfl) ?_;(refine d_nil ?_;refine dN ?_)));any_goals kernel_rfl)|((first|refine o_gs rfl rfl (fun hc => ?_) (fun hc => ?_)|refine g_cond rfl (fun hc => ?_) (fun hc => ?_)) <;> (try simp only [dcB] at hc) <;> (try first|contradiction|(exfalso;omega)))
            repeat refine cr ?_
            refine ends_id ?_
            refine endK [?_] (h2 := ?_) (h3 := ?_) (nd := ?_)
            rotate_left 1
            all_goals (repeat' first|exact ce0|refine ce ?_|refine ce2 ?_ ?_|(refine Or.inr (bx_eq rfl rfl ?_);(try dsimp only [C.ren,C.ren.all]);(try exact rfl))|exact SVLe.refl|refine ceb ?_)
            all_goals first | exact (show nodupB _ = true from rfl) | exact Or.inr rfl | (rfl)
theorem visit_all (st sy B depth : Int) (Z : Foot) (h5 : 0 ≤ B) (h6 : B ≤ 1000000) (hd : depth ≤ 36) : ∀ f,VisD st sy B depth Z f
  | 0 => fun q x acc hx hq ha => visit_ok st sy B depth Z 0 q x acc h5 h6 hd hx hq ha (fun g h => by omega)
  | f + 1 => fun q x acc hx hq ha => visit_ok st sy B depth Z (f + 1) q x acc h5 h6 hd hx hq ha (fun g h => by
    obtain rfl : g = f := by omega
    exact visit_all st sy B depth Z h5 h6 hd g)
@[irreducible] def blT (st sy B depth : Int) (p : List Int) : Option (List (List Int)) := (pth B (root sy st) p).map fun x => if (p.length : Int) ≤ depth then tre B (depth - p.length).toNat p x else []
@[irreducible] def blC (st sy B depth : Int) (p : List Int) : Int := match blT st sy B depth p with
  | none => 3
  | some T => if (T.length : Int) ≤ 400 then 0 else 5
@[irreducible] def blL (st sy B depth : Int) (p : List Int) : List (List Int) := match blT st sy B depth p with
  | none => []
  | some T => if (T.length : Int) ≤ 400 then T else []
theorem bl_none {st sy B depth : Int} {p : List Int} (h : pth B (root sy st) p = none) : blC st sy B depth p = 3 ∧ blL st sy B depth p = [] := by
  have e : blT st sy B depth p = none := by unfold blT; rw [h]; rfl
  unfold blC blL; rw [e]; exact ⟨rfl,rfl⟩
theorem bl_some {st sy B depth : Int} {p : List Int} {x : Mach} (h : pth B (root sy st) p = some x) : blT st sy B depth p = some (if (p.length : Int) ≤ depth then tre B (depth - p.length).toNat p x else []) := by
  unfold blT; rw [h]; rfl
theorem bl_fit {st sy B depth : Int} {p : List Int} {T : List (List Int)} (h : blT st sy B depth p = some T) (hf : (T.length : Int) ≤ 400) : blC st sy B depth p = 0 ∧ blL st sy B depth p = T := by
  unfold blC blL; rw [h]; exact ⟨if_pos hf,if_pos hf⟩
theorem bl_full {st sy B depth : Int} {p : List Int} {T : List (List Int)} (h : blT st sy B depth p = some T) (hf : ¬ (T.length : Int) ≤ 400) : blC st sy B depth p = 5 ∧ blL st sy B depth p = [] := by
  unfold blC blL; rw [h]; exact ⟨if_neg hf,if_neg hf⟩
theorem below_ok (st sy B depth : Int) (p : List Int) (Z : Foot) (hp : (p.length : Int) ≤ 1048576) (h1 : 1 ≤ st) (h2 : st ≤ 6) (h3 : 2 ≤ sy) (h4 : sy ≤ 6) (h5 : 0 ≤ B) (h6 : B ≤ 1000000) (hd0 : 0 ≤ depth) (hd : depth ≤ 36) : Does Tryz.prog 97 [.one (.gv 0),.one (shI p),.one (int depth)] [.bx (foC st sy B 0),foM B sy st 1,.opq (zw Z) []] (.tup [(false,[.gv 3]),(false,[int (blC st sy B depth p)])]) [.bx (foC st sy B 0),foM B sy st 1,.opq (zw Z) [],thR Z (blL st sy B depth p) 3] := by
  have hr := root_ok h3 h4 h1 (by omega)
  have hls := pthL_pth (B := B) p (root sy st)
  refine does_of (k := 3) Tryz.func97 rfl Tryz.ntmps97 rfl rfl fun w F0 S0 ρ0 => ?_
  dsimp only [argT,argH]
  repeat' first|(apply n3;exact a_nilO eVv rfl;exact rfl)|(apply n3;(first|exact a_new (gb := .bx _) rfl|exact a_litE eW [] rfl rfl rfl rfl rfl rfl rfl rfl);exact rfl;refine dA ?_)|(apply p3;exact a_pure (sv := .one _) rfl;exact rfl)|refine cdn ?_|refine g_reg (id := 0) ?_|refine g_reg (id := 1) ?_|refine g_reg (id := 2) ?_|refine g_reg (id := 3) ?_|(apply w3;exact a_st_bx rfl rfl rfl rfl (fN rfl rfl) (Nat.le_of_ble_eq_true rfl) rfl;exact rfl;refine dS ?_)|((first|refine o_gs rfl rfl (fun hc => ?_) (fun hc => ?_)|refine g_cond rfl (fun hc => ?_) (fun hc => ?_)) <;> (try simp only [dcB] at hc) <;> (try first|contradiction|(exfalso;omega)))
  refine g_conv (t_mkT (i := 6) (q := 2) rfl rfl) ?_
  cases hv : pth B (root sy st) p with
  | none =>
    obtain ⟨e1,e2⟩ := bl_none (depth := depth) hv
    rw [e1,e2]
    rw [hv] at hls
    repeat' first|(apply n3;exact a_nilO eVv rfl;exact rfl)|(apply n3;(first|exact a_new (gb := .bx _) rfl|exact a_litE eW [] rfl rfl rfl rfl rfl rfl rfl rfl);exact rfl;refine dA ?_)|(apply p3;(first|exact pu1|exact puL|exact a_ldsE (E := (eNd B)) 0 rfl rfl rfl (fA rfl) rfl rfl (Nat.le_of_ble_eq_true rfl) (Nat.le_of_ble_eq_true rfl) bnd rfl (by repeat (first|exact trivial|exact rfl|refine And.intro ?_ ?_)) rfl);exact rfl)|refine cdn ?_|refine g_reg (id := 0) ?_|refine g_reg (id := 1) ?_|refine g_reg (id := 2) ?_|refine g_reg (id := 3) ?_|refine g_reg (id := 4) ?_|(apply w3;exact a_st_bx rfl rfl rfl rfl (fN rfl rfl) (Nat.le_of_ble_eq_true rfl) rfl;exact rfl;refine dS ?_)|(apply c4 1;exact callK0 (θ := [0,1]) (hD := (at_f_ok st sy B p preB104 preB104 preB104 preB104 preB104 preB104 preB104));exact rfl;exact rfl;exact rfl;refine dM ?_)|((first|refine o_gs rfl rfl (fun hc => ?_) (fun hc => ?_)|refine g_cond rfl (fun hc => ?_) (fun hc => ?_)) <;> (try simp only [dcB] at hc) <;> (try first|contradiction|(exfalso;omega)))
    simp only [hls,Option.isSome_none]
    repeat' first|(apply n3;exact a_nilO eVv rfl;exact rfl)|(apply n3;(first|exact a_new (gb := .bx _) rfl|exact a_litE eW [] rfl rfl rfl rfl rfl rfl rfl rfl);exact rfl;refine dA ?_)|(apply p3;(first|exact pu1|exact puL|exact a_ldsE (E := (eNd B)) 0 rfl rfl rfl (fA rfl) rfl rfl (Nat.le_of_ble_eq_true rfl) (Nat.le_of_ble_eq_true rfl) bnd rfl (by repeat (first|exact trivial|exact rfl|refine And.intro ?_ ?_)) rfl|exact a_ldE (E := (eNd B)) 0 rfl rfl rfl (fC rfl) rfl rfl (Nat.le_of_ble_eq_true rfl) bnd rfl (by first|exact trivial|exact rfl)|exact a_ldE (E := (eNd B)) 1 rfl rfl rfl (fC rfl) rfl rfl (Nat.le_of_ble_eq_true rfl) bnd rfl (by first|exact trivial|exact rfl)|exact a_ldE (E := (eNd B)) 2 rfl rfl rfl (fC rfl) rfl rfl (Nat.le_of_ble_eq_true rfl) bnd rfl (by first|exact trivial|exact rfl)|exact a_ldE (E := (eNd B)) 3 rfl rfl rfl (fC rfl) rfl rfl (Nat.le_of_ble_eq_true rfl) bnd rfl (by first|exact trivial|exact rfl)|exact a_ldE (E := (eNd B)) 4 rfl rfl rfl (fC rfl) rfl rfl (Nat.le_of_ble_eq_true rfl) bnd rfl (by first|exact trivial|exact rfl));exact rfl)|refine cd ?_|(apply w3;exact a_st_bx rfl rfl rfl rfl (fN rfl rfl) (Nat.le_of_ble_eq_true rfl) rfl;exact rfl;refine dS ?_)|(apply c4 1;exact callK0 (θ := [0,1]) (hD := (at_f_ok st sy B p preB104 preB104 preB104 preB104 preB104 preB104 preB104));exact rfl;exact rfl;exact rfl;refine dM ?_)|((first|refine o_gs rfl rfl (fun hc => ?_) (fun hc => ?_)|refine g_cond rfl (fun hc => ?_) (fun hc => ?_)) <;> (try simp only [dcB] at hc) <;> (try first|contradiction|(exfalso;omega)))
    refine g_conv (t_mkT (i := 10) (q := 2) rfl rfl) ?_
    repeat refine cr ?_
    refine ends_id ?_
    refine endK [?_] (h2 := ?_) (h3 := ?_) (nd := ?_)
    rotate_left 1
    all_goals (repeat' first|exact ce0|refine ce ?_|refine ce2 ?_ ?_|(refine Or.inr (bx_eq rfl rfl ?_);(try dsimp only [C.ren,C.ren.all]);(try exact rfl))|exact SVLe.refl|refine ceb ?_)
    all_goals first | exact (show nodupB _ = true from rfl) | exact Or.inr rfl | (rfl)
  | some x =>
    obtain ⟨L,hL,hLl,hLg⟩ := pthL_some hv
    have hx := (pth_ok hr hv).1
    have hg : L[((p.length : Nat) : Int).toNat]'(by omega) = x := by
      have := hLg ((p.length : Nat) : Int).toNat (by omega)
      rw [List.take_of_length_le (by simp),hv] at this
      exact (Option.some.inj this).symm
    have hbs := bl_some (depth := depth) hv
    repeat' first|(apply n3;exact a_nilO eVv rfl;exact rfl)|(apply n3;(first|exact a_new (gb := .bx _) rfl|exact a_litE eW [] rfl rfl rfl rfl rfl rfl rfl rfl);exact rfl;refine dA ?_)|(apply p3;(first|exact pu1|exact puL|exact a_ldsE (E := (eNd B)) 0 rfl rfl rfl (fA rfl) rfl rfl (Nat.le_of_ble_eq_true rfl) (Nat.le_of_ble_eq_true rfl) bnd rfl (by repeat (first|exact trivial|exact rfl|refine And.intro ?_ ?_)) rfl);exact rfl)|refine cdn ?_|refine g_reg (id := 0) ?_|refine g_reg (id := 1) ?_|refine g_reg (id := 2) ?_|refine g_reg (id := 3) ?_|refine g_reg (id := 4) ?_|(apply w3;exact a_st_bx rfl rfl rfl rfl (fN rfl rfl) (Nat.le_of_ble_eq_true rfl) rfl;exact rfl;refine dS ?_)|(apply c4 1;exact callK0 (θ := [0,1]) (hD := (at_f_ok st sy B p preB104 preB104 preB104 preB104 preB104 preB104 preB104));exact rfl;exact rfl;exact rfl;refine dM ?_)|((first|refine o_gs rfl rfl (fun hc => ?_) (fun hc => ?_)|refine g_cond rfl (fun hc => ?_) (fun hc => ?_)) <;> (try simp only [dcB] at hc) <;> (try first|contradiction|(exfalso;omega)))
    simp only [hL,Option.isSome_some,Option.getD_some]
    by_cases hpd : (p.length : Int) ≤ depth
    · rw [if_pos hpd] at hbs
      have hvis := visit_all st sy B depth Z h5 h6 hd (depth - p.length).toNat p x [] hx (by omega) (by simp)
      simp only [List.nil_append] at hvis
      rw [← hg] at hvis hbs
      by_cases hf : ((tre B (depth - p.length).toNat p (L[((p.length : Nat) : Int).toNat]'(by omega))).length : Int) ≤ 400
      · obtain ⟨e1,e2⟩ := bl_fit hbs hf
        rw [e1,e2]
        rw [List.take_of_length_le (by omega),decide_eq_true hf] at hvis
        repeat' first|(apply n3;exact a_nilO eVv rfl;exact rfl)|(apply n3;(first|exact a_new (gb := .bx _) rfl|exact a_litE eW [] rfl rfl rfl rfl rfl rfl rfl rfl);exact rfl;refine dA ?_)|(apply p3;(first|exact pu1|exact puL|exact a_ldsE (E := (eNd B)) 0 rfl rfl rfl (fA rfl) rfl rfl (Nat.le_of_ble_eq_true rfl) (Nat.le_of_ble_eq_true rfl) bnd rfl (by repeat (first|exact trivial|exact rfl|refine And.intro ?_ ?_)) rfl|exact a_ldE (E := (eNd B)) 0 rfl rfl rfl (fC rfl) rfl rfl (Nat.le_of_ble_eq_true rfl) bnd rfl (by first|exact trivial|exact rfl)|exact a_ldE (E := (eNd B)) 1 rfl rfl rfl (fC rfl) rfl rfl (Nat.le_of_ble_eq_true rfl) bnd rfl (by first|exact trivial|exact rfl)|exact a_ldE (E := (eNd B)) 2 rfl rfl rfl (fC rfl) rfl rfl (Nat.le_of_ble_eq_true rfl) bnd rfl (by first|exact trivial|exact rfl)|exact a_ldE (E := (eNd B)) 3 rfl rfl rfl (fC rfl) rfl rfl (Nat.le_of_ble_eq_true rfl) bnd rfl (by first|exact trivial|exact rfl)|exact a_ldE (E := (eNd B)) 4 rfl rfl rfl (fC rfl) rfl rfl (Nat.le_of_ble_eq_true rfl) bnd rfl (by first|exact trivial|exact rfl));exact rfl)|refine cd ?_|(apply w3;exact a_st_bx rfl rfl rfl rfl (fN rfl rfl) (Nat.le_of_ble_eq_true rfl) rfl;exact rfl;refine dS ?_)|(apply c4 1;exact callK0 (θ := [0,1]) (hD := (at_f_ok st sy B p preB104 preB104 preB104 preB104 preB104 preB104 preB104));exact rfl;exact rfl;exact rfl;refine dM ?_)|(apply g_drN (id := 7) okM [[],[],[1],[],[],[4],[3,4,5],[3,4,5,6],[0,1,2,3,4,5,6,7],[0,1,2,3,4,5,6,7,8],[0,1,2,3,4,5,6,7,8,9]] [([],[]),([],[]),([0],[]),([],[]),([],[]),([],[]),([],[]),([],[]),([1],[0,1,4,7,8,3,6,10]),([],[]),([],[])] 2;(focus (refine dp 0 0 [25,26,27,28,29,30,31] [(true,0)] (by first|exact a_ldsE (E := (eNd B)) 0 rfl rfl rfl (fA rfl) rfl rfl (Nat.le_of_ble_eq_true rfl) (Nat.le_of_ble_eq_true rfl) bnd rfl (by repeat (first|exact trivial|exact rfl|refine And.intro ?_ ?_)) rfl|exact puL) ?_;refine dp 1 0 [24,27,28,29,30,31] [] pu1 ?_;refine duN 2 1 [24,27,28,29,30,31] [] (callD1 (n := _) 0 (θ := []) (hD := (clone_ok _ preB104))) (by exact rfl) (by exact rfl) ?_;refine dp 3 0 [24,25,26,28,29] [(true,0)] pu1 ?_;refine dp 4 0 [24,25,26,27] [(true,0)] pu1 ?_;refine dp 5 1 [24,25,26,27] [(true,0)] (by first|exact puN|exact a_pure (sv := .one _) rfl|exact a_len_str rfl (fT rfl)) ?_;refine dp 6 7 [24,25,26] [(true,0)] puI ?_;refine dp 7 15 [24,25,26] [(true,0)] (by first|exact a_ldE (E := (eNd B)) 0 rfl rfl rfl (fC rfl) rfl rfl (Nat.le_of_ble_eq_true rfl) bnd rfl (by first|exact trivial|exact rfl)|exact a_ldsE (E := (eNd B)) 0 rfl rfl rfl (fA rfl) rfl rfl (Nat.le_of_ble_eq_true rfl) (Nat.le_of_ble_eq_true rfl) bnd rfl (by repeat (first|exact trivial|exact rfl|refine And.intro ?_ ?_)) rfl|exact puL) ?_;refine duN 8 255 [] [] (callD0 (n := _) 1 (θ := [0,1,4,7,8,3,6,10]) (hD := (hvis))) (by exact rfl) (by exact rfl) ?_;refine dp 9 511 [] [] (a_pure (sv := .one _) rfl) ?_;refine dp 10 1023 [] [] pu1 ?_;(refine d_nil ?_;refine dN ?_)));any_goals kernel_rfl)|((first|refine o_gs rfl rfl (fun hc => ?_) (fun hc => ?_)|refine g_cond rfl (fun hc => ?_) (fun hc => ?_)) <;> (try simp only [dcB] at hc) <;> (try first|contradiction|(exfalso;omega)))
        repeat refine cr ?_
        refine ends_id ?_
        refine endK [?_] (h2 := ?_) (h3 := ?_) (nd := ?_)
        rotate_left 1
        all_goals (repeat' first|exact ce0|refine ce ?_|refine ce2 ?_ ?_|(refine Or.inr (bx_eq rfl rfl ?_);(try dsimp only [C.ren,C.ren.all]);(try exact rfl))|exact SVLe.refl|refine ceb ?_)
        all_goals first | exact (show nodupB _ = true from rfl) | exact Or.inr rfl | (rfl)
      · obtain ⟨e1,e2⟩ := bl_full hbs hf
        rw [e1,e2]
        rw [decide_eq_false hf] at hvis
        repeat' first|(apply n3;exact a_nilO eVv rfl;exact rfl)|(apply n3;(first|exact a_new (gb := .bx _) rfl|exact a_litE eW [] rfl rfl rfl rfl rfl rfl rfl rfl);exact rfl;refine dA ?_)|(apply p3;(first|exact pu1|exact puL|exact a_ldsE (E := (eNd B)) 0 rfl rfl rfl (fA rfl) rfl rfl (Nat.le_of_ble_eq_true rfl) (Nat.le_of_ble_eq_true rfl) bnd rfl (by repeat (first|exact trivial|exact rfl|refine And.intro ?_ ?_)) rfl|exact a_ldE (E := (eNd B)) 0 rfl rfl rfl (fC rfl) rfl rfl (Nat.le_of_ble_eq_true rfl) bnd rfl (by first|exact trivial|exact rfl)|exact a_ldE (E := (eNd B)) 1 rfl rfl rfl (fC rfl) rfl rfl (Nat.le_of_ble_eq_true rfl) bnd rfl (by first|exact trivial|exact rfl)|exact a_ldE (E := (eNd B)) 2 rfl rfl rfl (fC rfl) rfl rfl (Nat.le_of_ble_eq_true rfl) bnd rfl (by first|exact trivial|exact rfl)|exact a_ldE (E := (eNd B)) 3 rfl rfl rfl (fC rfl) rfl rfl (Nat.le_of_ble_eq_true rfl) bnd rfl (by first|exact trivial|exact rfl)|exact a_ldE (E := (eNd B)) 4 rfl rfl rfl (fC rfl) rfl rfl (Nat.le_of_ble_eq_true rfl) bnd rfl (by first|exact trivial|exact rfl));exact rfl)|refine cd ?_|(apply w3;exact a_st_bx rfl rfl rfl rfl (fN rfl rfl) (Nat.le_of_ble_eq_true rfl) rfl;exact rfl;refine dS ?_)|(apply c4 1;exact callK0 (θ := [0,1]) (hD := (at_f_ok st sy B p preB104 preB104 preB104 preB104 preB104 preB104 preB104));exact rfl;exact rfl;exact rfl;refine dM ?_)|(apply g_drN (id := 7) okM [[],[],[1],[],[],[4],[3,4,5],[3,4,5,6],[0,1,2,3,4,5,6,7],[0,1,2,3,4,5,6,7,8],[0,1,2,3,4,5,6,7,8,9]] [([],[]),([],[]),([0],[]),([],[]),([],[]),([],[]),([],[]),([],[]),([1],[0,1,4,7,8,3,6,10]),([],[]),([],[])] 2;(focus (refine dp 0 0 [25,26,27,28,29,30,31] [(true,0)] (by first|exact a_ldsE (E := (eNd B)) 0 rfl rfl rfl (fA rfl) rfl rfl (Nat.le_of_ble_eq_true rfl) (Nat.le_of_ble_eq_true rfl) bnd rfl (by repeat (first|exact trivial|exact rfl|refine And.intro ?_ ?_)) rfl|exact puL) ?_;refine dp 1 0 [24,27,28,29,30,31] [] pu1 ?_;refine duN 2 1 [24,27,28,29,30,31] [] (callD1 (n := _) 0 (θ := []) (hD := (clone_ok _ preB104))) (by exact rfl) (by exact rfl) ?_;refine dp 3 0 [24,25,26,28,29] [(true,0)] pu1 ?_;refine dp 4 0 [24,25,26,27] [(true,0)] pu1 ?_;refine dp 5 1 [24,25,26,27] [(true,0)] (by first|exact puN|exact a_pure (sv := .one _) rfl|exact a_len_str rfl (fT rfl)) ?_;refine dp 6 7 [24,25,26] [(true,0)] puI ?_;refine dp 7 15 [24,25,26] [(true,0)] (by first|exact a_ldE (E := (eNd B)) 0 rfl rfl rfl (fC rfl) rfl rfl (Nat.le_of_ble_eq_true rfl) bnd rfl (by first|exact trivial|exact rfl)|exact a_ldsE (E := (eNd B)) 0 rfl rfl rfl (fA rfl) rfl rfl (Nat.le_of_ble_eq_true rfl) (Nat.le_of_ble_eq_true rfl) bnd rfl (by repeat (first|exact trivial|exact rfl|refine And.intro ?_ ?_)) rfl|exact puL) ?_;refine duN 8 255 [] [] (by first|exact callD0 (n := _) 1 (θ := [0,1,4,7,8,3,6,10]) (hD := (hvis))|exact callD0 (n := _) 1 (θ := [0,1,4,7,8,3,6,10]) (hD := (hvis))) (by exact rfl) (by exact rfl) ?_;refine dp 9 511 [] [] (a_pure (sv := .one _) rfl) ?_;refine dp 10 1023 [] [] pu1 ?_;(refine d_nil ?_;refine dN ?_)));any_goals kernel_rfl)|((first|refine o_gs rfl rfl (fun hc => ?_) (fun hc => ?_)|refine g_cond rfl (fun hc => ?_) (fun hc => ?_)) <;> (try simp only [dcB] at hc) <;> (try first|contradiction|(exfalso;omega)))
        refine g_conv (t_mkT (i := 12) (q := 2) rfl rfl) ?_
        repeat refine cr ?_
        refine ends_id ?_
        refine endK [?_] (h2 := ?_) (h3 := ?_) (nd := ?_)
        rotate_left 1
        all_goals (repeat' first|exact ce0|refine ce ?_|refine ce2 ?_ ?_|(refine Or.inr (bx_eq rfl rfl ?_);(try dsimp only [C.ren,C.ren.all]);(try exact rfl))|exact SVLe.refl|refine ceb ?_)
        all_goals first | exact (show nodupB _ = true from rfl) | exact Or.inr rfl | (rfl)
    · rw [if_neg hpd] at hbs
      obtain ⟨e1,e2⟩ := bl_fit hbs (by simp)
      rw [e1,e2]
      have hvis := visitL_ok st sy B depth Z [] p x (by omega) hp
      rw [← hg] at hvis
      repeat' first|(apply n3;exact a_nilO eVv rfl;exact rfl)|(apply n3;(first|exact a_new (gb := .bx _) rfl|exact a_litE eW [] rfl rfl rfl rfl rfl rfl rfl rfl);exact rfl;refine dA ?_)|(apply p3;(first|exact pu1|exact puL|exact a_ldsE (E := (eNd B)) 0 rfl rfl rfl (fA rfl) rfl rfl (Nat.le_of_ble_eq_true rfl) (Nat.le_of_ble_eq_true rfl) bnd rfl (by repeat (first|exact trivial|exact rfl|refine And.intro ?_ ?_)) rfl|exact a_ldE (E := (eNd B)) 0 rfl rfl rfl (fC rfl) rfl rfl (Nat.le_of_ble_eq_true rfl) bnd rfl (by first|exact trivial|exact rfl)|exact a_ldE (E := (eNd B)) 1 rfl rfl rfl (fC rfl) rfl rfl (Nat.le_of_ble_eq_true rfl) bnd rfl (by first|exact trivial|exact rfl)|exact a_ldE (E := (eNd B)) 2 rfl rfl rfl (fC rfl) rfl rfl (Nat.le_of_ble_eq_true rfl) bnd rfl (by first|exact trivial|exact rfl)|exact a_ldE (E := (eNd B)) 3 rfl rfl rfl (fC rfl) rfl rfl (Nat.le_of_ble_eq_true rfl) bnd rfl (by first|exact trivial|exact rfl)|exact a_ldE (E := (eNd B)) 4 rfl rfl rfl (fC rfl) rfl rfl (Nat.le_of_ble_eq_true rfl) bnd rfl (by first|exact trivial|exact rfl));exact rfl)|refine cd ?_|(apply w3;exact a_st_bx rfl rfl rfl rfl (fN rfl rfl) (Nat.le_of_ble_eq_true rfl) rfl;exact rfl;refine dS ?_)|(apply c4 1;exact callK0 (θ := [0,1]) (hD := (at_f_ok st sy B p preB104 preB104 preB104 preB104 preB104 preB104 preB104));exact rfl;exact rfl;exact rfl;refine dM ?_)|(apply g_drN (id := 7) okM [[],[],[1],[],[],[4],[3,4,5],[3,4,5,6],[0,1,2,3,4,5,6,7],[0,1,2,3,4,5,6,7,8],[0,1,2,3,4,5,6,7,8,9]] [([],[]),([],[]),([0],[]),([],[]),([],[]),([],[]),([],[]),([],[]),([1],[0,1,4,7,8,3,6,10]),([],[]),([],[])] 2;(focus (refine dp 0 0 [25,26,27,28,29,30,31] [(true,0)] (by first|exact a_ldsE (E := (eNd B)) 0 rfl rfl rfl (fA rfl) rfl rfl (Nat.le_of_ble_eq_true rfl) (Nat.le_of_ble_eq_true rfl) bnd rfl (by repeat (first|exact trivial|exact rfl|refine And.intro ?_ ?_)) rfl|exact puL) ?_;refine dp 1 0 [24,27,28,29,30,31] [] pu1 ?_;refine duN 2 1 [24,27,28,29,30,31] [] (callD1 (n := _) 0 (θ := []) (hD := (clone_ok _ preB104))) (by exact rfl) (by exact rfl) ?_;refine dp 3 0 [24,25,26,28,29] [(true,0)] pu1 ?_;refine dp 4 0 [24,25,26,27] [(true,0)] pu1 ?_;refine dp 5 1 [24,25,26,27] [(true,0)] (by first|exact puN|exact a_pure (sv := .one _) rfl|exact a_len_str rfl (fT rfl)) ?_;refine dp 6 7 [24,25,26] [(true,0)] puI ?_;refine dp 7 15 [24,25,26] [(true,0)] (by first|exact a_ldE (E := (eNd B)) 0 rfl rfl rfl (fC rfl) rfl rfl (Nat.le_of_ble_eq_true rfl) bnd rfl (by first|exact trivial|exact rfl)|exact a_ldsE (E := (eNd B)) 0 rfl rfl rfl (fA rfl) rfl rfl (Nat.le_of_ble_eq_true rfl) (Nat.le_of_ble_eq_true rfl) bnd rfl (by repeat (first|exact trivial|exact rfl|refine And.intro ?_ ?_)) rfl|exact puL) ?_;refine duN 8 255 [] [] (by first|exact callD0 (n := _) 1 (θ := [0,1,4,7,8,3,6,10]) (hD := (hvis))|exact callD0 (n := _) 1 (θ := [0,1,4,7,8,3,6,10]) (hD := (hvis))|exact callD0 (n := _) 1 (θ := [0,1,4,7,8,3,6,10]) (hD := (hvis))) (by exact rfl) (by exact rfl) ?_;refine dp 9 511 [] [] (a_pure (sv := .one _) rfl) ?_;refine dp 10 1023 [] [] pu1 ?_;(refine d_nil ?_;refine dN ?_)));any_goals kernel_rfl)|((first|refine o_gs rfl rfl (fun hc => ?_) (fun hc => ?_)|refine g_cond rfl (fun hc => ?_) (fun hc => ?_)) <;> (try simp only [dcB] at hc) <;> (try first|contradiction|(exfalso;omega)))
      repeat refine cr ?_
      refine ends_id ?_
      refine endK [?_] (h2 := ?_) (h3 := ?_) (nd := ?_)
      rotate_left 1
      all_goals (repeat' first|exact ce0|refine ce ?_|refine ce2 ?_ ?_|(refine Or.inr (bx_eq rfl rfl ?_);(try dsimp only [C.ren,C.ren.all]);(try exact rfl))|exact SVLe.refl|refine ceb ?_)
      all_goals first | exact (show nodupB _ = true from rfl) | exact Or.inr rfl | (rfl)
end Go.Proofs.YtcmdfohamphndaaGreatDoor
end
section
set_option linter.unusedVariables false
set_option linter.unusedSimpArgs false
set_option maxRecDepth 100000
set_option maxHeartbeats 4000000
namespace Go.Proofs.YtcmdfohamphndaaGreatDoor
open Go Foot
@[irreducible] def cntA (B : Int) (x : Mach) (c : List Int) : List Int := c.set (ndS x B).toNat (c.getD (ndS x B).toNat 0 + 1)
@[irreducible] def cntF (st sy B : Int) (T : List (List Int)) : List Int := T.foldl (fun c q => cntA B ((pth B (root sy st) q).getD mach0) c) [0,0,0,0]
@[irreducible] def sctC (st sy B depth : Int) : Int := if askT st sy B = 0 then if 0 ≤ depth ∧ depth ≤ 36 then blC st sy B depth [] else 2 else askT st sy B
@[irreducible] def sctL (st sy B depth : Int) : List Int := if sctC st sy B depth = 0 then cntF st sy B (blL st sy B depth []) else []
theorem sct_ask {st sy B depth : Int} (h : ¬ askT st sy B = 0) : sctC st sy B depth = askT st sy B ∧ sctL st sy B depth = [] := by
  have e : sctC st sy B depth = askT st sy B := by unfold sctC; rw [if_neg h]
  refine ⟨e,?_⟩
  unfold sctL; rw [e,if_neg h]
theorem sct_dep {st sy B depth : Int} (h : askT st sy B = 0) (h2 : ¬ (0 ≤ depth ∧ depth ≤ 36)) : sctC st sy B depth = 2 ∧ sctL st sy B depth = [] := by
  have e : sctC st sy B depth = 2 := by unfold sctC; rw [if_pos h,if_neg h2]
  refine ⟨e,?_⟩
  unfold sctL; rw [e]; rfl
theorem sct_ok {st sy B depth : Int} (h : askT st sy B = 0) (h2 : 0 ≤ depth ∧ depth ≤ 36) : ∃ T,T = tre B depth.toNat [] (root sy st) ∧ ((T.length : Int) ≤ 400 → blC st sy B depth [] = 0 ∧ blL st sy B depth [] = T ∧ sctC st sy B depth = 0 ∧ sctL st sy B depth = cntF st sy B T) ∧ (¬ (T.length : Int) ≤ 400 → blC st sy B depth [] = 5 ∧ blL st sy B depth [] = [] ∧ sctC st sy B depth = 5 ∧ sctL st sy B depth = []) := by
  refine ⟨_,rfl,?_,?_⟩
  all_goals
    intro hf
    have hd := h2
    have hb := bl_some (st := st) (sy := sy) (B := B) (depth := depth) (p := []) (x := root sy st) rfl
    rw [if_pos (by simp; omega)] at hb
    have e0 : (depth - (([] : List Int).length : Int)).toNat = depth.toNat := by simp
    rw [e0] at hb
  · obtain ⟨e1,e2⟩ := bl_fit hb hf
    have e3 : sctC st sy B depth = 0 := by unfold sctC; rw [if_pos h,if_pos h2,e1]
    refine ⟨e1,e2,e3,?_⟩
    unfold sctL; rw [e3,if_pos rfl,e2]
  · obtain ⟨e1,e2⟩ := bl_full hb hf
    have e3 : sctC st sy B depth = 5 := by unfold sctC; rw [if_pos h,if_pos h2,e1]
    refine ⟨e1,e2,e3,?_⟩
    unfold sctL; rw [e3]; rfl
end Go.Proofs.YtcmdfohamphndaaGreatDoor
end
section
set_option linter.unusedVariables false
set_option linter.unusedSimpArgs false
set_option maxRecDepth 100000
set_option maxHeartbeats 4000000
namespace Go.Proofs.YtcmdfohamphndaaGreatDoor
open Go Foot
end Go.Proofs.YtcmdfohamphndaaGreatDoor
end
section
set_option linter.unusedVariables false
set_option linter.unusedSimpArgs false
set_option maxRecDepth 100000
set_option maxHeartbeats 4000000
namespace Go.Proofs.YtcmdfohamphndaaGreatDoor
open Go Foot
end Go.Proofs.YtcmdfohamphndaaGreatDoor
end
section
set_option linter.unusedVariables false
set_option linter.unusedSimpArgs false
set_option maxRecDepth 100000
set_option maxHeartbeats 4000000
namespace Go.Proofs.YtcmdfohamphndaaGreatDoor
open Go Foot
end Go.Proofs.YtcmdfohamphndaaGreatDoor
end
section
set_option linter.unusedVariables false
set_option linter.unusedSimpArgs false
set_option maxRecDepth 100000
set_option maxHeartbeats 4000000
namespace Go.Proofs.YtcmdfohamphndaaGreatDoor
open Go Foot
theorem l30Depth_ok (d : Int) : Does Tryz.prog 94 [.one (int d)] [] (.one (boo (inB d 0 36))) [] := by
  refine does_of (k := 0) Tryz.func94 rfl Tryz.ntmps94 rfl rfl fun w F0 S0 ρ0 => ?_
  dsimp only [argT,argH]
  repeat' first|(apply p3;exact pu1;exact rfl)|refine cd ?_|(apply c4 0;exact callK1 (θ := []) (hD := (l00In_ok _ _ _));exact rfl;exact rfl;exact rfl;refine dM ?_)|((first|refine o_gs rfl rfl (fun hc => ?_) (fun hc => ?_)|refine g_cond rfl (fun hc => ?_) (fun hc => ?_)) <;> (try simp only [dcB] at hc) <;> (try first|contradiction|(exfalso;omega)))
  repeat refine cr ?_
  refine ends_id ?_
  refine endK [] (h2 := ?_) (h3 := ?_) (nd := ?_)
  all_goals (repeat' first|exact ce0|refine ce ?_|refine ce2 ?_ ?_|exact SVLe.refl|refine ceb ?_)
  all_goals first | exact (show nodupB _ = true from rfl) | exact Or.inr rfl | (rfl)
theorem depthCode_ok (s y B d : Int) : Does Tryz.prog 96 [.one (int s),.one (int y),.one (int B),.one (int d)] [] (.one (int (if askT s y B = 0 then if 0 ≤ d ∧ d ≤ 36 then 0 else 2 else askT s y B))) [] := by
  by_cases h : askT s y B = 0
  · by_cases h2 : 0 ≤ d ∧ d ≤ 36
    · rw [if_pos h,if_pos h2]
      refine does_of (k := 0) Tryz.func96 rfl Tryz.ntmps96 rfl rfl fun w F0 S0 ρ0 => ?_
      dsimp only [argT,argH]
      repeat' first|(apply p3;(first|exact pu1|exact a_ne rfl rfl|exact a_neS rfl rfl rfl);exact rfl)|refine cd ?_|(apply c4 0;exact callK1 (θ := []) (hD := (sizesCode_ok _ _ _));exact rfl;exact rfl;exact rfl;refine dM ?_)|(apply c4 0;exact callK1 (θ := []) (hD := (within_ok _ _ _));exact rfl;exact rfl;exact rfl;refine dM ?_)|((first|refine o_gs rfl rfl (fun hc => ?_) (fun hc => ?_)|refine g_cond rfl (fun hc => ?_) (fun hc => ?_)) <;> (try simp only [dcB] at hc) <;> (try first|contradiction|(exfalso;omega)))
      repeat refine cr ?_
      refine ends_id ?_
      refine endK [] (h2 := ?_) (h3 := ?_) (nd := ?_)
      all_goals (repeat' first|exact ce0|refine ce ?_|refine ce2 ?_ ?_|exact SVLe.refl|refine ceb ?_)
      all_goals first | exact (show nodupB _ = true from rfl) | exact Or.inr rfl | (rfl)
    · rw [if_pos h,if_neg h2]
      refine does_of (k := 0) Tryz.func96 rfl Tryz.ntmps96 rfl rfl fun w F0 S0 ρ0 => ?_
      dsimp only [argT,argH]
      repeat' first|(apply p3;(first|exact pu1|exact a_ne rfl rfl|exact a_neS rfl rfl rfl);exact rfl)|refine cd ?_|(apply c4 0;exact callK1 (θ := []) (hD := (sizesCode_ok _ _ _));exact rfl;exact rfl;exact rfl;refine dM ?_)|(apply c4 0;exact callK1 (θ := []) (hD := (within_ok _ _ _));exact rfl;exact rfl;exact rfl;refine dM ?_)|((first|refine o_gs rfl rfl (fun hc => ?_) (fun hc => ?_)|refine g_cond rfl (fun hc => ?_) (fun hc => ?_)) <;> (try simp only [dcB] at hc) <;> (try first|contradiction|(exfalso;omega)))
      repeat refine cr ?_
      refine ends_id ?_
      refine endK [] (h2 := ?_) (h3 := ?_) (nd := ?_)
      all_goals (repeat' first|exact ce0|refine ce ?_|refine ce2 ?_ ?_|exact SVLe.refl|refine ceb ?_)
      all_goals first | exact (show nodupB _ = true from rfl) | exact Or.inr rfl | (rfl)
  · rw [if_neg h]
    refine does_of (k := 0) Tryz.func96 rfl Tryz.ntmps96 rfl rfl fun w F0 S0 ρ0 => ?_
    dsimp only [argT,argH]
    repeat' first|(apply p3;(first|exact pu1|exact a_ne rfl rfl|exact a_neS rfl rfl rfl);exact rfl)|refine cd ?_|(apply c4 0;exact callK1 (θ := []) (hD := (sizesCode_ok _ _ _));exact rfl;exact rfl;exact rfl;refine dM ?_)|(apply c4 0;exact callK1 (θ := []) (hD := (within_ok _ _ _));exact rfl;exact rfl;exact rfl;refine dM ?_)|((first|refine o_gs rfl rfl (fun hc => ?_) (fun hc => ?_)|refine g_cond rfl (fun hc => ?_) (fun hc => ?_)) <;> (try simp only [dcB] at hc) <;> (try first|contradiction|(exfalso;omega)))
    repeat refine cr ?_
    refine ends_id ?_
    refine endK [] (h2 := ?_) (h3 := ?_) (nd := ?_)
    all_goals (repeat' first|exact ce0|refine ce ?_|refine ce2 ?_ ?_|exact SVLe.refl|refine ceb ?_)
    all_goals first | exact (show nodupB _ = true from rfl) | exact Or.inr rfl | (rfl)
end Go.Proofs.YtcmdfohamphndaaGreatDoor
end
section
set_option linter.unusedVariables false
set_option linter.unusedSimpArgs false
set_option maxRecDepth 100000
set_option maxHeartbeats 4000000
namespace Go.Proofs.YtcmdfohamphndaaGreatDoor
open Go Foot
theorem bl_some2 {st sy B depth : Int} {p : List Int} {x : Mach} {T : List (List Int)} (h : pth B (root sy st) p = some x) (hp : (p.length : Int) ≤ depth) (hT : T = tre B (depth - p.length).toNat p x) : ((T.length : Int) ≤ 400 → blC st sy B depth p = 0 ∧ blL st sy B depth p = T) ∧ (¬ (T.length : Int) ≤ 400 → blC st sy B depth p = 5 ∧ blL st sy B depth p = []) := by
  have hb := bl_some (st := st) (sy := sy) (B := B) (depth := depth) h
  rw [if_pos hp,← hT] at hb
  exact ⟨bl_fit hb,bl_full hb⟩
theorem bl_some0 {st sy B depth : Int} {p : List Int} {x : Mach} (h : pth B (root sy st) p = some x) (hp : ¬ (p.length : Int) ≤ depth) : blC st sy B depth p = 0 ∧ blL st sy B depth p = [] := by
  have hb := bl_some (st := st) (sy := sy) (B := B) (depth := depth) h
  rw [if_neg hp] at hb
  exact bl_fit hb (by simp)
end Go.Proofs.YtcmdfohamphndaaGreatDoor
end
section
set_option linter.unusedVariables false
set_option linter.unusedSimpArgs false
namespace Go.Proofs.YtcmdfohamphndaaGreatDoor
open Go Foot
structure BackD (w : World) (S Z G : Foot) (ds : List D) (vs : List Value) : Prop where
  r : Reps w no ds vs G
  s : le G S
  z : Foot.dis G Z
  t : ∀ t ∈ tabs,∀ o,¬ G t.1 o
theorem BackD.keep {w w' : World} {S S' Z G : Foot} {ds : List D} {vs : List Value} (h : BackD w S Z G ds vs) (hS : Agree w w' S) (hle : le S S') : BackD w' S' Z G ds vs :=
  ⟨h.r.keep (hS.le h.s) Agree.no (le_refl _) (le_refl _),h.s.trans hle,h.z,h.t⟩
section
variable {P : Program} {g : Gh} {t : List (Nat × SV)} {h0 : List (Nat × GB)} {n q r i j : Nat} {a : Act} {w : World} {S Z : Foot} {ρ : Env} {F : Nat → Foot} {ds : List D} {vs : List Value} {Q : Exit → St → Prop}
end
end Go.Proofs.YtcmdfohamphndaaGreatDoor
end
section
set_option linter.unusedVariables false
set_option linter.unusedSimpArgs false
set_option maxRecDepth 100000
namespace Go.Proofs.YtcmdfohamphndaaGreatDoor
open Go Foot MapKept
def Bk (w : World) (S Z : Foot) (z : Nat) (row : List D) (v : Value) : Prop := ∃ G,Rep w no (.sl true z row) v G ∧ le G S ∧ Foot.dis G Z ∧ ∀ t ∈ tabs,∀ o,¬ G t.1 o
theorem Bk.keep {w w' : World} {S S' Z : Foot} {z : Nat} {row : List D} {v : Value} (h : Bk w S Z z row v) (hS : Agree w w' S) (hle : le S S') : Bk w' S' Z z row v := by
  obtain ⟨G,h1,h2,h3,h4⟩ := h
  exact ⟨G,h1.keep (hS.le h2) Agree.no (le_refl _) (le_refl _),h2.trans hle,h3,h4⟩
theorem Bk.sh {w : World} {S Z : Foot} {z : Nat} {row : List D} {v : Value} (h : Bk w S Z z row v) (hn : D.noOwn.all row) : Rep w S (.sl false z row) v no := by
  obtain ⟨G,h1,h2,h3,h4⟩ := h
  exact (Shut1.sl (ShutL.no hn) w no G G v h1 (le_refl _)).keep Agree.no (Agree.refl _ _) (or_le (no_le _) h2) (le_refl _)
section
variable {P : Program} {g : Gh} {t : List (Nat × SV)} {h0 : List (Nat × GB)} {n q r i j : Nat} {a : Act} {w : World} {S Z : Foot} {ρ : Env} {F : Nat → Foot} {Q : Exit → St → Prop} {α : Type} {z : Nat} {row : α → List D} {L : List (α × Value)} {x : α} {v : Value}
theorem t_cell1 {c c' : C} (d : Nat) (hs : lkS t d = .one c) (hc : ∀ a w S ρ F v,Rel g ⟨t,h0,n⟩ a w S ρ F → RepC w S ρ c v → RepC w S ρ c' v) : Conv g ⟨t,h0,n⟩ ⟨(d,.one c') :: t,h0,n⟩ := fun a w S ρ F hr hf => by
  refine ⟨S,ρ,F,hr.setSlot ?_,hf⟩
  have h1 := hr.slot d
  simp only [hs] at h1
  exact hc a w S ρ F _ hr h1
end
structure GdE where
  p : World → Foot → Bs → Array Value → Prop
  keep : ∀ {w w' : World} {S S' : Foot} {k : Bs} {vs : Array Value},p w S k vs → Agree w w' S → le S S' → p w' S' k vs
  one : ∀ {w : World} {S : Foot} {k : Bs} {vs : Array Value},p w S k vs → vs.toList.all Value.oneCell' = true
section
variable {P : Program} {g : Gh} {st : St} {Good : GdE}
variable {dst : Option Tmp} {ty : TypeId} {pos : String} {after : Array Edge} {guard : Option (Nat × Bool)} {x y z : Operand} {T kt et : TypeId} {i : Nat} {k : Bs}
end
end Go.Proofs.YtcmdfohamphndaaGreatDoor
end
section
set_option linter.unusedVariables false
set_option linter.unusedSimpArgs false
set_option maxRecDepth 100000
namespace Go.Proofs.YtcmdfohamphndaaGreatDoor
open Go Foot
theorem zeroCells_one (v : Value) (n : Nat) : (Builtin.zeroCells #[v] n).toList = List.replicate n v := by
  apply List.ext_getElem
  · simp [Builtin.zeroCells]
  · intro i h1 h2
    simp [Builtin.zeroCells,Nat.mod_one]
section
variable {P : Program} {g : Gh} {st : St} {dst : Option Tmp} {ty : TypeId} {pos : String} {after : Array Edge} {guard : Option (Nat × Bool)} {x : Operand} {T et : TypeId}
theorem reps_repl {α : Type} {E : Enc α} {k0 : α} {v0 : Value} {w : World} {S : Foot} (hk : E.enc k0 = [.sc v0]) (h1 : v0.oneCell' = true) : ∀ n,Reps w S (rows E (List.replicate n k0)) (List.replicate n v0) no
  | 0 => rfl
  | n + 1 => by
    rw [List.replicate_succ,rows_cons,hk,List.replicate_succ]
    exact ⟨v0,_,no,no,rfl,le_refl _,le_refl _,no_dis _,⟨rfl,h1⟩,reps_repl hk h1 n⟩
theorem run_cl {a : Act} {w w' : World} {v v1 : Value} (e1 : a.eval x = v1) (h : (Builtin.clear_ #[T] ty #[v1]).run P w = .ok v w') : (execOp a.eval ⟨dst,.call { callee := .builtin .clear,args := #[x],argTypes := #[T] },ty,pos,after,guard⟩).run P w = .ok (.value v) w' := by
  simp only [execOp,resolve,invoke,builtin]
  simp [e1,h,builtin]
theorem a_clearG {α : Type} {E : Enc α} {l l' : List α} {i lo hi : Nat} (k0 : α) (v0 : Value) (hk : E.enc k0 = [.sc v0]) (hx : opd st x = .one (.gs i 1 lo hi)) (hg : lkG st.h i = .row 1 (rows E l)) (hz : E.z = 1) (hT : P.underlying T = some (.slice et)) (hv : zeroV P et = some v0) (hc : v0.cells = #[v0]) (h1 : v0.oneCell' = true) (hl : hi ≤ l.length) (he : l.take lo ++ List.replicate (hi - lo) k0 ++ l.drop hi = l') :
    Acts P g ⟨dst,.call { callee := .builtin .clear,args := #[x],argTypes := #[T] },ty,pos,after,guard⟩ st .any [i] [(i,.row 1 (rows E l'))] := by
  subst he
  refine ⟨fun a w S ρ F h _ K Q hK => ?_⟩
  obtain ⟨ad,len,cap,r1,e1,e2,e3,e4⟩ := rel_row h hg
  obtain ⟨ad1,len1,cap1,q1,q2,q3,q4⟩ := opd_one h hx
  rw [r1] at q1
  simp only [Option.some.injEq,Value.slice.injEq] at q1
  obtain ⟨rfl,rfl,rfl⟩ := q1
  rw [rows_len,hz,Nat.mul_one,Nat.mul_one] at e1
  have hkl : (List.replicate (hi - lo) k0).length = hi - lo := List.length_replicate
  have hdr : lo + (hi - lo) = hi := by omega
  refine oper_in (fun _ h => nomatch h) ?_
  by_cases h0 : hi - lo = 0
  · have hrun := run_cl (P := P) (w := w) (T := T) (dst := dst) (ty := ty) (pos := pos) (after := after) (guard := guard) (v := .tuple #[]) (w' := w) q4 (by
      rw [h0]
      simp only [Builtin.clear_]
      cases (if cap = lo then ad else ad.map (·.add (lo * 1))) <;> simp [run_underlying hT])
    rw [hrun,Oper.uponIn_value]
    have := copy_same (E := E) (k := List.replicate (hi - lo) k0) (lo := lo) h (by rw [hz]; exact hg) (by rw [hkl,h0])
    rw [hkl,hdr,hz] at this
    exact hK _ w no ρ _ this trivial
  · rcases e4 with ⟨e5,_⟩ | ⟨b,off,vs,G,rfl,f1,f2,f3,f4,f5,f6⟩
    · omega
    have hcl : ¬ cap = lo := by omega
    have hadd : ∀ k,(Addr.mk b off none).add k = ⟨b,off + k,none⟩ := by intro k; unfold Addr.add; split <;> simp_all
    rw [if_neg hcl] at q4
    simp only [Option.map_some,hadd] at q4
    have hus : Reps w S (rows E (List.replicate (hi - lo) k0)) (List.replicate (hi - lo) v0) no := reps_repl hk h1 _
    obtain ⟨m,hm⟩ : ∃ m,hi - lo = m + 1 := ⟨hi - lo - 1,by omega⟩
    have hrun := run_cl (P := P) (w := w) (T := T) (dst := dst) (ty := ty) (pos := pos) (after := after) (guard := guard) (v := .tuple #[]) (w' := w.setCells b (off + lo * 1) (List.replicate (hi - lo) v0)) q4 (by
      have h3 := run_storeCells_cells (P := P) b (off + lo * 1) (List.replicate (hi - lo) v0) 0 w (fun j hj => by
        rw [List.length_replicate] at hj
        have := (f6 (lo + j) (by omega)).1
        rwa [show off + lo * 1 + 0 + j = off + (lo + j) by omega]) (fun j hj => by
        rw [List.length_replicate] at hj
        have := (f6 (lo + j) (by omega)).2
        rwa [show off + lo * 1 + 0 + j = off + (lo + j) by omega]) (fun v hv => by rw [List.eq_of_mem_replicate hv]; exact h1)
      rw [Nat.add_zero] at h3
      simp only [Nat.mul_one] at h3 ⊢
      rw [hm] at h3 ⊢
      simp [Builtin.clear_,run_underlying hT,run_zeroV hv,hc,zeroCells_one,h3])
    rw [hrun,Oper.uponIn_value]
    have := copy_core (E := E) (l := l) (k := List.replicate (hi - lo) k0) (lo := lo) (len := len) (cap := cap) h (by rw [hkl]; omega) hus r1 (by rw [rows_len,e1,hz]) e3 f1 f2 (by rw [hz]; exact f3) f4 (by rw [hz]; exact f5) (by rw [hz]; exact f6) (by rw [hkl]; omega)
    rw [hkl,hdr,hz] at this
    exact hK _ _ no ρ _ this trivial
end
section
variable {P : Program} {g : Gh} {t : List (Nat × SV)} {h0 : List (Nat × GB)} {n q : Nat} {Z : Foot} {ps : List (List Int)} {vs : List Value} {v : Value} {p : List Int}
theorem Back.nth {w : World} {S G : Foot} (h : Back w S Z G ps vs) {j : Nat} (hv : vs[j]? = some v) (hp : ps[j]? = some p) : Bk w S Z 1 (rows eI p) v := by
  have : (rows eO1 ps)[j]? = some (.sl true 1 (rows eI p)) := by
    have : ∀ (ps : List (List Int)) (j : Nat),ps[j]? = some p → (rows eO1 ps)[j]? = some (.sl true 1 (rows eI p)) := by
      intro ps
      induction ps with
      | nil => intro j h; simp at h
      | cons x ps ih =>
        intro j h
        rw [rows_cons]
        cases j with
        | zero => simp at h; subst h; rfl
        | succ j => exact ih j (by simpa using h)
    exact this ps j hp
  obtain ⟨v',F1,e1,e2,e3⟩ := h.r.nth this
  rw [hv] at e1
  obtain rfl := Option.some.inj e1
  exact ⟨F1,e3,e2.trans h.s,h.z.le e2 (le_refl _),fun t ht o hh => h.t t ht o (e2 _ _ hh)⟩
theorem t_telR (d q j : Nat) (p : List Int) (hs : lkS t d = .one (.d (.sc v))) (hq : lkG h0 q = .opq (rcs Z ps vs) []) (hv : vs[j]? = some v) (hp : ps[j]? = some p) : Conv g ⟨t,h0,n⟩ ⟨(d,.one (.d (.sl false 1 (rows eI p)))) :: t,h0,n⟩ := t_cell1 d hs fun a w S ρ F u hr h => by
  obtain ⟨hZ,G,hB⟩ := rel_rcs hr hq
  obtain ⟨h1,h2⟩ := h
  subst h1
  exact (hB.nth hv hp).sh (noOwnI p)
end
end Go.Proofs.YtcmdfohamphndaaGreatDoor
end
section
set_option linter.unusedVariables false
set_option linter.unusedSimpArgs false
set_option maxRecDepth 100000
set_option maxHeartbeats 4000000
namespace Go.Proofs.YtcmdfohamphndaaGreatDoor
open Go Foot
@[irreducible] def wuP (st sy B depth : Int) (q : List Int) : Bool := decide ((q.length : Int) = depth) || !decide (ndS ((pth B (root sy st) q).getD mach0) B = 0)
@[irreducible] def wuL (st sy B depth : Int) : List (List Int) := if sctC st sy B depth = 0 then (blL st sy B depth []).filter (wuP st sy B depth) else []
theorem wu_len {st sy B depth : Int} {q : List Int} (h : (q.length : Int) = depth) : wuP st sy B depth q = true := by unfold wuP; simp [h]
theorem wu_st {st sy B depth : Int} {q : List Int} (h : ¬ ndS ((pth B (root sy st) q).getD mach0) B = 0) : wuP st sy B depth q = true := by unfold wuP; simp [h]
theorem wu_no {st sy B depth : Int} {q : List Int} (h : ¬ (q.length : Int) = depth) (h2 : ndS ((pth B (root sy st) q).getD mach0) B = 0) : wuP st sy B depth q = false := by unfold wuP; simp [h,h2]
theorem filt_yes {P : List Int → Bool} {T : List (List Int)} {i : Int} (h0 : 0 ≤ i) (h : i.toNat < T.length) (hp : P T[i.toNat] = true) : (T.take (i + 1).toNat).filter P = (T.take i.toNat).filter P ++ [T[i.toNat]] := by
  rw [show (i + 1).toNat = i.toNat + 1 by omega,List.take_succ_eq_append_getElem h,List.filter_append,List.filter_cons,if_pos hp]
  rfl
theorem filt_no {P : List Int → Bool} {T : List (List Int)} {i : Int} (h0 : 0 ≤ i) (h : i.toNat < T.length) (hp : P T[i.toNat] = false) : (T.take (i + 1).toNat).filter P = (T.take i.toNat).filter P := by
  rw [show (i + 1).toNat = i.toNat + 1 by omega,List.take_succ_eq_append_getElem h,List.filter_append,List.filter_cons,if_neg (by rw [hp]; decide)]
  simp
theorem filt_le {P : List Int → Bool} {T : List (List Int)} (n : Nat) : ((T.take n).filter P).length ≤ T.length := by
  have h1 := List.length_filter_le P (T.take n)
  rw [List.length_take] at h1
  omega
theorem wu_ask {st sy B depth : Int} (h : ¬ askT st sy B = 0) : sctC st sy B depth = askT st sy B ∧ wuL st sy B depth = [] := by
  obtain ⟨e,_⟩ := sct_ask (depth := depth) h
  refine ⟨e,?_⟩
  unfold wuL; rw [e,if_neg h]
theorem wu_dep {st sy B depth : Int} (h : askT st sy B = 0) (h2 : ¬ (0 ≤ depth ∧ depth ≤ 36)) : sctC st sy B depth = 2 ∧ wuL st sy B depth = [] := by
  obtain ⟨e,_⟩ := sct_dep h h2
  refine ⟨e,?_⟩
  unfold wuL; rw [e]; rfl
theorem wu_fit {st sy B depth : Int} {T : List (List Int)} (hc : sctC st sy B depth = 0) (hb : blL st sy B depth [] = T) : wuL st sy B depth = T.filter (wuP st sy B depth) := by
  unfold wuL; rw [hc,if_pos rfl,hb]
theorem wu_full {st sy B depth : Int} (hc : sctC st sy B depth = 5) : wuL st sy B depth = [] := by
  unfold wuL; rw [hc]; rfl
theorem preB112 {p : Prop} (h : p := by first | with_reducible assumption | omega | (simp only [List.length_append,List.length_cons,List.length_nil,List.length_set,List.length_replicate,List.length_take,List.length_drop,List.length_tail,List.length_dropLast,List.length_reverse] at *; omega) | exact mem_len (by assumption) (by omega) | (with_reducible refine Int.le_trans (Int.ofNat_le.2 (trimR_len _)) ?_; simp only [List.length_cons,List.length_tail]; omega) | (exact (ruAt_ok (by assumption) (by assumption) (by assumption)).2.1) | (exact (ruAt_ok (by assumption) (by assumption) (by assumption)).2.1) | (have := vMach_bd (by assumption); omega) | (simp only [mC_ch,mC_tu]; omega) | (have := vTag_bd (by assumption); omega) | (have := (‹Gd _ _›).le; omega) | (exact tgHalts_no (by assumption)) | (exact tgHead (by assumption) (by assumption) (by assumption)) | (exact Int.le_trans (tgStep_gd (by assumption) (by assumption) (by assumption) (by assumption)).le (by decide)) | (exact vTag_r (by assumption)) | (with_reducible refine Int.le_trans (Int.ofNat_le.2 (pushL_len _ _)) ?_; simp only [List.length_dropLast]; omega) | exact ls_at (by assumption) (by omega) | exact pt_gd (by assumption) | exact lv_at (by assumption) (by omega) | exact pt_gd (lv_at (by assumption) (by omega)) | exact (ask_ok (by assumption)).1 | exact (ask_ok (by assumption)).2.1 | exact (ask_ok (by assumption)).2.2.1 | exact (ask_ok (by assumption)).2.2.2 | trivial) : p := h
theorem sWorkUnits_ok (st sy depth B : Int) : Does Tryz.prog 49 [.one (int st),.one (int sy),.one (int depth),.one (int B)] [] (.tup [(false,[.gv 0]),(false,[int (sctC st sy B depth)])]) [.row 1 (rows eW (wuL st sy B depth))] := by
  by_cases h : askT st sy B = 0
  · obtain ⟨q1,q2,q3,q4⟩ := ask_bd h
    by_cases hd : 0 ≤ depth ∧ depth ≤ 36
    · obtain ⟨T,hT,hok,hno⟩ := sct_ok (st := st) (sy := sy) (B := B) h hd
      have hTb : T = tre B (depth - (([] : List Int).length : Int)).toNat [] (root sy st) := by rw [hT]; simp
      have hp0 : (([] : List Int).length : Int) ≤ depth := by simp; omega
      have hv : pth B (root sy st) [] = some (root sy st) := rfl
      by_cases hf : (T.length : Int) ≤ 400
      · obtain ⟨e1,e2,e3,e4⟩ := hok hf
        rw [wu_fit e3 e2,e3]
        refine does_of (k := 0) Tryz.func49 rfl Tryz.ntmps49 rfl rfl fun w F0 S0 ρ0 => ?_
        dsimp only [argT,argH]
        repeat' first|(apply n3;exact a_nilO eW rfl;exact rfl)|(apply p3;(first|exact pu1|exact a_ne rfl rfl|exact a_neS rfl rfl rfl);exact rfl)|refine cdn ?_|refine g_reg (id := 0) ?_|refine g_reg (id := 1) ?_|refine g_reg (id := 2) ?_|refine g_reg (id := 3) ?_|refine g_reg (id := 4) ?_|refine g_reg (id := 5) ?_|refine g_reg (id := 6) ?_|(apply c4 0;exact callK1 (θ := []) (hD := (l30Ask_ok _ _ _));exact rfl;exact rfl;exact rfl;refine dM ?_)|(apply c4 0;exact callK1 (θ := []) (hD := (l30Depth_ok _));exact rfl;exact rfl;exact rfl;refine dM ?_)|(apply c4 1;exact callK0 (θ := []) (hD := (l30Below_ok st sy B depth [] (root sy st) preB112 preB112 preB112 preB112 preB112 preB112 preB112 hp0 hv T hTb));exact rfl;exact rfl;exact rfl;refine dM ?_)|((first|refine o_gs rfl rfl (fun hc => ?_) (fun hc => ?_)|refine g_cond rfl (fun hc => ?_) (fun hc => ?_)) <;> (try simp only [dcB] at hc) <;> (try first|contradiction|(exfalso;omega)))
        simp only [if_pos hf,decide_eq_true hf]
        first | refine g_turn (t_frzR (d := 11) (i := 1) rfl rfl shutR) ?_ | refine o_turn (t_frzR (d := 11) (i := 1) rfl rfl shutR) ?_
        repeat' first|(apply n3;exact a_nilO eW rfl;exact rfl)|(apply n3;(first|exact a_litE eW [] rfl rfl rfl rfl rfl rfl rfl rfl|exact a_new (gb := .bx _) rfl|exact a_litE eW [_] rfl rfl rfl rfl rfl rfl rfl rfl|exact a_appN (fP rfl) rfl rfl rfl nowR (by first|omega|(simp;omega)) (by decide) (by exact rfl));exact rfl;refine dA ?_)|(apply p3;(first|exact pu1|exact puL|exact a_ne rfl rfl|exact a_neS rfl rfl rfl|exact puN|exact a_len_str rfl (fT rfl)|exact puC|exact a_ldE (E := eW) 0 rfl rfl rfl (fC rfl) rfl rfl (Nat.le_of_ble_eq_true rfl) bnd rfl (by first|exact trivial|exact rfl)|exact a_eqS rfl rfl rfl|exact a_add rfl rfl (by omega) (by omega)|exact puI);exact rfl)|refine cd ?_|(apply s3;exact a_appE (fP rfl) rfl rfl rfl rfl nowR (by first|omega|(simp;omega)) (by decide) (by decide) (by exact rfl);exact rfl;exact rfl)|(apply w3;(first|exact a_st_bx rfl rfl rfl rfl (fN rfl rfl) (Nat.le_of_ble_eq_true rfl) rfl|exact a_stE (E := eMa) ⟨_,_,_⟩ rfl rfl rfl rfl (fN rfl rfl) bnd (by exact rfl));exact rfl;refine dS ?_)|(apply c4 0;exact callK1 (θ := []) (hD := (l30Ask_ok _ _ _));exact rfl;exact rfl;exact rfl;refine dM ?_)|(apply c4 0;exact callK1 (θ := []) (hD := (l30Depth_ok _));exact rfl;exact rfl;exact rfl;refine dM ?_)|(apply c4 1;exact callK0 (θ := []) (hD := (l30Below_ok st sy B depth [] (root sy st) preB112 preB112 preB112 preB112 preB112 preB112 preB112 hp0 hv T hTb));exact rfl;exact rfl;exact rfl;refine dM ?_)|(apply c4 0;exact callK0 (θ := []) (hD := (l30At_ok _ _ _ _ preB112 preB112 preB112 preB112 preB112 preB112 preB112));exact rfl;exact rfl;exact rfl;refine dM ?_)|(apply c4 0;exact callK1 (θ := []) (hD := (l30Status_ok _ _ preB112 preB112 preB112));exact rfl;exact rfl;exact rfl;refine dM ?_)|refine o_no rfl rfl rfl rfl ?_|refine o_noN rfl rfl rfl ?_|(apply py3;exact rfl;exact rfl;(first|exact pu1|exact puL|exact a_ne rfl rfl|exact a_neS rfl rfl rfl|exact puN|exact a_len_str rfl (fT rfl)|exact puC|exact a_ldE (E := eW) 0 rfl rfl rfl (fC rfl) rfl rfl (Nat.le_of_ble_eq_true rfl) bnd rfl (by first|exact trivial|exact rfl)|exact a_eqS rfl rfl rfl|exact a_add rfl rfl (by omega) (by omega)|exact puI);exact rfl;exact rfl)|(apply ny3;exact rfl;exact rfl;(first|exact a_nilO eW rfl|exact a_litE eW [] rfl rfl rfl rfl rfl rfl rfl rfl|exact a_new (gb := .bx _) rfl|exact a_litE eW [_] rfl rfl rfl rfl rfl rfl rfl rfl|exact a_appN (fP rfl) rfl rfl rfl nowR (by first|omega|(simp;omega)) (by decide) (by exact rfl));exact rfl;exact rfl)|(apply cy4 0;exact rfl;exact rfl;exact callK1 (θ := []) (hD := (l30Ask_ok _ _ _));exact rfl;exact rfl;exact rfl;exact rfl;refine dM ?_)|(apply cy4 0;exact rfl;exact rfl;exact callK1 (θ := []) (hD := (l30Depth_ok _));exact rfl;exact rfl;exact rfl;exact rfl;refine dM ?_)|(apply cy4 1;exact rfl;exact rfl;exact callK0 (θ := []) (hD := (l30Below_ok st sy B depth [] (root sy st) preB112 preB112 preB112 preB112 preB112 preB112 preB112 hp0 hv T hTb));exact rfl;exact rfl;exact rfl;exact rfl;refine dM ?_)|(apply cy4 0;exact rfl;exact rfl;exact callK0 (θ := []) (hD := (l30At_ok _ _ _ _ preB112 preB112 preB112 preB112 preB112 preB112 preB112));exact rfl;exact rfl;exact rfl;exact rfl;refine dM ?_)|(apply cy4 0;exact rfl;exact rfl;exact callK1 (θ := []) (hD := (l30Status_ok _ _ preB112 preB112 preB112));exact rfl;exact rfl;exact rfl;exact rfl;refine dM ?_)|((first|refine o_gs rfl rfl (fun hc => ?_) (fun hc => ?_)|refine g_cond rfl (fun hc => ?_) (fun hc => ?_)) <;> (try simp only [dcB] at hc) <;> (try first|contradiction|(exfalso;omega)))
        refine g_loop_id ?_
        refine loopK [0,1,2,3,8,9,11,13] [2] (fun i : Int => 0 ≤ i ∧ i ≤ T.length) (fun i => [(14,.one (int i))]) (fun i => [(2,.row 1 (rows eW ((T.take i.toNat).filter (wuP st sy B depth))))]) (fun i => (T.length - i).toNat) (0 : Int) [0,1,2] (hI := ?_) (hr := ?_)
        · exact ⟨by omega,by omega⟩
        · rintro i ⟨k0,k1⟩
          dsimp only [List.cons_append,List.nil_append] at *
          skip
          repeat' first|(apply p3;(first|exact pu1|exact puN|exact a_len_str rfl (fT rfl)|exact puC);exact rfl)|refine cdn ?_|refine g_reg (id := 11) ?_|((first|refine o_gs rfl rfl (fun hc => ?_) (fun hc => ?_)|refine g_cond rfl (fun hc => ?_) (fun hc => ?_)) <;> (try simp only [dcB] at hc) <;> (try first|contradiction|(exfalso;omega)))
          · have hi : i.toNat < T.length := by omega
            obtain ⟨y,hy⟩ := tre_pth (root_ok q2.1 q2.2 q1.1 (by omega)) depth.toNat [] (root sy st) hv (T[i.toNat]'hi) (by rw [← hT]; exact List.getElem_mem _)
            have hql := tre_len B depth.toNat [] (root sy st) (T[i.toNat]'hi) (by rw [← hT]; exact List.getElem_mem _)
            have hvm : vMach ((pth B (root sy st) (T[i.toNat]'hi)).getD mach0) = true := by rw [hy]; exact (pth_ok (root_ok q2.1 q2.2 q1.1 (by omega)) hy).1.v
            have hfl := filt_le (P := wuP st sy B depth) (T := T) i.toNat
            repeat' first|(apply n3;(first|exact a_new (gb := .bx _) rfl|exact a_litE eW [_] rfl rfl rfl rfl rfl rfl rfl rfl|exact a_appN (fP rfl) rfl rfl rfl nowR (by first|omega|(simp;omega)) (by decide) (by exact rfl));exact rfl;refine dA ?_)|(apply p3;(first|exact pu1|exact puL|exact puN|exact a_len_str rfl (fT rfl)|exact puC|exact a_ldE (E := eW) 0 rfl rfl rfl (fC rfl) rfl rfl (Nat.le_of_ble_eq_true rfl) bnd rfl (by first|exact trivial|exact rfl)|exact a_eqS rfl rfl rfl|exact a_ne rfl rfl|exact a_neS rfl rfl rfl|exact a_add rfl rfl (by omega) (by omega)|exact puI);exact rfl)|refine cd ?_|(apply s3;exact a_appE (fP rfl) rfl rfl rfl rfl nowR (by first|omega|(simp;omega)) (by decide) (by decide) (by exact rfl);exact rfl;exact rfl)|(apply w3;(first|exact a_st_bx rfl rfl rfl rfl (fN rfl rfl) (Nat.le_of_ble_eq_true rfl) rfl|exact a_stE (E := eMa) ⟨_,_,_⟩ rfl rfl rfl rfl (fN rfl rfl) bnd (by exact rfl));exact rfl;refine dS ?_)|(apply c4 0;exact callK0 (θ := []) (hD := (l30At_ok _ _ _ _ preB112 preB112 preB112 preB112 preB112 preB112 preB112));exact rfl;exact rfl;exact rfl;refine dM ?_)|(apply c4 0;exact callK1 (θ := []) (hD := (l30Status_ok _ _ preB112 preB112 preB112));exact rfl;exact rfl;exact rfl;refine dM ?_)|refine o_no rfl rfl rfl rfl ?_|refine o_noN rfl rfl rfl ?_|(apply py3;exact rfl;exact rfl;(first|exact pu1|exact puL|exact puN|exact a_len_str rfl (fT rfl)|exact puC|exact a_ldE (E := eW) 0 rfl rfl rfl (fC rfl) rfl rfl (Nat.le_of_ble_eq_true rfl) bnd rfl (by first|exact trivial|exact rfl)|exact a_eqS rfl rfl rfl|exact a_ne rfl rfl|exact a_neS rfl rfl rfl|exact a_add rfl rfl (by omega) (by omega)|exact puI);exact rfl;exact rfl)|(apply ny3;exact rfl;exact rfl;(first|exact a_new (gb := .bx _) rfl|exact a_litE eW [_] rfl rfl rfl rfl rfl rfl rfl rfl|exact a_appN (fP rfl) rfl rfl rfl nowR (by first|omega|(simp;omega)) (by decide) (by exact rfl));exact rfl;exact rfl)|(apply cy4 0;exact rfl;exact rfl;exact callK0 (θ := []) (hD := (l30At_ok _ _ _ _ preB112 preB112 preB112 preB112 preB112 preB112 preB112));exact rfl;exact rfl;exact rfl;exact rfl;refine dM ?_)|(apply cy4 0;exact rfl;exact rfl;exact callK1 (θ := []) (hD := (l30Status_ok _ _ preB112 preB112 preB112));exact rfl;exact rfl;exact rfl;exact rfl;refine dM ?_)|((first|refine o_gs rfl rfl (fun hc => ?_) (fun hc => ?_)|refine g_cond rfl (fun hc => ?_) (fun hc => ?_)) <;> (try simp only [dcB] at hc) <;> (try first|contradiction|(exfalso;omega)))
            · rw [← filt_yes k0 hi (wu_len (by assumption))]
              refine q_again (i + 1) [0,1,5] (by exact stk) ?_ ?_
              · exact ⟨by omega,by omega⟩
              · omega
            · rw [← filt_yes k0 hi (wu_st (by assumption))]
              refine q_again (i + 1) [0,1,5] (by exact stk) ?_ ?_
              · exact ⟨by omega,by omega⟩
              · omega
            · rw [← filt_no k0 hi (wu_no (by assumption) (by omega))]
              refine q_again (i + 1) [0,1,2] (by exact stk) ?_ ?_
              · exact ⟨by omega,by omega⟩
              · omega
          · rw [List.take_of_length_le (show T.length ≤ i.toNat by omega)]
            repeat' first|(apply n3;(first|exact a_new (gb := .bx _) rfl|exact a_litE eW [_] rfl rfl rfl rfl rfl rfl rfl rfl|exact a_appN (fP rfl) rfl rfl rfl nowR (by first|omega|(simp;omega)) (by decide) (by exact rfl));exact rfl;refine dA ?_)|(apply p3;(first|exact pu1|exact puL|exact puN|exact a_len_str rfl (fT rfl)|exact puC|exact a_ldE (E := eW) 0 rfl rfl rfl (fC rfl) rfl rfl (Nat.le_of_ble_eq_true rfl) bnd rfl (by first|exact trivial|exact rfl)|exact a_eqS rfl rfl rfl|exact a_ne rfl rfl|exact a_neS rfl rfl rfl|exact a_add rfl rfl (by omega) (by omega)|exact puI);exact rfl)|refine cd ?_|(apply s3;exact a_appE (fP rfl) rfl rfl rfl rfl nowR (by first|omega|(simp;omega)) (by decide) (by decide) (by exact rfl);exact rfl;exact rfl)|(apply w3;(first|exact a_st_bx rfl rfl rfl rfl (fN rfl rfl) (Nat.le_of_ble_eq_true rfl) rfl|exact a_stE (E := eMa) ⟨_,_,_⟩ rfl rfl rfl rfl (fN rfl rfl) bnd (by exact rfl));exact rfl;refine dS ?_)|(apply c4 0;exact callK0 (θ := []) (hD := (l30At_ok _ _ _ _ preB112 preB112 preB112 preB112 preB112 preB112 preB112));exact rfl;exact rfl;exact rfl;refine dM ?_)|(apply c4 0;exact callK1 (θ := []) (hD := (l30Status_ok _ _ preB112 preB112 preB112));exact rfl;exact rfl;exact rfl;refine dM ?_)|refine o_no rfl rfl rfl rfl ?_|refine o_noN rfl rfl rfl ?_|(apply py3;exact rfl;exact rfl;(first|exact pu1|exact puL|exact puN|exact a_len_str rfl (fT rfl)|exact puC|exact a_ldE (E := eW) 0 rfl rfl rfl (fC rfl) rfl rfl (Nat.le_of_ble_eq_true rfl) bnd rfl (by first|exact trivial|exact rfl)|exact a_eqS rfl rfl rfl|exact a_ne rfl rfl|exact a_neS rfl rfl rfl|exact a_add rfl rfl (by omega) (by omega)|exact puI);exact rfl;exact rfl)|(apply ny3;exact rfl;exact rfl;(first|exact a_new (gb := .bx _) rfl|exact a_litE eW [_] rfl rfl rfl rfl rfl rfl rfl rfl|exact a_appN (fP rfl) rfl rfl rfl nowR (by first|omega|(simp;omega)) (by decide) (by exact rfl));exact rfl;exact rfl)|(apply cy4 0;exact rfl;exact rfl;exact callK0 (θ := []) (hD := (l30At_ok _ _ _ _ preB112 preB112 preB112 preB112 preB112 preB112 preB112));exact rfl;exact rfl;exact rfl;exact rfl;refine dM ?_)|(apply cy4 0;exact rfl;exact rfl;exact callK1 (θ := []) (hD := (l30Status_ok _ _ preB112 preB112 preB112));exact rfl;exact rfl;exact rfl;exact rfl;refine dM ?_)|((first|refine o_gs rfl rfl (fun hc => ?_) (fun hc => ?_)|refine g_cond rfl (fun hc => ?_) (fun hc => ?_)) <;> (try simp only [dcB] at hc) <;> (try first|contradiction|(exfalso;omega)))
            repeat refine cr ?_
            refine ends_id ?_
            refine endK [?_] (h2 := ?_) (h3 := ?_) (nd := ?_)
            rotate_left 1
            all_goals (repeat' first|exact ce0|refine ce ?_|refine ce2 ?_ ?_|(refine Or.inr (bx_eq rfl rfl ?_);(try dsimp only [C.ren,C.ren.all]);(try exact rfl))|exact SVLe.refl|refine ceb ?_)
            all_goals first | exact (show nodupB _ = true from rfl) | exact Or.inr rfl | (rfl)
      · obtain ⟨e1,e2,e3,e4⟩ := hno hf
        rw [wu_full e3,e3]
        refine does_of (k := 0) Tryz.func49 rfl Tryz.ntmps49 rfl rfl fun w F0 S0 ρ0 => ?_
        dsimp only [argT,argH]
        repeat' first|(apply n3;exact a_nilO eW rfl;exact rfl)|(apply p3;(first|exact pu1|exact a_ne rfl rfl|exact a_neS rfl rfl rfl);exact rfl)|refine cdn ?_|refine g_reg (id := 0) ?_|refine g_reg (id := 1) ?_|refine g_reg (id := 2) ?_|refine g_reg (id := 3) ?_|refine g_reg (id := 4) ?_|refine g_reg (id := 5) ?_|refine g_reg (id := 6) ?_|(apply c4 0;exact callK1 (θ := []) (hD := (l30Ask_ok _ _ _));exact rfl;exact rfl;exact rfl;refine dM ?_)|(apply c4 0;exact callK1 (θ := []) (hD := (l30Depth_ok _));exact rfl;exact rfl;exact rfl;refine dM ?_)|(apply c4 1;exact callK0 (θ := []) (hD := (l30Below_ok st sy B depth [] (root sy st) preB112 preB112 preB112 preB112 preB112 preB112 preB112 hp0 hv T hTb));exact rfl;exact rfl;exact rfl;refine dM ?_)|((first|refine o_gs rfl rfl (fun hc => ?_) (fun hc => ?_)|refine g_cond rfl (fun hc => ?_) (fun hc => ?_)) <;> (try simp only [dcB] at hc) <;> (try first|contradiction|(exfalso;omega)))
        simp only [if_neg hf,decide_eq_false hf]
        repeat' first|(apply n3;exact a_nilO eW rfl;exact rfl)|(apply n3;(first|exact a_litE eW [] rfl rfl rfl rfl rfl rfl rfl rfl|exact a_new (gb := .bx _) rfl|exact a_litE eW [_] rfl rfl rfl rfl rfl rfl rfl rfl|exact a_appN (fP rfl) rfl rfl rfl nowR (by first|omega|(simp;omega)) (by decide) (by exact rfl));exact rfl;refine dA ?_)|(apply p3;(first|exact pu1|exact puL|exact a_ne rfl rfl|exact a_neS rfl rfl rfl|exact puN|exact a_len_str rfl (fT rfl)|exact puC|exact a_ldE (E := eW) 0 rfl rfl rfl (fC rfl) rfl rfl (Nat.le_of_ble_eq_true rfl) bnd rfl (by first|exact trivial|exact rfl)|exact a_eqS rfl rfl rfl|exact a_add rfl rfl (by omega) (by omega)|exact puI);exact rfl)|refine cd ?_|(apply s3;exact a_appE (fP rfl) rfl rfl rfl rfl nowR (by first|omega|(simp;omega)) (by decide) (by decide) (by exact rfl);exact rfl;exact rfl)|(apply w3;(first|exact a_st_bx rfl rfl rfl rfl (fN rfl rfl) (Nat.le_of_ble_eq_true rfl) rfl|exact a_stE (E := eMa) ⟨_,_,_⟩ rfl rfl rfl rfl (fN rfl rfl) bnd (by exact rfl));exact rfl;refine dS ?_)|(apply c4 0;exact callK1 (θ := []) (hD := (l30Ask_ok _ _ _));exact rfl;exact rfl;exact rfl;refine dM ?_)|(apply c4 0;exact callK1 (θ := []) (hD := (l30Depth_ok _));exact rfl;exact rfl;exact rfl;refine dM ?_)|(apply c4 1;exact callK0 (θ := []) (hD := (l30Below_ok st sy B depth [] (root sy st) preB112 preB112 preB112 preB112 preB112 preB112 preB112 hp0 hv T hTb));exact rfl;exact rfl;exact rfl;refine dM ?_)|(apply c4 0;exact callK0 (θ := []) (hD := (l30At_ok _ _ _ _ preB112 preB112 preB112 preB112 preB112 preB112 preB112));exact rfl;exact rfl;exact rfl;refine dM ?_)|(apply c4 0;exact callK1 (θ := []) (hD := (l30Status_ok _ _ preB112 preB112 preB112));exact rfl;exact rfl;exact rfl;refine dM ?_)|refine o_no rfl rfl rfl rfl ?_|refine o_noN rfl rfl rfl ?_|(apply py3;exact rfl;exact rfl;(first|exact pu1|exact puL|exact a_ne rfl rfl|exact a_neS rfl rfl rfl|exact puN|exact a_len_str rfl (fT rfl)|exact puC|exact a_ldE (E := eW) 0 rfl rfl rfl (fC rfl) rfl rfl (Nat.le_of_ble_eq_true rfl) bnd rfl (by first|exact trivial|exact rfl)|exact a_eqS rfl rfl rfl|exact a_add rfl rfl (by omega) (by omega)|exact puI);exact rfl;exact rfl)|(apply ny3;exact rfl;exact rfl;(first|exact a_nilO eW rfl|exact a_litE eW [] rfl rfl rfl rfl rfl rfl rfl rfl|exact a_new (gb := .bx _) rfl|exact a_litE eW [_] rfl rfl rfl rfl rfl rfl rfl rfl|exact a_appN (fP rfl) rfl rfl rfl nowR (by first|omega|(simp;omega)) (by decide) (by exact rfl));exact rfl;exact rfl)|(apply cy4 0;exact rfl;exact rfl;exact callK1 (θ := []) (hD := (l30Ask_ok _ _ _));exact rfl;exact rfl;exact rfl;exact rfl;refine dM ?_)|(apply cy4 0;exact rfl;exact rfl;exact callK1 (θ := []) (hD := (l30Depth_ok _));exact rfl;exact rfl;exact rfl;exact rfl;refine dM ?_)|(apply cy4 1;exact rfl;exact rfl;exact callK0 (θ := []) (hD := (l30Below_ok st sy B depth [] (root sy st) preB112 preB112 preB112 preB112 preB112 preB112 preB112 hp0 hv T hTb));exact rfl;exact rfl;exact rfl;exact rfl;refine dM ?_)|(apply cy4 0;exact rfl;exact rfl;exact callK0 (θ := []) (hD := (l30At_ok _ _ _ _ preB112 preB112 preB112 preB112 preB112 preB112 preB112));exact rfl;exact rfl;exact rfl;exact rfl;refine dM ?_)|(apply cy4 0;exact rfl;exact rfl;exact callK1 (θ := []) (hD := (l30Status_ok _ _ preB112 preB112 preB112));exact rfl;exact rfl;exact rfl;exact rfl;refine dM ?_)|((first|refine o_gs rfl rfl (fun hc => ?_) (fun hc => ?_)|refine g_cond rfl (fun hc => ?_) (fun hc => ?_)) <;> (try simp only [dcB] at hc) <;> (try first|contradiction|(exfalso;omega)))
        repeat refine cr ?_
        refine ends_id ?_
        refine endK [?_] (h2 := ?_) (h3 := ?_) (nd := ?_)
        rotate_left 1
        all_goals (repeat' first|exact ce0|refine ce ?_|refine ce2 ?_ ?_|(refine Or.inr (bx_eq rfl rfl ?_);(try dsimp only [C.ren,C.ren.all]);(try exact rfl))|exact SVLe.refl|refine ceb ?_)
        all_goals first | exact (show nodupB _ = true from rfl) | exact Or.inr rfl | (rfl)
    · obtain ⟨e1,e2⟩ := wu_dep h hd
      rw [e1,e2]
      refine does_of (k := 0) Tryz.func49 rfl Tryz.ntmps49 rfl rfl fun w F0 S0 ρ0 => ?_
      dsimp only [argT,argH]
      repeat' first|(apply n3;exact a_nilO eW rfl;exact rfl)|(apply n3;(first|exact a_litE eW [] rfl rfl rfl rfl rfl rfl rfl rfl|exact a_new (gb := .bx _) rfl|exact a_litE eW [_] rfl rfl rfl rfl rfl rfl rfl rfl|exact a_appN (fP rfl) rfl rfl rfl nowR (by first|omega|(simp;omega)) (by decide) (by exact rfl));exact rfl;refine dA ?_)|(apply p3;(first|exact pu1|exact puL|exact a_ne rfl rfl|exact a_neS rfl rfl rfl|exact puN|exact a_len_str rfl (fT rfl)|exact puC|exact a_ldE (E := eW) 0 rfl rfl rfl (fC rfl) rfl rfl (Nat.le_of_ble_eq_true rfl) bnd rfl (by first|exact trivial|exact rfl)|exact a_eqS rfl rfl rfl|exact a_add rfl rfl (by omega) (by omega)|exact puI);exact rfl)|refine cd ?_|(apply s3;exact a_appE (fP rfl) rfl rfl rfl rfl nowR (by first|omega|(simp;omega)) (by decide) (by decide) (by exact rfl);exact rfl;exact rfl)|(apply w3;(first|exact a_st_bx rfl rfl rfl rfl (fN rfl rfl) (Nat.le_of_ble_eq_true rfl) rfl|exact a_stE (E := eMa) ⟨_,_,_⟩ rfl rfl rfl rfl (fN rfl rfl) bnd (by exact rfl));exact rfl;refine dS ?_)|(apply c4 0;exact callK1 (θ := []) (hD := (l30Ask_ok _ _ _));exact rfl;exact rfl;exact rfl;refine dM ?_)|(apply c4 0;exact callK1 (θ := []) (hD := (l30Depth_ok _));exact rfl;exact rfl;exact rfl;refine dM ?_)|(apply c4 1;exact callK0 (θ := []) (hD := (l30Below_ok st sy B depth [] (root sy st) preB112 preB112 preB112 preB112 preB112 preB112 preB112 hp0 hv T hTb));exact rfl;exact rfl;exact rfl;refine dM ?_)|(apply c4 0;exact callK0 (θ := []) (hD := (l30At_ok _ _ _ _ preB112 preB112 preB112 preB112 preB112 preB112 preB112));exact rfl;exact rfl;exact rfl;refine dM ?_)|(apply c4 0;exact callK1 (θ := []) (hD := (l30Status_ok _ _ preB112 preB112 preB112));exact rfl;exact rfl;exact rfl;refine dM ?_)|refine o_no rfl rfl rfl rfl ?_|refine o_noN rfl rfl rfl ?_|(apply py3;exact rfl;exact rfl;(first|exact pu1|exact puL|exact a_ne rfl rfl|exact a_neS rfl rfl rfl|exact puN|exact a_len_str rfl (fT rfl)|exact puC|exact a_ldE (E := eW) 0 rfl rfl rfl (fC rfl) rfl rfl (Nat.le_of_ble_eq_true rfl) bnd rfl (by first|exact trivial|exact rfl)|exact a_eqS rfl rfl rfl|exact a_add rfl rfl (by omega) (by omega)|exact puI);exact rfl;exact rfl)|(apply ny3;exact rfl;exact rfl;(first|exact a_nilO eW rfl|exact a_litE eW [] rfl rfl rfl rfl rfl rfl rfl rfl|exact a_new (gb := .bx _) rfl|exact a_litE eW [_] rfl rfl rfl rfl rfl rfl rfl rfl|exact a_appN (fP rfl) rfl rfl rfl nowR (by first|omega|(simp;omega)) (by decide) (by exact rfl));exact rfl;exact rfl)|(apply cy4 0;exact rfl;exact rfl;exact callK1 (θ := []) (hD := (l30Ask_ok _ _ _));exact rfl;exact rfl;exact rfl;exact rfl;refine dM ?_)|(apply cy4 0;exact rfl;exact rfl;exact callK1 (θ := []) (hD := (l30Depth_ok _));exact rfl;exact rfl;exact rfl;exact rfl;refine dM ?_)|(apply cy4 1;exact rfl;exact rfl;exact callK0 (θ := []) (hD := (l30Below_ok st sy B depth [] (root sy st) preB112 preB112 preB112 preB112 preB112 preB112 preB112 hp0 hv T hTb));exact rfl;exact rfl;exact rfl;exact rfl;refine dM ?_)|(apply cy4 0;exact rfl;exact rfl;exact callK0 (θ := []) (hD := (l30At_ok _ _ _ _ preB112 preB112 preB112 preB112 preB112 preB112 preB112));exact rfl;exact rfl;exact rfl;exact rfl;refine dM ?_)|(apply cy4 0;exact rfl;exact rfl;exact callK1 (θ := []) (hD := (l30Status_ok _ _ preB112 preB112 preB112));exact rfl;exact rfl;exact rfl;exact rfl;refine dM ?_)|((first|refine o_gs rfl rfl (fun hc => ?_) (fun hc => ?_)|refine g_cond rfl (fun hc => ?_) (fun hc => ?_)) <;> (try simp only [dcB] at hc) <;> (try first|contradiction|(exfalso;omega)))
      repeat refine cr ?_
      refine ends_id ?_
      refine endK [?_] (h2 := ?_) (h3 := ?_) (nd := ?_)
      rotate_left 1
      all_goals (repeat' first|exact ce0|refine ce ?_|refine ce2 ?_ ?_|(refine Or.inr (bx_eq rfl rfl ?_);(try dsimp only [C.ren,C.ren.all]);(try exact rfl))|exact SVLe.refl|refine ceb ?_)
      all_goals first | exact (show nodupB _ = true from rfl) | exact Or.inr rfl | (rfl)
  · obtain ⟨e1,e2⟩ := wu_ask (depth := depth) h
    rw [e1,e2]
    refine does_of (k := 0) Tryz.func49 rfl Tryz.ntmps49 rfl rfl fun w F0 S0 ρ0 => ?_
    dsimp only [argT,argH]
    repeat' first|(apply n3;exact a_nilO eW rfl;exact rfl)|(apply n3;(first|exact a_litE eW [] rfl rfl rfl rfl rfl rfl rfl rfl|exact a_new (gb := .bx _) rfl|exact a_litE eW [_] rfl rfl rfl rfl rfl rfl rfl rfl|exact a_appN (fP rfl) rfl rfl rfl nowR (by first|omega|(simp;omega)) (by decide) (by exact rfl));exact rfl;refine dA ?_)|(apply p3;(first|exact pu1|exact puL|exact a_ne rfl rfl|exact a_neS rfl rfl rfl|exact puN|exact a_len_str rfl (fT rfl)|exact puC|exact a_ldE (E := eW) 0 rfl rfl rfl (fC rfl) rfl rfl (Nat.le_of_ble_eq_true rfl) bnd rfl (by first|exact trivial|exact rfl)|exact a_eqS rfl rfl rfl|exact a_add rfl rfl (by omega) (by omega)|exact puI);exact rfl)|refine cd ?_|(apply s3;exact a_appE (fP rfl) rfl rfl rfl rfl nowR (by first|omega|(simp;omega)) (by decide) (by decide) (by exact rfl);exact rfl;exact rfl)|(apply w3;(first|exact a_st_bx rfl rfl rfl rfl (fN rfl rfl) (Nat.le_of_ble_eq_true rfl) rfl|exact a_stE (E := eMa) ⟨_,_,_⟩ rfl rfl rfl rfl (fN rfl rfl) bnd (by exact rfl));exact rfl;refine dS ?_)|(apply c4 0;exact callK1 (θ := []) (hD := (l30Ask_ok _ _ _));exact rfl;exact rfl;exact rfl;refine dM ?_)|(apply c4 0;exact callK1 (θ := []) (hD := (l30Depth_ok _));exact rfl;exact rfl;exact rfl;refine dM ?_)|(apply c4 1;exact callK0 (θ := []) (hD := (l30Below_ok st sy B depth [] (root sy st) preB112 preB112 preB112 preB112 preB112 preB112 preB112 hp0 hv T hTb));exact rfl;exact rfl;exact rfl;refine dM ?_)|(apply c4 0;exact callK0 (θ := []) (hD := (l30At_ok _ _ _ _ preB112 preB112 preB112 preB112 preB112 preB112 preB112));exact rfl;exact rfl;exact rfl;refine dM ?_)|(apply c4 0;exact callK1 (θ := []) (hD := (l30Status_ok _ _ preB112 preB112 preB112));exact rfl;exact rfl;exact rfl;refine dM ?_)|refine o_no rfl rfl rfl rfl ?_|refine o_noN rfl rfl rfl ?_|(apply py3;exact rfl;exact rfl;(first|exact pu1|exact puL|exact a_ne rfl rfl|exact a_neS rfl rfl rfl|exact puN|exact a_len_str rfl (fT rfl)|exact puC|exact a_ldE (E := eW) 0 rfl rfl rfl (fC rfl) rfl rfl (Nat.le_of_ble_eq_true rfl) bnd rfl (by first|exact trivial|exact rfl)|exact a_eqS rfl rfl rfl|exact a_add rfl rfl (by omega) (by omega)|exact puI);exact rfl;exact rfl)|(apply ny3;exact rfl;exact rfl;(first|exact a_nilO eW rfl|exact a_litE eW [] rfl rfl rfl rfl rfl rfl rfl rfl|exact a_new (gb := .bx _) rfl|exact a_litE eW [_] rfl rfl rfl rfl rfl rfl rfl rfl|exact a_appN (fP rfl) rfl rfl rfl nowR (by first|omega|(simp;omega)) (by decide) (by exact rfl));exact rfl;exact rfl)|(apply cy4 0;exact rfl;exact rfl;exact callK1 (θ := []) (hD := (l30Ask_ok _ _ _));exact rfl;exact rfl;exact rfl;exact rfl;refine dM ?_)|(apply cy4 0;exact rfl;exact rfl;exact callK1 (θ := []) (hD := (l30Depth_ok _));exact rfl;exact rfl;exact rfl;exact rfl;refine dM ?_)|(apply cy4 1;exact rfl;exact rfl;exact callK0 (θ := []) (hD := (l30Below_ok st sy B depth [] (root sy st) preB112 preB112 preB112 preB112 preB112 preB112 preB112 hp0 hv T hTb));exact rfl;exact rfl;exact rfl;exact rfl;refine dM ?_)|(apply cy4 0;exact rfl;exact rfl;exact callK0 (θ := []) (hD := (l30At_ok _ _ _ _ preB112 preB112 preB112 preB112 preB112 preB112 preB112));exact rfl;exact rfl;exact rfl;exact rfl;refine dM ?_)|(apply cy4 0;exact rfl;exact rfl;exact callK1 (θ := []) (hD := (l30Status_ok _ _ preB112 preB112 preB112));exact rfl;exact rfl;exact rfl;exact rfl;refine dM ?_)|((first|refine o_gs rfl rfl (fun hc => ?_) (fun hc => ?_)|refine g_cond rfl (fun hc => ?_) (fun hc => ?_)) <;> (try simp only [dcB] at hc) <;> (try first|contradiction|(exfalso;omega)))
    repeat refine cr ?_
    refine ends_id ?_
    refine endK [?_] (h2 := ?_) (h3 := ?_) (nd := ?_)
    rotate_left 1
    all_goals (repeat' first|exact ce0|refine ce ?_|refine ce2 ?_ ?_|(refine Or.inr (bx_eq rfl rfl ?_);(try dsimp only [C.ren,C.ren.all]);(try exact rfl))|exact SVLe.refl|refine ceb ?_)
    all_goals first | exact (show nodupB _ = true from rfl) | exact Or.inr rfl | (rfl)
end Go.Proofs.YtcmdfohamphndaaGreatDoor
end
section
set_option linter.unusedVariables false
set_option linter.unusedSimpArgs false
set_option maxRecDepth 100000
set_option maxHeartbeats 4000000
namespace Go.Proofs.YtcmdfohamphndaaGreatDoor
open Go Foot
theorem preB113 {p : Prop} (h : p := by first | with_reducible assumption | omega | (simp only [List.length_append,List.length_cons,List.length_nil,List.length_set,List.length_replicate,List.length_take,List.length_drop,List.length_tail,List.length_dropLast,List.length_reverse] at *; omega) | exact mem_len (by assumption) (by omega) | (with_reducible refine Int.le_trans (Int.ofNat_le.2 (trimR_len _)) ?_; simp only [List.length_cons,List.length_tail]; omega) | (exact (ruAt_ok (by assumption) (by assumption) (by assumption)).2.1) | (exact (ruAt_ok (by assumption) (by assumption) (by assumption)).2.1) | (have := vMach_bd (by assumption); omega) | (simp only [mC_ch,mC_tu]; omega) | (have := vTag_bd (by assumption); omega) | (have := (‹Gd _ _›).le; omega) | (exact tgHalts_no (by assumption)) | (exact tgHead (by assumption) (by assumption) (by assumption)) | (exact Int.le_trans (tgStep_gd (by assumption) (by assumption) (by assumption) (by assumption)).le (by decide)) | (exact vTag_r (by assumption)) | (with_reducible refine Int.le_trans (Int.ofNat_le.2 (pushL_len _ _)) ?_; simp only [List.length_dropLast]; omega) | exact ls_at (by assumption) (by omega) | exact pt_gd (by assumption) | exact lv_at (by assumption) (by omega) | exact pt_gd (lv_at (by assumption) (by omega)) | exact (ask_ok (by assumption)).1 | exact (ask_ok (by assumption)).2.1 | exact (ask_ok (by assumption)).2.2.1 | exact (ask_ok (by assumption)).2.2.2 | trivial) : p := h
theorem wuFn_ok (st sy B depth : Int) (Z : Foot) (ps : List (List Int)) (vs : List Value) (j : Nat) (q : List Int) (v : Value) (y : Mach) (h1 : 1 ≤ st) (h2 : st ≤ 6) (h3 : 2 ≤ sy) (h4 : sy ≤ 6) (h5 : 0 ≤ B) (h6 : B ≤ 1000000) (hv : vs[j]? = some v) (hq : ps[j]? = some q) (hy : pth B (root sy st) q = some y) (hld : (q.length : Int) ≤ depth) (hd : depth ≤ 36) : Does Tryz.prog 108 [.one (.d (.sc v)),.one (.gv 3),.one (.gv 2)] [.bx (foC st sy B 0),foM B sy st 1,.bx [int depth],.bx [.gv 0],.opq (rcs Z ps vs) []] (.one (boo (!wuP st sy B depth q))) [.bx (foC st sy B 0),foM B sy st 1,.bx [int depth],.bx [.gv 0],.opq (rcs Z ps vs) []] := by
  have hql2 : (q.length : Int) ≤ 1048576 := by omega
  obtain ⟨L,hL,hLl,hLg⟩ := pthL_some hy
  have hg : L[((q.length : Nat) : Int).toNat]'(by omega) = y := by
    have := hLg ((q.length : Nat) : Int).toNat (by omega)
    rw [List.take_of_length_le (by simp),hy] at this
    exact (Option.some.inj this).symm
  have hw : wuP st sy B depth q = (decide ((q.length : Int) = depth) || !decide (ndS (L[((q.length : Nat) : Int).toNat]'(by omega)) B = 0)) := by unfold wuP; rw [hy,hg]; rfl
  rw [hw]
  refine does_of (k := 5) Tryz.func108 rfl Tryz.ntmps108 rfl rfl fun w F0 S0 ρ0 => ?_
  dsimp only [argT,argH]
  refine g_conv (t_telR 0 4 j q rfl rfl hv hq) ?_
  repeat' first|(apply p3;(first|exact pu1|exact puL|exact a_ldsE (E := (eNd B)) 0 rfl rfl rfl (fA rfl) rfl rfl (Nat.le_of_ble_eq_true rfl) (Nat.le_of_ble_eq_true rfl) bnd rfl (by repeat (first|exact trivial|exact rfl|refine And.intro ?_ ?_)) rfl);exact rfl)|refine cdn ?_|refine g_reg (id := 0) ?_|refine g_reg (id := 1) ?_|(apply c4 1;exact callK0 (θ := [0,1]) (hD := (at_f_ok st sy B q hql2 preB113 preB113 preB113 preB113 preB113 preB113));exact rfl;exact rfl;exact rfl;refine dM ?_)|((first|refine o_gs rfl rfl (fun hc => ?_) (fun hc => ?_)|refine g_cond rfl (fun hc => ?_) (fun hc => ?_)) <;> (try simp only [dcB] at hc) <;> (try first|contradiction|(exfalso;omega)))
  simp only [hL,Option.isSome_some,Option.getD_some]
  repeat' first|(apply p3;(first|exact pu1|exact puL|exact a_ldsE (E := (eNd B)) 0 rfl rfl rfl (fA rfl) rfl rfl (Nat.le_of_ble_eq_true rfl) (Nat.le_of_ble_eq_true rfl) bnd rfl (by repeat (first|exact trivial|exact rfl|refine And.intro ?_ ?_)) rfl);exact rfl)|refine cd ?_|(apply c4 1;exact callK0 (θ := [0,1]) (hD := (at_f_ok st sy B q hql2 preB113 preB113 preB113 preB113 preB113 preB113));exact rfl;exact rfl;exact rfl;refine dM ?_)|(apply g_drN (id := 2) okM [[],[0],[],[0,1,2],[0,1,2,3],[0,1,2,3,4],[0,1,2,3,4],[0,1,2,3,4,6],[0,1,2,3,4,5,6,7],[0,1,2,3,4,5,6,7,8],[0,1,2,3,4,5,6,7,8,9],[0,1,2,3,4,5,6,7,8,9,10],[0,1,2,3,4,5,6,7,8,9,10,11],[0,1,2,3,4,5,6,7,8,9,10,11,12]] [([],[]),([],[]),([],[]),([],[]),([],[]),([],[]),([],[]),([],[]),([],[]),([],[]),([],[]),([],[]),([],[]),([],[])] 0;(focus (all_goals refine dp 0 0 [15] [] pu1 ?_;all_goals refine dp 1 1 [15] [] (by first|exact callD1 (n := _) 0 (θ := []) (hD := (sizeI_ok _ preB113))|exact callD1 (n := _) 0 (θ := []) (hD := (sizeL_ok _ preB113))) ?_;all_goals refine dp 2 0 [13,14] [] (by first|exact a_ldE (E := (eNd B)) 0 rfl rfl rfl (fC rfl) rfl rfl (Nat.le_of_ble_eq_true rfl) bnd rfl (by first|exact trivial|exact rfl)|exact a_ldE (E := (eNd B)) 1 rfl rfl rfl (fC rfl) rfl rfl (Nat.le_of_ble_eq_true rfl) bnd rfl (by first|exact trivial|exact rfl)|exact a_ldE (E := (eNd B)) 2 rfl rfl rfl (fC rfl) rfl rfl (Nat.le_of_ble_eq_true rfl) bnd rfl (by first|exact trivial|exact rfl)|exact a_ldE (E := (eNd B)) 3 rfl rfl rfl (fC rfl) rfl rfl (Nat.le_of_ble_eq_true rfl) bnd rfl (by first|exact trivial|exact rfl)|exact a_ldE (E := (eNd B)) 4 rfl rfl rfl (fC rfl) rfl rfl (Nat.le_of_ble_eq_true rfl) bnd rfl (by first|exact trivial|exact rfl)|exact puL) ?_;all_goals refine dp 3 7 [] [] puC ?_;all_goals (refine db 4 15 [] [] pu1 ?_ ?_ <;> (intro hc;first|cases hc|(try simp only [dcB] at hc);first|contradiction|(exfalso;omega)|skip));all_goals (first|refine dn 5 31 [19,20] [] ?_|refine dpy 5 31 [19,20] [] pu1 ?_);all_goals (first|refine dn 6 62 [18] [] ?_|refine dpy 6 62 [18] [] pu1 ?_);all_goals (first|refine dn 7 125 [18] [] ?_|refine dpy 7 125 [18] [] (by first|exact puN|exact a_pure (sv := .one _) rfl|exact a_len_str rfl (fT rfl)) ?_);all_goals (first|refine dn 8 255 [] [] ?_|refine dpy 8 255 [] [] puI ?_);all_goals (first|refine dn 9 511 [] [] ?_|refine dpy 9 511 [] [] (a_pure (sv := .one _) rfl) ?_);all_goals (first|refine dn 10 1023 [] [] ?_|refine dpy 10 1023 [] [] (by first|exact a_ldE (E := (eNd B)) 0 rfl rfl rfl (fC rfl) rfl rfl (Nat.le_of_ble_eq_true rfl) bnd rfl (by first|exact trivial|exact rfl)|exact a_ldE (E := (eNd B)) 1 rfl rfl rfl (fC rfl) rfl rfl (Nat.le_of_ble_eq_true rfl) bnd rfl (by first|exact trivial|exact rfl)|exact a_ldE (E := (eNd B)) 2 rfl rfl rfl (fC rfl) rfl rfl (Nat.le_of_ble_eq_true rfl) bnd rfl (by first|exact trivial|exact rfl)|exact a_ldE (E := (eNd B)) 3 rfl rfl rfl (fC rfl) rfl rfl (Nat.le_of_ble_eq_true rfl) bnd rfl (by first|exact trivial|exact rfl)|exact a_ldE (E := (eNd B)) 4 rfl rfl rfl (fC rfl) rfl rfl (Nat.le_of_ble_eq_true rfl) bnd rfl (by first|exact trivial|exact rfl)|exact puL) ?_);all_goals (first|refine dn 11 2047 [] [] ?_|refine dpy 11 2047 [] [] (by first|exact puC|exact a_eqS rfl rfl rfl) ?_);all_goals refine dp 12 4095 [] [] (a_pure (sv := .one _) rfl) ?_;all_goals refine dp 13 8191 [] [] pu1 ?_;all_goals (refine d_nil ?_;refine dN ?_)));any_goals kernel_rfl)|((first|refine o_gs rfl rfl (fun hc => ?_) (fun hc => ?_)|refine g_cond rfl (fun hc => ?_) (fun hc => ?_)) <;> (try simp only [dcB] at hc) <;> (try first|contradiction|(exfalso;omega)))
  all_goals
    repeat refine cr ?_
    refine ends_id ?_
    refine endK [] (h2 := ?_) (h3 := ?_) (nd := ?_)
    all_goals (repeat' first|exact ce0|refine ce ?_|refine ce2 ?_ ?_|(refine Or.inr (bx_eq rfl rfl ?_);(try dsimp only [C.ren,C.ren.all]);(try exact rfl))|exact SVLe.refl|refine ceb ?_)
    all_goals first | exact (show nodupB _ = true from rfl) | exact Or.inr rfl | ((simp_all <;> omega))
def fstF (P : List Int → Bool) : List (List Int) → Int → Int
  | [],_ => -1
  | q :: l,i => if P q = false then i else fstF P l (i + 1)
theorem fstF_next {P : List Int → Bool} {ps : List (List Int)} {i : Int} (h0 : 0 ≤ i) (h : i.toNat < ps.length) : fstF P (ps.drop i.toNat) i = if P ps[i.toNat] = false then i else fstF P (ps.drop (i + 1).toNat) (i + 1) := by
  rw [drop_get h0 h,fstF]
theorem fstF_spec {P : List Int → Bool} : ∀ (ps : List (List Int)) (i : Int),(fstF P ps i = -1 ∨ i ≤ fstF P ps i) ∧ (0 ≤ i → fstF P ps i = -1 → ∀ q ∈ ps,P q = true) ∧ (0 ≤ i → ¬ fstF P ps i = -1 → ∃ k : Nat,fstF P ps i = i + k ∧ ∃ hk : k < ps.length,P ps[k] = false ∧ ∀ q ∈ ps.take k,P q = true)
  | [],i => ⟨.inl rfl,fun _ _ q hq => (by cases hq),fun _ h => absurd rfl h⟩
  | q :: l,i => by
    obtain ⟨a,b,c⟩ := fstF_spec (P := P) l (i + 1)
    rw [fstF]
    split
    · rename_i h
      exact ⟨.inr (Int.le_refl _),fun h0 he => by omega,fun _ _ => ⟨0,by simp,by simp,h,fun x hx => by simp at hx⟩⟩
    · rename_i h
      have hp : P q = true := by simpa using h
      refine ⟨a.imp id fun h => by omega,fun h0 he x hx => ?_,fun h0 hn => ?_⟩
      · rcases List.mem_cons.1 hx with rfl | hx
        · exact hp
        · exact b (by omega) he x hx
      · obtain ⟨k,k1,k2,k3,k4⟩ := c (by omega) hn
        refine ⟨k + 1,by omega,by simpa using k2,k3,fun x hx => ?_⟩
        rw [List.take_succ_cons] at hx
        rcases List.mem_cons.1 hx with rfl | hx
        · exact hp
        · exact k4 x hx
def NdsOk (st sy B depth : Int) (ps : List (List Int)) : Prop := ∀ q ∈ ps,(∃ y,pth B (root sy st) q = some y) ∧ (q.length : Int) ≤ depth
theorem idxF_ok (st sy B depth : Int) (Z : Foot) (ps : List (List Int)) (vs : List Value) (h1 : 1 ≤ st) (h2 : st ≤ 6) (h3 : 2 ≤ sy) (h4 : sy ≤ 6) (h5 : 0 ≤ B) (h6 : B ≤ 1000000) (hd : depth ≤ 36) (hvs : vs.length = ps.length) (hl : (ps.length : Int) ≤ 400) (hps : NdsOk st sy B depth ps) : Does Tryz.prog 169 [.one (.gv 4),.one (.fn (.func 108) [.gv 3,.gv 2])] [.bx (foC st sy B 0),foM B sy st 1,.bx [int depth],.bx [.gv 0],.row 1 (rows eVv vs),.opq (rcs Z ps vs) []] (.one (int (fstF (wuP st sy B depth) ps 0))) [.bx (foC st sy B 0),foM B sy st 1,.bx [int depth],.bx [.gv 0],.row 1 (rows eVv vs),.opq (rcs Z ps vs) []] := by
  refine does_of (k := 6) Tryz.func169 rfl Tryz.ntmps169 rfl rfl fun w F0 S0 ρ0 => ?_
  dsimp only [argT,argH]
  repeat' first|(apply p3;(first|exact pu1|exact puL|exact puN|exact a_len_str rfl (fT rfl)|exact puC|exact a_ldE (E := eVv) 0 rfl rfl rfl (fC rfl) rfl rfl (Nat.le_of_ble_eq_true rfl) bnd rfl (by first|exact trivial|exact rfl)|exact a_add rfl rfl (by omega) (by omega)|exact puI);exact rfl)|refine cd ?_|((first|refine o_gs rfl rfl (fun hc => ?_) (fun hc => ?_)|refine g_cond rfl (fun hc => ?_) (fun hc => ?_)) <;> (try simp only [dcB] at hc) <;> (try first|contradiction|(exfalso;omega)))
  refine g_loop_id ?_
  refine loopK [0,1,4,7] [] (fun i : Int => 0 ≤ i ∧ i ≤ ps.length ∧ fstF (wuP st sy B depth) (ps.drop i.toNat) i = fstF (wuP st sy B depth) ps 0) (fun i => [(8,.one (int i))]) (fun _ => []) (fun i => (ps.length - i).toNat) (0 : Int) [0,1,2,3,4,5] (hI := ?_) (hr := ?_)
  · exact ⟨by omega,by omega,by simp⟩
  · rintro i ⟨k0,k1,k2⟩
    dsimp only [List.cons_append,List.nil_append] at *
    skip
    repeat' first|(apply p3;(first|exact puC|exact a_pure (sv := .one _) rfl);exact rfl)|refine cdn ?_|refine g_reg (id := 2) ?_|((first|refine o_gs rfl rfl (fun hc => ?_) (fun hc => ?_)|refine g_cond rfl (fun hc => ?_) (fun hc => ?_)) <;> (try simp only [dcB] at hc) <;> (try first|contradiction|(exfalso;omega)))
    · have hi : i.toNat < ps.length := by omega
      obtain ⟨⟨y,hy⟩,hql⟩ := hps _ (List.getElem_mem hi)
      have hv : vs[i.toNat]? = some (vs[i.toNat]'(by omega)) := List.getElem?_eq_getElem (by omega)
      have hq : ps[i.toNat]? = some (ps[i.toNat]'hi) := List.getElem?_eq_getElem hi
      have hn := fstF_next (P := wuP st sy B depth) k0 hi
      rw [k2] at hn
      have hvi : i.toNat < vs.length := by omega
      repeat' first|(apply p3;(first|exact pu1|exact puL|exact puC|exact a_ldE (E := eVv) 0 rfl rfl rfl (fC rfl) rfl rfl (Nat.le_of_ble_eq_true rfl) bnd rfl (by first|exact trivial|exact rfl)|exact a_add rfl rfl (by omega) (by omega)|exact puI);exact rfl)|refine cd ?_|(apply c4 0;exact callK0 (θ := [0,1,2,3,5]) (hD := ((wuFn_ok st sy B depth Z ps vs i.toNat (ps[i.toNat]'hi) (vs[i.toNat]'hvi) y h1 h2 h3 h4 h5 h6 hv hq hy hql hd)));exact rfl;exact rfl;exact rfl;refine dM ?_)|((first|refine o_gs rfl rfl (fun hc => ?_) (fun hc => ?_)|refine g_cond rfl (fun hc => ?_) (fun hc => ?_)) <;> (try simp only [dcB] at hc) <;> (try first|contradiction|(exfalso;omega)))
      · rw [if_pos (by simpa using hc)] at hn
        rw [hn]
        repeat refine cr ?_
        refine ends_id ?_
        refine endK [] (h2 := ?_) (h3 := ?_) (nd := ?_)
        all_goals (repeat' first|exact ce0|refine ce ?_|refine ce2 ?_ ?_|(refine Or.inr (bx_eq rfl rfl ?_);(try dsimp only [C.ren,C.ren.all]);(try exact rfl))|exact SVLe.refl|refine ceb ?_)
        all_goals first | exact (show nodupB _ = true from rfl) | exact Or.inr rfl | (rfl)
      · rw [if_neg (by simp_all)] at hn
        refine q_again (i + 1) [0,1,2,3,4,5] (by exact stk) ?_ ?_
        · exact ⟨by omega,by omega,hn.symm⟩
        · omega
    · rw [← k2,List.drop_of_length_le (by omega)]
      repeat' first|(apply p3;(first|exact pu1|exact puL|exact puC|exact a_ldE (E := eVv) 0 rfl rfl rfl (fC rfl) rfl rfl (Nat.le_of_ble_eq_true rfl) bnd rfl (by first|exact trivial|exact rfl)|exact a_add rfl rfl (by omega) (by omega)|exact puI);exact rfl)|refine cd ?_|(apply c4 0;exact callK0 (θ := [0,1,2,3,5]) (hD := ((wuFn_ok st sy B depth Z ps vs i.toNat (ps[i.toNat]'hi) (vs[i.toNat]'hvi) y h1 h2 h3 h4 h5 h6 hv hq hy hql hd)));exact rfl;exact rfl;exact rfl;refine dM ?_)|((first|refine o_gs rfl rfl (fun hc => ?_) (fun hc => ?_)|refine g_cond rfl (fun hc => ?_) (fun hc => ?_)) <;> (try simp only [dcB] at hc) <;> (try first|contradiction|(exfalso;omega)))
      repeat refine cr ?_
      refine ends_id ?_
      refine endK [] (h2 := ?_) (h3 := ?_) (nd := ?_)
      all_goals (repeat' first|exact ce0|refine ce ?_|refine ce2 ?_ ?_|(refine Or.inr (bx_eq rfl rfl ?_);(try dsimp only [C.ren,C.ren.all]);(try exact rfl))|exact SVLe.refl|refine ceb ?_)
      all_goals first | exact (show nodupB _ = true from rfl) | exact Or.inr rfl | (rfl)
def kv (P : List Int → Bool) (ps : List (List Int)) (vs : List Value) : List Value := ((ps.zip vs).filter fun x => P x.1).map (·.2)
theorem kept_kv (P : List Int → Bool) : ∀ {ps : List (List Int)} {vs : List Value},vs.length = ps.length → Kept ps vs (ps.filter P) (kv P ps vs)
  | [],[],_ => .nil
  | [],_ :: _,h => by simp at h
  | _ :: _,[],h => by simp at h
  | p :: ps,v :: vs,h => by
    have ih := kept_kv P (ps := ps) (vs := vs) (by simpa using h)
    unfold kv at ih ⊢
    rw [List.zip_cons_cons,List.filter_cons,List.filter_cons]
    cases hp : P p with
    | true => simp only [if_true,List.map_cons]; exact .keep ih
    | false => simp only [Bool.false_eq_true,if_false]; exact .skip ih
theorem kv_next {P : List Int → Bool} {ps : List (List Int)} {vs : List Value} {j : Int} (h0 : 0 ≤ j) (h : j.toNat < ps.length) (h' : j.toNat < vs.length) : kv P (ps.take (j + 1).toNat) (vs.take (j + 1).toNat) = if P ps[j.toNat] = true then kv P (ps.take j.toNat) (vs.take j.toNat) ++ [vs[j.toNat]] else kv P (ps.take j.toNat) (vs.take j.toNat) := by
  unfold kv
  rw [show (j + 1).toNat = j.toNat + 1 by omega,List.take_succ_eq_append_getElem h,List.take_succ_eq_append_getElem h',List.zip_append (by rw [List.length_take,List.length_take]; omega),List.filter_append,List.map_append]
  cases hp : P ps[j.toNat] with
  | true => simp [hp]
  | false => simp [hp]
theorem kv_all {P : List Int → Bool} : ∀ {ps : List (List Int)} {vs : List Value},vs.length = ps.length → (∀ q ∈ ps,P q = true) → kv P ps vs = vs
  | [],[],_,_ => rfl
  | [],_ :: _,h,_ => by simp at h
  | _ :: _,[],h,_ => by simp at h
  | p :: ps,v :: vs,h,hp => by
    have ih := kv_all (P := P) (ps := ps) (vs := vs) (by simpa using h) (fun q hq => hp q (by simp [hq]))
    unfold kv at ih ⊢
    rw [List.zip_cons_cons,List.filter_cons,if_pos (hp p (by simp)),List.map_cons,ih]
theorem delF_ok (st sy B depth : Int) (Z : Foot) (ps : List (List Int)) (h1 : 1 ≤ st) (h2 : st ≤ 6) (h3 : 2 ≤ sy) (h4 : sy ≤ 6) (h5 : 0 ≤ B) (h6 : B ≤ 1000000) (hd : depth ≤ 36) (hl : (ps.length : Int) ≤ 400) (hps : NdsOk st sy B depth ps) : Does Tryz.prog 107 [.one (.gv 4),.one (.fn (.func 108) [.gv 3,.gv 2])] [.bx (foC st sy B 0),foM B sy st 1,.bx [int depth],.bx [.gv 0],thR Z ps 4] (.one (.gv 5)) [.bx (foC st sy B 0),foM B sy st 1,.bx [int depth],.bx [.gv 0],.dead,thR Z (ps.filter (wuP st sy B depth)) 5] := by
  obtain ⟨f1,f2,f3⟩ := fstF_spec (P := wuP st sy B depth) ps 0
  refine does_of (k := 5) Tryz.func107 rfl Tryz.ntmps107 rfl rfl fun w F0 S0 ρ0 => ?_
  dsimp only [argT,argH]
  refine g_openT (i := 4) rfl rfl (fun vs hvs => ?_)
  repeat' first|(apply p3;(first|exact pu1|exact puC|exact a_eqS rfl rfl rfl);exact rfl)|refine cd ?_|(apply c4 0;exact callK1 (θ := []) (hD := (idxW_ok _ _ _ preB113 preB113 preB113 preB113));exact rfl;exact rfl;exact rfl;refine dM ?_)|(apply c4 0;exact callK1 (θ := []) (hD := (idxWd_ok _ _ _ _ preB113 preB113 preB113 preB113));exact rfl;exact rfl;exact rfl;refine dM ?_)|(apply c4 0;exact callK0 (θ := [0,1,2,3,4,5]) (hD := (idxF_ok st sy B depth Z ps vs h1 h2 h3 h4 h5 h6 hd hvs hl hps));exact rfl;exact rfl;exact rfl;refine dM ?_)|(refine o_gs rfl rfl (fun hc => ?_) (fun hc => ?_) <;> (try simp only [dcB] at hc) <;> (try first|contradiction|(exfalso;omega)))|(refine g_cond (c := .tmp 19) rfl (fun hc => ?_) (fun hc => ?_) <;> (try simp only [dcB] at hc) <;> (try (first|contradiction|(exfalso;omega))))|(refine g_cond (c := .tmp 29) rfl (fun hc => ?_) (fun hc => ?_) <;> (try simp only [dcB] at hc) <;> (try (first|contradiction|(exfalso;omega))))
  by_cases hm : fstF (wuP st sy B depth) ps 0 = -1
  · have hall : ps.filter (wuP st sy B depth) = ps := List.filter_eq_self.2 (f2 (Int.le_refl _) hm)
    rw [hall]
    simp only [hm]
    refine g_conv (t_shutT (j := 4) (q := 5) rfl rfl (Kept.all hvs) rfl) ?_
    repeat' first|(apply p3;(first|exact pu1|exact puL|exact puC|exact a_eqS rfl rfl rfl|exact a_add rfl rfl (by omega) (by omega)|exact puN|exact a_len_str rfl (fT rfl)|exact a_ldE (E := eVv) 0 rfl rfl rfl (fC rfl) rfl rfl (Nat.le_of_ble_eq_true rfl) bnd rfl (by first|exact trivial|exact rfl)|exact a_slT rfl rfl rfl (fS rfl) (by omega) (by omega) (by exact rfl)|exact a_sl0 rfl rfl (fS rfl)|exact a_slH rfl rfl rfl (fS rfl) (by omega) (by omega) (by exact rfl)|exact puI);exact rfl)|refine cd ?_|(apply s3;(first|exact a_slTO rfl rfl rfl (fS rfl) (by omega) (by omega) (by exact rfl) (by decide)|exact a_slHO rfl rfl rfl (fS rfl) (by omega) (by omega) (by exact rfl) (by decide));exact rfl;exact rfl)|(apply w3;(first|exact a_st_bx rfl rfl rfl rfl (fN rfl rfl) (Nat.le_of_ble_eq_true rfl) rfl|exact a_stE (E := eVv) _ rfl rfl rfl rfl (fN rfl rfl) bnd (by exact rfl)|exact a_clearG (E := eVv) (.slice none 0 0) (.slice none 0 0) rfl rfl rfl rfl Tryz.underlying36 (by kernel_rfl) rfl rfl bnd rfl);exact rfl;refine dS ?_)|(apply c4 0;exact callK1 (θ := []) (hD := (idxW_ok _ _ _ preB113 preB113 preB113 preB113));exact rfl;exact rfl;exact rfl;refine dM ?_)|(apply c4 0;exact callK1 (θ := []) (hD := (idxWd_ok _ _ _ _ preB113 preB113 preB113 preB113));exact rfl;exact rfl;exact rfl;refine dM ?_)|(apply c4 0;exact callK0 (θ := [0,1,2,3,4,5]) (hD := (idxF_ok st sy B depth Z ps vs h1 h2 h3 h4 h5 h6 hd hvs hl hps));exact rfl;exact rfl;exact rfl;refine dM ?_)|((first|refine o_gs rfl rfl (fun hc => ?_) (fun hc => ?_)|refine g_cond rfl (fun hc => ?_) (fun hc => ?_)) <;> (try simp only [dcB] at hc) <;> (try first|contradiction|(exfalso;omega)))
    repeat refine cr ?_
    refine ends_id ?_
    refine endK [?_] (h2 := ?_) (h3 := ?_) (nd := ?_)
    rotate_left 1
    all_goals (repeat' first|exact ce0|refine ce ?_|refine ce2 ?_ ?_|(refine Or.inr (bx_eq rfl rfl ?_);(try dsimp only [C.ren,C.ren.all]);(try exact rfl))|exact SVLe.refl|refine ceb ?_)
    all_goals first | exact (show nodupB _ = true from rfl) | exact Or.inr rfl | (rfl)
  · obtain ⟨k,k1,k2,k3,k4⟩ := f3 (Int.le_refl _) hm
    rw [Int.zero_add] at k1
    simp only [k1]
    repeat' first|(apply p3;(first|exact pu1|exact puL|exact puC|exact a_eqS rfl rfl rfl|exact a_add rfl rfl (by omega) (by omega)|exact puN|exact a_len_str rfl (fT rfl)|exact a_ldE (E := eVv) 0 rfl rfl rfl (fC rfl) rfl rfl (Nat.le_of_ble_eq_true rfl) bnd rfl (by first|exact trivial|exact rfl)|exact a_slT rfl rfl rfl (fS rfl) (by omega) (by omega) (by exact rfl)|exact a_sl0 rfl rfl (fS rfl)|exact a_slH rfl rfl rfl (fS rfl) (by omega) (by omega) (by exact rfl)|exact puI);exact rfl)|refine cd ?_|(apply s3;(first|exact a_slTO rfl rfl rfl (fS rfl) (by omega) (by omega) (by exact rfl) (by decide)|exact a_slHO rfl rfl rfl (fS rfl) (by omega) (by omega) (by exact rfl) (by decide));exact rfl;exact rfl)|(apply w3;(first|exact a_st_bx rfl rfl rfl rfl (fN rfl rfl) (Nat.le_of_ble_eq_true rfl) rfl|exact a_stE (E := eVv) _ rfl rfl rfl rfl (fN rfl rfl) bnd (by exact rfl)|exact a_clearG (E := eVv) (.slice none 0 0) (.slice none 0 0) rfl rfl rfl rfl Tryz.underlying36 (by kernel_rfl) rfl rfl bnd rfl);exact rfl;refine dS ?_)|(apply c4 0;exact callK1 (θ := []) (hD := (idxW_ok _ _ _ preB113 preB113 preB113 preB113));exact rfl;exact rfl;exact rfl;refine dM ?_)|(apply c4 0;exact callK1 (θ := []) (hD := (idxWd_ok _ _ _ _ preB113 preB113 preB113 preB113));exact rfl;exact rfl;exact rfl;refine dM ?_)|(apply c4 0;exact callK0 (θ := [0,1,2,3,4,5]) (hD := (idxF_ok st sy B depth Z ps vs h1 h2 h3 h4 h5 h6 hd hvs hl hps));exact rfl;exact rfl;exact rfl;refine dM ?_)|((first|refine o_gs rfl rfl (fun hc => ?_) (fun hc => ?_)|refine g_cond rfl (fun hc => ?_) (fun hc => ?_)) <;> (try simp only [dcB] at hc) <;> (try first|contradiction|(exfalso;omega)))
    refine g_loop_id ?_
    refine loopK [0,1,4] [4] (fun y : Int × Int × List Value => 0 ≤ y.1 ∧ y.1 < y.2.1 ∧ y.2.1 ≤ ps.length ∧ y.2.2.length = ps.length ∧ y.2.2.take y.1.toNat = kv (wuP st sy B depth) (ps.take y.2.1.toNat) (vs.take y.2.1.toNat) ∧ y.2.2.drop y.2.1.toNat = vs.drop y.2.1.toNat) (fun y => [(5,.one (int y.1)),(6,.one (int y.2.1))]) (fun y => [(4,.row 1 (rows eVv y.2.2))]) (fun y => (ps.length - y.2.1).toNat) ((k : Int),(k : Int) + 1,vs) [0,1,2,3,4,5] (hI := ?_) (hr := ?_)
    · refine ⟨by dsimp only; omega,by dsimp only; omega,by dsimp only; omega,hvs,?_,rfl⟩
      dsimp only
      have hk := kv_next (P := wuP st sy B depth) (ps := ps) (vs := vs) (j := (k : Int)) (by omega) (by simp; omega) (by simp; omega)
      rw [hk,if_neg (by simp [k3]),kv_all (by rw [List.length_take,List.length_take]; omega) (by simpa using k4)]
    · rintro ⟨i,j,cur⟩ ⟨m0,m1,m2,m3,m4,m5⟩
      dsimp only [List.cons_append,List.nil_append] at *
      skip
      repeat' first|(apply p3;(first|exact pu1|exact puN|exact a_len_str rfl (fT rfl)|exact puC|exact a_slT rfl rfl rfl (fS rfl) (by omega) (by omega) (by exact rfl)|exact a_sl0 rfl rfl (fS rfl)|exact a_slH rfl rfl rfl (fS rfl) (by omega) (by omega) (by exact rfl));exact rfl)|refine cdn ?_|refine g_reg (id := 5) ?_|refine g_reg (id := 12) ?_|(apply s3;(first|exact a_slTO rfl rfl rfl (fS rfl) (by omega) (by omega) (by exact rfl) (by decide)|exact a_slHO rfl rfl rfl (fS rfl) (by omega) (by omega) (by exact rfl) (by decide));exact rfl;exact rfl)|(apply w3;exact a_clearG (E := eVv) (.slice none 0 0) (.slice none 0 0) rfl rfl rfl rfl Tryz.underlying36 (by kernel_rfl) rfl rfl bnd rfl;exact rfl;refine dS ?_)|((first|refine o_gs rfl rfl (fun hc => ?_) (fun hc => ?_)|refine g_cond rfl (fun hc => ?_) (fun hc => ?_)) <;> (try simp only [dcB] at hc) <;> (try first|contradiction|(exfalso;omega)))
      · try dsimp only at m0 m1 m2 m3 m4 m5
        have hj : j.toNat < ps.length := by omega
        obtain ⟨⟨y,hy⟩,hql⟩ := hps _ (List.getElem_mem hj)
        have hcj : j.toNat < cur.length := by omega
        have hcv : cur[j.toNat]'(by omega) = vs[j.toNat]'(by omega) := by
          have := congrArg (fun l => l[0]?) m5
          simp only [List.getElem?_drop,Nat.add_zero] at this
          rw [List.getElem?_eq_getElem (by omega),List.getElem?_eq_getElem (by omega)] at this
          exact Option.some.inj this
        have hv : vs[j.toNat]? = some (cur[j.toNat]'(by omega)) := by rw [hcv]; exact List.getElem?_eq_getElem (by omega)
        have hq : ps[j.toNat]? = some (ps[j.toNat]'hj) := List.getElem?_eq_getElem hj
        have hn := kv_next (P := wuP st sy B depth) (ps := ps) (vs := vs) (j := j) (by omega) hj (by omega)
        have m6 : cur.drop (j + 1).toNat = vs.drop (j + 1).toNat := by
          rw [show (j + 1).toNat = j.toNat + 1 by omega,← List.drop_drop,← List.drop_drop,m5]
        repeat' first|(apply p3;(first|exact pu1|exact puL|exact puN|exact a_len_str rfl (fT rfl)|exact puC|exact a_ldE (E := eVv) 0 rfl rfl rfl (fC rfl) rfl rfl (Nat.le_of_ble_eq_true rfl) bnd rfl (by first|exact trivial|exact rfl)|exact a_add rfl rfl (by omega) (by omega)|exact a_slT rfl rfl rfl (fS rfl) (by omega) (by omega) (by exact rfl)|exact a_sl0 rfl rfl (fS rfl)|exact a_slH rfl rfl rfl (fS rfl) (by omega) (by omega) (by exact rfl)|exact puI);exact rfl)|refine cd ?_|(apply s3;(first|exact a_slTO rfl rfl rfl (fS rfl) (by omega) (by omega) (by exact rfl) (by decide)|exact a_slHO rfl rfl rfl (fS rfl) (by omega) (by omega) (by exact rfl) (by decide));exact rfl;exact rfl)|(apply w3;(first|exact a_st_bx rfl rfl rfl rfl (fN rfl rfl) (Nat.le_of_ble_eq_true rfl) rfl|exact a_stE (E := eVv) _ rfl rfl rfl rfl (fN rfl rfl) bnd (by exact rfl)|exact a_clearG (E := eVv) (.slice none 0 0) (.slice none 0 0) rfl rfl rfl rfl Tryz.underlying36 (by kernel_rfl) rfl rfl bnd rfl);exact rfl;refine dS ?_)|(apply c4 0;exact callK0 (θ := [0,1,2,3,5]) (hD := ((wuFn_ok st sy B depth Z ps vs j.toNat (ps[j.toNat]'hj) (cur[j.toNat]'hcj) y h1 h2 h3 h4 h5 h6 hv hq hy hql hd)));exact rfl;exact rfl;exact rfl;refine dM ?_)|((first|refine o_gs rfl rfl (fun hc => ?_) (fun hc => ?_)|refine g_cond rfl (fun hc => ?_) (fun hc => ?_)) <;> (try simp only [dcB] at hc) <;> (try first|contradiction|(exfalso;omega)))
        · rw [if_pos (by simpa using hc),← m4,← hcv] at hn
          refine q_again (i + 1,j + 1,cur.set i.toNat (cur[j.toNat]'(by omega))) [0,1,2,3,4,5] (by exact stk) ?_ ?_
          · refine ⟨by dsimp only; omega,by dsimp only; omega,by dsimp only; omega,by simp [m3],?_,?_⟩
            · dsimp only
              rw [hn,show (i + 1).toNat = i.toNat + 1 by omega,List.take_succ_eq_append_getElem (by simp; omega),List.getElem_set_self,List.take_set_of_le (Nat.le_refl _)]
            · dsimp only
              rw [List.drop_set_of_lt (by omega)]
              exact m6
          · dsimp only; omega
        · rw [if_neg (by simp_all),← m4] at hn
          refine q_again (i,j + 1,cur) [0,1,2,3,4,5] (by exact stk) ?_ ?_
          · exact ⟨m0,by dsimp only; omega,by dsimp only; omega,m3,hn.symm,m6⟩
          · dsimp only; omega
      · try dsimp only at m0 m1 m2 m3 m4 m5
        have hj : j.toNat = ps.length := by omega
        rw [hj,List.take_length,List.take_of_length_le (show vs.length ≤ ps.length by omega)] at m4
        repeat' first|(apply p3;(first|exact pu1|exact puL|exact puN|exact a_len_str rfl (fT rfl)|exact puC|exact a_ldE (E := eVv) 0 rfl rfl rfl (fC rfl) rfl rfl (Nat.le_of_ble_eq_true rfl) bnd rfl (by first|exact trivial|exact rfl)|exact a_add rfl rfl (by omega) (by omega)|exact a_slTG rfl rfl rfl (fS rfl) (by omega) (by omega) (by exact rfl)|exact puI);exact rfl)|refine cdn ?_|refine g_reg (id := 5) ?_|refine g_reg (id := 7) ?_|refine g_reg (id := 8) ?_|refine g_reg (id := 9) ?_|refine g_reg (id := 10) ?_|refine g_reg (id := 6) ?_|refine g_reg (id := 11) ?_|(apply w3;(first|exact a_st_bx rfl rfl rfl rfl (fN rfl rfl) (Nat.le_of_ble_eq_true rfl) rfl|exact a_stE (E := eVv) _ rfl rfl rfl rfl (fN rfl rfl) bnd (by exact rfl)|exact a_clearG (E := eVv) (.slice none 0 0) (.slice none 0 0) rfl rfl rfl rfl Tryz.underlying36 (by kernel_rfl) rfl rfl bnd rfl);exact rfl;refine dS ?_)|(apply c4 0;exact callK0 (θ := [0,1,2,3,5]) (hD := ((wuFn_ok st sy B depth Z ps vs j.toNat (ps[j.toNat]'hj) (cur[j.toNat]'hcj) y h1 h2 h3 h4 h5 h6 hv hq hy hql hd)));exact rfl;exact rfl;exact rfl;refine dM ?_)|((first|refine o_gs rfl rfl (fun hc => ?_) (fun hc => ?_)|refine g_cond rfl (fun hc => ?_) (fun hc => ?_)) <;> (try simp only [dcB] at hc) <;> (try first|contradiction|(exfalso;omega)))
        have hf : (cur.take i.toNat ++ List.replicate (cur.length - i.toNat) (Value.slice none 0 0) ++ cur.drop cur.length).take i.toNat = kv (wuP st sy B depth) ps vs := by
          rw [← m4,List.append_assoc,List.take_append_of_le_length (by rw [List.length_take]; omega),List.take_take,Nat.min_self]
        have hcl : (cur.take i.toNat ++ List.replicate (cur.length - i.toNat) (Value.slice none 0 0) ++ cur.drop cur.length).length = cur.length := by
          simp
          omega
        generalize cur.take i.toNat ++ List.replicate (cur.length - i.toNat) (Value.slice none 0 0) ++ cur.drop cur.length = cl at *
        repeat' first|(apply p3;(first|exact pu1|exact puL|exact puN|exact a_len_str rfl (fT rfl)|exact puC|exact a_ldE (E := eVv) 0 rfl rfl rfl (fC rfl) rfl rfl (Nat.le_of_ble_eq_true rfl) bnd rfl (by first|exact trivial|exact rfl)|exact a_add rfl rfl (by omega) (by omega)|exact a_slT rfl rfl rfl (fS rfl) (by omega) (by omega) (by exact rfl)|exact a_sl0 rfl rfl (fS rfl)|exact a_slH rfl rfl rfl (fS rfl) (by omega) (by omega) (by exact rfl)|exact puI);exact rfl)|refine cd ?_|(apply s3;(first|exact a_slTO rfl rfl rfl (fS rfl) (by omega) (by omega) (by exact rfl) (by decide)|exact a_slHO rfl rfl rfl (fS rfl) (by omega) (by omega) (by exact rfl) (by decide));exact rfl;exact rfl)|(apply w3;(first|exact a_st_bx rfl rfl rfl rfl (fN rfl rfl) (Nat.le_of_ble_eq_true rfl) rfl|exact a_stE (E := eVv) _ rfl rfl rfl rfl (fN rfl rfl) bnd (by exact rfl)|exact a_clearG (E := eVv) (.slice none 0 0) (.slice none 0 0) rfl rfl rfl rfl Tryz.underlying36 (by kernel_rfl) rfl rfl bnd rfl);exact rfl;refine dS ?_)|(apply c4 0;exact callK0 (θ := [0,1,2,3,5]) (hD := ((wuFn_ok st sy B depth Z ps vs j.toNat (ps[j.toNat]'hj) (cur[j.toNat]'hcj) y h1 h2 h3 h4 h5 h6 hv hq hy hql hd)));exact rfl;exact rfl;exact rfl;refine dM ?_)|((first|refine o_gs rfl rfl (fun hc => ?_) (fun hc => ?_)|refine g_cond rfl (fun hc => ?_) (fun hc => ?_)) <;> (try simp only [dcB] at hc) <;> (try first|contradiction|(exfalso;omega)))
        rw [hf]
        refine g_conv (t_shutT (j := 6) (q := 5) rfl rfl (kept_kv _ hvs) rfl) ?_
        repeat refine cr ?_
        refine ends_id ?_
        refine endK [?_] (h2 := ?_) (h3 := ?_) (nd := ?_)
        rotate_left 1
        all_goals (repeat' first|exact ce0|refine ce ?_|refine ce2 ?_ ?_|(refine Or.inr (bx_eq rfl rfl ?_);(try dsimp only [C.ren,C.ren.all]);(try exact rfl))|exact SVLe.refl|refine ceb ?_)
        all_goals first | exact (show nodupB _ = true from rfl) | exact Or.inr rfl | (rfl)
theorem iWorkUnits_ok (st sy depth B : Int) : Does Tryz.prog 46 [.one (int st),.one (int sy),.one (int depth),.one (int B)] [] (.tup [(false,[.gv 0]),(false,[int (sctC st sy B depth)])]) [.row 1 (rows eO1 (wuL st sy B depth))] := by
  by_cases h : askT st sy B = 0
  · obtain ⟨q1,q2,q3,q4⟩ := ask_bd h
    by_cases hd : 0 ≤ depth ∧ depth ≤ 36
    · obtain ⟨T,hT,hok,hno⟩ := sct_ok (st := st) (sy := sy) (B := B) h hd
      have hp0 : (([] : List Int).length : Int) ≤ 1048576 := by simp
      have hv : pth B (root sy st) [] = some (root sy st) := rfl
      have hask : (if askT st sy B = 0 then if 0 ≤ depth ∧ depth ≤ 36 then (0 : Int) else 2 else askT st sy B) = 0 := by rw [if_pos h,if_pos hd]
      have hnds : NdsOk st sy B depth T := fun q hq => by
        have hql := tre_len B depth.toNat [] (root sy st) q (by rw [← hT]; exact hq)
        refine ⟨tre_pth (root_ok q2.1 q2.2 q1.1 (by omega)) depth.toNat [] (root sy st) hv q (by rw [← hT]; exact hq),?_⟩
        simp at hql
        omega
      by_cases hf : (T.length : Int) ≤ 400
      · obtain ⟨e1,e2,e3,e4⟩ := hok hf
        rw [wu_fit e3 e2,e3]
        refine does_of (k := 0) Tryz.func46 rfl Tryz.ntmps46 rfl rfl fun w F0 S0 ρ0 => ?_
        dsimp only [argT,argH]
        repeat' first|(apply n3;exact a_nilO eO1 rfl;exact rfl)|(apply n3;exact a_new (gb := .bx _) rfl;exact rfl;refine dA ?_)|(apply p3;(first|exact pu1|exact puL|exact a_ne rfl rfl|exact a_neS rfl rfl rfl);exact rfl)|refine cdn ?_|refine g_reg (id := 0) ?_|refine g_reg (id := 1) ?_|refine g_reg (id := 2) ?_|refine g_reg (id := 3) ?_|(apply c4 0;exact callK1 (θ := []) (hD := (depthCode_ok _ _ _ _));exact rfl;exact rfl;exact rfl;refine dM ?_)|((first|refine o_gs rfl rfl (fun hc => ?_) (fun hc => ?_)|refine g_cond rfl (fun hc => ?_) (fun hc => ?_)) <;> (try simp only [dcB] at hc) <;> (try first|contradiction|(exfalso;omega)))
        refine g_conv t_zw ?_
        repeat' first|(apply n3;exact a_nilO eO1 rfl;exact rfl)|(apply n3;exact a_new (gb := .bx _) rfl;exact rfl;refine dA ?_)|(apply p3;(first|exact pu1|exact puL|exact a_ne rfl rfl|exact a_neS rfl rfl rfl);exact rfl)|refine cdn ?_|refine g_reg (id := 0) ?_|refine g_reg (id := 1) ?_|refine g_reg (id := 2) ?_|refine g_reg (id := 3) ?_|refine g_reg (id := 4) ?_|refine g_reg (id := 5) ?_|(apply w3;exact a_st_bx rfl rfl rfl rfl (fN rfl rfl) (Nat.le_of_ble_eq_true rfl) rfl;exact rfl;refine dS ?_)|(apply c4 0;exact callK1 (θ := []) (hD := (depthCode_ok _ _ _ _));exact rfl;exact rfl;exact rfl;refine dM ?_)|(apply c4 2;exact callK0 (θ := []) (hD := (forestOf_ok _ _ _));exact rfl;exact rfl;exact rfl;refine dM ?_)|(apply c4 1;exact callK0 (θ := [3,4,2]) (hD := (below_ok st sy B depth [] _ hp0 preB113 preB113 preB113 preB113 preB113 preB113 preB113 preB113));exact rfl;exact rfl;exact rfl;refine dM ?_)|((first|refine o_gs rfl rfl (fun hc => ?_) (fun hc => ?_)|refine g_cond rfl (fun hc => ?_) (fun hc => ?_)) <;> (try simp only [dcB] at hc) <;> (try first|contradiction|(exfalso;omega)))
        rw [e1,e2]
        repeat' first|(apply n3;exact a_nilO eO1 rfl;exact rfl)|(apply n3;exact a_new (gb := .bx _) rfl;exact rfl;refine dA ?_)|(apply p3;(first|exact pu1|exact puL|exact a_ne rfl rfl|exact a_neS rfl rfl rfl);exact rfl)|refine cd ?_|(apply w3;exact a_st_bx rfl rfl rfl rfl (fN rfl rfl) (Nat.le_of_ble_eq_true rfl) rfl;exact rfl;refine dS ?_)|(apply c4 0;exact callK1 (θ := []) (hD := (depthCode_ok _ _ _ _));exact rfl;exact rfl;exact rfl;refine dM ?_)|(apply c4 2;exact callK0 (θ := []) (hD := (forestOf_ok _ _ _));exact rfl;exact rfl;exact rfl;refine dM ?_)|(apply c4 1;exact callK0 (θ := [3,4,2]) (hD := (below_ok st sy B depth [] _ hp0 preB113 preB113 preB113 preB113 preB113 preB113 preB113 preB113));exact rfl;exact rfl;exact rfl;refine dM ?_)|(apply c4 1;exact callK0 (θ := [3,4,0,5,6]) (hD := (delF_ok st sy B depth _ T preB113 preB113 preB113 preB113 preB113 preB113 preB113 hf hnds));exact rfl;exact rfl;exact rfl;refine dM ?_)|((first|refine o_gs rfl rfl (fun hc => ?_) (fun hc => ?_)|refine g_cond rfl (fun hc => ?_) (fun hc => ?_)) <;> (try simp only [dcB] at hc) <;> (try first|contradiction|(exfalso;omega)))
        refine g_turn (t_thaw (i := 7) (t' := [(8,.one (.gv 7)),(9,.one (int 0))]) rfl ⟨.inr rfl,.inr rfl,trivial⟩ ⟨trivial,trivial,trivial⟩) ?_
        repeat refine cr ?_
        refine ends_id ?_
        refine endK [?_] (h2 := ?_) (h3 := ?_) (nd := ?_)
        rotate_left 1
        all_goals (repeat' first|exact ce0|refine ce ?_|refine ce2 ?_ ?_|(refine Or.inr (bx_eq rfl rfl ?_);(try dsimp only [C.ren,C.ren.all]);(try exact rfl))|exact SVLe.refl|refine ceb ?_)
        all_goals first | exact (show nodupB _ = true from rfl) | exact Or.inr rfl | (rfl)
      · obtain ⟨e1,e2,e3,e4⟩ := hno hf
        rw [wu_full e3,e3]
        refine does_of (k := 0) Tryz.func46 rfl Tryz.ntmps46 rfl rfl fun w F0 S0 ρ0 => ?_
        dsimp only [argT,argH]
        repeat' first|(apply n3;exact a_nilO eO1 rfl;exact rfl)|(apply n3;exact a_new (gb := .bx _) rfl;exact rfl;refine dA ?_)|(apply p3;(first|exact pu1|exact puL|exact a_ne rfl rfl|exact a_neS rfl rfl rfl);exact rfl)|refine cdn ?_|refine g_reg (id := 0) ?_|refine g_reg (id := 1) ?_|refine g_reg (id := 2) ?_|refine g_reg (id := 3) ?_|(apply c4 0;exact callK1 (θ := []) (hD := (depthCode_ok _ _ _ _));exact rfl;exact rfl;exact rfl;refine dM ?_)|((first|refine o_gs rfl rfl (fun hc => ?_) (fun hc => ?_)|refine g_cond rfl (fun hc => ?_) (fun hc => ?_)) <;> (try simp only [dcB] at hc) <;> (try first|contradiction|(exfalso;omega)))
        refine g_conv t_zw ?_
        repeat' first|(apply n3;exact a_nilO eO1 rfl;exact rfl)|(apply n3;exact a_new (gb := .bx _) rfl;exact rfl;refine dA ?_)|(apply p3;(first|exact pu1|exact puL|exact a_ne rfl rfl|exact a_neS rfl rfl rfl);exact rfl)|refine cdn ?_|refine g_reg (id := 0) ?_|refine g_reg (id := 1) ?_|refine g_reg (id := 2) ?_|refine g_reg (id := 3) ?_|refine g_reg (id := 4) ?_|refine g_reg (id := 5) ?_|(apply w3;exact a_st_bx rfl rfl rfl rfl (fN rfl rfl) (Nat.le_of_ble_eq_true rfl) rfl;exact rfl;refine dS ?_)|(apply c4 0;exact callK1 (θ := []) (hD := (depthCode_ok _ _ _ _));exact rfl;exact rfl;exact rfl;refine dM ?_)|(apply c4 2;exact callK0 (θ := []) (hD := (forestOf_ok _ _ _));exact rfl;exact rfl;exact rfl;refine dM ?_)|(apply c4 1;exact callK0 (θ := [3,4,2]) (hD := (below_ok st sy B depth [] _ hp0 preB113 preB113 preB113 preB113 preB113 preB113 preB113 preB113));exact rfl;exact rfl;exact rfl;refine dM ?_)|((first|refine o_gs rfl rfl (fun hc => ?_) (fun hc => ?_)|refine g_cond rfl (fun hc => ?_) (fun hc => ?_)) <;> (try simp only [dcB] at hc) <;> (try first|contradiction|(exfalso;omega)))
        rw [e1,e2]
        repeat' first|(apply n3;exact a_nilO eO1 rfl;exact rfl)|(apply n3;exact a_new (gb := .bx _) rfl;exact rfl;refine dA ?_)|(apply p3;(first|exact pu1|exact puL|exact a_ne rfl rfl|exact a_neS rfl rfl rfl);exact rfl)|refine cd ?_|(apply w3;exact a_st_bx rfl rfl rfl rfl (fN rfl rfl) (Nat.le_of_ble_eq_true rfl) rfl;exact rfl;refine dS ?_)|(apply c4 0;exact callK1 (θ := []) (hD := (depthCode_ok _ _ _ _));exact rfl;exact rfl;exact rfl;refine dM ?_)|(apply c4 2;exact callK0 (θ := []) (hD := (forestOf_ok _ _ _));exact rfl;exact rfl;exact rfl;refine dM ?_)|(apply c4 1;exact callK0 (θ := [3,4,2]) (hD := (below_ok st sy B depth [] _ hp0 preB113 preB113 preB113 preB113 preB113 preB113 preB113 preB113));exact rfl;exact rfl;exact rfl;refine dM ?_)|(apply c4 1;exact callK0 (θ := [3,4,0,5,6]) (hD := (delF_ok st sy B depth _ T preB113 preB113 preB113 preB113 preB113 preB113 preB113 hf hnds));exact rfl;exact rfl;exact rfl;refine dM ?_)|((first|refine o_gs rfl rfl (fun hc => ?_) (fun hc => ?_)|refine g_cond rfl (fun hc => ?_) (fun hc => ?_)) <;> (try simp only [dcB] at hc) <;> (try first|contradiction|(exfalso;omega)))
        repeat refine cr ?_
        refine ends_id ?_
        refine endK [?_] (h2 := ?_) (h3 := ?_) (nd := ?_)
        rotate_left 1
        all_goals (repeat' first|exact ce0|refine ce ?_|refine ce2 ?_ ?_|(refine Or.inr (bx_eq rfl rfl ?_);(try dsimp only [C.ren,C.ren.all]);(try exact rfl))|exact SVLe.refl|refine ceb ?_)
        all_goals first | exact (show nodupB _ = true from rfl) | exact Or.inr rfl | (rfl)
    · obtain ⟨e1,e2⟩ := wu_dep h hd
      rw [e1,e2]
      have hask : (if askT st sy B = 0 then if 0 ≤ depth ∧ depth ≤ 36 then (0 : Int) else 2 else askT st sy B) = 2 := by rw [if_pos h,if_neg hd]
      refine does_of (k := 0) Tryz.func46 rfl Tryz.ntmps46 rfl rfl fun w F0 S0 ρ0 => ?_
      dsimp only [argT,argH]
      repeat' first|(apply n3;exact a_nilO eO1 rfl;exact rfl)|(apply n3;exact a_new (gb := .bx _) rfl;exact rfl;refine dA ?_)|(apply p3;(first|exact pu1|exact puL|exact a_ne rfl rfl|exact a_neS rfl rfl rfl);exact rfl)|refine cd ?_|(apply w3;exact a_st_bx rfl rfl rfl rfl (fN rfl rfl) (Nat.le_of_ble_eq_true rfl) rfl;exact rfl;refine dS ?_)|(apply c4 0;exact callK1 (θ := []) (hD := (depthCode_ok _ _ _ _));exact rfl;exact rfl;exact rfl;refine dM ?_)|(apply c4 2;exact callK0 (θ := []) (hD := (forestOf_ok _ _ _));exact rfl;exact rfl;exact rfl;refine dM ?_)|(apply c4 1;exact callK0 (θ := [3,4,2]) (hD := (below_ok st sy B depth [] _ hp0 preB113 preB113 preB113 preB113 preB113 preB113 preB113 preB113));exact rfl;exact rfl;exact rfl;refine dM ?_)|(apply c4 1;exact callK0 (θ := [3,4,0,5,6]) (hD := (delF_ok st sy B depth _ T preB113 preB113 preB113 preB113 preB113 preB113 preB113 hf hnds));exact rfl;exact rfl;exact rfl;refine dM ?_)|((first|refine o_gs rfl rfl (fun hc => ?_) (fun hc => ?_)|refine g_cond rfl (fun hc => ?_) (fun hc => ?_)) <;> (try simp only [dcB] at hc) <;> (try first|contradiction|(exfalso;omega)))
      simp only [hask]
      repeat refine cr ?_
      refine ends_id ?_
      refine endK [?_] (h2 := ?_) (h3 := ?_) (nd := ?_)
      rotate_left 1
      all_goals (repeat' first|exact ce0|refine ce ?_|refine ce2 ?_ ?_|(refine Or.inr (bx_eq rfl rfl ?_);(try dsimp only [C.ren,C.ren.all]);(try exact rfl))|exact SVLe.refl|refine ceb ?_)
      all_goals first | exact (show nodupB _ = true from rfl) | exact Or.inr rfl | (rfl)
  · obtain ⟨e1,e2⟩ := wu_ask (depth := depth) h
    rw [e1,e2]
    have hask : (if askT st sy B = 0 then if 0 ≤ depth ∧ depth ≤ 36 then (0 : Int) else 2 else askT st sy B) = askT st sy B := by rw [if_neg h]
    refine does_of (k := 0) Tryz.func46 rfl Tryz.ntmps46 rfl rfl fun w F0 S0 ρ0 => ?_
    dsimp only [argT,argH]
    repeat' first|(apply n3;exact a_nilO eO1 rfl;exact rfl)|(apply n3;exact a_new (gb := .bx _) rfl;exact rfl;refine dA ?_)|(apply p3;(first|exact pu1|exact puL|exact a_ne rfl rfl|exact a_neS rfl rfl rfl);exact rfl)|refine cd ?_|(apply w3;exact a_st_bx rfl rfl rfl rfl (fN rfl rfl) (Nat.le_of_ble_eq_true rfl) rfl;exact rfl;refine dS ?_)|(apply c4 0;exact callK1 (θ := []) (hD := (depthCode_ok _ _ _ _));exact rfl;exact rfl;exact rfl;refine dM ?_)|(apply c4 2;exact callK0 (θ := []) (hD := (forestOf_ok _ _ _));exact rfl;exact rfl;exact rfl;refine dM ?_)|(apply c4 1;exact callK0 (θ := [3,4,2]) (hD := (below_ok st sy B depth [] _ hp0 preB113 preB113 preB113 preB113 preB113 preB113 preB113 preB113));exact rfl;exact rfl;exact rfl;refine dM ?_)|(apply c4 1;exact callK0 (θ := [3,4,0,5,6]) (hD := (delF_ok st sy B depth _ T preB113 preB113 preB113 preB113 preB113 preB113 preB113 hf hnds));exact rfl;exact rfl;exact rfl;refine dM ?_)|((first|refine o_gs rfl rfl (fun hc => ?_) (fun hc => ?_)|refine g_cond rfl (fun hc => ?_) (fun hc => ?_)) <;> (try simp only [dcB] at hc) <;> (try first|contradiction|(exfalso;omega)))
    simp only [hask]
    repeat refine cr ?_
    refine ends_id ?_
    refine endK [?_] (h2 := ?_) (h3 := ?_) (nd := ?_)
    rotate_left 1
    all_goals (repeat' first|exact ce0|refine ce ?_|refine ce2 ?_ ?_|(refine Or.inr (bx_eq rfl rfl ?_);(try dsimp only [C.ren,C.ren.all]);(try exact rfl))|exact SVLe.refl|refine ceb ?_)
    all_goals first | exact (show nodupB _ = true from rfl) | exact Or.inr rfl | (rfl)
end Go.Proofs.YtcmdfohamphndaaGreatDoor
end
section
set_option linter.unusedVariables false
set_option linter.unusedSimpArgs false
set_option maxRecDepth 100000
set_option maxHeartbeats 4000000
namespace Go.Proofs.YtcmdfohamphndaaGreatDoor
open Go Foot
@[irreducible] def marks (k : Int) (n : Nat) : List Int := (List.range n).map fun (i : Nat) => k + (i : Int)
theorem marks_len (k : Int) (n : Nat) : (marks k n).length = n := by unfold marks; simp
theorem marks_get (k : Int) (n i : Nat) (h : i < n) : (marks k n)[i]? = some (k + i) := by unfold marks; simp [h]
theorem mark_end {k : Int} {xs l : List Int} (h1 : l.length = xs.length) (h2 : ∀ j (h : j < xs.length),l[j]? = some (k + j)) : l = marks k xs.length := by
  apply List.ext_getElem?
  intro j
  by_cases hj : j < xs.length
  · rw [marks_get k _ j hj,h2 j hj]
  · rw [List.getElem?_eq_none (by omega),List.getElem?_eq_none (by rw [marks_len]; omega)]
theorem markInt64S_ok (xs : List Int) (k : Int) (h1 : 0 ≤ k) (h2 : k ≤ 4611686018427387904) (hx : (xs.length : Int) ≤ 4611686018427) : Does Tryz.prog 20 [.one (.gv 0),.one (int k)] [roI xs] (.one (int (k + xs.length))) [roI (marks k xs.length)] := by
  refine does_of (k := 1) Tryz.func20 rfl Tryz.ntmps20 rfl rfl fun w F0 S0 ρ0 => ?_
  dsimp only [argT,argH]
  repeat' first|(apply p3;(first|exact pu1|exact puN|exact a_len_str rfl (fT rfl)|exact puC|exact a_add rfl rfl (by omega) (by omega)|exact puI);exact rfl)|refine cd ?_|(apply w3;(first|exact a_st_bx rfl rfl rfl rfl (fN rfl rfl) (Nat.le_of_ble_eq_true rfl) rfl|exact a_st_rowI rfl rfl rfl rfl (fN rfl rfl) bnd|exact a_stE (E := eI) _ rfl rfl rfl rfl (fN rfl rfl) bnd (by exact rfl));exact rfl;refine dS ?_)|((first|refine o_gs rfl rfl (fun hc => ?_) (fun hc => ?_)|refine g_cond rfl (fun hc => ?_) (fun hc => ?_)) <;> (try simp only [dcB] at hc) <;> (try first|contradiction|(exfalso;omega)))
  refine g_loop_id ?_
  refine loopK [0,4] [0] (fun y : Int × List Int => 0 ≤ y.1 ∧ y.1 ≤ xs.length ∧ y.2.length = xs.length ∧ ∀ (j : Nat),(j : Int) < y.1 → y.2[j]? = some (k + j)) (fun y => [(5,.one (int y.1)),(1,.one (int (k + y.1)))]) (fun y => [(0,roI y.2)]) (fun y => (xs.length - y.1).toNat) ((0 : Int),xs) [0] (hI := ?_) (hr := ?_)
  · exact ⟨by simp,by simp,rfl,fun j h' => by simp at h'; omega⟩
  · rintro ⟨i,l⟩ ⟨k1,k2,k3,k4⟩
    dsimp only [List.cons_append,List.nil_append] at *
    skip
    repeat' first|(apply p3;(first|exact pu1|exact puN|exact a_len_str rfl (fT rfl)|exact puC|exact a_add rfl rfl (by omega) (by omega)|exact puI);exact rfl)|refine cd ?_|(apply w3;(first|exact a_st_bx rfl rfl rfl rfl (fN rfl rfl) (Nat.le_of_ble_eq_true rfl) rfl|exact a_st_rowI rfl rfl rfl rfl (fN rfl rfl) bnd|exact a_stE (E := eI) _ rfl rfl rfl rfl (fN rfl rfl) bnd (by exact rfl));exact rfl;refine dS ?_)|((first|refine o_gs rfl rfl (fun hc => ?_) (fun hc => ?_)|refine g_cond rfl (fun hc => ?_) (fun hc => ?_)) <;> (try simp only [dcB] at hc) <;> (try first|contradiction|(exfalso;omega)))
    · refine q_again (i + 1,l.set i.toNat (k + i)) [0] (by exact stk) ?_ ?_
      · refine ⟨by dsimp only; omega,by dsimp only; omega,by simp [k3],fun j h => ?_⟩
        dsimp only at h ⊢
        rw [List.getElem?_set]
        split
        · rename_i e
          subst e
          rw [if_pos (by omega)]
          congr 1
          omega
        · exact k4 j (by omega)
      · dsimp only; omega
    · have hi : i = xs.length := by omega
      subst hi
      have hl := mark_end (k := k) k3 fun j hj => k4 j (by omega)
      repeat refine cr ?_
      refine ends_id ?_
      refine endK [] (h2 := ?_) (h3 := ?_) (nd := ?_)
      all_goals (repeat' first|exact ce0|refine ce ?_|refine ce2 ?_ ?_|(refine Or.inr (bx_eq rfl rfl ?_);(try dsimp only [C.ren,C.ren.all]);(try exact rfl))|exact SVLe.refl|refine ceb ?_)
      all_goals first | exact (show nodupB _ = true from rfl) | exact Or.inr rfl | (exact hl)
@[irreducible] def held (k : Int) (xs : List Int) : Int := if xs = marks k xs.length then k + xs.length else -1
theorem held_marks (k : Int) (n : Nat) : held k (marks k n) = k + n := by unfold held; rw [marks_len,if_pos rfl]
theorem heldInt64S_ok (xs : List Int) (k : Int) (h1 : 0 ≤ k) (h2 : k ≤ 4611686018427387904) (hx : (xs.length : Int) ≤ 4611686018427) : Does Tryz.prog 25 [.one (shI xs),.one (int k)] [] (.one (int (held k xs))) [] := by
  refine does_of (k := 0) Tryz.func25 rfl Tryz.ntmps25 rfl rfl fun w F0 S0 ρ0 => ?_
  dsimp only [argT,argH]
  repeat' first|(apply p3;(first|exact pu1|exact puL|exact puN|exact a_len_str rfl (fT rfl)|exact puC|exact a_ne rfl rfl|exact a_neS rfl rfl rfl|exact a_add rfl rfl (by omega) (by omega)|exact puI);exact rfl)|refine cd ?_|((first|refine o_gs rfl rfl (fun hc => ?_) (fun hc => ?_)|refine g_cond rfl (fun hc => ?_) (fun hc => ?_)) <;> (try simp only [dcB] at hc) <;> (try first|contradiction|(exfalso;omega)))
  refine g_loop_id ?_
  refine loopK [0,4] [] (fun i : Int => 0 ≤ i ∧ i ≤ xs.length ∧ ∀ (j : Nat),(j : Int) < i → xs[j]? = some (k + j)) (fun i => [(5,.one (int i)),(1,.one (int (k + i)))]) (fun _ => []) (fun i => (xs.length - i).toNat) (0 : Int) [] (hI := ?_) (hr := ?_)
  · exact ⟨by simp,by simp,fun j h' => by omega⟩
  · rintro i ⟨k1,k2,k4⟩
    dsimp only [List.cons_append,List.nil_append] at *
    skip
    repeat' first|(apply p3;(first|exact pu1|exact puL|exact puN|exact a_len_str rfl (fT rfl)|exact puC|exact a_ne rfl rfl|exact a_neS rfl rfl rfl|exact a_add rfl rfl (by omega) (by omega)|exact puI);exact rfl)|refine cd ?_|((first|refine o_gs rfl rfl (fun hc => ?_) (fun hc => ?_)|refine g_cond rfl (fun hc => ?_) (fun hc => ?_)) <;> (try simp only [dcB] at hc) <;> (try first|contradiction|(exfalso;omega)))
    · repeat refine cr ?_
      refine ends_id ?_
      refine endK [] (h2 := ?_) (h3 := ?_) (nd := ?_)
      all_goals (repeat' first|exact ce0|refine ce ?_|refine ce2 ?_ ?_|exact SVLe.refl|refine ceb ?_)
      all_goals first | exact (show nodupB _ = true from rfl) | exact Or.inr rfl | ((unfold held; rw [if_neg]; intro e; have e1 := marks_get k xs.length i.toNat (by omega); rw [← e,List.getElem?_eq_getElem (by omega)] at e1; simp only [Option.some.injEq] at e1; omega))
    · refine q_again (i + 1) [] (by exact stk) ?_ ?_
      · refine ⟨by omega,by omega,fun j h => ?_⟩
        by_cases hj : (j : Int) < i
        · exact k4 j hj
        · have : j = i.toNat := by omega
          subst this
          rw [List.getElem?_eq_getElem (by omega),hc]
          congr 1
          omega
      · omega
    · have hi : i = xs.length := by omega
      subst hi
      have hl := mark_end (k := k) (xs := xs) rfl fun j hj => k4 j (by omega)
      repeat refine cr ?_
      refine ends_id ?_
      refine endK [] (h2 := ?_) (h3 := ?_) (nd := ?_)
      all_goals (repeat' first|exact ce0|refine ce ?_|refine ce2 ?_ ?_|exact SVLe.refl|refine ceb ?_)
      all_goals first | exact (show nodupB _ = true from rfl) | exact Or.inr rfl | ((unfold held; rw [if_pos hl]))
end Go.Proofs.YtcmdfohamphndaaGreatDoor
end
