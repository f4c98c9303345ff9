/- Parts of the proof (18 of 24). -/
import Derived.Conc.MuData
import Derived.Test.YtighjcjmacajoaaGreatDoorQ17
section
set_option linter.unusedVariables false
namespace Go.Proofs.YtighjcjmacajoaaGreatDoor
open Go
abbrev muLink : Go.Conc.Locks.MuLink := { lock := 111,unlock := 112,ilock := 172,iunlock := 173,lockSlow := 233,unlockSlow := 236,disable := 229,enable := 231,acquire := 232,relMerge := 234,cas32 := 230,add32 := 235,tMutex := 164,tIMutex := 162,tPMutex := 222,tPIMutex := 273,tPI32 := 275,tUP := 277,tNoCopy := 159,tU32 := 160 }
theorem muLib : Go.Conc.Locks.MuLib Tryz.prog muLink :=
  ⟨Tryz.func111,Tryz.func112,Tryz.func172,Tryz.func173,Tryz.func229,Tryz.func231,Tryz.func232,Tryz.func234,Tryz.func230,Tryz.func235,Tryz.underlying162,Tryz.runUnderlying162,Tryz.sizeOf162,Tryz.isAgg162,Tryz.zeroValue162,Tryz.underlying164,Tryz.runUnderlying164,Tryz.sizeOf164,Tryz.isAgg164,Tryz.zeroValue164,Tryz.underlying222,Tryz.runUnderlying222,Tryz.sizeOf222,Tryz.isAgg222,Tryz.zeroValue222,Tryz.underlying273,Tryz.runUnderlying273,Tryz.sizeOf273,Tryz.isAgg273,Tryz.zeroValue273,Tryz.underlying275,Tryz.runUnderlying275,Tryz.sizeOf275,Tryz.isAgg275,Tryz.zeroValue275,Tryz.underlying277,Tryz.runUnderlying277,Tryz.sizeOf277,Tryz.isAgg277,Tryz.zeroValue277,Tryz.underlying159,Tryz.runUnderlying159,Tryz.sizeOf159,Tryz.isAgg159,Tryz.zeroValue159,Tryz.underlying21,Tryz.runUnderlying21,Tryz.sizeOf21,Tryz.isAgg21,Tryz.zeroValue21,(by kernel_rfl)⟩
theorem Unlock_is : muLink.unlock = 112 := rfl
theorem Unlock_ent : entB Tryz.prog 112 = true := by kernel_rfl
end Go.Proofs.YtighjcjmacajoaaGreatDoor
end
section
set_option linter.unusedVariables false
set_option linter.unusedSimpArgs false
set_option maxRecDepth 100000
set_option maxHeartbeats 4000000
namespace Go.Proofs.YtighjcjmacajoaaGreatDoor
open Go Foot
abbrev ndC (m : Mach) (B : Int) : List C := [int m.sy,int m.st,shR m.ru,int (ndS m B),int (ndA m B)]
abbrev ndD (m : Mach) (B : Int) : List D := [.sc (.int .i64 m.sy),.sc (.int .i64 m.st),.sl false 3 (rows eR m.ru),.sc (.int .i64 (ndS m B)),.sc (.int .i64 (ndA m B))]
def kn (B sy st : Int) (k : Bs) (ds : List D) : Prop := ∃ m,NdOk sy st m ∧ k = macT m ∧ ds = ndD m B
theorem kn_good {B sy st : Int} {m : Mach} (h : NdOk sy st m) : kn B sy st (macT m) (ndD m B) := ⟨m,h,rfl,rfl⟩
theorem kn_same {B sy st : Int} {m : Mach} {ds : List D} (h : NdOk sy st m) (hk : kn B sy st (macT m) ds) : ds = ndD m B := by
  obtain ⟨m',h1,h2,h3⟩ := hk
  rw [h3,macT_inj h1 h h2.symm]
abbrev foC (st sy B z : Int) : List C := [int st,int sy,int B,i32 z,.d (.sc (.int .u32 0)),.gv 1]
abbrev foM (B sy st : Int) (i : Nat) : GB := .opq (knP (kn B sy st)) [i]
theorem preB94 {p : Prop} (h : p := by first | with_reducible assumption | omega | (simp only [List.length_append,List.length_cons,List.length_nil,List.length_set,List.length_replicate,List.length_take,List.length_drop,List.length_tail,List.length_dropLast,List.length_reverse] at *; omega) | exact mem_len (by assumption) (by omega) | (with_reducible refine Int.le_trans (Int.ofNat_le.2 (trimR_len _)) ?_; simp only [List.length_cons,List.length_tail]; omega) | (exact (ruAt_ok (by assumption) (by assumption) (by assumption)).2.1) | (exact (ruAt_ok (by assumption) (by assumption) (by assumption)).2.1) | (have := vMach_bd (by assumption); omega) | (simp only [mC_ch,mC_tu]; omega) | (have := vTag_bd (by assumption); omega) | (have := (‹Gd _ _›).le; omega) | (exact tgHalts_no (by assumption)) | (exact tgHead (by assumption) (by assumption) (by assumption)) | (exact Int.le_trans (tgStep_gd (by assumption) (by assumption) (by assumption) (by assumption)).le (by decide)) | (exact vTag_r (by assumption)) | (with_reducible refine Int.le_trans (Int.ofNat_le.2 (pushL_len _ _)) ?_; simp only [List.length_dropLast]; omega) | exact ls_at (by assumption) (by omega) | exact pt_gd (by assumption) | exact lv_at (by assumption) (by omega) | exact pt_gd (lv_at (by assumption) (by omega)) | exact (ask_ok (by assumption)).1 | exact (ask_ok (by assumption)).2.1 | exact (ask_ok (by assumption)).2.2.1 | exact (ask_ok (by assumption)).2.2.2 | trivial) : p := h
theorem mlock_ok (st sy B : Int) : Does Tryz.prog 111 [.one (.gp 0 3)] [.bx (foC st sy B 0),foM B sy st 1] (.tup []) [.bx (foC st sy B 1),foM B sy st 1] := does_lock muLib rfl rfl
theorem look_ok (st sy B : Int) (m : Mach) (hm : NdOk sy st m) (h0 : 0 ≤ B) (h1 : B ≤ 1000000) : Does Tryz.prog 49 [.one (.gv 0),.agg (maC m)] [.bx (foC st sy B 0),foM B sy st 1] (.agg (ndC m B)) [.bx (foC st sy B 0),foM B sy st 1] := by
  have hv := hm.v
  refine does_ofU muLib Unlock_is Unlock_ent (o := 3) (k := 2) Tryz.func49 rfl Tryz.ntmps49 rfl rfl fun w F0 S0 ρ0 b off hρ => ?_
  dsimp only [argT,argH]
  refine gx_seq2 ?_
  repeat' first|(apply n3;exact a_new (gb := .bx _) rfl;exact rfl;refine dA ?_)|refine cdn ?_|refine g_reg (id := 0) ?_
  refine qSeqX.go ?_
  refine gx_seq2 ?_
  repeat' first|(apply p3;exact pu1;exact rfl)|refine cdn ?_|refine g_reg (id := 1) ?_|(apply c4 0;exact callK0 (θ := [0,1]) (hD := (mlock_ok st sy B));exact rfl;exact rfl;exact rfl;refine dM ?_)
  refine qSeqX.go ?_
  refine gx_seq rfl ?_
  refine gx_region ?_
  refine xp3 (sv := .one (.gv 0)) (a_pure (sv := .one _) rfl) rfl ?_
  refine xp3 (sv := .one (.gv 0)) (a_pure (sv := .one _) rfl) rfl ?_
  refine xp3 (sv := .one (.gp 0 3)) (a_pure (sv := .one _) rfl) rfl ?_
  refine ox_put rfl (Nat.le_of_ble_eq_true rfl) hρ rfl rfl rfl ?_
  dsimp only [Gh.put]
  refine cd ?_
  refine cd ?_
  repeat' first|(apply p3;(exact pu1);exact rfl)|refine cdn ?_|refine g_reg (id := 3) ?_|refine g_reg (id := 4) ?_|(apply c4 0;exact callK1 (θ := []) (hD := (MachineText_ok _ preB94));exact rfl;exact rfl;exact rfl;refine dM ?_)
  refine o_lookK (Good := kn B sy st) (zs := #[.int .i64 0,.int .i64 0,.slice none 0 0,.int .i64 0,.int .i64 0]) rfl rfl rfl Tryz.underlying157 (by kernel_rfl) (by kernel_rfl) (by kernel_rfl) rfl (fun ds hds => ?_) ?_
  · obtain rfl := kn_same hm hds
    dsimp only [St.eff,List.map_cons,List.map_nil,List.nil_append]
    repeat' first|(apply n3;exact a_new (gb := .bx _) rfl;exact rfl;refine dA ?_)|(apply p3;(exact pu1);exact rfl)|refine cd ?_|(apply w3;(exact a_st_bx rfl rfl rfl rfl (fN rfl rfl) (Nat.le_of_ble_eq_true rfl) rfl);exact rfl;refine dS ?_)
    repeat refine cr ?_
    refine endsU rfl rfl ?_
    repeat refine cr ?_
    refine ends_id ?_
    refine endK [] (h2 := ?_) (h3 := ?_) (nd := ?_)
    all_goals (repeat' first|exact ce0|refine ce ?_|refine ce2 ?_ ?_|(refine Or.inr (bx_eq rfl rfl ?_);(try dsimp only [C.ren,C.ren.all]);(try exact rfl))|exact SVLe.refl|refine ceb ?_)
    all_goals first | exact (show nodupB _ = true from rfl) | exact Or.inr rfl | (rfl)
  · dsimp only [St.eff,List.map_cons,List.map_nil,List.nil_append]
    repeat' first|(apply n3;exact a_new (gb := .bx _) rfl;exact rfl;refine dA ?_)|(apply p3;(exact pu1);exact rfl)|refine cd ?_|(apply w3;(exact a_st_bx rfl rfl rfl rfl (fN rfl rfl) (Nat.le_of_ble_eq_true rfl) rfl);exact rfl;refine dS ?_)|(apply g_drN (id := 6) okM [[],[],[1],[1,2],[1,2,3],[0,1,2,3,4],[0,1,2,3,4,5],[0,1,2,3,4,5,6],[0,1,2,3,4,5,6],[0,1,2,3,4,5,6],[0,1,2,3,4,5,6,7],[0,1,2,3,4,5,6,7,8,10],[0,1,2,3,4,5,6,7,8,9,10,11]] [([],[]),([],[]),([],[]),([],[]),([],[]),([],[]),([],[]),([],[]),([],[]),([],[]),([],[]),([],[]),([],[])] 0;(focus (refine dp 0 0 [33,34,35,36] [] puL ?_;refine dp 1 0 [32] [] pu1 ?_;refine dp 2 1 [32] [] (a_pure (sv := .one _) rfl) ?_;refine dp 3 3 [32] [] (a_pure (sv := .one _) rfl) ?_;refine dp 4 7 [32] [] puL ?_;refine dp 5 31 [] [] (callD1 (n := _) 0 (θ := []) (hD := (nodeStatus_ok _ _ preB94 preB94 preB94))) ?_;refine dp 6 63 [] [] pu1 ?_;refine dp 7 127 [39,40] [] pu2 ?_;refine dp 8 254 [38,40,8] [] pu2 ?_;refine dp 9 508 [38,39,8,9] [] pu2 ?_;refine dp 10 1020 [39,40] [] pu1 ?_;refine dp 11 2045 [40] [] pu1 ?_;refine dp 12 4095 [] [] pu1 ?_;(refine d_nil ?_;refine dN ?_)));any_goals kernel_rfl)|(apply g_drN (id := 8) okM [[],[0],[0,1],[0,1,2],[],[],[0,1,2,3,4,5]] [([],[]),([],[]),([],[]),([],[]),([],[]),([],[]),([],[1])] 0;(focus (refine dp 0 0 [49,50] [] pu1 ?_;refine dp 1 1 [49,50] [] (a_pure (sv := .one _) rfl) ?_;refine dp 2 3 [49,50] [] (a_pure (sv := .one _) rfl) ?_;refine dp 3 7 [49,50] [] puL ?_;refine dp 4 0 [45,46,47,48,50] [] pu1 ?_;refine dp 5 0 [45,46,47,48,49] [] puL ?_;refine duE 6 63 [] [] (a_updK (Good := kn B sy st) (k := macT m) (ds := ndD m B) rfl rfl rfl rfl rfl (kn_good (by assumption)) Tryz.underlying157 (by kernel_rfl)) (by exact rfl) (by exact rfl) ?_;(refine d_nil ?_;refine dN ?_)));any_goals kernel_rfl)
    repeat refine cr ?_
    refine endsU rfl rfl ?_
    repeat refine cr ?_
    refine ends_id ?_
    refine endK [] (h2 := ?_) (h3 := ?_) (nd := ?_)
    all_goals (repeat' first|exact ce0|refine ce ?_|refine ce2 ?_ ?_|(refine Or.inr (bx_eq rfl rfl ?_);(try dsimp only [C.ren,C.ren.all]);(try exact rfl))|exact SVLe.refl|refine ceb ?_)
    all_goals first | exact (show nodupB _ = true from rfl) | exact Or.inr rfl | (rfl)
end Go.Proofs.YtighjcjmacajoaaGreatDoor
end
section
set_option linter.unusedVariables false
set_option linter.unusedSimpArgs false
set_option maxRecDepth 100000
set_option maxHeartbeats 4000000
namespace Go.Proofs.YtighjcjmacajoaaGreatDoor
open Go Foot
theorem preB97 {p : Prop} (h : p := by first | with_reducible assumption | omega | (simp only [List.length_append,List.length_cons,List.length_nil,List.length_set,List.length_replicate,List.length_take,List.length_drop,List.length_tail,List.length_dropLast,List.length_reverse] at *; omega) | exact mem_len (by assumption) (by omega) | (with_reducible refine Int.le_trans (Int.ofNat_le.2 (trimR_len _)) ?_; simp only [List.length_cons,List.length_tail]; omega) | (exact (ruAt_ok (by assumption) (by assumption) (by assumption)).2.1) | (exact (ruAt_ok (by assumption) (by assumption) (by assumption)).2.1) | (have := vMach_bd (by assumption); omega) | (simp only [mC_ch,mC_tu]; omega) | (have := vTag_bd (by assumption); omega) | (have := (‹Gd _ _›).le; omega) | (exact tgHalts_no (by assumption)) | (exact tgHead (by assumption) (by assumption) (by assumption)) | (exact Int.le_trans (tgStep_gd (by assumption) (by assumption) (by assumption) (by assumption)).le (by decide)) | (exact vTag_r (by assumption)) | (with_reducible refine Int.le_trans (Int.ofNat_le.2 (pushL_len _ _)) ?_; simp only [List.length_dropLast]; omega) | exact ls_at (by assumption) (by omega) | exact pt_gd (by assumption) | exact lv_at (by assumption) (by omega) | exact pt_gd (lv_at (by assumption) (by omega)) | exact (ask_ok (by assumption)).1 | exact (ask_ok (by assumption)).2.1 | exact (ask_ok (by assumption)).2.2.1 | exact (ask_ok (by assumption)).2.2.2 | trivial) : p := h
theorem symbolsOk_ok (n : Int) : Does Tryz.prog 106 [.one (int n)] [] (.one (boo (inB n 2 6))) [] := by
  refine does_of (k := 0) Tryz.func106 rfl Tryz.ntmps106 rfl rfl fun w F0 S0 ρ0 => ?_
  dsimp only [argT,argH]
  repeat' first|(apply p3;exact pu1;exact rfl)|refine cd ?_|(apply c4 0;exact callK1 (θ := []) (hD := (within_ok _ _ _));exact rfl;exact rfl;exact rfl;refine dM ?_)
  repeat refine cr ?_
  refine ends_id ?_
  refine endK [] (h2 := ?_) (h3 := ?_) (nd := ?_)
  all_goals (repeat' first|exact ce0|refine ce ?_|refine ce2 ?_ ?_|exact SVLe.refl|refine ceb ?_)
  all_goals first | exact (show nodupB _ = true from rfl) | exact Or.inr rfl | (rfl)
theorem sizesCode_ok (s y B : Int) : Does Tryz.prog 44 [.one (int s),.one (int y),.one (int B)] [] (.one (int (askT s y B))) [] := by
  have e : askT s y B = if inB s 1 6 = true ∧ inB y 2 6 = true ∧ inB B 1 20000 = true then 0 else 2 := by unfold askT; rfl
  rw [e]
  refine does_of (k := 0) Tryz.func44 rfl Tryz.ntmps44 rfl rfl fun w F0 S0 ρ0 => ?_
  dsimp only [argT,argH]
  repeat' first|(apply p3;exact pu1;exact rfl)|refine cd ?_|(apply c4 0;exact callK1 (θ := []) (hD := (within_ok _ _ _));exact rfl;exact rfl;exact rfl;refine dM ?_)|refine o_no rfl rfl rfl rfl ?_|(apply py3;exact rfl;exact rfl;exact pu1;exact rfl;exact rfl)|(apply cy4 0;exact rfl;exact rfl;exact callK1 (θ := []) (hD := (symbolsOk_ok _));exact rfl;exact rfl;exact rfl;exact rfl;refine dM ?_)|(apply cy4 0;exact rfl;exact rfl;exact callK1 (θ := []) (hD := (budgetOk_ok _));exact rfl;exact rfl;exact rfl;exact rfl;refine dM ?_)|((first|refine o_gs rfl rfl (fun hc => ?_) (fun hc => ?_)|refine g_cond rfl (fun hc => ?_) (fun hc => ?_)) <;> (try simp only [dcB] at hc) <;> (try first|contradiction|(exfalso;omega)))
  all_goals
    repeat refine cr ?_
    refine ends_id ?_
    refine endK [] (h2 := ?_) (h3 := ?_) (nd := ?_)
    all_goals (repeat' first|exact ce0|refine ce ?_|refine ce2 ?_ ?_|exact SVLe.refl|refine ceb ?_)
    all_goals first | exact (show nodupB _ = true from rfl) | exact Or.inr rfl | ((simp_all <;> omega))
theorem forestOf_ok (st sy B : Int) : Does Tryz.prog 45 [.one (int st),.one (int sy),.one (int B)] [] (.one (.gv 0)) [.bx (foC st sy B 0),foM B sy st 1] := by
  refine does_of (k := 0) Tryz.func45 rfl Tryz.ntmps45 rfl rfl fun w F0 S0 ρ0 => ?_
  dsimp only [argT,argH]
  repeat' first|(apply n3;(first|exact a_mkMapK (kn B sy st)|exact a_new (gb := .bx _) rfl);exact rfl;refine dA ?_)|(apply p3;exact pu1;exact rfl)|refine cd ?_
  repeat refine cr ?_
  refine ends_id ?_
  refine endK [?_,?_] (h2 := ?_) (h3 := ?_) (nd := ?_)
  rotate_left 2
  all_goals (repeat' first|exact ce0|refine ce ?_|refine ce2 ?_ ?_|(refine Or.inr (bx_eq rfl rfl ?_);(try dsimp only [C.ren,C.ren.all]);(try exact rfl))|exact SVLe.refl|refine ceb ?_)
  all_goals first | exact (show nodupB _ = true from rfl) | exact Or.inr rfl | (rfl)
theorem emptyRoot_ok (st sy : Int) (h1 : 1 ≤ st) (h2 : st ≤ 6) (h3 : 2 ≤ sy) (h4 : sy ≤ 6) : Does Tryz.prog 50 [.one (int st),.one (int sy)] [] (.agg [int (root sy st).sy,int (root sy st).st,.gv 0]) [.row 3 (rows eR (root sy st).ru)] := by
  have hp1 : 0 ≤ st * sy := Int.mul_nonneg (by omega) (by omega)
  have hp2 : st * sy ≤ 6 * 6 := Int.mul_le_mul (by omega) (by omega) (by omega) (by omega)
  unfold root
  exact emptyMachine_ok st sy (by omega) (by omega) (by omega) (by omega) hp1 (by omega)
theorem childM_ok (m : Mach) (a : Int) (r : Rule') (hx : (m.ru.length : Int) ≤ 16777216) (h0 : 0 ≤ a) (h1 : a < m.ru.length) : Does Tryz.prog 54 [.agg (maC m),.one (int a),.agg (ruC r)] [] (.agg [int (chM m a r).sy,int (chM m a r).st,.gv 0]) [.row 3 (rows eR (chM m a r).ru)] := by
  unfold chM
  exact child_ok m a r hx h0 h1
theorem childrenY_ok (m : Mach) (B : Int) (hm : vMach m = true) (hs : ndS m B = 0) : Does Tryz.prog 53 [.agg (ndC m B)] [] (.one (.gv 0)) [.row 3 (rows eR (chR m))] := by
  have h := children_ok m (ndS m B) (ndA m B) hm
  rw [if_pos hs] at h
  exact h
theorem childrenN_ok (m : Mach) (B : Int) (hm : vMach m = true) (hs : ¬ ndS m B = 0) : Does Tryz.prog 53 [.agg (ndC m B)] [] (.one (.gv 0)) [.row 3 (rows eR [])] := by
  have h := children_ok m (ndS m B) (ndA m B) hm
  rw [if_neg hs] at h
  exact h
abbrev eNd (B : Int) : Enc Mach := ⟨5,fun m => ndD m B,fun _ => rfl,by decide⟩
theorem stp_yes {B : Int} {m : Mach} {k : Int} (hs : ndS m B = 0) (h0 : 0 ≤ k) (h1 : k.toNat < (chR m).length) : stp B m k = some (chM m (ndA m B) ((chR m)[k.toNat])) := by
  unfold stp
  rw [if_pos ⟨hs,h0,by omega⟩,List.getD_eq_getElem?_getD,List.getElem?_eq_getElem h1]
  rfl
theorem stp_no {B : Int} {m : Mach} {k : Int} (h : ¬ ndS m B = 0 ∨ k < 0 ∨ (chR m).length ≤ k) : stp B m k = none := by
  unfold stp
  rw [if_neg]
  omega
theorem pthL_next {B : Int} {m : Mach} {p : List Int} {i : Int} (h0 : 0 ≤ i) (h : i.toNat < p.length) : pthL B m (p.drop i.toNat) = (stp B m p[i.toNat]).bind fun m' => (pthL B m' (p.drop (i + 1).toNat)).map (m :: ·) := by
  rw [drop_get h0 h,pthL]
theorem at_f_ok (st sy B : Int) (p : List Int) (hp : (p.length : Int) ≤ 1048576) (h1 : 1 ≤ st) (h2 : st ≤ 6) (h3 : 2 ≤ sy) (h4 : sy ≤ 6) (h5 : 0 ≤ B) (h6 : B ≤ 1000000) : Does Tryz.prog 46 [.one (.gv 0),.one (shI p)] [.bx (foC st sy B 0),foM B sy st 1] (.tup [(false,[.gv 2]),(false,[boo (pthL B (root sy st) p).isSome])]) [.bx (foC st sy B 0),foM B sy st 1,.row 5 (rows (eNd B) ((pthL B (root sy st) p).getD []))] := by
  have hr := root_ok h3 h4 h1 (by omega)
  refine does_of (k := 2) Tryz.func46 rfl Tryz.ntmps46 rfl rfl fun w F0 S0 ρ0 => ?_
  dsimp only [argT,argH]
  repeat' first|(apply n3;exact a_nilO (eNd B) rfl;exact rfl)|(apply n3;(exact a_litE (eNd B) [_] rfl rfl rfl rfl rfl rfl rfl rfl);exact rfl;refine dA ?_)|(apply p3;(first|exact pu1|exact puN);exact rfl)|refine cd ?_|(apply g_drN (id := 1) okM [[],[],[1],[1,2],[1,2,3],[],[5],[5,6],[5,6,7],[1,2,3,4,5,6,7,8],[0,1,2,3,4,5,6,7,8,9],[],[0,1,2,3,4,5,6,7,8,9,10,11]] [([],[]),([],[]),([],[]),([],[]),([],[]),([],[]),([],[]),([],[]),([],[]),([],[]),([],[0,1]),([0],[]),([],[3])] 1;(focus (refine dp 0 0 [12,13,14,15,16,17,18,19,20,6] [(true,0)] pu1 ?_;refine dp 1 0 [11,16,17,18,19,6] [(true,0)] pu1 ?_;refine dp 2 1 [11,16,17,18,19,6] [(true,0)] (a_pure (sv := .one _) rfl) ?_;refine dp 3 3 [11,16,17,18,19,6] [(true,0)] (a_pure (sv := .one _) rfl) ?_;refine dp 4 7 [11,16,17,18,19,6] [(true,0)] (by exact puL) ?_;refine dp 5 0 [11,12,13,14,15,6] [(true,0)] pu1 ?_;refine dp 6 1 [11,12,13,14,15,6] [(true,0)] (a_pure (sv := .one _) rfl) ?_;refine dp 7 3 [11,12,13,14,15,6] [(true,0)] (a_pure (sv := .one _) rfl) ?_;refine dp 8 7 [11,12,13,14,15,6] [(true,0)] (by exact puL) ?_;refine dp 9 255 [11,6] [(true,0)] (callFD 0 (hD := (emptyRoot_ok _ _ preB97 preB97 preB97 preB97))) ?_;refine duN 10 1023 [6] [(true,0)] (callD0 (n := _) 0 (θ := [0,1]) (hD := (look_ok st sy B (root sy st) hr preB97 preB97))) (by exact rfl) (by exact rfl) ?_;refine duE 11 0 [11,12,13,14,15,16,17,18,19,20,21] [(false,0),(false,1)] (atN 0 (fun _ => a_new (gb := .bx _) rfl)) (by exact rfl) (by exact rfl) ?_;refine duE 12 4095 [] [] (by exact a_st_bx rfl rfl rfl rfl (fN rfl rfl) (Nat.le_of_ble_eq_true rfl) rfl) (by exact rfl) (by exact rfl) ?_;(refine d_nil ?_;refine dN ?_)));any_goals kernel_rfl)
  refine g_loop_id ?_
  refine loopK [0,4,5,6,7,24,25] [3,4] (fun y : Int × Mach × List Mach => 0 ≤ y.1 ∧ y.1 ≤ p.length ∧ NdOk sy st y.2.1 ∧ (y.2.2.length : Int) = y.1 ∧ (pthL B y.2.1 (p.drop y.1.toNat)).map (y.2.2 ++ ·) = pthL B (root sy st) p) (fun y => [(26,.one (int y.1))]) (fun y => [(3,.bx (ndC y.2.1 B)),(4,.row 5 (rows (eNd B) (y.2.2 ++ [y.2.1])))]) (fun y => (p.length - y.1).toNat) ((0 : Int),root sy st,([] : List Mach)) [0,1,2,3,4] (hI := ?_) (hr := ?_)
  · exact ⟨by simp,by simp,hr,by simp,by simp⟩
  · rintro ⟨i,m,pre⟩ ⟨k0,k1,k2,k3,k4⟩
    dsimp only [List.cons_append,List.nil_append] at *
    skip
    repeat' first|(apply p3;(first|exact pu1|exact puC|exact puI);exact rfl)|refine cdn ?_|refine g_reg (id := 4) ?_|refine g_reg (id := 5) ?_|refine g_reg (id := 12) ?_|((refine g_cond rfl (fun hc => ?_) (fun hc => ?_)) <;> (try simp only [dcB] at hc) <;> (try first|contradiction|(exfalso;omega)))
    · have hm := k2.v
      have hlr := chR_len hm
      have ha := ndA_bd (B := B) hm
      have hlm := vMach_len hm
      have hn := pthL_next (B := B) (m := m) k0 (show i.toNat < p.length by omega)
      try dsimp only at k3 k4
      rw [hn] at k4
      generalize hkk : p[i.toNat]'(by omega) = k at *
      have hno : ¬ ndS m B = 0 ∨ k < 0 ∨ ((chR m).length : Int) ≤ k → pthL B (root sy st) p = none := fun h => by rw [← k4,stp_no h]; rfl
      by_cases hs : ndS m B = 0
      · repeat' first|(apply p3;(exact pu1);exact rfl)|refine cdn ?_|refine g_reg (id := 6) ?_|(apply c4 1;exact callK1 (θ := []) (hD := (childrenY_ok _ _ preB97 preB97));exact rfl;exact rfl;exact rfl;refine dM ?_)
        by_cases hk : 0 ≤ k ∧ k < ((chR m).length : Int)
        · have hst := stp_yes (B := B) hs hk.1 (show k.toNat < (chR m).length by omega)
          have h2 := (stp_ok k2 hst).1
          rw [hst] at k4
          repeat' first|(apply n3;(exact a_litE (eNd B) [_] rfl rfl rfl rfl rfl rfl rfl rfl);exact rfl;refine dA ?_)|(apply p3;(first|exact pu1|exact a_sub rfl rfl (by omega) (by omega)|exact a_add rfl rfl (by omega) (by omega));exact rfl)|refine cd ?_|(apply s3;exact a_appE (fP rfl) rfl rfl rfl rfl nowR (by (simp;omega)) (by decide) (by decide) (by exact rfl);exact rfl;exact rfl)|(apply c4 0;exact callK1 (θ := []) (hD := (sizeR_ok _ preB97));exact rfl;exact rfl;exact rfl;refine dM ?_)|(apply c4 0;exact callK1 (θ := []) (hD := (within_ok _ _ _));exact rfl;exact rfl;exact rfl;refine dM ?_)|(apply g_drN (id := 9) okM [[],[],[1],[],[3],[],[],[5,6],[5,6,7],[1,2,3,4,5,6,7,8],[0,1,2,3,4,5,6,7,8,9],[0,1,2,3,4,5,6,7,8,9,10]] [([],[]),([],[]),([],[]),([],[]),([],[]),([],[]),([],[]),([],[]),([],[]),([],[]),([],[0,1]),([],[3])] 0;(focus (refine dp 0 0 [39,40,41,42,43,44,45,46,47] [] pu1 ?_;refine dp 1 0 [38,41,42,43,44,45,46] [] (a_pure (sv := .one _) rfl) ?_;refine dp 2 1 [38,41,42,43,44,45,46] [] (by exact puL) ?_;refine dp 3 0 [38,39,40,43,44,45,46] [] (a_pure (sv := .one _) rfl) ?_;refine dp 4 1 [38,39,40,43,44,45,46] [] (by exact puL) ?_;refine dp 5 0 [38,39,40,41,42,44] [] pu1 ?_;refine dp 6 0 [38,39,40,41,42,43] [] pu1 ?_;refine dp 7 3 [38,39,40,41,42] [] puI ?_;refine dp 8 7 [38,39,40,41,42] [] (by exact a_ldsE (E := eR) 0 rfl rfl rfl (fA rfl) rfl rfl (Nat.le_of_ble_eq_true rfl) (Nat.le_of_ble_eq_true rfl) bnd rfl (by repeat (first|exact trivial|exact rfl|refine And.intro ?_ ?_)) rfl) ?_;refine dp 9 255 [38] [] (callFD 0 (hD := (childM_ok _ _ _ preB97 preB97 preB97))) ?_;refine duN 10 1023 [] [] (by exact callD0 (n := _) 0 (θ := [0,1]) (hD := (look_ok st sy B _ h2 preB97 preB97))) (by exact rfl) (by exact rfl) ?_;refine duE 11 2047 [] [] (by exact a_st_bx rfl rfl rfl rfl (fN rfl rfl) (Nat.le_of_ble_eq_true rfl) rfl) (by exact rfl) (by exact rfl) ?_;(refine d_nil ?_;refine dN ?_)));any_goals kernel_rfl)|((refine g_cond rfl (fun hc => ?_) (fun hc => ?_)) <;> (try simp only [dcB] at hc) <;> (try first|contradiction|(exfalso;omega)))
          refine q_again (i + 1,chM m (ndA m B) ((chR m)[k.toNat]'(by omega)),pre ++ [m]) [0,1,2,3,7] (by exact stk) ?_ ?_
          · refine ⟨by dsimp only; omega,by dsimp only; omega,h2,by simp; omega,?_⟩
            rw [← k4]
            simp [Option.map_map,Function.comp_def]
          · dsimp only; omega
        · rw [hno (by omega)]
          dsimp only [Option.isSome_none,Option.getD_none]
          repeat' first|(apply n3;exact a_nilO (eNd B) rfl;exact rfl)|(apply p3;(first|exact pu1|exact a_sub rfl rfl (by omega) (by omega));exact rfl)|refine cd ?_|(apply c4 0;exact callK1 (θ := []) (hD := (sizeR_ok _ preB97));exact rfl;exact rfl;exact rfl;refine dM ?_)|(apply c4 0;exact callK1 (θ := []) (hD := (within_ok _ _ _));exact rfl;exact rfl;exact rfl;refine dM ?_)|((refine g_cond rfl (fun hc => ?_) (fun hc => ?_)) <;> (try simp only [dcB] at hc) <;> (try first|contradiction|(exfalso;omega)))
          repeat refine cr ?_
          refine ends_id ?_
          refine endK [?_] (h2 := ?_) (h3 := ?_) (nd := ?_)
          rotate_left 1
          all_goals (repeat' first|exact ce0|refine ce ?_|refine ce2 ?_ ?_|(refine Or.inr (bx_eq rfl rfl ?_);(try dsimp only [C.ren,C.ren.all]);(try exact rfl))|exact SVLe.refl|refine ceb ?_)
          all_goals first | exact (show nodupB _ = true from rfl) | exact Or.inr rfl | (rfl)
      · rw [hno (.inl hs)]
        dsimp only [Option.isSome_none,Option.getD_none]
        repeat' first|(apply p3;(exact pu1);exact rfl)|refine cd ?_|(apply c4 1;exact callK1 (θ := []) (hD := (childrenN_ok _ _ preB97 preB97));exact rfl;exact rfl;exact rfl;refine dM ?_)|(apply c4 0;exact callK1 (θ := []) (hD := (sizeR_ok _ preB97));exact rfl;exact rfl;exact rfl;refine dM ?_)
        simp only [List.length_nil]
        repeat' first|(apply n3;exact a_nilO (eNd B) rfl;exact rfl)|(apply p3;(first|exact pu1|exact a_sub rfl rfl (by omega) (by omega));exact rfl)|refine cd ?_|(apply c4 0;exact callK1 (θ := []) (hD := (within_ok _ _ _));exact rfl;exact rfl;exact rfl;refine dM ?_)|((refine g_cond rfl (fun hc => ?_) (fun hc => ?_)) <;> (try simp only [dcB] at hc) <;> (try first|contradiction|(exfalso;omega)))
        repeat refine cr ?_
        refine ends_id ?_
        refine endK [?_] (h2 := ?_) (h3 := ?_) (nd := ?_)
        rotate_left 1
        all_goals (repeat' first|exact ce0|refine ce ?_|refine ce2 ?_ ?_|(refine Or.inr (bx_eq rfl rfl ?_);(try dsimp only [C.ren,C.ren.all]);(try exact rfl))|exact SVLe.refl|refine ceb ?_)
        all_goals first | exact (show nodupB _ = true from rfl) | exact Or.inr rfl | (rfl)
    · have e : pthL B (root sy st) p = some (pre ++ [m]) := by
        rw [← k4,List.drop_of_length_le (by omega)]
        rfl
      rw [e]
      skip
      repeat refine cr ?_
      refine ends_id ?_
      refine endK [?_] (h2 := ?_) (h3 := ?_) (nd := ?_)
      rotate_left 1
      all_goals (repeat' first|exact ce0|refine ce ?_|refine ce2 ?_ ?_|(refine Or.inr (bx_eq rfl rfl ?_);(try dsimp only [C.ren,C.ren.all]);(try exact rfl))|exact SVLe.refl|refine ceb ?_)
      all_goals first | exact (show nodupB _ = true from rfl) | exact Or.inr rfl | (rfl)
end Go.Proofs.YtighjcjmacajoaaGreatDoor
end
section
set_option linter.unusedVariables false
set_option linter.unusedSimpArgs false
set_option maxRecDepth 100000
set_option maxHeartbeats 4000000
namespace Go.Proofs.YtighjcjmacajoaaGreatDoor
open Go Foot
theorem pthL_some {B : Int} {rt m0 : Mach} {p : List Int} (hv : pth B rt p = some m0) : ∃ L,pthL B rt p = some L ∧ L.length = p.length + 1 ∧ ∀ (i : Nat) (h : i < L.length),pth B rt (p.take i) = some L[i] := by
  have h1 := pthL_pth (B := B) p rt
  rw [hv] at h1
  obtain ⟨L,hL⟩ := Option.isSome_iff_exists.1 (show (pthL B rt p).isSome = true from h1)
  have h2 := pthL_get hL
  exact ⟨L,hL,h2.1,fun i h => by rw [h2.2 i (by omega),List.getElem?_eq_getElem h]⟩
theorem stp_is {B : Int} {m : Mach} {k : Int} (h0 : 0 ≤ k) : (stp B m k).isSome = true ↔ k < ((if ndS m B = 0 then chR m else []).length : Int) := by
  unfold stp
  by_cases hs : ndS m B = 0
  · rw [if_pos hs]
    by_cases hk : k < (chR m).length
    · rw [if_pos ⟨hs,h0,hk⟩]; simp [hk]
    · rw [if_neg (fun h => hk h.2.2)]; simp [hk]
  · rw [if_neg hs,if_neg (fun h => hs h.1)]
    simp
    exact h0
theorem preB99 {p : Prop} (h : p := by first | with_reducible assumption | omega | (simp only [List.length_append,List.length_cons,List.length_nil,List.length_set,List.length_replicate,List.length_take,List.length_drop,List.length_tail,List.length_dropLast,List.length_reverse] at *; omega) | exact mem_len (by assumption) (by omega) | (with_reducible refine Int.le_trans (Int.ofNat_le.2 (trimR_len _)) ?_; simp only [List.length_cons,List.length_tail]; omega) | (exact (ruAt_ok (by assumption) (by assumption) (by assumption)).2.1) | (exact (ruAt_ok (by assumption) (by assumption) (by assumption)).2.1) | (have := vMach_bd (by assumption); omega) | (simp only [mC_ch,mC_tu]; omega) | (have := vTag_bd (by assumption); omega) | (have := (‹Gd _ _›).le; omega) | (exact tgHalts_no (by assumption)) | (exact tgHead (by assumption) (by assumption) (by assumption)) | (exact Int.le_trans (tgStep_gd (by assumption) (by assumption) (by assumption) (by assumption)).le (by decide)) | (exact vTag_r (by assumption)) | (with_reducible refine Int.le_trans (Int.ofNat_le.2 (pushL_len _ _)) ?_; simp only [List.length_dropLast]; omega) | exact ls_at (by assumption) (by omega) | exact pt_gd (by assumption) | exact lv_at (by assumption) (by omega) | exact pt_gd (lv_at (by assumption) (by omega)) | exact (ask_ok (by assumption)).1 | exact (ask_ok (by assumption)).2.1 | exact (ask_ok (by assumption)).2.2.1 | exact (ask_ok (by assumption)).2.2.2 | trivial) : p := h
theorem childrenA_ok (m : Mach) (B : Int) (hm : vMach m = true) : Does Tryz.prog 53 [.agg (ndC m B)] [] (.one (.gv 0)) [.row 3 (rows eR (if ndS m B = 0 then chR m else []))] := children_ok m (ndS m B) (ndA m B) hm
theorem next_f_ok (st sy B : Int) (p : List Int) (m0 : Mach) (hp : (p.length : Int) ≤ 1048576) (h1 : 1 ≤ st) (h2 : st ≤ 6) (h3 : 2 ≤ sy) (h4 : sy ≤ 6) (h5 : 0 ≤ B) (h6 : B ≤ 1000000) (hv : pth B (root sy st) p = some m0) : Does Tryz.prog 64 [.one (.gv 0),.one (shI p)] [.bx (foC st sy B 0),foM B sy st 1] (.tup [(false,[.gv 2]),(false,[boo (nxt B (root sy st) m0 p 0).isSome])]) [.bx (foC st sy B 0),foM B sy st 1,roI ((nxt B (root sy st) m0 p 0).getD [])] := by
  have hr := root_ok h3 h4 h1 (by omega)
  obtain ⟨L,hL,hLl,hLg⟩ := pthL_some hv
  have hm := (pth_ok hr hv).1.v
  have hg : L[((p.length : Nat) : Int).toNat]'(by omega) = m0 := by
    have := hLg ((p.length : Nat) : Int).toNat (by omega)
    rw [List.take_of_length_le (by simp),hv] at this
    exact (Option.some.inj this).symm
  have hvL : vMach (L[((p.length : Nat) : Int).toNat]'(by omega)) = true := by rw [hg]; exact hm
  have hlr := chR_len hm
  have hN : nxt B (root sy st) m0 p 0 = if ndS m0 B = 0 then some (p ++ [0]) else asd B (root sy st) p 0 p.length := by unfold nxt; rfl
  rw [hN]
  refine does_of (k := 2) Tryz.func64 rfl Tryz.ntmps64 rfl rfl fun w F0 S0 ρ0 => ?_
  dsimp only [argT,argH]
  repeat' first|(apply n3;exact a_nilO eI rfl;exact rfl)|(apply p3;exact pu1;exact rfl)|refine cdn ?_|refine g_reg (id := 0) ?_|refine g_reg (id := 1) ?_|(apply c4 1;exact callK0 (θ := [0,1]) (hD := (at_f_ok st sy B p preB99 preB99 preB99 preB99 preB99 preB99 preB99));exact rfl;exact rfl;exact rfl;refine dM ?_)
  simp only [hL,Option.getD_some,Option.isSome_some]
  repeat' first|(apply p3;(first|exact pu1|exact puN|exact a_ldsE (E := (eNd B)) 0 rfl rfl rfl (fA rfl) rfl rfl (Nat.le_of_ble_eq_true rfl) (Nat.le_of_ble_eq_true rfl) bnd rfl (by repeat (first|exact trivial|exact rfl|refine And.intro ?_ ?_)) rfl|exact puC|exact puI);exact rfl)|refine cd ?_|(apply c4 1;exact callK1 (θ := []) (hD := (childrenA_ok _ _ preB99));exact rfl;exact rfl;exact rfl;refine dM ?_)
  simp only [hg]
  by_cases hs : ndS m0 B = 0
  · simp only [if_pos hs]
    have hj : JnOk [p,[0]] := jn_two (by simp; omega)
    repeat' first|(apply p3;exact a_litF (dst := some 24) eI [_] rfl rfl rfl rfl rfl rfl rfl rfl nowR;exact rfl)|(apply n3;exact a_litE eW [_,_] rfl rfl rfl rfl rfl rfl rfl rfl;exact rfl;refine dA ?_)|(apply p3;(exact pu1);exact rfl)|refine cd ?_|(apply c4 1;exact callK1 (θ := []) (hD := (joined_ok _ preB99));exact rfl;exact rfl;exact rfl;refine dM ?_)|((refine g_cond rfl (fun hc => ?_) (fun hc => ?_)) <;> (try simp only [dcB] at hc) <;> (try first|contradiction|(exfalso;omega)))
    repeat refine cr ?_
    refine ends_id ?_
    refine endK [?_] (h2 := ?_) (h3 := ?_) (nd := ?_)
    rotate_left 1
    all_goals (repeat' first|exact ce0|refine ce ?_|refine ce2 ?_ ?_|(refine Or.inr (bx_eq rfl rfl ?_);(try dsimp only [C.ren,C.ren.all]);(try exact rfl))|exact SVLe.refl|refine ceb ?_)
    all_goals first | exact (show nodupB _ = true from rfl) | exact Or.inr rfl | ((simp))
  · simp only [if_neg hs,List.length_nil]
    repeat' first|(apply p3;(first|exact pu1|exact puN|exact a_sub rfl rfl (by omega) (by omega));exact rfl)|refine cd ?_
    refine g_loop_id ?_
    refine loopK [1,4,5,6] [] (fun k : Int => -1 ≤ k ∧ k < p.length ∧ asd B (root sy st) p 0 (k + 1).toNat = asd B (root sy st) p 0 p.length) (fun k => [(8,.one (int k))]) (fun _ => []) (fun k => (k + 1).toNat) ((p.length : Int) - 1) [0,1,2,3,4] (hI := ?_) (hr := ?_)
    · exact ⟨by omega,by omega,by simp⟩
    · rintro k ⟨k0,k1,k2⟩
      dsimp only [List.cons_append,List.nil_append] at *
      skip
      repeat' first|(apply n3;exact a_nilO eI rfl;exact rfl)|(apply p3;(first|exact pu1|exact puC);exact rfl)|refine cdn ?_|refine g_reg (id := 5) ?_|refine g_reg (id := 9) ?_|((refine g_cond rfl (fun hc => ?_) (fun hc => ?_)) <;> (try simp only [dcB] at hc) <;> (try first|contradiction|(exfalso;omega)))
      · obtain ⟨m,q1,q2,q3,q4,q5⟩ := pth_at hr hv k.toNat (by omega)
        have hmk := q2.v
        have hlm := chR_len hmk
        have hgk : L[k.toNat]'(by omega) = m := by
          have := hLg k.toNat (by omega)
          rw [q1] at this
          exact (Option.some.inj this).symm
        have hvk : vMach (L[k.toNat]'(by omega)) = true := by rw [hgk]; exact hmk
        have hn := asd_step (B := B) (rt := root sy st) (p := p) (least := 0) (n := k + 1) (m := m) (by omega) (by omega) (by omega) (by rw [show k + 1 - 1 = k by omega]; exact q1)
        simp only [show k + 1 - 1 = k by omega] at hn
        have his := stp_is (B := B) (m := m) (k := p[k.toNat]'(by omega) + 1) (by omega)
        rw [if_pos q3] at his
        rw [← k2,hn]
        have hll : ((if ndS (L[k.toNat]'(by omega)) B = 0 then chR (L[k.toNat]'(by omega)) else []).length : Int) ≤ 16777216 := by rw [hgk,if_pos q3]; omega
        repeat' first|refine cd ?_|(apply g_drN (id := 7) okM [[],[],[0,1],[0,1,2],[0,1,2,3],[],[],[5,6],[5,6,7],[5,6,7,8],[5,6,7,8,9],[0,1,2,3,4,5,6,7,8,9,10]] [([],[]),([],[]),([],[]),([],[]),([],[]),([],[]),([],[]),([],[]),([],[]),([0],[]),([],[]),([],[])] 1;(focus (refine dp 0 0 [35,39,40,41,42,43,44] [(true,0)] pu1 ?_;refine dp 1 0 [34,39,40,41,42,43,44] [(true,0)] pu1 ?_;refine dp 2 3 [39,40,41,42,43,44] [(true,0)] puI ?_;refine dp 3 7 [39,40,41,42,43,44] [(true,0)] (by exact puL) ?_;refine dp 4 15 [39,40,41,42,43,44] [(true,0)] (a_add rfl rfl (by omega) (by omega)) ?_;refine dp 5 0 [34,35,36,37,38,40] [] pu1 ?_;refine dp 6 0 [34,35,36,37,38,39] [] pu1 ?_;refine dp 7 3 [34,35,36,37,38] [] puI ?_;refine dp 8 7 [34,35,36,37,38] [] (by exact a_ldsE (E := (eNd B)) 0 rfl rfl rfl (fA rfl) rfl rfl (Nat.le_of_ble_eq_true rfl) (Nat.le_of_ble_eq_true rfl) bnd rfl (by repeat (first|exact trivial|exact rfl|refine And.intro ?_ ?_)) rfl) ?_;refine duN 9 15 [34,35,36,37,38] [] (callD1 (n := _) 0 (θ := []) (hD := (childrenA_ok _ _ preB99))) (by exact rfl) (by exact rfl) ?_;refine dp 10 31 [34,35,36,37,38] [] (callD1 (n := _) 1 (θ := []) (hD := (sizeR_ok _ preB99))) ?_;refine dp 11 2047 [] [] puC ?_;(refine d_nil ?_;refine dN ?_)));any_goals kernel_rfl)
        simp only [hgk,if_pos q3]
        by_cases hc2 : p[k.toNat]'(by omega) + 1 < ((chR m).length : Int)
        · have e := his.2 hc2
          simp only [e,if_true,Option.isSome_some,Option.getD_some]
          repeat' first|refine cd ?_|(apply g_drN (id := 8) okM [[],[],[0,1],[0,1,2],[],[],[4,5],[4,5,6],[4,5,6,7],[4,5,6,7,8],[0,1,2,3,4,5,6,7,8,9],[0,1,2,3,4,5,6,7,8,9,10],[0,1,2,3,4,5,6,7,8,9,10,11]] [([],[]),([],[]),([],[]),([0],[]),([],[]),([],[]),([],[]),([],[]),([],[]),([1],[]),([2],[6]),([],[]),([],[])] 3;(focus (refine dp 0 0 [47,50,51,52,53,54,55] [(true,1)] pu1 ?_;refine dp 1 0 [46,50,51,52,53,54,55] [(true,1)] pu1 ?_;refine dp 2 3 [50,51,52,53,54,55] [(true,1)] (by exact a_slH rfl rfl rfl (fS rfl) (by omega) (by omega) (by exact rfl)) ?_;refine duN 3 7 [50,51,52,53,54,55] [(true,1)] (callD1 (n := _) 0 (θ := []) (hD := (clone_ok _ preB99))) (by exact rfl) (by exact rfl) ?_;refine dp 4 0 [46,47,48,49,51] [(true,0)] pu1 ?_;refine dp 5 0 [46,47,48,49,50] [(true,0)] pu1 ?_;refine dp 6 3 [46,47,48,49] [(true,0)] puI ?_;refine dp 7 7 [46,47,48,49] [(true,0)] (by exact puL) ?_;refine dp 8 15 [46,47,48,49] [(true,0)] (a_add rfl rfl (by omega) (by omega)) ?_;refine duE 9 31 [46,47,48,49] [(true,0)] (atN 1 (fun _ => a_litE eI [_] rfl rfl rfl rfl rfl rfl rfl rfl)) (by exact rfl) (by exact rfl) ?_;refine duE 10 1023 [] [] (atS 2 (fun _ hj => a_appE (fP rfl) rfl rfl rfl rfl nowR (by (simp;omega)) (by decide) hj (by exact rfl)) (by decide)) (by exact rfl) (by exact rfl) ?_;refine dp 11 2047 [] [] pu1 ?_;refine dp 12 4095 [] [] (a_pure (sv := .one _) rfl) ?_;(refine d_nil ?_;refine dN ?_)));any_goals kernel_rfl)|((refine g_cond rfl (fun hc => ?_) (fun hc => ?_)) <;> (try simp only [dcB] at hc) <;> (try first|contradiction|(exfalso;omega)))
          repeat refine cr ?_
          refine ends_id ?_
          refine endK [?_] (h2 := ?_) (h3 := ?_) (nd := ?_)
          rotate_left 1
          all_goals (repeat' first|exact ce0|refine ce ?_|refine ce2 ?_ ?_|(refine Or.inr (bx_eq rfl rfl ?_);(try dsimp only [C.ren,C.ren.all]);(try exact rfl))|exact SVLe.refl|refine ceb ?_)
          all_goals first | exact (show nodupB _ = true from rfl) | exact Or.inr rfl | (rfl)
        · have e : ¬ (stp B m (p[k.toNat]'(by omega) + 1)).isSome = true := fun h => hc2 (his.1 h)
          rw [if_neg e] at hn ⊢
          repeat' first|(apply p3;(first|exact pu1|exact a_sub rfl rfl (by omega) (by omega));exact rfl)|refine cd ?_|((refine g_cond rfl (fun hc => ?_) (fun hc => ?_)) <;> (try simp only [dcB] at hc) <;> (try first|contradiction|(exfalso;omega)))
          refine q_again (k - 1) [0,1,2,3,4] (by exact stk) ?_ ?_
          · refine ⟨by omega,by omega,?_⟩
            rw [show k - 1 + 1 = k by omega]
            try first | rfl | (rw [← k2,hn])
          · omega
      · have e : asd B (root sy st) p 0 p.length = none := by rw [← k2]; exact asd_end (by omega)
        rw [e]
        skip
        repeat refine cr ?_
        refine ends_id ?_
        refine endK [?_] (h2 := ?_) (h3 := ?_) (nd := ?_)
        rotate_left 1
        all_goals (repeat' first|exact ce0|refine ce ?_|refine ce2 ?_ ?_|(refine Or.inr (bx_eq rfl rfl ?_);(try dsimp only [C.ren,C.ren.all]);(try exact rfl))|exact SVLe.refl|refine ceb ?_)
        all_goals first | exact (show nodupB _ = true from rfl) | exact Or.inr rfl | (rfl)
@[irreducible] def nnL (st sy B : Int) (p : List Int) : Option (List Int) := if askT st sy B = 0 then (pth B (root sy st) p).bind fun m => nxt B (root sy st) m p 0 else none
@[irreducible] def nnC (st sy B : Int) (p : List Int) : Int := if askT st sy B = 0 then if (nnL st sy B p).isSome = true then 0 else 3 else askT st sy B
theorem nn_bad {st sy B : Int} {p : List Int} (h : ¬ askT st sy B = 0) : nnL st sy B p = none ∧ nnC st sy B p = askT st sy B := by
  unfold nnC nnL; rw [if_neg h,if_neg h]; exact ⟨rfl,rfl⟩
theorem nn_none {st sy B : Int} {p : List Int} (h : askT st sy B = 0) (hv : pth B (root sy st) p = none) : nnL st sy B p = none ∧ nnC st sy B p = 3 := by
  have e : nnL st sy B p = none := by unfold nnL; rw [if_pos h,hv]; rfl
  refine ⟨e,?_⟩
  unfold nnC; rw [if_pos h,e]; rfl
theorem nn_some {st sy B : Int} {p : List Int} {m : Mach} (h : askT st sy B = 0) (hv : pth B (root sy st) p = some m) : nnL st sy B p = nxt B (root sy st) m p 0 ∧ nnC st sy B p = if (nxt B (root sy st) m p 0).isSome = true then 0 else 3 := by
  have e : nnL st sy B p = nxt B (root sy st) m p 0 := by unfold nnL; rw [if_pos h,hv]; rfl
  refine ⟨e,?_⟩
  unfold nnC; rw [if_pos h,e]
theorem iNextNode_ok (st sy B : Int) (p : List Int) (hp : (p.length : Int) ≤ 1048576) : Does Tryz.prog 21 [.one (int st),.one (int sy),.one (shI p),.one (int B)] [] (.tup [(false,[.gv 0]),(false,[int (nnC st sy B p)])]) [roI ((nnL st sy B p).getD [])] := by
  by_cases h : askT st sy B = 0
  · obtain ⟨q1,q2,q3,q4⟩ := ask_bd h
    have hl := pthL_pth (B := B) p (root sy st)
    cases hv : pth B (root sy st) p with
    | none =>
      obtain ⟨e1,e2⟩ := nn_none h hv
      rw [hv] at hl
      rw [e1,e2]
      refine does_of (k := 0) Tryz.func21 rfl Tryz.ntmps21 rfl rfl fun w F0 S0 ρ0 => ?_
      dsimp only [argT,argH]
      repeat' first|(apply n3;exact a_nilO eI rfl;exact rfl)|(apply p3;(first|exact pu1|exact a_ne rfl rfl);exact rfl)|refine cdn ?_|refine g_reg (id := 0) ?_|refine g_reg (id := 1) ?_|refine g_reg (id := 2) ?_|refine g_reg (id := 4) ?_|refine g_reg (id := 5) ?_|(apply c4 0;exact callK1 (θ := []) (hD := (sizesCode_ok _ _ _));exact rfl;exact rfl;exact rfl;refine dM ?_)|(apply c4 2;exact callK0 (θ := []) (hD := (forestOf_ok _ _ _));exact rfl;exact rfl;exact rfl;refine dM ?_)|(apply c4 1;exact callK0 (θ := [1,2]) (hD := (at_f_ok st sy B p preB99 preB99 preB99 preB99 preB99 preB99 preB99));exact rfl;exact rfl;exact rfl;refine dM ?_)|((refine g_cond rfl (fun hc => ?_) (fun hc => ?_)) <;> (try simp only [dcB] at hc) <;> (try first|contradiction|(exfalso;omega)))
      simp only [hl,Option.isSome_none]
      repeat' first|(apply n3;exact a_nilO eI rfl;exact rfl)|(apply p3;(exact pu1);exact rfl)|refine cd ?_
      repeat refine cr ?_
      refine ends_id ?_
      refine endK [?_] (h2 := ?_) (h3 := ?_) (nd := ?_)
      rotate_left 1
      all_goals (repeat' first|exact ce0|refine ce ?_|refine ce2 ?_ ?_|(refine Or.inr (bx_eq rfl rfl ?_);(try dsimp only [C.ren,C.ren.all]);(try exact rfl))|exact SVLe.refl|refine ceb ?_)
      all_goals first | exact (show nodupB _ = true from rfl) | exact Or.inr rfl | (rfl)
    | some m =>
      obtain ⟨e1,e2⟩ := nn_some h hv
      rw [hv] at hl
      rw [e1,e2]
      refine does_of (k := 0) Tryz.func21 rfl Tryz.ntmps21 rfl rfl fun w F0 S0 ρ0 => ?_
      dsimp only [argT,argH]
      repeat' first|(apply n3;exact a_nilO eI rfl;exact rfl)|(apply p3;(first|exact pu1|exact a_ne rfl rfl);exact rfl)|refine cdn ?_|refine g_reg (id := 0) ?_|refine g_reg (id := 1) ?_|refine g_reg (id := 2) ?_|refine g_reg (id := 4) ?_|refine g_reg (id := 5) ?_|(apply c4 0;exact callK1 (θ := []) (hD := (sizesCode_ok _ _ _));exact rfl;exact rfl;exact rfl;refine dM ?_)|(apply c4 2;exact callK0 (θ := []) (hD := (forestOf_ok _ _ _));exact rfl;exact rfl;exact rfl;refine dM ?_)|(apply c4 1;exact callK0 (θ := [1,2]) (hD := (at_f_ok st sy B p preB99 preB99 preB99 preB99 preB99 preB99 preB99));exact rfl;exact rfl;exact rfl;refine dM ?_)|((refine g_cond rfl (fun hc => ?_) (fun hc => ?_)) <;> (try simp only [dcB] at hc) <;> (try first|contradiction|(exfalso;omega)))
      simp only [hl,Option.isSome_some]
      repeat' first|(apply p3;(exact pu1);exact rfl)|refine cdn ?_|refine g_reg (id := 6) ?_|refine g_reg (id := 8) ?_|(apply c4 1;exact callK0 (θ := [1,2]) (hD := (next_f_ok st sy B p m preB99 preB99 preB99 preB99 preB99 preB99 preB99 hv));exact rfl;exact rfl;exact rfl;refine dM ?_)
      cases hx : nxt B (root sy st) m p 0 with
      | none =>
        simp only [Option.isSome_none,Option.getD_none]
        repeat' first|(apply n3;exact a_nilO eI rfl;exact rfl)|(apply p3;(exact pu1);exact rfl)|refine cd ?_
        repeat refine cr ?_
        refine ends_id ?_
        refine endK [?_] (h2 := ?_) (h3 := ?_) (nd := ?_)
        rotate_left 1
        all_goals (repeat' first|exact ce0|refine ce ?_|refine ce2 ?_ ?_|(refine Or.inr (bx_eq rfl rfl ?_);(try dsimp only [C.ren,C.ren.all]);(try exact rfl))|exact SVLe.refl|refine ceb ?_)
        all_goals first | exact (show nodupB _ = true from rfl) | exact Or.inr rfl | (rfl)
      | some q =>
        simp only [Option.isSome_some,Option.getD_some]
        repeat' first|(apply p3;(exact pu1);exact rfl)|refine cd ?_
        repeat refine cr ?_
        refine ends_id ?_
        refine endK [?_] (h2 := ?_) (h3 := ?_) (nd := ?_)
        rotate_left 1
        all_goals (repeat' first|exact ce0|refine ce ?_|refine ce2 ?_ ?_|(refine Or.inr (bx_eq rfl rfl ?_);(try dsimp only [C.ren,C.ren.all]);(try exact rfl))|exact SVLe.refl|refine ceb ?_)
        all_goals first | exact (show nodupB _ = true from rfl) | exact Or.inr rfl | (rfl)
  · obtain ⟨e1,e2⟩ := nn_bad (p := p) h
    rw [e1,e2]
    refine does_of (k := 0) Tryz.func21 rfl Tryz.ntmps21 rfl rfl fun w F0 S0 ρ0 => ?_
    dsimp only [argT,argH]
    repeat' first|(apply n3;exact a_nilO eI rfl;exact rfl)|(apply p3;(first|exact pu1|exact a_ne rfl rfl);exact rfl)|refine cd ?_|(apply c4 0;exact callK1 (θ := []) (hD := (sizesCode_ok _ _ _));exact rfl;exact rfl;exact rfl;refine dM ?_)|((refine g_cond rfl (fun hc => ?_) (fun hc => ?_)) <;> (try simp only [dcB] at hc) <;> (try first|contradiction|(exfalso;omega)))
    repeat refine cr ?_
    refine ends_id ?_
    refine endK [?_] (h2 := ?_) (h3 := ?_) (nd := ?_)
    rotate_left 1
    all_goals (repeat' first|exact ce0|refine ce ?_|refine ce2 ?_ ?_|(refine Or.inr (bx_eq rfl rfl ?_);(try dsimp only [C.ren,C.ren.all]);(try exact rfl))|exact SVLe.refl|refine ceb ?_)
    all_goals first | exact (show nodupB _ = true from rfl) | exact Or.inr rfl | (rfl)
end Go.Proofs.YtighjcjmacajoaaGreatDoor
end
section
set_option linter.unusedVariables false
set_option linter.unusedSimpArgs false
set_option maxRecDepth 100000
set_option maxHeartbeats 4000000
namespace Go.Proofs.YtighjcjmacajoaaGreatDoor
open Go Foot
theorem bndQ {p : Prop} (h : p := by first | omega | (simp only [cnt,rows_len,List.length_cons,List.length_nil,Nat.mul_one,Nat.div_one]; omega)) : p := h
theorem Kept.all : ∀ {ps : List (List Int)} {vs : List Value},vs.length = ps.length → Kept ps vs ps vs
  | [],[],_ => .nil
  | [],_ :: _,h => by simp at h
  | _ :: _,[],h => by simp at h
  | p :: ps,v :: vs,h => .keep (Kept.all (by simpa using h))
abbrev thR (Z : Foot) (ps : List (List Int)) (i : Nat) : GB := .opq (thP Z ps) [i]
theorem preB104 {p : Prop} (h : p := by first | with_reducible assumption | omega | (simp only [List.length_append,List.length_cons,List.length_nil,List.length_set,List.length_replicate,List.length_take,List.length_drop,List.length_tail,List.length_dropLast,List.length_reverse] at *; omega) | exact mem_len (by assumption) (by omega) | (with_reducible refine Int.le_trans (Int.ofNat_le.2 (trimR_len _)) ?_; simp only [List.length_cons,List.length_tail]; omega) | (exact (ruAt_ok (by assumption) (by assumption) (by assumption)).2.1) | (exact (ruAt_ok (by assumption) (by assumption) (by assumption)).2.1) | (have := vMach_bd (by assumption); omega) | (simp only [mC_ch,mC_tu]; omega) | (have := vTag_bd (by assumption); omega) | (have := (‹Gd _ _›).le; omega) | (exact tgHalts_no (by assumption)) | (exact tgHead (by assumption) (by assumption) (by assumption)) | (exact Int.le_trans (tgStep_gd (by assumption) (by assumption) (by assumption) (by assumption)).le (by decide)) | (exact vTag_r (by assumption)) | (with_reducible refine Int.le_trans (Int.ofNat_le.2 (pushL_len _ _)) ?_; simp only [List.length_dropLast]; omega) | exact ls_at (by assumption) (by omega) | exact pt_gd (by assumption) | exact lv_at (by assumption) (by omega) | exact pt_gd (lv_at (by assumption) (by omega)) | exact (ask_ok (by assumption)).1 | exact (ask_ok (by assumption)).2.1 | exact (ask_ok (by assumption)).2.2.1 | exact (ask_ok (by assumption)).2.2.2 | trivial) : p := h
theorem visitL_ok (st sy B depth : Int) (Z : Foot) (acc : List (List Int)) (q : List Int) (x : Mach) (hq : depth < q.length) (hl : (q.length : Int) ≤ 1048576) : Does Tryz.prog 123 [.one (.gv 7),.agg (ndC x B),.one (.gv 2),.one (.gv 3),.one (.gv 4),.one (.gv 5)] [.bx (foC st sy B 0),foM B sy st 1,.bx [int depth],.bx [.gv 6],.bx [.fn (.func 123) [.gv 2,.gv 3,.gv 4,.gv 5]],.bx [.gv 0],thR Z acc 6,roI q] (.one (boo true)) [.bx (foC st sy B 0),foM B sy st 1,.bx [int depth],.bx [.gv 8],.bx [.fn (.func 123) [.gv 2,.gv 3,.gv 4,.gv 5]],.bx [.gv 0],.dead,.dead,thR Z acc 8] := by
  refine does_of (k := 8) Tryz.func123 rfl Tryz.ntmps123 rfl rfl fun w F0 S0 ρ0 => ?_
  dsimp only [argT,argH]
  repeat' first|(apply n3;(exact a_new (gb := .bx _) rfl);exact rfl;refine dA ?_)|(apply p3;(exact pu1);exact rfl)|refine cd ?_|(apply g_drN (id := 1) okM [[],[0],[],[0,1,2]] [([],[]),([],[]),([],[]),([],[])] 0;(focus (refine dp 0 0 [13] [] pu1 ?_;refine dp 1 1 [13] [] (by exact callD1 (n := _) 0 (θ := []) (hD := (sizeI_ok _ preB104))) ?_;refine dp 2 0 [11,12] [] (by exact puL) ?_;refine dp 3 7 [] [] puC ?_;(refine d_nil ?_;refine dN ?_)));any_goals kernel_rfl)|((refine g_cond rfl (fun hc => ?_) (fun hc => ?_)) <;> (try simp only [dcB] at hc) <;> (try first|contradiction|(exfalso;omega)))
  repeat refine cr ?_
  refine ends_id ?_
  refine endK [?_] (h2 := ?_) (h3 := ?_) (nd := ?_)
  rotate_left 1
  all_goals (repeat' first|exact ce0|refine ce ?_|refine ce2 ?_ ?_|(refine Or.inr (bx_eq rfl rfl ?_);(try dsimp only [C.ren,C.ren.all]);(try exact rfl))|exact SVLe.refl|refine ceb ?_)
  all_goals first | exact (show nodupB _ = true from rfl) | exact Or.inr rfl | (rfl)
def VisD (st sy B depth : Int) (Z : Foot) (f : Nat) : Prop := ∀ (q : List Int) (x : Mach) (acc : List (List Int)),NdOk sy st x → (q.length : Int) + f = depth → (acc.length : Int) ≤ 400 →
  Does Tryz.prog 123 [.one (.gv 7),.agg (ndC x B),.one (.gv 2),.one (.gv 3),.one (.gv 4),.one (.gv 5)] [.bx (foC st sy B 0),foM B sy st 1,.bx [int depth],.bx [.gv 6],.bx [.fn (.func 123) [.gv 2,.gv 3,.gv 4,.gv 5]],.bx [.gv 0],thR Z acc 6,roI q]
    (.one (boo (decide (((acc ++ tre B f q x).length : Int) ≤ 400)))) [.bx (foC st sy B 0),foM B sy st 1,.bx [int depth],.bx [.gv 8],.bx [.fn (.func 123) [.gv 2,.gv 3,.gv 4,.gv 5]],.bx [.gv 0],.dead,.dead,thR Z ((acc ++ tre B f q x).take 400) 8]
theorem take_more {l m : List (List Int)} (h : 400 ≤ l.length) : (l ++ m).take 400 = l.take 400 := by rw [List.take_append_of_le_length h]
theorem trs_split (B : Int) (f : Nat) (q : List Int) (x : Mach) : ∀ {n k : Nat},k ≤ n → ∃ r,trs B f q x n = trs B f q x k ++ r
  | 0,k,h => ⟨[],by rw [show k = 0 by omega]; rfl⟩
  | n + 1,k,h => by
    by_cases hk : k = n + 1
    · exact ⟨[],by rw [hk]; simp⟩
    · obtain ⟨r,hr⟩ := trs_split B f q x (n := n) (k := k) (by omega)
      exact ⟨r ++ tre B f (q ++ [((n : Nat) : Int)]) (chM x (ndA x B) ((chR x).getD n noR)),by rw [trs_next,hr,List.append_assoc]⟩
theorem visit_ok (st sy B depth : Int) (Z : Foot) (f : Nat) (q : List Int) (x : Mach) (acc : List (List Int)) (h5 : 0 ≤ B) (h6 : B ≤ 1000000) (hd : depth ≤ 36) (hx : NdOk sy st x) (hq : (q.length : Int) + f = depth) (ha : (acc.length : Int) ≤ 400) (ih : ∀ g,f = g + 1 → VisD st sy B depth Z g) : Does Tryz.prog 123 [.one (.gv 7),.agg (ndC x B),.one (.gv 2),.one (.gv 3),.one (.gv 4),.one (.gv 5)] [.bx (foC st sy B 0),foM B sy st 1,.bx [int depth],.bx [.gv 6],.bx [.fn (.func 123) [.gv 2,.gv 3,.gv 4,.gv 5]],.bx [.gv 0],thR Z acc 6,roI q] (.one (boo (decide (((acc ++ tre B f q x).length : Int) ≤ 400)))) [.bx (foC st sy B 0),foM B sy st 1,.bx [int depth],.bx [.gv 8],.bx [.fn (.func 123) [.gv 2,.gv 3,.gv 4,.gv 5]],.bx [.gv 0],.dead,.dead,thR Z ((acc ++ tre B f q x).take 400) 8] := by
  obtain ⟨tl,htl⟩ := tre_head B f q x
  have hv := hx.v
  have hlx := vMach_len hv
  have hax := ndA_bd (B := B) hv
  refine does_of (k := 8) Tryz.func123 rfl Tryz.ntmps123 rfl rfl fun w F0 S0 ρ0 => ?_
  dsimp only [argT,argH]
  repeat' first|(apply n3;exact a_new (gb := .bx _) rfl;exact rfl;refine dA ?_)|(apply p3;exact a_pure (sv := .one _) rfl;exact rfl)|refine cdn ?_|refine g_reg (id := 0) ?_|(apply g_drN (id := 1) okM [[],[0],[],[0,1,2]] [([],[]),([],[]),([],[]),([],[])] 0;(focus (refine dp 0 0 [13] [] pu1 ?_;refine dp 1 1 [13] [] (by exact callD1 (n := _) 0 (θ := []) (hD := (sizeI_ok _ preB104))) ?_;refine dp 2 0 [11,12] [] (by exact puL) ?_;refine dp 3 7 [] [] puC ?_;(refine d_nil ?_;refine dN ?_)));any_goals kernel_rfl)|((refine g_cond rfl (fun hc => ?_) (fun hc => ?_)) <;> (try simp only [dcB] at hc) <;> (try first|contradiction|(exfalso;omega)))
  refine g_openT (i := 6) rfl rfl (fun vs hvs => ?_)
  repeat' first|(apply p3;(first|exact puN|exact puC|exact puL);exact rfl)|refine cdn ?_|refine g_reg (id := 3) ?_|((refine g_cond rfl (fun hc => ?_) (fun hc => ?_)) <;> (try simp only [dcB] at hc) <;> (try first|contradiction|(exfalso;omega)))
  · have hT : (acc ++ tre B f q x).take 400 = acc := by rw [List.take_append_of_le_length (by omega),List.take_of_length_le (by omega)]
    have hF : decide (((acc ++ tre B f q x).length : Int) ≤ 400) = false := by
      rw [decide_eq_false_iff_not,htl]
      simp
      omega
    rw [hT,hF]
    refine g_conv (t_shutT (j := 6) (q := 9) rfl rfl (Kept.all hvs) rfl) ?_
    repeat' first|(apply p3;(exact pu1);exact rfl)|refine cd ?_
    repeat refine cr ?_
    refine ends_id ?_
    refine endK [?_] (h2 := ?_) (h3 := ?_) (nd := ?_)
    rotate_left 1
    all_goals (repeat' first|exact ce0|refine ce ?_|refine ce2 ?_ ?_|(refine Or.inr (bx_eq rfl rfl ?_);(try dsimp only [C.ren,C.ren.all]);(try exact rfl))|exact SVLe.refl|refine ceb ?_)
    all_goals first | exact (show nodupB _ = true from rfl) | exact Or.inr rfl | (rfl)
  · skip
    repeat' first|(apply n3;(exact a_litQ (fP rfl) (by decide) rfl (by decide) rfl rfl rfl);exact rfl;refine dA ?_)|(apply p3;(exact pu1);exact rfl)|refine cdn ?_|refine g_reg (id := 5) ?_|(apply s3;exact a_appQ (fP rfl) rfl rfl rfl rfl qno bndQ bndQ (by decide);exact rfl;exact rfl)|(apply w3;(exact a_st_bx rfl rfl rfl rfl (fN rfl rfl) (Nat.le_of_ble_eq_true rfl) rfl);exact rfl;refine dS ?_)
    refine g_turn (t_appT (j := 11) (q := 9) (r := 7) (p := q) rfl rfl rfl rfl rfl rfl) ?_
    refine g_conv (t_leS 0 (.one (shI q)) (SVLe.one (.sh rfl))) ?_
    have hal : (acc.length : Int) ≤ 399 := by omega
    repeat' first|refine cdn ?_|(apply g_drN (id := 6) okM [[],[0],[],[0,1,2]] [([],[]),([],[]),([],[]),([],[])] 0;(focus (refine dp 0 0 [24] [] pu1 ?_;refine dp 1 1 [24] [] (by exact callD1 (n := _) 0 (θ := []) (hD := (sizeI_ok _ preB104))) ?_;refine dp 2 0 [22,23] [] (by exact puL) ?_;refine dp 3 7 [] [] (by exact puC) ?_;(refine d_nil ?_;refine dN ?_)));any_goals kernel_rfl)|((refine g_cond rfl (fun hc => ?_) (fun hc => ?_)) <;> (try simp only [dcB] at hc) <;> (try first|contradiction|(exfalso;omega)))
    · have hf : f = 0 := by omega
      subst hf
      have hT : (acc ++ tre B 0 q x).take 400 = acc ++ [q] := by rw [tre,List.take_of_length_le (by simp; omega)]
      have hF : decide (((acc ++ tre B 0 q x).length : Int) ≤ 400) = true := by
        rw [decide_eq_true_eq,tre]
        simp
        omega
      rw [hT,hF]
      repeat' first|(apply p3;(exact pu1);exact rfl)|refine cd ?_
      repeat refine cr ?_
      refine ends_id ?_
      refine endK [?_] (h2 := ?_) (h3 := ?_) (nd := ?_)
      rotate_left 1
      all_goals (repeat' first|exact ce0|refine ce ?_|refine ce2 ?_ ?_|(refine Or.inr (bx_eq rfl rfl ?_);(try dsimp only [C.ren,C.ren.all]);(try exact rfl))|exact SVLe.refl|refine ceb ?_)
      all_goals first | exact (show nodupB _ = true from rfl) | exact Or.inr rfl | (rfl)
    · obtain ⟨g,hfg⟩ : ∃ g,f = g + 1 := ⟨f - 1,by omega⟩
      subst hfg
      have ihg := ih g rfl
      have hlr := chR_len hv
      rw [tre_succ]
      by_cases hs0 : ¬ ndS x B = 0
      · rw [if_neg hs0]
        have hT : (acc ++ [q]).take 400 = acc ++ [q] := List.take_of_length_le (by simp; omega)
        have hF : decide (((acc ++ [q]).length : Int) ≤ 400) = true := by
          rw [decide_eq_true_eq]
          simp
          omega
        rw [hT,hF]
        repeat' first|(apply p3;(first|exact pu1|exact puN);exact rfl)|refine cdn ?_|refine g_reg (id := 8) ?_|(apply c4 1;exact callK1 (θ := []) (hD := (childrenA_ok _ _ preB104));exact rfl;exact rfl;exact rfl;refine dM ?_)
        simp only [if_neg hs0]
        skip
        refine g_loop_id ?_
        refine loopK [0,4,5,7,8,27,28] [3,11] (fun y : Int × List (List Int) => y.1 = 0 ∧ y.2 = acc ++ [q]) (fun y => [(29,.one (int y.1))]) (fun y => [(3,.bx [.gv 11]),(11,thR Z y.2 11)]) (fun _ => 0) ((0 : Int),acc ++ [q]) [0,1,2,3,4,5,6,7,8,9,10,11,12] (hI := ?_) (hr := ?_)
        · exact ⟨rfl,rfl⟩
        · rintro ⟨k,ac⟩ ⟨k0,k1⟩
          dsimp only [List.cons_append,List.nil_append] at *
          skip
          repeat' first|(apply p3;(exact puC);exact rfl)|refine cdn ?_|refine g_reg (id := 9) ?_|((refine g_cond rfl (fun hc => ?_) (fun hc => ?_)) <;> (try simp only [dcB] at hc) <;> (try first|contradiction|(exfalso;omega)))
          · exfalso
            simp only [List.length_nil] at hc
            omega
          · try dsimp only at k1
            rw [k1]
            repeat' first|(apply p3;(exact pu1);exact rfl)|refine cd ?_
            repeat refine cr ?_
            refine ends_id ?_
            refine endK [?_] (h2 := ?_) (h3 := ?_) (nd := ?_)
            rotate_left 1
            all_goals (repeat' first|exact ce0|refine ce ?_|refine ce2 ?_ ?_|(refine Or.inr (bx_eq rfl rfl ?_);(try dsimp only [C.ren,C.ren.all]);(try exact rfl))|exact SVLe.refl|refine ceb ?_)
            all_goals first | exact (show nodupB _ = true from rfl) | exact Or.inr rfl | (rfl)
      · have hs : ndS x B = 0 := by omega
        rw [if_pos hs]
        repeat' first|(apply p3;(first|exact pu1|exact puN);exact rfl)|refine cdn ?_|refine g_reg (id := 8) ?_|(apply c4 1;exact callK1 (θ := []) (hD := (childrenA_ok _ _ preB104));exact rfl;exact rfl;exact rfl;refine dM ?_)
        simp only [if_pos hs]
        skip
        refine g_loop_id ?_
        refine loopK [0,4,5,7,8,27,28] [3,11] (fun y : Int × List (List Int) => 0 ≤ y.1 ∧ y.1 ≤ (chR x).length ∧ y.2 = acc ++ [q] ++ trs B g q x y.1.toNat ∧ (y.2.length : Int) ≤ 400) (fun y => [(29,.one (int y.1))]) (fun y => [(3,.bx [.gv 11]),(11,thR Z y.2 11)]) (fun y => ((chR x).length - y.1).toNat) ((0 : Int),acc ++ [q]) [0,1,2,3,4,5,6,7,8,9,10,11,12] (hI := ?_) (hr := ?_)
        · exact ⟨by simp,by simp,by simp [trs_0],by simp; omega⟩
        · rintro ⟨k,ac⟩ ⟨k0,k1,k2,k3⟩
          dsimp only [List.cons_append,List.nil_append] at *
          skip
          repeat' first|(apply n3;exact a_new (gb := .bx _) rfl;exact rfl;refine dA ?_)|(apply p3;(first|exact pu1|exact puC|exact a_ldsE (E := eR) 0 rfl rfl rfl (fA rfl) rfl rfl (Nat.le_of_ble_eq_true rfl) (Nat.le_of_ble_eq_true rfl) bnd rfl (by repeat (first|exact trivial|exact rfl|refine And.intro ?_ ?_)) rfl|exact puI);exact rfl)|refine cdn ?_|refine g_reg (id := 9) ?_|refine g_reg (id := 10) ?_|refine g_reg (id := 14) ?_|(apply w3;(exact a_st_bx rfl rfl rfl rfl (fN rfl rfl) (Nat.le_of_ble_eq_true rfl) rfl);exact rfl;refine dS ?_)|((refine g_cond rfl (fun hc => ?_) (fun hc => ?_)) <;> (try simp only [dcB] at hc) <;> (try first|contradiction|(exfalso;omega)))
          · have hst := stp_yes (B := B) hs k0 (show k.toNat < (chR x).length by omega)
            have h2y := (stp_ok hx hst).1
            have hj : JnOk [q,[k]] := jn_two (by simp; omega)
            have hqk : ((q ++ [k]).length : Int) + g = depth := by simp; omega
            have hgd : (chR x).getD k.toNat noR = (chR x)[k.toNat]'(by omega) := by rw [List.getD_eq_getElem?_getD,List.getElem?_eq_getElem (by omega)]; rfl
            have hnx := trs_next B g q x k.toNat
            rw [show ((k.toNat : Nat) : Int) = k by omega,hgd,show k.toNat + 1 = (k + 1).toNat by omega] at hnx
            have hih := ihg (q ++ [k]) (chM x (ndA x B) ((chR x)[k.toNat]'(by omega))) ac h2y hqk k3
            obtain ⟨rest,hrest⟩ := trs_split B g q x (n := (chR x).length) (k := (k + 1).toNat) (by omega)
            have htot : acc ++ q :: trs B g q x (chR x).length = (ac ++ tre B g (q ++ [k]) (chM x (ndA x B) ((chR x)[k.toNat]'(by omega)))) ++ rest := by
              rw [hrest,hnx,k2]
              simp
            by_cases hfit : ((ac ++ tre B g (q ++ [k]) (chM x (ndA x B) ((chR x)[k.toNat]'(by omega)))).length : Int) ≤ 400
            · rw [List.take_of_length_le (by omega),decide_eq_true hfit] at hih
              repeat' first|(apply p3;(first|exact pu1|exact a_add rfl rfl (by omega) (by omega));exact rfl)|refine cd ?_|(apply g_drN (id := 11) okM [[],[],[],[2],[1,2,3],[1,2,3,4],[],[],[7],[],[9],[],[1,2,3,4,5,7,8,9,10,11],[1,2,3,4,5,6,7,8,9,10,11,12],[0,1,2,3,4,5,6,7,8,9,10,11,12,13],[0,1,2,3,4,5,6,7,8,9,10,11,12,13,14]] [([],[]),([],[]),([],[]),([],[]),([0],[]),([1],[]),([],[]),([],[]),([],[]),([],[]),([],[]),([],[]),([],[]),([],[0,1]),([2],[0,1,2,3,4,5,11,15]),([],[])] 3;(focus (refine dp 0 0 [35,36,37,38,39,40,41,42,43,44,45,46,47] [(true,0),(true,1),(false,0),(false,1)] (by exact puL) ?_;refine dp 1 0 [34,36,37,40,41,42,43,44,45] [] pu1 ?_;refine dp 2 0 [34,35,40,41,42,43,44,45] [] pu1 ?_;refine dp 3 1 [34,35,40,41,42,43,44,45] [] (a_litF (dst := some 37) eI [_] rfl rfl rfl rfl rfl rfl rfl rfl nowR) ?_;refine duE 4 7 [34,40,41,42,43,44,45] [] (atN 0 (fun _ => a_litE eW [_,_] rfl rfl rfl rfl rfl rfl rfl rfl)) (by exact rfl) (by exact rfl) ?_;refine duN 5 15 [34,40,41,42,43,44,45] [] (callD1 (n := _) 1 (θ := []) (hD := (joined_ok _ preB104))) (by exact rfl) (by exact rfl) ?_;refine dp 6 0 [34,35,36,37,38,39,41,42,43,44,45,46] [(true,0),(true,1)] (by exact puL) ?_;refine dp 7 0 [34,35,36,37,38,39,40,43,44,45] [(true,0),(true,1)] (a_pure (sv := .one _) rfl) ?_;refine dp 8 1 [34,35,36,37,38,39,40,43,44,45] [(true,0),(true,1)] (by exact puL) ?_;refine dp 9 0 [34,35,36,37,38,39,40,41,42,45] [(true,0),(true,1)] (a_pure (sv := .one _) rfl) ?_;refine dp 10 1 [34,35,36,37,38,39,40,41,42,45] [(true,0),(true,1)] (by exact puL) ?_;refine dp 11 0 [34,35,36,37,38,39,40,41,42,43,44] [(true,0),(true,1)] (by exact puL) ?_;refine dp 12 2015 [34,40] [] (callFD 2 (hD := (childM_ok _ _ _ preB104 preB104 preB104))) ?_;refine duN 13 4095 [34] [] (callD0 (n := _) 2 (θ := [0,1]) (hD := (look_ok st sy B _ h2y preB104 preB104))) (by exact rfl) (by exact rfl) ?_;refine duN 14 16383 [] [] (callD0 (n := _) 2 (θ := [0,1,2,3,4,5,11,15]) (hD := (hih))) (by exact rfl) (by exact rfl) ?_;refine dp 15 32767 [] [] (a_pure (sv := .one _) rfl) ?_;(refine d_nil ?_;refine dN ?_)));any_goals kernel_rfl)
              refine q_again (k + 1,ac ++ tre B g (q ++ [k]) (chM x (ndA x B) ((chR x)[k.toNat]'(by omega)))) [0,1,2,3,4,5,6,7,8,9,10,16,12] (by exact stk) ?_ ?_
              · exact ⟨by dsimp only; omega,by dsimp only; omega,by dsimp only; rw [hnx,k2]; simp,hfit⟩
              · dsimp only; omega
            · rw [decide_eq_false hfit] at hih
              have hT : (acc ++ q :: trs B g q x (chR x).length).take 400 = (ac ++ tre B g (q ++ [k]) (chM x (ndA x B) ((chR x)[k.toNat]'(by omega)))).take 400 := by rw [htot,take_more (by omega)]
              have hF : decide (((acc ++ q :: trs B g q x (chR x).length).length : Int) ≤ 400) = false := by
                rw [decide_eq_false_iff_not,htot,List.length_append]
                omega
              rw [hT,hF]
              repeat' first|(apply p3;(exact pu1);exact rfl)|refine cd ?_|(apply g_drN (id := 11) okM [[],[],[],[2],[1,2,3],[1,2,3,4],[],[],[7],[],[9],[],[1,2,3,4,5,7,8,9,10,11],[1,2,3,4,5,6,7,8,9,10,11,12],[0,1,2,3,4,5,6,7,8,9,10,11,12,13],[0,1,2,3,4,5,6,7,8,9,10,11,12,13,14]] [([],[]),([],[]),([],[]),([],[]),([0],[]),([1],[]),([],[]),([],[]),([],[]),([],[]),([],[]),([],[]),([],[]),([],[0,1]),([2],[0,1,2,3,4,5,11,15]),([],[])] 3;(focus (refine dp 0 0 [35,36,37,38,39,40,41,42,43,44,45,46,47] [(true,0),(true,1),(false,0),(false,1)] (by exact puL) ?_;refine dp 1 0 [34,36,37,40,41,42,43,44,45] [] pu1 ?_;refine dp 2 0 [34,35,40,41,42,43,44,45] [] pu1 ?_;refine dp 3 1 [34,35,40,41,42,43,44,45] [] (a_litF (dst := some 37) eI [_] rfl rfl rfl rfl rfl rfl rfl rfl nowR) ?_;refine duE 4 7 [34,40,41,42,43,44,45] [] (atN 0 (fun _ => a_litE eW [_,_] rfl rfl rfl rfl rfl rfl rfl rfl)) (by exact rfl) (by exact rfl) ?_;refine duN 5 15 [34,40,41,42,43,44,45] [] (callD1 (n := _) 1 (θ := []) (hD := (joined_ok _ preB104))) (by exact rfl) (by exact rfl) ?_;refine dp 6 0 [34,35,36,37,38,39,41,42,43,44,45,46] [(true,0),(true,1)] (by exact puL) ?_;refine dp 7 0 [34,35,36,37,38,39,40,43,44,45] [(true,0),(true,1)] (a_pure (sv := .one _) rfl) ?_;refine dp 8 1 [34,35,36,37,38,39,40,43,44,45] [(true,0),(true,1)] (by exact puL) ?_;refine dp 9 0 [34,35,36,37,38,39,40,41,42,45] [(true,0),(true,1)] (a_pure (sv := .one _) rfl) ?_;refine dp 10 1 [34,35,36,37,38,39,40,41,42,45] [(true,0),(true,1)] (by exact puL) ?_;refine dp 11 0 [34,35,36,37,38,39,40,41,42,43,44] [(true,0),(true,1)] (by exact puL) ?_;refine dp 12 2015 [34,40] [] (callFD 2 (hD := (childM_ok _ _ _ preB104 preB104 preB104))) ?_;refine duN 13 4095 [34] [] (callD0 (n := _) 2 (θ := [0,1]) (hD := (look_ok st sy B _ h2y preB104 preB104))) (by exact rfl) (by exact rfl) ?_;refine duN 14 16383 [] [] (callD0 (n := _) 2 (θ := [0,1,2,3,4,5,11,15]) (hD := (hih))) (by exact rfl) (by exact rfl) ?_;refine dp 15 32767 [] [] (a_pure (sv := .one _) rfl) ?_;(refine d_nil ?_;refine dN ?_)));any_goals kernel_rfl)
              repeat refine cr ?_
              refine ends_id ?_
              refine endK [?_] (h2 := ?_) (h3 := ?_) (nd := ?_)
              rotate_left 1
              all_goals (repeat' first|exact ce0|refine ce ?_|refine ce2 ?_ ?_|(refine Or.inr (bx_eq rfl rfl ?_);(try dsimp only [C.ren,C.ren.all]);(try exact rfl))|exact SVLe.refl|refine ceb ?_)
              all_goals first | exact (show nodupB _ = true from rfl) | exact Or.inr rfl | (rfl)
          · have hT : acc ++ q :: trs B g q x (chR x).length = ac := by
              rw [k2,show k.toNat = (chR x).length by omega]
              simp
            rw [hT,List.take_of_length_le (by omega),decide_eq_true k3]
            skip
            repeat refine cr ?_
            refine ends_id ?_
            refine endK [?_] (h2 := ?_) (h3 := ?_) (nd := ?_)
            rotate_left 1
            all_goals (repeat' first|exact ce0|refine ce ?_|refine ce2 ?_ ?_|(refine Or.inr (bx_eq rfl rfl ?_);(try dsimp only [C.ren,C.ren.all]);(try exact rfl))|exact SVLe.refl|refine ceb ?_)
            all_goals first | exact (show nodupB _ = true from rfl) | exact Or.inr rfl | (rfl)
theorem visit_all (st sy B depth : Int) (Z : Foot) (h5 : 0 ≤ B) (h6 : B ≤ 1000000) (hd : depth ≤ 36) : ∀ f,VisD st sy B depth Z f
  | 0 => fun q x acc hx hq ha => visit_ok st sy B depth Z 0 q x acc h5 h6 hd hx hq ha (fun g h => by omega)
  | f + 1 => fun q x acc hx hq ha => visit_ok st sy B depth Z (f + 1) q x acc h5 h6 hd hx hq ha (fun g h => by
    obtain rfl : g = f := by omega
    exact visit_all st sy B depth Z h5 h6 hd g)
@[irreducible] def blT (st sy B depth : Int) (p : List Int) : Option (List (List Int)) := (pth B (root sy st) p).map fun x => if (p.length : Int) ≤ depth then tre B (depth - p.length).toNat p x else []
@[irreducible] def blC (st sy B depth : Int) (p : List Int) : Int := match blT st sy B depth p with
  | none => 3
  | some T => if (T.length : Int) ≤ 400 then 0 else 5
@[irreducible] def blL (st sy B depth : Int) (p : List Int) : List (List Int) := match blT st sy B depth p with
  | none => []
  | some T => if (T.length : Int) ≤ 400 then T else []
theorem bl_none {st sy B depth : Int} {p : List Int} (h : pth B (root sy st) p = none) : blC st sy B depth p = 3 ∧ blL st sy B depth p = [] := by
  have e : blT st sy B depth p = none := by unfold blT; rw [h]; rfl
  unfold blC blL; rw [e]; exact ⟨rfl,rfl⟩
theorem bl_some {st sy B depth : Int} {p : List Int} {x : Mach} (h : pth B (root sy st) p = some x) : blT st sy B depth p = some (if (p.length : Int) ≤ depth then tre B (depth - p.length).toNat p x else []) := by
  unfold blT; rw [h]; rfl
theorem bl_fit {st sy B depth : Int} {p : List Int} {T : List (List Int)} (h : blT st sy B depth p = some T) (hf : (T.length : Int) ≤ 400) : blC st sy B depth p = 0 ∧ blL st sy B depth p = T := by
  unfold blC blL; rw [h]; exact ⟨if_pos hf,if_pos hf⟩
theorem bl_full {st sy B depth : Int} {p : List Int} {T : List (List Int)} (h : blT st sy B depth p = some T) (hf : ¬ (T.length : Int) ≤ 400) : blC st sy B depth p = 5 ∧ blL st sy B depth p = [] := by
  unfold blC blL; rw [h]; exact ⟨if_neg hf,if_neg hf⟩
theorem below_ok (st sy B depth : Int) (p : List Int) (Z : Foot) (hp : (p.length : Int) ≤ 1048576) (h1 : 1 ≤ st) (h2 : st ≤ 6) (h3 : 2 ≤ sy) (h4 : sy ≤ 6) (h5 : 0 ≤ B) (h6 : B ≤ 1000000) (hd0 : 0 ≤ depth) (hd : depth ≤ 36) : Does Tryz.prog 60 [.one (.gv 0),.one (shI p),.one (int depth)] [.bx (foC st sy B 0),foM B sy st 1,.opq (zw Z) []] (.tup [(false,[.gv 3]),(false,[int (blC st sy B depth p)])]) [.bx (foC st sy B 0),foM B sy st 1,.opq (zw Z) [],thR Z (blL st sy B depth p) 3] := by
  have hr := root_ok h3 h4 h1 (by omega)
  have hls := pthL_pth (B := B) p (root sy st)
  refine does_of (k := 3) Tryz.func60 rfl Tryz.ntmps60 rfl rfl fun w F0 S0 ρ0 => ?_
  dsimp only [argT,argH]
  repeat' first|(apply n3;exact a_nilO eVv rfl;exact rfl)|(apply n3;(first|exact a_new (gb := .bx _) rfl|exact a_litE eW [] rfl rfl rfl rfl rfl rfl rfl rfl);exact rfl;refine dA ?_)|(apply p3;exact a_pure (sv := .one _) rfl;exact rfl)|refine cdn ?_|refine g_reg (id := 0) ?_|refine g_reg (id := 1) ?_|refine g_reg (id := 2) ?_|refine g_reg (id := 3) ?_|(apply w3;exact a_st_bx rfl rfl rfl rfl (fN rfl rfl) (Nat.le_of_ble_eq_true rfl) rfl;exact rfl;refine dS ?_)
  refine g_conv (t_mkT (i := 6) (q := 2) rfl rfl) ?_
  cases hv : pth B (root sy st) p with
  | none =>
    obtain ⟨e1,e2⟩ := bl_none (depth := depth) hv
    rw [e1,e2]
    rw [hv] at hls
    repeat' first|(apply p3;(exact pu1);exact rfl)|refine cdn ?_|refine g_reg (id := 4) ?_|(apply c4 1;exact callK0 (θ := [0,1]) (hD := (at_f_ok st sy B p preB104 preB104 preB104 preB104 preB104 preB104 preB104));exact rfl;exact rfl;exact rfl;refine dM ?_)
    simp only [hls,Option.isSome_none]
    repeat' first|(apply n3;exact a_nilO eVv rfl;exact rfl)|(apply p3;(exact pu1);exact rfl)|refine cd ?_
    refine g_conv (t_mkT (i := 10) (q := 2) rfl rfl) ?_
    repeat refine cr ?_
    refine ends_id ?_
    refine endK [?_] (h2 := ?_) (h3 := ?_) (nd := ?_)
    rotate_left 1
    all_goals (repeat' first|exact ce0|refine ce ?_|refine ce2 ?_ ?_|(refine Or.inr (bx_eq rfl rfl ?_);(try dsimp only [C.ren,C.ren.all]);(try exact rfl))|exact SVLe.refl|refine ceb ?_)
    all_goals first | exact (show nodupB _ = true from rfl) | exact Or.inr rfl | (rfl)
  | some x =>
    obtain ⟨L,hL,hLl,hLg⟩ := pthL_some hv
    have hx := (pth_ok hr hv).1
    have hg : L[((p.length : Nat) : Int).toNat]'(by omega) = x := by
      have := hLg ((p.length : Nat) : Int).toNat (by omega)
      rw [List.take_of_length_le (by simp),hv] at this
      exact (Option.some.inj this).symm
    have hbs := bl_some (depth := depth) hv
    repeat' first|(apply p3;(exact pu1);exact rfl)|refine cdn ?_|refine g_reg (id := 4) ?_|(apply c4 1;exact callK0 (θ := [0,1]) (hD := (at_f_ok st sy B p preB104 preB104 preB104 preB104 preB104 preB104 preB104));exact rfl;exact rfl;exact rfl;refine dM ?_)
    simp only [hL,Option.isSome_some,Option.getD_some]
    by_cases hpd : (p.length : Int) ≤ depth
    · rw [if_pos hpd] at hbs
      have hvis := visit_all st sy B depth Z h5 h6 hd (depth - p.length).toNat p x [] hx (by omega) (by simp)
      simp only [List.nil_append] at hvis
      rw [← hg] at hvis hbs
      by_cases hf : ((tre B (depth - p.length).toNat p (L[((p.length : Nat) : Int).toNat]'(by omega))).length : Int) ≤ 400
      · obtain ⟨e1,e2⟩ := bl_fit hbs hf
        rw [e1,e2]
        rw [List.take_of_length_le (by omega),decide_eq_true hf] at hvis
        repeat' first|(apply p3;(exact pu1);exact rfl)|refine cd ?_|(apply g_drN (id := 7) okM [[],[],[1],[],[],[4],[3,4,5],[3,4,5,6],[0,1,2,3,4,5,6,7],[0,1,2,3,4,5,6,7,8],[0,1,2,3,4,5,6,7,8,9]] [([],[]),([],[]),([0],[]),([],[]),([],[]),([],[]),([],[]),([],[]),([1],[0,1,4,7,8,3,6,10]),([],[]),([],[])] 2;(focus (refine dp 0 0 [25,26,27,28,29,30,31] [(true,0)] (by exact puL) ?_;refine dp 1 0 [24,27,28,29,30,31] [] pu1 ?_;refine duN 2 1 [24,27,28,29,30,31] [] (callD1 (n := _) 0 (θ := []) (hD := (clone_ok _ preB104))) (by exact rfl) (by exact rfl) ?_;refine dp 3 0 [24,25,26,28,29] [(true,0)] pu1 ?_;refine dp 4 0 [24,25,26,27] [(true,0)] pu1 ?_;refine dp 5 1 [24,25,26,27] [(true,0)] (by exact puN) ?_;refine dp 6 7 [24,25,26] [(true,0)] puI ?_;refine dp 7 15 [24,25,26] [(true,0)] (by exact a_ldsE (E := (eNd B)) 0 rfl rfl rfl (fA rfl) rfl rfl (Nat.le_of_ble_eq_true rfl) (Nat.le_of_ble_eq_true rfl) bnd rfl (by repeat (first|exact trivial|exact rfl|refine And.intro ?_ ?_)) rfl) ?_;refine duN 8 255 [] [] (callD0 (n := _) 1 (θ := [0,1,4,7,8,3,6,10]) (hD := (hvis))) (by exact rfl) (by exact rfl) ?_;refine dp 9 511 [] [] (a_pure (sv := .one _) rfl) ?_;refine dp 10 1023 [] [] pu1 ?_;(refine d_nil ?_;refine dN ?_)));any_goals kernel_rfl)
        repeat refine cr ?_
        refine ends_id ?_
        refine endK [?_] (h2 := ?_) (h3 := ?_) (nd := ?_)
        rotate_left 1
        all_goals (repeat' first|exact ce0|refine ce ?_|refine ce2 ?_ ?_|(refine Or.inr (bx_eq rfl rfl ?_);(try dsimp only [C.ren,C.ren.all]);(try exact rfl))|exact SVLe.refl|refine ceb ?_)
        all_goals first | exact (show nodupB _ = true from rfl) | exact Or.inr rfl | (rfl)
      · obtain ⟨e1,e2⟩ := bl_full hbs hf
        rw [e1,e2]
        rw [decide_eq_false hf] at hvis
        repeat' first|(apply n3;exact a_nilO eVv rfl;exact rfl)|(apply p3;(exact pu1);exact rfl)|refine cd ?_|(apply g_drN (id := 7) okM [[],[],[1],[],[],[4],[3,4,5],[3,4,5,6],[0,1,2,3,4,5,6,7],[0,1,2,3,4,5,6,7,8],[0,1,2,3,4,5,6,7,8,9]] [([],[]),([],[]),([0],[]),([],[]),([],[]),([],[]),([],[]),([],[]),([1],[0,1,4,7,8,3,6,10]),([],[]),([],[])] 2;(focus (refine dp 0 0 [25,26,27,28,29,30,31] [(true,0)] (by exact puL) ?_;refine dp 1 0 [24,27,28,29,30,31] [] pu1 ?_;refine duN 2 1 [24,27,28,29,30,31] [] (callD1 (n := _) 0 (θ := []) (hD := (clone_ok _ preB104))) (by exact rfl) (by exact rfl) ?_;refine dp 3 0 [24,25,26,28,29] [(true,0)] pu1 ?_;refine dp 4 0 [24,25,26,27] [(true,0)] pu1 ?_;refine dp 5 1 [24,25,26,27] [(true,0)] (by exact puN) ?_;refine dp 6 7 [24,25,26] [(true,0)] puI ?_;refine dp 7 15 [24,25,26] [(true,0)] (by exact a_ldsE (E := (eNd B)) 0 rfl rfl rfl (fA rfl) rfl rfl (Nat.le_of_ble_eq_true rfl) (Nat.le_of_ble_eq_true rfl) bnd rfl (by repeat (first|exact trivial|exact rfl|refine And.intro ?_ ?_)) rfl) ?_;refine duN 8 255 [] [] (by exact callD0 (n := _) 1 (θ := [0,1,4,7,8,3,6,10]) (hD := (hvis))) (by exact rfl) (by exact rfl) ?_;refine dp 9 511 [] [] (a_pure (sv := .one _) rfl) ?_;refine dp 10 1023 [] [] pu1 ?_;(refine d_nil ?_;refine dN ?_)));any_goals kernel_rfl)
        refine g_conv (t_mkT (i := 12) (q := 2) rfl rfl) ?_
        repeat refine cr ?_
        refine ends_id ?_
        refine endK [?_] (h2 := ?_) (h3 := ?_) (nd := ?_)
        rotate_left 1
        all_goals (repeat' first|exact ce0|refine ce ?_|refine ce2 ?_ ?_|(refine Or.inr (bx_eq rfl rfl ?_);(try dsimp only [C.ren,C.ren.all]);(try exact rfl))|exact SVLe.refl|refine ceb ?_)
        all_goals first | exact (show nodupB _ = true from rfl) | exact Or.inr rfl | (rfl)
    · rw [if_neg hpd] at hbs
      obtain ⟨e1,e2⟩ := bl_fit hbs (by simp)
      rw [e1,e2]
      have hvis := visitL_ok st sy B depth Z [] p x (by omega) hp
      rw [← hg] at hvis
      repeat' first|(apply p3;(exact pu1);exact rfl)|refine cd ?_|(apply g_drN (id := 7) okM [[],[],[1],[],[],[4],[3,4,5],[3,4,5,6],[0,1,2,3,4,5,6,7],[0,1,2,3,4,5,6,7,8],[0,1,2,3,4,5,6,7,8,9]] [([],[]),([],[]),([0],[]),([],[]),([],[]),([],[]),([],[]),([],[]),([1],[0,1,4,7,8,3,6,10]),([],[]),([],[])] 2;(focus (refine dp 0 0 [25,26,27,28,29,30,31] [(true,0)] (by exact puL) ?_;refine dp 1 0 [24,27,28,29,30,31] [] pu1 ?_;refine duN 2 1 [24,27,28,29,30,31] [] (callD1 (n := _) 0 (θ := []) (hD := (clone_ok _ preB104))) (by exact rfl) (by exact rfl) ?_;refine dp 3 0 [24,25,26,28,29] [(true,0)] pu1 ?_;refine dp 4 0 [24,25,26,27] [(true,0)] pu1 ?_;refine dp 5 1 [24,25,26,27] [(true,0)] (by exact puN) ?_;refine dp 6 7 [24,25,26] [(true,0)] puI ?_;refine dp 7 15 [24,25,26] [(true,0)] (by exact a_ldsE (E := (eNd B)) 0 rfl rfl rfl (fA rfl) rfl rfl (Nat.le_of_ble_eq_true rfl) (Nat.le_of_ble_eq_true rfl) bnd rfl (by repeat (first|exact trivial|exact rfl|refine And.intro ?_ ?_)) rfl) ?_;refine duN 8 255 [] [] (by exact callD0 (n := _) 1 (θ := [0,1,4,7,8,3,6,10]) (hD := (hvis))) (by exact rfl) (by exact rfl) ?_;refine dp 9 511 [] [] (a_pure (sv := .one _) rfl) ?_;refine dp 10 1023 [] [] pu1 ?_;(refine d_nil ?_;refine dN ?_)));any_goals kernel_rfl)
      repeat refine cr ?_
      refine ends_id ?_
      refine endK [?_] (h2 := ?_) (h3 := ?_) (nd := ?_)
      rotate_left 1
      all_goals (repeat' first|exact ce0|refine ce ?_|refine ce2 ?_ ?_|(refine Or.inr (bx_eq rfl rfl ?_);(try dsimp only [C.ren,C.ren.all]);(try exact rfl))|exact SVLe.refl|refine ceb ?_)
      all_goals first | exact (show nodupB _ = true from rfl) | exact Or.inr rfl | (rfl)
end Go.Proofs.YtighjcjmacajoaaGreatDoor
end
section
set_option linter.unusedVariables false
set_option linter.unusedSimpArgs false
set_option maxRecDepth 100000
set_option maxHeartbeats 4000000
namespace Go.Proofs.YtighjcjmacajoaaGreatDoor
open Go Foot
@[irreducible] def cntA (B : Int) (x : Mach) (c : List Int) : List Int := c.set (ndS x B).toNat (c.getD (ndS x B).toNat 0 + 1)
@[irreducible] def cntF (st sy B : Int) (T : List (List Int)) : List Int := T.foldl (fun c q => cntA B ((pth B (root sy st) q).getD mach0) c) [0,0,0,0]
theorem cntF_nil (st sy B : Int) : cntF st sy B [] = [0,0,0,0] := by unfold cntF; rfl
theorem cntF_snoc (st sy B : Int) (T : List (List Int)) (q : List Int) : cntF st sy B (T ++ [q]) = cntA B ((pth B (root sy st) q).getD mach0) (cntF st sy B T) := by
  unfold cntF; rw [List.foldl_append]; rfl
theorem cntA_len (B : Int) (x : Mach) (c : List Int) : (cntA B x c).length = c.length := by unfold cntA; simp
theorem cntA_eq {B : Int} {x : Mach} {c : List Int} (h : (ndS x B).toNat < c.length) : c.set (ndS x B).toNat (c[(ndS x B).toNat] + 1) = cntA B x c := by
  unfold cntA; rw [List.getD_eq_getElem?_getD,List.getElem?_eq_getElem h]; rfl
theorem cntF_bd (st sy B : Int) : ∀ (n : Nat) (T : List (List Int)),T.length = n → (cntF st sy B T).length = 4 ∧ ∀ i (h : i < (cntF st sy B T).length),0 ≤ (cntF st sy B T)[i] ∧ (cntF st sy B T)[i] ≤ T.length
  | 0,T,h => by
    have : T = [] := List.length_eq_zero_iff.1 h
    subst this
    rw [cntF_nil]
    refine ⟨rfl,fun i hi => ?_⟩
    have : i = 0 ∨ i = 1 ∨ i = 2 ∨ i = 3 := by simp only [List.length_cons,List.length_nil] at hi; omega
    rcases this with rfl | rfl | rfl | rfl <;> simp
  | n + 1,T,h => by
    have hne : T ≠ [] := fun e => by rw [e] at h; simp at h
    obtain ⟨q,hq⟩ : ∃ q,T = T.dropLast ++ [q] := ⟨T.getLast hne,(List.dropLast_concat_getLast hne).symm⟩
    have hl : T.dropLast.length = n := by rw [List.length_dropLast,h]; rfl
    obtain ⟨a,b⟩ := cntF_bd st sy B n T.dropLast hl
    rw [hl] at b
    rw [hq,cntF_snoc]
    refine ⟨by rw [cntA_len,a],fun i hi => ?_⟩
    have hi' : i < (cntF st sy B T.dropLast).length := by rw [cntA_len] at hi; exact hi
    have hbi := b i hi'
    rw [show ((T.dropLast ++ [q]).length : Int) = n + 1 by rw [List.length_append,hl]; rfl]
    have hg : (cntA B ((pth B (root sy st) q).getD mach0) (cntF st sy B T.dropLast))[i] = if (ndS ((pth B (root sy st) q).getD mach0) B).toNat = i then (cntF st sy B T.dropLast)[i] + 1 else (cntF st sy B T.dropLast)[i] := by
      have hu : cntA B ((pth B (root sy st) q).getD mach0) (cntF st sy B T.dropLast) = (cntF st sy B T.dropLast).set (ndS ((pth B (root sy st) q).getD mach0) B).toNat ((cntF st sy B T.dropLast).getD (ndS ((pth B (root sy st) q).getD mach0) B).toNat 0 + 1) := by unfold cntA; rfl
      simp only [hu]
      rw [List.getElem_set]
      split
      · rename_i e
        rw [e,List.getD_eq_getElem?_getD,List.getElem?_eq_getElem hi']
        rfl
      · rfl
    rw [hg]
    split <;> omega
theorem cnt_step (st sy B : Int) {T : List (List Int)} {i : Int} (h0 : 0 ≤ i) (h : i.toNat < T.length) : cntF st sy B (T.take (i + 1).toNat) = cntA B ((pth B (root sy st) T[i.toNat]).getD mach0) (cntF st sy B (T.take i.toNat)) := by
  rw [← cntF_snoc,show (i + 1).toNat = i.toNat + 1 by omega,List.take_succ_eq_append_getElem h]
@[irreducible] def sctC (st sy B depth : Int) : Int := if askT st sy B = 0 then if 0 ≤ depth ∧ depth ≤ 36 then blC st sy B depth [] else 2 else askT st sy B
@[irreducible] def sctL (st sy B depth : Int) : List Int := if sctC st sy B depth = 0 then cntF st sy B (blL st sy B depth []) else []
theorem sct_ask {st sy B depth : Int} (h : ¬ askT st sy B = 0) : sctC st sy B depth = askT st sy B ∧ sctL st sy B depth = [] := by
  have e : sctC st sy B depth = askT st sy B := by unfold sctC; rw [if_neg h]
  refine ⟨e,?_⟩
  unfold sctL; rw [e,if_neg h]
theorem sct_dep {st sy B depth : Int} (h : askT st sy B = 0) (h2 : ¬ (0 ≤ depth ∧ depth ≤ 36)) : sctC st sy B depth = 2 ∧ sctL st sy B depth = [] := by
  have e : sctC st sy B depth = 2 := by unfold sctC; rw [if_pos h,if_neg h2]
  refine ⟨e,?_⟩
  unfold sctL; rw [e]; rfl
theorem sct_ok {st sy B depth : Int} (h : askT st sy B = 0) (h2 : 0 ≤ depth ∧ depth ≤ 36) : ∃ T,T = tre B depth.toNat [] (root sy st) ∧ ((T.length : Int) ≤ 400 → blC st sy B depth [] = 0 ∧ blL st sy B depth [] = T ∧ sctC st sy B depth = 0 ∧ sctL st sy B depth = cntF st sy B T) ∧ (¬ (T.length : Int) ≤ 400 → blC st sy B depth [] = 5 ∧ blL st sy B depth [] = [] ∧ sctC st sy B depth = 5 ∧ sctL st sy B depth = []) := by
  refine ⟨_,rfl,?_,?_⟩
  all_goals
    intro hf
    have hd := h2
    have hb := bl_some (st := st) (sy := sy) (B := B) (depth := depth) (p := []) (x := root sy st) rfl
    rw [if_pos (by simp; omega)] at hb
    have e0 : (depth - (([] : List Int).length : Int)).toNat = depth.toNat := by simp
    rw [e0] at hb
  · obtain ⟨e1,e2⟩ := bl_fit hb hf
    have e3 : sctC st sy B depth = 0 := by unfold sctC; rw [if_pos h,if_pos h2,e1]
    refine ⟨e1,e2,e3,?_⟩
    unfold sctL; rw [e3,if_pos rfl,e2]
  · obtain ⟨e1,e2⟩ := bl_full hb hf
    have e3 : sctC st sy B depth = 5 := by unfold sctC; rw [if_pos h,if_pos h2,e1]
    refine ⟨e1,e2,e3,?_⟩
    unfold sctL; rw [e3]; rfl
end Go.Proofs.YtighjcjmacajoaaGreatDoor
end
section
set_option linter.unusedVariables false
set_option linter.unusedSimpArgs false
set_option maxRecDepth 100000
set_option maxHeartbeats 4000000
namespace Go.Proofs.YtighjcjmacajoaaGreatDoor
open Go Foot
def ixR (r : Rule') : List Rule' → Nat
  | [] => 0
  | x :: l => if x = r then 0 else ixR r l + 1
theorem ixR_get {r : Rule'} : ∀ {l : List Rule'} (h : ixR r l < l.length),l[ixR r l] = r
  | [],h => by simp [ixR] at h
  | x :: l,h => by
    by_cases hx : x = r
    · simp [ixR,hx]
    · have e : ixR r (x :: l) = ixR r l + 1 := by simp [ixR,hx]
      have h2 : ixR r l < l.length := by rw [e] at h; simpa using h
      simp only [e,List.getElem_cons_succ]
      exact ixR_get h2
theorem ixR_hit {r : Rule'} {l : List Rule'} {i : Int} (h0 : 0 ≤ i) (h : i.toNat < l.length) (hx : l[i.toNat] = r) : ixR r (l.drop i.toNat) = 0 := by
  rw [drop_get h0 h,ixR,if_pos hx]
theorem ixR_miss {r : Rule'} {l : List Rule'} {i : Int} (h0 : 0 ≤ i) (h : i.toNat < l.length) (hx : ¬ l[i.toNat] = r) : ixR r (l.drop (i + 1).toNat) + 1 = ixR r (l.drop i.toNat) := by
  rw [drop_get h0 h,ixR,if_neg hx]
theorem eqMa_iff {a b : Mach} : a = b ↔ a.sy = b.sy ∧ a.st = b.st ∧ a.ru = b.ru := by
  cases a; cases b; simp
@[irreducible] def sameM (a b : Mach) : Bool := decide (a.sy = b.sy ∧ a.st = b.st ∧ a.ru = b.ru)
theorem sameM_iff {a b : Mach} : sameM a b = true ↔ a = b := by unfold sameM; rw [decide_eq_true_eq,eqMa_iff]
theorem preB100 {p : Prop} (h : p := by first | with_reducible assumption | omega | (simp only [List.length_append,List.length_cons,List.length_nil,List.length_set,List.length_replicate,List.length_take,List.length_drop,List.length_tail,List.length_dropLast,List.length_reverse] at *; omega) | exact mem_len (by assumption) (by omega) | (with_reducible refine Int.le_trans (Int.ofNat_le.2 (trimR_len _)) ?_; simp only [List.length_cons,List.length_tail]; omega) | (exact (ruAt_ok (by assumption) (by assumption) (by assumption)).2.1) | (exact (ruAt_ok (by assumption) (by assumption) (by assumption)).2.1) | (have := vMach_bd (by assumption); omega) | (simp only [mC_ch,mC_tu]; omega) | (have := vTag_bd (by assumption); omega) | (have := (‹Gd _ _›).le; omega) | (exact tgHalts_no (by assumption)) | (exact tgHead (by assumption) (by assumption) (by assumption)) | (exact Int.le_trans (tgStep_gd (by assumption) (by assumption) (by assumption) (by assumption)).le (by decide)) | (exact vTag_r (by assumption)) | (with_reducible refine Int.le_trans (Int.ofNat_le.2 (pushL_len _ _)) ?_; simp only [List.length_dropLast]; omega) | exact ls_at (by assumption) (by omega) | exact pt_gd (by assumption) | exact lv_at (by assumption) (by omega) | exact pt_gd (lv_at (by assumption) (by omega)) | exact (ask_ok (by assumption)).1 | exact (ask_ok (by assumption)).2.1 | exact (ask_ok (by assumption)).2.2.1 | exact (ask_ok (by assumption)).2.2.2 | trivial) : p := h
theorem eqR_ok (xs ys : List Rule') (hx : (xs.length : Int) ≤ 16777216) (hy : (ys.length : Int) ≤ 16777216) : Does Tryz.prog 116 [.one (shR xs),.one (shR ys)] [] (.one (boo (decide (xs = ys)))) [] := by
  by_cases hl : xs.length = ys.length
  · refine does_of (k := 0) Tryz.func116 rfl Tryz.ntmps116 rfl rfl fun w F0 S0 ρ0 => ?_
    dsimp only [argT,argH]
    repeat' first|(apply p3;(first|exact pu1|exact puN|exact a_ne rfl rfl);exact rfl)|refine cd ?_|((refine g_cond rfl (fun hc => ?_) (fun hc => ?_)) <;> (try simp only [dcB] at hc) <;> (try first|contradiction|(exfalso;omega)))
    refine g_loop_id ?_
    refine loopK [0,1,4,12] [] (fun i : Int => 0 ≤ i ∧ i ≤ xs.length ∧ xs.take i.toNat = ys.take i.toNat) (fun i => [(13,.one (int i))]) (fun _ => []) (fun i => (xs.length - i).toNat) (0 : Int) [] (hI := ?_) (hr := ?_)
    · exact ⟨by omega,by omega,rfl⟩
    · rintro i ⟨k0,k1,k2⟩
      dsimp only [List.cons_append,List.nil_append] at *
      skip
      repeat' first|(apply p3;(first|exact pu1|exact puC|exact a_add rfl rfl (by omega) (by omega));exact rfl)|refine cd ?_|(apply g_drN (id := 6) okM [[],[],[0,1],[0,1,2],[],[],[4,5],[4,5,6],[0,1,2,3,4,5,6,7]] [([],[]),([],[]),([],[]),([],[]),([],[]),([],[]),([],[]),([],[]),([],[])] 0;(focus (refine dp 0 0 [17,20,21,22,23] [] pu1 ?_;refine dp 1 0 [16,20,21,22,23] [] pu1 ?_;refine dp 2 3 [20,21,22,23] [] puI ?_;refine dp 3 7 [20,21,22,23] [] (by exact puL) ?_;refine dp 4 0 [16,17,18,19,21] [] pu1 ?_;refine dp 5 0 [16,17,18,19,20] [] pu1 ?_;refine dp 6 3 [16,17,18,19] [] puI ?_;refine dp 7 7 [16,17,18,19] [] (by exact puL) ?_;refine dp 8 255 [] [] (by exact a_neRule rfl rfl) ?_;(refine d_nil ?_;refine dN ?_)));any_goals kernel_rfl)|((refine g_cond rfl (fun hc => ?_) (fun hc => ?_)) <;> (try simp only [dcB] at hc) <;> (try first|contradiction|(exfalso;omega)))
      · have hne : ¬ xs = ys := fun e => by subst e; first | exact hc rfl | simp at hc
        rw [decide_eq_false hne]
        repeat refine cr ?_
        refine ends_id ?_
        refine endK [] (h2 := ?_) (h3 := ?_) (nd := ?_)
        all_goals (repeat' first|exact ce0|refine ce ?_|refine ce2 ?_ ?_|exact SVLe.refl|refine ceb ?_)
        all_goals first | exact (show nodupB _ = true from rfl) | exact Or.inr rfl | (rfl)
      · refine q_again (i + 1) [] (by exact stk) ?_ ?_
        · refine ⟨by omega,by omega,?_⟩
          rw [show (i + 1).toNat = i.toNat + 1 by omega,List.take_succ_eq_append_getElem (by omega),List.take_succ_eq_append_getElem (by omega),k2]
          congr 1
          congr 1
          first | done | exact hc | (simpa using hc)
        · omega
      · have e : xs = ys := by
          rw [List.take_of_length_le (by omega),List.take_of_length_le (by omega)] at k2
          exact k2
        rw [decide_eq_true e]
        repeat refine cr ?_
        refine ends_id ?_
        refine endK [] (h2 := ?_) (h3 := ?_) (nd := ?_)
        all_goals (repeat' first|exact ce0|refine ce ?_|refine ce2 ?_ ?_|exact SVLe.refl|refine ceb ?_)
        all_goals first | exact (show nodupB _ = true from rfl) | exact Or.inr rfl | (rfl)
  · have hne : ¬ xs = ys := fun e => hl (by rw [e])
    rw [decide_eq_false hne]
    refine does_of (k := 0) Tryz.func116 rfl Tryz.ntmps116 rfl rfl fun w F0 S0 ρ0 => ?_
    dsimp only [argT,argH]
    repeat' first|(apply p3;(first|exact pu1|exact puN|exact a_ne rfl rfl);exact rfl)|refine cd ?_|((refine g_cond rfl (fun hc => ?_) (fun hc => ?_)) <;> (try simp only [dcB] at hc) <;> (try first|contradiction|(exfalso;omega)))
    repeat refine cr ?_
    refine ends_id ?_
    refine endK [] (h2 := ?_) (h3 := ?_) (nd := ?_)
    all_goals (repeat' first|exact ce0|refine ce ?_|refine ce2 ?_ ?_|exact SVLe.refl|refine ceb ?_)
    all_goals first | exact (show nodupB _ = true from rfl) | exact Or.inr rfl | (rfl)
theorem SameMachine_ok (a b : Mach) (ha : (a.ru.length : Int) ≤ 16777216) (hb : (b.ru.length : Int) ≤ 16777216) : Does Tryz.prog 51 [.agg (maC a),.agg (maC b)] [] (.one (boo (sameM a b))) [] := by
  refine does_of (k := 0) Tryz.func51 rfl Tryz.ntmps51 rfl rfl fun w F0 S0 ρ0 => ?_
  dsimp only [argT,argH]
  repeat' first|(apply n3;exact a_new (gb := .bx _) rfl;exact rfl;refine dA ?_)|(apply p3;(first|exact pu1|exact puC);exact rfl)|refine cd ?_|refine o_no rfl rfl rfl rfl ?_|(apply py3;exact rfl;exact rfl;(first|exact pu1|exact puC);exact rfl;exact rfl)|(apply cy4 0;exact rfl;exact rfl;exact callK1 (θ := []) (hD := (eqR_ok _ _ preB100 preB100));exact rfl;exact rfl;exact rfl;exact rfl;refine dM ?_)|((refine o_gs rfl rfl (fun hc => ?_) (fun hc => ?_)) <;> (try simp only [dcB] at hc) <;> (try first|contradiction|(exfalso;omega)))
  all_goals
    repeat refine cr ?_
    refine ends_id ?_
    refine endK [] (h2 := ?_) (h3 := ?_) (nd := ?_)
    all_goals (repeat' first|exact ce0|refine ce ?_|refine ce2 ?_ ?_|exact SVLe.refl|refine ceb ?_)
    all_goals first | exact (show nodupB _ = true from rfl) | exact Or.inr rfl | ((unfold sameM; simp_all))
theorem Index_ok (xs : List Rule') (r : Rule') (hx : (xs.length : Int) ≤ 16777216) : Does Tryz.prog 52 [.one (shR xs),.agg (ruC r)] [] (.one (int (if ixR r xs < xs.length then (ixR r xs : Int) else -1))) [] := by
  refine does_of (k := 0) Tryz.func52 rfl Tryz.ntmps52 rfl rfl fun w F0 S0 ρ0 => ?_
  dsimp only [argT,argH]
  repeat' first|(apply n3;exact a_new (gb := .bx _) rfl;exact rfl;refine dA ?_)|(apply p3;(first|exact pu1|exact puN);exact rfl)|refine cd ?_
  refine g_loop_id ?_
  refine loopK [0,3,4,7] [] (fun i : Int => 0 ≤ i ∧ i ≤ xs.length ∧ (ixR r (xs.drop i.toNat) : Int) + i = ixR r xs) (fun i => [(8,.one (int i))]) (fun _ => []) (fun i => (xs.length - i).toNat) (0 : Int) [0] (hI := ?_) (hr := ?_)
  · exact ⟨by omega,by omega,by simp⟩
  · rintro i ⟨k0,k1,k2⟩
    dsimp only [List.cons_append,List.nil_append] at *
    skip
    repeat' first|(apply p3;(first|exact pu1|exact puC|exact a_add rfl rfl (by omega) (by omega));exact rfl)|refine cd ?_|(apply g_drN (id := 4) okM [[],[],[],[1,2],[1,2,3],[0,1,2,3,4]] [([],[]),([],[]),([],[]),([],[]),([],[]),([],[])] 0;(focus (refine dp 0 0 [12,13,14,15] [] (by exact puL) ?_;refine dp 1 0 [11,13] [] pu1 ?_;refine dp 2 0 [11,12] [] pu1 ?_;refine dp 3 3 [11] [] puI ?_;refine dp 4 7 [11] [] (by exact puL) ?_;refine dp 5 31 [] [] (by exact a_eqRule rfl rfl) ?_;(refine d_nil ?_;refine dN ?_)));any_goals kernel_rfl)|((refine g_cond rfl (fun hc => ?_) (fun hc => ?_)) <;> (try simp only [dcB] at hc) <;> (try first|contradiction|(exfalso;omega)))
    · have e := ixR_hit k0 (show i.toNat < xs.length by omega) hc.symm
      rw [e] at k2
      have e2 : (ixR r xs : Int) = i := by omega
      rw [if_pos (by omega),e2]
      repeat refine cr ?_
      refine ends_id ?_
      refine endK [] (h2 := ?_) (h3 := ?_) (nd := ?_)
      all_goals (repeat' first|exact ce0|refine ce ?_|refine ce2 ?_ ?_|exact SVLe.refl|refine ceb ?_)
      all_goals first | exact (show nodupB _ = true from rfl) | exact Or.inr rfl | (rfl)
    · have e := ixR_miss k0 (show i.toNat < xs.length by omega) (fun h => hc h.symm)
      refine q_again (i + 1) [0] (by exact stk) ?_ ?_
      · exact ⟨by omega,by omega,by omega⟩
      · omega
    · have e : ixR r (xs.drop i.toNat) = 0 := by rw [List.drop_of_length_le (by omega)]; rfl
      rw [if_neg (by omega)]
      skip
      repeat refine cr ?_
      refine ends_id ?_
      refine endK [] (h2 := ?_) (h3 := ?_) (nd := ?_)
      all_goals (repeat' first|exact ce0|refine ce ?_|refine ce2 ?_ ?_|exact SVLe.refl|refine ceb ?_)
      all_goals first | exact (show nodupB _ = true from rfl) | exact Or.inr rfl | (rfl)
def pmF (B : Int) (m : Mach) : Nat → Mach → Option (List Int)
  | 0,_ => none
  | f + 1,x => if sameM x m = true then some [] else if ndS x B = 0 ∧ ixR (ruI m (ndA x B)) (chR x) < (chR x).length then (pmF B m f (chM x (ndA x B) (ruI m (ndA x B)))).map ((ixR (ruI m (ndA x B)) (chR x) : Int) :: ·) else none
theorem rcL_none : ∀ n : Nat,rcL (List.replicate n noR) = 0
  | 0 => rfl
  | n + 1 => by rw [List.replicate_succ,rcL,if_pos rfl,rcL_none n]
theorem rcL_root (sy st : Int) : rcL (root sy st).ru = 0 := by unfold root; exact rcL_none _
theorem stp_ix {B : Int} {m x : Mach} (hs : ndS x B = 0) (h : ixR (ruI m (ndA x B)) (chR x) < (chR x).length) : stp B x (ixR (ruI m (ndA x B)) (chR x)) = some (chM x (ndA x B) (ruI m (ndA x B))) := by
  rw [stp_yes hs (by omega) (by simpa using h)]
  congr 2
  exact ixR_get h
end Go.Proofs.YtighjcjmacajoaaGreatDoor
end
section
set_option linter.unusedVariables false
set_option linter.unusedSimpArgs false
set_option maxRecDepth 100000
set_option maxHeartbeats 4000000
namespace Go.Proofs.YtighjcjmacajoaaGreatDoor
open Go Foot
theorem pmF_same {B : Int} {m : Mach} {f : Nat} : pmF B m (f + 1) m = some [] := by rw [pmF,if_pos (sameM_iff.2 rfl)]
theorem pmF_shut {B : Int} {m x : Mach} {f : Nat} (hx : ¬ x = m) (h : ¬ (ndS x B = 0 ∧ ixR (ruI m (ndA x B)) (chR x) < (chR x).length)) : pmF B m (f + 1) x = none := by rw [pmF,if_neg (fun e => hx (sameM_iff.1 e)),if_neg h]
theorem pmF_step {B : Int} {m x : Mach} {f : Nat} (hx : ¬ x = m) (hs : ndS x B = 0) (h : ixR (ruI m (ndA x B)) (chR x) < (chR x).length) : pmF B m (f + 1) x = (pmF B m f (chM x (ndA x B) (ruI m (ndA x B)))).map ((ixR (ruI m (ndA x B)) (chR x) : Int) :: ·) := by rw [pmF,if_neg (fun e => hx (sameM_iff.1 e)),if_pos ⟨hs,h⟩]
theorem pm_fuel {m x : Mach} {sy st : Int} (hx : NdOk sy st x) (hm : NdOk sy st m) : ∃ f,m.ru.length + 1 - rcL x.ru = f + 1 ∧ rcL x.ru + f = m.ru.length ∧ x.ru.length = m.ru.length := by
  have h1 := (vMach_bd hx.v).2.2
  have h2 := (vMach_bd hm.v).2.2
  rw [hx.sy,hx.st] at h1
  rw [hm.sy,hm.st] at h2
  have h3 := rcL_le x.ru
  exact ⟨m.ru.length - rcL x.ru,by omega,by omega,by omega⟩
@[irreducible] def pmL (m : Mach) (B : Int) : Option (List Int) := if vMach m = true ∧ askT m.st m.sy B = 0 then pmF B m (m.ru.length + 1) (root m.sy m.st) else none
@[irreducible] def pmC (m : Mach) (B : Int) : Int := if vMach m = true then if askT m.st m.sy B = 0 then if (pmL m B).isSome = true then 0 else 3 else 2 else 1
theorem pm_inv {m : Mach} {B : Int} (h : ¬ vMach m = true) : pmL m B = none ∧ pmC m B = 1 := by
  unfold pmC pmL; rw [if_neg (fun q => h q.1),if_neg h]; exact ⟨rfl,rfl⟩
theorem pm_rng {m : Mach} {B : Int} (h : vMach m = true) (h2 : ¬ askT m.st m.sy B = 0) : pmL m B = none ∧ pmC m B = 2 := by
  unfold pmC pmL; rw [if_neg (fun q => h2 q.2),if_pos h,if_neg h2]; exact ⟨rfl,rfl⟩
theorem pm_ok {m : Mach} {B : Int} (h : vMach m = true) (h2 : askT m.st m.sy B = 0) : pmL m B = pmF B m (m.ru.length + 1) (root m.sy m.st) ∧ pmC m B = if (pmF B m (m.ru.length + 1) (root m.sy m.st)).isSome = true then 0 else 3 := by
  have e : pmL m B = pmF B m (m.ru.length + 1) (root m.sy m.st) := by unfold pmL; rw [if_pos ⟨h,h2⟩]
  refine ⟨e,?_⟩
  unfold pmC; rw [if_pos h,if_pos h2,e]
end Go.Proofs.YtighjcjmacajoaaGreatDoor
end
section
set_option linter.unusedVariables false
set_option linter.unusedSimpArgs false
set_option maxRecDepth 100000
set_option maxHeartbeats 4000000
namespace Go.Proofs.YtighjcjmacajoaaGreatDoor
open Go Foot
theorem preB105 {p : Prop} (h : p := by first | with_reducible assumption | omega | (simp only [List.length_append,List.length_cons,List.length_nil,List.length_set,List.length_replicate,List.length_take,List.length_drop,List.length_tail,List.length_dropLast,List.length_reverse] at *; omega) | exact mem_len (by assumption) (by omega) | (with_reducible refine Int.le_trans (Int.ofNat_le.2 (trimR_len _)) ?_; simp only [List.length_cons,List.length_tail]; omega) | (exact (ruAt_ok (by assumption) (by assumption) (by assumption)).2.1) | (exact (ruAt_ok (by assumption) (by assumption) (by assumption)).2.1) | (have := vMach_bd (by assumption); omega) | (simp only [mC_ch,mC_tu]; omega) | (have := vTag_bd (by assumption); omega) | (have := (‹Gd _ _›).le; omega) | (exact tgHalts_no (by assumption)) | (exact tgHead (by assumption) (by assumption) (by assumption)) | (exact Int.le_trans (tgStep_gd (by assumption) (by assumption) (by assumption) (by assumption)).le (by decide)) | (exact vTag_r (by assumption)) | (with_reducible refine Int.le_trans (Int.ofNat_le.2 (pushL_len _ _)) ?_; simp only [List.length_dropLast]; omega) | exact ls_at (by assumption) (by omega) | exact pt_gd (by assumption) | exact lv_at (by assumption) (by omega) | exact pt_gd (lv_at (by assumption) (by omega)) | exact (ask_ok (by assumption)).1 | exact (ask_ok (by assumption)).2.1 | exact (ask_ok (by assumption)).2.2.1 | exact (ask_ok (by assumption)).2.2.2 | trivial) : p := h
theorem iPathOfMachine_ok (m : Mach) (B : Int) (hl : (m.ru.length : Int) ≤ 16777216) : Does Tryz.prog 11 [.agg (maC m),.one (int B)] [] (.tup [(false,[.gv 0]),(false,[int (pmC m B)])]) [roI ((pmL m B).getD [])] := by
  by_cases h : vMach m = true
  · have hv' : ¬ vMach m = false := by simp [h]
    have hb := vMach_bd h
    by_cases h2 : askT m.st m.sy B = 0
    · obtain ⟨q1,q2,q3,q4⟩ := ask_bd h2
      have hr : NdOk m.sy m.st (root m.sy m.st) := root_ok q2.1 q2.2 q1.1 (by omega)
      have hM : NdOk m.sy m.st m := ⟨h,rfl,rfl⟩
      have hlm := vMach_len h
      obtain ⟨e1,e2⟩ := pm_ok h h2
      rw [e1,e2]
      refine does_of (k := 0) Tryz.func11 rfl Tryz.ntmps11 rfl rfl fun w F0 S0 ρ0 => ?_
      dsimp only [argT,argH]
      repeat' first|(apply n3;exact a_nilO eI rfl;exact rfl)|(apply n3;(first|exact a_new (gb := .bx _) rfl|exact a_litE eI [] rfl rfl rfl rfl rfl rfl rfl rfl);exact rfl;refine dA ?_)|(apply p3;(first|exact pu1|exact puC);exact rfl)|refine cd ?_|(apply w3;(exact a_st_bx rfl rfl rfl rfl (fN rfl rfl) (Nat.le_of_ble_eq_true rfl) rfl);exact rfl;refine dS ?_)|(apply c4 0;exact callK1 (θ := []) (hD := (ValidMachine_ok _ preB105));exact rfl;exact rfl;exact rfl;refine dM ?_)|(apply c4 2;exact callK0 (θ := []) (hD := (forestOf_ok _ _ _));exact rfl;exact rfl;exact rfl;refine dM ?_)|(apply c4 0;exact callF (hD := (emptyRoot_ok _ _ preB105 preB105 preB105 preB105));exact rfl;exact rfl;exact rfl;refine dM ?_)|(apply c4 0;exact callK0 (θ := [2,3]) (hD := (look_ok m.st m.sy B (root m.sy m.st) hr preB105 preB105));exact rfl;exact rfl;exact rfl;refine dM ?_)|(apply py3;exact rfl;exact rfl;(exact pu1);exact rfl;exact rfl)|(apply cy4 0;exact rfl;exact rfl;exact callK1 (θ := []) (hD := (budgetOk_ok _));exact rfl;exact rfl;exact rfl;exact rfl;refine dM ?_)|((first|refine o_gs rfl rfl (fun hc => ?_) (fun hc => ?_)|refine g_cond rfl (fun hc => ?_) (fun hc => ?_)) <;> (try simp only [dcB] at hc) <;> (try first|contradiction|(exfalso;omega)))
      refine g_loop_id ?_
      refine loopK [2,4,5,6,7,8] [4,5] (fun y : Mach × List Int => NdOk m.sy m.st y.1 ∧ y.2.length = rcL y.1.ru ∧ (pmF B m (m.ru.length + 1 - rcL y.1.ru) y.1).map (y.2 ++ ·) = pmF B m (m.ru.length + 1) (root m.sy m.st)) (fun _ => []) (fun y => [(5,.bx (ndC y.1 B)),(4,roI y.2)]) (fun y => m.ru.length + 1 - rcL y.1.ru) (root m.sy m.st,([] : List Int)) [0,1,2,3,4,5] (hI := ?_) (hr := ?_)
      · exact ⟨hr,by simp [rcL_root],by simp [rcL_root]⟩
      · rintro ⟨x,path⟩ ⟨i1,i2,i3⟩
        dsimp only [List.cons_append,List.nil_append] at *
        skip
        have hx := i1.v; have hlx := vMach_len hx
        repeat' first|(apply p3;(exact pu1);exact rfl)|refine cdn ?_|refine g_reg (id := 7) ?_|(apply c4 0;exact callK1 (θ := []) (hD := (SameMachine_ok _ _ preB105 preB105));exact rfl;exact rfl;exact rfl;refine dM ?_)|((refine g_cond rfl (fun hc => ?_) (fun hc => ?_)) <;> (try simp only [dcB] at hc) <;> (try first|contradiction|(exfalso;omega)))
        · have hax := ndA_bd (B := B) hx
          have hlr := chR_len hx
          obtain ⟨f,f1,f2,f3⟩ := pm_fuel i1 hM
          try dsimp only at i2 i3
          rw [f1] at i3
          have hrx := rcL_le x.ru
          have hxm : ¬ x = m := fun e => absurd (sameM_iff.2 e) (by simp [hc])
          have e4 : m.ru[(ndA x B).toNat]'(by omega) = ruI m (ndA x B) := ruI_get (by omega)
          have hll : ((if ndS x B = 0 then chR x else []).length : Int) ≤ 16777216 := by split <;> first | omega | simp
          repeat' first|refine cdn ?_|(apply g_drN (id := 8) okM [[],[0],[],[2],[],[4],[2,3,4,5],[2,3,4,5,6],[0,1,2,3,4,5,6,7],[0,1,2,3,4,5,6,7,8]] [([],[]),([0],[]),([],[]),([],[]),([],[]),([],[]),([],[]),([],[]),([],[]),([],[])] 1;(focus (refine dp 0 0 [42,43,44,45,46,47] [] (by exact puL) ?_;refine duN 1 1 [42,43,44,45,46,47] [] (callD1 (n := _) 0 (θ := []) (hD := (childrenA_ok _ _ preB105))) (by exact rfl) (by exact rfl) ?_;refine dp 2 0 [40,41,44,45] [(true,0)] (a_pure (sv := .one _) rfl) ?_;refine dp 3 1 [40,41,44,45] [(true,0)] (by exact puL) ?_;refine dp 4 0 [40,41,42,43] [(true,0)] (a_pure (sv := .one _) rfl) ?_;refine dp 5 1 [40,41,42,43] [(true,0)] (by exact puL) ?_;refine dp 6 15 [40,41] [(true,0)] puI ?_;refine dp 7 31 [40,41] [(true,0)] (by exact puL) ?_;refine dp 8 255 [] [] (callD1 (n := _) 1 (θ := []) (hD := (Index_ok _ _ preB105))) ?_;refine dp 9 511 [] [] pu1 ?_;(refine d_nil ?_;refine dN ?_)));any_goals kernel_rfl)
          simp only [e4]
          by_cases hs0 : ndS x B = 0 ∧ ixR (ruI m (ndA x B)) (chR x) < (chR x).length
          · obtain ⟨hs,hlt⟩ := hs0
            have hlt' : ((ixR (ruI m (ndA x B)) (chR x) : Nat) : Int) < (chR x).length := by omega
            simp only [if_pos hs,if_pos hlt,if_pos hlt']
            have hst := stp_ix hs hlt
            have h2x := stp_ok i1 hst
            rw [pmF_step hxm hs hlt] at i3
            have hf : m.ru.length + 1 - rcL (chM x (ndA x B) (ruI m (ndA x B))).ru = f := by rw [h2x.2]; omega
            have h2y : NdOk m.sy m.st (chM x (ndA x B) (m.ru[(ndA x B).toNat]'(by omega))) := by rw [e4]; exact h2x.1
            generalize ixR (ruI m (ndA x B)) (chR x) = k at *
            repeat' first|(apply n3;(exact a_litE eI [_] rfl rfl rfl rfl rfl rfl rfl rfl);exact rfl;refine dA ?_)|(apply p3;(first|exact pu1|exact puC);exact rfl)|refine cd ?_|(apply s3;exact a_appE (fP rfl) rfl rfl rfl rfl nowR (by (simp;omega)) (by decide) (by decide) (by exact rfl);exact rfl;exact rfl)|(apply g_drN (id := 12) okM [[],[],[1],[],[3],[],[5],[],[7],[5,6,7,8],[5,6,7,8,9],[1,2,3,4,5,6,7,8,9,10],[0,1,2,3,4,5,6,7,8,9,10,11],[0,1,2,3,4,5,6,7,8,9,10,11,12]] [([],[]),([],[]),([],[]),([],[]),([],[]),([],[]),([],[]),([],[]),([],[]),([],[]),([],[]),([],[]),([],[2,3]),([],[5])] 0;(focus (refine dp 0 0 [56,57,58,59,60,61,62,63,64,65,66] [] pu1 ?_;refine dp 1 0 [55,58,59,60,61,62,63,64,65] [] (a_pure (sv := .one _) rfl) ?_;refine dp 2 1 [55,58,59,60,61,62,63,64,65] [] (by exact puL) ?_;refine dp 3 0 [55,56,57,60,61,62,63,64,65] [] (a_pure (sv := .one _) rfl) ?_;refine dp 4 1 [55,56,57,60,61,62,63,64,65] [] (by exact puL) ?_;refine dp 5 0 [55,56,57,58,59,62,63] [] (a_pure (sv := .one _) rfl) ?_;refine dp 6 1 [55,56,57,58,59,62,63] [] (by exact puL) ?_;refine dp 7 0 [55,56,57,58,59,60,61] [] (a_pure (sv := .one _) rfl) ?_;refine dp 8 1 [55,56,57,58,59,60,61] [] (by exact puL) ?_;refine dp 9 15 [55,56,57,58,59] [] puI ?_;refine dp 10 31 [55,56,57,58,59] [] (by exact puL) ?_;refine dp 11 1023 [55] [] (callFD 0 (hD := (childM_ok _ _ _ preB105 preB105 preB105))) ?_;refine duN 12 4095 [] [] (by exact callD0 (n := _) 0 (θ := [2,3]) (hD := (look_ok m.st m.sy B _ h2y preB105 preB105))) (by exact rfl) (by exact rfl) ?_;refine duE 13 8191 [] [] (by exact a_st_bx rfl rfl rfl rfl (fN rfl rfl) (Nat.le_of_ble_eq_true rfl) rfl) (by exact rfl) (by exact rfl) ?_;(refine d_nil ?_;refine dN ?_)));any_goals kernel_rfl)
            simp only [e4]
            refine q_again (chM x (ndA x B) (ruI m (ndA x B)),path ++ [(k : Int)]) [0,1,2,3,8,5] (by exact stk) ?_ ?_
            · refine ⟨h2x.1,?_,?_⟩
              · dsimp only
                rw [h2x.2,List.length_append,i2]
                rfl
              · dsimp only
                rw [hf,← i3,Option.map_map]
                congr 1
                funext z
                simp
            · dsimp only
              rw [hf,f1]
              omega
          · have hz : (if ixR (ruI m (ndA x B)) (if ndS x B = 0 then chR x else []) < (if ndS x B = 0 then chR x else []).length then ((ixR (ruI m (ndA x B)) (if ndS x B = 0 then chR x else []) : Nat) : Int) else -1) = -1 := by
              by_cases hs : ndS x B = 0
              · simp only [if_pos hs]
                rw [if_neg (fun q => hs0 ⟨hs,q⟩)]
              · simp only [if_neg hs]
                simp [ixR]
            rw [pmF_shut hxm hs0] at i3
            rw [← i3]
            simp only [hz,Option.map_none,Option.isSome_none,Option.getD_none]
            repeat' first|(apply n3;exact a_nilO eI rfl;exact rfl)|(apply p3;(first|exact pu1|exact puC);exact rfl)|refine cd ?_
            repeat refine cr ?_
            refine ends_id ?_
            refine endK [?_] (h2 := ?_) (h3 := ?_) (nd := ?_)
            rotate_left 1
            all_goals (repeat' first|exact ce0|refine ce ?_|refine ce2 ?_ ?_|(refine Or.inr (bx_eq rfl rfl ?_);(try dsimp only [C.ren,C.ren.all]);(try exact rfl))|exact SVLe.refl|refine ceb ?_)
            all_goals first | exact (show nodupB _ = true from rfl) | exact Or.inr rfl | (rfl)
        · obtain rfl := sameM_iff.1 hc
          obtain ⟨f,f1,f2,f3⟩ := pm_fuel i1 hM
          try dsimp only at i2 i3
          rw [f1,pmF_same] at i3
          rw [← i3]
          simp only [Option.map_some,Option.isSome_some,Option.getD_some,List.append_nil]
          repeat' first|(apply p3;(exact pu1);exact rfl)|refine cd ?_
          repeat refine cr ?_
          refine ends_id ?_
          refine endK [?_] (h2 := ?_) (h3 := ?_) (nd := ?_)
          rotate_left 1
          all_goals (repeat' first|exact ce0|refine ce ?_|refine ce2 ?_ ?_|(refine Or.inr (bx_eq rfl rfl ?_);(try dsimp only [C.ren,C.ren.all]);(try exact rfl))|exact SVLe.refl|refine ceb ?_)
          all_goals first | exact (show nodupB _ = true from rfl) | exact Or.inr rfl | (rfl)
    · obtain ⟨e1,e2⟩ := pm_rng h h2
      rw [e1,e2]
      have e3 : ¬ (m.st ≤ 6 ∧ 1 ≤ B ∧ B ≤ 20000) := fun q => h2 (by unfold askT; rw [if_pos]; simp [inB]; omega)
      refine does_of (k := 0) Tryz.func11 rfl Tryz.ntmps11 rfl rfl fun w F0 S0 ρ0 => ?_
      dsimp only [argT,argH]
      repeat' first|(apply n3;exact a_nilO eI rfl;exact rfl)|(apply n3;(exact a_new (gb := .bx _) rfl);exact rfl;refine dA ?_)|(apply p3;(first|exact pu1|exact puC);exact rfl)|refine cd ?_|(apply c4 0;exact callK1 (θ := []) (hD := (ValidMachine_ok _ preB105));exact rfl;exact rfl;exact rfl;refine dM ?_)|refine o_no rfl rfl rfl rfl ?_|(apply py3;exact rfl;exact rfl;(exact pu1);exact rfl;exact rfl)|(apply cy4 0;exact rfl;exact rfl;exact callK1 (θ := []) (hD := (budgetOk_ok _));exact rfl;exact rfl;exact rfl;exact rfl;refine dM ?_)|((first|refine o_gs rfl rfl (fun hc => ?_) (fun hc => ?_)|refine g_cond rfl (fun hc => ?_) (fun hc => ?_)) <;> (try simp only [dcB] at hc) <;> (try first|contradiction|(exfalso;omega)))
      all_goals
        repeat refine cr ?_
        refine ends_id ?_
        refine endK [?_] (h2 := ?_) (h3 := ?_) (nd := ?_)
        rotate_left 1
        all_goals (repeat' first|exact ce0|refine ce ?_|refine ce2 ?_ ?_|(refine Or.inr (bx_eq rfl rfl ?_);(try dsimp only [C.ren,C.ren.all]);(try exact rfl))|exact SVLe.refl|refine ceb ?_)
        all_goals first | exact (show nodupB _ = true from rfl) | exact Or.inr rfl | ((first | rfl | (exfalso; omega)))
  · obtain ⟨e1,e2⟩ := pm_inv (B := B) h
    rw [e1,e2]
    refine does_of (k := 0) Tryz.func11 rfl Tryz.ntmps11 rfl rfl fun w F0 S0 ρ0 => ?_
    dsimp only [argT,argH]
    repeat' first|(apply n3;exact a_nilO eI rfl;exact rfl)|(apply n3;(exact a_new (gb := .bx _) rfl);exact rfl;refine dA ?_)|(apply p3;(exact pu1);exact rfl)|refine cd ?_|(apply c4 0;exact callK1 (θ := []) (hD := (ValidMachine_ok _ preB105));exact rfl;exact rfl;exact rfl;refine dM ?_)|((refine g_cond rfl (fun hc => ?_) (fun hc => ?_)) <;> (try simp only [dcB] at hc) <;> (try first|contradiction|(exfalso;omega)))
    repeat refine cr ?_
    refine ends_id ?_
    refine endK [?_] (h2 := ?_) (h3 := ?_) (nd := ?_)
    rotate_left 1
    all_goals (repeat' first|exact ce0|refine ce ?_|refine ce2 ?_ ?_|(refine Or.inr (bx_eq rfl rfl ?_);(try dsimp only [C.ren,C.ren.all]);(try exact rfl))|exact SVLe.refl|refine ceb ?_)
    all_goals first | exact (show nodupB _ = true from rfl) | exact Or.inr rfl | (rfl)
@[irreducible] def tnB (m : Mach) (B : Int) : Bool := decide (pmC m B = 0)
theorem iIsTnf_ok (m : Mach) (B : Int) (hl : (m.ru.length : Int) ≤ 16777216) : Does Tryz.prog 15 [.agg (maC m),.one (int B)] [] (.one (boo (tnB m B))) [] := by
  refine does_of (k := 0) Tryz.func15 rfl Tryz.ntmps15 rfl rfl fun w F0 S0 ρ0 => ?_
  dsimp only [argT,argH]
  repeat' first|(apply n3;exact a_new (gb := .bx _) rfl;exact rfl;refine dA ?_)|(apply p3;(first|exact pu1|exact puC);exact rfl)|refine cd ?_|(apply c4 1;exact callK1 (θ := []) (hD := (iPathOfMachine_ok _ _ preB105));exact rfl;exact rfl;exact rfl;refine dM ?_)
  repeat refine cr ?_
  refine ends_id ?_
  refine endK [] (h2 := ?_) (h3 := ?_) (nd := ?_)
  all_goals (repeat' first|exact ce0|refine ce ?_|refine ce2 ?_ ?_|exact SVLe.refl|refine ceb ?_)
  all_goals first | exact (show nodupB _ = true from rfl) | exact Or.inr rfl | ((unfold tnB; rfl))
end Go.Proofs.YtighjcjmacajoaaGreatDoor
end
section
set_option linter.unusedVariables false
set_option linter.unusedSimpArgs false
set_option maxRecDepth 100000
set_option maxHeartbeats 4000000
namespace Go.Proofs.YtighjcjmacajoaaGreatDoor
open Go Foot
theorem preB107 {p : Prop} (h : p := by first | with_reducible assumption | omega | (simp only [List.length_append,List.length_cons,List.length_nil,List.length_set,List.length_replicate,List.length_take,List.length_drop,List.length_tail,List.length_dropLast,List.length_reverse] at *; omega) | exact mem_len (by assumption) (by omega) | (with_reducible refine Int.le_trans (Int.ofNat_le.2 (trimR_len _)) ?_; simp only [List.length_cons,List.length_tail]; omega) | (exact (ruAt_ok (by assumption) (by assumption) (by assumption)).2.1) | (exact (ruAt_ok (by assumption) (by assumption) (by assumption)).2.1) | (have := vMach_bd (by assumption); omega) | (simp only [mC_ch,mC_tu]; omega) | (have := vTag_bd (by assumption); omega) | (have := (‹Gd _ _›).le; omega) | (exact tgHalts_no (by assumption)) | (exact tgHead (by assumption) (by assumption) (by assumption)) | (exact Int.le_trans (tgStep_gd (by assumption) (by assumption) (by assumption) (by assumption)).le (by decide)) | (exact vTag_r (by assumption)) | (with_reducible refine Int.le_trans (Int.ofNat_le.2 (pushL_len _ _)) ?_; simp only [List.length_dropLast]; omega) | exact ls_at (by assumption) (by omega) | exact pt_gd (by assumption) | exact lv_at (by assumption) (by omega) | exact pt_gd (lv_at (by assumption) (by omega)) | exact (ask_ok (by assumption)).1 | exact (ask_ok (by assumption)).2.1 | exact (ask_ok (by assumption)).2.2.1 | exact (ask_ok (by assumption)).2.2.2 | trivial) : p := h
theorem depthCode_ok (s y B d : Int) : Does Tryz.prog 59 [.one (int s),.one (int y),.one (int B),.one (int d)] [] (.one (int (if askT s y B = 0 then if 0 ≤ d ∧ d ≤ 36 then 0 else 2 else askT s y B))) [] := by
  by_cases h : askT s y B = 0
  · by_cases h2 : 0 ≤ d ∧ d ≤ 36
    · rw [if_pos h,if_pos h2]
      refine does_of (k := 0) Tryz.func59 rfl Tryz.ntmps59 rfl rfl fun w F0 S0 ρ0 => ?_
      dsimp only [argT,argH]
      repeat' first|(apply p3;(first|exact pu1|exact a_ne rfl rfl);exact rfl)|refine cd ?_|(apply c4 0;exact callK1 (θ := []) (hD := (sizesCode_ok _ _ _));exact rfl;exact rfl;exact rfl;refine dM ?_)|(apply c4 0;exact callK1 (θ := []) (hD := (within_ok _ _ _));exact rfl;exact rfl;exact rfl;refine dM ?_)|((refine g_cond rfl (fun hc => ?_) (fun hc => ?_)) <;> (try simp only [dcB] at hc) <;> (try first|contradiction|(exfalso;omega)))
      repeat refine cr ?_
      refine ends_id ?_
      refine endK [] (h2 := ?_) (h3 := ?_) (nd := ?_)
      all_goals (repeat' first|exact ce0|refine ce ?_|refine ce2 ?_ ?_|exact SVLe.refl|refine ceb ?_)
      all_goals first | exact (show nodupB _ = true from rfl) | exact Or.inr rfl | (rfl)
    · rw [if_pos h,if_neg h2]
      refine does_of (k := 0) Tryz.func59 rfl Tryz.ntmps59 rfl rfl fun w F0 S0 ρ0 => ?_
      dsimp only [argT,argH]
      repeat' first|(apply p3;(first|exact pu1|exact a_ne rfl rfl);exact rfl)|refine cd ?_|(apply c4 0;exact callK1 (θ := []) (hD := (sizesCode_ok _ _ _));exact rfl;exact rfl;exact rfl;refine dM ?_)|(apply c4 0;exact callK1 (θ := []) (hD := (within_ok _ _ _));exact rfl;exact rfl;exact rfl;refine dM ?_)|((refine g_cond rfl (fun hc => ?_) (fun hc => ?_)) <;> (try simp only [dcB] at hc) <;> (try first|contradiction|(exfalso;omega)))
      repeat refine cr ?_
      refine ends_id ?_
      refine endK [] (h2 := ?_) (h3 := ?_) (nd := ?_)
      all_goals (repeat' first|exact ce0|refine ce ?_|refine ce2 ?_ ?_|exact SVLe.refl|refine ceb ?_)
      all_goals first | exact (show nodupB _ = true from rfl) | exact Or.inr rfl | (rfl)
  · rw [if_neg h]
    refine does_of (k := 0) Tryz.func59 rfl Tryz.ntmps59 rfl rfl fun w F0 S0 ρ0 => ?_
    dsimp only [argT,argH]
    repeat' first|(apply p3;(first|exact pu1|exact a_ne rfl rfl);exact rfl)|refine cd ?_|(apply c4 0;exact callK1 (θ := []) (hD := (sizesCode_ok _ _ _));exact rfl;exact rfl;exact rfl;refine dM ?_)|((refine g_cond rfl (fun hc => ?_) (fun hc => ?_)) <;> (try simp only [dcB] at hc) <;> (try first|contradiction|(exfalso;omega)))
    repeat refine cr ?_
    refine ends_id ?_
    refine endK [] (h2 := ?_) (h3 := ?_) (nd := ?_)
    all_goals (repeat' first|exact ce0|refine ce ?_|refine ce2 ?_ ?_|exact SVLe.refl|refine ceb ?_)
    all_goals first | exact (show nodupB _ = true from rfl) | exact Or.inr rfl | (rfl)
theorem iStatusCounts_ok (st sy depth B : Int) : Does Tryz.prog 18 [.one (int st),.one (int sy),.one (int depth),.one (int B)] [] (.tup [(false,[.gv 0]),(false,[int (sctC st sy B depth)])]) [roI (sctL st sy B depth)] := by
  by_cases h : askT st sy B = 0
  · obtain ⟨q1,q2,q3,q4⟩ := ask_bd h
    by_cases hd : 0 ≤ depth ∧ depth ≤ 36
    · obtain ⟨T,hT,hok,hno⟩ := sct_ok (st := st) (sy := sy) (B := B) h hd
      have hp0 : (([] : List Int).length : Int) ≤ 1048576 := by simp
      have hv : pth B (root sy st) [] = some (root sy st) := rfl
      have hask : (if askT st sy B = 0 then if 0 ≤ depth ∧ depth ≤ 36 then (0 : Int) else 2 else askT st sy B) = 0 := by rw [if_pos h,if_pos hd]
      by_cases hf : (T.length : Int) ≤ 400
      · obtain ⟨e1,e2,e3,e4⟩ := hok hf
        rw [e3,e4]
        refine does_of (k := 0) Tryz.func18 rfl Tryz.ntmps18 rfl rfl fun w F0 S0 ρ0 => ?_
        dsimp only [argT,argH]
        repeat' first|(apply n3;exact a_nilO eI rfl;exact rfl)|(apply p3;(first|exact pu1|exact a_ne rfl rfl);exact rfl)|refine cdn ?_|refine g_reg (id := 0) ?_|refine g_reg (id := 1) ?_|refine g_reg (id := 2) ?_|(apply c4 0;exact callK1 (θ := []) (hD := (depthCode_ok _ _ _ _));exact rfl;exact rfl;exact rfl;refine dM ?_)|((refine g_cond rfl (fun hc => ?_) (fun hc => ?_)) <;> (try simp only [dcB] at hc) <;> (try first|contradiction|(exfalso;omega)))
        refine g_conv t_zw ?_
        repeat' first|(apply p3;(exact pu1);exact rfl)|refine cdn ?_|refine g_reg (id := 4) ?_|refine g_reg (id := 5) ?_|(apply c4 2;exact callK0 (θ := []) (hD := (forestOf_ok _ _ _));exact rfl;exact rfl;exact rfl;refine dM ?_)|(apply c4 1;exact callK0 (θ := [2,3,1]) (hD := (below_ok st sy B depth [] _ hp0 preB107 preB107 preB107 preB107 preB107 preB107 preB107 preB107));exact rfl;exact rfl;exact rfl;refine dM ?_)
        rw [e1,e2]
        repeat' first|(apply p3;(first|exact pu1|exact a_ne rfl rfl);exact rfl)|refine cdn ?_|refine g_reg (id := 6) ?_
        refine g_turn (t_shT (i := 4) rfl) ?_
        first | refine g_conv (t_leS 12 (.one (.d (.sl false 1 (rows eW T)))) (by (repeat (first | exact SVLe.refl | refine SVLe.one ?_ | refine SVLe.agg ?_ | exact CsLe.nil | refine CsLe.cons ?_ ?_ | exact CLe.refl | exact CLe.sh rfl | exact CLe.nil (by decide))); first | done | fail)) ?_ | refine o_conv (t_leS 12 (.one (.d (.sl false 1 (rows eW T)))) (by (repeat (first | exact SVLe.refl | refine SVLe.one ?_ | refine SVLe.agg ?_ | exact CsLe.nil | refine CsLe.cons ?_ ?_ | exact CLe.refl | exact CLe.sh rfl | exact CLe.nil (by decide))); first | done | fail)) ?_
        have hr0 : List.replicate (Int.toNat 4) (0 : Int) = cntF st sy B (T.take (0 : Int).toNat) := by rw [show (0 : Int).toNat = 0 from rfl,List.take_zero,cntF_nil]; rfl
        repeat' first|(apply n3;exact a_make (fE rfl) (fZ rfl) (fP rfl) (by decide) rfl rfl (by omega) rfl (by omega) (by omega) (rows_rep eI 0 _);exact rfl;refine dA ?_)|(apply p3;(first|exact pu1|exact puN);exact rfl)|refine cd ?_
        rw [hr0]
        refine g_loop_id ?_
        refine loopK [8,9,11,14,41,42] [5] (fun i : Int => 0 ≤ i ∧ i ≤ T.length) (fun i => [(43,.one (int i))]) (fun i => [(5,roI (cntF st sy B (T.take i.toNat)))]) (fun i => (T.length - i).toNat) (0 : Int) [0,1,2,3,4,5] (hI := ?_) (hr := ?_)
        · exact ⟨by omega,by omega⟩
        · rintro i ⟨k0,k1⟩
          dsimp only [List.cons_append,List.nil_append] at *
          skip
          repeat' first|(apply p3;(first|exact pu1|exact puC|exact puI);exact rfl)|refine cdn ?_|refine g_reg (id := 10) ?_|refine g_reg (id := 11) ?_|((refine g_cond rfl (fun hc => ?_) (fun hc => ?_)) <;> (try simp only [dcB] at hc) <;> (try first|contradiction|(exfalso;omega)))
          · have hi : i.toNat < T.length := by omega
            obtain ⟨y,hy⟩ := tre_pth (root_ok q2.1 q2.2 q1.1 (by omega)) depth.toNat [] (root sy st) hv (T[i.toNat]'hi) (by rw [← hT]; exact List.getElem_mem _)
            have hql := tre_len B depth.toNat [] (root sy st) (T[i.toNat]'hi) (by rw [← hT]; exact List.getElem_mem _)
            have hql2 : ((T[i.toNat]'hi).length : Int) ≤ 1048576 := by simp at hql; omega
            have hst := cnt_step st sy B k0 hi
            rw [hy,Option.getD_some] at hst
            obtain ⟨L,hL,hLl,hLg⟩ := pthL_some hy
            have hg : L[(((T[i.toNat]'hi).length : Nat) : Int).toNat]'(by omega) = y := by
              have := hLg (((T[i.toNat]'hi).length : Nat) : Int).toNat (by omega)
              rw [List.take_of_length_le (by simp),hy] at this
              exact (Option.some.inj this).symm
            subst hg
            obtain ⟨cl,cb⟩ := cntF_bd st sy B _ (T.take i.toNat) rfl
            have hsb := ndS_bd (L[(((T[i.toNat]'hi).length : Nat) : Int).toNat]'(by omega)) B
            have hcb := cb (ndS (L[(((T[i.toNat]'hi).length : Nat) : Int).toNat]'(by omega)) B).toNat (by omega)
            have htl : ((T.take i.toNat).length : Int) ≤ 400 := by rw [List.length_take]; omega
            have heq := cntA_eq (B := B) (x := (L[(((T[i.toNat]'hi).length : Nat) : Int).toNat]'(by omega))) (c := cntF st sy B (T.take i.toNat)) (by omega)
            repeat' first|(apply p3;(exact pu1);exact rfl)|refine cdn ?_|refine g_reg (id := 12) ?_|(apply c4 1;exact callK0 (θ := [2,3]) (hD := (at_f_ok st sy B (T[i.toNat]'hi) hql2 preB107 preB107 preB107 preB107 preB107 preB107));exact rfl;exact rfl;exact rfl;refine dM ?_)
            simp only [hL,Option.isSome_some,Option.getD_some]
            repeat' first|(apply p3;(first|exact pu1|exact puL|exact a_ldE (E := (eNd B)) 3 rfl rfl rfl (fC rfl) rfl rfl (Nat.le_of_ble_eq_true rfl) bnd rfl (by first|exact trivial|exact rfl)|exact puN|exact a_add rfl rfl (by omega) (by omega)|exact puI);exact rfl)|refine cd ?_|(apply w3;(exact a_st_rowI rfl rfl rfl rfl (fN rfl rfl) bnd);exact rfl;refine dS ?_)
            rw [heq,← hst]
            refine q_again (i + 1) [0,1,2,3,4,5] (by exact stk) ?_ ?_
            · exact ⟨by omega,by omega⟩
            · omega
          · rw [List.take_of_length_le (show T.length ≤ i.toNat by omega)]
            repeat' first|(apply p3;(exact pu1);exact rfl)|refine cd ?_
            repeat refine cr ?_
            refine ends_id ?_
            refine endK [?_] (h2 := ?_) (h3 := ?_) (nd := ?_)
            rotate_left 1
            all_goals (repeat' first|exact ce0|refine ce ?_|refine ce2 ?_ ?_|(refine Or.inr (bx_eq rfl rfl ?_);(try dsimp only [C.ren,C.ren.all]);(try exact rfl))|exact SVLe.refl|refine ceb ?_)
            all_goals first | exact (show nodupB _ = true from rfl) | exact Or.inr rfl | (rfl)
      · obtain ⟨e1,e2,e3,e4⟩ := hno hf
        rw [e3,e4]
        refine does_of (k := 0) Tryz.func18 rfl Tryz.ntmps18 rfl rfl fun w F0 S0 ρ0 => ?_
        dsimp only [argT,argH]
        repeat' first|(apply n3;exact a_nilO eI rfl;exact rfl)|(apply p3;(first|exact pu1|exact a_ne rfl rfl);exact rfl)|refine cdn ?_|refine g_reg (id := 0) ?_|refine g_reg (id := 1) ?_|refine g_reg (id := 2) ?_|(apply c4 0;exact callK1 (θ := []) (hD := (depthCode_ok _ _ _ _));exact rfl;exact rfl;exact rfl;refine dM ?_)|((refine g_cond rfl (fun hc => ?_) (fun hc => ?_)) <;> (try simp only [dcB] at hc) <;> (try first|contradiction|(exfalso;omega)))
        refine g_conv t_zw ?_
        repeat' first|(apply p3;(exact pu1);exact rfl)|refine cdn ?_|refine g_reg (id := 4) ?_|refine g_reg (id := 5) ?_|(apply c4 2;exact callK0 (θ := []) (hD := (forestOf_ok _ _ _));exact rfl;exact rfl;exact rfl;refine dM ?_)|(apply c4 1;exact callK0 (θ := [2,3,1]) (hD := (below_ok st sy B depth [] _ hp0 preB107 preB107 preB107 preB107 preB107 preB107 preB107 preB107));exact rfl;exact rfl;exact rfl;refine dM ?_)
        rw [e1,e2]
        repeat' first|(apply n3;exact a_nilO eI rfl;exact rfl)|(apply p3;(first|exact pu1|exact a_ne rfl rfl);exact rfl)|refine cd ?_
        repeat refine cr ?_
        refine ends_id ?_
        refine endK [?_] (h2 := ?_) (h3 := ?_) (nd := ?_)
        rotate_left 1
        all_goals (repeat' first|exact ce0|refine ce ?_|refine ce2 ?_ ?_|(refine Or.inr (bx_eq rfl rfl ?_);(try dsimp only [C.ren,C.ren.all]);(try exact rfl))|exact SVLe.refl|refine ceb ?_)
        all_goals first | exact (show nodupB _ = true from rfl) | exact Or.inr rfl | (rfl)
    · obtain ⟨e1,e2⟩ := sct_dep h hd
      rw [e1,e2]
      have hask : (if askT st sy B = 0 then if 0 ≤ depth ∧ depth ≤ 36 then (0 : Int) else 2 else askT st sy B) = 2 := by rw [if_pos h,if_neg hd]
      refine does_of (k := 0) Tryz.func18 rfl Tryz.ntmps18 rfl rfl fun w F0 S0 ρ0 => ?_
      dsimp only [argT,argH]
      repeat' first|(apply n3;exact a_nilO eI rfl;exact rfl)|(apply p3;(first|exact pu1|exact a_ne rfl rfl);exact rfl)|refine cd ?_|(apply c4 0;exact callK1 (θ := []) (hD := (depthCode_ok _ _ _ _));exact rfl;exact rfl;exact rfl;refine dM ?_)|((refine g_cond rfl (fun hc => ?_) (fun hc => ?_)) <;> (try simp only [dcB] at hc) <;> (try first|contradiction|(exfalso;omega)))
      simp only [hask]
      repeat refine cr ?_
      refine ends_id ?_
      refine endK [?_] (h2 := ?_) (h3 := ?_) (nd := ?_)
      rotate_left 1
      all_goals (repeat' first|exact ce0|refine ce ?_|refine ce2 ?_ ?_|(refine Or.inr (bx_eq rfl rfl ?_);(try dsimp only [C.ren,C.ren.all]);(try exact rfl))|exact SVLe.refl|refine ceb ?_)
      all_goals first | exact (show nodupB _ = true from rfl) | exact Or.inr rfl | (rfl)
  · obtain ⟨e1,e2⟩ := sct_ask (depth := depth) h
    rw [e1,e2]
    have hask : (if askT st sy B = 0 then if 0 ≤ depth ∧ depth ≤ 36 then (0 : Int) else 2 else askT st sy B) = askT st sy B := by rw [if_neg h]
    refine does_of (k := 0) Tryz.func18 rfl Tryz.ntmps18 rfl rfl fun w F0 S0 ρ0 => ?_
    dsimp only [argT,argH]
    repeat' first|(apply n3;exact a_nilO eI rfl;exact rfl)|(apply p3;(first|exact pu1|exact a_ne rfl rfl);exact rfl)|refine cd ?_|(apply c4 0;exact callK1 (θ := []) (hD := (depthCode_ok _ _ _ _));exact rfl;exact rfl;exact rfl;refine dM ?_)|((refine g_cond rfl (fun hc => ?_) (fun hc => ?_)) <;> (try simp only [dcB] at hc) <;> (try first|contradiction|(exfalso;omega)))
    simp only [hask]
    repeat refine cr ?_
    refine ends_id ?_
    refine endK [?_] (h2 := ?_) (h3 := ?_) (nd := ?_)
    rotate_left 1
    all_goals (repeat' first|exact ce0|refine ce ?_|refine ce2 ?_ ?_|(refine Or.inr (bx_eq rfl rfl ?_);(try dsimp only [C.ren,C.ren.all]);(try exact rfl))|exact SVLe.refl|refine ceb ?_)
    all_goals first | exact (show nodupB _ = true from rfl) | exact Or.inr rfl | (rfl)
end Go.Proofs.YtighjcjmacajoaaGreatDoor
end
section
set_option linter.unusedVariables false
set_option linter.unusedSimpArgs false
set_option maxRecDepth 100000
set_option maxHeartbeats 4000000
namespace Go.Proofs.YtighjcjmacajoaaGreatDoor
open Go Foot
@[irreducible] def nbC (st sy B depth : Int) (p : List Int) : Int := if askT st sy B = 0 then if 0 ≤ depth ∧ depth ≤ 36 then blC st sy B depth p else 2 else askT st sy B
@[irreducible] def nbL (st sy B depth : Int) (p : List Int) : List (List Int) := if askT st sy B = 0 then if 0 ≤ depth ∧ depth ≤ 36 then blL st sy B depth p else [] else []
theorem nb_ask {st sy B depth : Int} {p : List Int} (h : ¬ askT st sy B = 0) : nbC st sy B depth p = askT st sy B ∧ nbL st sy B depth p = [] := by
  unfold nbC nbL; rw [if_neg h,if_neg h]; exact ⟨rfl,rfl⟩
theorem nb_dep {st sy B depth : Int} {p : List Int} (h : askT st sy B = 0) (h2 : ¬ (0 ≤ depth ∧ depth ≤ 36)) : nbC st sy B depth p = 2 ∧ nbL st sy B depth p = [] := by
  unfold nbC nbL; rw [if_pos h,if_pos h,if_neg h2,if_neg h2]; exact ⟨rfl,rfl⟩
theorem nb_ok {st sy B depth : Int} {p : List Int} (h : askT st sy B = 0) (h2 : 0 ≤ depth ∧ depth ≤ 36) : nbC st sy B depth p = blC st sy B depth p ∧ nbL st sy B depth p = blL st sy B depth p := by
  unfold nbC nbL; rw [if_pos h,if_pos h,if_pos h2,if_pos h2]; exact ⟨rfl,rfl⟩
theorem preB108 {p : Prop} (h : p := by first | with_reducible assumption | omega | (simp only [List.length_append,List.length_cons,List.length_nil,List.length_set,List.length_replicate,List.length_take,List.length_drop,List.length_tail,List.length_dropLast,List.length_reverse] at *; omega) | exact mem_len (by assumption) (by omega) | (with_reducible refine Int.le_trans (Int.ofNat_le.2 (trimR_len _)) ?_; simp only [List.length_cons,List.length_tail]; omega) | (exact (ruAt_ok (by assumption) (by assumption) (by assumption)).2.1) | (exact (ruAt_ok (by assumption) (by assumption) (by assumption)).2.1) | (have := vMach_bd (by assumption); omega) | (simp only [mC_ch,mC_tu]; omega) | (have := vTag_bd (by assumption); omega) | (have := (‹Gd _ _›).le; omega) | (exact tgHalts_no (by assumption)) | (exact tgHead (by assumption) (by assumption) (by assumption)) | (exact Int.le_trans (tgStep_gd (by assumption) (by assumption) (by assumption) (by assumption)).le (by decide)) | (exact vTag_r (by assumption)) | (with_reducible refine Int.le_trans (Int.ofNat_le.2 (pushL_len _ _)) ?_; simp only [List.length_dropLast]; omega) | exact ls_at (by assumption) (by omega) | exact pt_gd (by assumption) | exact lv_at (by assumption) (by omega) | exact pt_gd (lv_at (by assumption) (by omega)) | exact (ask_ok (by assumption)).1 | exact (ask_ok (by assumption)).2.1 | exact (ask_ok (by assumption)).2.2.1 | exact (ask_ok (by assumption)).2.2.2 | trivial) : p := h
theorem iNodesBelow_ok (st sy B depth : Int) (p : List Int) (hp : (p.length : Int) ≤ 1048576) : Does Tryz.prog 16 [.one (int st),.one (int sy),.one (shI p),.one (int depth),.one (int B)] [] (.tup [(false,[.gv 0]),(false,[int (nbC st sy B depth p)])]) [.row 1 (rows eO1 (nbL st sy B depth p))] := by
  by_cases h : askT st sy B = 0
  · obtain ⟨q1,q2,q3,q4⟩ := ask_bd h
    by_cases hd : 0 ≤ depth ∧ depth ≤ 36
    · obtain ⟨f1,f2⟩ := nb_ok (p := p) h hd
      rw [f1,f2]
      have hask : (if askT st sy B = 0 then if 0 ≤ depth ∧ depth ≤ 36 then (0 : Int) else 2 else askT st sy B) = 0 := by rw [if_pos h,if_pos hd]
      refine does_of (k := 0) Tryz.func16 rfl Tryz.ntmps16 rfl rfl fun w F0 S0 ρ0 => ?_
      dsimp only [argT,argH]
      repeat' first|(apply p3;(first|exact pu1|exact a_ne rfl rfl);exact rfl)|refine cdn ?_|refine g_reg (id := 0) ?_|refine g_reg (id := 1) ?_|refine g_reg (id := 2) ?_|(apply c4 0;exact callK1 (θ := []) (hD := (depthCode_ok _ _ _ _));exact rfl;exact rfl;exact rfl;refine dM ?_)|((refine g_cond rfl (fun hc => ?_) (fun hc => ?_)) <;> (try simp only [dcB] at hc) <;> (try first|contradiction|(exfalso;omega)))
      refine g_conv t_zw ?_
      repeat' first|(apply p3;(exact pu1);exact rfl)|refine cd ?_|(apply c4 2;exact callK0 (θ := []) (hD := (forestOf_ok _ _ _));exact rfl;exact rfl;exact rfl;refine dM ?_)|(apply c4 1;exact callK0 (θ := [1,2,0]) (hD := (below_ok st sy B depth p _ preB108 preB108 preB108 preB108 preB108 preB108 preB108 preB108 preB108));exact rfl;exact rfl;exact rfl;refine dM ?_)
      refine g_turn (t_thaw (i := 3) (t' := [(10,.one (.gv 3)),(11,.one (int (blC st sy B depth p)))]) rfl ⟨.inr rfl,.inr rfl,trivial⟩ ⟨trivial,trivial,trivial⟩) ?_
      repeat refine cr ?_
      refine ends_id ?_
      refine endK [?_] (h2 := ?_) (h3 := ?_) (nd := ?_)
      rotate_left 1
      all_goals (repeat' first|exact ce0|refine ce ?_|refine ce2 ?_ ?_|(refine Or.inr (bx_eq rfl rfl ?_);(try dsimp only [C.ren,C.ren.all]);(try exact rfl))|exact SVLe.refl|refine ceb ?_)
      all_goals first | exact (show nodupB _ = true from rfl) | exact Or.inr rfl | (rfl)
    · obtain ⟨e1,e2⟩ := nb_dep (p := p) h hd
      rw [e1,e2]
      have hask : (if askT st sy B = 0 then if 0 ≤ depth ∧ depth ≤ 36 then (0 : Int) else 2 else askT st sy B) = 2 := by rw [if_pos h,if_neg hd]
      refine does_of (k := 0) Tryz.func16 rfl Tryz.ntmps16 rfl rfl fun w F0 S0 ρ0 => ?_
      dsimp only [argT,argH]
      repeat' first|(apply n3;exact a_nilO eO1 rfl;exact rfl)|(apply p3;(first|exact pu1|exact a_ne rfl rfl);exact rfl)|refine cd ?_|(apply c4 0;exact callK1 (θ := []) (hD := (depthCode_ok _ _ _ _));exact rfl;exact rfl;exact rfl;refine dM ?_)|((refine g_cond rfl (fun hc => ?_) (fun hc => ?_)) <;> (try simp only [dcB] at hc) <;> (try first|contradiction|(exfalso;omega)))
      simp only [hask]
      repeat refine cr ?_
      refine ends_id ?_
      refine endK [?_] (h2 := ?_) (h3 := ?_) (nd := ?_)
      rotate_left 1
      all_goals (repeat' first|exact ce0|refine ce ?_|refine ce2 ?_ ?_|(refine Or.inr (bx_eq rfl rfl ?_);(try dsimp only [C.ren,C.ren.all]);(try exact rfl))|exact SVLe.refl|refine ceb ?_)
      all_goals first | exact (show nodupB _ = true from rfl) | exact Or.inr rfl | (rfl)
  · obtain ⟨e1,e2⟩ := nb_ask (depth := depth) (p := p) h
    rw [e1,e2]
    have hask : (if askT st sy B = 0 then if 0 ≤ depth ∧ depth ≤ 36 then (0 : Int) else 2 else askT st sy B) = askT st sy B := by rw [if_neg h]
    refine does_of (k := 0) Tryz.func16 rfl Tryz.ntmps16 rfl rfl fun w F0 S0 ρ0 => ?_
    dsimp only [argT,argH]
    repeat' first|(apply n3;exact a_nilO eO1 rfl;exact rfl)|(apply p3;(first|exact pu1|exact a_ne rfl rfl);exact rfl)|refine cd ?_|(apply c4 0;exact callK1 (θ := []) (hD := (depthCode_ok _ _ _ _));exact rfl;exact rfl;exact rfl;refine dM ?_)|((refine g_cond rfl (fun hc => ?_) (fun hc => ?_)) <;> (try simp only [dcB] at hc) <;> (try first|contradiction|(exfalso;omega)))
    simp only [hask]
    repeat refine cr ?_
    refine ends_id ?_
    refine endK [?_] (h2 := ?_) (h3 := ?_) (nd := ?_)
    rotate_left 1
    all_goals (repeat' first|exact ce0|refine ce ?_|refine ce2 ?_ ?_|(refine Or.inr (bx_eq rfl rfl ?_);(try dsimp only [C.ren,C.ren.all]);(try exact rfl))|exact SVLe.refl|refine ceb ?_)
    all_goals first | exact (show nodupB _ = true from rfl) | exact Or.inr rfl | (rfl)
end Go.Proofs.YtighjcjmacajoaaGreatDoor
end
section
set_option linter.unusedVariables false
set_option linter.unusedSimpArgs false
namespace Go.Proofs.YtighjcjmacajoaaGreatDoor
open Go Foot
structure BackD (w : World) (S Z G : Foot) (ds : List D) (vs : List Value) : Prop where
  r : Reps w no ds vs G
  s : le G S
  z : Foot.dis G Z
  t : ∀ t ∈ tabs,∀ o,¬ G t.1 o
theorem BackD.keep {w w' : World} {S S' Z G : Foot} {ds : List D} {vs : List Value} (h : BackD w S Z G ds vs) (hS : Agree w w' S) (hle : le S S') : BackD w' S' Z G ds vs :=
  ⟨h.r.keep (hS.le h.s) Agree.no (le_refl _) (le_refl _),h.s.trans hle,h.z,h.t⟩
def rcD (Z : Foot) (ds : List D) (vs : List Value) : Opq where
  p w S us F := us = [] ∧ le Z S ∧ ∃ G,BackD w S Z G ds vs
  keep := fun ⟨h1,h2,G,h3⟩ _ hS hle _ => ⟨h1,h2.trans hle,G,h3.keep hS hle⟩
section
variable {P : Program} {g : Gh} {t : List (Nat × SV)} {h0 : List (Nat × GB)} {n q r i j : Nat} {a : Act} {w : World} {S Z : Foot} {ρ : Env} {F : Nat → Foot} {ds : List D} {vs : List Value} {Q : Exit → St → Prop}
theorem rel_rcD (h : Rel g ⟨t,h0,n⟩ a w S ρ F) (hg : lkG h0 q = .opq (rcD Z ds vs) []) : le Z S ∧ ∃ G,BackD w S Z G ds vs := by
  rcases h.root q with h1 | ⟨u,r1,r2⟩
  · simp only [hg] at h1; cases h1
  · simp only [hg] at r2
    obtain ⟨us,_,_,h2,G,h3⟩ := r2
    exact ⟨h2,G,h3⟩
theorem t_isv (v : Value) : Conv g ⟨t,h0,n⟩ ⟨t,(n,.isv v) :: h0,n + 1⟩ := fun a w S ρ F h hf => by
  have hn : ρ n = none := hf n (Nat.le_refl n)
  have hle : Env.le ρ (fun k => if k = n then some v else ρ k) := fun k u hk => by
    have : k ≠ n := fun e => by rw [e,hn] at hk; cases hk
    simp only [this,if_false]; exact hk
  refine ⟨S,fun k => if k = n then some v else ρ k,F,⟨h.size,h.defers,fun k => (h.slot k).keep (Agree.refl _ _) (le_refl _) hle,fun k => ?_,h.dis,h.disS,h.own,h.ex,h.exS,h.old,h.inS,h.newS,fun k u hk hu => hle _ _ (h.pin k u hk hu),h.tab,?_⟩,fun k hk => ?_⟩
  · simp only [lkG_cons]
    split
    · rename_i e
      subst e
      exact .inr ⟨v,by simp,rfl⟩
    · rename_i hkn
      rcases h.root k with h0 | ⟨u,r1,r2⟩
      · exact .inl h0
      · exact .inr ⟨u,r1,r2.keep (Agree.refl _ _) (Agree.refl _ _) (le_refl _) hle (le_refl _)⟩
  · obtain ⟨N,hN⟩ := h.fin
    exact ⟨N + n + 1,fun k hk => by
      have : k ≠ n := by omega
      simp only [this,if_false]
      exact hN k (by omega)⟩
  · have hk' : n + 1 ≤ k := hk
    have : k ≠ n := by omega
    simp only [this,if_false]
    exact hf k (by show n ≤ k; omega)
theorem rel_isv {v : Value} (h : Rel g ⟨t,h0,n⟩ a w S ρ F) (hi : lkG h0 i = .isv v) : ρ i = some v := by
  rcases h.root i with h1 | ⟨u,r1,r2⟩
  · simp only [hi] at h1; cases h1
  · simp only [hi] at r2
    rw [r1]
    exact congrArg some r2
end
end Go.Proofs.YtighjcjmacajoaaGreatDoor
end
section
set_option linter.unusedVariables false
set_option linter.unusedSimpArgs false
set_option maxRecDepth 100000
namespace Go.Proofs.YtighjcjmacajoaaGreatDoor
open Go Foot MapKept
def Bk (w : World) (S Z : Foot) (z : Nat) (row : List D) (v : Value) : Prop := ∃ G,Rep w no (.sl true z row) v G ∧ le G S ∧ Foot.dis G Z ∧ ∀ t ∈ tabs,∀ o,¬ G t.1 o
theorem Bk.keep {w w' : World} {S S' Z : Foot} {z : Nat} {row : List D} {v : Value} (h : Bk w S Z z row v) (hS : Agree w w' S) (hle : le S S') : Bk w' S' Z z row v := by
  obtain ⟨G,h1,h2,h3,h4⟩ := h
  exact ⟨G,h1.keep (hS.le h2) Agree.no (le_refl _) (le_refl _),h2.trans hle,h3,h4⟩
theorem Bk.sh {w : World} {S Z : Foot} {z : Nat} {row : List D} {v : Value} (h : Bk w S Z z row v) (hn : D.noOwn.all row) : Rep w S (.sl false z row) v no := by
  obtain ⟨G,h1,h2,h3,h4⟩ := h
  exact (Shut1.sl (ShutL.no hn) w no G G v h1 (le_refl _)).keep Agree.no (Agree.refl _ _) (or_le (no_le _) h2) (le_refl _)
def kbA {α : Type} (Z : Foot) (z : Nat) (row : α → List D) (L : List (α × Value)) : Opq where
  p w S us F := us = [] ∧ le Z S ∧ ∀ x ∈ L,Bk w S Z z (row x.1) x.2
  keep := fun ⟨h1,h2,h3⟩ _ hS hle _ => ⟨h1,h2.trans hle,fun x hx => (h3 x hx).keep hS hle⟩
def kb (Z : Foot) (z : Nat) (row : List D) : Opq where
  p w S us F := le Z S ∧ ∃ v,us = [v] ∧ Bk w S Z z row v
  keep := fun ⟨h1,v,h2,h3⟩ _ hS hle _ => ⟨h1.trans hle,v,h2,h3.keep hS hle⟩
def kbN (Z : Foot) (z : Nat) (row : List D) (v : Value) : Opq where
  p w S us F := us = [v] ∧ le Z S ∧ Bk w S Z z row v
  keep := fun ⟨h1,h2,h3⟩ _ hS hle _ => ⟨h1,h2.trans hle,h3.keep hS hle⟩
def ndP {α : Type} (Z : Foot) (z : Nat) (row : α → List D) (E : Enc (α × Value)) (ms : List α) : Opq where
  p w S us F := le Z S ∧ ∃ (v : Value) (L : List (α × Value)),L.map (·.1) = ms ∧ us = [v] ∧ Rep w no (.sl true E.z (rows E L)) v F ∧ ∀ x ∈ L,Bk w S Z z (row x.1) x.2
  keep := fun ⟨h1,v,L,h2,h3,h4,h5⟩ hF hS hle hf => ⟨h1.trans hle,v,L,h2,h3,h4.keep hF Agree.no (le_refl _) hf,fun x hx => (h5 x hx).keep hS hle⟩
section
variable {P : Program} {g : Gh} {t : List (Nat × SV)} {h0 : List (Nat × GB)} {n q r i j : Nat} {a : Act} {w : World} {S Z : Foot} {ρ : Env} {F : Nat → Foot} {Q : Exit → St → Prop} {α : Type} {z : Nat} {row : α → List D} {L : List (α × Value)} {x : α} {v : Value}
theorem rel_opq {R : Opq} {cs : List Nat} (h : Rel g ⟨t,h0,n⟩ a w S ρ F) (hg : lkG h0 i = .opq R cs) : ∃ us,cs.map ρ = us.map some ∧ R.p w S us (F i) := by
  rcases h.root i with h1 | ⟨u,r1,r2⟩
  · simp only [hg] at h1; cases h1
  · simp only [hg] at r2
    exact r2
theorem rel_live {gb : GB} (h : Rel g ⟨t,h0,n⟩ a w S ρ F) (hg : lkG h0 i = gb) (hl : GB.lives gb = true) : ∃ u,ρ i = some u := by
  rcases h.root i with h1 | ⟨u,r1,r2⟩
  · simp only [hg] at h1; rw [h1] at hl; cases hl
  · exact ⟨u,r1⟩
theorem t_opqLe {R R' : Opq} {cs : List Nat} (i : Nat) (hg : lkG h0 i = .opq R cs) (hl : ∀ w S us F,R.p w S us F → R'.p w S us F) : Conv g ⟨t,h0,n⟩ ⟨t,(i,.opq R' cs) :: h0,n⟩ := fun a w S ρ F hr hf => by
  obtain ⟨u,hu⟩ := rel_live hr hg rfl
  obtain ⟨us,e1,e2⟩ := rel_opq hr hg
  exact ⟨S,ρ,F,rel_root hr (.inr ⟨u,hu,us,e1,hl _ _ _ _ e2⟩),hf⟩
theorem reps_setSame {cs : List C} {us : List Value} {k : Nat} {c c' : C} (e2 : RepCs w S ρ cs us) (hk : cs[k]? = some c) (hc : ∀ v,RepC w S ρ c v → RepC w S ρ c' v) : RepCs w S ρ (cs.set k c') us := by
  obtain ⟨v',e3,e4⟩ := e2.nth hk
  have e6 := e2.set (k := k) (c := c') (u := v') (hc _ e4)
  have e7 : us.set k v' = us := by
    apply List.ext_getElem?
    intro m
    rw [List.getElem?_set]
    split
    · rename_i e
      subst e
      split
      · rw [e3]
      · rename_i hl
        rw [List.getElem?_eq_none (by omega)]
    · rfl
  rw [e7] at e6
  exact e6
theorem t_cell {cs : List C} {c c' : C} (d k : Nat) (hs : lkS t d = .agg cs) (hk : cs[k]? = some c) (hc : ∀ a w S ρ F v,Rel g ⟨t,h0,n⟩ a w S ρ F → RepC w S ρ c v → RepC w S ρ c' v) : Conv g ⟨t,h0,n⟩ ⟨(d,.agg (cs.set k c')) :: t,h0,n⟩ := fun a w S ρ F hr hf => by
  refine ⟨S,ρ,F,hr.setSlot ?_,hf⟩
  have h1 := hr.slot d
  simp only [hs] at h1
  obtain ⟨us,e1,e2⟩ := h1
  exact ⟨us,e1,reps_setSame e2 hk fun v => hc a w S ρ F v hr⟩
theorem t_cell1 {c c' : C} (d : Nat) (hs : lkS t d = .one c) (hc : ∀ a w S ρ F v,Rel g ⟨t,h0,n⟩ a w S ρ F → RepC w S ρ c v → RepC w S ρ c' v) : Conv g ⟨t,h0,n⟩ ⟨(d,.one c') :: t,h0,n⟩ := fun a w S ρ F hr hf => by
  refine ⟨S,ρ,F,hr.setSlot ?_,hf⟩
  have h1 := hr.slot d
  simp only [hs] at h1
  exact hc a w S ρ F _ hr h1
theorem rel_newC {R : Opq} {cs : List Nat} {us : List Value} (h : Rel g ⟨t,h0,n⟩ a w S ρ F) (hf : Fresh ⟨t,h0,n⟩ ρ) (hc : cs.map ρ = us.map some) (hp : R.p w S us (F n)) : ∃ ρ',Env.le ρ ρ' ∧ Rel g ⟨t,(n,.opq R cs) :: h0,n + 1⟩ a w S ρ' F ∧ Fresh ⟨t,(n,.opq R cs) :: h0,n + 1⟩ ρ' := by
  have hn : ρ n = none := hf n (Nat.le_refl n)
  have hle : Env.le ρ (fun k => if k = n then some (.bool false) else ρ k) := fun k u hk => by
    have : k ≠ n := fun e => by rw [e,hn] at hk; cases hk
    simp only [this,if_false]; exact hk
  refine ⟨_,hle,⟨h.size,h.defers,fun k => (h.slot k).keep (Agree.refl _ _) (le_refl _) hle,fun k => ?_,h.dis,h.disS,h.own,h.ex,h.exS,h.old,h.inS,h.newS,fun k u hk hu => hle _ _ (h.pin k u hk hu),h.tab,?_⟩,fun k hk => ?_⟩
  · simp only [lkG_cons]
    split
    · rename_i e
      subst e
      exact .inr ⟨.bool false,by simp,us,envs_le hle hc,hp⟩
    · rename_i hkn
      rcases h.root k with h0 | ⟨u,r1,r2⟩
      · exact .inl h0
      · exact .inr ⟨u,r1,r2.keep (Agree.refl _ _) (Agree.refl _ _) (le_refl _) hle (le_refl _)⟩
  · obtain ⟨N,hN⟩ := h.fin
    exact ⟨N + n + 1,fun k hk => by
      have : k ≠ n := by omega
      simp only [this,if_false]
      exact hN k (by omega)⟩
  · have hk' : n + 1 ≤ k := hk
    have : k ≠ n := by omega
    simp only [this,if_false]
    exact hf k (by show n ≤ k; omega)
theorem rel_newV {gb : GB} {v : Value} (h : Rel g ⟨t,h0,n⟩ a w S ρ F) (hf : Fresh ⟨t,h0,n⟩ ρ) (hp : ∀ ρ' : Env,RepG w S ρ' gb v (F n)) : ∃ ρ',Env.le ρ ρ' ∧ ρ' n = some v ∧ Rel g ⟨t,(n,gb) :: h0,n + 1⟩ a w S ρ' F ∧ Fresh ⟨t,(n,gb) :: h0,n + 1⟩ ρ' := by
  have hn : ρ n = none := hf n (Nat.le_refl n)
  have hle : Env.le ρ (fun k => if k = n then some v else ρ k) := fun k u hk => by
    have : k ≠ n := fun e => by rw [e,hn] at hk; cases hk
    simp only [this,if_false]; exact hk
  refine ⟨_,hle,by simp,⟨h.size,h.defers,fun k => (h.slot k).keep (Agree.refl _ _) (le_refl _) hle,fun k => ?_,h.dis,h.disS,h.own,h.ex,h.exS,h.old,h.inS,h.newS,fun k u hk hu => hle _ _ (h.pin k u hk hu),h.tab,?_⟩,fun k hk => ?_⟩
  · simp only [lkG_cons]
    split
    · rename_i e
      subst e
      exact .inr ⟨v,by simp,hp _⟩
    · rename_i hkn
      rcases h.root k with h0 | ⟨u,r1,r2⟩
      · exact .inl h0
      · exact .inr ⟨u,r1,r2.keep (Agree.refl _ _) (Agree.refl _ _) (le_refl _) hle (le_refl _)⟩
  · obtain ⟨N,hN⟩ := h.fin
    exact ⟨N + n + 1,fun k hk => by
      have : k ≠ n := by omega
      simp only [this,if_false]
      exact hN k (by omega)⟩
  · have hk' : n + 1 ≤ k := hk
    have : k ≠ n := by omega
    simp only [this,if_false]
    exact hf k (by show n ≤ k; omega)
theorem rel_frzS {xs : List D} (hf : Fresh ⟨t,h0,n⟩ ρ) (hq : lkG h0 q = .opq (zw Z) []) (hr : lkG h0 r = .row z xs) (hp : D.plain.all xs) (hno : D.noOwn.all xs) (h : Rel g ⟨t,h0,n⟩ a w S ρ F) :
    ∃ S' F' ρ',Rel g ⟨t,(n,.opq (kb Z z xs) [r]) :: (r,.sh z xs) :: h0,n + 1⟩ a w S' ρ' F' ∧ Fresh ⟨t,(n,.opq (kb Z z xs) [r]) :: (r,.sh z xs) :: h0,n + 1⟩ ρ' := by
  obtain ⟨vr,r1,r2⟩ := rel_rowT h hr
  have hZ : le Z S := by
    obtain ⟨us,_,_,h2⟩ := rel_opq h hq
    exact h2
  have hS : le S (S.or (F r)) := le_or_left _ _
  have hrp : Rep w no (.sl true z xs) vr (F r) := r2.plain ⟨rfl,hp⟩
  have hB : Bk w (S.or (F r)) Z z xs vr := ⟨F r,hrp,le_or_right _ _,fun b o x y => h.disS r b o x (hZ b o y),fun t ht o hh => h.disS r _ _ hh ((h.tab t ht).2 o)⟩
  have hm : Rel g ⟨t,(r,.sh z xs) :: h0,n⟩ a w (S.or (F r)) ρ (fun k => if k = r then no else F k) := by
    refine ⟨h.size,h.defers.keep fun r' _ m => ⟨m.at_,fun j o hj => (by split at hj; exact hj.elim; exact m.F j o hj),fun o ho => ho.elim (m.S o) (m.F r o),m.lo⟩,fun k => (h.slot k).keep (Agree.refl _ _) hS (Env.le.refl _),fun k => ?_,fun k l hkl => ?_,fun k => ?_,fun k => ?_,fun k b o hb => ?_,fun b o hb => ?_,h.old,h.inS.trans hS,fun b o hb => ?_,h.pin,h.tab.keep (Agree.refl _ _) hS,h.fin⟩
    · simp only [lkG_cons]
      split
      · rename_i e
        subst e
        exact .inr ⟨vr,r1,hB.sh hno⟩
      · rename_i hk
        rcases h.root k with h0 | ⟨u,r1,r2⟩
        · exact .inl h0
        · refine .inr ⟨u,r1,?_⟩
          exact r2.keep (Agree.refl _ _) (Agree.refl _ _) hS (Env.le.refl _) (le_refl _)
    · by_cases hk : k = r
      · simp only [hk,if_true]; exact no_dis _
      · by_cases hl : l = r
        · simp only [hl,if_true]; exact dis_no _
        · simp only [if_neg hk,if_neg hl]; exact h.dis k l hkl
    · by_cases hk : k = r
      · simp only [hk,if_true]; exact no_dis _
      · simp only [if_neg hk]
        exact fun b o hb hs => hs.elim (fun hs => h.disS k b o hb hs) (fun hs => h.dis k r hk b o hb hs)
    · by_cases hk : k = r
      · simp only [hk,if_true]; exact no_le _
      · simp only [if_neg hk]; exact h.own k
    · by_cases hk : k = r
      · simp only [hk,if_true] at hb; exact hb.elim
      · simp only [if_neg hk] at hb; exact h.ex k b o hb
    · exact hb.elim (h.exS b o) (h.ex r b o)
    · exact hb.elim (h.newS b o) (fun hb => .inr (h.own r b o hb))
  obtain ⟨ρ',hl,q1,q2⟩ := rel_newC (R := kb Z z xs) (cs := [r]) (us := [vr]) hm hf (by simp [r1]) ⟨hZ.trans hS,vr,rfl,hB⟩
  exact ⟨_,_,ρ',q1,q2⟩
theorem g_frzS {c : Code} {xs : List D} (r q : Nat) (hq : lkG h0 q = .opq (zw Z) []) (hr : lkG h0 r = .row z xs) (hp : D.plain.all xs) (hno : D.noOwn.all xs) (hk : GWp P g c ⟨t,(n,.opq (kb Z z xs) [r]) :: (r,.sh z xs) :: h0,n + 1⟩ Q) : GWp P g c ⟨t,h0,n⟩ Q := ⟨fun a w S ρ F h hf => by
  obtain ⟨S',F',ρ',q1,q2⟩ := rel_frzS hf hq hr hp hno h
  exact hk.run _ _ _ _ _ q1 q2⟩
theorem rel_dupS {xs : List D} {d k : Nat} {cs : List C} (hs : lkS t d = .agg cs) (hkc : cs[k]? = some (.gv r)) (hf : Fresh ⟨t,h0,n⟩ ρ) (hi : lkG h0 i = .opq (kb Z z xs) [r]) (hno : D.noOwn.all xs) (h : Rel g ⟨t,h0,n⟩ a w S ρ F) :
    ∃ ρ',Rel g ⟨(d,.agg (cs.set k (.gv n))) :: t,(n + 1,.opq (kb Z z xs) [n]) :: (n,.sh z xs) :: h0,n + 2⟩ a w S ρ' F ∧ Fresh ⟨(d,.agg (cs.set k (.gv n))) :: t,(n + 1,.opq (kb Z z xs) [n]) :: (n,.sh z xs) :: h0,n + 2⟩ ρ' := by
  obtain ⟨us,e1,e2,v,rfl,e3⟩ := rel_opq h hi
  simp only [List.map_cons,List.map_nil,List.cons.injEq,and_true] at e1
  obtain ⟨ρ1,l1,hv,q1,q2⟩ := rel_newV (gb := .sh z xs) (v := v) h hf fun ρ' => e3.sh hno
  obtain ⟨ρ2,l2,q3,q4⟩ := rel_newC (R := kb Z z xs) (cs := [n]) (us := [v]) q1 q2 (by simp [hv]) ⟨e2,v,rfl,e3⟩
  refine ⟨ρ2,q3.setSlot ?_,q4⟩
  have h1 := q3.slot d
  simp only [hs] at h1
  obtain ⟨us,f1,f2⟩ := h1
  refine ⟨us,f1,reps_setSame f2 hkc fun u hu => ⟨?_,hu.2⟩⟩
  rw [l2 _ _ hv,← hu.1,l2 _ _ (l1 _ _ e1)]
theorem o_dupS {ops : Array Oper} {l : List Oper} {xs : List D} {cs : List C} (d k i : Nat) (hs : lkS t d = .agg cs) (hkc : cs[k]? = some (.gv r)) (hi : lkG h0 i = .opq (kb Z z xs) [r]) (hno : D.noOwn.all xs) (hk : GOps P g ops l ⟨(d,.agg (cs.set k (.gv n))) :: t,(n + 1,.opq (kb Z z xs) [n]) :: (n,.sh z xs) :: h0,n + 2⟩ Q) : GOps P g ops l ⟨t,h0,n⟩ Q := ⟨fun a w S ρ F h hf => by
  obtain ⟨ρ',q1,q2⟩ := rel_dupS hs hkc hf hi hno h
  exact hk.run _ _ _ _ _ q1 q2⟩
theorem g_nameK {c : Code} {xs : List D} (i : Nat) (hi : lkG h0 i = .opq (kb Z z xs) [r]) (hk : ∀ v : Value,GWp P g c ⟨t,(i,.opq (kbN Z z xs v) [r]) :: h0,n⟩ Q) : GWp P g c ⟨t,h0,n⟩ Q := ⟨fun a w S ρ F h hf => by
  obtain ⟨u,hu⟩ := rel_live h hi rfl
  obtain ⟨us,e1,e2,v,rfl,e3⟩ := rel_opq h hi
  exact (hk v).run _ _ _ _ _ (rel_root h (.inr ⟨u,hu,[v],e1,rfl,e2,e3⟩)) hf⟩
theorem t_unname {xs : List D} (i : Nat) (hi : lkG h0 i = .opq (kbN Z z xs v) [r]) : Conv g ⟨t,h0,n⟩ ⟨t,(i,.opq (kb Z z xs) [r]) :: h0,n⟩ := t_opqLe i hi fun w S us F ⟨h1,h2,h3⟩ => ⟨h2,v,h1,h3⟩
theorem c_nameK {xs : List D} (hi : lkG h0 i = .opq (kbN Z z xs v) [r]) : ∀ a w S ρ F u,Rel g ⟨t,h0,n⟩ a w S ρ F → RepC w S ρ (.gv r) u → RepC w S ρ (.d (.sc v)) u := fun a w S ρ F u hr h => by
  obtain ⟨us,e1,rfl,e2,e3⟩ := rel_opq hr hi
  simp only [List.map_cons,List.map_nil,List.cons.injEq,and_true] at e1
  obtain ⟨h1,h2⟩ := h
  rw [e1] at h1
  cases h1
  exact ⟨rfl,h2⟩
theorem t_nameA {cs : List C} {xs : List D} (d k i : Nat) (hs : lkS t d = .agg cs) (hk : cs[k]? = some (.gv r)) (hi : lkG h0 i = .opq (kbN Z z xs v) [r]) : Conv g ⟨t,h0,n⟩ ⟨(d,.agg (cs.set k (.d (.sc v)))) :: t,h0,n⟩ := t_cell d k hs hk (c_nameK hi)
theorem t_kb0 (z : Nat) (row : α → List D) (q : Nat) (hq : lkG h0 q = .opq (zw Z) []) : Conv g ⟨t,h0,n⟩ ⟨t,(n,.opq (kbA Z z row []) []) :: h0,n + 1⟩ := fun a w S ρ F hr hf => by
  obtain ⟨us,e1,e2,e3⟩ := rel_opq hr hq
  obtain ⟨ρ',_,h1,h2⟩ := rel_new (R := kbA Z z row []) hr hf ⟨rfl,e3,fun x hx => by cases hx⟩
  exact ⟨S,ρ',F,h1,h2⟩
theorem t_addK {xs : List D} (x : α) (q i : Nat) (hq : lkG h0 q = .opq (kbA Z z row L) []) (hi : lkG h0 i = .opq (kbN Z z xs v) [r]) (hx : xs = row x) : Conv g ⟨t,h0,n⟩ ⟨t,(q,.opq (kbA Z z row (L ++ [(x,v)])) []) :: h0,n⟩ := fun a w S ρ F hr hf => by
  obtain ⟨u,hu⟩ := rel_live hr hq rfl
  obtain ⟨us,e1,e2,e3,e4⟩ := rel_opq hr hq
  obtain ⟨us',e1',rfl,e3',e4'⟩ := rel_opq hr hi
  refine ⟨S,ρ,F,rel_root hr (.inr ⟨u,hu,[],rfl,rfl,e3,fun y hy => ?_⟩),hf⟩
  rcases List.mem_append.1 hy with hy | hy
  · exact e4 y hy
  · simp only [List.mem_singleton] at hy
    subst hy
    exact hx ▸ e4'
theorem t_subK {L' : List (α × Value)} (q : Nat) (hq : lkG h0 q = .opq (kbA Z z row L) []) (hs : ∀ y ∈ L',y ∈ L) : Conv g ⟨t,h0,n⟩ ⟨t,(q,.opq (kbA Z z row L') []) :: h0,n⟩ := t_opqLe q hq fun w S us F ⟨h1,h2,h3⟩ => ⟨h1,h2,fun y hy => h3 y (hs y hy)⟩
theorem t_packN {E : Enc (α × Value)} (j q : Nat) (hj : lkG h0 j = .row E.z (rows E L)) (hp : D.plain.all (rows E L)) (hq : lkG h0 q = .opq (kbA Z z row L) []) : Conv g ⟨t,h0,n⟩ ⟨t,(j,.opq (ndP Z z row E (L.map (·.1))) [j]) :: h0,n⟩ := fun a w S ρ F hr hf => by
  obtain ⟨v,r1,r2⟩ := rel_rowT hr hj
  obtain ⟨us,e1,e2,e3,e4⟩ := rel_opq hr hq
  exact ⟨S,ρ,F,rel_root hr (.inr ⟨v,r1,[v],by simp [r1],e3,v,L,rfl,rfl,r2.plain ⟨rfl,hp⟩,e4⟩),hf⟩
theorem rel_openN {E : Enc (α × Value)} {ms : List α} (hpl : ∀ L : List (α × Value),D.plain.all (rows E L)) (hf : Fresh ⟨t,h0,n⟩ ρ) (hj : lkG h0 j = .opq (ndP Z z row E ms) [j]) (h : Rel g ⟨t,h0,n⟩ a w S ρ F) :
    ∃ L ρ',L.map (·.1) = ms ∧ Rel g ⟨t,(n,.opq (kbA Z z row L) []) :: (j,.row E.z (rows E L)) :: h0,n + 1⟩ a w S ρ' F ∧ Fresh ⟨t,(n,.opq (kbA Z z row L) []) :: (j,.row E.z (rows E L)) :: h0,n + 1⟩ ρ' := by
  obtain ⟨us,e1,e2,v,L,e3,rfl,e4,e5⟩ := rel_opq h hj
  simp only [List.map_cons,List.map_nil,List.cons.injEq,and_true] at e1
  have h1 : Rel g ⟨t,(j,.row E.z (rows E L)) :: h0,n⟩ a w S ρ F := rel_root h (.inr ⟨v,e1,Rep.plain e4 ⟨rfl,hpl L⟩⟩)
  obtain ⟨ρ',_,q1,q2⟩ := rel_new (R := kbA Z z row L) h1 hf ⟨rfl,e2,e5⟩
  exact ⟨L,ρ',e3,q1,q2⟩
theorem g_openN {c : Code} {E : Enc (α × Value)} {ms : List α} (j : Nat) (hpl : ∀ L : List (α × Value),D.plain.all (rows E L)) (hj : lkG h0 j = .opq (ndP Z z row E ms) [j]) (hk : ∀ L : List (α × Value),L.map (·.1) = ms → GWp P g c ⟨t,(n,.opq (kbA Z z row L) []) :: (j,.row E.z (rows E L)) :: h0,n + 1⟩ Q) : GWp P g c ⟨t,h0,n⟩ Q := ⟨fun a w S ρ F h hf => by
  obtain ⟨L,ρ',e,q1,q2⟩ := rel_openN hpl hf hj h
  exact (hk L e).run _ _ _ _ _ q1 q2⟩
def bxPlain : List C → Bool
  | [] => true
  | .gv _ :: cs => bxPlain cs
  | .d (.sc _) :: cs => bxPlain cs
  | _ => false
theorem bxPlain_rep {w : World} {S S' : Foot} {ρ : Env} : ∀ {cs : List C} {vs : List Value},bxPlain cs = true → RepCs w S ρ cs vs → RepCs w S' ρ cs vs
  | [],vs,_,h => h
  | c :: cs,vs,hp,h => by
    simp only [RepCs] at h ⊢
    obtain ⟨v,us,rfl,h1,h2⟩ := h
    cases c with
    | gv i => exact ⟨v,us,rfl,h1,bxPlain_rep (by simpa [bxPlain] using hp) h2⟩
    | d x =>
      cases x with
      | sc u => exact ⟨v,us,rfl,h1,bxPlain_rep (by simpa [bxPlain] using hp) h2⟩
      | _ => simp [bxPlain] at hp
    | _ => simp [bxPlain] at hp
theorem t_thawB {t' : List (Nat × SV)} {z : Nat} {row : List D} {v : Value} {cs : List C} {ds : List D} {vs : List Value} (b0 k0 i q j : Nat) (hb : lkG h0 b0 = .bx cs) (hk : cs[k0]? = some (.d (.sc v))) (hpl : bxPlain cs = true) (hbi : Nat.beq b0 i = false) (hi : lkG h0 i = .isv v) (hq : lkG h0 q = .opq (rcD g.S0 ds vs) []) (hv : vs[j]? = some v) (hd : ds[j]? = some (.sl true z row)) (hs : leS t' t) (hp : slotsPlain t') : Turn g ⟨t,h0,n⟩ ⟨t',[(i,.row z row),(b0,.bx (cs.set k0 (.gv i)))],n⟩ := by
  refine ⟨Nat.le_refl _,fun a w S ρ F h => ?_⟩
  obtain ⟨hZ,G0,hB⟩ := rel_rcD h hq
  obtain ⟨v',G,e1,e2,e3⟩ := hB.r.nth hd
  rw [hv] at e1
  obtain rfl := Option.some.inj e1
  have hvi := rel_isv h hi
  have hGS : le G S := e2.trans hB.s
  have hrep : Rep w (fun b o => S b o ∧ ¬ G b o) (.sl true z row) v G := e3.keep (Agree.refl _ _) Agree.no (no_le _) (le_refl _)
  refine ⟨fun b o => S b o ∧ ¬ G b o,fun k => if k = i then G else F k,?_⟩
  have hGZ : Foot.dis G g.S0 := fun b o x y => hB.z b o (e2 b o x) y
  refine ⟨h.size,h.defers.keep fun r' _ m => ⟨m.at_,fun j o hj => (by split at hj; exact m.S o (hGS _ _ hj); exact m.F j o hj),fun o ho => m.S o ho.1,m.lo⟩,fun k => ?_,fun k => ?_,fun k l hkl => ?_,fun k => ?_,fun k => ?_,fun k b o hb => ?_,fun b o hb => h.exS b o hb.1,h.old,fun b o hb => ⟨h.inS b o hb,fun hg => hGZ b o hg hb⟩,fun b o hb => h.newS b o hb.1,h.pin,fun t ht => ⟨(h.tab t ht).1,fun o => ⟨(h.tab t ht).2 o,fun hh => hB.t t ht o (e2 _ _ hh)⟩⟩,h.fin⟩
  · rcases leS_lk hs k with e | e
    · show RepS _ _ _ (lkS t' k) _
      rw [e]; trivial
    · have h1 := h.slot k
      have h2 := slotsPlain_lk hp k
      show RepS _ _ _ (lkS t' k) _
      rw [e] at h2 ⊢
      exact RepS.plain h1 h2
  · simp only [lkG_cons]
    split
    · rename_i e
      subst e
      skip
      exact .inr ⟨v,hvi,hrep⟩
    · rename_i hki
      split
      · rename_i e
        subst e
        rcases h.root k with h1 | ⟨u,r1,r2⟩
        · simp only [hb] at h1; cases h1
        · simp only [hb] at r2
          obtain ⟨b,off,us,rfl,l1,l2,l3,l4⟩ := r2
          refine .inr ⟨_,r1,b,off,us,rfl,l1,?_,by rw [List.length_set]; exact l3,by rw [List.length_set]; exact l4⟩
          exact reps_setSame (bxPlain_rep hpl l2) hk fun u hu => ⟨by rw [hvi,hu.1],hu.1 ▸ hu.2⟩
      · exact .inl rfl
  · by_cases hk : k = i
    · have hl : l ≠ i := fun e => hkl (by rw [hk,e])
      simp only [hk,if_true,if_neg hl]
      exact fun b o x y => h.disS l b o y (hGS b o x)
    · simp only [if_neg hk]
      by_cases hl : l = i
      · simp only [hl,if_true]
        exact fun b o x y => h.disS k b o x (hGS b o y)
      · simp only [if_neg hl]; exact h.dis k l hkl
  · by_cases hk : k = i
    · simp only [hk,if_true]
      exact fun b o x y => y.2 x
    · simp only [if_neg hk]
      exact fun b o x y => h.disS k b o x y.1
  · by_cases hk : k = i
    · simp only [hk,if_true]
      exact fun b o x => (h.newS b o (hGS b o x)).elim (fun hz => absurd hz fun hz => hGZ b o x hz) id
    · simp only [if_neg hk]; exact h.own k
  · by_cases hk : k = i
    · simp only [hk,if_true] at hb
      exact h.exS b o (hGS b o hb)
    · simp only [if_neg hk] at hb; exact h.ex k b o hb
theorem t_rcOf (x : α) (v : Value) (q : Nat) (hq : lkG h0 q = .opq (kbA Z z row L) []) (hm : (x,v) ∈ L) : Conv g ⟨t,h0,n⟩ ⟨t,(q,.opq (rcD Z [.sl true z (row x)] [v]) []) :: h0,n⟩ := t_opqLe q hq fun w S us F ⟨h1,h2,h3⟩ => by
  obtain ⟨G,k1,k2,k3,k4⟩ := h3 _ hm
  exact ⟨h1,h2,G,⟨⟨v,[],G,no,rfl,le_refl _,no_le _,dis_no _,k1,rfl⟩,k2,k3,k4⟩⟩
end
structure GdE where
  p : World → Foot → Bs → Array Value → Prop
  keep : ∀ {w w' : World} {S S' : Foot} {k : Bs} {vs : Array Value},p w S k vs → Agree w w' S → le S S' → p w' S' k vs
  one : ∀ {w : World} {S : Foot} {k : Bs} {vs : Array Value},p w S k vs → vs.toList.all Value.oneCell' = true
def knQ (Good : GdE) : Opq where
  p w S us F := ∃ b es c,us = [.map (some b)] ∧ mapAt w b = some (.map es c) ∧ stamps es c ∧ (∀ e ∈ es.toList,∃ k vs,e.key = sv k ∧ e.val = .agg vs ∧ Good.p w S k vs) ∧ ∀ o,F b o
  keep := by
    rintro w w' S S' F F' us ⟨b,es,c,h1,h2,h3,h4,h5⟩ hF hS hle hf
    refine ⟨b,es,c,h1,by rw [(hF b 0 (h5 0)).2.2,h2],h3,fun e he => ?_,fun o => hf _ _ (h5 o)⟩
    obtain ⟨k,vs,g1,g3,g4⟩ := h4 e he
    exact ⟨k,vs,g1,g3,Good.keep g4 hS hle⟩
theorem repCs_app {w : World} {S : Foot} {ρ : Env} {cs' : List C} {vs' : List Value} (h' : RepCs w S ρ cs' vs') : ∀ {cs : List C} {vs : List Value},RepCs w S ρ cs vs → RepCs w S ρ (cs ++ cs') (vs ++ vs')
  | [],vs,h => by simp only [RepCs] at h; subst h; exact h'
  | c :: cs,vs,h => by
    simp only [RepCs] at h
    obtain ⟨v,us,rfl,h1,h2⟩ := h
    exact ⟨v,us ++ vs',rfl,h1,repCs_app h' h2⟩
section
variable {P : Program} {g : Gh} {st : St} {Good : GdE}
variable {dst : Option Tmp} {ty : TypeId} {pos : String} {after : Array Edge} {guard : Option (Nat × Bool)} {x y z : Operand} {T kt et : TypeId} {i : Nat} {k : Bs}
theorem a_mkMapQ (Good : GdE) {i : Nat} : Acts P g ⟨dst,.makeMap T none,ty,pos,after,guard⟩ st (.one (.gv i)) [] [(i,.opq (knQ Good) [i])] := by
  refine ⟨fun a w S ρ F h hn K Q hK => ?_⟩
  have hn' : ρ i = none := by simpa using hn (i,.opq (knQ Good) [i]) (by simp)
  have hrun : (execOp a.eval ⟨dst,.makeMap T none,ty,pos,after,guard⟩).run P w = .ok (.value (.map (some w.heap.size))) (w.alloc (.map #[] 0)) := rfl
  refine oper_in (fun _ h => nomatch h) ?_
  rw [hrun,Oper.uponIn_value]
  refine hK (.map (some w.heap.size)) _ no _ _ (Done.new (u := .map (some w.heap.size)) (S1 := no) (G := fun b _ => b = w.heap.size) (keeps_alloc _) hn' (fun ρ' hl hu => ?_) (fun b o hb => by subst hb; exact ⟨Nat.le_refl _,by simp⟩)) ⟨by simp,rfl⟩
  refine ⟨[.map (some w.heap.size)],by simp [hu],w.heap.size,#[],0,rfl,by simp [mapAt,heap_alloc],⟨by simp,by simp⟩,by simp,fun _ => rfl⟩
theorem rel_mapQ {a : Act} {w : World} {S : Foot} {ρ : Env} {F : Nat → Foot} (h : Rel g st a w S ρ F) (hx : opd st x = .one (.gv i)) (hg : lkG st.h i = .opq (knQ Good) [i]) :
    ∃ b es c,a.eval x = .map (some b) ∧ ρ i = some (.map (some b)) ∧ w.heap[b]? = some (.map es c) ∧ (∀ e ∈ es.toList,∃ k vs,e.key = sv k ∧ e.val = .agg vs ∧ Good.p w S k vs) ∧ (∀ o,F i b o) ∧ stamps es c := by
  have h1 := (opd_one h hx).1
  rcases h.root i with h0 | ⟨u,r1,r2⟩
  · rw [hg] at h0; cases h0
  rw [hg] at r2
  obtain ⟨us,e1,b,es,c,rfl,e2,e3,e4,e5⟩ := r2
  simp only [List.map_cons,List.map_nil,List.cons.injEq,and_true] at e1
  rw [e1] at h1
  simp only [Option.some.injEq] at h1
  exact ⟨b,es,c,h1.symm,e1,mapAt_some e2,e4,e5,e3⟩
theorem o_lookQ {ops : Array Oper} {l : List Oper} {d : Nat} {zs : Array Value} {Q : Exit → St → Prop} (hx : opd st x = .one (.gv i)) (hg : lkG st.h i = .opq (knQ Good) [i]) (hy : opd st y = .one (str k)) (hT : P.underlying T = some (.map kt et)) (hk : P.underlying kt = some .string) (hz : zeroV P et = some (.agg zs)) (hz1 : zs.toList.all Value.oneCell' = true) (hd : Nat.blt d g.n = true)
    {Z : Foot} {z : Nat} {xs : List D} {pr po : List Value} (hnx : D.noOwn.all xs) (hsh : ∀ w S vs,Good.p w S k vs → le Z S ∧ ∃ v,vs = (pr ++ v :: po).toArray ∧ Bk w S Z z xs v) (hyes : GOps P g ops l ⟨(d,.tup [(true,(pr.map fun v => .d (.sc v)) ++ .gv st.n :: po.map fun v => .d (.sc v)),(false,[boo true])]) :: st.t,(st.n + 1,.opq (kb Z z xs) [st.n]) :: (st.n,.sh z xs) :: st.h,st.n + 2⟩ Q)
    (hno : GOps P g ops l (st.eff (some d) (.tup [(true,zs.toList.map fun v => .d (.sc v)),(false,[boo false])]) [] st.n) Q) :
    GOps P g ops (⟨some d,.lookup T x y true,ty,pos,after,none⟩ :: l) st Q := by
  refine ⟨fun a w S ρ F h hf => ?_⟩
  refine wpListIn_plain rfl fun K hK => ?_
  obtain ⟨b,es,c,e1,e0,e2,e3,e4,e5⟩ := rel_mapQ h hx hg
  have hd' : d < g.n := Nat.le_of_ble_eq_true hd
  have hzr : (zeroValue et).run P w = .ok (.agg zs) w := run_zeroV hz
  have key : ∃ v,(Instr.lookup T (a.eval x) (a.eval y) true).run P w = .ok v w ∧ ((v = .tuple #[.agg zs,.bool false]) ∨ ∃ vs,Good.p w S k vs ∧ v = .tuple #[.agg vs,.bool true]) := by
    rw [e1,opd_sc h hy]
    rcases findNow_K k es.toList 0 (fun e he => (e3 e he).imp fun k h => by obtain ⟨_,h,_⟩ := h; exact h) with g2 | ⟨j,e,g2,g3,g4⟩
    · refine ⟨_,?_,.inl rfl⟩
      simp [Instr.lookup,run_underlying hT,MapKept.run_getObj_map e2,MapKept.run_checkKey hk (mSB.isK k) es.isEmpty 9999,MapKept.run_findKey hk g2,hzr]
    · obtain ⟨k',vs,q1,q3,q4⟩ := e3 e (List.mem_of_getElem? g3)
      have : k' = k := mSB.inj _ _ (q1.symm.trans g4)
      subst this
      refine ⟨_,?_,.inr ⟨vs,q4,rfl⟩⟩
      rw [q3] at g2
      simp [Instr.lookup,run_underlying hT,MapKept.run_getObj_map e2,MapKept.run_checkKey hk (mSB.isK k') es.isEmpty 9999,MapKept.run_findKey hk g2]
  obtain ⟨v,hrun,hv⟩ := key
  have hrun' : (execOp a.eval ⟨some d,.lookup T x y true,ty,pos,after,none⟩).run P w = .ok (.value v) w := by
    show (do pure (.value (← Instr.lookup T (a.eval x) (a.eval y) true)) : Sem Next).run P w = _
    simp [hrun]
  refine oper_in (fun _ h => nomatch h) ?_
  rw [hrun',Oper.uponIn_value]
  rcases hv with rfl | ⟨vs,q1,rfl⟩
  · refine hK _ _ (hno.run _ _ _ _ _ (h.done (n := st.n) (dst := some d) (sv := .tup [(true,zs.toList.map fun v => .d (.sc v)),(false,[boo false])]) (Done.nil w S ρ F) (fun d' e => by cases e; exact hd') ?_) hf)
    exact ⟨_,rfl,.agg zs,[.bool false],rfl,⟨zs,rfl,repCs_sc hz1⟩,.bool false,[],rfl,⟨_,[],rfl,⟨rfl,rfl⟩,rfl⟩,rfl⟩
  · obtain ⟨e6,v,rfl,e7⟩ := hsh _ _ _ q1
    have hone := Good.one q1
    have h1 := h.done (n := st.n) (dst := some d) (v := .tuple #[.agg (pr ++ v :: po).toArray,.bool true]) (sv := .any) (Done.nil w S ρ F) (fun d' e => by cases e; exact hd') trivial
    rw [or_no] at h1
    obtain ⟨ρ1,l1,hv1,r1,r2⟩ := rel_newV (t := (d,.any) :: st.t) (h0 := st.h) (n := st.n) (gb := .sh z xs) (v := v) h1 (fun i hi => hf i hi) fun ρ' => e7.sh hnx
    obtain ⟨ρ2,l2,r3,r4⟩ := rel_newC (R := kb Z z xs) (cs := [st.n]) (us := [v]) r1 r2 (by simp [hv1]) ⟨e6,v,rfl,e7⟩
    have hv2 := l2 _ _ hv1
    refine hK _ _ (hyes.run _ w S ρ2 (mrg F F []) ?_ r4)
    have h5 := r3.setSlot (d := d) (sv := .tup [(true,(pr.map fun v => .d (.sc v)) ++ .gv st.n :: po.map fun v => .d (.sc v)),(false,[boo true])]) (by
      have hsz := h.size
      simp only [Option.elim,Act.put]
      have e8 : (a.tmps.setIfInBounds d (Value.tuple #[.agg (pr ++ v :: po).toArray,.bool true])).getD d undef = Value.tuple #[.agg (pr ++ v :: po).toArray,.bool true] := by
        rw [Array.getD_eq_getD_getElem?,Array.getElem?_setIfInBounds_self_of_lt (by omega)]
        rfl
      show RepS w S ρ2 _ ((a.tmps.setIfInBounds d _).getD d undef)
      rw [e8]
      refine ⟨_,rfl,.agg (pr ++ v :: po).toArray,[.bool true],rfl,⟨_,rfl,?_⟩,.bool true,[],rfl,⟨_,[],rfl,⟨rfl,rfl⟩,rfl⟩,rfl⟩
      rw [List.all_eq_true] at hone
      have hs1 : ∀ l : List Value,(∀ u ∈ l,u.oneCell' = true) → RepCs w S ρ2 (l.map fun v => .d (.sc v)) l := fun l hl => repCs_sc (List.all_eq_true.2 hl)
      have hcv : RepCs w S ρ2 (.gv st.n :: po.map fun v => .d (.sc v)) (v :: po) := ⟨v,po,rfl,⟨hv2,hone v (by simp)⟩,hs1 po fun u hu => hone u (by simp [hu])⟩
      exact repCs_app hcv (hs1 pr fun u hu => hone u (by simp [hu])))
    exact h5.same (fun i => by
      show lkS ((d,_) :: st.t) i = lkS ((d,_) :: (d,SV.any) :: st.t) i
      simp only [lkS_cons]
      split <;> rfl) (fun i => rfl)
theorem a_updQ {cs : List C} (hx : opd st x = .one (.gv i)) (hg : lkG st.h i = .opq (knQ Good) [i]) (hy : opd st y = .one (str k)) (hv : opd st z = .agg cs) (hgood : ∀ a w S ρ F vs,Rel g st a w S ρ F → RepCs w S ρ cs vs.toList → Good.p w S k vs) (hT : P.underlying T = some (.map kt et)) (hk : P.underlying kt = some .string) :
    Acts P g ⟨none,.mapUpdate T x y z,ty,pos,after,guard⟩ st .any [i] [(i,.opq (knQ Good) [i])] := by
  refine ⟨fun a w S ρ F h _ K Q hK => ?_⟩
  obtain ⟨b,es,c,e1,e0,e2,e3,e4,e5⟩ := rel_mapQ h hx hg
  have hbs : b < w.heap.size := (Array.getElem?_eq_some_iff.1 e2).1
  have hz := h.opd z
  rw [hv] at hz
  obtain ⟨vs',hvz,hvs⟩ := hz
  have hr := hgood a w S ρ F vs' h hvs
  have key : ∃ es' c',(Instr.mapUpdate T (a.eval x) (a.eval y) (a.eval z)).run P w = .ok () { w with heap := w.heap.setIfInBounds b (.map es' c') } ∧ (∀ e ∈ es'.toList,∃ k vs,e.key = sv k ∧ e.val = .agg vs ∧ Good.p w S k vs) ∧ stamps es' c' := by
    rw [e1,opd_sc h hy,hvz]
    rcases findNow_K k es.toList 0 (fun e he => (e3 e he).imp fun k h => by obtain ⟨_,h,_⟩ := h; exact h) with g2 | ⟨j,e,g2,g3,g4⟩
    · refine ⟨es.push { key := sv k,val := .agg vs',born := c },c + 1,?_,fun e he => ?_,stamps_push e5⟩
      · simp [Instr.mapUpdate,run_underlying hT,MapKept.run_getObj_map e2,MapKept.run_checkKey hk (mSB.isK k) false 9999,MapKept.run_findKey hk g2,MapKept.run_setObj_map _ e2]
      · simp only [Array.toList_push,List.mem_append,List.mem_singleton] at he
        rcases he with he | rfl
        · exact e3 e he
        · exact ⟨k,_,rfl,rfl,hr⟩
    · rw [Nat.zero_add] at g2
      have g3' : es[j]? = some e := by simpa using g3
      refine ⟨es.modify j fun e => { e with key := sv k,val := .agg vs' },c,?_,fun x hx => ?_,stamps_modify e5⟩
      · simp [Instr.mapUpdate,run_underlying hT,MapKept.run_getObj_map e2,MapKept.run_checkKey hk (mSB.isK k) false 9999,MapKept.run_findKey hk g2,g3',g4,MapKept.run_keyThatStays (mSB.isK k),MapKept.run_setObj_map _ e2]
      · rw [arr_modify] at hx
        obtain ⟨q,hq⟩ := List.getElem?_of_mem hx
        rw [List.getElem?_modify] at hq
        cases hqe : es.toList[q]? with
        | none => rw [hqe] at hq; simp at hq
        | some e' =>
          rw [hqe] at hq
          simp only [Option.map_eq_map,Option.map_some,Option.some.injEq] at hq
          subst hq
          split
          · exact ⟨k,_,rfl,rfl,hr⟩
          · exact e3 e' (List.mem_of_getElem? hqe)
  obtain ⟨es',c',hrun,hes,hst⟩ := key
  have hrun' : (execOp a.eval ⟨none,.mapUpdate T x y z,ty,pos,after,guard⟩).run P w = .ok .skip { w with heap := w.heap.setIfInBounds b (.map es' c') } := by
    show (do Instr.mapUpdate T (a.eval x) (a.eval y) (a.eval z); pure .skip : Sem Next).run P w = _
    simp [hrun]
  refine oper_in (fun _ h => nomatch h) ?_
  rw [hrun',Oper.uponIn_skip]
  have hk' := (keeps_map (es' := es') (c' := c') e2).mono (F1 := F i) (by rintro b' o rfl; exact e4 o)
  have hagS := hk'.agree h.exS (fun b o hb hf => h.disS i b o hf hb)
  refine hK undef _ no ρ _ (Done.chg (G := F i) hk' e0 ?_ (fun b o hb => ⟨.inl hb,by simpa using h.ex i b o hb⟩)) trivial
  refine ⟨[.map (some b)],by simp [e0],b,es',c',rfl,by simp [mapAt,(heap_set (o' := .map es' c') e2).1],hst,fun e he => ?_,e4⟩
  obtain ⟨k,vs,q1,q3,q4⟩ := hes e he
  exact ⟨k,vs,q1,q3,Good.keep q4 hagS (le_refl _)⟩
end
end Go.Proofs.YtighjcjmacajoaaGreatDoor
end
section
set_option linter.unusedVariables false
set_option linter.unusedSimpArgs false
set_option maxRecDepth 100000
namespace Go.Proofs.YtighjcjmacajoaaGreatDoor
open Go Foot
theorem zeroCells_one (v : Value) (n : Nat) : (Builtin.zeroCells #[v] n).toList = List.replicate n v := by
  apply List.ext_getElem
  · simp [Builtin.zeroCells]
  · intro i h1 h2
    simp [Builtin.zeroCells,Nat.mod_one]
section
variable {P : Program} {g : Gh} {st : St} {dst : Option Tmp} {ty : TypeId} {pos : String} {after : Array Edge} {guard : Option (Nat × Bool)} {x : Operand} {T et : TypeId}
theorem reps_repl {α : Type} {E : Enc α} {k0 : α} {v0 : Value} {w : World} {S : Foot} (hk : E.enc k0 = [.sc v0]) (h1 : v0.oneCell' = true) : ∀ n,Reps w S (rows E (List.replicate n k0)) (List.replicate n v0) no
  | 0 => rfl
  | n + 1 => by
    rw [List.replicate_succ,rows_cons,hk,List.replicate_succ]
    exact ⟨v0,_,no,no,rfl,le_refl _,le_refl _,no_dis _,⟨rfl,h1⟩,reps_repl hk h1 n⟩
theorem run_cl {a : Act} {w w' : World} {v v1 : Value} (e1 : a.eval x = v1) (h : (Builtin.clear_ #[T] ty #[v1]).run P w = .ok v w') : (execOp a.eval ⟨dst,.call { callee := .builtin .clear,args := #[x],argTypes := #[T] },ty,pos,after,guard⟩).run P w = .ok (.value v) w' := by
  simp only [execOp,resolve,invoke,builtin]
  simp [e1,h,builtin]
theorem a_clearG {α : Type} {E : Enc α} {l l' : List α} {i lo hi : Nat} (k0 : α) (v0 : Value) (hk : E.enc k0 = [.sc v0]) (hx : opd st x = .one (.gs i 1 lo hi)) (hg : lkG st.h i = .row 1 (rows E l)) (hz : E.z = 1) (hT : P.underlying T = some (.slice et)) (hv : zeroV P et = some v0) (hc : v0.cells = #[v0]) (h1 : v0.oneCell' = true) (hl : hi ≤ l.length) (he : l.take lo ++ List.replicate (hi - lo) k0 ++ l.drop hi = l') :
    Acts P g ⟨dst,.call { callee := .builtin .clear,args := #[x],argTypes := #[T] },ty,pos,after,guard⟩ st .any [i] [(i,.row 1 (rows E l'))] := by
  subst he
  refine ⟨fun a w S ρ F h _ K Q hK => ?_⟩
  obtain ⟨ad,len,cap,r1,e1,e2,e3,e4⟩ := rel_row h hg
  obtain ⟨ad1,len1,cap1,q1,q2,q3,q4⟩ := opd_one h hx
  rw [r1] at q1
  simp only [Option.some.injEq,Value.slice.injEq] at q1
  obtain ⟨rfl,rfl,rfl⟩ := q1
  rw [rows_len,hz,Nat.mul_one,Nat.mul_one] at e1
  have hkl : (List.replicate (hi - lo) k0).length = hi - lo := List.length_replicate
  have hdr : lo + (hi - lo) = hi := by omega
  refine oper_in (fun _ h => nomatch h) ?_
  by_cases h0 : hi - lo = 0
  · have hrun := run_cl (P := P) (w := w) (T := T) (dst := dst) (ty := ty) (pos := pos) (after := after) (guard := guard) (v := .tuple #[]) (w' := w) q4 (by
      rw [h0]
      simp only [Builtin.clear_]
      cases (if cap = lo then ad else ad.map (·.add (lo * 1))) <;> simp [run_underlying hT])
    rw [hrun,Oper.uponIn_value]
    have := copy_same (E := E) (k := List.replicate (hi - lo) k0) (lo := lo) h (by rw [hz]; exact hg) (by rw [hkl,h0])
    rw [hkl,hdr,hz] at this
    exact hK _ w no ρ _ this trivial
  · rcases e4 with ⟨e5,_⟩ | ⟨b,off,vs,G,rfl,f1,f2,f3,f4,f5,f6⟩
    · omega
    have hcl : ¬ cap = lo := by omega
    have hadd : ∀ k,(Addr.mk b off none).add k = ⟨b,off + k,none⟩ := by intro k; unfold Addr.add; split <;> simp_all
    rw [if_neg hcl] at q4
    simp only [Option.map_some,hadd] at q4
    have hus : Reps w S (rows E (List.replicate (hi - lo) k0)) (List.replicate (hi - lo) v0) no := reps_repl hk h1 _
    obtain ⟨m,hm⟩ : ∃ m,hi - lo = m + 1 := ⟨hi - lo - 1,by omega⟩
    have hrun := run_cl (P := P) (w := w) (T := T) (dst := dst) (ty := ty) (pos := pos) (after := after) (guard := guard) (v := .tuple #[]) (w' := w.setCells b (off + lo * 1) (List.replicate (hi - lo) v0)) q4 (by
      have h3 := run_storeCells_cells (P := P) b (off + lo * 1) (List.replicate (hi - lo) v0) 0 w (fun j hj => by
        rw [List.length_replicate] at hj
        have := (f6 (lo + j) (by omega)).1
        rwa [show off + lo * 1 + 0 + j = off + (lo + j) by omega]) (fun j hj => by
        rw [List.length_replicate] at hj
        have := (f6 (lo + j) (by omega)).2
        rwa [show off + lo * 1 + 0 + j = off + (lo + j) by omega]) (fun v hv => by rw [List.eq_of_mem_replicate hv]; exact h1)
      rw [Nat.add_zero] at h3
      simp only [Nat.mul_one] at h3 ⊢
      rw [hm] at h3 ⊢
      simp [Builtin.clear_,run_underlying hT,run_zeroV hv,hc,zeroCells_one,h3])
    rw [hrun,Oper.uponIn_value]
    have := copy_core (E := E) (l := l) (k := List.replicate (hi - lo) k0) (lo := lo) (len := len) (cap := cap) h (by rw [hkl]; omega) hus r1 (by rw [rows_len,e1,hz]) e3 f1 f2 (by rw [hz]; exact f3) f4 (by rw [hz]; exact f5) (by rw [hz]; exact f6) (by rw [hkl]; omega)
    rw [hkl,hdr,hz] at this
    exact hK _ _ no ρ _ this trivial
end
section
variable {P : Program} {g : Gh} {t : List (Nat × SV)} {h0 : List (Nat × GB)} {n q : Nat} {Z : Foot} {ps : List (List Int)} {vs : List Value} {v : Value} {p : List Int}
theorem Back.nth {w : World} {S G : Foot} (h : Back w S Z G ps vs) {j : Nat} (hv : vs[j]? = some v) (hp : ps[j]? = some p) : Bk w S Z 1 (rows eI p) v := by
  have : (rows eO1 ps)[j]? = some (.sl true 1 (rows eI p)) := by
    have : ∀ (ps : List (List Int)) (j : Nat),ps[j]? = some p → (rows eO1 ps)[j]? = some (.sl true 1 (rows eI p)) := by
      intro ps
      induction ps with
      | nil => intro j h; simp at h
      | cons x ps ih =>
        intro j h
        rw [rows_cons]
        cases j with
        | zero => simp at h; subst h; rfl
        | succ j => exact ih j (by simpa using h)
    exact this ps j hp
  obtain ⟨v',F1,e1,e2,e3⟩ := h.r.nth this
  rw [hv] at e1
  obtain rfl := Option.some.inj e1
  exact ⟨F1,e3,e2.trans h.s,h.z.le e2 (le_refl _),fun t ht o hh => h.t t ht o (e2 _ _ hh)⟩
theorem t_telR (d q j : Nat) (p : List Int) (hs : lkS t d = .one (.d (.sc v))) (hq : lkG h0 q = .opq (rcs Z ps vs) []) (hv : vs[j]? = some v) (hp : ps[j]? = some p) : Conv g ⟨t,h0,n⟩ ⟨(d,.one (.d (.sl false 1 (rows eI p)))) :: t,h0,n⟩ := t_cell1 d hs fun a w S ρ F u hr h => by
  obtain ⟨hZ,G,hB⟩ := rel_rcs hr hq
  obtain ⟨h1,h2⟩ := h
  subst h1
  exact (hB.nth hv hp).sh (noOwnI p)
end
end Go.Proofs.YtighjcjmacajoaaGreatDoor
end
section
set_option linter.unusedVariables false
set_option linter.unusedSimpArgs false
set_option maxRecDepth 100000
set_option maxHeartbeats 4000000
namespace Go.Proofs.YtighjcjmacajoaaGreatDoor
open Go Foot
@[irreducible] def wuP (st sy B depth : Int) (q : List Int) : Bool := decide ((q.length : Int) = depth) || !decide (ndS ((pth B (root sy st) q).getD mach0) B = 0)
@[irreducible] def wuL (st sy B depth : Int) : List (List Int) := if sctC st sy B depth = 0 then (blL st sy B depth []).filter (wuP st sy B depth) else []
theorem wu_ask {st sy B depth : Int} (h : ¬ askT st sy B = 0) : sctC st sy B depth = askT st sy B ∧ wuL st sy B depth = [] := by
  obtain ⟨e,_⟩ := sct_ask (depth := depth) h
  refine ⟨e,?_⟩
  unfold wuL; rw [e,if_neg h]
theorem wu_dep {st sy B depth : Int} (h : askT st sy B = 0) (h2 : ¬ (0 ≤ depth ∧ depth ≤ 36)) : sctC st sy B depth = 2 ∧ wuL st sy B depth = [] := by
  obtain ⟨e,_⟩ := sct_dep h h2
  refine ⟨e,?_⟩
  unfold wuL; rw [e]; rfl
theorem wu_fit {st sy B depth : Int} {T : List (List Int)} (hc : sctC st sy B depth = 0) (hb : blL st sy B depth [] = T) : wuL st sy B depth = T.filter (wuP st sy B depth) := by
  unfold wuL; rw [hc,if_pos rfl,hb]
theorem wu_full {st sy B depth : Int} (hc : sctC st sy B depth = 5) : wuL st sy B depth = [] := by
  unfold wuL; rw [hc]; rfl
end Go.Proofs.YtighjcjmacajoaaGreatDoor
end
section
set_option linter.unusedVariables false
set_option linter.unusedSimpArgs false
set_option maxRecDepth 100000
set_option maxHeartbeats 4000000
namespace Go.Proofs.YtighjcjmacajoaaGreatDoor
open Go Foot
theorem preB113 {p : Prop} (h : p := by first | with_reducible assumption | omega | (simp only [List.length_append,List.length_cons,List.length_nil,List.length_set,List.length_replicate,List.length_take,List.length_drop,List.length_tail,List.length_dropLast,List.length_reverse] at *; omega) | exact mem_len (by assumption) (by omega) | (with_reducible refine Int.le_trans (Int.ofNat_le.2 (trimR_len _)) ?_; simp only [List.length_cons,List.length_tail]; omega) | (exact (ruAt_ok (by assumption) (by assumption) (by assumption)).2.1) | (exact (ruAt_ok (by assumption) (by assumption) (by assumption)).2.1) | (have := vMach_bd (by assumption); omega) | (simp only [mC_ch,mC_tu]; omega) | (have := vTag_bd (by assumption); omega) | (have := (‹Gd _ _›).le; omega) | (exact tgHalts_no (by assumption)) | (exact tgHead (by assumption) (by assumption) (by assumption)) | (exact Int.le_trans (tgStep_gd (by assumption) (by assumption) (by assumption) (by assumption)).le (by decide)) | (exact vTag_r (by assumption)) | (with_reducible refine Int.le_trans (Int.ofNat_le.2 (pushL_len _ _)) ?_; simp only [List.length_dropLast]; omega) | exact ls_at (by assumption) (by omega) | exact pt_gd (by assumption) | exact lv_at (by assumption) (by omega) | exact pt_gd (lv_at (by assumption) (by omega)) | exact (ask_ok (by assumption)).1 | exact (ask_ok (by assumption)).2.1 | exact (ask_ok (by assumption)).2.2.1 | exact (ask_ok (by assumption)).2.2.2 | trivial) : p := h
theorem wuFn_ok (st sy B depth : Int) (Z : Foot) (ps : List (List Int)) (vs : List Value) (j : Nat) (q : List Int) (v : Value) (y : Mach) (h1 : 1 ≤ st) (h2 : st ≤ 6) (h3 : 2 ≤ sy) (h4 : sy ≤ 6) (h5 : 0 ≤ B) (h6 : B ≤ 1000000) (hv : vs[j]? = some v) (hq : ps[j]? = some q) (hy : pth B (root sy st) q = some y) (hld : (q.length : Int) ≤ depth) (hd : depth ≤ 36) : Does Tryz.prog 62 [.one (.d (.sc v)),.one (.gv 3),.one (.gv 2)] [.bx (foC st sy B 0),foM B sy st 1,.bx [int depth],.bx [.gv 0],.opq (rcs Z ps vs) []] (.one (boo (!wuP st sy B depth q))) [.bx (foC st sy B 0),foM B sy st 1,.bx [int depth],.bx [.gv 0],.opq (rcs Z ps vs) []] := by
  have hql2 : (q.length : Int) ≤ 1048576 := by omega
  obtain ⟨L,hL,hLl,hLg⟩ := pthL_some hy
  have hg : L[((q.length : Nat) : Int).toNat]'(by omega) = y := by
    have := hLg ((q.length : Nat) : Int).toNat (by omega)
    rw [List.take_of_length_le (by simp),hy] at this
    exact (Option.some.inj this).symm
  have hw : wuP st sy B depth q = (decide ((q.length : Int) = depth) || !decide (ndS (L[((q.length : Nat) : Int).toNat]'(by omega)) B = 0)) := by unfold wuP; rw [hy,hg]; rfl
  rw [hw]
  refine does_of (k := 5) Tryz.func62 rfl Tryz.ntmps62 rfl rfl fun w F0 S0 ρ0 => ?_
  dsimp only [argT,argH]
  refine g_conv (t_telR 0 4 j q rfl rfl hv hq) ?_
  repeat' first|(apply p3;(exact pu1);exact rfl)|refine cdn ?_|refine g_reg (id := 0) ?_|refine g_reg (id := 1) ?_|(apply c4 1;exact callK0 (θ := [0,1]) (hD := (at_f_ok st sy B q hql2 preB113 preB113 preB113 preB113 preB113 preB113));exact rfl;exact rfl;exact rfl;refine dM ?_)
  simp only [hL,Option.isSome_some,Option.getD_some]
  repeat' first|refine cd ?_|(apply g_drN (id := 2) okM [[],[0],[],[0,1,2],[0,1,2,3],[0,1,2,3,4],[0,1,2,3,4],[0,1,2,3,4,6],[0,1,2,3,4,5,6,7],[0,1,2,3,4,5,6,7,8],[0,1,2,3,4,5,6,7,8,9],[0,1,2,3,4,5,6,7,8,9,10],[0,1,2,3,4,5,6,7,8,9,10,11],[0,1,2,3,4,5,6,7,8,9,10,11,12]] [([],[]),([],[]),([],[]),([],[]),([],[]),([],[]),([],[]),([],[]),([],[]),([],[]),([],[]),([],[]),([],[]),([],[])] 0;(focus (all_goals refine dp 0 0 [15] [] pu1 ?_;all_goals refine dp 1 1 [15] [] (by exact callD1 (n := _) 0 (θ := []) (hD := (sizeI_ok _ preB113))) ?_;all_goals refine dp 2 0 [13,14] [] (by exact puL) ?_;all_goals refine dp 3 7 [] [] puC ?_;all_goals (refine db 4 15 [] [] pu1 ?_ ?_ <;> (intro hc;first|cases hc|(try simp only [dcB] at hc);first|contradiction|(exfalso;omega)|skip));all_goals (first|refine dn 5 31 [19,20] [] ?_|refine dpy 5 31 [19,20] [] pu1 ?_);all_goals (first|refine dn 6 62 [18] [] ?_|refine dpy 6 62 [18] [] pu1 ?_);all_goals (first|refine dn 7 125 [18] [] ?_|refine dpy 7 125 [18] [] (by first|exact puN|exact a_pure (sv := .one _) rfl|exact a_len_str rfl (fT rfl)) ?_);all_goals (first|refine dn 8 255 [] [] ?_|refine dpy 8 255 [] [] puI ?_);all_goals (first|refine dn 9 511 [] [] ?_|refine dpy 9 511 [] [] (a_pure (sv := .one _) rfl) ?_);all_goals (first|refine dn 10 1023 [] [] ?_|refine dpy 10 1023 [] [] (by first|exact a_ldE (E := (eNd B)) 0 rfl rfl rfl (fC rfl) rfl rfl (Nat.le_of_ble_eq_true rfl) bnd rfl (by first|exact trivial|exact rfl)|exact a_ldE (E := (eNd B)) 1 rfl rfl rfl (fC rfl) rfl rfl (Nat.le_of_ble_eq_true rfl) bnd rfl (by first|exact trivial|exact rfl)|exact a_ldE (E := (eNd B)) 2 rfl rfl rfl (fC rfl) rfl rfl (Nat.le_of_ble_eq_true rfl) bnd rfl (by first|exact trivial|exact rfl)|exact a_ldE (E := (eNd B)) 3 rfl rfl rfl (fC rfl) rfl rfl (Nat.le_of_ble_eq_true rfl) bnd rfl (by first|exact trivial|exact rfl)|exact a_ldE (E := (eNd B)) 4 rfl rfl rfl (fC rfl) rfl rfl (Nat.le_of_ble_eq_true rfl) bnd rfl (by first|exact trivial|exact rfl)|exact puL) ?_);all_goals (first|refine dn 11 2047 [] [] ?_|refine dpy 11 2047 [] [] (by first|exact puC|exact a_eqS rfl rfl rfl) ?_);all_goals refine dp 12 4095 [] [] (a_pure (sv := .one _) rfl) ?_;all_goals refine dp 13 8191 [] [] pu1 ?_;all_goals (refine d_nil ?_;refine dN ?_)));any_goals kernel_rfl)
  all_goals
    repeat refine cr ?_
    refine ends_id ?_
    refine endK [] (h2 := ?_) (h3 := ?_) (nd := ?_)
    all_goals (repeat' first|exact ce0|refine ce ?_|refine ce2 ?_ ?_|(refine Or.inr (bx_eq rfl rfl ?_);(try dsimp only [C.ren,C.ren.all]);(try exact rfl))|exact SVLe.refl|refine ceb ?_)
    all_goals first | exact (show nodupB _ = true from rfl) | exact Or.inr rfl | ((simp_all <;> omega))
def fstF (P : List Int → Bool) : List (List Int) → Int → Int
  | [],_ => -1
  | q :: l,i => if P q = false then i else fstF P l (i + 1)
theorem fstF_next {P : List Int → Bool} {ps : List (List Int)} {i : Int} (h0 : 0 ≤ i) (h : i.toNat < ps.length) : fstF P (ps.drop i.toNat) i = if P ps[i.toNat] = false then i else fstF P (ps.drop (i + 1).toNat) (i + 1) := by
  rw [drop_get h0 h,fstF]
theorem fstF_spec {P : List Int → Bool} : ∀ (ps : List (List Int)) (i : Int),(fstF P ps i = -1 ∨ i ≤ fstF P ps i) ∧ (0 ≤ i → fstF P ps i = -1 → ∀ q ∈ ps,P q = true) ∧ (0 ≤ i → ¬ fstF P ps i = -1 → ∃ k : Nat,fstF P ps i = i + k ∧ ∃ hk : k < ps.length,P ps[k] = false ∧ ∀ q ∈ ps.take k,P q = true)
  | [],i => ⟨.inl rfl,fun _ _ q hq => (by cases hq),fun _ h => absurd rfl h⟩
  | q :: l,i => by
    obtain ⟨a,b,c⟩ := fstF_spec (P := P) l (i + 1)
    rw [fstF]
    split
    · rename_i h
      exact ⟨.inr (Int.le_refl _),fun h0 he => by omega,fun _ _ => ⟨0,by simp,by simp,h,fun x hx => by simp at hx⟩⟩
    · rename_i h
      have hp : P q = true := by simpa using h
      refine ⟨a.imp id fun h => by omega,fun h0 he x hx => ?_,fun h0 hn => ?_⟩
      · rcases List.mem_cons.1 hx with rfl | hx
        · exact hp
        · exact b (by omega) he x hx
      · obtain ⟨k,k1,k2,k3,k4⟩ := c (by omega) hn
        refine ⟨k + 1,by omega,by simpa using k2,k3,fun x hx => ?_⟩
        rw [List.take_succ_cons] at hx
        rcases List.mem_cons.1 hx with rfl | hx
        · exact hp
        · exact k4 x hx
def NdsOk (st sy B depth : Int) (ps : List (List Int)) : Prop := ∀ q ∈ ps,(∃ y,pth B (root sy st) q = some y) ∧ (q.length : Int) ≤ depth
theorem idxF_ok (st sy B depth : Int) (Z : Foot) (ps : List (List Int)) (vs : List Value) (h1 : 1 ≤ st) (h2 : st ≤ 6) (h3 : 2 ≤ sy) (h4 : sy ≤ 6) (h5 : 0 ≤ B) (h6 : B ≤ 1000000) (hd : depth ≤ 36) (hvs : vs.length = ps.length) (hl : (ps.length : Int) ≤ 400) (hps : NdsOk st sy B depth ps) : Does Tryz.prog 126 [.one (.gv 4),.one (.fn (.func 62) [.gv 3,.gv 2])] [.bx (foC st sy B 0),foM B sy st 1,.bx [int depth],.bx [.gv 0],.row 1 (rows eVv vs),.opq (rcs Z ps vs) []] (.one (int (fstF (wuP st sy B depth) ps 0))) [.bx (foC st sy B 0),foM B sy st 1,.bx [int depth],.bx [.gv 0],.row 1 (rows eVv vs),.opq (rcs Z ps vs) []] := by
  refine does_of (k := 6) Tryz.func126 rfl Tryz.ntmps126 rfl rfl fun w F0 S0 ρ0 => ?_
  dsimp only [argT,argH]
  repeat' first|(apply p3;(first|exact pu1|exact puN);exact rfl)|refine cd ?_
  refine g_loop_id ?_
  refine loopK [0,1,4,7] [] (fun i : Int => 0 ≤ i ∧ i ≤ ps.length ∧ fstF (wuP st sy B depth) (ps.drop i.toNat) i = fstF (wuP st sy B depth) ps 0) (fun i => [(8,.one (int i))]) (fun _ => []) (fun i => (ps.length - i).toNat) (0 : Int) [0,1,2,3,4,5] (hI := ?_) (hr := ?_)
  · exact ⟨by omega,by omega,by simp⟩
  · rintro i ⟨k0,k1,k2⟩
    dsimp only [List.cons_append,List.nil_append] at *
    skip
    repeat' first|(apply p3;(exact puC);exact rfl)|refine cdn ?_|refine g_reg (id := 2) ?_|((refine g_cond rfl (fun hc => ?_) (fun hc => ?_)) <;> (try simp only [dcB] at hc) <;> (try first|contradiction|(exfalso;omega)))
    · have hi : i.toNat < ps.length := by omega
      obtain ⟨⟨y,hy⟩,hql⟩ := hps _ (List.getElem_mem hi)
      have hv : vs[i.toNat]? = some (vs[i.toNat]'(by omega)) := List.getElem?_eq_getElem (by omega)
      have hq : ps[i.toNat]? = some (ps[i.toNat]'hi) := List.getElem?_eq_getElem hi
      have hn := fstF_next (P := wuP st sy B depth) k0 hi
      rw [k2] at hn
      have hvi : i.toNat < vs.length := by omega
      repeat' first|(apply p3;(first|exact pu1|exact a_ldE (E := eVv) 0 rfl rfl rfl (fC rfl) rfl rfl (Nat.le_of_ble_eq_true rfl) bnd rfl (by first|exact trivial|exact rfl)|exact a_add rfl rfl (by omega) (by omega)|exact puI);exact rfl)|refine cd ?_|(apply c4 0;exact callK0 (θ := [0,1,2,3,5]) (hD := ((wuFn_ok st sy B depth Z ps vs i.toNat (ps[i.toNat]'hi) (vs[i.toNat]'hvi) y h1 h2 h3 h4 h5 h6 hv hq hy hql hd)));exact rfl;exact rfl;exact rfl;refine dM ?_)|((refine g_cond rfl (fun hc => ?_) (fun hc => ?_)) <;> (try simp only [dcB] at hc) <;> (try first|contradiction|(exfalso;omega)))
      · rw [if_pos (by simpa using hc)] at hn
        rw [hn]
        repeat refine cr ?_
        refine ends_id ?_
        refine endK [] (h2 := ?_) (h3 := ?_) (nd := ?_)
        all_goals (repeat' first|exact ce0|refine ce ?_|refine ce2 ?_ ?_|(refine Or.inr (bx_eq rfl rfl ?_);(try dsimp only [C.ren,C.ren.all]);(try exact rfl))|exact SVLe.refl|refine ceb ?_)
        all_goals first | exact (show nodupB _ = true from rfl) | exact Or.inr rfl | (rfl)
      · rw [if_neg (by simp_all)] at hn
        refine q_again (i + 1) [0,1,2,3,4,5] (by exact stk) ?_ ?_
        · exact ⟨by omega,by omega,hn.symm⟩
        · omega
    · rw [← k2,List.drop_of_length_le (by omega)]
      repeat' first|(apply p3;(exact pu1);exact rfl)|refine cd ?_
      repeat refine cr ?_
      refine ends_id ?_
      refine endK [] (h2 := ?_) (h3 := ?_) (nd := ?_)
      all_goals (repeat' first|exact ce0|refine ce ?_|refine ce2 ?_ ?_|(refine Or.inr (bx_eq rfl rfl ?_);(try dsimp only [C.ren,C.ren.all]);(try exact rfl))|exact SVLe.refl|refine ceb ?_)
      all_goals first | exact (show nodupB _ = true from rfl) | exact Or.inr rfl | (rfl)
def kv (P : List Int → Bool) (ps : List (List Int)) (vs : List Value) : List Value := ((ps.zip vs).filter fun x => P x.1).map (·.2)
theorem kept_kv (P : List Int → Bool) : ∀ {ps : List (List Int)} {vs : List Value},vs.length = ps.length → Kept ps vs (ps.filter P) (kv P ps vs)
  | [],[],_ => .nil
  | [],_ :: _,h => by simp at h
  | _ :: _,[],h => by simp at h
  | p :: ps,v :: vs,h => by
    have ih := kept_kv P (ps := ps) (vs := vs) (by simpa using h)
    unfold kv at ih ⊢
    rw [List.zip_cons_cons,List.filter_cons,List.filter_cons]
    cases hp : P p with
    | true => simp only [if_true,List.map_cons]; exact .keep ih
    | false => simp only [Bool.false_eq_true,if_false]; exact .skip ih
theorem kv_next {P : List Int → Bool} {ps : List (List Int)} {vs : List Value} {j : Int} (h0 : 0 ≤ j) (h : j.toNat < ps.length) (h' : j.toNat < vs.length) : kv P (ps.take (j + 1).toNat) (vs.take (j + 1).toNat) = if P ps[j.toNat] = true then kv P (ps.take j.toNat) (vs.take j.toNat) ++ [vs[j.toNat]] else kv P (ps.take j.toNat) (vs.take j.toNat) := by
  unfold kv
  rw [show (j + 1).toNat = j.toNat + 1 by omega,List.take_succ_eq_append_getElem h,List.take_succ_eq_append_getElem h',List.zip_append (by rw [List.length_take,List.length_take]; omega),List.filter_append,List.map_append]
  cases hp : P ps[j.toNat] with
  | true => simp [hp]
  | false => simp [hp]
theorem kv_all {P : List Int → Bool} : ∀ {ps : List (List Int)} {vs : List Value},vs.length = ps.length → (∀ q ∈ ps,P q = true) → kv P ps vs = vs
  | [],[],_,_ => rfl
  | [],_ :: _,h,_ => by simp at h
  | _ :: _,[],h,_ => by simp at h
  | p :: ps,v :: vs,h,hp => by
    have ih := kv_all (P := P) (ps := ps) (vs := vs) (by simpa using h) (fun q hq => hp q (by simp [hq]))
    unfold kv at ih ⊢
    rw [List.zip_cons_cons,List.filter_cons,if_pos (hp p (by simp)),List.map_cons,ih]
theorem delF_ok (st sy B depth : Int) (Z : Foot) (ps : List (List Int)) (h1 : 1 ≤ st) (h2 : st ≤ 6) (h3 : 2 ≤ sy) (h4 : sy ≤ 6) (h5 : 0 ≤ B) (h6 : B ≤ 1000000) (hd : depth ≤ 36) (hl : (ps.length : Int) ≤ 400) (hps : NdsOk st sy B depth ps) : Does Tryz.prog 61 [.one (.gv 4),.one (.fn (.func 62) [.gv 3,.gv 2])] [.bx (foC st sy B 0),foM B sy st 1,.bx [int depth],.bx [.gv 0],thR Z ps 4] (.one (.gv 5)) [.bx (foC st sy B 0),foM B sy st 1,.bx [int depth],.bx [.gv 0],.dead,thR Z (ps.filter (wuP st sy B depth)) 5] := by
  obtain ⟨f1,f2,f3⟩ := fstF_spec (P := wuP st sy B depth) ps 0
  refine does_of (k := 5) Tryz.func61 rfl Tryz.ntmps61 rfl rfl fun w F0 S0 ρ0 => ?_
  dsimp only [argT,argH]
  refine g_openT (i := 4) rfl rfl (fun vs hvs => ?_)
  repeat' first|(apply p3;(first|exact pu1|exact puC);exact rfl)|refine cd ?_|(apply c4 0;exact callK0 (θ := [0,1,2,3,4,5]) (hD := (idxF_ok st sy B depth Z ps vs h1 h2 h3 h4 h5 h6 hd hvs hl hps));exact rfl;exact rfl;exact rfl;refine dM ?_)
  by_cases hm : fstF (wuP st sy B depth) ps 0 = -1
  · have hall : ps.filter (wuP st sy B depth) = ps := List.filter_eq_self.2 (f2 (Int.le_refl _) hm)
    rw [hall]
    simp only [hm]
    refine g_conv (t_shutT (j := 4) (q := 5) rfl rfl (Kept.all hvs) rfl) ?_
    repeat' first|(apply p3;(exact pu1);exact rfl)|refine cd ?_
    repeat refine cr ?_
    refine ends_id ?_
    refine endK [?_] (h2 := ?_) (h3 := ?_) (nd := ?_)
    rotate_left 1
    all_goals (repeat' first|exact ce0|refine ce ?_|refine ce2 ?_ ?_|(refine Or.inr (bx_eq rfl rfl ?_);(try dsimp only [C.ren,C.ren.all]);(try exact rfl))|exact SVLe.refl|refine ceb ?_)
    all_goals first | exact (show nodupB _ = true from rfl) | exact Or.inr rfl | (rfl)
  · obtain ⟨k,k1,k2,k3,k4⟩ := f3 (Int.le_refl _) hm
    rw [Int.zero_add] at k1
    simp only [k1]
    repeat' first|(apply p3;(first|exact pu1|exact a_add rfl rfl (by omega) (by omega));exact rfl)|refine cd ?_
    refine g_loop_id ?_
    refine loopK [0,1,4] [4] (fun y : Int × Int × List Value => 0 ≤ y.1 ∧ y.1 < y.2.1 ∧ y.2.1 ≤ ps.length ∧ y.2.2.length = ps.length ∧ y.2.2.take y.1.toNat = kv (wuP st sy B depth) (ps.take y.2.1.toNat) (vs.take y.2.1.toNat) ∧ y.2.2.drop y.2.1.toNat = vs.drop y.2.1.toNat) (fun y => [(5,.one (int y.1)),(6,.one (int y.2.1))]) (fun y => [(4,.row 1 (rows eVv y.2.2))]) (fun y => (ps.length - y.2.1).toNat) ((k : Int),(k : Int) + 1,vs) [0,1,2,3,4,5] (hI := ?_) (hr := ?_)
    · refine ⟨by dsimp only; omega,by dsimp only; omega,by dsimp only; omega,hvs,?_,rfl⟩
      dsimp only
      have hk := kv_next (P := wuP st sy B depth) (ps := ps) (vs := vs) (j := (k : Int)) (by omega) (by simp; omega) (by simp; omega)
      rw [hk,if_neg (by simp [k3]),kv_all (by rw [List.length_take,List.length_take]; omega) (by simpa using k4)]
    · rintro ⟨i,j,cur⟩ ⟨m0,m1,m2,m3,m4,m5⟩
      dsimp only [List.cons_append,List.nil_append] at *
      skip
      repeat' first|(apply p3;(first|exact pu1|exact puN|exact puC);exact rfl)|refine cdn ?_|refine g_reg (id := 5) ?_|((refine g_cond rfl (fun hc => ?_) (fun hc => ?_)) <;> (try simp only [dcB] at hc) <;> (try first|contradiction|(exfalso;omega)))
      · try dsimp only at m0 m1 m2 m3 m4 m5
        have hj : j.toNat < ps.length := by omega
        obtain ⟨⟨y,hy⟩,hql⟩ := hps _ (List.getElem_mem hj)
        have hcj : j.toNat < cur.length := by omega
        have hcv : cur[j.toNat]'(by omega) = vs[j.toNat]'(by omega) := by
          have := congrArg (fun l => l[0]?) m5
          simp only [List.getElem?_drop,Nat.add_zero] at this
          rw [List.getElem?_eq_getElem (by omega),List.getElem?_eq_getElem (by omega)] at this
          exact Option.some.inj this
        have hv : vs[j.toNat]? = some (cur[j.toNat]'(by omega)) := by rw [hcv]; exact List.getElem?_eq_getElem (by omega)
        have hq : ps[j.toNat]? = some (ps[j.toNat]'hj) := List.getElem?_eq_getElem hj
        have hn := kv_next (P := wuP st sy B depth) (ps := ps) (vs := vs) (j := j) (by omega) hj (by omega)
        have m6 : cur.drop (j + 1).toNat = vs.drop (j + 1).toNat := by
          rw [show (j + 1).toNat = j.toNat + 1 by omega,← List.drop_drop,← List.drop_drop,m5]
        repeat' first|(apply p3;(first|exact pu1|exact a_ldE (E := eVv) 0 rfl rfl rfl (fC rfl) rfl rfl (Nat.le_of_ble_eq_true rfl) bnd rfl (by first|exact trivial|exact rfl)|exact a_add rfl rfl (by omega) (by omega)|exact puI);exact rfl)|refine cd ?_|(apply w3;(exact a_stE (E := eVv) _ rfl rfl rfl rfl (fN rfl rfl) bnd (by exact rfl));exact rfl;refine dS ?_)|(apply c4 0;exact callK0 (θ := [0,1,2,3,5]) (hD := ((wuFn_ok st sy B depth Z ps vs j.toNat (ps[j.toNat]'hj) (cur[j.toNat]'hcj) y h1 h2 h3 h4 h5 h6 hv hq hy hql hd)));exact rfl;exact rfl;exact rfl;refine dM ?_)|((refine g_cond rfl (fun hc => ?_) (fun hc => ?_)) <;> (try simp only [dcB] at hc) <;> (try first|contradiction|(exfalso;omega)))
        · rw [if_pos (by simpa using hc),← m4,← hcv] at hn
          refine q_again (i + 1,j + 1,cur.set i.toNat (cur[j.toNat]'(by omega))) [0,1,2,3,4,5] (by exact stk) ?_ ?_
          · refine ⟨by dsimp only; omega,by dsimp only; omega,by dsimp only; omega,by simp [m3],?_,?_⟩
            · dsimp only
              rw [hn,show (i + 1).toNat = i.toNat + 1 by omega,List.take_succ_eq_append_getElem (by simp; omega),List.getElem_set_self,List.take_set_of_le (Nat.le_refl _)]
            · dsimp only
              rw [List.drop_set_of_lt (by omega)]
              exact m6
          · dsimp only; omega
        · rw [if_neg (by simp_all),← m4] at hn
          refine q_again (i,j + 1,cur) [0,1,2,3,4,5] (by exact stk) ?_ ?_
          · exact ⟨m0,by dsimp only; omega,by dsimp only; omega,m3,hn.symm,m6⟩
          · dsimp only; omega
      · try dsimp only at m0 m1 m2 m3 m4 m5
        have hj : j.toNat = ps.length := by omega
        rw [hj,List.take_length,List.take_of_length_le (show vs.length ≤ ps.length by omega)] at m4
        repeat' first|(apply p3;(first|exact pu1|exact a_slTG rfl rfl rfl (fS rfl) (by omega) (by omega) (by exact rfl));exact rfl)|refine cdn ?_|refine g_reg (id := 11) ?_|(apply w3;(exact a_clearG (E := eVv) (.slice none 0 0) (.slice none 0 0) rfl rfl rfl rfl Tryz.underlying38 (by kernel_rfl) rfl rfl bnd rfl);exact rfl;refine dS ?_)
        have hf : (cur.take i.toNat ++ List.replicate (cur.length - i.toNat) (Value.slice none 0 0) ++ cur.drop cur.length).take i.toNat = kv (wuP st sy B depth) ps vs := by
          rw [← m4,List.append_assoc,List.take_append_of_le_length (by rw [List.length_take]; omega),List.take_take,Nat.min_self]
        have hcl : (cur.take i.toNat ++ List.replicate (cur.length - i.toNat) (Value.slice none 0 0) ++ cur.drop cur.length).length = cur.length := by
          simp
          omega
        generalize cur.take i.toNat ++ List.replicate (cur.length - i.toNat) (Value.slice none 0 0) ++ cur.drop cur.length = cl at *
        repeat' first|(apply p3;(exact pu1);exact rfl)|refine cd ?_|(apply s3;(exact a_slHO rfl rfl rfl (fS rfl) (by omega) (by omega) (by exact rfl) (by decide));exact rfl;exact rfl)
        rw [hf]
        refine g_conv (t_shutT (j := 6) (q := 5) rfl rfl (kept_kv _ hvs) rfl) ?_
        repeat refine cr ?_
        refine ends_id ?_
        refine endK [?_] (h2 := ?_) (h3 := ?_) (nd := ?_)
        rotate_left 1
        all_goals (repeat' first|exact ce0|refine ce ?_|refine ce2 ?_ ?_|(refine Or.inr (bx_eq rfl rfl ?_);(try dsimp only [C.ren,C.ren.all]);(try exact rfl))|exact SVLe.refl|refine ceb ?_)
        all_goals first | exact (show nodupB _ = true from rfl) | exact Or.inr rfl | (rfl)
theorem iWorkUnits_ok (st sy depth B : Int) : Does Tryz.prog 17 [.one (int st),.one (int sy),.one (int depth),.one (int B)] [] (.tup [(false,[.gv 0]),(false,[int (sctC st sy B depth)])]) [.row 1 (rows eO1 (wuL st sy B depth))] := by
  by_cases h : askT st sy B = 0
  · obtain ⟨q1,q2,q3,q4⟩ := ask_bd h
    by_cases hd : 0 ≤ depth ∧ depth ≤ 36
    · obtain ⟨T,hT,hok,hno⟩ := sct_ok (st := st) (sy := sy) (B := B) h hd
      have hp0 : (([] : List Int).length : Int) ≤ 1048576 := by simp
      have hv : pth B (root sy st) [] = some (root sy st) := rfl
      have hask : (if askT st sy B = 0 then if 0 ≤ depth ∧ depth ≤ 36 then (0 : Int) else 2 else askT st sy B) = 0 := by rw [if_pos h,if_pos hd]
      have hnds : NdsOk st sy B depth T := fun q hq => by
        have hql := tre_len B depth.toNat [] (root sy st) q (by rw [← hT]; exact hq)
        refine ⟨tre_pth (root_ok q2.1 q2.2 q1.1 (by omega)) depth.toNat [] (root sy st) hv q (by rw [← hT]; exact hq),?_⟩
        simp at hql
        omega
      by_cases hf : (T.length : Int) ≤ 400
      · obtain ⟨e1,e2,e3,e4⟩ := hok hf
        rw [wu_fit e3 e2,e3]
        refine does_of (k := 0) Tryz.func17 rfl Tryz.ntmps17 rfl rfl fun w F0 S0 ρ0 => ?_
        dsimp only [argT,argH]
        repeat' first|(apply n3;exact a_nilO eO1 rfl;exact rfl)|(apply n3;exact a_new (gb := .bx _) rfl;exact rfl;refine dA ?_)|(apply p3;(first|exact pu1|exact a_ne rfl rfl);exact rfl)|refine cdn ?_|refine g_reg (id := 0) ?_|refine g_reg (id := 1) ?_|refine g_reg (id := 2) ?_|(apply c4 0;exact callK1 (θ := []) (hD := (depthCode_ok _ _ _ _));exact rfl;exact rfl;exact rfl;refine dM ?_)|((refine g_cond rfl (fun hc => ?_) (fun hc => ?_)) <;> (try simp only [dcB] at hc) <;> (try first|contradiction|(exfalso;omega)))
        refine g_conv t_zw ?_
        repeat' first|(apply n3;exact a_new (gb := .bx _) rfl;exact rfl;refine dA ?_)|(apply p3;(exact pu1);exact rfl)|refine cdn ?_|refine g_reg (id := 4) ?_|refine g_reg (id := 5) ?_|(apply w3;exact a_st_bx rfl rfl rfl rfl (fN rfl rfl) (Nat.le_of_ble_eq_true rfl) rfl;exact rfl;refine dS ?_)|(apply c4 2;exact callK0 (θ := []) (hD := (forestOf_ok _ _ _));exact rfl;exact rfl;exact rfl;refine dM ?_)|(apply c4 1;exact callK0 (θ := [3,4,2]) (hD := (below_ok st sy B depth [] _ hp0 preB113 preB113 preB113 preB113 preB113 preB113 preB113 preB113));exact rfl;exact rfl;exact rfl;refine dM ?_)
        rw [e1,e2]
        repeat' first|(apply p3;(first|exact pu1|exact a_ne rfl rfl);exact rfl)|refine cd ?_|(apply c4 1;exact callK0 (θ := [3,4,0,5,6]) (hD := (delF_ok st sy B depth _ T preB113 preB113 preB113 preB113 preB113 preB113 preB113 hf hnds));exact rfl;exact rfl;exact rfl;refine dM ?_)
        refine g_turn (t_thaw (i := 7) (t' := [(8,.one (.gv 7)),(9,.one (int 0))]) rfl ⟨.inr rfl,.inr rfl,trivial⟩ ⟨trivial,trivial,trivial⟩) ?_
        repeat refine cr ?_
        refine ends_id ?_
        refine endK [?_] (h2 := ?_) (h3 := ?_) (nd := ?_)
        rotate_left 1
        all_goals (repeat' first|exact ce0|refine ce ?_|refine ce2 ?_ ?_|(refine Or.inr (bx_eq rfl rfl ?_);(try dsimp only [C.ren,C.ren.all]);(try exact rfl))|exact SVLe.refl|refine ceb ?_)
        all_goals first | exact (show nodupB _ = true from rfl) | exact Or.inr rfl | (rfl)
      · obtain ⟨e1,e2,e3,e4⟩ := hno hf
        rw [wu_full e3,e3]
        refine does_of (k := 0) Tryz.func17 rfl Tryz.ntmps17 rfl rfl fun w F0 S0 ρ0 => ?_
        dsimp only [argT,argH]
        repeat' first|(apply n3;exact a_nilO eO1 rfl;exact rfl)|(apply n3;exact a_new (gb := .bx _) rfl;exact rfl;refine dA ?_)|(apply p3;(first|exact pu1|exact a_ne rfl rfl);exact rfl)|refine cdn ?_|refine g_reg (id := 0) ?_|refine g_reg (id := 1) ?_|refine g_reg (id := 2) ?_|(apply c4 0;exact callK1 (θ := []) (hD := (depthCode_ok _ _ _ _));exact rfl;exact rfl;exact rfl;refine dM ?_)|((refine g_cond rfl (fun hc => ?_) (fun hc => ?_)) <;> (try simp only [dcB] at hc) <;> (try first|contradiction|(exfalso;omega)))
        refine g_conv t_zw ?_
        repeat' first|(apply n3;exact a_new (gb := .bx _) rfl;exact rfl;refine dA ?_)|(apply p3;(exact pu1);exact rfl)|refine cdn ?_|refine g_reg (id := 4) ?_|refine g_reg (id := 5) ?_|(apply w3;exact a_st_bx rfl rfl rfl rfl (fN rfl rfl) (Nat.le_of_ble_eq_true rfl) rfl;exact rfl;refine dS ?_)|(apply c4 2;exact callK0 (θ := []) (hD := (forestOf_ok _ _ _));exact rfl;exact rfl;exact rfl;refine dM ?_)|(apply c4 1;exact callK0 (θ := [3,4,2]) (hD := (below_ok st sy B depth [] _ hp0 preB113 preB113 preB113 preB113 preB113 preB113 preB113 preB113));exact rfl;exact rfl;exact rfl;refine dM ?_)
        rw [e1,e2]
        repeat' first|(apply n3;exact a_nilO eO1 rfl;exact rfl)|(apply p3;(first|exact pu1|exact a_ne rfl rfl);exact rfl)|refine cd ?_
        repeat refine cr ?_
        refine ends_id ?_
        refine endK [?_] (h2 := ?_) (h3 := ?_) (nd := ?_)
        rotate_left 1
        all_goals (repeat' first|exact ce0|refine ce ?_|refine ce2 ?_ ?_|(refine Or.inr (bx_eq rfl rfl ?_);(try dsimp only [C.ren,C.ren.all]);(try exact rfl))|exact SVLe.refl|refine ceb ?_)
        all_goals first | exact (show nodupB _ = true from rfl) | exact Or.inr rfl | (rfl)
    · obtain ⟨e1,e2⟩ := wu_dep h hd
      rw [e1,e2]
      have hask : (if askT st sy B = 0 then if 0 ≤ depth ∧ depth ≤ 36 then (0 : Int) else 2 else askT st sy B) = 2 := by rw [if_pos h,if_neg hd]
      refine does_of (k := 0) Tryz.func17 rfl Tryz.ntmps17 rfl rfl fun w F0 S0 ρ0 => ?_
      dsimp only [argT,argH]
      repeat' first|(apply n3;exact a_nilO eO1 rfl;exact rfl)|(apply n3;exact a_new (gb := .bx _) rfl;exact rfl;refine dA ?_)|(apply p3;(first|exact pu1|exact a_ne rfl rfl);exact rfl)|refine cd ?_|(apply c4 0;exact callK1 (θ := []) (hD := (depthCode_ok _ _ _ _));exact rfl;exact rfl;exact rfl;refine dM ?_)|((refine g_cond rfl (fun hc => ?_) (fun hc => ?_)) <;> (try simp only [dcB] at hc) <;> (try first|contradiction|(exfalso;omega)))
      simp only [hask]
      repeat refine cr ?_
      refine ends_id ?_
      refine endK [?_] (h2 := ?_) (h3 := ?_) (nd := ?_)
      rotate_left 1
      all_goals (repeat' first|exact ce0|refine ce ?_|refine ce2 ?_ ?_|(refine Or.inr (bx_eq rfl rfl ?_);(try dsimp only [C.ren,C.ren.all]);(try exact rfl))|exact SVLe.refl|refine ceb ?_)
      all_goals first | exact (show nodupB _ = true from rfl) | exact Or.inr rfl | (rfl)
  · obtain ⟨e1,e2⟩ := wu_ask (depth := depth) h
    rw [e1,e2]
    have hask : (if askT st sy B = 0 then if 0 ≤ depth ∧ depth ≤ 36 then (0 : Int) else 2 else askT st sy B) = askT st sy B := by rw [if_neg h]
    refine does_of (k := 0) Tryz.func17 rfl Tryz.ntmps17 rfl rfl fun w F0 S0 ρ0 => ?_
    dsimp only [argT,argH]
    repeat' first|(apply n3;exact a_nilO eO1 rfl;exact rfl)|(apply n3;exact a_new (gb := .bx _) rfl;exact rfl;refine dA ?_)|(apply p3;(first|exact pu1|exact a_ne rfl rfl);exact rfl)|refine cd ?_|(apply c4 0;exact callK1 (θ := []) (hD := (depthCode_ok _ _ _ _));exact rfl;exact rfl;exact rfl;refine dM ?_)|((refine g_cond rfl (fun hc => ?_) (fun hc => ?_)) <;> (try simp only [dcB] at hc) <;> (try first|contradiction|(exfalso;omega)))
    simp only [hask]
    repeat refine cr ?_
    refine ends_id ?_
    refine endK [?_] (h2 := ?_) (h3 := ?_) (nd := ?_)
    rotate_left 1
    all_goals (repeat' first|exact ce0|refine ce ?_|refine ce2 ?_ ?_|(refine Or.inr (bx_eq rfl rfl ?_);(try dsimp only [C.ren,C.ren.all]);(try exact rfl))|exact SVLe.refl|refine ceb ?_)
    all_goals first | exact (show nodupB _ = true from rfl) | exact Or.inr rfl | (rfl)
end Go.Proofs.YtighjcjmacajoaaGreatDoor
end
section
set_option linter.unusedVariables false
set_option linter.unusedSimpArgs false
set_option maxRecDepth 100000
set_option maxHeartbeats 4000000
namespace Go.Proofs.YtighjcjmacajoaaGreatDoor
open Go Foot
abbrev rwM (m : Mach) : List D := rows eR m.ru
def GdM (B sy st : Int) (Z : Foot) : GdE where
  p w S k vs := le Z S ∧ ∃ m v,NdOk sy st m ∧ k = macT m ∧ vs = #[.int .i64 m.sy,.int .i64 m.st,v,.int .i64 (ndS m B),.int .i64 (ndA m B)] ∧ Bk w S Z 3 (rwM m) v
  keep := fun ⟨h0,m,v,h1,h2,h3,h4⟩ hS hle => ⟨h0.trans hle,m,v,h1,h2,h3,h4.keep hS hle⟩
  one := by
    rintro w S k vs ⟨_,m,v,_,_,rfl,G,h,_⟩
    rw [List.all_eq_true]
    intro x hx
    have hx : x ∈ [Value.int .i64 m.sy,.int .i64 m.st,v,.int .i64 (ndS m B),.int .i64 (ndA m B)] := hx
    simp only [List.mem_cons,List.not_mem_nil,or_false] at hx
    rcases hx with rfl | rfl | rfl | rfl | rfl
    all_goals first | rfl | exact h.one
theorem gd_sh {B sy st : Int} {Z : Foot} {m : Mach} (hm : NdOk sy st m) : ∀ w S vs,(GdM B sy st Z).p w S (macT m) vs → le Z S ∧ ∃ v,vs = (([.int .i64 m.sy,.int .i64 m.st] : List Value) ++ v :: ([.int .i64 (ndS m B),.int .i64 (ndA m B)] : List Value)).toArray ∧ Bk w S Z 3 (rwM m) v := by
  rintro w S vs ⟨h0,m',v,h1,h2,h3,h4⟩
  have e := macT_inj hm h1 h2
  subst e
  exact ⟨h0,v,h3,h4⟩
theorem gd_of {B sy st : Int} {Z : Foot} {m : Mach} {g : Gh} {s : St} (q r : Nat) (hm : NdOk sy st m) (hq : lkG s.h q = .opq (kb Z 3 (rwM m)) [r]) : ∀ a w S ρ F (vs : Array Value),Rel g s a w S ρ F → RepCs w S ρ [int m.sy,int m.st,.gv r,int (ndS m B),int (ndA m B)] vs.toList → (GdM B sy st Z).p w S (macT m) vs := by
  intro a w S ρ F vs h hr
  obtain ⟨us,e1,e2,v,rfl,e3⟩ := rel_opq (t := s.t) (h0 := s.h) (n := s.n) h hq
  simp only [List.map_cons,List.map_nil,List.cons.injEq,and_true] at e1
  simp only [RepCs,RepC,Rep] at hr
  obtain ⟨_,_,f1,⟨rfl,_⟩,_,_,rfl,⟨rfl,_⟩,v',_,rfl,⟨f2,_⟩,_,_,rfl,⟨rfl,_⟩,_,_,rfl,⟨rfl,_⟩,rfl⟩ := hr
  rw [e1] at f2
  cases f2
  refine ⟨e2,m,v,hm,rfl,?_,e3⟩
  apply Array.ext'
  exact f1
abbrev foQ (Z : Foot) (B sy st : Int) (i : Nat) : GB := .opq (knQ (GdM B sy st Z)) [i]
abbrev kbM (Z : Foot) (m : Mach) (r : Nat) : GB := .opq (kb Z 3 (rwM m)) [r]
abbrev shM (m : Mach) : GB := .sh 3 (rwM m)
theorem preB114 {p : Prop} (h : p := by first | with_reducible assumption | omega | (simp only [List.length_append,List.length_cons,List.length_nil,List.length_set,List.length_replicate,List.length_take,List.length_drop,List.length_tail,List.length_dropLast,List.length_reverse] at *; omega) | exact mem_len (by assumption) (by omega) | (with_reducible refine Int.le_trans (Int.ofNat_le.2 (trimR_len _)) ?_; simp only [List.length_cons,List.length_tail]; omega) | (exact (ruAt_ok (by assumption) (by assumption) (by assumption)).2.1) | (exact (ruAt_ok (by assumption) (by assumption) (by assumption)).2.1) | (have := vMach_bd (by assumption); omega) | (simp only [mC_ch,mC_tu]; omega) | (have := vTag_bd (by assumption); omega) | (have := (‹Gd _ _›).le; omega) | (exact tgHalts_no (by assumption)) | (exact tgHead (by assumption) (by assumption) (by assumption)) | (exact Int.le_trans (tgStep_gd (by assumption) (by assumption) (by assumption) (by assumption)).le (by decide)) | (exact vTag_r (by assumption)) | (with_reducible refine Int.le_trans (Int.ofNat_le.2 (pushL_len _ _)) ?_; simp only [List.length_dropLast]; omega) | exact ls_at (by assumption) (by omega) | exact pt_gd (by assumption) | exact lv_at (by assumption) (by omega) | exact pt_gd (lv_at (by assumption) (by omega)) | exact (ask_ok (by assumption)).1 | exact (ask_ok (by assumption)).2.1 | exact (ask_ok (by assumption)).2.2.1 | exact (ask_ok (by assumption)).2.2.2 | trivial) : p := h
theorem mlockQ_ok (Z : Foot) (st sy B : Int) : Does Tryz.prog 111 [.one (.gp 0 3)] [.bx (foC st sy B 0),foQ Z B sy st 1] (.tup []) [.bx (foC st sy B 1),foQ Z B sy st 1] := does_lock muLib rfl rfl
theorem lookQ_ok (Z : Foot) (st sy B : Int) (m : Mach) (hm : NdOk sy st m) (h0 : 0 ≤ B) (h1 : B ≤ 1000000) : Does Tryz.prog 49 [.one (.gv 0),.agg [int m.sy,int m.st,.gv 2]] [.bx (foC st sy B 0),foQ Z B sy st 1,shM m,kbM Z m 2] (.agg [int m.sy,int m.st,.gv 4,int (ndS m B),int (ndA m B)]) [.bx (foC st sy B 0),foQ Z B sy st 1,shM m,kbM Z m 2,shM m,kbM Z m 4] := by
  have hv := hm.v
  refine does_ofU muLib Unlock_is Unlock_ent (o := 3) (k := 4) Tryz.func49 rfl Tryz.ntmps49 rfl rfl fun w F0 S0 ρ0 b off hρ => ?_
  dsimp only [argT,argH]
  refine gx_seq2 ?_
  repeat' first|(apply n3;exact a_new (gb := .bx _) rfl;exact rfl;refine dA ?_)|refine cdn ?_|refine g_reg (id := 0) ?_
  refine qSeqX.go ?_
  refine gx_seq2 ?_
  repeat' first|(apply p3;exact pu1;exact rfl)|refine cdn ?_|refine g_reg (id := 1) ?_|(apply c4 0;exact callK0 (θ := [0,1]) (hD := (mlockQ_ok Z st sy B));exact rfl;exact rfl;exact rfl;refine dM ?_)
  refine qSeqX.go ?_
  refine gx_seq rfl ?_
  refine gx_region ?_
  refine xp3 (sv := .one (.gv 0)) (a_pure (sv := .one _) rfl) rfl ?_
  refine xp3 (sv := .one (.gv 0)) (a_pure (sv := .one _) rfl) rfl ?_
  refine xp3 (sv := .one (.gp 0 3)) (a_pure (sv := .one _) rfl) rfl ?_
  refine ox_put rfl (Nat.le_of_ble_eq_true rfl) hρ rfl rfl rfl ?_
  dsimp only [Gh.put]
  refine cd ?_
  refine cd ?_
  repeat' first|(apply p3;(exact pu1);exact rfl)|refine cdn ?_|refine g_reg (id := 3) ?_|refine g_reg (id := 4) ?_|(apply c4 0;exact callK1 (θ := []) (hD := (MachineText_ok _ preB114));exact rfl;exact rfl;exact rfl;refine dM ?_)
  refine o_lookQ (Good := GdM B sy st Z) (zs := #[.int .i64 0,.int .i64 0,.slice none 0 0,.int .i64 0,.int .i64 0]) rfl rfl rfl Tryz.underlying157 (by kernel_rfl) (by kernel_rfl) (by kernel_rfl) rfl nowR (gd_sh hm) ?_ ?_
  · dsimp only [St.eff,List.map_cons,List.map_nil,List.nil_append,List.cons_append]
    repeat' first|(apply n3;exact a_new (gb := .bx _) rfl;exact rfl;refine dA ?_)|(apply p3;(exact pu1);exact rfl)|refine cd ?_|(apply w3;(exact a_st_bx rfl rfl rfl rfl (fN rfl rfl) (Nat.le_of_ble_eq_true rfl) rfl);exact rfl;refine dS ?_)
    repeat refine cr ?_
    refine endsU rfl rfl ?_
    repeat refine cr ?_
    refine ends_id ?_
    refine endK [6,7] (h2 := ?_) (h3 := ?_) (nd := ?_)
    all_goals (repeat' first|exact ce0|refine ce ?_|refine ce2 ?_ ?_|(refine Or.inr (bx_eq rfl rfl ?_);(try dsimp only [C.ren,C.ren.all]);(try exact rfl))|exact SVLe.refl|refine ceb ?_)
    all_goals first | exact (show nodupB _ = true from rfl) | exact Or.inr rfl | (rfl)
  · dsimp only [St.eff,List.map_cons,List.map_nil,List.nil_append]
    repeat' first|(apply n3;exact a_new (gb := .bx _) rfl;exact rfl;refine dA ?_)|(apply p3;(exact pu1);exact rfl)|refine cdn ?_|refine g_reg (id := 5) ?_|refine g_reg (id := 7) ?_|(apply w3;(exact a_st_bx rfl rfl rfl rfl (fN rfl rfl) (Nat.le_of_ble_eq_true rfl) rfl);exact rfl;refine dS ?_)|(apply g_drN (id := 6) okM [[],[],[1],[1,2],[1,2,3],[0,1,2,3,4],[0,1,2,3,4,5],[0,1,2,3,4,5,6],[0,1,2,3,4,5,6],[0,1,2,3,4,5,6],[0,1,2,3,4,5,6,7],[0,1,2,3,4,5,6,7,8,10],[0,1,2,3,4,5,6,7,8,9,10,11]] [([],[]),([],[]),([],[]),([],[]),([],[]),([],[]),([],[]),([],[]),([],[]),([],[]),([],[]),([],[]),([],[])] 0;(focus (refine dp 0 0 [33,34,35,36] [] puL ?_;refine dp 1 0 [32] [] pu1 ?_;refine dp 2 1 [32] [] (a_pure (sv := .one _) rfl) ?_;refine dp 3 3 [32] [] (a_pure (sv := .one _) rfl) ?_;refine dp 4 7 [32] [] puL ?_;refine dp 5 31 [] [] (callD1 (n := _) 0 (θ := []) (hD := (nodeStatus_ok _ _ preB114 preB114 preB114))) ?_;refine dp 6 63 [] [] pu1 ?_;refine dp 7 127 [39,40] [] pu2 ?_;refine dp 8 254 [38,40,8] [] pu2 ?_;refine dp 9 508 [38,39,8,9] [] pu2 ?_;refine dp 10 1020 [39,40] [] pu1 ?_;refine dp 11 2045 [40] [] pu1 ?_;refine dp 12 4095 [] [] pu1 ?_;(refine d_nil ?_;refine dN ?_)));any_goals kernel_rfl)|(apply g_drN (id := 8) okM [[],[0],[0,1],[0,1,2],[],[],[0,1,2,3,4,5]] [([],[]),([],[]),([],[]),([],[]),([],[]),([],[]),([],[1])] 0;(focus (refine dp 0 0 [49,50] [] pu1 ?_;refine dp 1 1 [49,50] [] (a_pure (sv := .one _) rfl) ?_;refine dp 2 3 [49,50] [] (a_pure (sv := .one _) rfl) ?_;refine dp 3 7 [49,50] [] puL ?_;refine dp 4 0 [45,46,47,48,50] [] pu1 ?_;refine dp 5 0 [45,46,47,48,49] [] puL ?_;refine duE 6 63 [] [] (a_updQ (Good := GdM B sy st Z) (k := macT m) rfl rfl rfl rfl (gd_of 3 2 hm rfl) Tryz.underlying157 (by kernel_rfl)) (by exact rfl) (by exact rfl) ?_;(refine d_nil ?_;refine dN ?_)));any_goals kernel_rfl)
    refine g_reg (id := 9) ?_
    refine p3 pu2 rfl ?_
    refine o_dupS 51 2 3 rfl rfl rfl nowR ?_
    repeat' first|refine cd ?_|(apply w3;(exact a_st_bx rfl rfl rfl rfl (fN rfl rfl) (Nat.le_of_ble_eq_true rfl) rfl);exact rfl;refine dS ?_)
    repeat refine cr ?_
    refine endsU rfl rfl ?_
    repeat refine cr ?_
    refine ends_id ?_
    refine endK [7,8] (h2 := ?_) (h3 := ?_) (nd := ?_)
    all_goals (repeat' first|exact ce0|refine ce ?_|refine ce2 ?_ ?_|(refine Or.inr (bx_eq rfl rfl ?_);(try dsimp only [C.ren,C.ren.all]);(try exact rfl))|exact SVLe.refl|refine ceb ?_)
    all_goals first | exact (show nodupB _ = true from rfl) | exact Or.inr rfl | (rfl)
theorem forestQ_ok (Z : Foot) (st sy B : Int) : Does Tryz.prog 45 [.one (int st),.one (int sy),.one (int B)] [] (.one (.gv 0)) [.bx (foC st sy B 0),foQ Z B sy st 1] := by
  refine does_of (k := 0) Tryz.func45 rfl Tryz.ntmps45 rfl rfl fun w F0 S0 ρ0 => ?_
  dsimp only [argT,argH]
  repeat' first|(apply n3;(first|exact a_mkMapQ (GdM B sy st Z)|exact a_new (gb := .bx _) rfl);exact rfl;refine dA ?_)|(apply p3;exact pu1;exact rfl)|refine cd ?_
  repeat refine cr ?_
  refine ends_id ?_
  refine endK [?_,?_] (h2 := ?_) (h3 := ?_) (nd := ?_)
  rotate_left 2
  all_goals (repeat' first|exact ce0|refine ce ?_|refine ce2 ?_ ?_|(refine Or.inr (bx_eq rfl rfl ?_);(try dsimp only [C.ren,C.ren.all]);(try exact rfl))|exact SVLe.refl|refine ceb ?_)
  all_goals first | exact (show nodupB _ = true from rfl) | exact Or.inr rfl | (rfl)
theorem emptyQ_ok (Z : Foot) (st sy : Int) (h1 : 1 ≤ st) (h2 : st ≤ 6) (h3 : 2 ≤ sy) (h4 : sy ≤ 6) : Does Tryz.prog 50 [.one (int st),.one (int sy)] [.opq (zw Z) []] (.agg [int (root sy st).sy,int (root sy st).st,.gv 1]) [.opq (zw Z) [],shM (root sy st),kbM Z (root sy st) 1] := by
  have hp1 : 0 ≤ st * sy := Int.mul_nonneg (by omega) (by omega)
  have hp2 : st * sy ≤ 6 * 6 := Int.mul_le_mul (by omega) (by omega) (by omega) (by omega)
  have e1 : (root sy st).sy = sy := by unfold root; rfl
  have e2 : (root sy st).st = st := by unfold root; rfl
  have e3 : (root sy st).ru = List.replicate (st * sy).toNat noR := by unfold root; rfl
  dsimp only [shM,kbM,rwM]
  rw [e1,e2,e3]
  refine does_of (k := 1) Tryz.func50 rfl Tryz.ntmps50 rfl rfl fun w F0 S0 ρ0 => ?_
  dsimp only [argT,argH]
  repeat' first|(apply n3;(first|exact a_new (gb := .bx _) rfl|exact a_litE eR [⟨_,_,_⟩] rfl rfl rfl rfl rfl rfl rfl rfl);exact rfl;refine dA ?_)|(apply p3;(first|exact pu1|exact a_mulB rfl rfl (by omega) (by omega) (by omega) (by omega));exact rfl)|refine cd ?_|(apply w3;(exact a_st_bx rfl rfl rfl rfl (fN rfl rfl) (Nat.le_of_ble_eq_true rfl) rfl);exact rfl;refine dS ?_)|(apply c4 0;exact callK1 (θ := []) (hD := noRule_ok);exact rfl;exact rfl;exact rfl;refine dM ?_)|(apply c4 1;exact callK1 (θ := []) (hD := (repeatR_ok _ _ preB114 preB114));exact rfl;exact rfl;exact rfl;refine dM ?_)
  refine g_frzS 3 0 rfl rfl plR nowR ?_
  repeat refine cr ?_
  refine ends_id ?_
  refine endK [3,4] (h2 := ?_) (h3 := ?_) (nd := ?_)
  all_goals (repeat' first|exact ce0|refine ce ?_|refine ce2 ?_ ?_|(refine Or.inr (bx_eq rfl rfl ?_);(try dsimp only [C.ren,C.ren.all]);(try exact rfl))|exact SVLe.refl|refine ceb ?_)
  all_goals first | exact (show nodupB _ = true from rfl) | exact Or.inr rfl | (rfl)
theorem childQ_ok (Z : Foot) (m : Mach) (a : Int) (r : Rule') (hx : (m.ru.length : Int) ≤ 16777216) (h0 : 0 ≤ a) (h1 : a < m.ru.length) : Does Tryz.prog 54 [.agg (maC m),.one (int a),.agg (ruC r)] [.opq (zw Z) []] (.agg [int (chM m a r).sy,int (chM m a r).st,.gv 1]) [.opq (zw Z) [],shM (chM m a r),kbM Z (chM m a r) 1] := by
  have e1 : (chM m a r).sy = m.sy := chM_sy m a r
  have e2 : (chM m a r).st = m.st := chM_st m a r
  have e3 : (chM m a r).ru = m.ru.set a.toNat r := chM_ru m a r
  dsimp only [shM,kbM,rwM]
  rw [e1,e2,e3]
  refine does_of (k := 1) Tryz.func54 rfl Tryz.ntmps54 rfl rfl fun w F0 S0 ρ0 => ?_
  dsimp only [argT,argH]
  repeat' first|(apply n3;exact a_new (gb := .bx _) rfl;exact rfl;refine dA ?_)|(apply p3;(first|exact pu1|exact puI);exact rfl)|refine cd ?_|(apply w3;(first|exact a_st_bx rfl rfl rfl rfl (fN rfl rfl) (Nat.le_of_ble_eq_true rfl) rfl|exact a_stE (E := eR) ⟨_,_,_⟩ rfl rfl rfl rfl (fN rfl rfl) bnd (by exact rfl));exact rfl;refine dS ?_)|(apply c4 1;exact callK1 (θ := []) (hD := (copyMachine_ok _ preB114));exact rfl;exact rfl;exact rfl;refine dM ?_)
  refine g_frzS 4 0 rfl rfl plR nowR ?_
  repeat refine cr ?_
  refine ends_id ?_
  refine endK [4,6] (h2 := ?_) (h3 := ?_) (nd := ?_)
  all_goals (repeat' first|exact ce0|refine ce ?_|refine ce2 ?_ ?_|(refine Or.inr (bx_eq rfl rfl ?_);(try dsimp only [C.ren,C.ren.all]);(try exact rfl))|exact SVLe.refl|refine ceb ?_)
  all_goals first | exact (show nodupB _ = true from rfl) | exact Or.inr rfl | (rfl)
end Go.Proofs.YtighjcjmacajoaaGreatDoor
end
section
set_option linter.unusedVariables false
set_option linter.unusedSimpArgs false
set_option maxRecDepth 100000
set_option maxHeartbeats 4000000
namespace Go.Proofs.YtighjcjmacajoaaGreatDoor
open Go Foot
abbrev eNv (B : Int) : Enc (Mach × Value) := ⟨5,fun x => [.sc (.int .i64 x.1.sy),.sc (.int .i64 x.1.st),.sc x.2,.sc (.int .i64 (ndS x.1 B)),.sc (.int .i64 (ndA x.1 B))],fun _ => rfl,by decide⟩
theorem plain_eNv {B : Int} (L : List (Mach × Value)) : D.plain.all (rows (eNv B) L) := plR
abbrev ndsR (Z : Foot) (B : Int) (ms : List Mach) (i : Nat) : GB := .opq (ndP Z 3 rwM (eNv B) ms) [i]
theorem preB115 {p : Prop} (h : p := by first | with_reducible assumption | omega | (simp only [List.length_append,List.length_cons,List.length_nil,List.length_set,List.length_replicate,List.length_take,List.length_drop,List.length_tail,List.length_dropLast,List.length_reverse] at *; omega) | exact mem_len (by assumption) (by omega) | (with_reducible refine Int.le_trans (Int.ofNat_le.2 (trimR_len _)) ?_; simp only [List.length_cons,List.length_tail]; omega) | (exact (ruAt_ok (by assumption) (by assumption) (by assumption)).2.1) | (exact (ruAt_ok (by assumption) (by assumption) (by assumption)).2.1) | (have := vMach_bd (by assumption); omega) | (simp only [mC_ch,mC_tu]; omega) | (have := vTag_bd (by assumption); omega) | (have := (‹Gd _ _›).le; omega) | (exact tgHalts_no (by assumption)) | (exact tgHead (by assumption) (by assumption) (by assumption)) | (exact Int.le_trans (tgStep_gd (by assumption) (by assumption) (by assumption) (by assumption)).le (by decide)) | (exact vTag_r (by assumption)) | (with_reducible refine Int.le_trans (Int.ofNat_le.2 (pushL_len _ _)) ?_; simp only [List.length_dropLast]; omega) | exact ls_at (by assumption) (by omega) | exact pt_gd (by assumption) | exact lv_at (by assumption) (by omega) | exact pt_gd (lv_at (by assumption) (by omega)) | exact (ask_ok (by assumption)).1 | exact (ask_ok (by assumption)).2.1 | exact (ask_ok (by assumption)).2.2.1 | exact (ask_ok (by assumption)).2.2.2 | trivial) : p := h
theorem atQ_ok (Z : Foot) (st sy B : Int) (p : List Int) (hp : (p.length : Int) ≤ 1048576) (h1 : 1 ≤ st) (h2 : st ≤ 6) (h3 : 2 ≤ sy) (h4 : sy ≤ 6) (h5 : 0 ≤ B) (h6 : B ≤ 1000000) : Does Tryz.prog 46 [.one (.gv 0),.one (shI p)] [.bx (foC st sy B 0),foQ Z B sy st 1,.opq (zw Z) []] (.tup [(false,[.gv 3]),(false,[boo (pthL B (root sy st) p).isSome])]) [.bx (foC st sy B 0),foQ Z B sy st 1,.opq (zw Z) [],ndsR Z B ((pthL B (root sy st) p).getD []) 3] := by
  have hr := root_ok h3 h4 h1 (by omega)
  refine does_of (k := 3) Tryz.func46 rfl Tryz.ntmps46 rfl rfl fun w F0 S0 ρ0 => ?_
  dsimp only [argT,argH]
  repeat' first|(apply n3;exact a_nilO (eNv B) rfl;exact rfl)|(apply p3;exact a_pure (sv := .one _) rfl;exact rfl)|refine cdn ?_|refine g_reg (id := 0) ?_|(apply g_drN (id := 1) okM [[],[],[1],[1,2],[1,2,3],[],[5],[5,6],[5,6,7],[1,2,3,4,5,6,7,8],[0,1,2,3,4,5,6,7,8,9],[],[0,1,2,3,4,5,6,7,8,9,10,11]] [([],[]),([],[]),([],[]),([],[]),([],[]),([],[]),([],[]),([],[]),([],[]),([0,1],[2]),([2,3],[0,1,4,5]),([4],[]),([],[8])] 5;(focus (refine dp 0 0 [12,13,14,15,16,17,18,19,20,6] [(true,0),(true,1),(false,2),(true,4)] pu1 ?_;refine dp 1 0 [11,16,17,18,19,6] [(true,4)] pu1 ?_;refine dp 2 1 [11,16,17,18,19,6] [(true,4)] (a_pure (sv := .one _) rfl) ?_;refine dp 3 3 [11,16,17,18,19,6] [(true,4)] (a_pure (sv := .one _) rfl) ?_;refine dp 4 7 [11,16,17,18,19,6] [(true,4)] (by exact puL) ?_;refine dp 5 0 [11,12,13,14,15,6] [(true,4)] pu1 ?_;refine dp 6 1 [11,12,13,14,15,6] [(true,4)] (a_pure (sv := .one _) rfl) ?_;refine dp 7 3 [11,12,13,14,15,6] [(true,4)] (a_pure (sv := .one _) rfl) ?_;refine dp 8 7 [11,12,13,14,15,6] [(true,4)] (by exact puL) ?_;refine duN 9 255 [11,6] [(true,4)] (callD0 (n := _) 0 (θ := [2]) (hD := (emptyQ_ok Z st sy h1 h2 h3 h4))) (by exact rfl) (by exact rfl) ?_;refine duN 10 1023 [6] [(true,4)] (callD0 (n := _) 2 (θ := [0,1,4,5]) (hD := (lookQ_ok Z st sy B (root sy st) hr preB115 preB115))) (by exact rfl) (by exact rfl) ?_;refine duE 11 0 [11,12,13,14,15,16,17,18,19,20,21] [(true,0),(true,1),(false,2),(true,2),(true,3),(false,0),(false,1),(false,4),(false,5)] (atN 4 (fun _ => a_new (gb := .bx _) rfl)) (by exact rfl) (by exact rfl) ?_;refine duE 12 4095 [] [] (by exact a_st_bx rfl rfl rfl rfl (fN rfl rfl) (Nat.le_of_ble_eq_true rfl) rfl) (by exact rfl) (by exact rfl) ?_;(refine d_nil ?_;refine dN ?_)));any_goals kernel_rfl)
  refine g_nameK 7 rfl (fun v => ?_)
  refine g_conv (t_kb0 3 rwM 2 rfl) ?_
  refine g_conv (t_addK (root sy st) 9 7 rfl rfl rfl) ?_
  repeat' first|(apply n3;exact a_litE (eNv B) [(root sy st,v)] rfl rfl rfl rfl rfl rfl rfl rfl;exact rfl;refine dA ?_)|(apply p3;(exact pu1);exact rfl)|refine cdn ?_|refine g_reg (id := 2) ?_|(refine o_conv (t_nameA 22 2 7 rfl rfl rfl) ?_)
  refine g_conv (t_unname 7 rfl) ?_
  repeat' first|(apply p3;(first|exact pu1|exact puN);exact rfl)|refine cd ?_
  refine g_loop_id ?_
  refine loopK [0,4,5,6,7,24,25] [6,7,8,9,10] (fun y : Int × (Mach × Value) × List (Mach × Value) => 0 ≤ y.1 ∧ y.1 ≤ p.length ∧ NdOk sy st y.2.1.1 ∧ (y.2.2.length : Int) = y.1 ∧ (pthL B y.2.1.1 (p.drop y.1.toNat)).map (y.2.2.map (·.1) ++ ·) = pthL B (root sy st) p) (fun y => [(26,.one (int y.1))]) (fun y => [(6,shM y.2.1.1),(7,kbM Z y.2.1.1 6),(8,.bx [int y.2.1.1.sy,int y.2.1.1.st,.gv 6,int (ndS y.2.1.1 B),int (ndA y.2.1.1 B)]),(9,.opq (kbA Z 3 rwM (y.2.2 ++ [y.2.1])) []),(10,.row 5 (rows (eNv B) (y.2.2 ++ [y.2.1])))]) (fun y => (p.length - y.1).toNat) ((0 : Int),(root sy st,v),([] : List (Mach × Value))) [0,1,2,3,4,5,6,7,8,9,10] (hI := ?_) (hr := ?_)
  · exact ⟨by simp,by simp,hr,by simp,by simp⟩
  · rintro ⟨i,⟨m,v⟩,pre⟩ ⟨k0,k1,k2,k3,k4⟩
    dsimp only [List.cons_append,List.nil_append] at *
    skip
    repeat' first|(apply p3;(first|exact pu1|exact puC|exact puI);exact rfl)|refine cdn ?_|refine g_reg (id := 4) ?_|refine g_reg (id := 5) ?_|refine g_reg (id := 12) ?_|((refine g_cond rfl (fun hc => ?_) (fun hc => ?_)) <;> (try simp only [dcB] at hc) <;> (try first|contradiction|(exfalso;omega)))
    · have hm := k2.v
      have hlr := chR_len hm
      have ha := ndA_bd (B := B) hm
      have hlm := vMach_len hm
      have hn := pthL_next (B := B) (m := m) k0 (show i.toNat < p.length by omega)
      try dsimp only at k2 k3 k4
      rw [hn] at k4
      generalize hkk : p[i.toNat]'(by omega) = k at *
      have hno : ¬ ndS m B = 0 ∨ k < 0 ∨ ((chR m).length : Int) ≤ k → pthL B (root sy st) p = none := fun h => by rw [← k4,stp_no h]; rfl
      by_cases hs : ndS m B = 0
      · skip
        repeat' first|(apply p3;(exact pu1);exact rfl)|refine cdn ?_|refine g_reg (id := 6) ?_|(apply c4 1;exact callK1 (θ := []) (hD := (childrenY_ok m B hm hs));exact rfl;exact rfl;exact rfl;refine dM ?_)
        by_cases hk : 0 ≤ k ∧ k < ((chR m).length : Int)
        · have hst := stp_yes (B := B) hs hk.1 (show k.toNat < (chR m).length by omega)
          have h2 := (stp_ok k2 hst).1
          rw [hst] at k4
          repeat' first|(apply p3;(first|exact pu1|exact a_sub rfl rfl (by omega) (by omega));exact rfl)|refine cdn ?_|refine g_reg (id := 7) ?_|(apply c4 0;exact callK1 (θ := []) (hD := (sizeR_ok _ preB115));exact rfl;exact rfl;exact rfl;refine dM ?_)|(apply c4 0;exact callK1 (θ := []) (hD := (within_ok _ _ _));exact rfl;exact rfl;exact rfl;refine dM ?_)|(apply g_drN (id := 9) okM [[],[],[1],[],[3],[],[],[5,6],[5,6,7],[1,2,3,4,5,6,7,8],[0,1,2,3,4,5,6,7,8,9],[0,1,2,3,4,5,6,7,8,9,10]] [([],[]),([],[]),([],[]),([],[]),([],[]),([],[]),([],[]),([],[]),([],[]),([0,1],[2]),([2,3],[0,1,12,13]),([],[8])] 4;(focus (refine dp 0 0 [39,40,41,42,43,44,45,46,47] [(true,0),(true,1),(false,2)] pu1 ?_;refine dp 1 0 [38,41,42,43,44,45,46] [] (a_pure (sv := .one _) rfl) ?_;refine dp 2 1 [38,41,42,43,44,45,46] [] (by exact puL) ?_;refine dp 3 0 [38,39,40,43,44,45,46] [] (a_pure (sv := .one _) rfl) ?_;refine dp 4 1 [38,39,40,43,44,45,46] [] (by exact puL) ?_;refine dp 5 0 [38,39,40,41,42,44] [] pu1 ?_;refine dp 6 0 [38,39,40,41,42,43] [] pu1 ?_;refine dp 7 3 [38,39,40,41,42] [] puI ?_;refine dp 8 7 [38,39,40,41,42] [] (by exact a_ldsE (E := eR) 0 rfl rfl rfl (fA rfl) rfl rfl (Nat.le_of_ble_eq_true rfl) (Nat.le_of_ble_eq_true rfl) bnd rfl (by repeat (first|exact trivial|exact rfl|refine And.intro ?_ ?_)) rfl) ?_;refine duN 9 255 [38] [] (callD0 (n := _) 0 (θ := [2]) (hD := (childQ_ok Z m _ _ preB115 preB115 preB115))) (by exact rfl) (by exact rfl) ?_;refine duN 10 1023 [] [] (callD0 (n := _) 2 (θ := [0,1,12,13]) (hD := (lookQ_ok Z st sy B _ h2 preB115 preB115))) (by exact rfl) (by exact rfl) ?_;refine duE 11 2047 [] [] (by exact a_st_bx rfl rfl rfl rfl (fN rfl rfl) (Nat.le_of_ble_eq_true rfl) rfl) (by exact rfl) (by exact rfl) ?_;(refine d_nil ?_;refine dN ?_)));any_goals kernel_rfl)|((refine g_cond rfl (fun hc => ?_) (fun hc => ?_)) <;> (try simp only [dcB] at hc) <;> (try first|contradiction|(exfalso;omega)))
          refine g_nameK 15 rfl (fun v' => ?_)
          refine g_conv (t_addK (chM m (ndA m B) ((chR m)[k.toNat]'(by omega))) 9 15 rfl rfl rfl) ?_
          repeat' first|(apply n3;(exact a_litE (eNv B) [(chM m (ndA m B) ((chR m)[k.toNat]'(by omega)),v')] rfl rfl rfl rfl rfl rfl rfl rfl);exact rfl;refine dA ?_)|(apply p3;(exact pu1);exact rfl)|refine cdn ?_|refine g_reg (id := 10) ?_|(apply s3;exact a_appE (fP rfl) rfl rfl rfl rfl nowR (by (simp;omega)) (by decide) (by decide) (by exact rfl);exact rfl;exact rfl)|(refine o_conv (t_nameA 50 2 15 rfl rfl rfl) ?_)
          refine g_conv (t_unname 15 rfl) ?_
          repeat' first|(apply p3;(first|exact pu1|exact a_add rfl rfl (by omega) (by omega));exact rfl)|refine cd ?_
          refine q_again (i + 1,(chM m (ndA m B) ((chR m)[k.toNat]'(by omega)),v'),pre ++ [(m,v)]) [0,1,2,3,4,5,14,15,8,9,17] (by exact stk) ?_ ?_
          · refine ⟨by dsimp only; omega,by dsimp only; omega,h2,by simp; omega,?_⟩
            rw [← k4]
            simp [Option.map_map,Function.comp_def]
          · dsimp only; omega
        · rw [hno (by omega)]
          dsimp only [Option.isSome_none,Option.getD_none]
          repeat' first|(apply n3;exact a_nilO (eNv B) rfl;exact rfl)|(apply p3;(first|exact pu1|exact a_sub rfl rfl (by omega) (by omega));exact rfl)|refine cd ?_|(apply c4 0;exact callK1 (θ := []) (hD := (sizeR_ok _ preB115));exact rfl;exact rfl;exact rfl;refine dM ?_)|(apply c4 0;exact callK1 (θ := []) (hD := (within_ok _ _ _));exact rfl;exact rfl;exact rfl;refine dM ?_)|((refine g_cond rfl (fun hc => ?_) (fun hc => ?_)) <;> (try simp only [dcB] at hc) <;> (try first|contradiction|(exfalso;omega)))
          refine g_conv (t_subK (L' := []) 9 rfl (fun y hy => by cases hy)) ?_
          refine g_conv (t_packN (L := []) 12 9 rfl (plain_eNv _) rfl) ?_
          repeat refine cr ?_
          refine ends_id ?_
          refine endK [?_] (h2 := ?_) (h3 := ?_) (nd := ?_)
          rotate_left 1
          all_goals (repeat' first|exact ce0|refine ce ?_|refine ce2 ?_ ?_|(refine Or.inr (bx_eq rfl rfl ?_);(try dsimp only [C.ren,C.ren.all]);(try exact rfl))|exact SVLe.refl|refine ceb ?_)
          all_goals first | exact (show nodupB _ = true from rfl) | exact Or.inr rfl | (rfl)
      · rw [hno (.inl hs)]
        dsimp only [Option.isSome_none,Option.getD_none]
        repeat' first|(apply p3;(exact pu1);exact rfl)|refine cd ?_|(apply c4 1;exact callK1 (θ := []) (hD := (childrenN_ok m B hm hs));exact rfl;exact rfl;exact rfl;refine dM ?_)|(apply c4 0;exact callK1 (θ := []) (hD := (sizeR_ok _ preB115));exact rfl;exact rfl;exact rfl;refine dM ?_)
        simp only [List.length_nil]
        repeat' first|(apply n3;exact a_nilO (eNv B) rfl;exact rfl)|(apply p3;(first|exact pu1|exact a_sub rfl rfl (by omega) (by omega));exact rfl)|refine cd ?_|(apply c4 0;exact callK1 (θ := []) (hD := (within_ok _ _ _));exact rfl;exact rfl;exact rfl;refine dM ?_)|((refine g_cond rfl (fun hc => ?_) (fun hc => ?_)) <;> (try simp only [dcB] at hc) <;> (try first|contradiction|(exfalso;omega)))
        refine g_conv (t_subK (L' := []) 9 rfl (fun y hy => by cases hy)) ?_
        refine g_conv (t_packN (L := []) 12 9 rfl (plain_eNv _) rfl) ?_
        repeat refine cr ?_
        refine ends_id ?_
        refine endK [?_] (h2 := ?_) (h3 := ?_) (nd := ?_)
        rotate_left 1
        all_goals (repeat' first|exact ce0|refine ce ?_|refine ce2 ?_ ?_|(refine Or.inr (bx_eq rfl rfl ?_);(try dsimp only [C.ren,C.ren.all]);(try exact rfl))|exact SVLe.refl|refine ceb ?_)
        all_goals first | exact (show nodupB _ = true from rfl) | exact Or.inr rfl | (rfl)
    · have e : pthL B (root sy st) p = some ((pre ++ [(m,v)]).map (·.1)) := by
        rw [← k4,List.drop_of_length_le (by omega)]
        simp [pthL]
      rw [e]
      skip
      refine g_conv (t_packN 10 9 rfl (plain_eNv _) rfl) ?_
      repeat refine cr ?_
      refine ends_id ?_
      refine endK [?_] (h2 := ?_) (h3 := ?_) (nd := ?_)
      rotate_left 1
      all_goals (repeat' first|exact ce0|refine ce ?_|refine ce2 ?_ ?_|(refine Or.inr (bx_eq rfl rfl ?_);(try dsimp only [C.ren,C.ren.all]);(try exact rfl))|exact SVLe.refl|refine ceb ?_)
      all_goals first | exact (show nodupB _ = true from rfl) | exact Or.inr rfl | (rfl)
@[irreducible] def tfM (st sy B : Int) (p : List Int) : Mach := if askT st sy B = 0 then (pth B (root sy st) p).getD mach0 else mach0
@[irreducible] def tfC (st sy B : Int) (p : List Int) : Int := if askT st sy B = 0 then if (pth B (root sy st) p).isSome = true then 0 else 3 else askT st sy B
theorem tf_ask {st sy B : Int} {p : List Int} (h : ¬ askT st sy B = 0) : tfM st sy B p = mach0 ∧ tfC st sy B p = askT st sy B := by
  unfold tfM tfC; rw [if_neg h,if_neg h]; exact ⟨rfl,rfl⟩
theorem tf_none {st sy B : Int} {p : List Int} (h : askT st sy B = 0) (hv : pth B (root sy st) p = none) : tfM st sy B p = mach0 ∧ tfC st sy B p = 3 := by
  unfold tfM tfC; rw [if_pos h,if_pos h,hv]; exact ⟨rfl,rfl⟩
theorem tf_some {st sy B : Int} {p : List Int} {m : Mach} (h : askT st sy B = 0) (hv : pth B (root sy st) p = some m) : tfM st sy B p = m ∧ tfC st sy B p = 0 := by
  unfold tfM tfC; rw [if_pos h,if_pos h,hv]; exact ⟨rfl,rfl⟩
theorem iTnfAt_ok (st sy B : Int) (p : List Int) (hp : (p.length : Int) ≤ 1048576) : Does Tryz.prog 10 [.one (int st),.one (int sy),.one (shI p),.one (int B)] [] (.tup [(true,[int (tfM st sy B p).sy,int (tfM st sy B p).st,.gv 0]),(false,[int (tfC st sy B p)])]) [.row 3 (rows eR (tfM st sy B p).ru)] := by
  by_cases h : askT st sy B = 0
  · obtain ⟨q1,q2,q3,q4⟩ := ask_bd h
    have hls := pthL_pth (B := B) p (root sy st)
    cases hv : pth B (root sy st) p with
    | none =>
      obtain ⟨e1,e2⟩ := tf_none h hv
      rw [e1,e2]
      rw [hv] at hls
      refine does_of (k := 0) Tryz.func10 rfl Tryz.ntmps10 rfl rfl fun w F0 S0 ρ0 => ?_
      dsimp only [argT,argH]
      refine g_conv t_zw ?_
      repeat' first|(apply n3;exact a_new (gb := .bx _) rfl;exact rfl;refine dA ?_)|(apply p3;(first|exact pu1|exact a_ne rfl rfl);exact rfl)|refine cdn ?_|refine g_reg (id := 0) ?_|refine g_reg (id := 1) ?_|refine g_reg (id := 2) ?_|refine g_reg (id := 4) ?_|(apply c4 0;exact callK1 (θ := []) (hD := (sizesCode_ok _ _ _));exact rfl;exact rfl;exact rfl;refine dM ?_)|(apply c4 2;exact callK0 (θ := []) (hD := (forestQ_ok S0 st sy B));exact rfl;exact rfl;exact rfl;refine dM ?_)|(apply c4 1;exact callK0 (θ := [2,3,0]) (hD := (atQ_ok S0 st sy B p preB115 preB115 preB115 preB115 preB115 preB115 preB115));exact rfl;exact rfl;exact rfl;refine dM ?_)|((refine g_cond rfl (fun hc => ?_) (fun hc => ?_)) <;> (try simp only [dcB] at hc) <;> (try first|contradiction|(exfalso;omega)))
      simp only [hls,Option.isSome_none]
      repeat' first|(apply p3;(exact pu1);exact rfl)|refine cd ?_|(apply w3;(exact a_st_bx rfl rfl rfl rfl (fN rfl rfl) (Nat.le_of_ble_eq_true rfl) rfl);exact rfl;refine dS ?_)
      refine g_conv (t_nilB (i := 1) (k := 2) (z := 3) rfl rfl rfl (by decide)) ?_
      try dsimp only [setRow,List.map_cons,List.map_nil,scC,List.set_cons_zero,List.set_cons_succ,Nat.reduceAdd]
      repeat refine cr ?_
      refine ends_id ?_
      refine endK [?_] (h2 := ?_) (h3 := ?_) (nd := ?_)
      rotate_left 1
      all_goals (repeat' first|exact ce0|refine ce ?_|refine ce2 ?_ ?_|(refine Or.inr (bx_eq rfl rfl ?_);(try dsimp only [C.ren,C.ren.all]);(try exact rfl))|exact SVLe.refl|refine ceb ?_)
      all_goals first | exact (show nodupB _ = true from rfl) | exact Or.inr rfl | (rfl)
    | some m =>
      obtain ⟨e1,e2⟩ := tf_some h hv
      obtain ⟨L,hL,hLl,hLg⟩ := pthL_some hv
      rw [e1,e2]
      refine does_of (k := 0) Tryz.func10 rfl Tryz.ntmps10 rfl rfl fun w F0 S0 ρ0 => ?_
      dsimp only [argT,argH]
      refine g_conv t_zw ?_
      repeat' first|(apply n3;exact a_new (gb := .bx _) rfl;exact rfl;refine dA ?_)|(apply p3;(first|exact pu1|exact a_ne rfl rfl);exact rfl)|refine cdn ?_|refine g_reg (id := 0) ?_|refine g_reg (id := 1) ?_|refine g_reg (id := 2) ?_|refine g_reg (id := 4) ?_|(apply c4 0;exact callK1 (θ := []) (hD := (sizesCode_ok _ _ _));exact rfl;exact rfl;exact rfl;refine dM ?_)|(apply c4 2;exact callK0 (θ := []) (hD := (forestQ_ok S0 st sy B));exact rfl;exact rfl;exact rfl;refine dM ?_)|(apply c4 1;exact callK0 (θ := [2,3,0]) (hD := (atQ_ok S0 st sy B p preB115 preB115 preB115 preB115 preB115 preB115 preB115));exact rfl;exact rfl;exact rfl;refine dM ?_)|((refine g_cond rfl (fun hc => ?_) (fun hc => ?_)) <;> (try simp only [dcB] at hc) <;> (try first|contradiction|(exfalso;omega)))
      simp only [hL,Option.isSome_some,Option.getD_some]
      repeat' first|(apply p3;(exact pu1);exact rfl)|refine cdn ?_|refine g_reg (id := 5) ?_
      refine g_openN 4 plain_eNv rfl (fun K hK => ?_)
      have hKl : (K.length : Int) = p.length + 1 := by
        have := congrArg List.length hK
        rw [List.length_map] at this
        omega
      obtain ⟨v,hx⟩ : ∃ v,K[((p.length : Nat) : Int).toNat]'(by omega) = (m,v) := by
        refine ⟨(K[((p.length : Nat) : Int).toNat]'(by omega)).2,?_⟩
        have h1 := hLg ((p.length : Nat) : Int).toNat (by omega)
        rw [List.take_of_length_le (by simp),hv] at h1
        have h2 := Option.some.inj h1
        have h3 : (K[((p.length : Nat) : Int).toNat]'(by omega)).1 = L[((p.length : Nat) : Int).toNat]'(by omega) := by
          have := congrArg (fun l => l[((p.length : Nat) : Int).toNat]?) hK
          simp only [List.getElem?_map] at this
          rw [List.getElem?_eq_getElem (by omega),List.getElem?_eq_getElem (by omega)] at this
          exact Option.some.inj this
        rw [← h2] at h3
        exact Prod.ext h3 rfl
      have hmem : (m,v) ∈ K := hx ▸ List.getElem_mem _
      repeat' first|(apply p3;(first|exact pu1|exact puN|exact a_ldsE (E := (eNv B)) 0 rfl rfl rfl (fA rfl) rfl rfl (Nat.le_of_ble_eq_true rfl) (Nat.le_of_ble_eq_true rfl) bnd rfl (by repeat (first|exact trivial|exact rfl|refine And.intro ?_ ?_)) rfl|exact puI);exact rfl)|refine cd ?_|(apply w3;(exact a_st_bx rfl rfl rfl rfl (fN rfl rfl) (Nat.le_of_ble_eq_true rfl) rfl);exact rfl;refine dS ?_)
      simp only [hx]
      refine g_conv (t_rcOf m v 5 rfl hmem) ?_
      refine g_conv (t_isv v) ?_
      refine g_turn (t_thawB (t' := [(8,.one (.gv 1)),(9,.one (int 0))]) 1 2 6 5 0 rfl rfl rfl rfl rfl rfl rfl rfl ⟨.inr rfl,.inr rfl,trivial⟩ ⟨trivial,trivial,trivial⟩) ?_
      repeat refine cr ?_
      refine ends_id ?_
      refine endK [?_] (h2 := ?_) (h3 := ?_) (nd := ?_)
      rotate_left 1
      all_goals (repeat' first|exact ce0|refine ce ?_|refine ce2 ?_ ?_|(refine Or.inr (bx_eq rfl rfl ?_);(try dsimp only [C.ren,C.ren.all]);(try exact rfl))|exact SVLe.refl|refine ceb ?_)
      all_goals first | exact (show nodupB _ = true from rfl) | exact Or.inr rfl | (rfl)
  · obtain ⟨e1,e2⟩ := tf_ask (p := p) h
    rw [e1,e2]
    refine does_of (k := 0) Tryz.func10 rfl Tryz.ntmps10 rfl rfl fun w F0 S0 ρ0 => ?_
    dsimp only [argT,argH]
    repeat' first|(apply n3;exact a_new (gb := .bx _) rfl;exact rfl;refine dA ?_)|(apply p3;(first|exact pu1|exact a_ne rfl rfl);exact rfl)|refine cd ?_|(apply w3;(exact a_st_bx rfl rfl rfl rfl (fN rfl rfl) (Nat.le_of_ble_eq_true rfl) rfl);exact rfl;refine dS ?_)|(apply c4 0;exact callK1 (θ := []) (hD := (sizesCode_ok _ _ _));exact rfl;exact rfl;exact rfl;refine dM ?_)|((refine g_cond rfl (fun hc => ?_) (fun hc => ?_)) <;> (try simp only [dcB] at hc) <;> (try first|contradiction|(exfalso;omega)))
    refine g_conv (t_nilB (i := 0) (k := 2) (z := 3) rfl rfl rfl (by decide)) ?_
    try dsimp only [setRow,List.map_cons,List.map_nil,scC,List.set_cons_zero,List.set_cons_succ,Nat.reduceAdd]
    repeat refine cr ?_
    refine ends_id ?_
    refine endK [?_] (h2 := ?_) (h3 := ?_) (nd := ?_)
    rotate_left 1
    all_goals (repeat' first|exact ce0|refine ce ?_|refine ce2 ?_ ?_|(refine Or.inr (bx_eq rfl rfl ?_);(try dsimp only [C.ren,C.ren.all]);(try exact rfl))|exact SVLe.refl|refine ceb ?_)
    all_goals first | exact (show nodupB _ = true from rfl) | exact Or.inr rfl | (rfl)
end Go.Proofs.YtighjcjmacajoaaGreatDoor
end
section
set_option linter.unusedVariables false
set_option linter.unusedSimpArgs false
set_option maxRecDepth 100000
set_option maxHeartbeats 4000000
namespace Go.Proofs.YtighjcjmacajoaaGreatDoor
open Go Foot
@[irreducible] def nxP (B : Int) (rt : Mach) (q : List Int) : Option (List Int) := (pth B rt q).bind fun m => nxt B rt m q 0
def nfs (B : Int) (rt : Mach) : Nat → List Int → List (List Int)
  | 0,_ => []
  | k + 1,q => q :: (match nxP B rt q with
    | none => []
    | some q' => nfs B rt k q')
theorem nfs_none {B : Int} {rt : Mach} {k : Nat} {q : List Int} (h : nxP B rt q = none) : nfs B rt (k + 1) q = [q] := by rw [nfs,h]
theorem nfs_some {B : Int} {rt : Mach} {k : Nat} {q q' : List Int} (h : nxP B rt q = some q') : nfs B rt (k + 1) q = q :: nfs B rt k q' := by rw [nfs,h]
theorem nfs_one {B : Int} {rt : Mach} {q : List Int} : nfs B rt 1 q = [q] := by
  rw [nfs]
  cases nxP B rt q <;> rfl
theorem nxP_is {B : Int} {rt m : Mach} {q : List Int} (h : pth B rt q = some m) : nxP B rt q = nxt B rt m q 0 := by unfold nxP; rw [h]; rfl
theorem asd_pth {B : Int} {rt : Mach} {p : List Int} {least : Nat} : ∀ {n : Nat} {q : List Int},asd B rt p least n = some q → ∃ y,pth B rt q = some y
  | 0,q,h => by cases h
  | n + 1,q,h => by
    rw [asd] at h
    split at h
    · cases h
    · split at h
      · rename_i h1
        simp only [Option.some.injEq] at h
        rw [← h,pth_app]
        obtain ⟨y,hy⟩ := Option.isSome_iff_exists.1 h1
        rw [Option.bind_eq_some_iff] at hy
        obtain ⟨m,e1,e2⟩ := hy
        refine ⟨y,?_⟩
        rw [e1,Option.bind_some,pth,e2]
        rfl
      · exact asd_pth h
theorem nxP_ok {B sy st : Int} {rt m : Mach} {q q' : List Int} (hrt : NdOk sy st rt) (h : pth B rt q = some m) (hn : nxP B rt q = some q') : ∃ y,pth B rt q' = some y := by
  rw [nxP_is h] at hn
  unfold nxt at hn
  split at hn
  · rename_i hs
    simp only [Option.some.injEq] at hn
    have hc := (chR_len (pth_ok hrt h).1.v).1
    exact ⟨_,hn ▸ pth_child (k := 0) h hs (by omega)⟩
  · exact asd_pth hn
@[irreducible] def nfC (st sy B many : Int) (p : List Int) : Int := if askT st sy B = 0 then if 1 ≤ many ∧ many ≤ 400 then if (pth B (root sy st) p).isSome = true then 0 else 3 else 2 else askT st sy B
@[irreducible] def nfL (st sy B many : Int) (p : List Int) : List (List Int) := if askT st sy B = 0 then if 1 ≤ many ∧ many ≤ 400 then if (pth B (root sy st) p).isSome = true then nfs B (root sy st) many.toNat p else [] else [] else []
theorem nf_ask {st sy B many : Int} {p : List Int} (h : ¬ askT st sy B = 0) : nfC st sy B many p = askT st sy B ∧ nfL st sy B many p = [] := by
  unfold nfC nfL; rw [if_neg h,if_neg h]; exact ⟨rfl,rfl⟩
theorem nf_many {st sy B many : Int} {p : List Int} (h : askT st sy B = 0) (h2 : ¬ (1 ≤ many ∧ many ≤ 400)) : nfC st sy B many p = 2 ∧ nfL st sy B many p = [] := by
  unfold nfC nfL; rw [if_pos h,if_pos h,if_neg h2,if_neg h2]; exact ⟨rfl,rfl⟩
theorem nf_none {st sy B many : Int} {p : List Int} (h : askT st sy B = 0) (h2 : 1 ≤ many ∧ many ≤ 400) (h3 : pth B (root sy st) p = none) : nfC st sy B many p = 3 ∧ nfL st sy B many p = [] := by
  unfold nfC nfL; rw [if_pos h,if_pos h,if_pos h2,if_pos h2,h3]; exact ⟨rfl,rfl⟩
theorem nf_ok {st sy B many : Int} {p : List Int} {m : Mach} (h : askT st sy B = 0) (h2 : 1 ≤ many ∧ many ≤ 400) (h3 : pth B (root sy st) p = some m) : nfC st sy B many p = 0 ∧ nfL st sy B many p = nfs B (root sy st) many.toNat p := by
  unfold nfC nfL; rw [if_pos h,if_pos h,if_pos h2,if_pos h2,h3]; exact ⟨rfl,rfl⟩
end Go.Proofs.YtighjcjmacajoaaGreatDoor
end
