/- Parts of the proof (18 of 19). -/
import Derived.Lib.Join
import Derived.Test.YtegpggobfdcafaaGreatQ17
section
set_option linter.unusedVariables false
set_option linter.unusedSimpArgs false
set_option maxRecDepth 100000
set_option maxHeartbeats 4000000
namespace Go.Proofs.YtegpggobfdcafaaGreat
open Go Foot Go.Shelf Go.RowKit
end Go.Proofs.YtegpggobfdcafaaGreat
end
section
set_option linter.unusedVariables false
set_option linter.unusedSimpArgs false
set_option maxRecDepth 100000
namespace Go.Proofs.YtegpggobfdcafaaGreat
open Go Foot
@[irreducible] def mulW (a b : Int) : Int := IntKind.u64.wrap (a * b)
@[irreducible] def addW (a b : Int) : Int := IntKind.u64.wrap (a + b)
@[irreducible] def cnvW (a : Int) : Int := IntKind.u64.wrap a
@[irreducible] def shrW (a b : Int) : Int := a.fdiv (2 ^ min b.toNat IntKind.u64.bits)
@[irreducible] def andW (a b : Int) : Int := IntKind.u64.wrap ((BitVec.ofInt IntKind.u64.bits a &&& BitVec.ofInt IntKind.u64.bits b).toNat : Nat)
theorem andW_le (a : Int) : 0 ≤ andW a 255 ∧ andW a 255 ≤ 255 := by
  have h : (BitVec.ofInt IntKind.u64.bits a &&& BitVec.ofInt IntKind.u64.bits 255).toNat ≤ 255 := by
    show (BitVec.ofInt 64 a &&& BitVec.ofInt 64 255).toNat ≤ 255
    rw [BitVec.toNat_and]
    have h5 : (BitVec.ofInt 64 255).toNat = 255 := by decide
    rw [h5]
    exact Nat.and_le_right
  unfold andW
  rw [wrapU (by omega) (by omega)]
  omega
section
variable {P : Program} {g : Gh} {st : St}
variable {dst : Option Tmp} {ty : TypeId} {pos : String} {after : Array Edge} {guard : Option (Nat × Bool)} {x y : Operand} {T U : TypeId} {a b : Int}
theorem w_mul (e1 : opd st x = .one (u64 a)) (e2 : opd st y = .one (u64 b)) : Acts P g ⟨dst,.binOp .mul T x y U,ty,pos,after,guard⟩ st (.one (u64 (mulW a b))) [] [] := by
  unfold mulW
  exact a_bin (op := .mul) e1 e2 rfl trivial
theorem w_add (e1 : opd st x = .one (u64 a)) (e2 : opd st y = .one (u64 b)) : Acts P g ⟨dst,.binOp .add T x y U,ty,pos,after,guard⟩ st (.one (u64 (addW a b))) [] [] := by
  unfold addW
  exact a_bin (op := .add) e1 e2 rfl trivial
theorem w_and (e1 : opd st x = .one (u64 a)) (e2 : opd st y = .one (u64 b)) : Acts P g ⟨dst,.binOp .and T x y U,ty,pos,after,guard⟩ st (.one (u64 (andW a b))) [] [] := by
  unfold andW
  exact a_bin (op := .and) e1 e2 rfl trivial
theorem w_shr (e1 : opd st x = .one (u64 a)) (e2 : opd st y = .one (u64 b)) (h : 0 ≤ b) : Acts P g ⟨dst,.binOp .shr T x y U,ty,pos,after,guard⟩ st (.one (u64 (shrW a b))) [] [] := by
  unfold shrW
  exact a_bin (op := .shr) e1 e2 rfl h
theorem w_cnv (e1 : opd st x = .one (int a)) (hT : P.underlying T = some (.int .i64)) (hU : P.underlying U = some (.int .u64)) : Acts P g ⟨dst,.convert T U x,ty,pos,after,guard⟩ st (.one (u64 (cnvW a))) [] [] := by
  unfold cnvW
  exact a_conv e1 (by rw [hT]; rfl) hU
end
end Go.Proofs.YtegpggobfdcafaaGreat
end
section
set_option linter.unusedVariables false
set_option linter.unusedSimpArgs false
set_option maxRecDepth 100000
set_option maxHeartbeats 4000000
namespace Go.Proofs.YtegpggobfdcafaaGreat
open Go Foot
abbrev shY (l : List Int) : C := .d (.sl false 1 (rows eY l))
structure Src where
  co : List Int
  pl : Int
  sd : Int
abbrev srB (s : Src) : GB := .bx [shY s.co,int s.pl,u64 s.sd]
structure SrOk (s : Src) : Prop where
  n : (s.co.length : Int) ≤ 9223372036854775807
  p : 0 ≤ s.pl ∧ s.pl ≤ 1000000000000000000
  b : ∀ x ∈ s.co,0 ≤ x ∧ x ≤ 255
@[irreducible] def nxB (s : Src) : Int := if s.pl < s.co.length then s.co.getD s.pl.toNat 0 else 0
@[irreducible] def nxS (s : Src) : Src := ⟨s.co,s.pl + 1,addW (addW (mulW s.sd 6364136223846793005) (cnvW (nxB s))) 1442695040888963407⟩
@[irreducible] def nxV (s : Src) : Int := if s.pl + 1 ≤ s.co.length then nxB s else andW (shrW (nxS s).sd 40) 255
theorem nxB_bd {s : Src} (g : SrOk s) : 0 ≤ nxB s ∧ nxB s ≤ 255 := by
  unfold nxB
  split
  · rename_i h
    have := g.p
    rw [List.getD_eq_getElem?_getD,List.getElem?_eq_getElem (by omega)]
    exact g.b _ (List.getElem_mem _)
  · omega
theorem nxV_bd {s : Src} (g : SrOk s) : 0 ≤ nxV s ∧ nxV s ≤ 255 := by
  unfold nxV
  split
  · exact nxB_bd g
  · exact andW_le _
theorem preB76 {p : Prop} (h : p := by first | with_reducible assumption | omega | (simp only [List.length_append,List.length_cons,List.length_nil,List.length_set,List.length_replicate,List.length_take,List.length_drop,List.length_tail,List.length_dropLast,List.length_reverse] at *; omega) | exact mem_len (by assumption) (by omega) | (with_reducible refine Int.le_trans (Int.ofNat_le.2 (trimR_len _)) ?_; simp only [List.length_cons,List.length_tail]; omega) | (exact (ruAt_ok (by assumption) (by assumption) (by assumption)).2.1) | (exact (ruAt_ok (by assumption) (by assumption) (by assumption)).2.1) | (have := vMach_bd (by assumption); omega) | (simp only [mC_ch,mC_tu]; omega) | (have := vTag_bd (by assumption); omega) | (have := (‹Gd _ _›).le; omega) | (exact tgHalts_no (by assumption)) | (exact tgHead (by assumption) (by assumption) (by assumption)) | (exact Int.le_trans (tgStep_gd (by assumption) (by assumption) (by assumption) (by assumption)).le (by decide)) | (exact vTag_r (by assumption)) | (with_reducible refine Int.le_trans (Int.ofNat_le.2 (pushL_len _ _)) ?_; simp only [List.length_dropLast]; omega) | exact ls_at (by assumption) (by omega) | exact pt_gd (by assumption) | exact lv_at (by assumption) (by omega) | exact pt_gd (lv_at (by assumption) (by omega)) | exact (ask_ok (by assumption)).1 | exact (ask_ok (by assumption)).2.1 | exact (ask_ok (by assumption)).2.2.1 | exact (ask_ok (by assumption)).2.2.2 | trivial) : p := h
theorem srcFrom_ok (l : List Int) : Does Tryz.prog 46 [.one (shY l)] [] (.one (.gv 0)) [srB ⟨l,0,0⟩] := by
  refine does_of (k := 0) Tryz.func46 rfl Tryz.ntmps46 rfl rfl fun w F0 S0 ρ0 => ?_
  dsimp only [argT,argH]
  repeat' first|(apply n3;exact a_new (gb := .bx _) rfl;exact rfl;refine dA ?_)|(apply p3;exact pu1;exact rfl)|refine cd ?_|fail
  repeat refine cr ?_
  refine ends_id ?_
  refine endK [?_] (h2 := ?_) (h3 := ?_) (nd := ?_)
  rotate_left 1
  all_goals (repeat' first|exact ce0|refine ce ?_|refine ce2 ?_ ?_|(refine Or.inr (bx_eq rfl rfl ?_);(try dsimp only [C.ren,C.ren.all]);(try exact rfl))|exact SVLe.refl|refine ceb ?_)
  all_goals first | exact (show nodupB _ = true from rfl) | exact Or.inr rfl | (rfl)
theorem nxS_eq {s : Src} {b : Int} (h : nxB s = b) : nxS s = ⟨s.co,s.pl + 1,addW (addW (mulW s.sd 6364136223846793005) (cnvW b)) 1442695040888963407⟩ := by unfold nxS; rw [h]
theorem srcNext_ok (s : Src) (g : SrOk s) : Does Tryz.prog 103 [.one (.gv 0)] [srB s] (.one (int (nxV s))) [srB (nxS s)] := by
  have hp := g.p
  have hn := g.n
  by_cases hl : s.pl < s.co.length
  · have hg := g.b _ (List.getElem_mem (show s.pl.toNat < s.co.length by omega))
    have hb : nxB s = s.co[s.pl.toNat]'(by omega) := by
      unfold nxB
      rw [if_pos hl,List.getD_eq_getElem?_getD,List.getElem?_eq_getElem (by omega)]
      rfl
    have hv : nxV s = s.co[s.pl.toNat]'(by omega) := by unfold nxV; rw [if_pos (by omega),hb]
    rw [hv,nxS_eq hb]
    refine does_of (k := 1) Tryz.func103 rfl Tryz.ntmps103 rfl rfl fun w F0 S0 ρ0 => ?_
    dsimp only [argT,argH]
    repeat' first|(apply p3;(first|exact pu1|exact a_add rfl rfl (by omega) (by omega)|exact w_mul rfl rfl|exact w_cnv rfl Tryz.underlying3 Tryz.underlying160|exact w_add rfl rfl);exact rfl)|refine cd ?_|(apply w3;(exact a_st_bx rfl rfl rfl rfl (fN rfl rfl) (Nat.le_of_ble_eq_true rfl) rfl);exact rfl;refine dS ?_)|(apply g_drN (id := 2) okM [[],[0],[0,1],[0,1,2],[],[4],[4,5],[4,5,6],[4,5,6,7],[0,1,2,3,4,5,6,7,8]] [([],[]),([],[]),([],[]),([],[]),([],[]),([],[]),([],[]),([],[]),([],[]),([],[])] 0;(focus (refine dp 0 0 [8,9,10,11,12] [] pu1 ?_;refine dp 1 1 [8,9,10,11,12] [] (a_pure (sv := .one _) rfl) ?_;refine dp 2 3 [8,9,10,11,12] [] (a_pure (sv := .one _) rfl) ?_;refine dp 3 7 [8,9,10,11,12] [] puL ?_;refine dp 4 0 [4,5,6,7] [] pu1 ?_;refine dp 5 1 [4,5,6,7] [] (a_pure (sv := .one _) rfl) ?_;refine dp 6 3 [4,5,6,7] [] (a_pure (sv := .one _) rfl) ?_;refine dp 7 7 [4,5,6,7] [] puL ?_;refine dp 8 15 [4,5,6,7] [] (by exact puN) ?_;refine dp 9 511 [] [] puC ?_;(refine d_nil ?_;refine dN ?_)));any_goals kernel_rfl)|(apply g_drN (id := 3) okM [[],[0],[0,1],[0,1,2],[],[4],[4,5],[4,5,6],[0,1,2,3,4,5,6,7],[0,1,2,3,4,5,6,7,8],[0,1,2,3,4,5,6,7,8,9],[0,1,2,3,4,5,6,7,8,9,10]] [([],[]),([],[]),([],[]),([],[]),([],[]),([],[]),([],[]),([],[]),([],[]),([],[]),([],[]),([],[])] 0;(focus (refine dp 0 0 [18,19,20,21] [] pu1 ?_;refine dp 1 1 [18,19,20,21] [] (a_pure (sv := .one _) rfl) ?_;refine dp 2 3 [18,19,20,21] [] (a_pure (sv := .one _) rfl) ?_;refine dp 3 7 [18,19,20,21] [] puL ?_;refine dp 4 0 [14,15,16,17] [] pu1 ?_;refine dp 5 1 [14,15,16,17] [] (a_pure (sv := .one _) rfl) ?_;refine dp 6 3 [14,15,16,17] [] (a_pure (sv := .one _) rfl) ?_;refine dp 7 7 [14,15,16,17] [] puL ?_;refine dp 8 255 [] [] puI ?_;refine dp 9 511 [] [] (by exact a_pure (sv := .one _) rfl) ?_;refine dp 10 1023 [] [] (a_of8 rfl Tryz.underlying5 Tryz.underlying3 (by omega) (by omega)) ?_;refine dp 11 2047 [] [] pu1 ?_;(refine d_nil ?_;refine dN ?_)));any_goals kernel_rfl)|(apply g_drN (id := 6) okM [[],[0],[0,1],[0,1,2],[],[4],[4,5],[4,5,6],[4,5,6,7],[0,1,2,3,4,5,6,7,8]] [([],[]),([],[]),([],[]),([],[]),([],[]),([],[]),([],[]),([],[]),([],[]),([],[])] 0;(focus (refine dp 0 0 [48,49,50,51,52] [] pu1 ?_;refine dp 1 1 [48,49,50,51,52] [] (a_pure (sv := .one _) rfl) ?_;refine dp 2 3 [48,49,50,51,52] [] (a_pure (sv := .one _) rfl) ?_;refine dp 3 7 [48,49,50,51,52] [] puL ?_;refine dp 4 0 [44,45,46,47] [] pu1 ?_;refine dp 5 1 [44,45,46,47] [] (a_pure (sv := .one _) rfl) ?_;refine dp 6 3 [44,45,46,47] [] (a_pure (sv := .one _) rfl) ?_;refine dp 7 7 [44,45,46,47] [] puL ?_;refine dp 8 15 [44,45,46,47] [] (by exact puN) ?_;refine dp 9 511 [] [] puC ?_;(refine d_nil ?_;refine dN ?_)));any_goals kernel_rfl)|((refine g_cond rfl (fun hc => ?_) (fun hc => ?_)) <;> (try simp only [dcB] at hc) <;> (try first|contradiction|(exfalso;omega)))|fail
    repeat refine cr ?_
    refine ends_id ?_
    refine endK [] (h2 := ?_) (h3 := ?_) (nd := ?_)
    all_goals (repeat' first|exact ce0|refine ce ?_|refine ce2 ?_ ?_|(refine Or.inr (bx_eq rfl rfl ?_);(try dsimp only [C.ren,C.ren.all]);(try exact rfl))|exact SVLe.refl|refine ceb ?_)
    all_goals first | exact (show nodupB _ = true from rfl) | exact Or.inr rfl | (rfl)
  · have hb : nxB s = 0 := by unfold nxB; rw [if_neg hl]
    have hv : nxV s = andW (shrW (nxS s).sd 40) 255 := by unfold nxV; rw [if_neg (by omega)]
    rw [nxS_eq hb] at hv ⊢
    rw [hv]
    have h9 := andW_le (shrW (addW (addW (mulW s.sd 6364136223846793005) (cnvW 0)) 1442695040888963407) 40)
    refine does_of (k := 1) Tryz.func103 rfl Tryz.ntmps103 rfl rfl fun w F0 S0 ρ0 => ?_
    dsimp only [argT,argH]
    repeat' first|(apply p3;(first|exact pu1|exact a_add rfl rfl (by omega) (by omega)|exact w_mul rfl rfl|exact w_cnv rfl Tryz.underlying3 Tryz.underlying160|exact w_add rfl rfl|exact w_shr rfl rfl (by decide)|exact w_and rfl rfl|exact u_vnoc rfl Tryz.underlying160 Tryz.underlying2 bnd bnd);exact rfl)|refine cd ?_|(apply w3;(exact a_st_bx rfl rfl rfl rfl (fN rfl rfl) (Nat.le_of_ble_eq_true rfl) rfl);exact rfl;refine dS ?_)|(apply g_drN (id := 2) okM [[],[0],[0,1],[0,1,2],[],[4],[4,5],[4,5,6],[4,5,6,7],[0,1,2,3,4,5,6,7,8]] [([],[]),([],[]),([],[]),([],[]),([],[]),([],[]),([],[]),([],[]),([],[]),([],[])] 0;(focus (refine dp 0 0 [8,9,10,11,12] [] pu1 ?_;refine dp 1 1 [8,9,10,11,12] [] (a_pure (sv := .one _) rfl) ?_;refine dp 2 3 [8,9,10,11,12] [] (a_pure (sv := .one _) rfl) ?_;refine dp 3 7 [8,9,10,11,12] [] puL ?_;refine dp 4 0 [4,5,6,7] [] pu1 ?_;refine dp 5 1 [4,5,6,7] [] (a_pure (sv := .one _) rfl) ?_;refine dp 6 3 [4,5,6,7] [] (a_pure (sv := .one _) rfl) ?_;refine dp 7 7 [4,5,6,7] [] puL ?_;refine dp 8 15 [4,5,6,7] [] (by exact puN) ?_;refine dp 9 511 [] [] puC ?_;(refine d_nil ?_;refine dN ?_)));any_goals kernel_rfl)|(apply g_drN (id := 6) okM [[],[0],[0,1],[0,1,2],[],[4],[4,5],[4,5,6],[4,5,6,7],[0,1,2,3,4,5,6,7,8]] [([],[]),([],[]),([],[]),([],[]),([],[]),([],[]),([],[]),([],[]),([],[]),([],[])] 0;(focus (refine dp 0 0 [48,49,50,51,52] [] pu1 ?_;refine dp 1 1 [48,49,50,51,52] [] (a_pure (sv := .one _) rfl) ?_;refine dp 2 3 [48,49,50,51,52] [] (a_pure (sv := .one _) rfl) ?_;refine dp 3 7 [48,49,50,51,52] [] puL ?_;refine dp 4 0 [44,45,46,47] [] pu1 ?_;refine dp 5 1 [44,45,46,47] [] (a_pure (sv := .one _) rfl) ?_;refine dp 6 3 [44,45,46,47] [] (a_pure (sv := .one _) rfl) ?_;refine dp 7 7 [44,45,46,47] [] puL ?_;refine dp 8 15 [44,45,46,47] [] (by exact puN) ?_;refine dp 9 511 [] [] puC ?_;(refine d_nil ?_;refine dN ?_)));any_goals kernel_rfl)|((refine g_cond rfl (fun hc => ?_) (fun hc => ?_)) <;> (try simp only [dcB] at hc) <;> (try first|contradiction|(exfalso;omega)))|fail
    repeat refine cr ?_
    refine ends_id ?_
    refine endK [] (h2 := ?_) (h3 := ?_) (nd := ?_)
    all_goals (repeat' first|exact ce0|refine ce ?_|refine ce2 ?_ ?_|(refine Or.inr (bx_eq rfl rfl ?_);(try dsimp only [C.ren,C.ren.all]);(try exact rfl))|exact SVLe.refl|refine ceb ?_)
    all_goals first | exact (show nodupB _ = true from rfl) | exact Or.inr rfl | (rfl)
@[irreducible] def pkS (s : Src) (n : Int) : Src := if n ≤ 1 then s else if 200 < n then nxS (nxS s) else nxS s
@[irreducible] def pkV (s : Src) (n : Int) : Int := if n ≤ 1 then 0 else if 200 < n then (nxV s * 256 + nxV (nxS s)) % n else nxV s % n
theorem sr_next {s : Src} (g : SrOk s) (h : s.pl ≤ 999999999999999999) : SrOk (nxS s) := by
  unfold nxS
  exact ⟨g.n,⟨by have := g.p; dsimp only; omega,by dsimp only; omega⟩,g.b⟩
theorem nxS_pl (s : Src) : (nxS s).pl = s.pl + 1 := by unfold nxS; rfl
theorem pkS_pl (s : Src) (n : Int) : s.pl ≤ (pkS s n).pl ∧ (pkS s n).pl ≤ s.pl + 2 := by
  unfold pkS
  split
  · omega
  · split
    · rw [nxS_pl,nxS_pl]; omega
    · rw [nxS_pl]; omega
theorem sr_pick {s : Src} {n : Int} (g : SrOk s) (h : s.pl ≤ 999999999999999998) : SrOk (pkS s n) := by
  unfold pkS
  split
  · exact g
  · split
    · exact sr_next (sr_next g (by omega)) (by rw [nxS_pl]; omega)
    · exact sr_next g (by omega)
theorem pkV_bd {s : Src} {n : Int} (g : SrOk s) (h : 1 ≤ n) : 0 ≤ pkV s n ∧ pkV s n < n := by
  unfold pkV
  split
  · omega
  · split
    · exact ⟨Int.emod_nonneg _ (by omega),Int.emod_lt_of_pos _ (by omega)⟩
    · exact ⟨Int.emod_nonneg _ (by omega),Int.emod_lt_of_pos _ (by omega)⟩
theorem srcPick_ok (s : Src) (n : Int) (g : SrOk s) (h : s.pl ≤ 999999999999999998) (h1 : n ≤ 1000000) : Does Tryz.prog 48 [.one (.gv 0),.one (int n)] [srB s] (.one (int (pkV s n))) [srB (pkS s n)] := by
  have g2 := sr_next g (by omega)
  have hb := nxV_bd g
  have hb2 := nxV_bd g2
  by_cases hn : n ≤ 1
  · rw [show pkV s n = 0 by unfold pkV; rw [if_pos hn],show pkS s n = s by unfold pkS; rw [if_pos hn]]
    refine does_of (k := 1) Tryz.func48 rfl Tryz.ntmps48 rfl rfl fun w F0 S0 ρ0 => ?_
    dsimp only [argT,argH]
    repeat' first|(apply p3;(first|exact pu1|exact puC);exact rfl)|refine cd ?_|((refine g_cond rfl (fun hc => ?_) (fun hc => ?_)) <;> (try simp only [dcB] at hc) <;> (try first|contradiction|(exfalso;omega)))|fail
    repeat refine cr ?_
    refine ends_id ?_
    refine endK [] (h2 := ?_) (h3 := ?_) (nd := ?_)
    all_goals (repeat' first|exact ce0|refine ce ?_|refine ce2 ?_ ?_|(refine Or.inr (bx_eq rfl rfl ?_);(try dsimp only [C.ren,C.ren.all]);(try exact rfl))|exact SVLe.refl|refine ceb ?_)
    all_goals first | exact (show nodupB _ = true from rfl) | exact Or.inr rfl | (rfl)
  · by_cases hn2 : 200 < n
    · rw [show pkV s n = (nxV s * 256 + nxV (nxS s)) % n by unfold pkV; rw [if_neg hn,if_pos hn2],show pkS s n = nxS (nxS s) by unfold pkS; rw [if_neg hn,if_pos hn2]]
      refine does_of (k := 1) Tryz.func48 rfl Tryz.ntmps48 rfl rfl fun w F0 S0 ρ0 => ?_
      dsimp only [argT,argH]
      repeat' first|(apply p3;(first|exact pu1|exact puC|exact a_mulB rfl rfl (by omega) (by omega) (by omega) (by omega)|exact a_add rfl rfl (by omega) (by omega)|exact a_rem rfl rfl (by omega) (by omega) (by omega));exact rfl)|refine cd ?_|(apply c4 0;exact callK0 (θ := [_]) (hD := (srcNext_ok _ preB76));exact rfl;exact rfl;exact rfl;refine dM ?_)|((refine g_cond rfl (fun hc => ?_) (fun hc => ?_)) <;> (try simp only [dcB] at hc) <;> (try first|contradiction|(exfalso;omega)))|fail
      repeat refine cr ?_
      refine ends_id ?_
      refine endK [] (h2 := ?_) (h3 := ?_) (nd := ?_)
      all_goals (repeat' first|exact ce0|refine ce ?_|refine ce2 ?_ ?_|(refine Or.inr (bx_eq rfl rfl ?_);(try dsimp only [C.ren,C.ren.all]);(try exact rfl))|exact SVLe.refl|refine ceb ?_)
      all_goals first | exact (show nodupB _ = true from rfl) | exact Or.inr rfl | (rfl)
    · rw [show pkV s n = nxV s % n by unfold pkV; rw [if_neg hn,if_neg hn2],show pkS s n = nxS s by unfold pkS; rw [if_neg hn,if_neg hn2]]
      refine does_of (k := 1) Tryz.func48 rfl Tryz.ntmps48 rfl rfl fun w F0 S0 ρ0 => ?_
      dsimp only [argT,argH]
      repeat' first|(apply p3;(first|exact pu1|exact puC|exact a_rem rfl rfl (by omega) (by omega) (by omega));exact rfl)|refine cd ?_|(apply c4 0;exact callK0 (θ := [_]) (hD := (srcNext_ok _ preB76));exact rfl;exact rfl;exact rfl;refine dM ?_)|((refine g_cond rfl (fun hc => ?_) (fun hc => ?_)) <;> (try simp only [dcB] at hc) <;> (try first|contradiction|(exfalso;omega)))|fail
      repeat refine cr ?_
      refine ends_id ?_
      refine endK [] (h2 := ?_) (h3 := ?_) (nd := ?_)
      all_goals (repeat' first|exact ce0|refine ce ?_|refine ce2 ?_ ?_|(refine Or.inr (bx_eq rfl rfl ?_);(try dsimp only [C.ren,C.ren.all]);(try exact rfl))|exact SVLe.refl|refine ceb ?_)
      all_goals first | exact (show nodupB _ = true from rfl) | exact Or.inr rfl | (rfl)
theorem srcOne_ok (s : Src) (n : Int) (g : SrOk s) (h : s.pl ≤ 999999999999999998) (h1 : n ≤ 1000000) : Does Tryz.prog 102 [.one (.gv 0),.one (int n)] [srB s] (.one (boo (decide (pkV s n = 0)))) [srB (pkS s n)] := by
  refine does_of (k := 1) Tryz.func102 rfl Tryz.ntmps102 rfl rfl fun w F0 S0 ρ0 => ?_
  dsimp only [argT,argH]
  repeat' first|(apply p3;(first|exact pu1|exact puC);exact rfl)|refine cd ?_|(apply c4 0;exact callK0 (θ := [_]) (hD := (srcPick_ok _ _ preB76 preB76 preB76));exact rfl;exact rfl;exact rfl;refine dM ?_)|fail
  repeat refine cr ?_
  refine ends_id ?_
  refine endK [] (h2 := ?_) (h3 := ?_) (nd := ?_)
  all_goals (repeat' first|exact ce0|refine ce ?_|refine ce2 ?_ ?_|(refine Or.inr (bx_eq rfl rfl ?_);(try dsimp only [C.ren,C.ren.all]);(try exact rfl))|exact SVLe.refl|refine ceb ?_)
  all_goals first | exact (show nodupB _ = true from rfl) | exact Or.inr rfl | (rfl)
end Go.Proofs.YtegpggobfdcafaaGreat
end
section
set_option linter.unusedVariables false
set_option linter.unusedSimpArgs false
set_option maxRecDepth 100000
set_option maxHeartbeats 4000000
namespace Go.Proofs.YtegpggobfdcafaaGreat
open Go Foot
@[irreducible] def dsR (s : Src) (sy st : Int) : Rule' := if pkV (pkS (pkS (pkS s sy) 2) st) 7 = 0 then noR else ⟨pkV s sy,2 * pkV (pkS s sy) 2 - 1,pkV (pkS (pkS s sy) 2) st⟩
@[irreducible] def dsS (s : Src) (sy st : Int) : Src := pkS (pkS (pkS (pkS s sy) 2) st) 7
def dsF (sy st : Int) : Nat → Src → List Rule' → List Rule' × Src
  | 0,s,r => (r,s)
  | n + 1,s,r => dsF sy st n (dsS s sy st) (r ++ [dsR s sy st])
@[irreducible] def dsO (s : Src) (sy st : Int) : List Rule' × Src := dsF sy st (sy * st).toNat s []
theorem dsS_pl (s : Src) (sy st : Int) : s.pl ≤ (dsS s sy st).pl ∧ (dsS s sy st).pl ≤ s.pl + 8 := by
  unfold dsS
  have h1 := pkS_pl s sy
  have h2 := pkS_pl (pkS s sy) 2
  have h3 := pkS_pl (pkS (pkS s sy) 2) st
  have h4 := pkS_pl (pkS (pkS (pkS s sy) 2) st) 7
  omega
theorem dsS_ok {s : Src} {sy st : Int} (g : SrOk s) (h : s.pl ≤ 999999999999999900) : SrOk (dsS s sy st) := by
  have h1 := pkS_pl s sy
  have h2 := pkS_pl (pkS s sy) 2
  have h3 := pkS_pl (pkS (pkS s sy) 2) st
  unfold dsS
  exact sr_pick (sr_pick (sr_pick (sr_pick g (by omega)) (by omega)) (by omega)) (by omega)
theorem dsR_ok {s : Src} {sy st : Int} (g : SrOk s) (h : s.pl ≤ 999999999999999900) (h1 : 1 ≤ sy) (h2 : 1 ≤ st) : okRule sy st (dsR s sy st) = true := by
  have k1 := pkS_pl s sy
  have k2 := pkS_pl (pkS s sy) 2
  have g1 := sr_pick (n := sy) g (by omega)
  have g2 := sr_pick (n := 2) g1 (by omega)
  have b1 := pkV_bd (n := sy) g h1
  have b2 := pkV_bd (n := 2) g1 (by omega)
  have b3 := pkV_bd (n := st) g2 h2
  unfold okRule dsR
  rw [decide_eq_true_eq]
  split
  · exact .inl rfl
  · exact .inr ⟨⟨b1.1,by dsimp only; omega⟩,by dsimp only; omega,b3.1,by dsimp only; omega⟩
theorem dsF_len (sy st : Int) : ∀ (n : Nat) (s : Src) (r : List Rule'),(dsF sy st n s r).1.length = r.length + n
  | 0,s,r => rfl
  | n + 1,s,r => by rw [dsF,dsF_len sy st n]; simp; omega
theorem dsF_pl (sy st : Int) : ∀ (n : Nat) (s : Src) (r : List Rule'),s.pl ≤ (dsF sy st n s r).2.pl ∧ (dsF sy st n s r).2.pl ≤ s.pl + 8 * n
  | 0,s,r => by simp [dsF]
  | n + 1,s,r => by
    have h1 := dsF_pl sy st n (dsS s sy st) (r ++ [dsR s sy st])
    have h2 := dsS_pl s sy st
    rw [dsF]
    omega
theorem dsF_ok {sy st : Int} (h1 : 1 ≤ sy) (h2 : 1 ≤ st) : ∀ (n : Nat) (s : Src) (r : List Rule'),SrOk s → s.pl + 8 * n ≤ 999999999999999900 → (∀ x ∈ r,okRule sy st x = true) → SrOk (dsF sy st n s r).2 ∧ ∀ x ∈ (dsF sy st n s r).1,okRule sy st x = true
  | 0,s,r,g,_,h => ⟨g,h⟩
  | n + 1,s,r,g,hp,h => by
    have k := dsS_pl s sy st
    rw [dsF]
    refine dsF_ok h1 h2 n _ _ (dsS_ok g (by omega)) (by omega) fun x hx => ?_
    rcases List.mem_append.1 hx with hx | hx
    · exact h x hx
    · rw [List.mem_singleton.1 hx]; exact dsR_ok g (by omega) h1 h2
theorem preB77 {p : Prop} (h : p := by first | with_reducible assumption | omega | (simp only [List.length_append,List.length_cons,List.length_nil,List.length_set,List.length_replicate,List.length_take,List.length_drop,List.length_tail,List.length_dropLast,List.length_reverse] at *; omega) | exact mem_len (by assumption) (by omega) | (with_reducible refine Int.le_trans (Int.ofNat_le.2 (trimR_len _)) ?_; simp only [List.length_cons,List.length_tail]; omega) | (exact (ruAt_ok (by assumption) (by assumption) (by assumption)).2.1) | (exact (ruAt_ok (by assumption) (by assumption) (by assumption)).2.1) | (have := vMach_bd (by assumption); omega) | (simp only [mC_ch,mC_tu]; omega) | (have := vTag_bd (by assumption); omega) | (have := (‹Gd _ _›).le; omega) | (exact tgHalts_no (by assumption)) | (exact tgHead (by assumption) (by assumption) (by assumption)) | (exact Int.le_trans (tgStep_gd (by assumption) (by assumption) (by assumption) (by assumption)).le (by decide)) | (exact vTag_r (by assumption)) | (with_reducible refine Int.le_trans (Int.ofNat_le.2 (pushL_len _ _)) ?_; simp only [List.length_dropLast]; omega) | exact ls_at (by assumption) (by omega) | exact pt_gd (by assumption) | exact lv_at (by assumption) (by omega) | exact pt_gd (lv_at (by assumption) (by omega)) | exact (ask_ok (by assumption)).1 | exact (ask_ok (by assumption)).2.1 | exact (ask_ok (by assumption)).2.2.1 | exact (ask_ok (by assumption)).2.2.2 | trivial) : p := h
theorem drawSize_ok (s : Src) (sy st : Int) (g : SrOk s) (h : s.pl ≤ 100000000000000000) (h1 : 1 ≤ sy) (h2 : sy ≤ 6) (h3 : 1 ≤ st) (h4 : st ≤ 6) (hN : 0 ≤ sy * st) (hN2 : sy * st ≤ 36) : Does Tryz.prog 47 [.one (.gv 0),.one (int sy),.one (int st)] [srB s] (.agg [int sy,int st,.gv 1]) [srB (dsO s sy st).2,.row 3 (rows eR (dsO s sy st).1)] := by
  have e0 : dsF sy st (sy * st).toNat s [] = dsO s sy st := by unfold dsO; rfl
  refine does_of (k := 1) Tryz.func47 rfl Tryz.ntmps47 rfl rfl fun w F0 S0 ρ0 => ?_
  dsimp only [argT,argH]
  repeat' first|(apply n3;(exact a_new (gb := .bx _) rfl);exact rfl;refine dA ?_)|(apply p3;(first|exact pu1|exact a_mulB rfl rfl (by omega) (by omega) (by omega) (by omega));exact rfl)|refine cd ?_|(apply w3;(exact a_st_bx rfl rfl rfl rfl (fN rfl rfl) (Nat.le_of_ble_eq_true rfl) rfl);exact rfl;refine dS ?_)|fail
  refine g_conv (t_nilB (i := 2) (k := 2) (z := 3) rfl rfl rfl (by decide)) ?_
  try dsimp only [setRow,List.map_cons,List.map_nil,scC,List.set_cons_zero,List.set_cons_succ,Nat.reduceAdd]
  refine g_loop_id ?_
  refine loopK [0,1,2,6,7] [0,2,3] (fun y : Int × Src × List Rule' => 0 ≤ y.1 ∧ y.1 ≤ sy * st ∧ SrOk y.2.1 ∧ y.2.1.pl ≤ s.pl + 8 * (sy * st - y.1) ∧ (y.2.2.length : Int) ≤ sy * st - y.1 ∧ dsF sy st y.1.toNat y.2.1 y.2.2 = dsO s sy st) (fun y => [(8,.one (int y.1))]) (fun y => [(0,srB y.2.1),(2,.bx [int sy,int st,.gv 3]),(3,.row 3 (rows eR y.2.2))]) (fun y => y.1.toNat) (sy * st,s,([] : List Rule')) [0,1,2,3] (hI := ?_) (hr := ?_)
  · exact ⟨hN,by simp,g,by simp,by simp,e0⟩
  · rintro ⟨n,u,r⟩ ⟨k0,k1,k2,k3,k4,k5⟩
    dsimp only [List.cons_append,List.nil_append] at *
    skip
    repeat' first|(apply p3;(first|exact pu1|exact puC);exact rfl)|refine cdn ?_|refine g_reg (id := 3) ?_|((refine g_cond rfl (fun hc => ?_) (fun hc => ?_)) <;> (try simp only [dcB] at hc) <;> (try first|contradiction|(exfalso;omega)))|fail
    · have z1 := pkS_pl u sy
      have z2 := pkS_pl (pkS u sy) 2
      have z3 := pkS_pl (pkS (pkS u sy) 2) st
      have g1 := sr_pick (n := sy) k2 (by omega)
      have g2 := sr_pick (n := 2) g1 (by omega)
      have g3 := sr_pick (n := st) g2 (by omega)
      have b1 := pkV_bd (n := sy) k2 h1
      have b2 := pkV_bd (n := 2) g1 (by omega)
      have b3 := pkV_bd (n := st) g2 h3
      have q0 := dsS_pl u sy st
      have q1 := dsS_ok (st := st) (sy := sy) k2 (by omega)
      have q2 : dsF sy st (n - 1).toNat (dsS u sy st) (r ++ [dsR u sy st]) = dsO s sy st := by
        rw [← k5,show n.toNat = (n - 1).toNat + 1 by omega,dsF]
      unfold dsS dsR at q2
      unfold dsS at q0 q1
      repeat' first|(apply n3;(first|exact a_new (gb := .bx _) rfl|exact a_litE eR [⟨_,_,_⟩] rfl rfl rfl rfl rfl rfl rfl rfl);exact rfl;refine dA ?_)|(apply p3;(first|exact pu1|exact a_mulB rfl rfl (by omega) (by omega) (by omega) (by omega)|exact a_sub rfl rfl (by omega) (by omega));exact rfl)|refine cd ?_|(apply s3;exact a_appE (fP rfl) rfl rfl rfl rfl nowR (by (simp <;> omega)) (by decide) (by decide) (by exact rfl);exact rfl;exact rfl)|(apply w3;(exact a_st_bx rfl rfl rfl rfl (fN rfl rfl) (Nat.le_of_ble_eq_true rfl) rfl);exact rfl;refine dS ?_)|(apply c4 0;exact callK0 (θ := [_]) (hD := (srcPick_ok _ _ preB77 preB77 preB77));exact rfl;exact rfl;exact rfl;refine dM ?_)|(apply c4 0;exact callK0 (θ := [_]) (hD := (srcOne_ok _ _ preB77 preB77 preB77));exact rfl;exact rfl;exact rfl;refine dM ?_)|(apply c4 0;exact callK1 (θ := []) (hD := l05None_ok);exact rfl;exact rfl;exact rfl;refine dM ?_)|((refine g_cond rfl (fun hc => ?_) (fun hc => ?_)) <;> (try simp only [dcB] at hc) <;> (try first|contradiction|(exfalso;omega)))|fail
      · rename_i hc
        rw [if_pos hc] at q2
        refine q_again (n - 1,pkS (pkS (pkS (pkS u sy) 2) st) 7,r ++ [noR]) [0,1,2,6] (by exact stk) ?_ ?_
        · exact ⟨by omega,by omega,q1,by dsimp only; omega,by simp; omega,q2⟩
        · omega
      · rename_i hc
        rw [if_neg hc] at q2
        refine q_again (n - 1,pkS (pkS (pkS (pkS u sy) 2) st) 7,r ++ [⟨pkV u sy,2 * pkV (pkS u sy) 2 - 1,pkV (pkS (pkS u sy) 2) st⟩]) [0,1,2,6] (by exact stk) ?_ ?_
        · exact ⟨by omega,by omega,q1,by dsimp only; omega,by simp; omega,q2⟩
        · omega
    · have q0 : n.toNat = 0 := by omega
      rw [q0,dsF] at k5
      have q1 := congrArg Prod.fst k5
      have q2 := congrArg Prod.snd k5
      dsimp only at q1 q2
      rw [← q1,← q2]
      repeat' first|(apply p3;(exact pu1);exact rfl)|refine cd ?_|(apply w3;(exact a_st_bx rfl rfl rfl rfl (fN rfl rfl) (Nat.le_of_ble_eq_true rfl) rfl);exact rfl;refine dS ?_)|fail
      repeat refine cr ?_
      refine ends_id ?_
      refine endK [?_] (h2 := ?_) (h3 := ?_) (nd := ?_)
      rotate_left 1
      all_goals (repeat' first|exact ce0|refine ce ?_|refine ce2 ?_ ?_|(refine Or.inr (bx_eq rfl rfl ?_);(try dsimp only [C.ren,C.ren.all]);(try exact rfl))|exact SVLe.refl|refine ceb ?_)
      all_goals first | exact (show nodupB _ = true from rfl) | exact Or.inr rfl | (rfl)
end Go.Proofs.YtegpggobfdcafaaGreat
end
section
set_option linter.unusedVariables false
set_option linter.unusedSimpArgs false
set_option maxRecDepth 100000
set_option maxHeartbeats 4000000
namespace Go.Proofs.YtegpggobfdcafaaGreat
open Go Foot
structure DsOk (s : Src) (sy st : Int) : Prop where
  src : SrOk (dsO s sy st).2
  lo : s.pl ≤ (dsO s sy st).2.pl
  hi : (dsO s sy st).2.pl ≤ s.pl + 8 * (sy * st)
  len : ((dsO s sy st).1.length : Int) = sy * st
  ok : ∀ x ∈ (dsO s sy st).1,okRule sy st x = true
theorem dsO_ok {s : Src} {sy st : Int} (g : SrOk s) (h : s.pl ≤ 100000000000000000) (h1 : 1 ≤ sy) (h3 : 1 ≤ st) (hN : 0 ≤ sy * st) (hN2 : sy * st ≤ 36) : DsOk s sy st := by
  have k1 := dsF_ok h1 h3 (sy * st).toNat s [] g (by omega) (by simp)
  have k2 := dsF_pl sy st (sy * st).toNat s []
  have k3 := dsF_len sy st (sy * st).toNat s []
  rw [List.length_nil] at k3
  have e : dsF sy st (sy * st).toNat s [] = dsO s sy st := by unfold dsO; rfl
  rw [e] at k1 k2 k3
  exact ⟨k1.1,k2.1,by omega,by omega,k1.2⟩
def dwF : Nat → Src → List Int → List Int × Src
  | 0,s,r => (r,s)
  | n + 1,s,r => dwF n (pkS s 2) (r ++ [pkV s 2])
@[irreducible] def dwO (s : Src) (n : Int) : List Int × Src := dwF n.toNat s []
theorem dwF_pl : ∀ (n : Nat) (s : Src) (r : List Int),s.pl ≤ (dwF n s r).2.pl ∧ (dwF n s r).2.pl ≤ s.pl + 2 * n
  | 0,s,r => by simp [dwF]
  | n + 1,s,r => by
    have h1 := dwF_pl n (pkS s 2) (r ++ [pkV s 2])
    have h2 := pkS_pl s 2
    rw [dwF]
    omega
theorem dwF_ok : ∀ (n : Nat) (s : Src) (r : List Int),SrOk s → s.pl + 2 * n ≤ 999999999999999900 → (∀ x ∈ r,0 ≤ x ∧ x < 2) → SrOk (dwF n s r).2 ∧ (∀ x ∈ (dwF n s r).1,0 ≤ x ∧ x < 2) ∧ (dwF n s r).1.length = r.length + n
  | 0,s,r,g,_,h => ⟨g,h,rfl⟩
  | n + 1,s,r,g,hp,h => by
    have k := pkS_pl s 2
    have b := pkV_bd (n := 2) g (by omega)
    rw [dwF]
    have := dwF_ok n (pkS s 2) (r ++ [pkV s 2]) (sr_pick g (by omega)) (by omega) fun x hx => by
      rcases List.mem_append.1 hx with hx | hx
      · exact h x hx
      · rw [List.mem_singleton.1 hx]; exact b
    exact ⟨this.1,this.2.1,by rw [this.2.2]; simp; omega⟩
structure DwOk (s : Src) (n : Int) : Prop where
  src : SrOk (dwO s n).2
  lo : s.pl ≤ (dwO s n).2.pl
  hi : (dwO s n).2.pl ≤ s.pl + 2 * n
  len : ((dwO s n).1.length : Int) = n
  ok : ∀ x ∈ (dwO s n).1,0 ≤ x ∧ x < 2
theorem dwO_ok {s : Src} {n : Int} (g : SrOk s) (h : s.pl ≤ 100000000000000000) (h1 : 0 ≤ n) (h2 : n ≤ 100) : DwOk s n := by
  have k1 := dwF_ok n.toNat s [] g (by omega) (by simp)
  have k2 := dwF_pl n.toNat s []
  have e : dwF n.toNat s [] = dwO s n := by unfold dwO; rfl
  rw [e] at k1 k2
  rw [List.length_nil] at k1
  exact ⟨k1.1,k2.1,by omega,by omega,k1.2.1⟩
@[irreducible] def smS (s : Src) : Src := pkS s 2
@[irreducible] def smT (s : Src) : Int := 1 + pkV s 2
@[irreducible] def sm1 (s : Src) : Src := (dsO (smS s) 2 (smT s)).2
@[irreducible] def sm2 (s : Src) : Src := pkS (sm1 s) (smT s)
@[irreducible] def smK (s : Src) : Int := pkV (sm2 s) 3
@[irreducible] def sm3 (s : Src) : Src := pkS (sm2 s) 3
@[irreducible] def sm4 (s : Src) : Src := (dwO (sm3 s) (smK s)).2
@[irreducible] def smJ (s : Src) : Int := pkV (sm4 s) 4
@[irreducible] def sm5 (s : Src) : Src := pkS (sm4 s) 4
@[irreducible] def smM (s : Src) : Mach := ⟨2,smT s,(dsO (smS s) 2 (smT s)).1⟩
@[irreducible] def smC (s : Src) : Conf := ⟨pkV (sm1 s) (smT s),trimR (dwO (sm3 s) (smK s)).1,trimR (dwO (sm5 s) (smJ s)).1⟩
theorem preB78 {p : Prop} (h : p := by first | with_reducible assumption | omega | (simp only [List.length_append,List.length_cons,List.length_nil,List.length_set,List.length_replicate,List.length_take,List.length_drop,List.length_tail,List.length_dropLast,List.length_reverse] at *; omega) | exact mem_len (by assumption) (by omega) | (with_reducible refine Int.le_trans (Int.ofNat_le.2 (trimR_len _)) ?_; simp only [List.length_cons,List.length_tail]; omega) | (exact (ruAt_ok (by assumption) (by assumption) (by assumption)).2.1) | (exact (ruAt_ok (by assumption) (by assumption) (by assumption)).2.1) | (have := vMach_bd (by assumption); omega) | (simp only [mC_ch,mC_tu]; omega) | (have := vTag_bd (by assumption); omega) | (have := (‹Gd _ _›).le; omega) | (exact tgHalts_no (by assumption)) | (exact tgHead (by assumption) (by assumption) (by assumption)) | (exact Int.le_trans (tgStep_gd (by assumption) (by assumption) (by assumption) (by assumption)).le (by decide)) | (exact vTag_r (by assumption)) | (with_reducible refine Int.le_trans (Int.ofNat_le.2 (pushL_len _ _)) ?_; simp only [List.length_dropLast]; omega) | exact ls_at (by assumption) (by omega) | exact pt_gd (by assumption) | exact lv_at (by assumption) (by omega) | exact pt_gd (lv_at (by assumption) (by omega)) | exact (ask_ok (by assumption)).1 | exact (ask_ok (by assumption)).2.1 | exact (ask_ok (by assumption)).2.2.1 | exact (ask_ok (by assumption)).2.2.2 | trivial) : p := h
theorem small_ok (l : List Int) (g : SrOk ⟨l,0,0⟩) : Does Tryz.prog 16 [.one (shY l)] [] (.tup [(true,[int 2,int (smM ⟨l,0,0⟩).st,.gv 0]),(true,[int (smC ⟨l,0,0⟩).st,.gv 1,.gv 2])]) [.row 3 (rows eR (smM ⟨l,0,0⟩).ru),.row 1 (rows eI (smC ⟨l,0,0⟩).le),.row 1 (rows eI (smC ⟨l,0,0⟩).ri)] := by
  have z1 := pkS_pl ⟨l,0,0⟩ 2
  dsimp only at z1
  have g1 := sr_pick (n := 2) g (by dsimp only; omega)
  have b1 := pkV_bd (n := 2) g (by omega)
  have D := dsO_ok (sy := 2) (st := 1 + pkV ⟨l,0,0⟩ 2) g1 (by omega) (by omega) (by omega) (by omega) (by omega)
  have d1 := D.lo
  have d2 := D.hi
  have g2 := D.src
  have z3 := pkS_pl (dsO (pkS ⟨l,0,0⟩ 2) 2 (1 + pkV ⟨l,0,0⟩ 2)).2 (1 + pkV ⟨l,0,0⟩ 2)
  have g3 := sr_pick (n := 1 + pkV ⟨l,0,0⟩ 2) g2 (by omega)
  have b3 := pkV_bd (n := 1 + pkV ⟨l,0,0⟩ 2) g2 (by omega)
  generalize hs3 : pkS (dsO (pkS ⟨l,0,0⟩ 2) 2 (1 + pkV ⟨l,0,0⟩ 2)).2 (1 + pkV ⟨l,0,0⟩ 2) = so3 at z3 g3
  have z4 := pkS_pl so3 3
  have g4 := sr_pick (n := 3) g3 (by omega)
  have b4 := pkV_bd (n := 3) g3 (by omega)
  have hm : smM ⟨l,0,0⟩ = ⟨2,1 + pkV ⟨l,0,0⟩ 2,(dsO (pkS ⟨l,0,0⟩ 2) 2 (1 + pkV ⟨l,0,0⟩ 2)).1⟩ := by unfold smM smT smS; rfl
  have hcc : smC ⟨l,0,0⟩ = ⟨pkV (dsO (pkS ⟨l,0,0⟩ 2) 2 (1 + pkV ⟨l,0,0⟩ 2)).2 (1 + pkV ⟨l,0,0⟩ 2),trimR (dwO (pkS so3 3) (pkV so3 3)).1,trimR (dwO (pkS (dwO (pkS so3 3) (pkV so3 3)).2 4) (pkV (dwO (pkS so3 3) (pkV so3 3)).2 4)).1⟩ := by
    rw [← hs3]; unfold smC sm5 smJ sm4 smK sm3 sm2 sm1 smS smT; rfl
  rw [hm,hcc]
  clear hm hcc
  dsimp only
  refine does_of (k := 0) Tryz.func16 rfl Tryz.ntmps16 rfl rfl fun w F0 S0 ρ0 => ?_
  dsimp only [argT,argH]
  repeat' first|(apply n3;exact a_new (gb := .bx _) rfl;exact rfl;refine dA ?_)|(apply p3;(first|exact pu1|exact a_add rfl rfl (by omega) (by omega));exact rfl)|refine cdn ?_|refine g_reg (id := 0) ?_|refine g_reg (id := 1) ?_|refine g_reg (id := 2) ?_|(apply w3;(exact a_st_bx rfl rfl rfl rfl (fN rfl rfl) (Nat.le_of_ble_eq_true rfl) rfl);exact rfl;refine dS ?_)|(apply c4 1;exact callK0 (θ := []) (hD := (srcFrom_ok _));exact rfl;exact rfl;exact rfl;refine dM ?_)|(apply c4 0;exact callK0 (θ := [_]) (hD := (srcPick_ok ⟨l,0,0⟩ 2 g (by dsimp only;omega) (by omega)));exact rfl;exact rfl;exact rfl;refine dM ?_)|(apply c4 1;exact callK0 (θ := [_]) (hD := (drawSize_ok _ _ _ preB78 preB78 preB78 preB78 preB78 preB78 preB78 preB78));exact rfl;exact rfl;exact rfl;refine dM ?_)|fail
  have u1 : (dsO (pkS ⟨l,0,0⟩ 2) 2 (1 + pkV ⟨l,0,0⟩ 2)).2.pl ≤ 999999999999999998 := by omega
  repeat' first|(apply n3;exact a_new (gb := .bx _) rfl;exact rfl;refine dA ?_)|(apply p3;(exact pu1);exact rfl)|refine cdn ?_|refine g_reg (id := 3) ?_|(apply w3;(exact a_st_bx rfl rfl rfl rfl (fN rfl rfl) (Nat.le_of_ble_eq_true rfl) rfl);exact rfl;refine dS ?_)|(apply c4 0;exact callK0 (θ := [_]) (hD := (srcPick_ok (dsO (pkS ⟨l,0,0⟩ 2) 2 (1 + pkV ⟨l,0,0⟩ 2)).2 (1 + pkV ⟨l,0,0⟩ 2) g2 u1 (by omega)));exact rfl;exact rfl;exact rfl;refine dM ?_)|fail
  rw [hs3]
  have u2 : so3.pl ≤ 1000 := by omega
  generalize (dsO (pkS ⟨l,0,0⟩ 2) 2 (1 + pkV ⟨l,0,0⟩ 2)).2 = sD at *
  repeat' first|(apply p3;(exact pu1);exact rfl)|refine cd ?_|(apply c4 0;exact callK0 (θ := [_]) (hD := (srcPick_ok so3 3 g3 (by omega) (by omega)));exact rfl;exact rfl;exact rfl;refine dM ?_)|fail
  generalize hs4 : pkS so3 3 = so4 at *
  generalize hk : pkV so3 3 = K at *
  have W := dwO_ok (n := K) g4 (by omega) (by omega) (by omega)
  have y1 := W.lo
  have y2 := W.hi
  have e1 : dwF K.toNat so4 [] = dwO so4 K := by unfold dwO; rfl
  refine g_conv (t_nilB (i := 5) (k := 1) (z := 1) rfl rfl rfl (by decide)) ?_
  try dsimp only [setRow,List.map_cons,List.map_nil,scC,List.set_cons_zero,List.set_cons_succ,Nat.reduceAdd]
  refine g_conv (t_nilB (i := 5) (k := 2) (z := 1) rfl rfl rfl (by decide)) ?_
  try dsimp only [setRow,List.map_cons,List.map_nil,scC,List.set_cons_zero,List.set_cons_succ,Nat.reduceAdd]
  generalize hc0 : pkV sD (1 + pkV ⟨l,0,0⟩ 2) = c0
  refine g_loop_id ?_
  refine loopK [2,3,4,5,6] [2,5,6] (fun y : Int × Src × List Int => 0 ≤ y.1 ∧ SrOk y.2.1 ∧ y.2.1.pl ≤ so4.pl + 2 * (K - y.1) ∧ (y.2.2.length : Int) ≤ K - y.1 ∧ dwF y.1.toNat y.2.1 y.2.2 = dwO so4 K) (fun y => [(7,.one (int y.1))]) (fun y => [(2,srB y.2.1),(5,.bx [int c0,.gv 6,.gv 7]),(6,.row 1 (rows eI y.2.2))]) (fun y => y.1.toNat) (K,so4,([] : List Int)) [0,1,2,3,4,5,6,7] (hI := ?_) (hr := ?_)
  · exact ⟨b4.1,g4,by simp,by simp,e1⟩
  · rintro ⟨n,u,r⟩ ⟨k0,k2,k3,k4,k5⟩
    dsimp only [List.cons_append,List.nil_append] at *
    skip
    repeat' first|(apply p3;(first|exact pu1|exact puC);exact rfl)|refine cdn ?_|refine g_reg (id := 5) ?_|((refine g_cond rfl (fun hc => ?_) (fun hc => ?_)) <;> (try simp only [dcB] at hc) <;> (try first|contradiction|(exfalso;omega)))|fail
    · have v1 := pkS_pl u 2
      have v2 := sr_pick (n := 2) k2 (by omega)
      have v3 : dwF (n - 1).toNat (pkS u 2) (r ++ [pkV u 2]) = dwO so4 K := by
        rw [← k5,show n.toNat = (n - 1).toNat + 1 by omega,dwF]
      repeat' first|(apply p3;(first|exact pu1|exact a_sub rfl rfl (by omega) (by omega));exact rfl)|refine cd ?_|(apply g_drN (id := 7) okM [[],[0],[],[2],[2,3],[0,1,2,3,4],[0,1,2,3,4,5],[0,1,2,3,4,5,6]] [([],[]),([],[]),([],[]),([],[2]),([0],[]),([1],[6]),([],[]),([],[5])] 2;(focus (refine dp 0 0 [29,30,31] [(false,2),(true,0)] (a_pure (sv := .one _) rfl) ?_;refine dp 1 1 [29,30,31] [(false,2),(true,0)] puL ?_;refine dp 2 0 [27,28] [] pu1 ?_;refine duN 3 1 [27,28] [] (callD0 (n := _) 0 (θ := [_]) (hD := (srcPick_ok u 2 k2 (by omega) (by omega)))) (by exact rfl) (by exact rfl) ?_;refine duE 4 3 [27,28] [] (atN 0 (fun _ => a_litE eI [_] rfl rfl rfl rfl rfl rfl rfl rfl)) (by exact rfl) (by exact rfl) ?_;refine duE 5 31 [] [] (atS 1 (fun _ hj => a_appE (fP rfl) rfl rfl rfl rfl nowR (by (simp <;> omega)) (by decide) hj (by exact rfl)) (by decide)) (by exact rfl) (by exact rfl) ?_;refine dp 6 63 [] [] (a_pure (sv := .one _) rfl) ?_;refine duE 7 127 [] [] (by exact a_st_bx rfl rfl rfl rfl (fN rfl rfl) (Nat.le_of_ble_eq_true rfl) rfl) (by exact rfl) (by exact rfl) ?_;(refine d_nil ?_;refine dN ?_)));any_goals kernel_rfl)|fail
      refine q_again (n - 1,pkS u 2,r ++ [pkV u 2]) [0,1,2,3,4,5,9,7] (by exact stk) ?_ ?_
      · exact ⟨by omega,v2,by dsimp only; omega,by simp; omega,v3⟩
      · omega
    · have v0 : n.toNat = 0 := by omega
      rw [v0,dwF] at k5
      have v1 := congrArg Prod.fst k5
      have v2 := congrArg Prod.snd k5
      dsimp only at v1 v2
      subst v1
      subst v2
      have y3 := W.src
      have y4 := W.len
      generalize hs5 : (dwO so4 K).2 = so5 at *
      generalize hL : (dwO so4 K).1 = L at *
      have z5 := pkS_pl so5 4
      have g5 := sr_pick (n := 4) y3 (by omega)
      have b5 := pkV_bd (n := 4) y3 (by omega)
      repeat' first|(apply p3;(exact pu1);exact rfl)|refine cd ?_|(apply c4 0;exact callK0 (θ := [_]) (hD := (srcPick_ok so5 4 y3 (by omega) (by omega)));exact rfl;exact rfl;exact rfl;refine dM ?_)|fail
      generalize hs6 : pkS so5 4 = so6 at *
      generalize hj : pkV so5 4 = J at *
      have X := dwO_ok (n := J) g5 (by omega) (by omega) (by omega)
      have x1 := X.lo
      have x2 := X.hi
      have e2 : dwF J.toNat so6 [] = dwO so6 J := by unfold dwO; rfl
      refine g_loop_id ?_
      refine loopK [2,3,4,5,6] [2,5,7] (fun y : Int × Src × List Int => 0 ≤ y.1 ∧ SrOk y.2.1 ∧ y.2.1.pl ≤ so6.pl + 2 * (J - y.1) ∧ (y.2.2.length : Int) ≤ J - y.1 ∧ dwF y.1.toNat y.2.1 y.2.2 = dwO so6 J) (fun y => [(8,.one (int y.1))]) (fun y => [(2,srB y.2.1),(5,.bx [int c0,.gv 6,.gv 7]),(7,.row 1 (rows eI y.2.2))]) (fun y => y.1.toNat) (J,so6,([] : List Int)) [0,1,2,3,4,5,6,7] (hI := ?_) (hr := ?_)
      · exact ⟨b5.1,g5,by simp,by simp,e2⟩
      · rintro ⟨n',u',r'⟩ ⟨m0,m2,m3,m4,m5⟩
        dsimp only [List.cons_append,List.nil_append] at *
        skip
        repeat' first|(apply p3;(first|exact pu1|exact puC);exact rfl)|refine cdn ?_|refine g_reg (id := 9) ?_|((refine g_cond rfl (fun hc => ?_) (fun hc => ?_)) <;> (try simp only [dcB] at hc) <;> (try first|contradiction|(exfalso;omega)))|fail
        · have v1 := pkS_pl u' 2
          have v2 := sr_pick (n := 2) m2 (by omega)
          have v3 : dwF (n' - 1).toNat (pkS u' 2) (r' ++ [pkV u' 2]) = dwO so6 J := by
            rw [← m5,show n'.toNat = (n' - 1).toNat + 1 by omega,dwF]
          repeat' first|(apply p3;(first|exact pu1|exact a_sub rfl rfl (by omega) (by omega));exact rfl)|refine cd ?_|(apply g_drN (id := 11) okM [[],[0],[],[2],[2,3],[0,1,2,3,4],[0,1,2,3,4,5],[0,1,2,3,4,5,6]] [([],[]),([],[]),([],[]),([],[2]),([0],[]),([1],[7]),([],[]),([],[5])] 2;(focus (refine dp 0 0 [42,43,44] [(false,2),(true,0)] (a_pure (sv := .one _) rfl) ?_;refine dp 1 1 [42,43,44] [(false,2),(true,0)] puL ?_;refine dp 2 0 [40,41] [] pu1 ?_;refine duN 3 1 [40,41] [] (callD0 (n := _) 0 (θ := [_]) (hD := (srcPick_ok u' 2 m2 (by omega) (by omega)))) (by exact rfl) (by exact rfl) ?_;refine duE 4 3 [40,41] [] (atN 0 (fun _ => a_litE eI [_] rfl rfl rfl rfl rfl rfl rfl rfl)) (by exact rfl) (by exact rfl) ?_;refine duE 5 31 [] [] (atS 1 (fun _ hj => a_appE (fP rfl) rfl rfl rfl rfl nowR (by (simp <;> omega)) (by decide) hj (by exact rfl)) (by decide)) (by exact rfl) (by exact rfl) ?_;refine dp 6 63 [] [] (a_pure (sv := .one _) rfl) ?_;refine duE 7 127 [] [] (by exact a_st_bx rfl rfl rfl rfl (fN rfl rfl) (Nat.le_of_ble_eq_true rfl) rfl) (by exact rfl) (by exact rfl) ?_;(refine d_nil ?_;refine dN ?_)));any_goals kernel_rfl)|fail
          refine q_again (n' - 1,pkS u' 2,r' ++ [pkV u' 2]) [0,1,2,3,4,5,6,9] (by exact stk) ?_ ?_
          · exact ⟨by omega,v2,by dsimp only; omega,by simp; omega,v3⟩
          · omega
        · have v0 : n'.toNat = 0 := by omega
          rw [v0,dwF] at m5
          have v1 := congrArg Prod.fst m5
          have v2 := congrArg Prod.snd m5
          dsimp only at v1 v2
          subst v1
          subst v2
          have x4 := X.len
          repeat' first|(apply p3;(exact pu1);exact rfl)|refine cd ?_|(apply w3;(exact a_st_bx rfl rfl rfl rfl (fN rfl rfl) (Nat.le_of_ble_eq_true rfl) rfl);exact rfl;refine dS ?_)|(apply c4 1;exact callK1 (θ := []) (hD := (l05Trim_ok _ preB78));exact rfl;exact rfl;exact rfl;refine dM ?_)|(apply g_drN (id := 14) okM [[],[],[0],[0,1,2]] [([],[]),([],[]),([],[0]),([],[1])] 0;(focus (refine dp 0 0 [56] [] puL ?_;refine dp 1 0 [55] [(false,0)] puL ?_;refine duE 2 2 [56] [] (by exact a_st_bx rfl rfl rfl rfl (fN rfl rfl) (Nat.le_of_ble_eq_true rfl) rfl) (by exact rfl) (by exact rfl) ?_;refine duE 3 7 [] [] (by exact a_st_bx rfl rfl rfl rfl (fN rfl rfl) (Nat.le_of_ble_eq_true rfl) rfl) (by exact rfl) (by exact rfl) ?_;(refine d_nil ?_;refine dN ?_)));any_goals kernel_rfl)|fail
          repeat refine cr ?_
          refine ends_id ?_
          refine endK [?_,?_,?_] (h2 := ?_) (h3 := ?_) (nd := ?_)
          rotate_left 3
          all_goals (repeat' first|exact ce0|refine ce ?_|refine ce2 ?_ ?_|(refine Or.inr (bx_eq rfl rfl ?_);(try dsimp only [C.ren,C.ren.all]);(try exact rfl))|exact SVLe.refl|refine ceb ?_)
          all_goals first | exact (show nodupB _ = true from rfl) | exact Or.inr rfl | (rfl)
end Go.Proofs.YtegpggobfdcafaaGreat
end
section
set_option linter.unusedVariables false
set_option linter.unusedSimpArgs false
set_option maxRecDepth 100000
set_option maxHeartbeats 4000000
namespace Go.Proofs.YtegpggobfdcafaaGreat
open Go Foot
structure SmOk (s : Src) : Prop where
  m : vMach (smM s) = true
  c : vConf (smM s) (smC s) = true
  sy : (smM s).sy = 2
  st : 1 ≤ (smM s).st ∧ (smM s).st ≤ 2
  le : ((smC s).le.length : Int) ≤ 2
  ri : ((smC s).ri.length : Int) ≤ 3
theorem trim_side {l : List Int} (h : ∀ x ∈ l,0 ≤ x ∧ x < 2) (hn : (l.length : Int) ≤ 200) : vSide 2 (trimR l) = true := by
  unfold vSide
  have h1 := trimR_len l
  have h2 := trimR_norm l
  rw [Bool.and_eq_true,List.all_eq_true,decide_eq_true_eq]
  refine ⟨fun x hx => ?_,by omega,h2⟩
  have := h x (trimR_mem hx)
  rw [decide_eq_true_eq]
  omega
theorem sm_ok (s : Src) (g : SrOk s) (p0 : s.pl = 0) : SmOk s := by
  have z1 := pkS_pl s 2
  have g1 := sr_pick (n := 2) g (by omega)
  have b1 := pkV_bd (n := 2) g (by omega)
  have D := dsO_ok (sy := 2) (st := 1 + pkV s 2) g1 (by omega) (by omega) (by omega) (by omega) (by omega)
  have d1 := D.lo
  have d2 := D.hi
  have z3 := pkS_pl (dsO (pkS s 2) 2 (1 + pkV s 2)).2 (1 + pkV s 2)
  have g3 := sr_pick (n := 1 + pkV s 2) D.src (by omega)
  have b3 := pkV_bd (n := 1 + pkV s 2) D.src (by omega)
  have z4 := pkS_pl (pkS (dsO (pkS s 2) 2 (1 + pkV s 2)).2 (1 + pkV s 2)) 3
  have g4 := sr_pick (n := 3) g3 (by omega)
  have b4 := pkV_bd (n := 3) g3 (by omega)
  have W := dwO_ok (n := pkV (pkS (dsO (pkS s 2) 2 (1 + pkV s 2)).2 (1 + pkV s 2)) 3) g4 (by omega) (by omega) (by omega)
  have hm : smM s = ⟨2,1 + pkV s 2,(dsO (pkS s 2) 2 (1 + pkV s 2)).1⟩ := by unfold smM smT smS; rfl
  have hl := W.lo
  have hi := W.hi
  have hL := W.len
  have ho := W.ok
  have h1 : smC s = ⟨pkV (dsO (pkS s 2) 2 (1 + pkV s 2)).2 (1 + pkV s 2),trimR (dwO (sm3 s) (smK s)).1,trimR (dwO (sm5 s) (smJ s)).1⟩ := by unfold smC sm1 smS smT; rfl
  have h3 : pkS (pkS (dsO (pkS s 2) 2 (1 + pkV s 2)).2 (1 + pkV s 2)) 3 = sm3 s := by unfold sm3 sm2 sm1 smS smT; rfl
  have hk : pkV (pkS (dsO (pkS s 2) 2 (1 + pkV s 2)).2 (1 + pkV s 2)) 3 = smK s := by unfold smK sm2 sm1 smS smT; rfl
  rw [h3,hk] at hl hi hL ho
  have gw := W.src
  rw [h3,hk] at gw
  rw [h3] at z4
  rw [hk] at b4
  have g5 := sr_pick (n := 4) gw (by omega)
  have b5 := pkV_bd (n := 4) gw (by omega)
  have z5 := pkS_pl (dwO (sm3 s) (smK s)).2 4
  have e5 : pkS (dwO (sm3 s) (smK s)).2 4 = sm5 s := by unfold sm5 sm4; rfl
  have ej : pkV (dwO (sm3 s) (smK s)).2 4 = smJ s := by unfold smJ sm4; rfl
  rw [e5] at g5 z5
  rw [ej] at b5
  have X := dwO_ok (n := smJ s) g5 (by omega) (by omega) (by omega)
  have xL := X.len
  have t1 := trimR_len (dwO (sm3 s) (smK s)).1
  have t2 := trimR_len (dwO (sm5 s) (smJ s)).1
  refine ⟨?_,?_,by rw [hm],by rw [hm]; dsimp only; omega,by rw [h1]; dsimp only; omega,by rw [h1]; dsimp only; omega⟩
  · rw [hm]
    unfold vMach
    rw [Bool.and_eq_true,decide_eq_true_eq,List.all_eq_true]
    have := D.len
    exact ⟨⟨by dsimp only; omega,by dsimp only; omega,by dsimp only; omega⟩,D.ok⟩
  · rw [hm,h1]
    unfold vConf
    rw [Bool.and_eq_true,Bool.and_eq_true,decide_eq_true_eq]
    exact ⟨⟨by dsimp only; omega,trim_side ho (by omega)⟩,trim_side X.ok (by omega)⟩
end Go.Proofs.YtegpggobfdcafaaGreat
end
section
set_option linter.unusedVariables false
set_option linter.unusedSimpArgs false
set_option maxRecDepth 100000
set_option maxHeartbeats 4000000
namespace Go.Proofs.YtegpggobfdcafaaGreat
open Go Foot Go.RowKit
theorem numT_small : ∀ (k : Nat) (l : List Int),k ≤ 3 → l.length ≤ k → (∀ x ∈ l,0 ≤ x ∧ x ≤ 1) → ∃ n,numT 2 l = some n ∧ 0 ≤ n ∧ n + 1 ≤ 2 ^ k
  | k,[],_,_,_ => ⟨0,rfl,by omega,by have : (0 : Int) < 2 ^ k := Int.pow_pos (by decide); omega⟩
  | 0,c :: l,_,h,_ => by simp at h
  | k + 1,c :: l,hk,h,hc => by
    obtain ⟨n,e,b1,b2⟩ := numT_small k l (by omega) (by simpa using h) fun x hx => hc x (List.mem_cons_of_mem _ hx)
    have h1 := hc c (by simp)
    have h2 : (2 : Int) ^ (k + 1) = 2 ^ k * 2 := Int.pow_succ _ _
    have h3 : (2 : Int) ^ k ≤ 8 := by
      have : k = 0 ∨ k = 1 ∨ k = 2 := by omega
      rcases this with rfl | rfl | rfl <;> decide
    refine ⟨n * 2 + c,?_,by omega,by omega⟩
    rw [numT,e]
    dsimp only
    rw [if_neg (by omega)]
theorem num_small {l : List Int} (h : l.length ≤ 3) (hc : ∀ x ∈ l,0 ≤ x ∧ x ≤ 1) : numK 2 l = true ∧ numN 2 l ≤ 7 := by
  obtain ⟨n,e,_,b⟩ := numT_small 3 l (by omega) h hc
  have h1 := numN_num e
  refine ⟨(numT_some e).2,?_⟩
  rw [h1]
  omega
structure MpOk (m : Mach) (c : Conf) : Prop where
  hm : vMach m = true
  hc : vConf m c = true
  hr : rmV m 12 c
  num : numOk m c = true
  x : xN m c ≤ 7
  y : yN m c ≤ 7
theorem SmOk.mp {s : Src} (S : SmOk s) {m : Mach} {c : Conf} (em : m = smM s) (ec : c = smC s) : MpOk m c := by
  subst em; subst ec
  have hm := S.m
  have hc := S.c
  have hsy := S.sy
  have h1 := S.le
  have h2 := S.ri
  obtain ⟨z1,z2⟩ := conf_cells hc
  rw [hsy] at z1 z2
  obtain ⟨n1,n2⟩ := num_small (by omega) z1
  obtain ⟨n3,n4⟩ := num_small (by omega) z2
  refine ⟨hm,hc,rmV_of hm 12 _ hc (by omega) (by omega),?_,?_,?_⟩
  · unfold numOk; rw [hsy,n1,n3]; rfl
  · show numN (smM s).sy _ ≤ 7; rw [hsy]; exact n2
  · show numN (smM s).sy _ ≤ 7; rw [hsy]; exact n4
theorem MpOk.cost {m : Mach} {c : Conf} (h : MpOk m c) (hz : rcC m c 12 = 0) : rcH m c 12 = decide (ruAt m (rmC m 12 c) = noR) ∧ rcV m c 12 = rmK m 12 c ∧ plen m ≤ 400 := by
  have ha : askC m c 12 = 0 := by unfold askC; rw [if_pos ⟨h.hm,h.hc⟩,if_pos (by decide)]
  have hp : mtpC m = 0 := by
    by_cases q : mtpC m = 0
    · exact q
    · unfold rcC at hz
      rw [if_pos ha,if_neg q] at hz
      exact absurd hz q
  have hb : rcBad m c 12 = false := by
    cases q : rcBad m c 12 with
    | false => rfl
    | true =>
      have := (rc_bad ha hp q).2.2
      omega
  obtain ⟨e1,e2,e3⟩ := rc_good ha hp hb
  obtain ⟨k1,k2,k3⟩ := cost_rm h.hm 12 c 0 0 ⟨0,false⟩ h.hr
  have eO : rcO m c 12 = runG m (ccC m) (ccS m) 12 0 c 0 ⟨0,false⟩ := by unfold rcO; rfl
  have hf : (rcO m c 12).x.f = false := by
    have : rcBad m c 12 = ((rcO m c 12).full || (rcO m c 12).x.f) := by unfold rcBad; rfl
    rw [this,Bool.or_eq_false_iff] at hb
    exact hb.2
  rw [eO] at hf e1 e2
  refine ⟨by rw [e2,k2],by rw [e1,k3 hf]; simp,?_⟩
  unfold mtpC at hp
  split at hp
  · omega
  · cases hp
theorem MpOk.by {m : Mach} {c : Conf} (h : MpOk m c) (hz : rcC m c 12 = 0) (h1 : rcV m c 12 ≠ 0) (h2 : rcV m c 12 ≤ 4000) : ByOk m 12 c := by
  obtain ⟨_,e2,e3⟩ := h.cost hz
  have hx := h.x
  have hy := h.y
  exact ⟨h.hm,h.hr,e3,by omega,by omega,h.num,by omega,by omega⟩
theorem b10LongP_ok (l : List Int) (hx : (l.length : Int) ≤ 9223372036854775807) : Does Tryz.prog 15 [.one (shY l)] [] (.one (boo (decide ((l.length : Int) > 1048576)))) [] := by
  refine does_of (k := 0) Tryz.func15 rfl Tryz.ntmps15 rfl rfl fun w F0 S0 ρ0 => ?_
  dsimp only [argT,argH]
  repeat' first|(apply p3;(first|exact pu1|exact puN|exact puC);exact rfl)|refine cd ?_|fail
  repeat refine cr ?_
  refine ends_id ?_
  refine endK [] (h2 := ?_) (h3 := ?_) (nd := ?_)
  all_goals (repeat' first|exact ce0|refine ce ?_|refine ce2 ?_ ?_|exact SVLe.refl|refine ceb ?_)
  all_goals first | exact (show nodupB _ = true from rfl) | exact Or.inr rfl | (rfl)
theorem b10NumsP_ok (xs ys : List Int) (hx : (xs.length : Int) ≤ 16777216) (hy : (ys.length : Int) ≤ 16777216) : Does Tryz.prog 61 [.one (shI xs),.one (shI ys)] [] (.one (boo (eqI xs ys))) [] := by
  refine does_of (k := 0) Tryz.func61 rfl Tryz.ntmps61 rfl rfl fun w F0 S0 ρ0 => ?_
  dsimp only [argT,argH]
  repeat' first|(apply p3;(first|exact pu1|exact puN|exact a_ne rfl rfl);exact rfl)|refine cd ?_|((refine g_cond rfl (fun hc => ?_) (fun hc => ?_)) <;> (try simp only [dcB] at hc) <;> (try first|contradiction|(exfalso;omega)))|fail
  · repeat refine cr ?_
    refine ends_id ?_
    refine endK [] (h2 := ?_) (h3 := ?_) (nd := ?_)
    all_goals (repeat' first|exact ce0|refine ce ?_|refine ce2 ?_ ?_|exact SVLe.refl|refine ceb ?_)
    all_goals first | exact (show nodupB _ = true from rfl) | exact Or.inr rfl | ((symm; unfold eqI; rw [decide_eq_false_iff_not]; rintro rfl; omega))
  refine g_loop_id ?_
  refine loopK [0,1,4] [] (fun i : Int => 0 ≤ i ∧ i ≤ xs.length ∧ xs.take i.toNat = ys.take i.toNat) (fun i => [(5,.one (int i))]) (fun _ => []) (fun i => (xs.length - i).toNat) (0 : Int) [] (hI := ?_) (hr := ?_)
  · exact ⟨by simp,by simp,by simp⟩
  · rintro i ⟨h0,h1,h2⟩
    dsimp only [List.cons_append,List.nil_append] at *
    skip
    repeat' first|(apply p3;(first|exact pu1|exact puN|exact puC|exact a_add rfl rfl (by omega) (by omega));exact rfl)|refine cd ?_|(apply g_drN (id := 6) okM [[],[],[0,1],[0,1,2],[],[],[4,5],[4,5,6],[0,1,2,3,4,5,6,7]] [([],[]),([],[]),([],[]),([],[]),([],[]),([],[]),([],[]),([],[]),([],[])] 0;(focus (refine dp 0 0 [18,21,22,23,24] [] pu1 ?_;refine dp 1 0 [17,21,22,23,24] [] pu1 ?_;refine dp 2 3 [21,22,23,24] [] puI ?_;refine dp 3 7 [21,22,23,24] [] puL ?_;refine dp 4 0 [17,18,19,20,22] [] pu1 ?_;refine dp 5 0 [17,18,19,20,21] [] pu1 ?_;refine dp 6 3 [17,18,19,20] [] puI ?_;refine dp 7 7 [17,18,19,20] [] puL ?_;refine dp 8 255 [] [] (by exact a_ne rfl rfl) ?_;(refine d_nil ?_;refine dN ?_)));any_goals kernel_rfl)|((refine g_cond rfl (fun hc => ?_) (fun hc => ?_)) <;> (try simp only [dcB] at hc) <;> (try first|contradiction|(exfalso;omega)))|fail
    · repeat refine cr ?_
      refine ends_id ?_
      refine endK [] (h2 := ?_) (h3 := ?_) (nd := ?_)
      all_goals (repeat' first|exact ce0|refine ce ?_|refine ce2 ?_ ?_|exact SVLe.refl|refine ceb ?_)
      all_goals first | exact (show nodupB _ = true from rfl) | exact Or.inr rfl | ((symm; unfold eqI; rw [decide_eq_false_iff_not]; rintro rfl; simp_all))
    · refine q_again (i + 1) [] (by exact stk) ?_ ?_
      · exact ⟨by omega,by omega,take_next h0 (by omega) (by omega) h2 (by simp_all)⟩
      · omega
    · have hl := take_end (by omega) (by omega) h2
      repeat refine cr ?_
      refine ends_id ?_
      refine endK [] (h2 := ?_) (h3 := ?_) (nd := ?_)
      all_goals (repeat' first|exact ce0|refine ce ?_|refine ce2 ?_ ?_|exact SVLe.refl|refine ceb ?_)
      all_goals first | exact (show nodupB _ = true from rfl) | exact Or.inr rfl | ((symm; unfold eqI; rw [decide_eq_true_eq]; exact hl))
theorem b10ConfigP_ok (x : Conf) (hx : (x.le.length : Int) ≤ 16777216) (hy : (x.ri.length : Int) ≤ 16777216) : Does Tryz.prog 19 [.agg (coC x),.agg (coC x)] [] (.one (boo true)) [] := by
  have e1 : eqI x.le x.le = true := by simp [eqI]
  have e2 : eqI x.ri x.ri = true := by simp [eqI]
  refine does_of (k := 0) Tryz.func19 rfl Tryz.ntmps19 rfl rfl fun w F0 S0 ρ0 => ?_
  dsimp only [argT,argH]
  repeat' first|(apply n3;exact a_new (gb := .bx _) rfl;exact rfl;refine dA ?_)|(apply p3;(first|exact pu1|exact puC);exact rfl)|refine cd ?_|refine o_no rfl rfl rfl rfl ?_|(apply py3;exact rfl;exact rfl;(exact pu1);exact rfl;exact rfl)|(apply cy4 0;exact rfl;exact rfl;exact callK1 (θ := []) (hD := (b10NumsP_ok x.le x.le hx hx));exact rfl;exact rfl;exact rfl;exact rfl;refine dM ?_)|(apply cy4 0;exact rfl;exact rfl;exact callK1 (θ := []) (hD := (b10NumsP_ok x.ri x.ri hy hy));exact rfl;exact rfl;exact rfl;exact rfl;refine dM ?_)|((refine o_gs rfl rfl (fun hc => ?_) (fun hc => ?_)) <;> (try simp only [dcB] at hc) <;> (try first|contradiction|(exfalso;omega)))|fail
  · repeat refine cr ?_
    refine ends_id ?_
    refine endK [] (h2 := ?_) (h3 := ?_) (nd := ?_)
    all_goals (repeat' first|exact ce0|refine ce ?_|refine ce2 ?_ ?_|exact SVLe.refl|refine ceb ?_)
    all_goals first | exact (show nodupB _ = true from rfl) | exact Or.inr rfl | (exact e2)
  · exfalso; rw [e1] at hc; exact absurd hc (by decide)
end Go.Proofs.YtegpggobfdcafaaGreat
end
section
set_option linter.unusedVariables false
set_option linter.unusedSimpArgs false
set_option maxRecDepth 100000
set_option maxHeartbeats 4000000
namespace Go.Proofs.YtegpggobfdcafaaGreat
open Go Foot Go.RowKit
theorem preB288 {p : Prop} (h : p := by first | with_reducible assumption | omega | (simp only [List.length_append,List.length_cons,List.length_nil,List.length_set,List.length_replicate,List.length_take,List.length_drop,List.length_tail,List.length_dropLast,List.length_reverse] at *; omega) | exact mem_len (by assumption) (by omega) | (with_reducible refine Int.le_trans (Int.ofNat_le.2 (trimR_len _)) ?_; simp only [List.length_cons,List.length_tail]; omega) | (exact (ruAt_ok (by assumption) (by assumption) (by assumption)).2.1) | (exact (ruAt_ok (by assumption) (by assumption) (by assumption)).2.1) | (have := vMach_bd (by assumption); omega) | (simp only [List.length_append,List.length_cons,List.length_nil,repW_len,seN_len] at *; omega) | (simp only [mC_ch,mC_tu]; omega) | (have := vTag_bd (by assumption); omega) | (have := (‹Gd _ _›).le; omega) | (exact tgHalts_no (by assumption)) | (exact tgHead (by assumption) (by assumption) (by assumption)) | (exact Int.le_trans (tgStep_gd (by assumption) (by assumption) (by assumption) (by assumption)).le (by decide)) | (exact vTag_r (by assumption)) | (with_reducible refine Int.le_trans (Int.ofNat_le.2 (pushL_len _ _)) ?_; simp only [List.length_dropLast]; omega) | exact ls_at (by assumption) (by omega) | exact pt_gd (by assumption) | exact lv_at (by assumption) (by omega) | exact pt_gd (lv_at (by assumption) (by omega)) | exact (ask_ok (by assumption)).1 | exact (ask_ok (by assumption)).2.1 | exact (ask_ok (by assumption)).2.2.1 | exact (ask_ok (by assumption)).2.2.2 | trivial) : p := h
theorem smallP_ok (l : List Int) (m : Mach) (c : Conf) (g : SrOk ⟨l,0,0⟩) (hm : m = smM ⟨l,0,0⟩) (hc : c = smC ⟨l,0,0⟩) : Does Tryz.prog 16 [.one (shY l)] [] (.tup [(true,[int m.sy,int m.st,.gv 0]),(true,[int c.st,.gv 1,.gv 2])]) [.row 3 (rows eR m.ru),.row 1 (rows eI c.le),.row 1 (rows eI c.ri)] := by
  have h := small_ok l g
  subst hm; subst hc
  rw [show (2 : Int) = (smM ⟨l,0,0⟩).sy from (sm_ok ⟨l,0,0⟩ g rfl).sy.symm] at h
  exact h
theorem rmP_ok (m : Mach) (c : Conf) (h : MpOk m c) : Does Tryz.prog 17 [.agg (maC m),.agg (coC c),.one (int 12)] [] (.tup [(true,coC (rmC m 12 c)),(false,[int (rmN m 12 c : Nat)]),(false,[boo (decide (ruAt m (rmC m 12 c) = noR))]),(false,[int 0])]) [] := iRunMachine_ok m 12 c h.hm h.hr ⟨by decide,by decide⟩
theorem byP_ok (m : Mach) (c : Conf) (h : MpOk m c) (hz : rcC m c 12 = 0) (h1 : rcV m c 12 ≠ 0) (h2 : rcV m c 12 ≤ 4000) : Does Tryz.prog 18 [.agg (maC m),.agg (coC c),.one (int (rcV m c 12))] [] (.tup [(true,[int (rmC m 12 c).st,.gv 0,.gv 1]),(false,[int (rcV m c 12)]),(false,[boo (decide (ruAt m (rmC m 12 c) = noR))]),(false,[int 0])]) [roI (rmC m 12 c).le,roI (rmC m 12 c).ri] := by
  have hb := at_bd h.hm h.hc
  have w := iRunByProgram_ok m 12 c (h.by hz h1 h2) hb.2.2.2.2.2.2.2.1 hb.2.2.2.2.2.2.2.2
  rw [← (h.cost hz).2.1] at w
  exact w
theorem lawByProgram (l : List Int) (hl : (l.length : Int) ≤ 9223372036854775807) (hb : ∀ x ∈ l,0 ≤ x ∧ x ≤ 255) : Does Tryz.prog 4 [.one (shY l)] [] (.one (boo true)) [] := by
  have g : SrOk ⟨l,0,0⟩ := ⟨hl,⟨by simp,by simp⟩,hb⟩
  have S := sm_ok ⟨l,0,0⟩ g rfl
  obtain ⟨m,em⟩ : ∃ m,m = smM ⟨l,0,0⟩ := ⟨_,rfl⟩
  obtain ⟨c,ec⟩ : ∃ c,c = smC ⟨l,0,0⟩ := ⟨_,rfl⟩
  have M := S.mp em ec
  have hm := M.hm
  have hc := M.hc
  have hbd := (at_bd hm hc).2.2.2.2
  refine does_of (k := 0) Tryz.func4 rfl Tryz.ntmps4 rfl rfl fun w F0 S0 ρ0 => ?_
  dsimp only [argT,argH]
  repeat' first|(apply n3;exact a_new (gb := .bx _) rfl;exact rfl;refine dA ?_)|(apply p3;(first|exact pu1|exact a_ne rfl rfl|exact puC|exact a_neB rfl rfl (by kernel_rfl));exact rfl)|refine cd ?_|(apply w3;(exact a_st_bx rfl rfl rfl rfl (fN rfl rfl) (Nat.le_of_ble_eq_true rfl) rfl);exact rfl;refine dS ?_)|(apply c4 0;exact callK1 (θ := []) (hD := (b10LongP_ok _ preB288));exact rfl;exact rfl;exact rfl;refine dM ?_)|(apply c4 0;exact callF (hD := (smallP_ok l m c g em ec));exact rfl;exact rfl;exact rfl;refine dM ?_)|(apply c4 0;exact callK0 (θ := []) (hD := (rmP_ok m c M));exact rfl;exact rfl;exact rfl;refine dM ?_)|(apply c4 0;exact callK1 (θ := []) (hD := (iRunCost_ok _ _ _ preB288 preB288 preB288));exact rfl;exact rfl;exact rfl;refine dM ?_)|(apply c4 0;exact callK1 (θ := []) (hD := (sRunCost_ok _ _ _ preB288 preB288 preB288));exact rfl;exact rfl;exact rfl;refine dM ?_)|refine o_no rfl rfl rfl rfl ?_|(apply py3;exact rfl;exact rfl;(first|exact pu1|exact puC);exact rfl;exact rfl)|((first|refine o_gs rfl rfl (fun hc => ?_) (fun hc => ?_)|refine g_cond rfl (fun hc => ?_) (fun hc => ?_)) <;> (try simp only [dcB] at hc) <;> (try first|contradiction|(exfalso;omega)))|fail
  · repeat refine cr ?_
    refine ends_id ?_
    refine endK [] (h2 := ?_) (h3 := ?_) (nd := ?_)
    all_goals (repeat' first|exact ce0|refine ce ?_|refine ce2 ?_ ?_|exact SVLe.refl|refine ceb ?_)
    all_goals first | exact (show nodupB _ = true from rfl) | exact Or.inr rfl | (rfl)
  · repeat refine cr ?_
    refine ends_id ?_
    refine endK [] (h2 := ?_) (h3 := ?_) (nd := ?_)
    all_goals (repeat' first|exact ce0|refine ce ?_|refine ce2 ?_ ?_|exact SVLe.refl|refine ceb ?_)
    all_goals first | exact (show nodupB _ = true from rfl) | exact Or.inr rfl | ((first | rfl | simp))
  · exfalso
    rename_i hz
    have e := (M.cost (by assumption)).1
    rw [e] at hc
    simp at hc
  · exfalso
    have e := (M.cost (by assumption)).2.1
    have k := rmK_ge hm 12 c M.hr
    rw [e] at hc
    omega
  · repeat refine cr ?_
    refine ends_id ?_
    refine endK [] (h2 := ?_) (h3 := ?_) (nd := ?_)
    all_goals (repeat' first|exact ce0|refine ce ?_|refine ce2 ?_ ?_|exact SVLe.refl|refine ceb ?_)
    all_goals first | exact (show nodupB _ = true from rfl) | exact Or.inr rfl | ((first | rfl | simp))
  · repeat refine cr ?_
    refine ends_id ?_
    refine endK [] (h2 := ?_) (h3 := ?_) (nd := ?_)
    all_goals (repeat' first|exact ce0|refine ce ?_|refine ce2 ?_ ?_|exact SVLe.refl|refine ceb ?_)
    all_goals first | exact (show nodupB _ = true from rfl) | exact Or.inr rfl | ((first | rfl | simp))
  · skip
    have hz : rcC m c 12 = 0 := by assumption
    have h1 : ¬ rcV m c 12 = 0 := by assumption
    have h2 : rcV m c 12 ≤ 4000 := by omega
    obtain ⟨eH,eV,_⟩ := M.cost hz
    obtain ⟨_,_,r3,_⟩ := prog_run hm 12 c ⟨0,⟨0,[],[]⟩⟩ M.hr
    have b3 := (at_bd hm r3).2.2.2.2
    repeat' first|(apply n3;exact a_new (gb := .bx _) rfl;exact rfl;refine dA ?_)|(apply p3;(first|exact pu1|exact puC);exact rfl)|refine cd ?_|(apply w3;(exact a_st_bx rfl rfl rfl rfl (fN rfl rfl) (Nat.le_of_ble_eq_true rfl) rfl);exact rfl;refine dS ?_)|(apply c4 0;exact callF (hD := (byP_ok m c M hz h1 h2));exact rfl;exact rfl;exact rfl;refine dM ?_)|refine o_no rfl rfl rfl rfl ?_|(apply py3;exact rfl;exact rfl;(first|exact pu1|exact puC|exact a_eqB rfl rfl (by kernel_rfl));exact rfl;exact rfl)|(apply cy4 0;exact rfl;exact rfl;exact callK1 (θ := []) (hD := (b10ConfigP_ok (rmC m 12 c) (by omega) (by omega)));exact rfl;exact rfl;exact rfl;exact rfl;refine dM ?_)|((refine o_gs rfl rfl (fun hc => ?_) (fun hc => ?_)) <;> (try simp only [dcB] at hc) <;> (try first|contradiction|(exfalso;omega)))|fail
    · repeat refine cr ?_
      refine ends_id ?_
      refine endK [] (h2 := ?_) (h3 := ?_) (nd := ?_)
      all_goals (repeat' first|exact ce0|refine ce ?_|refine ce2 ?_ ?_|exact SVLe.refl|refine ceb ?_)
      all_goals first | exact (show nodupB _ = true from rfl) | exact Or.inr rfl | (rfl)
    · exfalso; simp at hc
end Go.Proofs.YtegpggobfdcafaaGreat
end
