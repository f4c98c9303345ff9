/- Parts of the proof (16 of 22). -/
import Derived.Lib.Join
import Derived.Test.YtnkeamihfiobdaaGreatDoorQ15
section
set_option linter.unusedVariables false
set_option linter.unusedSimpArgs false
set_option maxRecDepth 100000
set_option maxHeartbeats 4000000
namespace Go.Proofs.YtnkeamihfiobdaaGreatDoor
open Go Foot Go.Shelf Go.RowKit
theorem WriteString_ok (l s : Bs) (h : (l.length : Int) + s.length ≤ 140737488355328) : Does Tryz.prog 91 [.one (.gv 0),.one (str s)] [bldr l] (.tup [(false,[int s.length]),(false,[nlC])]) [bldr (l ++ s)] :=
  does_bld (av := [sv s]) (rv := .tuple #[.int .i64 s.length,.nilIface]) (fun w S ρ vs => repA_1) (fun w S ρ => ⟨_,rfl,_,_,rfl,⟨_,_,rfl,⟨rfl,rfl⟩,rfl⟩,_,_,rfl,⟨_,_,rfl,⟨rfl,rfl⟩,rfl⟩,rfl⟩) fun w b p v hB => by
    have := bs_WriteString hB ⟨s.toArray⟩ (by rw [Lib.byteCells_length,sz_str]; omega)
    rw [cells_str,sz_str] at this
    exact this
theorem String_ok (l : Bs) : Does Tryz.prog 93 [.one (.gv 0)] [bldr l] (.one (str l)) [bldr l] :=
  does_bld (av := []) (rv := sv l) (fun w S ρ vs h => h) (fun w S ρ => ⟨rfl,rfl⟩) fun w b p v hB => bl_String Tryz.lays169 Tryz.Builder_Extra_169 hB
theorem FormatInt_ok (n : Int) (h0 : -9223372036854775808 ≤ n) (h1 : n ≤ 9223372036854775807) : Does Tryz.prog 161 [.one (int n),.one (int 10)] [] (.one (str (Lib.itoa n))) [] :=
  does_ext (av := [.int .i64 n,.int .i64 10]) (rv := sv (Lib.itoa n)) (fun w S ρ vs => repA_2) (fun w S ρ => ⟨rfl,rfl⟩) fun w S hT => by
    obtain ⟨⟨cs,T,fr,ht,hcs⟩,_⟩ := hT _ List.mem_cons_self
    dsimp only at hcs
    subst hcs
    refine (Any.strconv_FormatInt_10 Tryz.laysM173 n h0 h1 w ?_).mono ?_
    · dsimp only at ht
      exact Option.bind_eq_some_iff.2 ⟨_,by kernel_rfl,by rw [ht]; simp [Lib.pow10Tab]⟩
    · rintro en w' ⟨rfl,k,os,rfl⟩
      exact ⟨rfl,Lib.below_grow _ w (Nat.le_refl _) k os⟩
end Go.Proofs.YtnkeamihfiobdaaGreatDoor
end
section
set_option linter.unusedVariables false
set_option linter.unusedSimpArgs false
set_option maxRecDepth 100000
namespace Go.Proofs.YtnkeamihfiobdaaGreatDoor
open Go Foot
@[irreducible] def mulW (a b : Int) : Int := IntKind.u64.wrap (a * b)
@[irreducible] def addW (a b : Int) : Int := IntKind.u64.wrap (a + b)
@[irreducible] def cnvW (a : Int) : Int := IntKind.u64.wrap a
@[irreducible] def shrW (a b : Int) : Int := a.fdiv (2 ^ min b.toNat IntKind.u64.bits)
@[irreducible] def andW (a b : Int) : Int := IntKind.u64.wrap ((BitVec.ofInt IntKind.u64.bits a &&& BitVec.ofInt IntKind.u64.bits b).toNat : Nat)
theorem andW_le (a : Int) : 0 ≤ andW a 255 ∧ andW a 255 ≤ 255 := by
  have h : (BitVec.ofInt IntKind.u64.bits a &&& BitVec.ofInt IntKind.u64.bits 255).toNat ≤ 255 := by
    show (BitVec.ofInt 64 a &&& BitVec.ofInt 64 255).toNat ≤ 255
    rw [BitVec.toNat_and]
    have h5 : (BitVec.ofInt 64 255).toNat = 255 := by decide
    rw [h5]
    exact Nat.and_le_right
  unfold andW
  rw [wrapU (by omega) (by omega)]
  omega
section
variable {P : Program} {g : Gh} {st : St}
variable {dst : Option Tmp} {ty : TypeId} {pos : String} {after : Array Edge} {guard : Option (Nat × Bool)} {x y : Operand} {T U : TypeId} {a b : Int}
theorem w_mul (e1 : opd st x = .one (u64 a)) (e2 : opd st y = .one (u64 b)) : Acts P g ⟨dst,.binOp .mul T x y U,ty,pos,after,guard⟩ st (.one (u64 (mulW a b))) [] [] := by
  unfold mulW
  exact a_bin (op := .mul) e1 e2 rfl trivial
theorem w_add (e1 : opd st x = .one (u64 a)) (e2 : opd st y = .one (u64 b)) : Acts P g ⟨dst,.binOp .add T x y U,ty,pos,after,guard⟩ st (.one (u64 (addW a b))) [] [] := by
  unfold addW
  exact a_bin (op := .add) e1 e2 rfl trivial
theorem w_and (e1 : opd st x = .one (u64 a)) (e2 : opd st y = .one (u64 b)) : Acts P g ⟨dst,.binOp .and T x y U,ty,pos,after,guard⟩ st (.one (u64 (andW a b))) [] [] := by
  unfold andW
  exact a_bin (op := .and) e1 e2 rfl trivial
theorem w_shr (e1 : opd st x = .one (u64 a)) (e2 : opd st y = .one (u64 b)) (h : 0 ≤ b) : Acts P g ⟨dst,.binOp .shr T x y U,ty,pos,after,guard⟩ st (.one (u64 (shrW a b))) [] [] := by
  unfold shrW
  exact a_bin (op := .shr) e1 e2 rfl h
theorem w_cnv (e1 : opd st x = .one (int a)) (hT : P.underlying T = some (.int .i64)) (hU : P.underlying U = some (.int .u64)) : Acts P g ⟨dst,.convert T U x,ty,pos,after,guard⟩ st (.one (u64 (cnvW a))) [] [] := by
  unfold cnvW
  exact a_conv e1 (by rw [hT]; rfl) hU
end
end Go.Proofs.YtnkeamihfiobdaaGreatDoor
end
section
set_option linter.unusedVariables false
set_option linter.unusedSimpArgs false
set_option maxRecDepth 100000
set_option maxHeartbeats 4000000
namespace Go.Proofs.YtnkeamihfiobdaaGreatDoor
open Go Foot
abbrev shY (l : List Int) : C := .d (.sl false 1 (rows eY l))
structure Src where
  co : List Int
  pl : Int
  sd : Int
abbrev srB (s : Src) : GB := .bx [shY s.co,int s.pl,u64 s.sd]
structure SrOk (s : Src) : Prop where
  n : (s.co.length : Int) ≤ 9223372036854775807
  p : 0 ≤ s.pl ∧ s.pl ≤ 1000000000000000000
  b : ∀ x ∈ s.co,0 ≤ x ∧ x ≤ 255
@[irreducible] def nxB (s : Src) : Int := if s.pl < s.co.length then s.co.getD s.pl.toNat 0 else 0
@[irreducible] def nxS (s : Src) : Src := ⟨s.co,s.pl + 1,addW (addW (mulW s.sd 6364136223846793005) (cnvW (nxB s))) 1442695040888963407⟩
@[irreducible] def nxV (s : Src) : Int := if s.pl + 1 ≤ s.co.length then nxB s else andW (shrW (nxS s).sd 40) 255
theorem nxB_bd {s : Src} (g : SrOk s) : 0 ≤ nxB s ∧ nxB s ≤ 255 := by
  unfold nxB
  split
  · rename_i h
    have := g.p
    rw [List.getD_eq_getElem?_getD,List.getElem?_eq_getElem (by omega)]
    exact g.b _ (List.getElem_mem _)
  · omega
theorem nxV_bd {s : Src} (g : SrOk s) : 0 ≤ nxV s ∧ nxV s ≤ 255 := by
  unfold nxV
  split
  · exact nxB_bd g
  · exact andW_le _
theorem preB76 {p : Prop} (h : p := by first | with_reducible assumption | omega | (simp only [List.length_append,List.length_cons,List.length_nil,List.length_set,List.length_replicate,List.length_take,List.length_drop,List.length_tail,List.length_dropLast,List.length_reverse] at *; omega) | exact mem_len (by assumption) (by omega) | (with_reducible refine Int.le_trans (Int.ofNat_le.2 (trimR_len _)) ?_; simp only [List.length_cons,List.length_tail]; omega) | (exact (ruAt_ok (by assumption) (by assumption) (by assumption)).2.1) | (exact (ruAt_ok (by assumption) (by assumption) (by assumption)).2.1) | (have := vMach_bd (by assumption); omega) | (simp only [mC_ch,mC_tu]; omega) | (have := vTag_bd (by assumption); omega) | (have := (‹Gd _ _›).le; omega) | (exact tgHalts_no (by assumption)) | (exact tgHead (by assumption) (by assumption) (by assumption)) | (exact Int.le_trans (tgStep_gd (by assumption) (by assumption) (by assumption) (by assumption)).le (by decide)) | (exact vTag_r (by assumption)) | (with_reducible refine Int.le_trans (Int.ofNat_le.2 (pushL_len _ _)) ?_; simp only [List.length_dropLast]; omega) | exact ls_at (by assumption) (by omega) | exact pt_gd (by assumption) | exact lv_at (by assumption) (by omega) | exact pt_gd (lv_at (by assumption) (by omega)) | exact (ask_ok (by assumption)).1 | exact (ask_ok (by assumption)).2.1 | exact (ask_ok (by assumption)).2.2.1 | exact (ask_ok (by assumption)).2.2.2 | trivial) : p := h
theorem srcFrom_ok (l : List Int) : Does Tryz.prog 34 [.one (shY l)] [] (.one (.gv 0)) [srB ⟨l,0,0⟩] := by
  refine does_of (k := 0) Tryz.func34 rfl Tryz.ntmps34 rfl rfl fun w F0 S0 ρ0 => ?_
  dsimp only [argT,argH]
  repeat' first|(apply n3;exact a_new (gb := .bx _) rfl;exact rfl;refine dA ?_)|(apply p3;exact pu1;exact rfl)|refine cd ?_|fail
  repeat refine cr ?_
  refine ends_id ?_
  refine endK [?_] (h2 := ?_) (h3 := ?_) (nd := ?_)
  rotate_left 1
  all_goals (repeat' first|exact ce0|refine ce ?_|refine ce2 ?_ ?_|(refine Or.inr (bx_eq rfl rfl ?_);(try dsimp only [C.ren,C.ren.all]);(try exact rfl))|exact SVLe.refl|refine ceb ?_)
  all_goals first | exact (show nodupB _ = true from rfl) | exact Or.inr rfl | (rfl)
theorem nxS_eq {s : Src} {b : Int} (h : nxB s = b) : nxS s = ⟨s.co,s.pl + 1,addW (addW (mulW s.sd 6364136223846793005) (cnvW b)) 1442695040888963407⟩ := by unfold nxS; rw [h]
theorem srcNext_ok (s : Src) (g : SrOk s) : Does Tryz.prog 99 [.one (.gv 0)] [srB s] (.one (int (nxV s))) [srB (nxS s)] := by
  have hp := g.p
  have hn := g.n
  by_cases hl : s.pl < s.co.length
  · have hg := g.b _ (List.getElem_mem (show s.pl.toNat < s.co.length by omega))
    have hb : nxB s = s.co[s.pl.toNat]'(by omega) := by
      unfold nxB
      rw [if_pos hl,List.getD_eq_getElem?_getD,List.getElem?_eq_getElem (by omega)]
      rfl
    have hv : nxV s = s.co[s.pl.toNat]'(by omega) := by unfold nxV; rw [if_pos (by omega),hb]
    rw [hv,nxS_eq hb]
    refine does_of (k := 1) Tryz.func99 rfl Tryz.ntmps99 rfl rfl fun w F0 S0 ρ0 => ?_
    dsimp only [argT,argH]
    repeat' first|(apply p3;(first|exact pu1|exact a_add rfl rfl (by omega) (by omega)|exact w_mul rfl rfl|exact w_cnv rfl Tryz.underlying3 Tryz.underlying144|exact w_add rfl rfl);exact rfl)|refine cd ?_|(apply w3;(exact a_st_bx rfl rfl rfl rfl (fN rfl rfl) (Nat.le_of_ble_eq_true rfl) rfl);exact rfl;refine dS ?_)|(apply g_drN (id := 2) okM [[],[0],[0,1],[0,1,2],[],[4],[4,5],[4,5,6],[4,5,6,7],[0,1,2,3,4,5,6,7,8]] [([],[]),([],[]),([],[]),([],[]),([],[]),([],[]),([],[]),([],[]),([],[]),([],[])] 0;(focus (refine dp 0 0 [8,9,10,11,12] [] pu1 ?_;refine dp 1 1 [8,9,10,11,12] [] (a_pure (sv := .one _) rfl) ?_;refine dp 2 3 [8,9,10,11,12] [] (a_pure (sv := .one _) rfl) ?_;refine dp 3 7 [8,9,10,11,12] [] puL ?_;refine dp 4 0 [4,5,6,7] [] pu1 ?_;refine dp 5 1 [4,5,6,7] [] (a_pure (sv := .one _) rfl) ?_;refine dp 6 3 [4,5,6,7] [] (a_pure (sv := .one _) rfl) ?_;refine dp 7 7 [4,5,6,7] [] puL ?_;refine dp 8 15 [4,5,6,7] [] (by exact puN) ?_;refine dp 9 511 [] [] puC ?_;(refine d_nil ?_;refine dN ?_)));any_goals kernel_rfl)|(apply g_drN (id := 3) okM [[],[0],[0,1],[0,1,2],[],[4],[4,5],[4,5,6],[0,1,2,3,4,5,6,7],[0,1,2,3,4,5,6,7,8],[0,1,2,3,4,5,6,7,8,9],[0,1,2,3,4,5,6,7,8,9,10]] [([],[]),([],[]),([],[]),([],[]),([],[]),([],[]),([],[]),([],[]),([],[]),([],[]),([],[]),([],[])] 0;(focus (refine dp 0 0 [18,19,20,21] [] pu1 ?_;refine dp 1 1 [18,19,20,21] [] (a_pure (sv := .one _) rfl) ?_;refine dp 2 3 [18,19,20,21] [] (a_pure (sv := .one _) rfl) ?_;refine dp 3 7 [18,19,20,21] [] puL ?_;refine dp 4 0 [14,15,16,17] [] pu1 ?_;refine dp 5 1 [14,15,16,17] [] (a_pure (sv := .one _) rfl) ?_;refine dp 6 3 [14,15,16,17] [] (a_pure (sv := .one _) rfl) ?_;refine dp 7 7 [14,15,16,17] [] puL ?_;refine dp 8 255 [] [] puI ?_;refine dp 9 511 [] [] (by exact a_pure (sv := .one _) rfl) ?_;refine dp 10 1023 [] [] (a_of8 rfl Tryz.underlying5 Tryz.underlying3 (by omega) (by omega)) ?_;refine dp 11 2047 [] [] pu1 ?_;(refine d_nil ?_;refine dN ?_)));any_goals kernel_rfl)|(apply g_drN (id := 6) okM [[],[0],[0,1],[0,1,2],[],[4],[4,5],[4,5,6],[4,5,6,7],[0,1,2,3,4,5,6,7,8]] [([],[]),([],[]),([],[]),([],[]),([],[]),([],[]),([],[]),([],[]),([],[]),([],[])] 0;(focus (refine dp 0 0 [48,49,50,51,52] [] pu1 ?_;refine dp 1 1 [48,49,50,51,52] [] (a_pure (sv := .one _) rfl) ?_;refine dp 2 3 [48,49,50,51,52] [] (a_pure (sv := .one _) rfl) ?_;refine dp 3 7 [48,49,50,51,52] [] puL ?_;refine dp 4 0 [44,45,46,47] [] pu1 ?_;refine dp 5 1 [44,45,46,47] [] (a_pure (sv := .one _) rfl) ?_;refine dp 6 3 [44,45,46,47] [] (a_pure (sv := .one _) rfl) ?_;refine dp 7 7 [44,45,46,47] [] puL ?_;refine dp 8 15 [44,45,46,47] [] (by exact puN) ?_;refine dp 9 511 [] [] puC ?_;(refine d_nil ?_;refine dN ?_)));any_goals kernel_rfl)|((refine g_cond rfl (fun hc => ?_) (fun hc => ?_)) <;> (try simp only [dcB] at hc) <;> (try first|contradiction|(exfalso;omega)))|fail
    repeat refine cr ?_
    refine ends_id ?_
    refine endK [] (h2 := ?_) (h3 := ?_) (nd := ?_)
    all_goals (repeat' first|exact ce0|refine ce ?_|refine ce2 ?_ ?_|(refine Or.inr (bx_eq rfl rfl ?_);(try dsimp only [C.ren,C.ren.all]);(try exact rfl))|exact SVLe.refl|refine ceb ?_)
    all_goals first | exact (show nodupB _ = true from rfl) | exact Or.inr rfl | (rfl)
  · have hb : nxB s = 0 := by unfold nxB; rw [if_neg hl]
    have hv : nxV s = andW (shrW (nxS s).sd 40) 255 := by unfold nxV; rw [if_neg (by omega)]
    rw [nxS_eq hb] at hv ⊢
    rw [hv]
    have h9 := andW_le (shrW (addW (addW (mulW s.sd 6364136223846793005) (cnvW 0)) 1442695040888963407) 40)
    refine does_of (k := 1) Tryz.func99 rfl Tryz.ntmps99 rfl rfl fun w F0 S0 ρ0 => ?_
    dsimp only [argT,argH]
    repeat' first|(apply p3;(first|exact pu1|exact a_add rfl rfl (by omega) (by omega)|exact w_mul rfl rfl|exact w_cnv rfl Tryz.underlying3 Tryz.underlying144|exact w_add rfl rfl|exact w_shr rfl rfl (by decide)|exact w_and rfl rfl|exact u_vnoc rfl Tryz.underlying144 Tryz.underlying2 bnd bnd);exact rfl)|refine cd ?_|(apply w3;(exact a_st_bx rfl rfl rfl rfl (fN rfl rfl) (Nat.le_of_ble_eq_true rfl) rfl);exact rfl;refine dS ?_)|(apply g_drN (id := 2) okM [[],[0],[0,1],[0,1,2],[],[4],[4,5],[4,5,6],[4,5,6,7],[0,1,2,3,4,5,6,7,8]] [([],[]),([],[]),([],[]),([],[]),([],[]),([],[]),([],[]),([],[]),([],[]),([],[])] 0;(focus (refine dp 0 0 [8,9,10,11,12] [] pu1 ?_;refine dp 1 1 [8,9,10,11,12] [] (a_pure (sv := .one _) rfl) ?_;refine dp 2 3 [8,9,10,11,12] [] (a_pure (sv := .one _) rfl) ?_;refine dp 3 7 [8,9,10,11,12] [] puL ?_;refine dp 4 0 [4,5,6,7] [] pu1 ?_;refine dp 5 1 [4,5,6,7] [] (a_pure (sv := .one _) rfl) ?_;refine dp 6 3 [4,5,6,7] [] (a_pure (sv := .one _) rfl) ?_;refine dp 7 7 [4,5,6,7] [] puL ?_;refine dp 8 15 [4,5,6,7] [] (by exact puN) ?_;refine dp 9 511 [] [] puC ?_;(refine d_nil ?_;refine dN ?_)));any_goals kernel_rfl)|(apply g_drN (id := 6) okM [[],[0],[0,1],[0,1,2],[],[4],[4,5],[4,5,6],[4,5,6,7],[0,1,2,3,4,5,6,7,8]] [([],[]),([],[]),([],[]),([],[]),([],[]),([],[]),([],[]),([],[]),([],[]),([],[])] 0;(focus (refine dp 0 0 [48,49,50,51,52] [] pu1 ?_;refine dp 1 1 [48,49,50,51,52] [] (a_pure (sv := .one _) rfl) ?_;refine dp 2 3 [48,49,50,51,52] [] (a_pure (sv := .one _) rfl) ?_;refine dp 3 7 [48,49,50,51,52] [] puL ?_;refine dp 4 0 [44,45,46,47] [] pu1 ?_;refine dp 5 1 [44,45,46,47] [] (a_pure (sv := .one _) rfl) ?_;refine dp 6 3 [44,45,46,47] [] (a_pure (sv := .one _) rfl) ?_;refine dp 7 7 [44,45,46,47] [] puL ?_;refine dp 8 15 [44,45,46,47] [] (by exact puN) ?_;refine dp 9 511 [] [] puC ?_;(refine d_nil ?_;refine dN ?_)));any_goals kernel_rfl)|((refine g_cond rfl (fun hc => ?_) (fun hc => ?_)) <;> (try simp only [dcB] at hc) <;> (try first|contradiction|(exfalso;omega)))|fail
    repeat refine cr ?_
    refine ends_id ?_
    refine endK [] (h2 := ?_) (h3 := ?_) (nd := ?_)
    all_goals (repeat' first|exact ce0|refine ce ?_|refine ce2 ?_ ?_|(refine Or.inr (bx_eq rfl rfl ?_);(try dsimp only [C.ren,C.ren.all]);(try exact rfl))|exact SVLe.refl|refine ceb ?_)
    all_goals first | exact (show nodupB _ = true from rfl) | exact Or.inr rfl | (rfl)
@[irreducible] def pkS (s : Src) (n : Int) : Src := if n ≤ 1 then s else if 200 < n then nxS (nxS s) else nxS s
@[irreducible] def pkV (s : Src) (n : Int) : Int := if n ≤ 1 then 0 else if 200 < n then (nxV s * 256 + nxV (nxS s)) % n else nxV s % n
theorem sr_next {s : Src} (g : SrOk s) (h : s.pl ≤ 999999999999999999) : SrOk (nxS s) := by
  unfold nxS
  exact ⟨g.n,⟨by have := g.p; dsimp only; omega,by dsimp only; omega⟩,g.b⟩
theorem nxS_pl (s : Src) : (nxS s).pl = s.pl + 1 := by unfold nxS; rfl
theorem pkS_pl (s : Src) (n : Int) : s.pl ≤ (pkS s n).pl ∧ (pkS s n).pl ≤ s.pl + 2 := by
  unfold pkS
  split
  · omega
  · split
    · rw [nxS_pl,nxS_pl]; omega
    · rw [nxS_pl]; omega
theorem sr_pick {s : Src} {n : Int} (g : SrOk s) (h : s.pl ≤ 999999999999999998) : SrOk (pkS s n) := by
  unfold pkS
  split
  · exact g
  · split
    · exact sr_next (sr_next g (by omega)) (by rw [nxS_pl]; omega)
    · exact sr_next g (by omega)
theorem pkV_bd {s : Src} {n : Int} (g : SrOk s) (h : 1 ≤ n) : 0 ≤ pkV s n ∧ pkV s n < n := by
  unfold pkV
  split
  · omega
  · split
    · exact ⟨Int.emod_nonneg _ (by omega),Int.emod_lt_of_pos _ (by omega)⟩
    · exact ⟨Int.emod_nonneg _ (by omega),Int.emod_lt_of_pos _ (by omega)⟩
theorem srcPick_ok (s : Src) (n : Int) (g : SrOk s) (h : s.pl ≤ 999999999999999998) (h1 : n ≤ 1000000) : Does Tryz.prog 36 [.one (.gv 0),.one (int n)] [srB s] (.one (int (pkV s n))) [srB (pkS s n)] := by
  have g2 := sr_next g (by omega)
  have hb := nxV_bd g
  have hb2 := nxV_bd g2
  by_cases hn : n ≤ 1
  · rw [show pkV s n = 0 by unfold pkV; rw [if_pos hn],show pkS s n = s by unfold pkS; rw [if_pos hn]]
    refine does_of (k := 1) Tryz.func36 rfl Tryz.ntmps36 rfl rfl fun w F0 S0 ρ0 => ?_
    dsimp only [argT,argH]
    repeat' first|(apply p3;(first|exact pu1|exact puC);exact rfl)|refine cd ?_|((refine g_cond rfl (fun hc => ?_) (fun hc => ?_)) <;> (try simp only [dcB] at hc) <;> (try first|contradiction|(exfalso;omega)))|fail
    repeat refine cr ?_
    refine ends_id ?_
    refine endK [] (h2 := ?_) (h3 := ?_) (nd := ?_)
    all_goals (repeat' first|exact ce0|refine ce ?_|refine ce2 ?_ ?_|(refine Or.inr (bx_eq rfl rfl ?_);(try dsimp only [C.ren,C.ren.all]);(try exact rfl))|exact SVLe.refl|refine ceb ?_)
    all_goals first | exact (show nodupB _ = true from rfl) | exact Or.inr rfl | (rfl)
  · by_cases hn2 : 200 < n
    · rw [show pkV s n = (nxV s * 256 + nxV (nxS s)) % n by unfold pkV; rw [if_neg hn,if_pos hn2],show pkS s n = nxS (nxS s) by unfold pkS; rw [if_neg hn,if_pos hn2]]
      refine does_of (k := 1) Tryz.func36 rfl Tryz.ntmps36 rfl rfl fun w F0 S0 ρ0 => ?_
      dsimp only [argT,argH]
      repeat' first|(apply p3;(first|exact pu1|exact puC|exact a_mulB rfl rfl (by omega) (by omega) (by omega) (by omega)|exact a_add rfl rfl (by omega) (by omega)|exact a_rem rfl rfl (by omega) (by omega) (by omega));exact rfl)|refine cd ?_|(apply c4 0;exact callK0 (θ := [_]) (hD := (srcNext_ok _ preB76));exact rfl;exact rfl;exact rfl;refine dM ?_)|((refine g_cond rfl (fun hc => ?_) (fun hc => ?_)) <;> (try simp only [dcB] at hc) <;> (try first|contradiction|(exfalso;omega)))|fail
      repeat refine cr ?_
      refine ends_id ?_
      refine endK [] (h2 := ?_) (h3 := ?_) (nd := ?_)
      all_goals (repeat' first|exact ce0|refine ce ?_|refine ce2 ?_ ?_|(refine Or.inr (bx_eq rfl rfl ?_);(try dsimp only [C.ren,C.ren.all]);(try exact rfl))|exact SVLe.refl|refine ceb ?_)
      all_goals first | exact (show nodupB _ = true from rfl) | exact Or.inr rfl | (rfl)
    · rw [show pkV s n = nxV s % n by unfold pkV; rw [if_neg hn,if_neg hn2],show pkS s n = nxS s by unfold pkS; rw [if_neg hn,if_neg hn2]]
      refine does_of (k := 1) Tryz.func36 rfl Tryz.ntmps36 rfl rfl fun w F0 S0 ρ0 => ?_
      dsimp only [argT,argH]
      repeat' first|(apply p3;(first|exact pu1|exact puC|exact a_rem rfl rfl (by omega) (by omega) (by omega));exact rfl)|refine cd ?_|(apply c4 0;exact callK0 (θ := [_]) (hD := (srcNext_ok _ preB76));exact rfl;exact rfl;exact rfl;refine dM ?_)|((refine g_cond rfl (fun hc => ?_) (fun hc => ?_)) <;> (try simp only [dcB] at hc) <;> (try first|contradiction|(exfalso;omega)))|fail
      repeat refine cr ?_
      refine ends_id ?_
      refine endK [] (h2 := ?_) (h3 := ?_) (nd := ?_)
      all_goals (repeat' first|exact ce0|refine ce ?_|refine ce2 ?_ ?_|(refine Or.inr (bx_eq rfl rfl ?_);(try dsimp only [C.ren,C.ren.all]);(try exact rfl))|exact SVLe.refl|refine ceb ?_)
      all_goals first | exact (show nodupB _ = true from rfl) | exact Or.inr rfl | (rfl)
theorem srcOne_ok (s : Src) (n : Int) (g : SrOk s) (h : s.pl ≤ 999999999999999998) (h1 : n ≤ 1000000) : Does Tryz.prog 37 [.one (.gv 0),.one (int n)] [srB s] (.one (boo (decide (pkV s n = 0)))) [srB (pkS s n)] := by
  refine does_of (k := 1) Tryz.func37 rfl Tryz.ntmps37 rfl rfl fun w F0 S0 ρ0 => ?_
  dsimp only [argT,argH]
  repeat' first|(apply p3;(first|exact pu1|exact puC);exact rfl)|refine cd ?_|(apply c4 0;exact callK0 (θ := [_]) (hD := (srcPick_ok _ _ preB76 preB76 preB76));exact rfl;exact rfl;exact rfl;refine dM ?_)|fail
  repeat refine cr ?_
  refine ends_id ?_
  refine endK [] (h2 := ?_) (h3 := ?_) (nd := ?_)
  all_goals (repeat' first|exact ce0|refine ce ?_|refine ce2 ?_ ?_|(refine Or.inr (bx_eq rfl rfl ?_);(try dsimp only [C.ren,C.ren.all]);(try exact rfl))|exact SVLe.refl|refine ceb ?_)
  all_goals first | exact (show nodupB _ = true from rfl) | exact Or.inr rfl | (rfl)
end Go.Proofs.YtnkeamihfiobdaaGreatDoor
end
section
set_option linter.unusedVariables false
set_option linter.unusedSimpArgs false
set_option maxRecDepth 100000
set_option maxHeartbeats 1000000
namespace Go.Proofs.YtnkeamihfiobdaaGreatDoor
open Go Foot Go.RowKit
theorem preB240 {p : Prop} (h : p := by first | with_reducible assumption | omega | (simp only [List.length_append,List.length_cons,List.length_nil,List.length_set,List.length_replicate,List.length_take,List.length_drop,List.length_tail,List.length_dropLast,List.length_reverse] at *; omega) | exact mem_len (by assumption) (by omega) | (with_reducible refine Int.le_trans (Int.ofNat_le.2 (trimR_len _)) ?_; simp only [List.length_cons,List.length_tail]; omega) | (exact (ruAt_ok (by assumption) (by assumption) (by assumption)).2.1) | (exact (ruAt_ok (by assumption) (by assumption) (by assumption)).2.1) | (have := vMach_bd (by assumption); omega) | (simp only [List.length_append,List.length_cons,List.length_nil,repW_len,seN_len] at *; omega) | (simp only [mC_ch,mC_tu]; omega) | (have := vTag_bd (by assumption); omega) | (have := (‹Gd _ _›).le; omega) | (exact tgHalts_no (by assumption)) | (exact tgHead (by assumption) (by assumption) (by assumption)) | (exact Int.le_trans (tgStep_gd (by assumption) (by assumption) (by assumption) (by assumption)).le (by decide)) | (exact vTag_r (by assumption)) | (with_reducible refine Int.le_trans (Int.ofNat_le.2 (pushL_len _ _)) ?_; simp only [List.length_dropLast]; omega) | exact ls_at (by assumption) (by omega) | exact pt_gd (by assumption) | exact lv_at (by assumption) (by omega) | exact pt_gd (lv_at (by assumption) (by omega)) | exact (ask_ok (by assumption)).1 | exact (ask_ok (by assumption)).2.1 | exact (ask_ok (by assumption)).2.2.1 | exact (ask_ok (by assumption)).2.2.2 | trivial) : p := h
theorem amongL_ok (s : Src) (xs : List Int) (n : Int) (hn : (xs.length : Int) = n) (g : SrOk s) (h : s.pl ≤ 1000000000) (h0 : 1 ≤ n) (h1 : n ≤ 100) : Does Tryz.prog 152 [.one (.gv 0),.one (shI xs)] [srB s] (.one (int (xs.getD (pkV s n).toNat 0))) [srB (pkS s n)] := by
  subst hn
  have hb := pkV_bd (n := xs.length) g (by omega)
  have hi : (pkV s xs.length).toNat < xs.length := by omega
  have e : xs.getD (pkV s xs.length).toNat 0 = xs[(pkV s xs.length).toNat]'hi := by rw [List.getD_eq_getElem?_getD,List.getElem?_eq_getElem hi]; rfl
  rw [e]
  refine does_of (k := 1) Tryz.func152 rfl Tryz.ntmps152 rfl rfl fun w F0 S0 ρ0 => ?_
  dsimp only [argT,argH]
  repeat' first|(apply p3;(first|exact pu1|exact puN|exact puI);exact rfl)|refine cd ?_|(apply c4 0;exact callK0 (θ := [_]) (hD := (srcPick_ok s xs.length g (by omega) (by omega)));exact rfl;exact rfl;exact rfl;refine dM ?_)|fail
  repeat refine cr ?_
  refine ends_id ?_
  refine endK [] (h2 := ?_) (h3 := ?_) (nd := ?_)
  all_goals (repeat' first|exact ce0|refine ce ?_|refine ce2 ?_ ?_|(refine Or.inr (bx_eq rfl rfl ?_);(try dsimp only [C.ren,C.ren.all]);(try exact rfl))|exact SVLe.refl|refine ceb ?_)
  all_goals first | exact (show nodupB _ = true from rfl) | exact Or.inr rfl | (rfl)
theorem among18_ok (s : Src) (g : SrOk s) (h : s.pl ≤ 1000000000) : Does Tryz.prog 152 [.one (.gv 0),.one (shI [0,1,2,3,6,7,9,10,24,64,97,99,100,720,999999,1000000,1000001,30030])] [srB s] (.one (int ([(0 : Int),1,2,3,6,7,9,10,24,64,97,99,100,720,999999,1000000,1000001,30030].getD (pkV s 18).toNat 0))) [srB (pkS s 18)] := amongL_ok s _ 18 rfl g h (by decide) (by decide)
theorem among7_ok (s : Src) (a b : Int) (g : SrOk s) (h : s.pl ≤ 1000000000) : Does Tryz.prog 152 [.one (.gv 0),.one (shI [0,1,2,999999,500000,a,b])] [srB s] (.one (int ([(0 : Int),1,2,999999,500000,a,b].getD (pkV s 7).toNat 0))) [srB (pkS s 7)] := amongL_ok s _ 7 rfl g h (by decide) (by decide)
@[irreducible] def dq18 (s : Src) : Int := [(0 : Int),1,2,3,6,7,9,10,24,64,97,99,100,720,999999,1000000,1000001,30030].getD (pkV s 18).toNat 0
@[irreducible] def dqI (s : Src) : Int := [(0 : Int),1,2,999999,500000,pkV s 1000,pkV (pkS s 1000) 1000 * 1000].getD (pkV (pkS (pkS s 1000) 1000) 7).toNat 0
@[irreducible] def dqS (s : Src) : Src := pkS (pkS (pkS s 1000) 1000) 7
def dqF : Nat → Src → List Int → List Int × Src
  | 0,s,l => (l,s)
  | k + 1,s,l => dqF k (dqS s) (l ++ [dqI s])
@[irreducible] def dqL (s : Src) : List Int × Src := dqF (1 + pkV s 5).toNat (pkS s 5) []
@[irreducible] def dqM (s : Src) : List Int := (dqL s).1 ++ if pkV (dqL s).2 12 = 0 then List.replicate (40 - (dqL s).1.length) 999999 else []
@[irreducible] def drN (s : Src) : Nat := if pkV s 2 = 0 then (dq18 (pkS s 2)).toNat else nv 1000000 (dqM (pkS s 2))
@[irreducible] def drQ (s : Src) : Src := if pkV s 2 = 0 then pkS (pkS s 2) 18 else pkS (dqL (pkS s 2)).2 12
theorem getD_all {P : Int → Prop} : ∀ {l : List Int} {i : Nat},(∀ x ∈ l,P x) → P 0 → P (l.getD i 0)
  | [],i,_,h => by simpa using h
  | x :: l,0,h,_ => h x (by simp)
  | x :: l,i + 1,h,g => by
    have := getD_all (l := l) (i := i) (fun y hy => h y (by simp [hy])) g
    simpa using this
theorem dq18_bd (s : Src) : 0 ≤ dq18 s ∧ dq18 s ≤ 1000001 := by
  unfold dq18
  refine getD_all (P := fun x => 0 ≤ x ∧ x ≤ 1000001) ?_ (by decide)
  decide
structure DqOk (s : Src) : Prop where
  g1 : SrOk (pkS s 1000)
  z1 : (pkS s 1000).pl ≤ s.pl + 2
  g2 : SrOk (pkS (pkS s 1000) 1000)
  z2 : (pkS (pkS s 1000) 1000).pl ≤ s.pl + 4
  b1 : 0 ≤ pkV s 1000 ∧ pkV s 1000 < 1000
  b2 : 0 ≤ pkV (pkS s 1000) 1000 ∧ pkV (pkS s 1000) 1000 < 1000
  g3 : SrOk (dqS s)
  z3 : (dqS s).pl ≤ s.pl + 6
  b3 : 0 ≤ dqI s ∧ dqI s < 1000000
theorem dq_ok {s : Src} (g : SrOk s) (h : s.pl ≤ 1000000) : DqOk s := by
  have a1 := sr_pick (n := 1000) g (by omega)
  have q1 := (pkS_pl s 1000).2
  have p1 := pkV_bd (n := 1000) g (by omega)
  have a2 := sr_pick (n := 1000) a1 (by omega)
  have q2 := (pkS_pl (pkS s 1000) 1000).2
  have p2 := pkV_bd (n := 1000) a1 (by omega)
  have a3 := sr_pick (n := 7) a2 (by omega)
  have q3 := (pkS_pl (pkS (pkS s 1000) 1000) 7).2
  refine ⟨a1,q1,a2,by omega,p1,p2,by unfold dqS; exact a3,by unfold dqS; omega,?_⟩
  unfold dqI
  refine getD_all (P := fun x => 0 ≤ x ∧ x < 1000000) ?_ (by decide)
  intro x hx
  simp only [List.mem_cons,List.not_mem_nil,or_false] at hx
  rcases hx with h | h | h | h | h | h | h <;> omega
theorem dqF_ok : ∀ (k : Nat) (s : Src) (l : List Int),SrOk s → s.pl + 6 * k ≤ 1000000 → Lb 1000000 l → SrOk (dqF k s l).2 ∧ (dqF k s l).2.pl ≤ s.pl + 6 * k ∧ (dqF k s l).1.length = l.length + k ∧ Lb 1000000 (dqF k s l).1
  | 0,s,l,g,h,hl => ⟨g,by simp [dqF],rfl,hl⟩
  | k + 1,s,l,g,h,hl => by
    have d := dq_ok g (by omega)
    have z := d.z3
    have := dqF_ok k (dqS s) (l ++ [dqI s]) d.g3 (by omega) (lb_app hl ⟨fun x hx => by have : x = dqI s := by simpa using hx
                                                                                       rw [this]; exact d.b3⟩)
    rw [dqF]
    refine ⟨this.1,by omega,?_,this.2.2.2⟩
    rw [this.2.2.1]; simp; omega
structure DrnOk (s : Src) : Prop where
  g1 : SrOk (pkS s 2)
  z1 : (pkS s 2).pl ≤ s.pl + 2
  g2 : SrOk (pkS (pkS s 2) 5)
  z2 : (pkS (pkS s 2) 5).pl ≤ s.pl + 4
  b : 0 ≤ pkV (pkS s 2) 5 ∧ pkV (pkS s 2) 5 < 5
  g3 : SrOk (dqL (pkS s 2)).2
  z3 : (dqL (pkS s 2)).2.pl ≤ s.pl + 34
  l : (dqL (pkS s 2)).1.length ≤ 5
  h : Lb 1000000 (dqL (pkS s 2)).1
  g : SrOk (drQ s)
  z : (drQ s).pl ≤ s.pl + 40
  n : (dg 1000000 (drN s)).length ≤ 40
theorem drn_ok {s : Src} (g : SrOk s) (h : s.pl ≤ 100000) : DrnOk s := by
  have a1 := sr_pick (n := 2) g (by omega)
  have q1 := (pkS_pl s 2).2
  have a2 := sr_pick (n := 5) a1 (by omega)
  have q2 := (pkS_pl (pkS s 2) 5).2
  have p2 := pkV_bd (n := 5) a1 (by omega)
  have a3 := dqF_ok (1 + pkV (pkS s 2) 5).toNat (pkS (pkS s 2) 5) [] a2 (by omega) ⟨fun x hx => by simp at hx⟩
  have e3 : dqL (pkS s 2) = dqF (1 + pkV (pkS s 2) 5).toNat (pkS (pkS s 2) 5) [] := by unfold dqL; rfl
  rw [← e3] at a3
  obtain ⟨a31,a32,a33,a34⟩ := a3
  simp only [List.length_nil] at a33
  have a4 := sr_pick (n := 12) a31 (by omega)
  have q4 := (pkS_pl (dqL (pkS s 2)).2 12).2
  have a5 := sr_pick (n := 18) a1 (by omega)
  have q5 := (pkS_pl (pkS s 2) 18).2
  refine ⟨a1,q1,a2,by omega,p2,a31,by omega,by omega,a34,?_,?_,?_⟩
  · unfold drQ; split
    · exact a5
    · exact a4
  · unfold drQ; split <;> omega
  · unfold drN; split
    · have := dq18_bd (pkS s 2)
      exact Nat.le_trans (dg_le (b := 1000000) (k := 2) (by decide) (by simp; omega)) (by decide)
    · have hM : Lb 1000000 (dqM (pkS s 2)) ∧ (dqM (pkS s 2)).length ≤ 40 := by
        unfold dqM
        refine ⟨lb_app a34 ?_,?_⟩
        · split
          · exact ⟨fun x hx => by have := List.eq_of_mem_replicate hx; omega⟩
          · exact ⟨fun x hx => by simp at hx⟩
        · rw [List.length_append]
          split
          · rw [List.length_replicate]; omega
          · simp; omega
      exact Nat.le_trans (dg_le (b := 1000000) (by decide) (nv_lt hM.1)) hM.2
theorem DrawOk_ok (s : Src) (g : SrOk s) (h : s.pl ≤ 100000) : Does Tryz.prog 80 [.one (.gv 0)] [srB s] (.one (shI (dg 1000000 (drN s)))) [srB (drQ s)] := by
  have d := drn_ok g h
  have g1 := d.g1
  have z1 := d.z1
  have l18 : [(0 : Int),1,2,3,6,7,9,10,24,64,97,99,100,720,999999,1000000,1000001,30030].getD (pkV (pkS s 2) 18).toNat 0 = dq18 (pkS s 2) := by unfold dq18; rfl
  have b18 := dq18_bd (pkS s 2)
  rw [← l18] at b18
  refine does_of (k := 1) Tryz.func80 rfl Tryz.ntmps80 rfl rfl fun w F0 S0 ρ0 => ?_
  dsimp only [argT,argH]
  repeat' first|(apply p3;exact pu1;exact rfl)|refine cdn ?_|refine g_reg (id := 0) ?_|refine g_reg (id := 1) ?_|(apply c4 0;exact callK0 (θ := [_]) (hD := (srcOne_ok s 2 g (by omega) (by omega)));exact rfl;exact rfl;exact rfl;refine dM ?_)|((refine g_cond rfl (fun hc => ?_) (fun hc => ?_)) <;> (try simp only [dcB] at hc) <;> (try first|contradiction|(exfalso;omega)))|fail
  · have e1 : drN s = ([(0 : Int),1,2,3,6,7,9,10,24,64,97,99,100,720,999999,1000000,1000001,30030].getD (pkV (pkS s 2) 18).toNat 0).toNat := by rw [l18]; unfold drN; rw [if_pos hc]
    have e2 : drQ s = pkS (pkS s 2) 18 := by unfold drQ; rw [if_pos hc]
    rw [e1,e2]
    repeat' first|(apply p3;exact a_litF (dst := some 8) eI [_,_,_,_,_,_,_,_,_,_,_,_,_,_,_,_,_,_] rfl rfl rfl rfl rfl rfl rfl rfl nowR;exact rfl)|(apply p3;(exact pu1);exact rfl)|refine cd ?_|(apply c4 0;exact callK0 (θ := [_]) (hD := (among18_ok (pkS s 2) g1 (by omega)));exact rfl;exact rfl;exact rfl;refine dM ?_)|(apply c4 0;exact callF (hD := (l02Of_ok _ preB240 preB240));exact rfl;exact rfl;exact rfl;refine dM ?_)|fail
    repeat refine cr ?_
    refine ends_id ?_
    refine endK [] (h2 := ?_) (h3 := ?_) (nd := ?_)
    all_goals (repeat' first|exact ce0|refine ce ?_|refine ce2 ?_ ?_|(refine Or.inr (bx_eq rfl rfl ?_);(try dsimp only [C.ren,C.ren.all]);(try exact rfl))|exact SVLe.refl|refine ceb ?_)
    all_goals first | exact (show nodupB _ = true from rfl) | exact Or.inr rfl | (rfl)
  · have e1 : drN s = nv 1000000 (dqM (pkS s 2)) := by unfold drN; rw [if_neg hc]
    have e2 : drQ s = pkS (dqL (pkS s 2)).2 12 := by unfold drQ; rw [if_neg hc]
    have e3 : dqF (1 + pkV (pkS s 2) 5).toNat (pkS (pkS s 2) 5) [] = dqL (pkS s 2) := by unfold dqL; rfl
    have e4 : dqM (pkS s 2) = (dqL (pkS s 2)).1 ++ if pkV (dqL (pkS s 2)).2 12 = 0 then List.replicate (40 - (dqL (pkS s 2)).1.length) 999999 else [] := by unfold dqM; rfl
    rw [e1,e2,e4]
    have b5 := d.b
    have z2 := d.z2
    have g2 := d.g2
    repeat' first|(apply n3;(exact a_litE eI [] rfl rfl rfl rfl rfl rfl rfl rfl);exact rfl;refine dA ?_)|(apply p3;(first|exact pu1|exact a_add rfl rfl (by omega) (by omega));exact rfl)|refine cd ?_|(apply c4 0;exact callK0 (θ := [_]) (hD := (srcPick_ok (pkS s 2) 5 g1 (by omega) (by omega)));exact rfl;exact rfl;exact rfl;refine dM ?_)|fail
    refine g_loop_id ?_
    refine loopK [0,2] [0,1] (fun y : Int × Src × List Int => 0 ≤ y.1 ∧ SrOk y.2.1 ∧ (y.2.1.pl : Int) + 6 * y.1 ≤ 200000 ∧ y.2.2.length + y.1 ≤ 5 ∧ dqF y.1.toNat y.2.1 y.2.2 = dqL (pkS s 2)) (fun y => [(4,.one (int y.1)),(3,.one (.gv 1))]) (fun y => [(0,srB y.2.1),(1,roI y.2.2)]) (fun y => y.1.toNat) (1 + pkV (pkS s 2) 5,pkS (pkS s 2) 5,([] : List Int)) [0,1] (hI := ?_) (hr := ?_)
    · exact ⟨by dsimp only; omega,g2,by dsimp only; omega,by simp; omega,e3⟩
    · rintro ⟨k,u,l⟩ ⟨k0,k1,k2,k3,k4⟩
      dsimp only [List.cons_append,List.nil_append] at *
      skip
      repeat' first|(apply p3;(first|exact pu1|exact puC);exact rfl)|refine cdn ?_|refine g_reg (id := 5) ?_|((refine g_cond rfl (fun hc => ?_) (fun hc => ?_)) <;> (try simp only [dcB] at hc) <;> (try first|contradiction|(exfalso;omega)))|fail
      · have dd := dq_ok k1 (by omega)
        obtain ⟨y1,y2,y3,y4,y5,y6,y7,y8,y9⟩ := dd
        repeat' first|(apply p3;exact a_litF (dst := some 26) eI [_,_,_,_,_,_,_] rfl rfl rfl rfl rfl rfl rfl rfl nowR;exact rfl)|(apply n3;(exact a_litE eI [_] rfl rfl rfl rfl rfl rfl rfl rfl);exact rfl;refine dA ?_)|(apply p3;(first|exact pu1|exact a_mulB rfl rfl (by omega) (by omega) (by omega) (by omega)|exact a_sub rfl rfl (by omega) (by omega));exact rfl)|refine cd ?_|(apply s3;exact a_appE (fP rfl) rfl rfl rfl rfl nowR (by (simp <;> omega)) (by decide) (by decide) (by exact rfl);exact rfl;exact rfl)|(apply c4 0;exact callK0 (θ := [_]) (hD := (srcPick_ok _ _ preB240 preB240 preB240));exact rfl;exact rfl;exact rfl;refine dM ?_)|(apply c4 0;exact callK0 (θ := [_]) (hD := (among7_ok _ _ _ preB240 preB240));exact rfl;exact rfl;exact rfl;refine dM ?_)|fail
        have eS : pkS (pkS (pkS u 1000) 1000) 7 = dqS u := by unfold dqS; rfl
        have eI : [(0 : Int),1,2,999999,500000,pkV u 1000,pkV (pkS u 1000) 1000 * 1000].getD (pkV (pkS (pkS u 1000) 1000) 7).toNat 0 = dqI u := by unfold dqI; rfl
        refine q_again (k - 1,pkS (pkS (pkS u 1000) 1000) 7,l ++ [[(0 : Int),1,2,999999,500000,pkV u 1000,pkV (pkS u 1000) 1000 * 1000].getD (pkV (pkS (pkS u 1000) 1000) 7).toNat 0]) [0,3] (by exact stk) ?_ ?_
        · dsimp only
          rw [eS,eI]
          rw [show k.toNat = (k - 1).toNat + 1 by omega,dqF] at k4
          exact ⟨by omega,y7,by omega,by simp; omega,k4⟩
        · dsimp only; omega
      · rw [show k.toNat = 0 by omega,dqF] at k4
        have g3 := d.g3
        have z3 := d.z3
        have hl5 := d.l
        have hlb := d.h
        rw [← k4] at g3 z3 hl5 hlb ⊢
        dsimp only at g3 z3 hl5 hlb ⊢
        repeat' first|(apply p3;(exact pu1);exact rfl)|refine cd ?_|(apply c4 0;exact callK0 (θ := [_]) (hD := (srcOne_ok u 12 g3 (by omega) (by omega)));exact rfl;exact rfl;exact rfl;refine dM ?_)|((refine g_cond rfl (fun hc => ?_) (fun hc => ?_)) <;> (try simp only [dcB] at hc) <;> (try first|contradiction|(exfalso;omega)))|fail
        · rw [if_pos hc]
          refine g_loop_id ?_
          refine loopK [2] [1] (fun y : List Int => l.length ≤ y.length ∧ y.length ≤ 40 ∧ y = l ++ List.replicate (y.length - l.length) 999999) (fun _ => [(3,.one (.gv 1))]) (fun y => [(1,roI y)]) (fun y => 40 - y.length) l [0,1] (hI := ?_) (hr := ?_)
          · exact ⟨Nat.le_refl _,by omega,by simp⟩
          · rintro y ⟨m0,m1,m2⟩
            dsimp only [List.cons_append,List.nil_append] at *
            skip
            repeat' first|(apply n3;(exact a_litE eI [_] rfl rfl rfl rfl rfl rfl rfl rfl);exact rfl;refine dA ?_)|(apply p3;(first|exact pu1|exact puN|exact puC);exact rfl)|refine cdn ?_|refine g_reg (id := 9) ?_|refine g_reg (id := 10) ?_|(apply s3;exact a_appE (fP rfl) rfl rfl rfl rfl nowR (by (simp <;> omega)) (by decide) (by decide) (by exact rfl);exact rfl;exact rfl)|((refine g_cond rfl (fun hc => ?_) (fun hc => ?_)) <;> (try simp only [dcB] at hc) <;> (try first|contradiction|(exfalso;omega)))|fail
            · refine q_again (y ++ [999999]) [0,3] (by exact stk) ?_ ?_
              · refine ⟨by simp; omega,by simp; omega,?_⟩
                rw [List.length_append,List.length_singleton,show y.length + 1 - l.length = (y.length - l.length) + 1 by omega,List.replicate_succ',← List.append_assoc,← m2]
              · simp; omega
            · have m3 : y = l ++ List.replicate (40 - l.length) 999999 := by
                rw [show y.length - l.length = 40 - l.length by omega] at m2
                exact m2
              have hy : Lb 1000000 y := by
                rw [m3]
                exact lb_app hlb ⟨fun x hx => by have := List.eq_of_mem_replicate hx; omega⟩
              rw [← m3]
              refine g_turn (t_freeze (i := 1) rfl nowR) ?_
              repeat' first|(apply p3;(exact pu1);exact rfl)|refine cd ?_|(apply c4 0;exact callK0 (θ := []) (hD := (l02Trim_ok y (by omega) hy));exact rfl;exact rfl;exact rfl;refine dM ?_)|fail
              repeat refine cr ?_
              refine ends_id ?_
              refine endK [] (h2 := ?_) (h3 := ?_) (nd := ?_)
              all_goals (repeat' first|exact ce0|refine ce ?_|refine ce2 ?_ ?_|(refine Or.inr (bx_eq rfl rfl ?_);(try dsimp only [C.ren,C.ren.all]);(try exact rfl))|exact SVLe.refl|refine ceb ?_)
              all_goals first | exact (show nodupB _ = true from rfl) | exact Or.inr rfl | (rfl)
        · rw [if_neg hc,List.append_nil]
          refine o_turn (t_freeze (i := 1) rfl nowR) ?_
          repeat' first|(apply p3;(exact pu1);exact rfl)|refine cd ?_|(apply c4 0;exact callK0 (θ := []) (hD := (l02Trim_ok l (by omega) hlb));exact rfl;exact rfl;exact rfl;refine dM ?_)|fail
          repeat refine cr ?_
          refine ends_id ?_
          refine endK [] (h2 := ?_) (h3 := ?_) (nd := ?_)
          all_goals (repeat' first|exact ce0|refine ce ?_|refine ce2 ?_ ?_|(refine Or.inr (bx_eq rfl rfl ?_);(try dsimp only [C.ren,C.ren.all]);(try exact rfl))|exact SVLe.refl|refine ceb ?_)
          all_goals first | exact (show nodupB _ = true from rfl) | exact Or.inr rfl | (rfl)
theorem B10Naturals_ok (l : List Int) (g : SrOk ⟨l,0,0⟩) : Does Tryz.prog 23 [.one (shY l)] [] (.tup [(false,[shI (dg 1000000 (drN ⟨l,0,0⟩))]),(false,[shI (dg 1000000 (drN (drQ ⟨l,0,0⟩)))])]) [] := by
  have d := drn_ok g (by dsimp only; omega)
  have dg1 := d.g
  have dz1 := d.z
  have hz : (drQ ⟨l,0,0⟩).pl ≤ 100000 := by dsimp only at dz1; omega
  refine does_of (k := 0) Tryz.func23 rfl Tryz.ntmps23 rfl rfl fun w F0 S0 ρ0 => ?_
  dsimp only [argT,argH]
  repeat' first|(apply p3;exact pu1;exact rfl)|refine cdn ?_|refine g_reg (id := 0) ?_|refine g_reg (id := 1) ?_|(apply c4 1;exact callK0 (θ := []) (hD := (srcFrom_ok l));exact rfl;exact rfl;exact rfl;refine dM ?_)|fail
  repeat' first|(apply p3;exact pu1;exact rfl)|refine cdn ?_|refine g_reg (id := 2) ?_|(apply c4 0;exact callK0 (θ := [_]) (hD := (DrawOk_ok ⟨l,0,0⟩ g (by dsimp only;omega)));exact rfl;exact rfl;exact rfl;refine dM ?_)|fail
  repeat' first|(apply p3;exact pu1;exact rfl)|refine cd ?_|(apply c4 0;exact callK0 (θ := [_]) (hD := (DrawOk_ok (drQ ⟨l,0,0⟩) dg1 hz));exact rfl;exact rfl;exact rfl;refine dM ?_)|fail
  repeat refine cr ?_
  refine ends_id ?_
  refine endK [] (h2 := ?_) (h3 := ?_) (nd := ?_)
  all_goals (repeat' first|exact ce0|refine ce ?_|refine ce2 ?_ ?_|exact SVLe.refl|refine ceb ?_)
  all_goals first | exact (show nodupB _ = true from rfl) | exact Or.inr rfl | (rfl)
end Go.Proofs.YtnkeamihfiobdaaGreatDoor
end
section
set_option linter.unusedVariables false
set_option linter.unusedSimpArgs false
set_option maxRecDepth 100000
set_option maxHeartbeats 1000000
namespace Go.Proofs.YtnkeamihfiobdaaGreatDoor
open Go Foot Go.RowKit
theorem limb_mul {x y : Int} (h0 : 0 ≤ x) (h1 : x < 1000000) (h2 : 0 ≤ y) (h3 : y < 1000000) : 0 ≤ x * y ∧ x * y ≤ 999998000001 := by
  refine ⟨Int.mul_nonneg h0 h2,?_⟩
  have := Int.mul_le_mul (show x ≤ 999999 by omega) (show y ≤ 999999 by omega) h2 (by omega)
  omega
theorem multiply_ok (x y : Nat) (hx : ((dg 1000000 x).length : Int) ≤ 100000) (hy : ((dg 1000000 y).length : Int) ≤ 100000) : Does Tryz.prog 96 [.one (shI (dg 1000000 x)),.one (shI (dg 1000000 y))] [] (.one (shI (dg 1000000 (x * y)))) [] := by
  have ea := nv_dg (b := 1000000) (by decide) x
  have em := nv_dg (b := 1000000) (by decide) y
  have la := dg_lb (b := 1000000) (by decide) x
  have lm := dg_lb (b := 1000000) (by decide) y
  generalize dg 1000000 x = a at *
  generalize dg 1000000 y = m at *
  rw [← ea,← em]
  refine does_of (k := 0) Tryz.func96 rfl Tryz.ntmps96 rfl rfl fun w F0 S0 ρ0 => ?_
  dsimp only [argT,argH]
  repeat' first|(apply n3;exact a_make (fE rfl) (fZ rfl) (fP rfl) (by decide) rfl rfl (by omega) rfl (by omega) (by omega) (rows_rep eI 0 _);exact rfl;refine dA ?_)|(apply p3;(first|exact pu1|exact puN|exact a_add rfl rfl (by omega) (by omega));exact rfl)|refine cd ?_|fail
  refine g_loop_id ?_
  refine loopK [1,4,16,17] [0] (fun y : Int × List Int => 0 ≤ y.1 ∧ y.1 ≤ a.length ∧ y.2.length = a.length + m.length ∧ Lb 1000000 y.2 ∧ nv 1000000 y.2 = nv 1000000 (a.take y.1.toNat) * nv 1000000 m) (fun y => [(18,.one (int y.1)),(5,.one (.gv 0))]) (fun y => [(0,roI y.2)]) (fun y => (a.length - y.1).toNat) ((0 : Int),List.replicate (a.length + m.length) (0 : Int)) [0] (hI := ?_) (hr := ?_)
  · exact ⟨by simp,by simp,by simp,lb_zeros (by decide) _,by simp [nv_rep,nv_nil]⟩
  · rintro ⟨i,o⟩ ⟨j0,j1,j2,j3,j4⟩
    dsimp only [List.cons_append,List.nil_append] at *
    skip
    repeat' first|(apply p3;(first|exact pu1|exact puC|exact puI);exact rfl)|refine cd ?_|((refine g_cond rfl (fun hc => ?_) (fun hc => ?_)) <;> (try simp only [dcB] at hc) <;> (try first|contradiction|(exfalso;omega)))|fail
    · have hi : i.toNat < a.length := by omega
      have hx := la.h _ (List.getElem_mem hi)
      refine g_loop_id ?_
      refine loopK [1,4,6,7,16,17,18] [0] (fun z : Int × Int × List Int => 0 ≤ z.1 ∧ z.1 ≤ m.length + 1 ∧ 0 ≤ z.2.1 ∧ z.2.1 ≤ 999999 ∧ z.2.2.length = a.length + m.length ∧ Lb 1000000 z.2.2 ∧ nv 1000000 z.2.2 + 1000000 ^ (i.toNat + z.1.toNat) * z.2.1.toNat = nv 1000000 (a.take i.toNat) * nv 1000000 m + 1000000 ^ i.toNat * (a[i.toNat].toNat * nv 1000000 (m.take z.1.toNat))) (fun z => [(9,.one (int z.1)),(8,.one (int z.2.1)),(5,.one (.gv 0))]) (fun z => [(0,roI z.2.2)]) (fun z => (m.length + 1 - z.1).toNat) ((0 : Int),(0 : Int),o) [0] (hI := ?_) (hr := ?_)
      · exact ⟨by simp,by simp; omega,by simp,by simp,j2,j3,by simp [j4,nv_nil]⟩
      · rintro ⟨k,c,q⟩ ⟨k0,k1,k2,k3,k4,k5,k6⟩
        dsimp only [List.cons_append,List.nil_append] at *
        skip
        repeat' first|(apply p3;(first|exact pu1|exact puN|exact puC|exact a_add rfl rfl (by omega) (by omega));exact rfl)|refine cdn ?_|refine g_reg (id := 7) ?_|refine g_reg (id := 14) ?_|refine o_no rfl rfl rfl rfl ?_|(apply py3;exact rfl;exact rfl;(first|exact pu1|exact puC);exact rfl;exact rfl)|((first|refine o_gs rfl rfl (fun hc => ?_) (fun hc => ?_)|refine g_cond rfl (fun hc => ?_) (fun hc => ?_)) <;> (try simp only [dcB] at hc) <;> (try first|contradiction|(exfalso;omega)))|fail
        · have hk : k.toNat < m.length := by omega
          have hp : (i + k).toNat < q.length := by omega
          have hm := lm.h _ (List.getElem_mem hk)
          have hq := k5.h _ (List.getElem_mem hp)
          have hxm := limb_mul hx.1 hx.2 hm.1 hm.2
          repeat' first|(apply p3;(first|exact pu1|exact puL|exact puN|exact puC|exact a_add rfl rfl (by omega) (by omega)|exact a_mulB rfl rfl (by omega) (by omega) (by omega) (by omega)|exact a_rem rfl rfl (by omega) (by omega) (by omega)|exact a_quo rfl rfl (by omega) (by omega) (by omega)|exact puI);exact rfl)|refine cd ?_|(apply w3;(exact a_st_rowI rfl rfl rfl rfl (fN rfl rfl) bnd);exact rfl;refine dS ?_)|((refine g_cond rfl (fun hc => ?_) (fun hc => ?_)) <;> (try simp only [dcB] at hc) <;> (try first|contradiction|(exfalso;omega)))|fail
          refine q_again (k + 1,(c + q[(i + k).toNat]'hp + a[i.toNat]'hi * m[k.toNat]'hk) / 1000000,q.set (i + k).toNat ((c + q[(i + k).toNat]'hp + a[i.toNat]'hi * m[k.toNat]'hk) % 1000000)) [0] (by exact stk) ?_ ?_
          · have hik : (i + k).toNat = i.toNat + k.toNat := by omega
            refine ⟨by dsimp only; omega,by dsimp only; omega,by dsimp only; omega,by dsimp only; omega,by simpa using k4,lb_set k5 (by omega) (by omega),?_⟩
            dsimp only
            rw [show (k + 1).toNat = k.toNat + 1 by omega]
            simp only [hik] at hq ⊢
            exact mul_in (b := 1000000) hx.1 k2 hk (by omega) hq.1 hm.1 k6
          · dsimp only; omega
        · have k7 := k6
          rw [List.take_of_length_le (l := m) (by omega),mul_next hi] at k7
          have hkm := mul_room (b := 1000000) (by decide) la lm hi hc (by omega) k7
          have hp : (i + k).toNat < q.length := by omega
          have hq := k5.h _ (List.getElem_mem hp)
          repeat' first|(apply p3;(first|exact pu1|exact puL|exact puN|exact puC|exact a_add rfl rfl (by omega) (by omega)|exact a_rem rfl rfl (by omega) (by omega) (by omega)|exact a_quo rfl rfl (by omega) (by omega) (by omega)|exact puI);exact rfl)|refine cd ?_|(apply w3;(exact a_st_rowI rfl rfl rfl rfl (fN rfl rfl) bnd);exact rfl;refine dS ?_)|((refine g_cond rfl (fun hc => ?_) (fun hc => ?_)) <;> (try simp only [dcB] at hc) <;> (try first|contradiction|(exfalso;omega)))|fail
          refine q_again (k + 1,(c + q[(i + k).toNat]'hp) / 1000000,q.set (i + k).toNat ((c + q[(i + k).toNat]'hp) % 1000000)) [0] (by exact stk) ?_ ?_
          · have hik : (i + k).toNat = i.toNat + k.toNat := by omega
            refine ⟨by dsimp only; omega,by dsimp only; omega,by dsimp only; omega,by dsimp only; omega,by simpa using k4,lb_set k5 (by omega) (by omega),?_⟩
            dsimp only
            rw [show (k + 1).toNat = k.toNat + 1 by omega,List.take_of_length_le (l := m) (by omega),mul_next hi]
            simp only [hik] at hq ⊢
            exact mul_out (b := 1000000) k2 (by omega) hq.1 k7
          · dsimp only; omega
        · refine q_again (i + 1,q) [0] (by exact stk) ?_ ?_
          · have hc0 : c = 0 := by omega
            rw [List.take_of_length_le (l := m) (by omega),mul_next hi,hc0] at k6
            refine ⟨by dsimp only; omega,by dsimp only; omega,k4,k5,?_⟩
            dsimp only
            rw [show (i + 1).toNat = i.toNat + 1 by omega]
            simpa using k6
          · dsimp only; omega
    · rw [List.take_of_length_le (by omega)] at j4
      rw [← j4]
      refine o_turn (t_freeze (i := 0) rfl nowR) ?_
      repeat' first|(apply p3;(exact pu1);exact rfl)|refine cd ?_|(apply c4 0;exact callK0 (θ := []) (hD := (trimmed_ok o (by omega) j3));exact rfl;exact rfl;exact rfl;refine dM ?_)|fail
      repeat refine cr ?_
      refine ends_id ?_
      refine endK [] (h2 := ?_) (h3 := ?_) (nd := ?_)
      all_goals (repeat' first|exact ce0|refine ce ?_|refine ce2 ?_ ?_|exact SVLe.refl|refine ceb ?_)
      all_goals first | exact (show nodupB _ = true from rfl) | exact Or.inr rfl | (rfl)
theorem add_ok (x y : Nat) (hx : ((dg 1000000 x).length : Int) ≤ 10000) (hy : ((dg 1000000 y).length : Int) ≤ 10000) : Does Tryz.prog 97 [.one (shI (dg 1000000 x)),.one (shI (dg 1000000 y))] [] (.one (shI (dg 1000000 (x + y)))) [] := by
  have ea := nv_dg (b := 1000000) (by decide) x
  have em := nv_dg (b := 1000000) (by decide) y
  have la := dg_lb (b := 1000000) (by decide) x
  have lm := dg_lb (b := 1000000) (by decide) y
  generalize dg 1000000 x = a at *
  generalize dg 1000000 y = m at *
  rw [← ea,← em]
  refine does_of (k := 0) Tryz.func97 rfl Tryz.ntmps97 rfl rfl fun w F0 S0 ρ0 => ?_
  dsimp only [argT,argH]
  repeat' first|(apply n3;exact a_make (fE rfl) (fZ rfl) (fP rfl) (by decide) rfl rfl (by omega) rfl (by omega) (by omega) (rows_rep eI 0 _);exact rfl;refine dA ?_)|(apply p3;(first|exact pu1|exact puN|exact a_max rfl rfl);exact rfl)|refine cd ?_|(apply c4 0;exact a_copyV rfl rfl rfl rfl (fS rfl) rfl nowR rfl (by exact rfl) (by exact rfl);exact rfl;exact rfl;exact rfl;refine dM ?_)|fail
  generalize hM : (if (m.length : Int) > (a.length : Int) then (m.length : Int) else (a.length : Int)).toNat = M
  have h1 : a.length ≤ M ∧ m.length ≤ M ∧ M ≤ 10000 := by rw [← hM]; split <;> omega
  have eL : List.take (a.length.min (List.replicate M (0 : Int)).length) a ++ List.drop (a.length.min (List.replicate M (0 : Int)).length) (List.replicate M (0 : Int)) = a ++ List.replicate (M - a.length) 0 := by
    rw [List.length_replicate,show a.length.min M = a.length from Nat.min_eq_left h1.1,List.take_length,List.drop_replicate]
  rw [eL]
  refine g_loop_id ?_
  refine loopK [4,17,18] [0] (fun y : Int × List Int => 0 ≤ y.1 ∧ y.1 ≤ m.length ∧ y.2.length = M ∧ (∀ x ∈ y.2,0 ≤ x ∧ x ≤ 1999998) ∧ (∀ x ∈ y.2.drop y.1.toNat,x ≤ 999999) ∧ nv 1000000 y.2 = nv 1000000 a + nv 1000000 (m.take y.1.toNat)) (fun y => [(19,.one (int y.1)),(5,.one (.gv 0))]) (fun y => [(0,roI y.2)]) (fun y => (m.length - y.1).toNat) ((0 : Int),a ++ List.replicate (M - a.length) (0 : Int)) [0] (hI := ?_) (hr := ?_)
  · have hb := lb_app la (lb_zeros (b := 1000000) (by decide) (M - a.length))
    refine ⟨by simp,by simp,by simp; omega,fun x hx => by have := hb.h x hx; omega,fun x hx => by have := hb.h x (List.mem_of_mem_drop hx); omega,?_⟩
    dsimp only
    rw [nv_app,nv_rep]
    simp [nv_nil]
  · rintro ⟨i,s⟩ ⟨j0,j1,j2,j3,j4,j5⟩
    dsimp only [List.cons_append,List.nil_append] at *
    skip
    repeat' first|(apply p3;(first|exact pu1|exact puC);exact rfl)|refine cdn ?_|refine g_reg (id := 4) ?_|refine g_reg (id := 8) ?_|((refine g_cond rfl (fun hc => ?_) (fun hc => ?_)) <;> (try simp only [dcB] at hc) <;> (try first|contradiction|(exfalso;omega)))|fail
    · have hi : i.toNat < m.length := by omega
      have hs : i.toNat < s.length := by omega
      have hx := lm.h _ (List.getElem_mem hi)
      have hy := j3 _ (List.getElem_mem hs)
      have hz := j4 s[i.toNat] (by rw [List.drop_eq_getElem_cons hs]; exact List.mem_cons_self)
      repeat' first|(apply p3;(first|exact pu1|exact puL|exact a_add rfl rfl (by omega) (by omega)|exact puI);exact rfl)|refine cd ?_|(apply w3;(exact a_st_rowI rfl rfl rfl rfl (fN rfl rfl) bnd);exact rfl;refine dS ?_)|fail
      refine q_again (i + 1,s.set i.toNat (s[i.toNat]'hs + m[i.toNat]'hi)) [0] (by exact stk) ?_ ?_
      · have e1 := nv_set 1000000 hs (s[i.toNat]'hs + m[i.toNat]'hi)
        refine ⟨by dsimp only; omega,by dsimp only; omega,by simpa using j2,fun x hx => ?_,fun x hx => ?_,?_⟩
        · rcases List.mem_or_eq_of_mem_set hx with h | h
          · exact j3 x h
          · omega
        · dsimp only at hx
          rw [List.drop_set_of_lt (by omega)] at hx
          exact j4 x (by rw [List.drop_eq_getElem_cons hs,show i.toNat + 1 = (i + 1).toNat by omega]; exact List.mem_cons_of_mem _ hx)
        · dsimp only
          rw [show (i + 1).toNat = i.toNat + 1 by omega,nv_take_s _ hi]
          rw [show (s[i.toNat] + m[i.toNat]).toNat = s[i.toNat].toNat + m[i.toNat].toNat by omega,Nat.mul_add] at e1
          omega
      · dsimp only; omega
    · rw [List.take_of_length_le (by omega)] at j5
      rw [← j5]
      refine o_turn (t_freeze (i := 0) rfl nowR) ?_
      repeat' first|(apply p3;(exact pu1);exact rfl)|refine cd ?_|(apply c4 0;exact callK0 (θ := []) (hD := (carried_ok s (by omega) (fun x hx => by have := j3 x hx;omega)));exact rfl;exact rfl;exact rfl;refine dM ?_)|fail
      repeat refine cr ?_
      refine ends_id ?_
      refine endK [] (h2 := ?_) (h3 := ?_) (nd := ?_)
      all_goals (repeat' first|exact ce0|refine ce ?_|refine ce2 ?_ ?_|exact SVLe.refl|refine ceb ?_)
      all_goals first | exact (show nodupB _ = true from rfl) | exact Or.inr rfl | (rfl)
abbrev nlS : C := .d (.sc (.slice none 0 0))
theorem limited_ok (x : Nat) (hx : (dg 1000000 x).length ≤ 40) : Does Tryz.prog 85 [.one (shI (dg 1000000 x))] [] (.tup [(false,[shI (dg 1000000 x)]),(false,[int 0])]) [] := by
  refine does_of (k := 0) Tryz.func85 rfl Tryz.ntmps85 rfl rfl fun w F0 S0 ρ0 => ?_
  dsimp only [argT,argH]
  repeat' first|(apply p3;(first|exact pu1|exact puN|exact puC);exact rfl)|refine cd ?_|((refine g_cond rfl (fun hc => ?_) (fun hc => ?_)) <;> (try simp only [dcB] at hc) <;> (try first|contradiction|(exfalso;omega)))|fail
  all_goals first | (exfalso; omega) | skip
  repeat refine cr ?_
  refine ends_id ?_
  refine endK [] (h2 := ?_) (h3 := ?_) (nd := ?_)
  all_goals (repeat' first|exact ce0|refine ce ?_|refine ce2 ?_ ?_|exact SVLe.refl|refine ceb ?_)
  all_goals first | exact (show nodupB _ = true from rfl) | exact Or.inr rfl | (rfl)
theorem limitedN_ok (x : Nat) (hx : ((dg 1000000 x).length : Int) ≤ 100000) (hn : 40 < (dg 1000000 x).length) : Does Tryz.prog 85 [.one (shI (dg 1000000 x))] [] (.tup [(false,[nlS]),(false,[int 5])]) [] := by
  refine does_of (k := 0) Tryz.func85 rfl Tryz.ntmps85 rfl rfl fun w F0 S0 ρ0 => ?_
  dsimp only [argT,argH]
  repeat' first|(apply p3;(first|exact pu1|exact puN|exact puC);exact rfl)|refine cd ?_|((refine g_cond rfl (fun hc => ?_) (fun hc => ?_)) <;> (try simp only [dcB] at hc) <;> (try first|contradiction|(exfalso;omega)))|fail
  all_goals first | (exfalso; omega) | skip
  repeat refine cr ?_
  refine ends_id ?_
  refine endK [] (h2 := ?_) (h3 := ?_) (nd := ?_)
  all_goals (repeat' first|exact ce0|refine ce ?_|refine ce2 ?_ ?_|exact SVLe.refl|refine ceb ?_)
  all_goals first | exact (show nodupB _ = true from rfl) | exact Or.inr rfl | (rfl)
theorem dg_lenB {b : Nat} {l : List Int} (h1 : 2 ≤ b) (h2 : b ≤ 1000000) (h : Lb b l) {z : Nat} (hz : z ≤ nv b l) : (dg 1000000 z).length ≤ l.length :=
  dg_le (by decide) (Nat.lt_of_le_of_lt hz (Nat.lt_of_lt_of_le (nv_lt h) (Nat.pow_le_pow_left h2 _)))
theorem fromDigits_ok (l : List Int) (b : Int) (h0 : 2 ≤ b) (h1 : b ≤ 1000000) (hx : (l.length : Int) ≤ 800) (hl : Lb b.toNat l) : Does Tryz.prog 86 [.one (shI l),.one (int b)] [] (.one (shI (dg 1000000 (nv b.toNat l)))) [] := by
  refine does_of (k := 0) Tryz.func86 rfl Tryz.ntmps86 rfl rfl fun w F0 S0 ρ0 => ?_
  dsimp only [argT,argH]
  repeat' first|(apply n3;exact a_litE eI [] rfl rfl rfl rfl rfl rfl rfl rfl;exact rfl;refine dA ?_)|(apply p3;(first|exact pu1|exact puN|exact a_sub rfl rfl (by omega) (by omega));exact rfl)|refine cd ?_|fail
  refine g_turn (t_freeze (i := 0) rfl nowR) ?_
  refine g_loop_id ?_
  refine loopK [0,1,4] [] (fun y : Int × List Int => -1 ≤ y.1 ∧ y.1 < l.length ∧ y.2 = dg 1000000 (nv b.toNat (l.drop (y.1 + 1).toNat))) (fun y => [(6,.one (int y.1)),(5,.one (shI y.2))]) (fun _ => []) (fun y => (y.1 + 1).toNat) (((l.length : Int) - 1),([] : List Int)) [0] (hI := ?_) (hr := ?_)
  · refine ⟨by dsimp only; omega,by dsimp only; omega,?_⟩
    dsimp only
    rw [List.drop_eq_nil_of_le (by omega),nv_nil,dg_0]
  · rintro ⟨i,q⟩ ⟨j0,j1,j2⟩
    dsimp only [List.cons_append,List.nil_append] at *
    skip
    repeat' first|(apply p3;(first|exact pu1|exact puC);exact rfl)|refine cdn ?_|refine g_reg (id := 3) ?_|refine g_reg (id := 6) ?_|((refine g_cond rfl (fun hc => ?_) (fun hc => ?_)) <;> (try simp only [dcB] at hc) <;> (try first|contradiction|(exfalso;omega)))|fail
    · have hi : i.toNat < l.length := by omega
      have hli := hl.h _ (List.getElem_mem hi)
      have hh := horner (b := b.toNat) hi
      have hsub : Lb b.toNat (l.drop i.toNat) := ⟨fun x hx => hl.h x (List.mem_of_mem_drop hx)⟩
      have hll : (l.drop i.toNat).length ≤ 800 := by rw [List.length_drop]; omega
      have b1 := dg_lenB (by omega) (by omega) hsub (z := nv b.toNat (l.drop (i.toNat + 1))) (by
        have := Nat.mul_le_mul_left (nv b.toNat (l.drop (i.toNat + 1))) (show 1 ≤ b.toNat by omega)
        omega)
      have b2 := dg_lenB (by omega) (by omega) hsub (z := nv b.toNat (l.drop (i.toNat + 1)) * b.toNat) (by omega)
      have b3 : (dg 1000000 b.toNat).length ≤ 2 := dg_le (by decide) (by simp; omega)
      have b4 : (dg 1000000 (l[i.toNat]'hi).toNat).length ≤ 2 := dg_le (by decide) (by simp; omega)
      rw [show (i + 1).toNat = i.toNat + 1 by omega] at j2
      generalize nv b.toNat (l.drop (i.toNat + 1)) = z at *
      subst j2
      repeat' first|(apply p3;(first|exact pu1|exact a_sub rfl rfl (by omega) (by omega));exact rfl)|refine cd ?_|(apply g_drN (id := 5) okM [[],[],[1],[0,1,2],[],[],[4,5],[4,5,6],[0,1,2,3,4,5,6,7],[0,1,2,3,4,5,6,7,8],[0,1,2,3,4,5,6,7,8,9]] [([],[]),([],[]),([],[]),([],[]),([],[]),([],[]),([],[]),([],[]),([],[]),([],[]),([],[])] 0;(focus (refine dp 0 0 [16,17,19,20,21,22] [] pu1 ?_;refine dp 1 0 [15,19,20,21,22] [] pu1 ?_;refine dp 2 1 [15,19,20,21,22] [] (by exact callD0 (n := _) 0 (θ := []) (hD := (naturalOf_ok b (by omega) (by omega)))) ?_;refine dp 3 7 [19,20,21,22] [] (callD0 (n := _) 0 (θ := []) (hD := (multiply_ok z b.toNat (by omega) (by omega)))) ?_;refine dp 4 0 [15,16,17,18,20] [] pu1 ?_;refine dp 5 0 [15,16,17,18,19] [] pu1 ?_;refine dp 6 3 [15,16,17,18] [] puI ?_;refine dp 7 7 [15,16,17,18] [] puL ?_;refine dp 8 255 [] [] (by exact callD0 (n := _) 0 (θ := []) (hD := (naturalOf_ok (l[i.toNat]'hi) hli.1 (by omega)))) ?_;refine dp 9 511 [] [] (callD0 (n := _) 0 (θ := []) (hD := (add_ok (z * b.toNat) (l[i.toNat]'hi).toNat (by omega) (by omega)))) ?_;refine dp 10 1023 [] [] pu1 ?_;(refine d_nil ?_;refine dN ?_)));any_goals kernel_rfl)|fail
      refine q_again (i - 1,dg 1000000 (z * b.toNat + (l[i.toNat]'hi).toNat)) [0] (by exact stk) ?_ ?_
      · refine ⟨by dsimp only; omega,by dsimp only; omega,?_⟩
        dsimp only
        rw [show (i - 1 + 1).toNat = i.toNat by omega,hh]
      · dsimp only; omega
    · rw [show (i + 1).toNat = 0 by omega,List.drop_zero] at j2
      rw [← j2]
      repeat refine cr ?_
      refine ends_id ?_
      refine endK [] (h2 := ?_) (h3 := ?_) (nd := ?_)
      all_goals (repeat' first|exact ce0|refine ce ?_|refine ce2 ?_ ?_|exact SVLe.refl|refine ceb ?_)
      all_goals first | exact (show nodupB _ = true from rfl) | exact Or.inr rfl | (rfl)
end Go.Proofs.YtnkeamihfiobdaaGreatDoor
end
section
set_option linter.unusedVariables false
set_option linter.unusedSimpArgs false
set_option maxRecDepth 100000
set_option maxHeartbeats 1000000
namespace Go.Proofs.YtnkeamihfiobdaaGreatDoor
open Go Foot Go.RowKit
theorem preB238 {p : Prop} (h : p := by first | with_reducible assumption | omega | (simp only [List.length_append,List.length_cons,List.length_nil,List.length_set,List.length_replicate,List.length_take,List.length_drop,List.length_tail,List.length_dropLast,List.length_reverse] at *; omega) | exact mem_len (by assumption) (by omega) | (with_reducible refine Int.le_trans (Int.ofNat_le.2 (trimR_len _)) ?_; simp only [List.length_cons,List.length_tail]; omega) | (exact (ruAt_ok (by assumption) (by assumption) (by assumption)).2.1) | (exact (ruAt_ok (by assumption) (by assumption) (by assumption)).2.1) | (have := vMach_bd (by assumption); omega) | (simp only [List.length_append,List.length_cons,List.length_nil,repW_len,seN_len] at *; omega) | (simp only [mC_ch,mC_tu]; omega) | (have := vTag_bd (by assumption); omega) | (have := (‹Gd _ _›).le; omega) | (exact tgHalts_no (by assumption)) | (exact tgHead (by assumption) (by assumption) (by assumption)) | (exact Int.le_trans (tgStep_gd (by assumption) (by assumption) (by assumption) (by assumption)).le (by decide)) | (exact vTag_r (by assumption)) | (with_reducible refine Int.le_trans (Int.ofNat_le.2 (pushL_len _ _)) ?_; simp only [List.length_dropLast]; omega) | exact ls_at (by assumption) (by omega) | exact pt_gd (by assumption) | exact lv_at (by assumption) (by omega) | exact pt_gd (lv_at (by assumption) (by omega)) | exact (ask_ok (by assumption)).1 | exact (ask_ok (by assumption)).2.1 | exact (ask_ok (by assumption)).2.2.1 | exact (ask_ok (by assumption)).2.2.2 | trivial) : p := h
theorem compareNaturals_ok (x y : Nat) (hx : ((dg 1000000 x).length : Int) ≤ 100000) (hy : ((dg 1000000 y).length : Int) ≤ 100000) : Does Tryz.prog 169 [.one (shI (dg 1000000 x)),.one (shI (dg 1000000 y))] [] (.one (int (cmpN x y))) [] := by
  have c1 := cmp_len (b := 1000000) (by decide) (x := x) (y := y)
  have c2 := cmp_at (b := 1000000) (by decide) (x := x) (y := y)
  have c3 := cmp_eq (b := 1000000) (by decide) (x := x) (y := y)
  refine does_of (k := 0) Tryz.func169 rfl Tryz.ntmps169 rfl rfl fun w F0 S0 ρ0 => ?_
  dsimp only [argT,argH]
  repeat' first|(apply p3;(first|exact pu1|exact puN|exact a_ne rfl rfl|exact puC|exact a_sub rfl rfl (by omega) (by omega));exact rfl)|refine cd ?_|((refine g_cond rfl (fun hc => ?_) (fun hc => ?_)) <;> (try simp only [dcB] at hc) <;> (try first|contradiction|(exfalso;omega)))|fail
  · repeat refine cr ?_
    refine ends_id ?_
    refine endK [] (h2 := ?_) (h3 := ?_) (nd := ?_)
    all_goals (repeat' first|exact ce0|refine ce ?_|refine ce2 ?_ ?_|exact SVLe.refl|refine ceb ?_)
    all_goals first | exact (show nodupB _ = true from rfl) | exact Or.inr rfl | ((rw [c1 (by omega),if_pos (by omega)]))
  · repeat refine cr ?_
    refine ends_id ?_
    refine endK [] (h2 := ?_) (h3 := ?_) (nd := ?_)
    all_goals (repeat' first|exact ce0|refine ce ?_|refine ce2 ?_ ?_|exact SVLe.refl|refine ceb ?_)
    all_goals first | exact (show nodupB _ = true from rfl) | exact Or.inr rfl | ((rw [c1 (by omega),if_neg (by omega)]))
  · have he : (dg 1000000 x).length = (dg 1000000 y).length := by omega
    refine g_loop_id ?_
    refine loopK [0,1,4] [] (fun i : Int => -1 ≤ i ∧ i < (dg 1000000 x).length ∧ (dg 1000000 x).drop (i + 1).toNat = (dg 1000000 y).drop (i + 1).toNat) (fun i => [(5,.one (int i))]) (fun _ => []) (fun i => (i + 1).toNat) (((dg 1000000 x).length : Int) - 1) [] (hI := ?_) (hr := ?_)
    · exact ⟨by omega,by omega,by rw [List.drop_eq_nil_of_le (by omega),List.drop_eq_nil_of_le (by omega)]⟩
    · rintro i ⟨h0,h1,h2⟩
      dsimp only [List.cons_append,List.nil_append] at *
      skip
      repeat' first|(apply p3;(first|exact pu1|exact puC|exact a_sub rfl rfl (by omega) (by omega));exact rfl)|refine cd ?_|(apply g_drN (id := 8) okM [[],[],[0,1],[0,1,2],[],[],[4,5],[4,5,6],[0,1,2,3,4,5,6,7]] [([],[]),([],[]),([],[]),([],[]),([],[]),([],[]),([],[]),([],[]),([],[])] 0;(focus (refine dp 0 0 [24,27,28,29,30] [] pu1 ?_;refine dp 1 0 [23,27,28,29,30] [] pu1 ?_;refine dp 2 3 [27,28,29,30] [] puI ?_;refine dp 3 7 [27,28,29,30] [] puL ?_;refine dp 4 0 [23,24,25,26,28] [] pu1 ?_;refine dp 5 0 [23,24,25,26,27] [] pu1 ?_;refine dp 6 3 [23,24,25,26] [] puI ?_;refine dp 7 7 [23,24,25,26] [] puL ?_;refine dp 8 255 [] [] (by exact a_ne rfl rfl) ?_;(refine d_nil ?_;refine dN ?_)));any_goals kernel_rfl)|(apply g_drN (id := 9) okM [[],[],[0,1],[0,1,2],[],[],[4,5],[4,5,6],[0,1,2,3,4,5,6,7]] [([],[]),([],[]),([],[]),([],[]),([],[]),([],[]),([],[]),([],[]),([],[])] 0;(focus (refine dp 0 0 [33,36,37,38,39] [] pu1 ?_;refine dp 1 0 [32,36,37,38,39] [] pu1 ?_;refine dp 2 3 [36,37,38,39] [] puI ?_;refine dp 3 7 [36,37,38,39] [] puL ?_;refine dp 4 0 [32,33,34,35,37] [] pu1 ?_;refine dp 5 0 [32,33,34,35,36] [] pu1 ?_;refine dp 6 3 [32,33,34,35] [] puI ?_;refine dp 7 7 [32,33,34,35] [] puL ?_;refine dp 8 255 [] [] puC ?_;(refine d_nil ?_;refine dN ?_)));any_goals kernel_rfl)|((refine g_cond rfl (fun hc => ?_) (fun hc => ?_)) <;> (try simp only [dcB] at hc) <;> (try first|contradiction|(exfalso;omega)))|fail
      · have e := c2 he (i := i.toNat) (by omega) (by rw [show i.toNat + 1 = (i + 1).toNat by omega]; exact h2) (by assumption)
        rw [if_pos hc] at e
        rw [e]
        repeat refine cr ?_
        refine ends_id ?_
        refine endK [] (h2 := ?_) (h3 := ?_) (nd := ?_)
        all_goals (repeat' first|exact ce0|refine ce ?_|refine ce2 ?_ ?_|exact SVLe.refl|refine ceb ?_)
        all_goals first | exact (show nodupB _ = true from rfl) | exact Or.inr rfl | (rfl)
      · have e := c2 he (i := i.toNat) (by omega) (by rw [show i.toNat + 1 = (i + 1).toNat by omega]; exact h2) (by assumption)
        rw [if_neg hc] at e
        rw [e]
        repeat refine cr ?_
        refine ends_id ?_
        refine endK [] (h2 := ?_) (h3 := ?_) (nd := ?_)
        all_goals (repeat' first|exact ce0|refine ce ?_|refine ce2 ?_ ?_|exact SVLe.refl|refine ceb ?_)
        all_goals first | exact (show nodupB _ = true from rfl) | exact Or.inr rfl | (rfl)
      · refine q_again (i - 1) [] (by exact stk) ?_ ?_
        · refine ⟨by omega,by omega,?_⟩
          rw [show (i - 1 + 1).toNat = i.toNat by omega,List.drop_eq_getElem_cons (show i.toNat < (dg 1000000 x).length by omega),List.drop_eq_getElem_cons (show i.toNat < (dg 1000000 y).length by omega),show i.toNat + 1 = (i + 1).toNat by omega,h2,hc]
        · omega
      · rw [show (i + 1).toNat = 0 by omega,List.drop_zero,List.drop_zero] at h2
        rw [c3 h2]
        repeat refine cr ?_
        refine ends_id ?_
        refine endK [] (h2 := ?_) (h3 := ?_) (nd := ?_)
        all_goals (repeat' first|exact ce0|refine ce ?_|refine ce2 ?_ ?_|exact SVLe.refl|refine ceb ?_)
        all_goals first | exact (show nodupB _ = true from rfl) | exact Or.inr rfl | (rfl)
theorem b10Less_ok (x y : Nat) (hx : ((dg 1000000 x).length : Int) ≤ 100000) (hy : ((dg 1000000 y).length : Int) ≤ 100000) : Does Tryz.prog 33 [.one (shI (dg 1000000 x)),.one (shI (dg 1000000 y))] [] (.one (boo (decide (x < y)))) [] := by
  have c1 := cmp_len (b := 1000000) (by decide) (x := x) (y := y)
  have c2 := cmp_at (b := 1000000) (by decide) (x := x) (y := y)
  have c3 := cmp_eq (b := 1000000) (by decide) (x := x) (y := y)
  have cl : decide (x < y) = decide (cmpN x y = -1) := by
    unfold cmpN
    by_cases h : x < y
    · rw [decide_eq_true h,if_pos h]; rfl
    · rw [decide_eq_false h,if_neg h]
      split <;> rfl
  rw [cl]
  clear cl
  refine does_of (k := 0) Tryz.func33 rfl Tryz.ntmps33 rfl rfl fun w F0 S0 ρ0 => ?_
  dsimp only [argT,argH]
  repeat' first|(apply p3;(first|exact pu1|exact puN|exact a_ne rfl rfl|exact puC|exact a_sub rfl rfl (by omega) (by omega));exact rfl)|refine cd ?_|((refine g_cond rfl (fun hc => ?_) (fun hc => ?_)) <;> (try simp only [dcB] at hc) <;> (try first|contradiction|(exfalso;omega)))|fail
  · have e := c1 (by omega)
    have e2 : decide (cmpN x y = -1) = decide (((dg 1000000 x).length : Int) < ((dg 1000000 y).length : Int)) := by
      rw [e]
      by_cases h : (dg 1000000 x).length < (dg 1000000 y).length
      · rw [if_pos h,decide_eq_true (show ((dg 1000000 x).length : Int) < ((dg 1000000 y).length : Int) by omega)]; rfl
      · rw [if_neg h,decide_eq_false (show ¬ ((dg 1000000 x).length : Int) < ((dg 1000000 y).length : Int) by omega)]; rfl
    rw [e2]
    repeat refine cr ?_
    refine ends_id ?_
    refine endK [] (h2 := ?_) (h3 := ?_) (nd := ?_)
    all_goals (repeat' first|exact ce0|refine ce ?_|refine ce2 ?_ ?_|exact SVLe.refl|refine ceb ?_)
    all_goals first | exact (show nodupB _ = true from rfl) | exact Or.inr rfl | (rfl)
  · have he : (dg 1000000 x).length = (dg 1000000 y).length := by omega
    refine g_loop_id ?_
    refine loopK [0,1,4] [] (fun i : Int => -1 ≤ i ∧ i < (dg 1000000 x).length ∧ (dg 1000000 x).drop (i + 1).toNat = (dg 1000000 y).drop (i + 1).toNat) (fun i => [(5,.one (int i))]) (fun _ => []) (fun i => (i + 1).toNat) (((dg 1000000 x).length : Int) - 1) [] (hI := ?_) (hr := ?_)
    · exact ⟨by omega,by omega,by rw [List.drop_eq_nil_of_le (by omega),List.drop_eq_nil_of_le (by omega)]⟩
    · rintro i ⟨h0,h1,h2⟩
      dsimp only [List.cons_append,List.nil_append] at *
      skip
      repeat' first|(apply p3;(first|exact pu1|exact puC|exact a_sub rfl rfl (by omega) (by omega));exact rfl)|refine cd ?_|(apply g_drN (id := 6) okM [[],[],[0,1],[0,1,2],[],[],[4,5],[4,5,6],[0,1,2,3,4,5,6,7]] [([],[]),([],[]),([],[]),([],[]),([],[]),([],[]),([],[]),([],[]),([],[])] 0;(focus (refine dp 0 0 [24,27,28,29,30] [] pu1 ?_;refine dp 1 0 [23,27,28,29,30] [] pu1 ?_;refine dp 2 3 [27,28,29,30] [] puI ?_;refine dp 3 7 [27,28,29,30] [] puL ?_;refine dp 4 0 [23,24,25,26,28] [] pu1 ?_;refine dp 5 0 [23,24,25,26,27] [] pu1 ?_;refine dp 6 3 [23,24,25,26] [] puI ?_;refine dp 7 7 [23,24,25,26] [] puL ?_;refine dp 8 255 [] [] (by exact a_ne rfl rfl) ?_;(refine d_nil ?_;refine dN ?_)));any_goals kernel_rfl)|(apply g_drN (id := 7) okM [[],[],[0,1],[0,1,2],[],[],[4,5],[4,5,6],[0,1,2,3,4,5,6,7],[0,1,2,3,4,5,6,7,8]] [([],[]),([],[]),([],[]),([],[]),([],[]),([],[]),([],[]),([],[]),([],[]),([],[])] 0;(focus (refine dp 0 0 [33,36,37,38,39] [] pu1 ?_;refine dp 1 0 [32,36,37,38,39] [] pu1 ?_;refine dp 2 3 [36,37,38,39] [] puI ?_;refine dp 3 7 [36,37,38,39] [] puL ?_;refine dp 4 0 [32,33,34,35,37] [] pu1 ?_;refine dp 5 0 [32,33,34,35,36] [] pu1 ?_;refine dp 6 3 [32,33,34,35] [] puI ?_;refine dp 7 7 [32,33,34,35] [] puL ?_;refine dp 8 255 [] [] puC ?_;refine dp 9 511 [] [] pu1 ?_;(refine d_nil ?_;refine dN ?_)));any_goals kernel_rfl)|((refine g_cond rfl (fun hc => ?_) (fun hc => ?_)) <;> (try simp only [dcB] at hc) <;> (try first|contradiction|(exfalso;omega)))|fail
      · have e := c2 he (i := i.toNat) (by omega) (by rw [show i.toNat + 1 = (i + 1).toNat by omega]; exact h2) hc
        have e2 : decide (cmpN x y = -1) = decide ((dg 1000000 x)[i.toNat]'(by omega) < (dg 1000000 y)[i.toNat]'(by omega)) := by
          rw [e]
          by_cases h : (dg 1000000 x)[i.toNat]'(by omega) < (dg 1000000 y)[i.toNat]'(by omega)
          · rw [if_pos h,decide_eq_true h]; rfl
          · rw [if_neg h,decide_eq_false h]; rfl
        rw [e2]
        repeat refine cr ?_
        refine ends_id ?_
        refine endK [] (h2 := ?_) (h3 := ?_) (nd := ?_)
        all_goals (repeat' first|exact ce0|refine ce ?_|refine ce2 ?_ ?_|exact SVLe.refl|refine ceb ?_)
        all_goals first | exact (show nodupB _ = true from rfl) | exact Or.inr rfl | (rfl)
      · refine q_again (i - 1) [] (by exact stk) ?_ ?_
        · refine ⟨by omega,by omega,?_⟩
          rw [show (i - 1 + 1).toNat = i.toNat by omega,List.drop_eq_getElem_cons (show i.toNat < (dg 1000000 x).length by omega),List.drop_eq_getElem_cons (show i.toNat < (dg 1000000 y).length by omega),show i.toNat + 1 = (i + 1).toNat by omega,h2,hc]
        · omega
      · rw [show (i + 1).toNat = 0 by omega,List.drop_zero,List.drop_zero] at h2
        rw [c3 h2]
        repeat refine cr ?_
        refine ends_id ?_
        refine endK [] (h2 := ?_) (h3 := ?_) (nd := ?_)
        all_goals (repeat' first|exact ce0|refine ce ?_|refine ce2 ?_ ?_|exact SVLe.refl|refine ceb ?_)
        all_goals first | exact (show nodupB _ = true from rfl) | exact Or.inr rfl | (rfl)
abbrev bxI (l : List Int) : D := .bx false [.sl false 1 (rows eI l)]
abbrev bxN (i : Int) : D := .bx false [.sc (.int .i64 i)]
theorem rootOf1_ok (l : List Int) (i : Int) (N : Nat) (d : Int) (h0 : 0 ≤ i) (h1 : i < l.length) (hl : Lb 1000000 l) (hx : (l.length : Int) ≤ 1000) (hN : ((dg 1000000 N).length : Int) ≤ 1000) (d0 : 0 ≤ d) (d1 : d < 1000000) : Does Tryz.prog 168 [.one (int d),.one (.d (bxI l)),.one (.d (bxN i)),.one (.d (bxI (dg 1000000 N)))] [] (.one (boo (rtP 1000000 l i.toNat N d))) [] := by
  have hls : Lb 1000000 (l.set i.toNat d) := lb_set hl d0 (by omega)
  have hz : nv 1000000 (l.set i.toNat d) < 1000000 ^ l.length := by simpa using nv_lt hls
  have e : rtP 1000000 l i.toNat N d = decide (cmpN (nv 1000000 (l.set i.toNat d) * nv 1000000 (l.set i.toNat d)) N ≤ 0) := by
    unfold rtP
    exact decide_eq_decide.mpr cmpN_le.symm
  have q1 : (dg 1000000 (nv 1000000 (l.set i.toNat d))).length ≤ l.length := dg_le (by decide) hz
  have q2 : (dg 1000000 (nv 1000000 (l.set i.toNat d) * nv 1000000 (l.set i.toNat d))).length ≤ l.length + l.length := dg_le (by decide) (by rw [Nat.pow_add]; exact Nat.mul_lt_mul'' hz hz)
  rw [e]
  refine does_of (k := 0) Tryz.func168 rfl Tryz.ntmps168 rfl rfl fun w F0 S0 ρ0 => ?_
  dsimp only [argT,argH]
  repeat' first|(apply p3;(first|exact pu1|exact puI);exact rfl)|refine cd ?_|(apply w3;(exact a_st_rowI rfl rfl rfl rfl (fN rfl rfl) bnd);exact rfl;refine dS ?_)|(apply c4 1;exact callK1 (θ := []) (hD := (clone_ok l (by omega)));exact rfl;exact rfl;exact rfl;refine dM ?_)|fail
  refine o_turn (t_freeze (i := 0) rfl nowR) ?_
  repeat' first|(apply p3;(exact pu1);exact rfl)|refine cdn ?_|(apply c4 0;exact callK0 (θ := []) (hD := (trimmed_ok (l.set i.toNat d) (by simp;omega) hls));exact rfl;exact rfl;exact rfl;refine dM ?_)|fail
  generalize nv 1000000 (l.set i.toNat d) = z at *
  repeat' first|refine cd ?_|(apply g_drN (id := 4) okM [[],[],[0,1],[],[0,1,2,3],[0,1,2,3,4],[0,1,2,3,4,5]] [([],[]),([],[]),([],[]),([],[]),([],[]),([],[]),([],[])] 0;(focus (refine dp 0 0 [16,18] [] pu1 ?_;refine dp 1 0 [15,18] [] pu1 ?_;refine dp 2 3 [18] [] (callD0 (n := _) 0 (θ := []) (hD := (multiply_ok z z (by omega) (by omega)))) ?_;refine dp 3 0 [15,16,17] [] (by exact puL) ?_;refine dp 4 15 [] [] (callD1 (n := _) 0 (θ := []) (hD := (compareNaturals_ok (z * z) N (by omega) (by omega)))) ?_;refine dp 5 31 [] [] puC ?_;refine dp 6 63 [] [] pu1 ?_;(refine d_nil ?_;refine dN ?_)));any_goals kernel_rfl)|fail
  repeat refine cr ?_
  refine ends_id ?_
  refine endK [] (h2 := ?_) (h3 := ?_) (nd := ?_)
  all_goals (repeat' first|exact ce0|refine ce ?_|refine ce2 ?_ ?_|exact SVLe.refl|refine ceb ?_)
  all_goals first | exact (show nodupB _ = true from rfl) | exact Or.inr rfl | (rfl)
theorem greatest_ok (l : List Int) (i : Int) (N : Nat) (h0 : 0 ≤ i) (h1 : i < l.length) (hl : Lb 1000000 l) (hx : (l.length : Int) ≤ 1000) (hN : ((dg 1000000 N).length : Int) ≤ 1000) : Does Tryz.prog 167 [.one (.d (.fn (.func 168) [bxI l,bxN i,bxI (dg 1000000 N)]))] [] (.one (int (grW (rtP 1000000 l i.toNat N) 0 1000000))) [] := by
  refine does_of (k := 0) Tryz.func167 rfl Tryz.ntmps167 rfl rfl fun w F0 S0 ρ0 => ?_
  dsimp only [argT,argH]
  repeat' first|(apply p3;(exact pu1);exact rfl)|refine cd ?_|fail
  refine g_loop_id ?_
  refine loopK [0,2] [] (fun y : Int × Int => 0 ≤ y.1 ∧ y.1 < y.2 ∧ y.2 ≤ 1000000 ∧ grW (rtP 1000000 l i.toNat N) y.1 y.2 = grW (rtP 1000000 l i.toNat N) 0 1000000) (fun y => [(3,.one (int y.1)),(4,.one (int y.2))]) (fun _ => []) (fun y => (y.2 - y.1).toNat) ((0 : Int),(1000000 : Int)) [] (hI := ?_) (hr := ?_)
  · exact ⟨by simp,by simp,by simp,rfl⟩
  · rintro ⟨a,b⟩ ⟨j0,j1,j2,j3⟩
    dsimp only [List.cons_append,List.nil_append] at *
    skip
    repeat' first|(apply p3;(first|exact pu1|exact a_add rfl rfl (by omega) (by omega)|exact puC|exact a_quo rfl rfl (by omega) (by omega) (by omega));exact rfl)|refine cd ?_|(apply c4 0;exact callK0 (θ := []) (hD := (rootOf1_ok l i N _ h0 h1 hl hx hN preB238 preB238));exact rfl;exact rfl;exact rfl;refine dM ?_)|((refine g_cond rfl (fun hc => ?_) (fun hc => ?_)) <;> (try simp only [dcB] at hc) <;> (try first|contradiction|(exfalso;omega)))|fail
    · refine q_again ((a + b) / 2,b) [] (by exact stk) ?_ ?_
      · exact ⟨by dsimp only; omega,by dsimp only; omega,j2,by dsimp only; rw [← j3,grW_y (by omega) hc]⟩
      · dsimp only; omega
    · refine q_again (a,(a + b) / 2) [] (by exact stk) ?_ ?_
      · exact ⟨j0,by dsimp only; omega,by dsimp only; omega,by dsimp only; rw [← j3,grW_n (by omega) hc]⟩
      · dsimp only; omega
    · rw [← j3,grW_0 (by omega)]
      repeat refine cr ?_
      refine ends_id ?_
      refine endK [] (h2 := ?_) (h3 := ?_) (nd := ?_)
      all_goals (repeat' first|exact ce0|refine ce ?_|refine ce2 ?_ ?_|exact SVLe.refl|refine ceb ?_)
      all_goals first | exact (show nodupB _ = true from rfl) | exact Or.inr rfl | (rfl)
theorem rootOf_ok (N : Nat) (hN : (dg 1000000 N).length ≤ 40) : Does Tryz.prog 94 [.one (shI (dg 1000000 N))] [] (.one (shI (dg 1000000 (isq N)))) [] := by
  refine does_of (k := 0) Tryz.func94 rfl Tryz.ntmps94 rfl rfl fun w F0 S0 ρ0 => ?_
  dsimp only [argT,argH]
  repeat' first|(apply n3;(first|exact a_new (gb := .bx _) rfl|exact a_make (fE rfl) (fZ rfl) (fP rfl) (by decide) rfl rfl (by omega) rfl (by omega) (by omega) (rows_rep eI 0 _));exact rfl;refine dA ?_)|(apply p3;(first|exact puN|exact a_add rfl rfl (by omega) (by omega)|exact a_quo rfl rfl (by omega) (by omega) (by omega)|exact puL);exact rfl)|refine cdn ?_|refine g_reg (id := 0) ?_|refine g_reg (id := 1) ?_|(apply w3;(exact a_st_bx rfl rfl rfl rfl (fN rfl rfl) (Nat.le_of_ble_eq_true rfl) rfl);exact rfl;refine dS ?_)|fail
  generalize hk : ((((dg 1000000 N).length : Int) + 1) / 2).toNat = k
  have hkl : (List.replicate k (0 : Int)).length = k := List.length_replicate
  repeat' first|(apply n3;(exact a_new (gb := .bx _) rfl);exact rfl;refine dA ?_)|(apply p3;(first|exact pu1|exact puN|exact a_sub rfl rfl (by omega) (by omega));exact rfl)|refine cd ?_|(apply w3;(exact a_st_bx rfl rfl rfl rfl (fN rfl rfl) (Nat.le_of_ble_eq_true rfl) rfl);exact rfl;refine dS ?_)|fail
  simp only [List.map_cons,List.map_nil,scC,List.set_cons_zero]
  refine g_loop_id ?_
  refine loopK [1,2,3] [1,3] (fun y : Int × List Int => -1 ≤ y.1 ∧ y.1 < k ∧ y.2.length = k ∧ Lb 1000000 y.2 ∧ (∀ (j : Nat) (h : j < y.2.length),(j : Int) ≤ y.1 → y.2[j] = 0) ∧ nv 1000000 y.2 * nv 1000000 y.2 ≤ N ∧ N < (nv 1000000 y.2 + 1000000 ^ (y.1 + 1).toNat) * (nv 1000000 y.2 + 1000000 ^ (y.1 + 1).toNat)) (fun y => [(4,.one (.gv 3))]) (fun y => [(1,roI y.2),(3,.bx [int y.1])]) (fun y => (y.1 + 1).toNat) (((List.replicate k (0 : Int)).length : Int) - 1,List.replicate k (0 : Int)) [0,1,2,3] (hI := ?_) (hr := ?_)
  · have hr := rt_init (b := 1000000) (by decide) (N := N) (k := k) (Nat.lt_of_lt_of_le (dg_lt (by decide) N) (Nat.pow_le_pow_right (by decide) (by omega)))
    refine ⟨by dsimp only; omega,by dsimp only; omega,by simp,lb_zeros (by decide) _,fun j h _ => by simp,hr.1,?_⟩
    dsimp only
    rw [hkl,show ((k : Int) - 1 + 1).toNat = k by omega]
    exact hr.2
  · rintro ⟨i,l⟩ ⟨j0,j1,j2,j3,j4,j5,j6⟩
    dsimp only [List.cons_append,List.nil_append] at *
    skip
    repeat' first|(apply p3;(first|exact pu1|exact puC);exact rfl)|refine cdn ?_|refine g_reg (id := 3) ?_|refine g_reg (id := 8) ?_|((refine g_cond rfl (fun hc => ?_) (fun hc => ?_)) <;> (try simp only [dcB] at hc) <;> (try first|contradiction|(exfalso;omega)))|fail
    · have hi : i.toNat < l.length := by omega
      have hz := j4 i.toNat hi (by omega)
      have hg := grW_ok (rtP 1000000 l i.toNat N) 1000000 1000000 0 1000000 (by decide) (by decide) (rt_zero hi hz j5) (.inl rfl)
      have hs := rt_step (b := 1000000) (by decide) hi hz hg.2.1 hg.1 hg.2.2.2 (by rw [show i.toNat + 1 = (i + 1).toNat by omega]; exact j6)
      repeat' first|(apply n3;exact a_new (gb := .bx _) rfl;exact rfl;refine dA ?_)|(apply p3;(first|exact pu1|exact a_sub rfl rfl (by omega) (by omega));exact rfl)|refine cd ?_|(apply w3;(exact a_st_bx rfl rfl rfl rfl (fN rfl rfl) (Nat.le_of_ble_eq_true rfl) rfl);exact rfl;refine dS ?_)|(apply g_drN (id := 5) okM [[],[],[],[2],[0,1,2,3],[0,1,2,3,4]] [([],[]),([],[]),([],[]),([],[]),([],[]),([],[1])] 0;(focus (refine dp 0 0 [18,19,20] [] (by exact puL) ?_;refine dp 1 0 [17,19,20] [] puL ?_;refine dp 2 0 [17,18] [] (a_pure (sv := .one _) rfl) ?_;refine dp 3 1 [17,18] [] (callD1 (n := _) 0 (θ := []) (hD := (greatest_ok l i N hc (by omega) j3 (by omega) (by omega)))) ?_;refine dp 4 15 [] [] puI ?_;refine duE 5 31 [] [] (by exact a_st_rowI rfl rfl rfl rfl (fN rfl rfl) bnd) (by exact rfl) (by exact rfl) ?_;(refine d_nil ?_;refine dN ?_)));any_goals kernel_rfl)|fail
      generalize grW (rtP 1000000 l i.toNat N) 0 1000000 = d at *
      refine q_again (i - 1,l.set i.toNat d) [0,1,2,4] (by exact stk) ?_ ?_
      · refine ⟨by dsimp only; omega,by dsimp only; omega,by simpa using j2,lb_set j3 hg.2.1 hg.2.2.1,fun j h hj => ?_,hs.1,?_⟩
        · dsimp only at hj ⊢
          rw [List.getElem_set_ne (by omega)]
          exact j4 j (by simpa using h) (by omega)
        · dsimp only
          rw [show (i - 1 + 1).toNat = i.toNat by omega]
          exact hs.2
      · dsimp only; omega
    · have e : nv 1000000 l = isq N := rt_fin (b := 1000000) j5 (by rw [show (i + 1).toNat = 0 by omega] at j6; exact j6)
      rw [← e]
      refine o_turn (t_freeze (i := 1) rfl nowR) ?_
      repeat' first|(apply p3;(exact pu1);exact rfl)|refine cd ?_|(apply c4 0;exact callK0 (θ := []) (hD := (trimmed_ok l (by omega) j3));exact rfl;exact rfl;exact rfl;refine dM ?_)|fail
      repeat refine cr ?_
      refine ends_id ?_
      refine endK [] (h2 := ?_) (h3 := ?_) (nd := ?_)
      all_goals (repeat' first|exact ce0|refine ce ?_|refine ce2 ?_ ?_|exact SVLe.refl|refine ceb ?_)
      all_goals first | exact (show nodupB _ = true from rfl) | exact Or.inr rfl | (rfl)
theorem RootNatural_ok (N : Nat) (hN : (dg 1000000 N).length ≤ 40) : Does Tryz.prog 30 [.one (shI (dg 1000000 N))] [] (.tup [(false,[shI (dg 1000000 (isq N))]),(false,[int 0])]) [] := by
  refine does_of (k := 0) Tryz.func30 rfl Tryz.ntmps30 rfl rfl fun w F0 S0 ρ0 => ?_
  dsimp only [argT,argH]
  repeat' first|(apply p3;exact pu1;exact rfl)|refine cd ?_|(apply c4 0;exact callK1 (θ := []) (hD := (IsNatural_ok _ preB238));exact rfl;exact rfl;exact rfl;refine dM ?_)|(apply c4 0;exact callK0 (θ := []) (hD := (rootOf_ok _ preB238));exact rfl;exact rfl;exact rfl;refine dM ?_)|((refine g_cond rfl (fun hc => ?_) (fun hc => ?_)) <;> (try simp only [dcB] at hc) <;> (try first|contradiction|(exfalso;omega)))|fail
  all_goals first | (exfalso; omega) | skip
  repeat refine cr ?_
  refine ends_id ?_
  refine endK [] (h2 := ?_) (h3 := ?_) (nd := ?_)
  all_goals (repeat' first|exact ce0|refine ce ?_|refine ce2 ?_ ?_|exact SVLe.refl|refine ceb ?_)
  all_goals first | exact (show nodupB _ = true from rfl) | exact Or.inr rfl | (rfl)
end Go.Proofs.YtnkeamihfiobdaaGreatDoor
end
section
set_option linter.unusedVariables false
set_option linter.unusedSimpArgs false
set_option maxRecDepth 100000
set_option maxHeartbeats 1000000
namespace Go.Proofs.YtnkeamihfiobdaaGreatDoor
open Go Foot Go.RowKit
@[irreducible] def isNt (r : List Int) : Bool := decide ((r.length : Int) ≤ 40) && (inAll 0 999999 r && (decide ((r.length : Int) = 0) || !decide (r.getD ((r.length : Int) - 1).toNat 0 = 0)))
theorem isNt_dg {x : Nat} (h : (dg 1000000 x).length ≤ 40) : isNt (dg 1000000 x) = true := by
  have hin : inAll 0 999999 (dg 1000000 x) = true := by
    unfold inAll
    rw [List.all_eq_true]
    intro y hy
    have := (dg_lb (b := 1000000) (by decide) x).h y hy
    rw [decide_eq_true_eq]
    omega
  unfold isNt
  rw [decide_eq_true (by omega),hin,Bool.true_and,Bool.true_and]
  by_cases e : ((dg 1000000 x).length : Int) = 0
  · rw [decide_eq_true e]; rfl
  · have := dg_last (b := 1000000) (by decide) x (by intro e2; rw [e2] at e; simp at e)
    rw [List.getLast_eq_getElem] at this
    have e3 : (dg 1000000 x).getD (((dg 1000000 x).length : Int) - 1).toNat 0 = (dg 1000000 x)[(dg 1000000 x).length - 1]'(by omega) := by
      rw [show (((dg 1000000 x).length : Int) - 1).toNat = (dg 1000000 x).length - 1 by omega,List.getD_eq_getElem?_getD,List.getElem?_eq_getElem (by omega)]
      rfl
    rw [e3,decide_eq_false this,decide_eq_false e]
    rfl
theorem preB239 {p : Prop} (h : p := by first | with_reducible assumption | omega | (simp only [List.length_append,List.length_cons,List.length_nil,List.length_set,List.length_replicate,List.length_take,List.length_drop,List.length_tail,List.length_dropLast,List.length_reverse] at *; omega) | exact mem_len (by assumption) (by omega) | (with_reducible refine Int.le_trans (Int.ofNat_le.2 (trimR_len _)) ?_; simp only [List.length_cons,List.length_tail]; omega) | (exact (ruAt_ok (by assumption) (by assumption) (by assumption)).2.1) | (exact (ruAt_ok (by assumption) (by assumption) (by assumption)).2.1) | (have := vMach_bd (by assumption); omega) | (simp only [List.length_append,List.length_cons,List.length_nil,repW_len,seN_len] at *; omega) | (simp only [mC_ch,mC_tu]; omega) | (have := vTag_bd (by assumption); omega) | (have := (‹Gd _ _›).le; omega) | (exact tgHalts_no (by assumption)) | (exact tgHead (by assumption) (by assumption) (by assumption)) | (exact Int.le_trans (tgStep_gd (by assumption) (by assumption) (by assumption) (by assumption)).le (by decide)) | (exact vTag_r (by assumption)) | (with_reducible refine Int.le_trans (Int.ofNat_le.2 (pushL_len _ _)) ?_; simp only [List.length_dropLast]; omega) | exact ls_at (by assumption) (by omega) | exact pt_gd (by assumption) | exact lv_at (by assumption) (by omega) | exact pt_gd (lv_at (by assumption) (by omega)) | exact (ask_ok (by assumption)).1 | exact (ask_ok (by assumption)).2.1 | exact (ask_ok (by assumption)).2.2.1 | exact (ask_ok (by assumption)).2.2.2 | trivial) : p := h
theorem IsNaturalG_ok (r : List Int) (hx : (r.length : Int) ≤ 16777216) : Does Tryz.prog 81 [.one (shI r)] [] (.one (boo (isNt r))) [] := by
  have hg : ∀ h : ¬ (r.length : Int) = 0,r.getD ((r.length : Int) - 1).toNat 0 = r[((r.length : Int) - 1).toNat]'(by omega) := fun h => by
    rw [List.getD_eq_getElem?_getD,List.getElem?_eq_getElem (by omega)]
    rfl
  refine does_of (k := 0) Tryz.func81 rfl Tryz.ntmps81 rfl rfl fun w F0 S0 ρ0 => ?_
  dsimp only [argT,argH]
  repeat' first|(apply p3;(first|exact pu1|exact puN|exact puC);exact rfl)|refine cd ?_|refine o_no rfl rfl rfl rfl ?_|(apply py3;exact rfl;exact rfl;(first|exact pu1|exact puN|exact puC|exact a_sub rfl rfl (by omega) (by omega)|exact a_ne rfl rfl|exact puI);exact rfl;exact rfl)|(apply cy4 0;exact rfl;exact rfl;exact callK1 (θ := []) (hD := (allWithin_ok _ _ _ preB239));exact rfl;exact rfl;exact rfl;exact rfl;refine dM ?_)|((refine o_gs rfl rfl (fun hc => ?_) (fun hc => ?_)) <;> (try simp only [dcB] at hc) <;> (try first|contradiction|(exfalso;omega)))|fail
  · repeat refine cr ?_
    refine ends_id ?_
    refine endK [] (h2 := ?_) (h3 := ?_) (nd := ?_)
    all_goals (repeat' first|exact ce0|refine ce ?_|refine ce2 ?_ ?_|exact SVLe.refl|refine ceb ?_)
    all_goals first | exact (show nodupB _ = true from rfl) | exact Or.inr rfl | ((unfold isNt; simp_all))
  · have hz := hg hc
    have e : isNt r = !decide (r[((r.length : Int) - 1).toNat]'(by omega) = 0) := by
      unfold isNt
      rw [hz,decide_eq_true (show (r.length : Int) ≤ 40 by omega),decide_eq_false hc,show inAll 0 999999 r = true by assumption]
      rfl
    rw [e]
    repeat refine cr ?_
    refine ends_id ?_
    refine endK [] (h2 := ?_) (h3 := ?_) (nd := ?_)
    all_goals (repeat' first|exact ce0|refine ce ?_|refine ce2 ?_ ?_|exact SVLe.refl|refine ceb ?_)
    all_goals first | exact (show nodupB _ = true from rfl) | exact Or.inr rfl | (rfl)
  · repeat refine cr ?_
    refine ends_id ?_
    refine endK [] (h2 := ?_) (h3 := ?_) (nd := ?_)
    all_goals (repeat' first|exact ce0|refine ce ?_|refine ce2 ?_ ?_|exact SVLe.refl|refine ceb ?_)
    all_goals first | exact (show nodupB _ = true from rfl) | exact Or.inr rfl | ((unfold isNt; simp_all))
  · repeat refine cr ?_
    refine ends_id ?_
    refine endK [] (h2 := ?_) (h3 := ?_) (nd := ?_)
    all_goals (repeat' first|exact ce0|refine ce ?_|refine ce2 ?_ ?_|exact SVLe.refl|refine ceb ?_)
    all_goals first | exact (show nodupB _ = true from rfl) | exact Or.inr rfl | ((unfold isNt; rw [decide_eq_false (by omega)]; rfl))
theorem naturals1_ok (r : List Int) (hx : (r.length : Int) ≤ 16777216) : Does Tryz.prog 171 [.one (shI r)] [] (.one (boo (!isNt r))) [] := by
  refine does_of (k := 0) Tryz.func171 rfl Tryz.ntmps171 rfl rfl fun w F0 S0 ρ0 => ?_
  dsimp only [argT,argH]
  repeat' first|(apply p3;exact pu1;exact rfl)|refine cd ?_|(apply c4 0;exact callK1 (θ := []) (hD := (IsNaturalG_ok _ preB239));exact rfl;exact rfl;exact rfl;refine dM ?_)|fail
  repeat refine cr ?_
  refine ends_id ?_
  refine endK [] (h2 := ?_) (h3 := ?_) (nd := ?_)
  all_goals (repeat' first|exact ce0|refine ce ?_|refine ce2 ?_ ?_|exact SVLe.refl|refine ceb ?_)
  all_goals first | exact (show nodupB _ = true from rfl) | exact Or.inr rfl | (rfl)
theorem hasNt_ok (xs : List (List Int)) (hx : (xs.length : Int) ≤ 16777216) (hxs : ∀ x ∈ xs,(x.length : Int) ≤ 16777216) : Does Tryz.prog 170 [.one (shW xs),.one (.d (.fn (.func 171) []))] [] (.one (boo (xs.any fun w => !isNt w))) [] := hasW_ok xs _ _ hx hxs (fQ rfl) fun r hr => naturals1_ok r hr
theorem naturals_ok (x y : Nat) (hx : (dg 1000000 x).length ≤ 40) (hy : (dg 1000000 y).length ≤ 40) : Does Tryz.prog 95 [.one (shW [dg 1000000 x,dg 1000000 y])] [] (.one (boo true)) [] := by
  have e : ([dg 1000000 x,dg 1000000 y].any fun w => !isNt w) = false := by
    simp only [List.any_cons,List.any_nil,isNt_dg hx,isNt_dg hy]
    rfl
  have hxs : ∀ z ∈ [dg 1000000 x,dg 1000000 y],(z.length : Int) ≤ 16777216 := fun z hz => by
    simp only [List.mem_cons,List.not_mem_nil,or_false] at hz
    rcases hz with h | h <;> (rw [h]; omega)
  refine does_of (k := 0) Tryz.func95 rfl Tryz.ntmps95 rfl rfl fun w F0 S0 ρ0 => ?_
  dsimp only [argT,argH]
  repeat' first|(apply p3;exact pu1;exact rfl)|refine cd ?_|(apply c4 0;exact callK1 (θ := []) (hD := (hasNt_ok [dg 1000000 x,dg 1000000 y] (by simp) hxs));exact rfl;exact rfl;exact rfl;refine dM ?_)|fail
  rw [e]
  repeat refine cr ?_
  refine ends_id ?_
  refine endK [] (h2 := ?_) (h3 := ?_) (nd := ?_)
  all_goals (repeat' first|exact ce0|refine ce ?_|refine ce2 ?_ ?_|exact SVLe.refl|refine ceb ?_)
  all_goals first | exact (show nodupB _ = true from rfl) | exact Or.inr rfl | (rfl)
theorem MultiplyNaturals_ok (x y : Nat) (hx : (dg 1000000 x).length ≤ 40) (hy : (dg 1000000 y).length ≤ 40) (h : (dg 1000000 (x * y)).length ≤ 40) : Does Tryz.prog 31 [.one (shI (dg 1000000 x)),.one (shI (dg 1000000 y))] [] (.tup [(false,[shI (dg 1000000 (x * y))]),(false,[int 0])]) [] := by
  refine does_of (k := 0) Tryz.func31 rfl Tryz.ntmps31 rfl rfl fun w F0 S0 ρ0 => ?_
  dsimp only [argT,argH]
  repeat' first|(apply n3;exact a_litE eW [_,_] rfl rfl rfl rfl rfl rfl rfl rfl;exact rfl;refine dA ?_)|(apply p3;exact pu1;exact rfl)|refine cd ?_|(apply c4 0;exact callK1 (θ := []) (hD := (naturals_ok x y hx hy));exact rfl;exact rfl;exact rfl;refine dM ?_)|(apply c4 0;exact callK0 (θ := []) (hD := (multiply_ok x y (by omega) (by omega)));exact rfl;exact rfl;exact rfl;refine dM ?_)|(apply c4 0;exact callK0 (θ := []) (hD := (limited_ok (x * y) h));exact rfl;exact rfl;exact rfl;refine dM ?_)|fail
  repeat refine cr ?_
  refine ends_id ?_
  refine endK [] (h2 := ?_) (h3 := ?_) (nd := ?_)
  all_goals (repeat' first|exact ce0|refine ce ?_|refine ce2 ?_ ?_|exact SVLe.refl|refine ceb ?_)
  all_goals first | exact (show nodupB _ = true from rfl) | exact Or.inr rfl | (rfl)
theorem MultiplyNaturalsN_ok (x y : Nat) (hx : (dg 1000000 x).length ≤ 40) (hy : (dg 1000000 y).length ≤ 40) (h : 40 < (dg 1000000 (x * y)).length) : Does Tryz.prog 31 [.one (shI (dg 1000000 x)),.one (shI (dg 1000000 y))] [] (.tup [(false,[nlS]),(false,[int 5])]) [] := by
  have hl : (dg 1000000 (x * y)).length ≤ 80 := dg_le (by decide) (by
    have := Nat.mul_lt_mul'' (dg_40 hx) (dg_40 hy)
    rwa [← Nat.pow_add] at this)
  refine does_of (k := 0) Tryz.func31 rfl Tryz.ntmps31 rfl rfl fun w F0 S0 ρ0 => ?_
  dsimp only [argT,argH]
  repeat' first|(apply n3;exact a_litE eW [_,_] rfl rfl rfl rfl rfl rfl rfl rfl;exact rfl;refine dA ?_)|(apply p3;exact pu1;exact rfl)|refine cd ?_|(apply c4 0;exact callK1 (θ := []) (hD := (naturals_ok x y hx hy));exact rfl;exact rfl;exact rfl;refine dM ?_)|(apply c4 0;exact callK0 (θ := []) (hD := (multiply_ok x y (by omega) (by omega)));exact rfl;exact rfl;exact rfl;refine dM ?_)|(apply c4 0;exact callK1 (θ := []) (hD := (limitedN_ok (x * y) (by omega) h));exact rfl;exact rfl;exact rfl;refine dM ?_)|fail
  repeat refine cr ?_
  refine ends_id ?_
  refine endK [] (h2 := ?_) (h3 := ?_) (nd := ?_)
  all_goals (repeat' first|exact ce0|refine ce ?_|refine ce2 ?_ ?_|exact SVLe.refl|refine ceb ?_)
  all_goals first | exact (show nodupB _ = true from rfl) | exact Or.inr rfl | (rfl)
theorem AddNaturals_ok (x : Nat) (hx : (dg 1000000 x).length ≤ 40) (h : (dg 1000000 (x + 1)).length ≤ 40) : Does Tryz.prog 32 [.one (shI (dg 1000000 x)),.one (shI [1])] [] (.tup [(false,[shI (dg 1000000 (x + 1))]),(false,[int 0])]) [] := by
  have e1 : [(1 : Int)] = dg 1000000 1 := by rw [dg_s (by decide) (by decide),show 1 / 1000000 = 0 from rfl,dg_0]; rfl
  have h1 : (dg 1000000 1).length ≤ 40 := by rw [← e1]; decide
  rw [e1]
  refine does_of (k := 0) Tryz.func32 rfl Tryz.ntmps32 rfl rfl fun w F0 S0 ρ0 => ?_
  dsimp only [argT,argH]
  repeat' first|(apply n3;exact a_litE eW [_,_] rfl rfl rfl rfl rfl rfl rfl rfl;exact rfl;refine dA ?_)|(apply p3;exact pu1;exact rfl)|refine cd ?_|(apply c4 0;exact callK1 (θ := []) (hD := (naturals_ok x 1 hx h1));exact rfl;exact rfl;exact rfl;refine dM ?_)|(apply c4 0;exact callK0 (θ := []) (hD := (add_ok x 1 (by omega) (by omega)));exact rfl;exact rfl;exact rfl;refine dM ?_)|(apply c4 0;exact callK0 (θ := []) (hD := (limited_ok (x + 1) h));exact rfl;exact rfl;exact rfl;refine dM ?_)|fail
  repeat refine cr ?_
  refine ends_id ?_
  refine endK [] (h2 := ?_) (h3 := ?_) (nd := ?_)
  all_goals (repeat' first|exact ce0|refine ce ?_|refine ce2 ?_ ?_|exact SVLe.refl|refine ceb ?_)
  all_goals first | exact (show nodupB _ = true from rfl) | exact Or.inr rfl | (rfl)
theorem FromDigits_ok (x : Nat) (b : Int) (h0 : 2 ≤ b) (h1 : b ≤ 1000000) (hx : (dg 1000000 x).length ≤ 40) : Does Tryz.prog 26 [.one (shI (dg b.toNat x)),.one (int b)] [] (.tup [(false,[shI (dg 1000000 x)]),(false,[int 0])]) [] := by
  have hb : 2 ≤ b.toNat := by omega
  have h8 := dg_800 hb hx
  have hlb := dg_lb hb x
  have hin : inAll 0 (b - 1) (dg b.toNat x) = true := by
    unfold inAll
    rw [List.all_eq_true]
    intro y hy
    have := hlb.h y hy
    rw [decide_eq_true_eq]
    omega
  have hnv := nv_dg hb x
  have e : dg 1000000 x = dg 1000000 (nv b.toNat (dg b.toNat x)) := by rw [hnv]
  rw [e]
  refine does_of (k := 0) Tryz.func26 rfl Tryz.ntmps26 rfl rfl fun w F0 S0 ρ0 => ?_
  dsimp only [argT,argH]
  repeat' first|(apply p3;(first|exact pu1|exact puN|exact puC);exact rfl)|refine cd ?_|(apply c4 0;exact callK1 (θ := []) (hD := (within_ok _ _ _));exact rfl;exact rfl;exact rfl;refine dM ?_)|(apply c4 0;exact callK0 (θ := []) (hD := (fromDigits_ok (dg b.toNat x) b h0 h1 (by omega) hlb));exact rfl;exact rfl;exact rfl;refine dM ?_)|(apply c4 0;exact callK0 (θ := []) (hD := (limited_ok (nv b.toNat (dg b.toNat x)) (by rw [hnv];exact hx)));exact rfl;exact rfl;exact rfl;refine dM ?_)|(apply py3;exact rfl;exact rfl;(first|exact pu1|exact a_sub rfl rfl (by omega) (by omega));exact rfl;exact rfl)|(apply cy4 0;exact rfl;exact rfl;exact callK1 (θ := []) (hD := (allWithin_ok _ _ _ preB239));exact rfl;exact rfl;exact rfl;exact rfl;refine dM ?_)|((first|refine o_gs rfl rfl (fun hc => ?_) (fun hc => ?_)|refine g_cond rfl (fun hc => ?_) (fun hc => ?_)) <;> (try simp only [dcB] at hc) <;> (try first|contradiction|(exfalso;omega)))|fail
  all_goals first | (exfalso; omega) | (exfalso; simp_all; done) | skip
  repeat refine cr ?_
  refine ends_id ?_
  refine endK [] (h2 := ?_) (h3 := ?_) (nd := ?_)
  all_goals (repeat' first|exact ce0|refine ce ?_|refine ce2 ?_ ?_|exact SVLe.refl|refine ceb ?_)
  all_goals first | exact (show nodupB _ = true from rfl) | exact Or.inr rfl | (rfl)
end Go.Proofs.YtnkeamihfiobdaaGreatDoor
end
section
set_option linter.unusedVariables false
set_option linter.unusedSimpArgs false
set_option maxRecDepth 100000
set_option maxHeartbeats 4000000
namespace Go.Proofs.YtnkeamihfiobdaaGreatDoor
open Go Foot
def drev (u : Nat) : List Int := if h : u = 0 then [] else (48 + (u % 10 : Nat) : Int) :: drev (u / 10)
termination_by u
decreasing_by omega
theorem drev_0 : drev 0 = [] := by rw [drev]; simp
theorem drev_s {u : Nat} (h : u ≠ 0) : drev u = (48 + (u % 10 : Nat) : Int) :: drev (u / 10) := by rw [drev]; simp [h]
theorem drev_le : ∀ (k u : Nat),u < 10 ^ k → (drev u).length ≤ k := by
  intro k
  induction k with
  | zero =>
    intro u h
    have : u = 0 := by simpa using h
    subst this
    simp [drev_0]
  | succ k ih =>
    intro u h
    by_cases h0 : u = 0
    · subst h0; simp [drev_0]
    · rw [drev_s h0,List.length_cons]
      have := ih (u / 10) (by rw [Nat.pow_succ] at h; omega)
      omega
theorem byt_app (a b : List Int) : byt (a ++ b) = byt a ++ byt b := by unfold byt; simp
theorem byt_len (a : List Int) : (byt a).length = a.length := by unfold byt; simp
theorem byt_1 (n : Int) : byt [n] = [UInt8.ofNat n.toNat] := by unfold byt; rfl
theorem byt_0 : byt [] = [] := by unfold byt; rfl
theorem drev_dec : ∀ (u : Nat),u ≠ 0 → byt (drev u).reverse = Lib.decDigits u := by
  intro u
  induction u using Nat.strongRecOn with
  | _ u ih =>
    intro h0
    rw [drev_s h0,List.reverse_cons,byt_app,byt_1,Lib.decDigits]
    by_cases h : u < 10
    · rw [dif_pos h,show u / 10 = 0 by omega,drev_0]
      simp only [List.reverse_nil,byt_0,List.nil_append]
      congr 2
      omega
    · rw [dif_neg h,ih (u / 10) (by omega) (by omega)]
      rfl
@[irreducible] def decT (n : Int) : Bs := Lib.itoa n
theorem decT_0 : decT 0 = [48] := by unfold decT Lib.itoa; simp [Lib.decDigits]
theorem decT_n {n : Int} (h : n ≠ 0) : decT n = byt ((drev n.natAbs ++ (if n < 0 then [45] else [])).reverse) := by
  unfold decT Lib.itoa
  split
  · rw [List.reverse_append,byt_app,drev_dec _ (by omega)]; simp [byt_1]
  · rw [List.append_nil,drev_dec _ (by omega),show n.natAbs = n.toNat by omega]
theorem decT_le {n : Int} (h0 : -9223372036854775808 ≤ n) (h1 : n ≤ 9223372036854775807) : (decT n).length ≤ 21 := by
  by_cases h : n = 0
  · subst h; rw [decT_0]; decide
  · rw [decT_n h,byt_len,List.length_reverse,List.length_append]
    have h2 := drev_le 20 n.natAbs (by omega)
    split <;> simp only [List.length_cons,List.length_nil] <;> omega
theorem preB49 {p : Prop} (h : p := by first | with_reducible assumption | omega | (simp only [List.length_append,List.length_cons,List.length_nil,List.length_set,List.length_replicate,List.length_take,List.length_drop,List.length_tail,List.length_dropLast,List.length_reverse] at *; omega) | exact mem_len (by assumption) (by omega) | (with_reducible refine Int.le_trans (Int.ofNat_le.2 (trimR_len _)) ?_; simp only [List.length_cons,List.length_tail]; omega) | (exact (ruAt_ok (by assumption) (by assumption) (by assumption)).2.1) | (exact (ruAt_ok (by assumption) (by assumption) (by assumption)).2.1) | (have := vMach_bd (by assumption); omega) | (simp only [mC_ch,mC_tu]; omega) | (have := vTag_bd (by assumption); omega) | (have := (‹Gd _ _›).le; omega) | (exact tgHalts_no (by assumption)) | (exact tgHead (by assumption) (by assumption) (by assumption)) | (exact Int.le_trans (tgStep_gd (by assumption) (by assumption) (by assumption) (by assumption)).le (by decide)) | (exact vTag_r (by assumption)) | (with_reducible refine Int.le_trans (Int.ofNat_le.2 (pushL_len _ _)) ?_; simp only [List.length_dropLast]; omega) | exact (ask_ok (by assumption)).1 | exact (ask_ok (by assumption)).2.1 | exact (ask_ok (by assumption)).2.2.1 | exact (ask_ok (by assumption)).2.2.2 | trivial) : p := h
theorem Decimal_ok (n : Int) (h0 : -9223372036854775808 ≤ n) (h1 : n ≤ 9223372036854775807) : Does Tryz.prog 90 [.one (int n)] [] (.one (str (decT n))) [] := by
  have e : decT n = Lib.itoa n := by unfold decT; rfl
  rw [e]
  refine does_of (k := 0) Tryz.func90 rfl Tryz.ntmps90 rfl rfl fun w F0 S0 ρ0 => ?_
  dsimp only [argT,argH]
  repeat' first|(apply p3;exact pu1;exact rfl)|refine cd ?_|(apply c4 0;exact callK1 (θ := []) (hD := (FormatInt_ok _ preB49 preB49));exact rfl;exact rfl;exact rfl;refine dM ?_)|fail
  repeat refine cr ?_
  refine ends_id ?_
  refine endK [] (h2 := ?_) (h3 := ?_) (nd := ?_)
  all_goals (repeat' first|exact ce0|refine ce ?_|refine ce2 ?_ ?_|exact SVLe.refl|refine ceb ?_)
  all_goals first | exact (show nodupB _ = true from rfl) | exact Or.inr rfl | (rfl)
end Go.Proofs.YtnkeamihfiobdaaGreatDoor
end
section
set_option linter.unusedVariables false
set_option linter.unusedSimpArgs false
set_option maxRecDepth 100000
set_option maxHeartbeats 4000000
namespace Go.Proofs.YtnkeamihfiobdaaGreatDoor
open Go Foot
end Go.Proofs.YtnkeamihfiobdaaGreatDoor
end
section
set_option linter.unusedVariables false
set_option linter.unusedSimpArgs false
set_option maxRecDepth 100000
set_option maxHeartbeats 4000000
namespace Go.Proofs.YtnkeamihfiobdaaGreatDoor
open Go Foot
structure Rule' where
  w : Int
  m : Int
  n : Int
  deriving DecidableEq
structure Mach where
  sy : Int
  st : Int
  ru : List Rule'
structure Conf where
  st : Int
  le : List Int
  ri : List Int
end Go.Proofs.YtnkeamihfiobdaaGreatDoor
end
section
set_option linter.unusedVariables false
set_option linter.unusedSimpArgs false
set_option maxRecDepth 100000
set_option maxHeartbeats 4000000
namespace Go.Proofs.YtnkeamihfiobdaaGreatDoor
open Go Foot
section
variable {g : Gh} {st : St} {dst : Option Tmp} {ty : TypeId} {pos : String} {after : Array Edge} {guard : Option (Nat × Bool)} {x y : Operand} {U : TypeId} {r s : Rule'}
end
@[irreducible] def trimR (l : List Int) : List Int := (l.reverse.dropWhile (· == 0)).reverse
theorem trimR_len (l : List Int) : (trimR l).length ≤ l.length := by
  unfold trimR
  rw [List.length_reverse]
  have := (List.dropWhile_sublist (· == (0 : Int)) (l := l.reverse)).length_le
  rwa [List.length_reverse] at this
@[irreducible] def okRule (sy st : Int) (r : Rule') : Bool := decide (r = ⟨0,0,-1⟩ ∨ (0 ≤ r.w ∧ r.w ≤ sy - 1) ∧ (r.m = 1 ∨ r.m = -1) ∧ 0 ≤ r.n ∧ r.n ≤ st - 1)
end Go.Proofs.YtnkeamihfiobdaaGreatDoor
end
section
set_option linter.unusedVariables false
set_option linter.unusedSimpArgs false
set_option maxRecDepth 100000
set_option maxHeartbeats 4000000
namespace Go.Proofs.YtnkeamihfiobdaaGreatDoor
open Go Foot
@[irreducible] def vMach (m : Mach) : Bool := decide ((2 ≤ m.sy ∧ m.sy ≤ 6) ∧ (1 ≤ m.st ∧ m.st ≤ 1000) ∧ (m.ru.length : Int) = m.sy * m.st) && m.ru.all (okRule m.sy m.st)
theorem vMach_bd {m : Mach} (h : vMach m = true) : (2 ≤ m.sy ∧ m.sy ≤ 6) ∧ (1 ≤ m.st ∧ m.st ≤ 1000) ∧ (m.ru.length : Int) = m.sy * m.st := by
  unfold vMach at h
  simp only [Bool.and_eq_true,decide_eq_true_eq] at h
  exact h.1
@[irreducible] def vSide (sy : Int) (l : List Int) : Bool := l.all (fun x => decide (0 ≤ x ∧ x ≤ sy - 1)) && decide ((l.length : Int) ≤ 200 ∧ l.getLastD 1 ≠ 0)
@[irreducible] def vConf (m : Mach) (c : Conf) : Bool := decide (0 ≤ c.st ∧ c.st ≤ m.st - 1) && vSide m.sy c.le && vSide m.sy c.ri
end Go.Proofs.YtnkeamihfiobdaaGreatDoor
end
section
set_option linter.unusedVariables false
set_option linter.unusedSimpArgs false
set_option maxRecDepth 100000
set_option maxHeartbeats 4000000
namespace Go.Proofs.YtnkeamihfiobdaaGreatDoor
open Go Foot
@[irreducible] def askC (m : Mach) (c : Conf) (b : Int) : Int := if vMach m = true ∧ vConf m c = true then if 1 ≤ b ∧ b ≤ 20000 then 0 else 2 else 1
end Go.Proofs.YtnkeamihfiobdaaGreatDoor
end
section
set_option linter.unusedVariables false
set_option linter.unusedSimpArgs false
set_option maxRecDepth 100000
set_option maxHeartbeats 4000000
namespace Go.Proofs.YtnkeamihfiobdaaGreatDoor
open Go Foot
@[irreducible] def pushL (l : List Int) (x : Int) : List Int := if x = 0 ∧ l = [] then l else l ++ [x]
end Go.Proofs.YtnkeamihfiobdaaGreatDoor
end
section
set_option linter.unusedVariables false
set_option linter.unusedSimpArgs false
set_option maxRecDepth 100000
set_option maxHeartbeats 4000000
namespace Go.Proofs.YtnkeamihfiobdaaGreatDoor
open Go Foot
theorem pushL_len (l : List Int) (x : Int) : (pushL l x).length ≤ l.length + 1 := by unfold pushL; split <;> simp
end Go.Proofs.YtnkeamihfiobdaaGreatDoor
end
section
set_option linter.unusedVariables false
set_option linter.unusedSimpArgs false
set_option maxRecDepth 100000
set_option maxHeartbeats 4000000
namespace Go.Proofs.YtnkeamihfiobdaaGreatDoor
open Go Foot
theorem vSide_bd {sy : Int} {l : List Int} (h : vSide sy l = true) : (l.length : Int) ≤ 200 ∧ (∀ x ∈ l,0 ≤ x ∧ x ≤ sy - 1) ∧ l.getLastD 1 ≠ 0 := by
  unfold vSide at h
  simp only [Bool.and_eq_true,List.all_eq_true,decide_eq_true_eq] at h
  exact ⟨h.2.1,h.1,h.2.2⟩
theorem vConf_bd {m : Mach} {c : Conf} (h : vConf m c = true) : (0 ≤ c.st ∧ c.st ≤ m.st - 1) ∧ vSide m.sy c.le = true ∧ vSide m.sy c.ri = true := by
  unfold vConf at h
  simp only [Bool.and_eq_true,decide_eq_true_eq] at h
  exact ⟨h.1.1,h.1.2,h.2⟩
abbrev noR : Rule' := ⟨0,0,-1⟩
@[irreducible] def ruAt (m : Mach) (c : Conf) : Rule' := m.ru.getD (c.st * m.sy + c.ri.headD 0).toNat noR
theorem headD_bd {sy : Int} {l : List Int} (hs : 2 ≤ sy) (h : vSide sy l = true) : 0 ≤ l.headD 0 ∧ l.headD 0 ≤ sy - 1 := by
  have := (vSide_bd h).2.1
  cases l with
  | nil => simp; omega
  | cons a l => exact this a (by simp)
theorem at_bd {m : Mach} {c : Conf} (hm : vMach m = true) (hc : vConf m c = true) : 0 ≤ c.st * m.sy ∧ 0 ≤ c.ri.headD 0 ∧ c.ri.headD 0 ≤ 5 ∧ c.st * m.sy + c.ri.headD 0 < m.ru.length ∧ (m.ru.length : Int) ≤ 6000 ∧ c.st ≤ 999 ∧ 0 ≤ c.st ∧ (c.le.length : Int) ≤ 200 ∧ (c.ri.length : Int) ≤ 200 := by
  obtain ⟨⟨h1,h2⟩,⟨h3,h4⟩,h5⟩ := vMach_bd hm
  obtain ⟨⟨h6,h7⟩,h8,h9⟩ := vConf_bd hc
  obtain ⟨h10,h11⟩ := headD_bd h1 h9
  have a1 : c.st * m.sy ≤ (m.st - 1) * m.sy := Int.mul_le_mul_of_nonneg_right h7 (by omega)
  have a2 : (m.st - 1) * m.sy = m.sy * m.st - m.sy := by rw [Int.sub_mul,Int.mul_comm]; omega
  have a3 : m.sy * m.st ≤ 6 * m.st := Int.mul_le_mul_of_nonneg_right h2 (by omega)
  exact ⟨Int.mul_nonneg h6 (by omega),h10,by omega,by omega,by omega,by omega,h6,(vSide_bd h8).1,(vSide_bd h9).1⟩
theorem ruAt_get {m : Mach} {c : Conf} (hm : vMach m = true) (hc : vConf m c = true) : m.ru[(c.st * m.sy + c.ri.headD 0).toNat]? = some (ruAt m c) := by
  have h := at_bd hm hc
  rw [ruAt,List.getD_eq_getElem?_getD,List.getElem?_eq_getElem (by omega)]
  rfl
theorem ruAt_ok {m : Mach} {c : Conf} (hm : vMach m = true) (hc : vConf m c = true) (hn : ruAt m c ≠ noR) : (0 ≤ (ruAt m c).w ∧ (ruAt m c).w ≤ m.sy - 1) ∧ ((ruAt m c).m = 1 ∨ (ruAt m c).m = -1) ∧ 0 ≤ (ruAt m c).n ∧ (ruAt m c).n ≤ m.st - 1 := by
  have hg := ruAt_get hm hc
  have := hm
  unfold vMach at this
  rw [Bool.and_eq_true,List.all_eq_true] at this
  have := this.2 _ (List.mem_of_getElem? hg)
  unfold okRule at this
  rw [decide_eq_true_eq] at this
  exact this.resolve_left hn
end Go.Proofs.YtnkeamihfiobdaaGreatDoor
end
section
set_option linter.unusedVariables false
set_option linter.unusedSimpArgs false
set_option maxRecDepth 100000
set_option maxHeartbeats 4000000
namespace Go.Proofs.YtnkeamihfiobdaaGreatDoor
open Go Foot
structure Out (σ : Type) where
  x : σ
  n : Int
  c : Conf
  hd : Int
  halts : Bool
  full : Bool
section
variable {σ : Type} {m : Mach} {fc : Conf → Int → σ → σ} {fs : Conf → Int → Rule' → σ → σ} {b n hd : Int} {c : Conf} {x : σ} {O : Out σ}
end
theorem ask_ok {m : Mach} {c : Conf} {b : Int} (h : askC m c b = 0) : vMach m = true ∧ vConf m c = true ∧ 1 ≤ b ∧ b ≤ 20000 := by
  unfold askC at h
  split at h
  · rename_i h1
    split at h
    · rename_i h2; exact ⟨h1.1,h1.2,h2.1,h2.2⟩
    · cases h
  · cases h
end Go.Proofs.YtnkeamihfiobdaaGreatDoor
end
section
set_option linter.unusedVariables false
set_option linter.unusedSimpArgs false
set_option maxRecDepth 100000
set_option maxHeartbeats 4000000
namespace Go.Proofs.YtnkeamihfiobdaaGreatDoor
open Go Foot
structure Prf where
  k : Int
  nu : List Int
  wo : List (List Int)
end Go.Proofs.YtnkeamihfiobdaaGreatDoor
end
section
set_option linter.unusedVariables false
set_option linter.unusedSimpArgs false
set_option maxRecDepth 100000
set_option maxHeartbeats 4000000
namespace Go.Proofs.YtnkeamihfiobdaaGreatDoor
open Go Foot
end Go.Proofs.YtnkeamihfiobdaaGreatDoor
end
section
set_option linter.unusedVariables false
set_option linter.unusedSimpArgs false
set_option maxRecDepth 100000
set_option maxHeartbeats 4000000
namespace Go.Proofs.YtnkeamihfiobdaaGreatDoor
open Go Foot
end Go.Proofs.YtnkeamihfiobdaaGreatDoor
end
section
set_option linter.unusedVariables false
set_option linter.unusedSimpArgs false
set_option maxRecDepth 100000
namespace Go.Proofs.YtnkeamihfiobdaaGreatDoor
open Go Foot
section
variable {P : Program} {g : Gh} {dst : Option Tmp} {ty : TypeId} {pos : String} {after : Array Edge} {guard : Option (Nat × Bool)} {st : St} {x y : Operand}
end
end Go.Proofs.YtnkeamihfiobdaaGreatDoor
end
section
set_option linter.unusedVariables false
set_option linter.unusedSimpArgs false
set_option maxRecDepth 100000
set_option maxHeartbeats 4000000
namespace Go.Proofs.YtnkeamihfiobdaaGreatDoor
open Go Foot
end Go.Proofs.YtnkeamihfiobdaaGreatDoor
end
section
set_option linter.unusedVariables false
set_option linter.unusedSimpArgs false
set_option maxRecDepth 100000
set_option maxHeartbeats 4000000
namespace Go.Proofs.YtnkeamihfiobdaaGreatDoor
open Go Foot
end Go.Proofs.YtnkeamihfiobdaaGreatDoor
end
section
set_option linter.unusedVariables false
set_option linter.unusedSimpArgs false
set_option maxRecDepth 100000
set_option maxHeartbeats 4000000
namespace Go.Proofs.YtnkeamihfiobdaaGreatDoor
open Go Foot
end Go.Proofs.YtnkeamihfiobdaaGreatDoor
end
section
set_option linter.unusedVariables false
set_option linter.unusedSimpArgs false
set_option maxRecDepth 100000
set_option maxHeartbeats 4000000
namespace Go.Proofs.YtnkeamihfiobdaaGreatDoor
open Go Foot
structure Verd where
  m : Mach
  p : Prf
structure VeGd (v : Verd) : Prop where
  a : (v.m.ru.length : Int) ≤ 16777216
  b : (v.p.nu.length : Int) ≤ 16777216
  c : (v.p.wo.length : Int) ≤ 16777216
  d : ∀ x ∈ v.p.wo,(x.length : Int) ≤ 16777216
end Go.Proofs.YtnkeamihfiobdaaGreatDoor
end
section
set_option linter.unusedVariables false
set_option linter.unusedSimpArgs false
set_option maxRecDepth 100000
set_option maxHeartbeats 4000000
namespace Go.Proofs.YtnkeamihfiobdaaGreatDoor
open Go Foot
structure LsGd (l : List Verd) : Prop where
  n : (l.length : Int) ≤ 16777216
  a : ∀ v ∈ l,VeGd v
theorem ls_at {l : List Verd} (g : LsGd l) {i : Nat} (h : i < l.length) : VeGd l[i] := g.a _ (List.getElem_mem h)
end Go.Proofs.YtnkeamihfiobdaaGreatDoor
end
section
set_option linter.unusedVariables false
set_option linter.unusedSimpArgs false
set_option maxRecDepth 100000
set_option maxHeartbeats 4000000
namespace Go.Proofs.YtnkeamihfiobdaaGreatDoor
open Go Foot
end Go.Proofs.YtnkeamihfiobdaaGreatDoor
end
section
set_option linter.unusedVariables false
set_option linter.unusedSimpArgs false
set_option maxRecDepth 100000
set_option maxHeartbeats 4000000
namespace Go.Proofs.YtnkeamihfiobdaaGreatDoor
open Go Foot
section
variable {m : Mach} {d n a b : Int} {c : Conf} {O : Option (Conf × Int × Int)}
end
end Go.Proofs.YtnkeamihfiobdaaGreatDoor
end
section
set_option linter.unusedVariables false
set_option linter.unusedSimpArgs false
set_option maxRecDepth 100000
set_option maxHeartbeats 4000000
namespace Go.Proofs.YtnkeamihfiobdaaGreatDoor
open Go Foot
end Go.Proofs.YtnkeamihfiobdaaGreatDoor
end
section
set_option linter.unusedVariables false
set_option linter.unusedSimpArgs false
set_option maxRecDepth 100000
set_option maxHeartbeats 4000000
namespace Go.Proofs.YtnkeamihfiobdaaGreatDoor
open Go Foot
structure ItOut (X : Type) where
  x : X
  j : Option Code
  c : Conf
section
variable {X : Type} {m : Mach} {bd : X → Conf × Int × Bool → X × Option Code} {b n : Int} {c : Conf} {x : X} {O : ItOut X} {k : Nat}
end
end Go.Proofs.YtnkeamihfiobdaaGreatDoor
end
section
set_option linter.unusedVariables false
set_option linter.unusedSimpArgs false
set_option maxRecDepth 100000
set_option maxHeartbeats 4000000
namespace Go.Proofs.YtnkeamihfiobdaaGreatDoor
open Go Foot
end Go.Proofs.YtnkeamihfiobdaaGreatDoor
end
section
set_option linter.unusedVariables false
set_option linter.unusedSimpArgs false
set_option maxRecDepth 100000
set_option maxHeartbeats 4000000
namespace Go.Proofs.YtnkeamihfiobdaaGreatDoor
open Go Foot
end Go.Proofs.YtnkeamihfiobdaaGreatDoor
end
section
set_option linter.unusedVariables false
set_option linter.unusedSimpArgs false
set_option maxRecDepth 100000
set_option maxHeartbeats 4000000
namespace Go.Proofs.YtnkeamihfiobdaaGreatDoor
open Go Foot
section
variable {m : Mach}
end
end Go.Proofs.YtnkeamihfiobdaaGreatDoor
end
section
set_option linter.unusedVariables false
set_option linter.unusedSimpArgs false
set_option maxRecDepth 100000
set_option maxHeartbeats 4000000
namespace Go.Proofs.YtnkeamihfiobdaaGreatDoor
open Go Foot
structure Part where
  st : Int
  pl : Int
  ce : List Int
  deriving DecidableEq
structure PtGd (x : Part) : Prop where
  a : 0 ≤ x.pl
  b : x.pl < x.ce.length
  c : (x.ce.length : Int) ≤ 1000
end Go.Proofs.YtnkeamihfiobdaaGreatDoor
end
