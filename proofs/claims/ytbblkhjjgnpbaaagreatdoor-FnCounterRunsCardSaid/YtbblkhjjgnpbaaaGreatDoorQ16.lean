/- Parts of the proof (16 of 21). -/
import Derived.Lib.AppendZerosOnto
import Derived.Test.YtbblkhjjgnpbaaaGreatDoorQ15
section
set_option linter.unusedVariables false
set_option linter.unusedSimpArgs false
set_option maxRecDepth 100000
namespace Go.Proofs.YtbblkhjjgnpbaaaGreatDoor
open Go Foot
section
variable {P : Program} {g : Gh} {st : St} {dst : Option Tmp} {ty : TypeId} {pos : String} {after : Array Edge} {guard : Option (Nat × Bool)} {x y : Operand}
end
end Go.Proofs.YtbblkhjjgnpbaaaGreatDoor
end
section
set_option linter.unusedVariables false
set_option linter.unusedSimpArgs false
set_option maxRecDepth 100000
set_option maxHeartbeats 4000000
namespace Go.Proofs.YtbblkhjjgnpbaaaGreatDoor
open Go Foot
end Go.Proofs.YtbblkhjjgnpbaaaGreatDoor
end
section
set_option linter.unusedVariables false
set_option linter.unusedSimpArgs false
set_option maxRecDepth 100000
set_option maxHeartbeats 4000000
namespace Go.Proofs.YtbblkhjjgnpbaaaGreatDoor
open Go Foot
end Go.Proofs.YtbblkhjjgnpbaaaGreatDoor
end
section
set_option linter.unusedVariables false
set_option linter.unusedSimpArgs false
set_option maxRecDepth 100000
set_option maxHeartbeats 4000000
namespace Go.Proofs.YtbblkhjjgnpbaaaGreatDoor
open Go Foot
structure PtOk (m : Mach) (x : Part) : Prop where
  s : 0 ≤ x.st ∧ x.st ≤ m.st - 1
  a : 0 ≤ x.pl ∧ x.pl < x.ce.length
  l : (x.ce.length : Int) ≤ 60
  c : ∀ v ∈ x.ce,0 ≤ v ∧ v ≤ m.sy - 1
theorem pt_gd {m : Mach} {x : Part} (g : PtOk m x) : PtGd x := ⟨g.a.1,g.a.2,by have := g.l; omega⟩
end Go.Proofs.YtbblkhjjgnpbaaaGreatDoor
end
section
set_option linter.unusedVariables false
set_option linter.unusedSimpArgs false
set_option maxRecDepth 100000
set_option maxHeartbeats 4000000
namespace Go.Proofs.YtbblkhjjgnpbaaaGreatDoor
open Go Foot
structure LvOk (m : Mach) (l : List Part) : Prop where
  n : (l.length : Int) ≤ 6000
  a : ∀ x ∈ l,PtOk m x
theorem lv_at {m : Mach} {l : List Part} (g : LvOk m l) {i : Nat} (h : i < l.length) : PtOk m l[i] := g.a _ (List.getElem_mem h)
end Go.Proofs.YtbblkhjjgnpbaaaGreatDoor
end
section
set_option linter.unusedVariables false
set_option linter.unusedSimpArgs false
set_option maxRecDepth 100000
set_option maxHeartbeats 4000000
namespace Go.Proofs.YtbblkhjjgnpbaaaGreatDoor
open Go Foot
end Go.Proofs.YtbblkhjjgnpbaaaGreatDoor
end
section
set_option linter.unusedVariables false
set_option linter.unusedSimpArgs false
set_option maxRecDepth 100000
set_option maxHeartbeats 4000000
namespace Go.Proofs.YtbblkhjjgnpbaaaGreatDoor
open Go Foot
end Go.Proofs.YtbblkhjjgnpbaaaGreatDoor
end
section
set_option linter.unusedVariables false
set_option linter.unusedSimpArgs false
set_option maxRecDepth 100000
set_option maxHeartbeats 4000000
namespace Go.Proofs.YtbblkhjjgnpbaaaGreatDoor
open Go Foot
end Go.Proofs.YtbblkhjjgnpbaaaGreatDoor
end
section
set_option linter.unusedVariables false
set_option linter.unusedSimpArgs false
set_option maxRecDepth 100000
set_option maxHeartbeats 4000000
namespace Go.Proofs.YtbblkhjjgnpbaaaGreatDoor
open Go Foot
end Go.Proofs.YtbblkhjjgnpbaaaGreatDoor
end
section
set_option linter.unusedVariables false
set_option linter.unusedSimpArgs false
set_option maxRecDepth 100000
set_option maxHeartbeats 4000000
namespace Go.Proofs.YtbblkhjjgnpbaaaGreatDoor
open Go Foot
def isDg (c : UInt8) : Prop := 48 ≤ c.toNat ∧ c.toNat ≤ 57
def valD (l : Bs) : Nat := l.foldl (fun a c => 10 * a + (c.toNat - 48)) 0
theorem valD_snoc (l : Bs) (c : UInt8) : valD (l ++ [c]) = 10 * valD l + (c.toNat - 48) := by unfold valD; rw [List.foldl_append]; rfl
theorem dg_nat {d : Nat} (h : d < 10) : isDg (UInt8.ofNat (48 + d)) ∧ (UInt8.ofNat (48 + d)).toNat - 48 = d := by
  have : (UInt8.ofNat (48 + d)).toNat = 48 + d := by rw [UInt8.toNat_ofNat']; omega
  unfold isDg
  omega
theorem dec_val : ∀ (u : Nat),valD (Lib.decDigits u) = u ∧ (∀ c ∈ Lib.decDigits u,isDg c) ∧ Lib.decDigits u ≠ [] := by
  intro u
  induction u using Nat.strongRecOn with
  | _ u ih =>
    rw [Lib.decDigits]
    by_cases h : u < 10
    · rw [dif_pos h]
      obtain ⟨d1,d2⟩ := dg_nat h
      refine ⟨?_,fun c hc => by rw [List.mem_singleton.1 hc]; exact d1,by simp⟩
      have := valD_snoc [] (UInt8.ofNat (48 + u))
      rw [List.nil_append,d2] at this
      rw [this]
      simp [valD]
    · rw [dif_neg h]
      obtain ⟨i1,i2,i3⟩ := ih (u / 10) (by omega)
      obtain ⟨d1,d2⟩ := dg_nat (show u % 10 < 10 by omega)
      refine ⟨by rw [valD_snoc,i1,d2]; omega,fun c hc => ?_,by simp⟩
      rcases List.mem_append.1 hc with hc | hc
      · exact i2 c hc
      · rw [List.mem_singleton.1 hc]; exact d1
theorem decT_nat {n : Int} (h : 0 ≤ n) : decT n = Lib.decDigits n.toNat := by
  unfold decT Lib.itoa
  rw [if_neg (by omega)]
theorem decT_dg {n : Int} (h : 0 ≤ n) : ∀ c ∈ decT n,isDg c := by rw [decT_nat h]; exact (dec_val _).2.1
end Go.Proofs.YtbblkhjjgnpbaaaGreatDoor
end
section
set_option linter.unusedVariables false
set_option linter.unusedSimpArgs false
set_option maxRecDepth 100000
namespace Go.Proofs.YtbblkhjjgnpbaaaGreatDoor
open Go Foot
@[irreducible] def mulW (a b : Int) : Int := IntKind.u64.wrap (a * b)
@[irreducible] def addW (a b : Int) : Int := IntKind.u64.wrap (a + b)
@[irreducible] def cnvW (a : Int) : Int := IntKind.u64.wrap a
@[irreducible] def shrW (a b : Int) : Int := a.fdiv (2 ^ min b.toNat IntKind.u64.bits)
@[irreducible] def andW (a b : Int) : Int := IntKind.u64.wrap ((BitVec.ofInt IntKind.u64.bits a &&& BitVec.ofInt IntKind.u64.bits b).toNat : Nat)
theorem andW_le (a : Int) : 0 ≤ andW a 255 ∧ andW a 255 ≤ 255 := by
  have h : (BitVec.ofInt IntKind.u64.bits a &&& BitVec.ofInt IntKind.u64.bits 255).toNat ≤ 255 := by
    show (BitVec.ofInt 64 a &&& BitVec.ofInt 64 255).toNat ≤ 255
    rw [BitVec.toNat_and]
    have h5 : (BitVec.ofInt 64 255).toNat = 255 := by decide
    rw [h5]
    exact Nat.and_le_right
  unfold andW
  rw [wrapU (by omega) (by omega)]
  omega
section
variable {P : Program} {g : Gh} {st : St}
variable {dst : Option Tmp} {ty : TypeId} {pos : String} {after : Array Edge} {guard : Option (Nat × Bool)} {x y : Operand} {T U : TypeId} {a b : Int}
theorem w_mul (e1 : opd st x = .one (u64 a)) (e2 : opd st y = .one (u64 b)) : Acts P g ⟨dst,.binOp .mul T x y U,ty,pos,after,guard⟩ st (.one (u64 (mulW a b))) [] [] := by
  unfold mulW
  exact a_bin (op := .mul) e1 e2 rfl trivial
theorem w_add (e1 : opd st x = .one (u64 a)) (e2 : opd st y = .one (u64 b)) : Acts P g ⟨dst,.binOp .add T x y U,ty,pos,after,guard⟩ st (.one (u64 (addW a b))) [] [] := by
  unfold addW
  exact a_bin (op := .add) e1 e2 rfl trivial
theorem w_and (e1 : opd st x = .one (u64 a)) (e2 : opd st y = .one (u64 b)) : Acts P g ⟨dst,.binOp .and T x y U,ty,pos,after,guard⟩ st (.one (u64 (andW a b))) [] [] := by
  unfold andW
  exact a_bin (op := .and) e1 e2 rfl trivial
theorem w_shr (e1 : opd st x = .one (u64 a)) (e2 : opd st y = .one (u64 b)) (h : 0 ≤ b) : Acts P g ⟨dst,.binOp .shr T x y U,ty,pos,after,guard⟩ st (.one (u64 (shrW a b))) [] [] := by
  unfold shrW
  exact a_bin (op := .shr) e1 e2 rfl h
theorem w_cnv (e1 : opd st x = .one (int a)) (hT : P.underlying T = some (.int .i64)) (hU : P.underlying U = some (.int .u64)) : Acts P g ⟨dst,.convert T U x,ty,pos,after,guard⟩ st (.one (u64 (cnvW a))) [] [] := by
  unfold cnvW
  exact a_conv e1 (by rw [hT]; rfl) hU
end
end Go.Proofs.YtbblkhjjgnpbaaaGreatDoor
end
section
set_option linter.unusedVariables false
set_option linter.unusedSimpArgs false
set_option maxRecDepth 100000
set_option maxHeartbeats 4000000
namespace Go.Proofs.YtbblkhjjgnpbaaaGreatDoor
open Go Foot
abbrev shY (l : List Int) : C := .d (.sl false 1 (rows eY l))
structure Src where
  co : List Int
  pl : Int
  sd : Int
abbrev srB (s : Src) : GB := .bx [shY s.co,int s.pl,u64 s.sd]
structure SrOk (s : Src) : Prop where
  n : (s.co.length : Int) ≤ 9223372036854775807
  p : 0 ≤ s.pl ∧ s.pl ≤ 1000000000000000000
  b : ∀ x ∈ s.co,0 ≤ x ∧ x ≤ 255
@[irreducible] def nxB (s : Src) : Int := if s.pl < s.co.length then s.co.getD s.pl.toNat 0 else 0
@[irreducible] def nxS (s : Src) : Src := ⟨s.co,s.pl + 1,addW (addW (mulW s.sd 6364136223846793005) (cnvW (nxB s))) 1442695040888963407⟩
@[irreducible] def nxV (s : Src) : Int := if s.pl + 1 ≤ s.co.length then nxB s else andW (shrW (nxS s).sd 40) 255
theorem nxB_bd {s : Src} (g : SrOk s) : 0 ≤ nxB s ∧ nxB s ≤ 255 := by
  unfold nxB
  split
  · rename_i h
    have := g.p
    rw [List.getD_eq_getElem?_getD,List.getElem?_eq_getElem (by omega)]
    exact g.b _ (List.getElem_mem _)
  · omega
theorem nxV_bd {s : Src} (g : SrOk s) : 0 ≤ nxV s ∧ nxV s ≤ 255 := by
  unfold nxV
  split
  · exact nxB_bd g
  · exact andW_le _
theorem preB76 {p : Prop} (h : p := by first | with_reducible assumption | omega | (simp only [List.length_append,List.length_cons,List.length_nil,List.length_set,List.length_replicate,List.length_take,List.length_drop,List.length_tail,List.length_dropLast,List.length_reverse] at *; omega) | exact mem_len (by assumption) (by omega) | (with_reducible refine Int.le_trans (Int.ofNat_le.2 (trimR_len _)) ?_; simp only [List.length_cons,List.length_tail]; omega) | (exact (ruAt_ok (by assumption) (by assumption) (by assumption)).2.1) | (exact (ruAt_ok (by assumption) (by assumption) (by assumption)).2.1) | (have := vMach_bd (by assumption); omega) | (simp only [mC_ch,mC_tu]; omega) | (have := vTag_bd (by assumption); omega) | (have := (‹Gd _ _›).le; omega) | (exact tgHalts_no (by assumption)) | (exact tgHead (by assumption) (by assumption) (by assumption)) | (exact Int.le_trans (tgStep_gd (by assumption) (by assumption) (by assumption) (by assumption)).le (by decide)) | (exact vTag_r (by assumption)) | (with_reducible refine Int.le_trans (Int.ofNat_le.2 (pushL_len _ _)) ?_; simp only [List.length_dropLast]; omega) | exact ls_at (by assumption) (by omega) | exact pt_gd (by assumption) | exact lv_at (by assumption) (by omega) | exact pt_gd (lv_at (by assumption) (by omega)) | exact (ask_ok (by assumption)).1 | exact (ask_ok (by assumption)).2.1 | exact (ask_ok (by assumption)).2.2.1 | exact (ask_ok (by assumption)).2.2.2 | trivial) : p := h
theorem srcFrom_ok (l : List Int) : Does Tryz.prog 78 [.one (shY l)] [] (.one (.gv 0)) [srB ⟨l,0,0⟩] := by
  refine does_of (k := 0) Tryz.func78 rfl Tryz.ntmps78 rfl rfl fun w F0 S0 ρ0 => ?_
  dsimp only [argT,argH]
  repeat' first|(apply n3;exact a_new (gb := .bx _) rfl;exact rfl;refine dA ?_)|(apply p3;exact pu1;exact rfl)|refine cd ?_
  repeat refine cr ?_
  refine ends_id ?_
  refine endK [?_] (h2 := ?_) (h3 := ?_) (nd := ?_)
  rotate_left 1
  all_goals (repeat' first|exact ce0|refine ce ?_|refine ce2 ?_ ?_|(refine Or.inr (bx_eq rfl rfl ?_);(try dsimp only [C.ren,C.ren.all]);(try exact rfl))|exact SVLe.refl|refine ceb ?_)
  all_goals first | exact (show nodupB _ = true from rfl) | exact Or.inr rfl | (rfl)
theorem nxS_eq {s : Src} {b : Int} (h : nxB s = b) : nxS s = ⟨s.co,s.pl + 1,addW (addW (mulW s.sd 6364136223846793005) (cnvW b)) 1442695040888963407⟩ := by unfold nxS; rw [h]
theorem srcNext_ok (s : Src) (g : SrOk s) : Does Tryz.prog 185 [.one (.gv 0)] [srB s] (.one (int (nxV s))) [srB (nxS s)] := by
  have hp := g.p
  have hn := g.n
  by_cases hl : s.pl < s.co.length
  · have hg := g.b _ (List.getElem_mem (show s.pl.toNat < s.co.length by omega))
    have hb : nxB s = s.co[s.pl.toNat]'(by omega) := by
      unfold nxB
      rw [if_pos hl,List.getD_eq_getElem?_getD,List.getElem?_eq_getElem (by omega)]
      rfl
    have hv : nxV s = s.co[s.pl.toNat]'(by omega) := by unfold nxV; rw [if_pos (by omega),hb]
    rw [hv,nxS_eq hb]
    refine does_of (k := 1) Tryz.func185 rfl Tryz.ntmps185 rfl rfl fun w F0 S0 ρ0 => ?_
    dsimp only [argT,argH]
    repeat' first|(apply p3;(first|exact pu1|exact a_add rfl rfl (by omega) (by omega)|exact w_mul rfl rfl|exact w_cnv rfl Tryz.underlying3 Tryz.underlying245|exact w_add rfl rfl);exact rfl)|refine cd ?_|(apply w3;(exact a_st_bx rfl rfl rfl rfl (fN rfl rfl) (Nat.le_of_ble_eq_true rfl) rfl);exact rfl;refine dS ?_)|(apply g_drN (id := 2) okM [[],[0],[0,1],[0,1,2],[],[4],[4,5],[4,5,6],[4,5,6,7],[0,1,2,3,4,5,6,7,8]] [([],[]),([],[]),([],[]),([],[]),([],[]),([],[]),([],[]),([],[]),([],[]),([],[])] 0;(focus (refine dp 0 0 [8,9,10,11,12] [] pu1 ?_;refine dp 1 1 [8,9,10,11,12] [] (a_pure (sv := .one _) rfl) ?_;refine dp 2 3 [8,9,10,11,12] [] (a_pure (sv := .one _) rfl) ?_;refine dp 3 7 [8,9,10,11,12] [] puL ?_;refine dp 4 0 [4,5,6,7] [] pu1 ?_;refine dp 5 1 [4,5,6,7] [] (a_pure (sv := .one _) rfl) ?_;refine dp 6 3 [4,5,6,7] [] (a_pure (sv := .one _) rfl) ?_;refine dp 7 7 [4,5,6,7] [] puL ?_;refine dp 8 15 [4,5,6,7] [] (by exact puN) ?_;refine dp 9 511 [] [] puC ?_;(refine d_nil ?_;refine dN ?_)));any_goals kernel_rfl)|(apply g_drN (id := 3) okM [[],[0],[0,1],[0,1,2],[],[4],[4,5],[4,5,6],[0,1,2,3,4,5,6,7],[0,1,2,3,4,5,6,7,8],[0,1,2,3,4,5,6,7,8,9],[0,1,2,3,4,5,6,7,8,9,10]] [([],[]),([],[]),([],[]),([],[]),([],[]),([],[]),([],[]),([],[]),([],[]),([],[]),([],[]),([],[])] 0;(focus (refine dp 0 0 [18,19,20,21] [] pu1 ?_;refine dp 1 1 [18,19,20,21] [] (a_pure (sv := .one _) rfl) ?_;refine dp 2 3 [18,19,20,21] [] (a_pure (sv := .one _) rfl) ?_;refine dp 3 7 [18,19,20,21] [] puL ?_;refine dp 4 0 [14,15,16,17] [] pu1 ?_;refine dp 5 1 [14,15,16,17] [] (a_pure (sv := .one _) rfl) ?_;refine dp 6 3 [14,15,16,17] [] (a_pure (sv := .one _) rfl) ?_;refine dp 7 7 [14,15,16,17] [] puL ?_;refine dp 8 255 [] [] puI ?_;refine dp 9 511 [] [] (by exact a_pure (sv := .one _) rfl) ?_;refine dp 10 1023 [] [] (a_of8 rfl Tryz.underlying5 Tryz.underlying3 (by omega) (by omega)) ?_;refine dp 11 2047 [] [] pu1 ?_;(refine d_nil ?_;refine dN ?_)));any_goals kernel_rfl)|(apply g_drN (id := 6) okM [[],[0],[0,1],[0,1,2],[],[4],[4,5],[4,5,6],[4,5,6,7],[0,1,2,3,4,5,6,7,8]] [([],[]),([],[]),([],[]),([],[]),([],[]),([],[]),([],[]),([],[]),([],[]),([],[])] 0;(focus (refine dp 0 0 [48,49,50,51,52] [] pu1 ?_;refine dp 1 1 [48,49,50,51,52] [] (a_pure (sv := .one _) rfl) ?_;refine dp 2 3 [48,49,50,51,52] [] (a_pure (sv := .one _) rfl) ?_;refine dp 3 7 [48,49,50,51,52] [] puL ?_;refine dp 4 0 [44,45,46,47] [] pu1 ?_;refine dp 5 1 [44,45,46,47] [] (a_pure (sv := .one _) rfl) ?_;refine dp 6 3 [44,45,46,47] [] (a_pure (sv := .one _) rfl) ?_;refine dp 7 7 [44,45,46,47] [] puL ?_;refine dp 8 15 [44,45,46,47] [] (by exact puN) ?_;refine dp 9 511 [] [] puC ?_;(refine d_nil ?_;refine dN ?_)));any_goals kernel_rfl)|((refine g_cond rfl (fun hc => ?_) (fun hc => ?_)) <;> (try simp only [dcB] at hc) <;> (try first|contradiction|(exfalso;omega)))
    repeat refine cr ?_
    refine ends_id ?_
    refine endK [] (h2 := ?_) (h3 := ?_) (nd := ?_)
    all_goals (repeat' first|exact ce0|refine ce ?_|refine ce2 ?_ ?_|(refine Or.inr (bx_eq rfl rfl ?_);(try dsimp only [C.ren,C.ren.all]);(try exact rfl))|exact SVLe.refl|refine ceb ?_)
    all_goals first | exact (show nodupB _ = true from rfl) | exact Or.inr rfl | (rfl)
  · have hb : nxB s = 0 := by unfold nxB; rw [if_neg hl]
    have hv : nxV s = andW (shrW (nxS s).sd 40) 255 := by unfold nxV; rw [if_neg (by omega)]
    rw [nxS_eq hb] at hv ⊢
    rw [hv]
    have h9 := andW_le (shrW (addW (addW (mulW s.sd 6364136223846793005) (cnvW 0)) 1442695040888963407) 40)
    refine does_of (k := 1) Tryz.func185 rfl Tryz.ntmps185 rfl rfl fun w F0 S0 ρ0 => ?_
    dsimp only [argT,argH]
    repeat' first|(apply p3;(first|exact pu1|exact a_add rfl rfl (by omega) (by omega)|exact w_mul rfl rfl|exact w_cnv rfl Tryz.underlying3 Tryz.underlying245|exact w_add rfl rfl|exact w_shr rfl rfl (by decide)|exact w_and rfl rfl|exact u_vnoc rfl Tryz.underlying245 Tryz.underlying2 bnd bnd);exact rfl)|refine cd ?_|(apply w3;(exact a_st_bx rfl rfl rfl rfl (fN rfl rfl) (Nat.le_of_ble_eq_true rfl) rfl);exact rfl;refine dS ?_)|(apply g_drN (id := 2) okM [[],[0],[0,1],[0,1,2],[],[4],[4,5],[4,5,6],[4,5,6,7],[0,1,2,3,4,5,6,7,8]] [([],[]),([],[]),([],[]),([],[]),([],[]),([],[]),([],[]),([],[]),([],[]),([],[])] 0;(focus (refine dp 0 0 [8,9,10,11,12] [] pu1 ?_;refine dp 1 1 [8,9,10,11,12] [] (a_pure (sv := .one _) rfl) ?_;refine dp 2 3 [8,9,10,11,12] [] (a_pure (sv := .one _) rfl) ?_;refine dp 3 7 [8,9,10,11,12] [] puL ?_;refine dp 4 0 [4,5,6,7] [] pu1 ?_;refine dp 5 1 [4,5,6,7] [] (a_pure (sv := .one _) rfl) ?_;refine dp 6 3 [4,5,6,7] [] (a_pure (sv := .one _) rfl) ?_;refine dp 7 7 [4,5,6,7] [] puL ?_;refine dp 8 15 [4,5,6,7] [] (by exact puN) ?_;refine dp 9 511 [] [] puC ?_;(refine d_nil ?_;refine dN ?_)));any_goals kernel_rfl)|(apply g_drN (id := 6) okM [[],[0],[0,1],[0,1,2],[],[4],[4,5],[4,5,6],[4,5,6,7],[0,1,2,3,4,5,6,7,8]] [([],[]),([],[]),([],[]),([],[]),([],[]),([],[]),([],[]),([],[]),([],[]),([],[])] 0;(focus (refine dp 0 0 [48,49,50,51,52] [] pu1 ?_;refine dp 1 1 [48,49,50,51,52] [] (a_pure (sv := .one _) rfl) ?_;refine dp 2 3 [48,49,50,51,52] [] (a_pure (sv := .one _) rfl) ?_;refine dp 3 7 [48,49,50,51,52] [] puL ?_;refine dp 4 0 [44,45,46,47] [] pu1 ?_;refine dp 5 1 [44,45,46,47] [] (a_pure (sv := .one _) rfl) ?_;refine dp 6 3 [44,45,46,47] [] (a_pure (sv := .one _) rfl) ?_;refine dp 7 7 [44,45,46,47] [] puL ?_;refine dp 8 15 [44,45,46,47] [] (by exact puN) ?_;refine dp 9 511 [] [] puC ?_;(refine d_nil ?_;refine dN ?_)));any_goals kernel_rfl)|((refine g_cond rfl (fun hc => ?_) (fun hc => ?_)) <;> (try simp only [dcB] at hc) <;> (try first|contradiction|(exfalso;omega)))
    repeat refine cr ?_
    refine ends_id ?_
    refine endK [] (h2 := ?_) (h3 := ?_) (nd := ?_)
    all_goals (repeat' first|exact ce0|refine ce ?_|refine ce2 ?_ ?_|(refine Or.inr (bx_eq rfl rfl ?_);(try dsimp only [C.ren,C.ren.all]);(try exact rfl))|exact SVLe.refl|refine ceb ?_)
    all_goals first | exact (show nodupB _ = true from rfl) | exact Or.inr rfl | (rfl)
@[irreducible] def pkS (s : Src) (n : Int) : Src := if n ≤ 1 then s else if 200 < n then nxS (nxS s) else nxS s
@[irreducible] def pkV (s : Src) (n : Int) : Int := if n ≤ 1 then 0 else if 200 < n then (nxV s * 256 + nxV (nxS s)) % n else nxV s % n
theorem sr_next {s : Src} (g : SrOk s) (h : s.pl ≤ 999999999999999999) : SrOk (nxS s) := by
  unfold nxS
  exact ⟨g.n,⟨by have := g.p; dsimp only; omega,by dsimp only; omega⟩,g.b⟩
theorem nxS_pl (s : Src) : (nxS s).pl = s.pl + 1 := by unfold nxS; rfl
theorem pkS_pl (s : Src) (n : Int) : s.pl ≤ (pkS s n).pl ∧ (pkS s n).pl ≤ s.pl + 2 := by
  unfold pkS
  split
  · omega
  · split
    · rw [nxS_pl,nxS_pl]; omega
    · rw [nxS_pl]; omega
theorem sr_pick {s : Src} {n : Int} (g : SrOk s) (h : s.pl ≤ 999999999999999998) : SrOk (pkS s n) := by
  unfold pkS
  split
  · exact g
  · split
    · exact sr_next (sr_next g (by omega)) (by rw [nxS_pl]; omega)
    · exact sr_next g (by omega)
theorem pkV_bd {s : Src} {n : Int} (g : SrOk s) (h : 1 ≤ n) : 0 ≤ pkV s n ∧ pkV s n < n := by
  unfold pkV
  split
  · omega
  · split
    · exact ⟨Int.emod_nonneg _ (by omega),Int.emod_lt_of_pos _ (by omega)⟩
    · exact ⟨Int.emod_nonneg _ (by omega),Int.emod_lt_of_pos _ (by omega)⟩
theorem srcPick_ok (s : Src) (n : Int) (g : SrOk s) (h : s.pl ≤ 999999999999999998) (h1 : n ≤ 1000000) : Does Tryz.prog 79 [.one (.gv 0),.one (int n)] [srB s] (.one (int (pkV s n))) [srB (pkS s n)] := by
  have g2 := sr_next g (by omega)
  have hb := nxV_bd g
  have hb2 := nxV_bd g2
  by_cases hn : n ≤ 1
  · rw [show pkV s n = 0 by unfold pkV; rw [if_pos hn],show pkS s n = s by unfold pkS; rw [if_pos hn]]
    refine does_of (k := 1) Tryz.func79 rfl Tryz.ntmps79 rfl rfl fun w F0 S0 ρ0 => ?_
    dsimp only [argT,argH]
    repeat' first|(apply p3;(first|exact pu1|exact puC);exact rfl)|refine cd ?_|((refine g_cond rfl (fun hc => ?_) (fun hc => ?_)) <;> (try simp only [dcB] at hc) <;> (try first|contradiction|(exfalso;omega)))
    repeat refine cr ?_
    refine ends_id ?_
    refine endK [] (h2 := ?_) (h3 := ?_) (nd := ?_)
    all_goals (repeat' first|exact ce0|refine ce ?_|refine ce2 ?_ ?_|(refine Or.inr (bx_eq rfl rfl ?_);(try dsimp only [C.ren,C.ren.all]);(try exact rfl))|exact SVLe.refl|refine ceb ?_)
    all_goals first | exact (show nodupB _ = true from rfl) | exact Or.inr rfl | (rfl)
  · by_cases hn2 : 200 < n
    · rw [show pkV s n = (nxV s * 256 + nxV (nxS s)) % n by unfold pkV; rw [if_neg hn,if_pos hn2],show pkS s n = nxS (nxS s) by unfold pkS; rw [if_neg hn,if_pos hn2]]
      refine does_of (k := 1) Tryz.func79 rfl Tryz.ntmps79 rfl rfl fun w F0 S0 ρ0 => ?_
      dsimp only [argT,argH]
      repeat' first|(apply p3;(first|exact pu1|exact puC|exact a_mulB rfl rfl (by omega) (by omega) (by omega) (by omega)|exact a_add rfl rfl (by omega) (by omega)|exact a_rem rfl rfl (by omega) (by omega) (by omega));exact rfl)|refine cd ?_|(apply c4 0;exact callK0 (θ := [_]) (hD := (srcNext_ok _ preB76));exact rfl;exact rfl;exact rfl;refine dM ?_)|((refine g_cond rfl (fun hc => ?_) (fun hc => ?_)) <;> (try simp only [dcB] at hc) <;> (try first|contradiction|(exfalso;omega)))
      repeat refine cr ?_
      refine ends_id ?_
      refine endK [] (h2 := ?_) (h3 := ?_) (nd := ?_)
      all_goals (repeat' first|exact ce0|refine ce ?_|refine ce2 ?_ ?_|(refine Or.inr (bx_eq rfl rfl ?_);(try dsimp only [C.ren,C.ren.all]);(try exact rfl))|exact SVLe.refl|refine ceb ?_)
      all_goals first | exact (show nodupB _ = true from rfl) | exact Or.inr rfl | (rfl)
    · rw [show pkV s n = nxV s % n by unfold pkV; rw [if_neg hn,if_neg hn2],show pkS s n = nxS s by unfold pkS; rw [if_neg hn,if_neg hn2]]
      refine does_of (k := 1) Tryz.func79 rfl Tryz.ntmps79 rfl rfl fun w F0 S0 ρ0 => ?_
      dsimp only [argT,argH]
      repeat' first|(apply p3;(first|exact pu1|exact puC|exact a_rem rfl rfl (by omega) (by omega) (by omega));exact rfl)|refine cd ?_|(apply c4 0;exact callK0 (θ := [_]) (hD := (srcNext_ok _ preB76));exact rfl;exact rfl;exact rfl;refine dM ?_)|((refine g_cond rfl (fun hc => ?_) (fun hc => ?_)) <;> (try simp only [dcB] at hc) <;> (try first|contradiction|(exfalso;omega)))
      repeat refine cr ?_
      refine ends_id ?_
      refine endK [] (h2 := ?_) (h3 := ?_) (nd := ?_)
      all_goals (repeat' first|exact ce0|refine ce ?_|refine ce2 ?_ ?_|(refine Or.inr (bx_eq rfl rfl ?_);(try dsimp only [C.ren,C.ren.all]);(try exact rfl))|exact SVLe.refl|refine ceb ?_)
      all_goals first | exact (show nodupB _ = true from rfl) | exact Or.inr rfl | (rfl)
theorem srcOne_ok (s : Src) (n : Int) (g : SrOk s) (h : s.pl ≤ 999999999999999998) (h1 : n ≤ 1000000) : Does Tryz.prog 81 [.one (.gv 0),.one (int n)] [srB s] (.one (boo (decide (pkV s n = 0)))) [srB (pkS s n)] := by
  refine does_of (k := 1) Tryz.func81 rfl Tryz.ntmps81 rfl rfl fun w F0 S0 ρ0 => ?_
  dsimp only [argT,argH]
  repeat' first|(apply p3;(first|exact pu1|exact puC);exact rfl)|refine cd ?_|(apply c4 0;exact callK0 (θ := [_]) (hD := (srcPick_ok _ _ preB76 preB76 preB76));exact rfl;exact rfl;exact rfl;refine dM ?_)
  repeat refine cr ?_
  refine ends_id ?_
  refine endK [] (h2 := ?_) (h3 := ?_) (nd := ?_)
  all_goals (repeat' first|exact ce0|refine ce ?_|refine ce2 ?_ ?_|(refine Or.inr (bx_eq rfl rfl ?_);(try dsimp only [C.ren,C.ren.all]);(try exact rfl))|exact SVLe.refl|refine ceb ?_)
  all_goals first | exact (show nodupB _ = true from rfl) | exact Or.inr rfl | (rfl)
end Go.Proofs.YtbblkhjjgnpbaaaGreatDoor
end
section
set_option linter.unusedVariables false
set_option linter.unusedSimpArgs false
set_option maxRecDepth 100000
set_option maxHeartbeats 4000000
namespace Go.Proofs.YtbblkhjjgnpbaaaGreatDoor
open Go Foot
end Go.Proofs.YtbblkhjjgnpbaaaGreatDoor
end
section
set_option linter.unusedVariables false
set_option linter.unusedSimpArgs false
set_option maxRecDepth 100000
set_option maxHeartbeats 4000000
namespace Go.Proofs.YtbblkhjjgnpbaaaGreatDoor
open Go Foot
end Go.Proofs.YtbblkhjjgnpbaaaGreatDoor
end
section
set_option linter.unusedVariables false
set_option linter.unusedSimpArgs false
set_option maxRecDepth 100000
set_option maxHeartbeats 4000000
namespace Go.Proofs.YtbblkhjjgnpbaaaGreatDoor
open Go Foot
end Go.Proofs.YtbblkhjjgnpbaaaGreatDoor
end
section
set_option linter.unusedVariables false
set_option linter.unusedSimpArgs false
set_option maxRecDepth 100000
set_option maxHeartbeats 4000000
namespace Go.Proofs.YtbblkhjjgnpbaaaGreatDoor
open Go Foot
end Go.Proofs.YtbblkhjjgnpbaaaGreatDoor
end
section
set_option linter.unusedVariables false
set_option linter.unusedSimpArgs false
set_option maxRecDepth 100000
set_option maxHeartbeats 4000000
namespace Go.Proofs.YtbblkhjjgnpbaaaGreatDoor
open Go Foot
end Go.Proofs.YtbblkhjjgnpbaaaGreatDoor
end
section
set_option linter.unusedVariables false
set_option linter.unusedSimpArgs false
set_option maxRecDepth 100000
set_option maxHeartbeats 4000000
namespace Go.Proofs.YtbblkhjjgnpbaaaGreatDoor
open Go Foot
end Go.Proofs.YtbblkhjjgnpbaaaGreatDoor
end
section
set_option linter.unusedVariables false
set_option linter.unusedSimpArgs false
set_option maxRecDepth 100000
set_option maxHeartbeats 4000000
namespace Go.Proofs.YtbblkhjjgnpbaaaGreatDoor
open Go Foot
theorem b10Long_ok (l : List Int) (hx : (l.length : Int) ≤ 9223372036854775807) : Does Tryz.prog 26 [.one (shY l)] [] (.one (boo (decide ((l.length : Int) > 1048576)))) [] := by
  refine does_of (k := 0) Tryz.func26 rfl Tryz.ntmps26 rfl rfl fun w F0 S0 ρ0 => ?_
  dsimp only [argT,argH]
  repeat' first|(apply p3;(first|exact pu1|exact puN|exact puC);exact rfl)|refine cd ?_
  repeat refine cr ?_
  refine ends_id ?_
  refine endK [] (h2 := ?_) (h3 := ?_) (nd := ?_)
  all_goals (repeat' first|exact ce0|refine ce ?_|refine ce2 ?_ ?_|exact SVLe.refl|refine ceb ?_)
  all_goals first | exact (show nodupB _ = true from rfl) | exact Or.inr rfl | (rfl)
end Go.Proofs.YtbblkhjjgnpbaaaGreatDoor
end
section
set_option linter.unusedVariables false
set_option linter.unusedSimpArgs false
set_option maxRecDepth 100000
set_option maxHeartbeats 4000000
namespace Go.Proofs.YtbblkhjjgnpbaaaGreatDoor
open Go Foot
end Go.Proofs.YtbblkhjjgnpbaaaGreatDoor
end
section
set_option linter.unusedVariables false
set_option linter.unusedSimpArgs false
set_option maxRecDepth 100000
set_option maxHeartbeats 4000000
namespace Go.Proofs.YtbblkhjjgnpbaaaGreatDoor
open Go Foot
section
variable {P : Program} {g : Gh} {st : St} {dst : Option Tmp} {ty : TypeId} {pos : String} {after : Array Edge} {guard : Option (Nat × Bool)} {x y z : Operand} {T U : TypeId} {a b : Int}
end
end Go.Proofs.YtbblkhjjgnpbaaaGreatDoor
end
section
set_option linter.unusedVariables false
set_option linter.unusedSimpArgs false
set_option maxRecDepth 100000
set_option maxHeartbeats 4000000
namespace Go.Proofs.YtbblkhjjgnpbaaaGreatDoor
open Go Foot
end Go.Proofs.YtbblkhjjgnpbaaaGreatDoor
end
section
set_option linter.unusedVariables false
set_option linter.unusedSimpArgs false
set_option maxRecDepth 100000
set_option maxHeartbeats 4000000
namespace Go.Proofs.YtbblkhjjgnpbaaaGreatDoor
open Go Foot
end Go.Proofs.YtbblkhjjgnpbaaaGreatDoor
end
