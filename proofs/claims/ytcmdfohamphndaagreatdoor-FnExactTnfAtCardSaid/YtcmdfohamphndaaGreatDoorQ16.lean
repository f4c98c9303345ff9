/- Parts of the proof (16 of 20). -/
import Derived.Lib.AppendZerosOnto
import Derived.Test.YtcmdfohamphndaaGreatDoorQ15
section
set_option linter.unusedVariables false
set_option linter.unusedSimpArgs false
set_option maxRecDepth 100000
namespace Go.Proofs.YtcmdfohamphndaaGreatDoor
open Go Foot
section
variable {P : Program} {g : Gh} {st : St} {dst : Option Tmp} {ty : TypeId} {pos : String} {after : Array Edge} {guard : Option (Nat × Bool)} {x y : Operand}
theorem a_sl0 {T zz : Nat} {hi : Operand} (hx : opd st x = .one nilC) (hh : opd st hi = .one (int 0)) (hT : sliceB P T zz = true) : Acts P g ⟨dst, .slice T x none (some hi) none, ty, pos, after, guard⟩ st (.one nilC) [] [] := by
  refine acts_of fun a w S ρ F h => ⟨.slice none 0 0, ?_, ⟨rfl, rfl⟩⟩
  show (do pure (.value (← Instr.sliceAt T (a.eval x) ((none : Option Operand).map a.eval) ((some hi).map a.eval) ((none : Option Operand).map a.eval))) : Sem Next).run P w = _
  rw [opd_sc h hx]
  have := run_slice (P := P) (w := w) (T := T) (z := zz) (len := 0) (cap := 0) (l := 0) (u := 0) (ad := none) (lo := none) (hi := some (a.eval hi)) hT (.inl ⟨rfl, rfl⟩) (.inr ⟨.i64, by rw [opd_sc h hh]; rfl⟩) (Nat.le_refl _) (Nat.le_refl _) (Nat.le_refl _)
  simp at this
  simp [this]
end
end Go.Proofs.YtcmdfohamphndaaGreatDoor
end
section
set_option linter.unusedVariables false
set_option linter.unusedSimpArgs false
set_option maxRecDepth 100000
set_option maxHeartbeats 4000000
namespace Go.Proofs.YtcmdfohamphndaaGreatDoor
open Go Foot
end Go.Proofs.YtcmdfohamphndaaGreatDoor
end
section
set_option linter.unusedVariables false
set_option linter.unusedSimpArgs false
set_option maxRecDepth 100000
set_option maxHeartbeats 4000000
namespace Go.Proofs.YtcmdfohamphndaaGreatDoor
open Go Foot
theorem vMach_len {m : Mach} (hm : vMach m = true) : (m.ru.length : Int) ≤ 6000 := by
  have hb := vMach_bd hm
  have : m.sy * m.st ≤ 6 * 1000 := Int.mul_le_mul hb.1.2 hb.2.1.2 (by omega) (by omega)
  omega
end Go.Proofs.YtcmdfohamphndaaGreatDoor
end
section
set_option linter.unusedVariables false
set_option linter.unusedSimpArgs false
set_option maxRecDepth 100000
set_option maxHeartbeats 4000000
namespace Go.Proofs.YtcmdfohamphndaaGreatDoor
open Go Foot
/-- A partial configuration of a machine. -/
structure PtOk (m : Mach) (x : Part) : Prop where
  s : 0 ≤ x.st ∧ x.st ≤ m.st - 1
  a : 0 ≤ x.pl ∧ x.pl < x.ce.length
  l : (x.ce.length : Int) ≤ 60
  c : ∀ v ∈ x.ce, 0 ≤ v ∧ v ≤ m.sy - 1
theorem pt_gd {m : Mach} {x : Part} (g : PtOk m x) : PtGd x := ⟨g.a.1, g.a.2, by have := g.l; omega⟩
end Go.Proofs.YtcmdfohamphndaaGreatDoor
end
section
set_option linter.unusedVariables false
set_option linter.unusedSimpArgs false
set_option maxRecDepth 100000
set_option maxHeartbeats 4000000
namespace Go.Proofs.YtcmdfohamphndaaGreatDoor
open Go Foot
/-- Levels. -/
structure LvOk (m : Mach) (l : List Part) : Prop where
  n : (l.length : Int) ≤ 6000
  a : ∀ x ∈ l, PtOk m x
theorem lv_at {m : Mach} {l : List Part} (g : LvOk m l) {i : Nat} (h : i < l.length) : PtOk m l[i] := g.a _ (List.getElem_mem h)
end Go.Proofs.YtcmdfohamphndaaGreatDoor
end
section
set_option linter.unusedVariables false
set_option linter.unusedSimpArgs false
set_option maxRecDepth 100000
set_option maxHeartbeats 4000000
namespace Go.Proofs.YtcmdfohamphndaaGreatDoor
open Go Foot
/-- A run: where it ends, after how many steps, whether it halts, whether there is room. -/
def rlO (m : Mach) : Nat → Int → Conf → Conf × Int × Bool × Bool
  | 0, n, c => (c, n, decide (ruAt m c = noR), true)
  | k + 1, n, c => if ruAt m c = noR then (c, n, true, true) else if roomS (stepS (ruAt m c) c) then rlO m k (n + 1) (stepS (ruAt m c) c) else (⟨0, [], []⟩, 0, false, false)
theorem rl_halt {m : Mach} {n b : Int} {c : Conf} {O : Conf × Int × Bool × Bool} (hn : n < b) (h : ruAt m c = noR) (hO : rlO m (b - n).toNat n c = O) : O = (c, n, true, true) := by
  rw [← hO, show (b - n).toNat = (b - n - 1).toNat + 1 by omega]; unfold rlO; rw [if_pos h]
theorem rl_full {m : Mach} {n b : Int} {c : Conf} {O : Conf × Int × Bool × Bool} (hn : n < b) (h : ¬ ruAt m c = noR) (hr : roomS (stepS (ruAt m c) c) = false) (hO : rlO m (b - n).toNat n c = O) : O = (⟨0, [], []⟩, 0, false, false) := by
  rw [← hO, show (b - n).toNat = (b - n - 1).toNat + 1 by omega]; unfold rlO; rw [if_neg h]; simp [hr]
theorem rl_next {m : Mach} {n b : Int} {c : Conf} {O : Conf × Int × Bool × Bool} (hn : n < b) (h : ¬ ruAt m c = noR) (hr : roomS (stepS (ruAt m c) c) = true) (hO : rlO m (b - n).toNat n c = O) : rlO m (b - (n + 1)).toNat (n + 1) (stepS (ruAt m c) c) = O := by
  rw [← hO, show (b - n).toNat = (b - (n + 1)).toNat + 1 by omega]; conv => rhs; unfold rlO
  rw [if_neg h]; simp [hr]
theorem rl_end {m : Mach} {n b : Int} {c : Conf} {O : Conf × Int × Bool × Bool} (hn : ¬ n < b) (hO : rlO m (b - n).toNat n c = O) : O = (c, n, decide (ruAt m c = noR), true) := by
  rw [← hO, show (b - n).toNat = 0 by omega]; unfold rlO; rfl
theorem preB66 {p : Prop} (h : p := by first | with_reducible assumption | omega | (simp only [List.length_append, List.length_cons, List.length_nil, List.length_set, List.length_replicate, List.length_take, List.length_drop, List.length_tail, List.length_dropLast, List.length_reverse] at *; omega) | exact mem_len (by assumption) (by omega) | (with_reducible refine Int.le_trans (Int.ofNat_le.2 (trimR_len _)) ?_; simp only [List.length_cons, List.length_tail]; omega) | (exact (ruAt_ok (by assumption) (by assumption) (by assumption)).2.1) | (exact (ruAt_ok (by assumption) (by assumption) (by assumption)).2.1) | (have := vMach_bd (by assumption); omega) | (simp only [mC_ch, mC_tu]; omega) | (have := vTag_bd (by assumption); omega) | (have := (‹Gd _ _›).le; omega) | (exact tgHalts_no (by assumption)) | (exact tgHead (by assumption) (by assumption) (by assumption)) | (exact Int.le_trans (tgStep_gd (by assumption) (by assumption) (by assumption) (by assumption)).le (by decide)) | (exact vTag_r (by assumption)) | (with_reducible refine Int.le_trans (Int.ofNat_le.2 (pushL_len _ _)) ?_; simp only [List.length_dropLast]; omega) | exact ls_at (by assumption) (by omega) | exact pt_gd (by assumption) | exact lv_at (by assumption) (by omega) | exact pt_gd (lv_at (by assumption) (by omega)) | exact (ask_ok (by assumption)).1 | exact (ask_ok (by assumption)).2.1 | exact (ask_ok (by assumption)).2.2.1 | exact (ask_ok (by assumption)).2.2.2 | trivial) : p := h
theorem l05Run_ok (m : Mach) (c : Conf) (b : Int) (hm : vMach m = true) (hc : vConf m c = true) (h0 : 0 ≤ b) (hb : b ≤ 1000000) (O : Conf × Int × Bool × Bool) (hO : rlO m b.toNat 0 c = O) : Does Tryz.prog 158 [.one (maB m), .agg (coC c), .one (int b)] [] (.tup [(true, [int O.1.st, .gv 0, .gv 1]), (false, [int O.2.1]), (false, [boo O.2.2.1]), (false, [boo O.2.2.2])]) [roI O.1.le, roI O.1.ri] := by
  have hbd := at_bd hm hc
  refine does_of (k := 0) Tryz.func158 rfl Tryz.ntmps158 rfl rfl fun w F0 S0 ρ0 => ?_
  dsimp only [argT, argH]
  repeat' first | (apply n3; exact a_new (gb := .bx _) rfl; exact rfl; refine dA ?_) | (apply p3; (first | exact pu1 | exact puL | exact puC | exact a_add rfl rfl (by omega) (by omega)); exact rfl) | refine cd ?_ | (apply w3; (first | exact a_st_bx rfl rfl rfl rfl (fN rfl rfl) (Nat.le_of_ble_eq_true rfl) rfl | exact a_stE (E := eCf) ⟨_, _, _⟩ rfl rfl rfl rfl (fN rfl rfl) bnd (by exact rfl)); exact rfl; refine dS ?_) | (apply c4 2; exact callK1 (θ := []) (hD := (l05OwnConfig_ok _ preB66 preB66)); exact rfl; exact rfl; exact rfl; refine dM ?_) | (apply c4 0; exact callK1 (θ := []) (hD := (l05HaltsC_ok _ _ preB66 preB66)); exact rfl; exact rfl; exact rfl; refine dM ?_) | (apply c4 2; exact callK1 (θ := []) (hD := (l05StepC_ok _ _ preB66 preB66)); exact rfl; exact rfl; exact rfl; refine dM ?_) | (apply g_drN (id := 11) okM [[],[],[],[2],[0,2,3],[0,1,2,3,4],[0,1,2,3,4,5],[0,1,2,3,4,5,6]] [([],[]),([],[]),([],[]),([],[]),([],[1]),([],[]),([],[]),([],[])] 0; (focus (refine dp 0 0 [34, 35, 36] [] puL ?_; refine dp 1 0 [33, 35, 36] [(false, 1)] pu1 ?_; refine dp 2 0 [33, 34] [] pu1 ?_; refine dp 3 1 [33, 34] [] (callD1 (n := _) 0 (θ := []) (hD := (l05HaltsC_ok _ _ preB66 preB66))) ?_; refine duE 4 11 [34] [] (by first | exact a_st_bx rfl rfl rfl rfl (fN rfl rfl) (Nat.le_of_ble_eq_true rfl) rfl | exact a_stE (E := eCf) ⟨_, _, _⟩ rfl rfl rfl rfl (fN rfl rfl) bnd (by exact rfl)) (by exact rfl) (by exact rfl) ?_; refine dp 5 31 [] [] pu1 ?_; refine dp 6 63 [] [] pu1 ?_; refine dp 7 127 [] [] (a_pure (sv := .one _) rfl) ?_; (refine d_nil ?_; refine dN ?_))); any_goals kernel_rfl) | ((first | refine o_gs rfl rfl (fun hc => ?_) (fun hc => ?_) | refine g_cond rfl (fun hc => ?_) (fun hc => ?_)) <;> (try simp only [dcB] at hc) <;> (try first | contradiction | (exfalso; omega)))
  refine g_loop_id ?_
  refine loopK [0, 2, 6, 7, 8, 9, 10] [2, 3, 4] (fun y : Int × Conf => vConf m y.2 = true ∧ 0 ≤ y.1 ∧ y.1 ≤ b ∧ rlO m (b - y.1).toNat y.1 y.2 = O) (fun y => [(11, .one (int y.1))]) (fun y => [(4, .bx [int y.2.st, .gv 2, .gv 3]), (2, roI y.2.le), (3, roI y.2.ri)]) (fun y => (b - y.1).toNat) ((0 : Int), c) [0, 1, 2, 3, 4] (hI := ?_) (hr := ?_)
  · exact ⟨hc, by simp, h0, by simpa using hO⟩
  · rintro ⟨n, c⟩ ⟨i1, i2, i3, i6⟩
    dsimp only [List.cons_append, List.nil_append] at *
    skip
    have hbd := at_bd hm i1; have hok := ruAt_ok hm i1
    repeat' first | (apply p3; (first | exact pu1 | exact puL | exact puC); exact rfl) | refine cdn ?_ | refine g_reg (id := 3) ?_ | refine g_reg (id := 5) ?_ | refine g_reg (id := 6) ?_ | (apply w3; (first | exact a_st_bx rfl rfl rfl rfl (fN rfl rfl) (Nat.le_of_ble_eq_true rfl) rfl | exact a_stE (E := eCf) ⟨_, _, _⟩ rfl rfl rfl rfl (fN rfl rfl) bnd (by exact rfl)); exact rfl; refine dS ?_) | (apply c4 0; exact callK1 (θ := []) (hD := (l05HaltsC_ok _ _ preB66 preB66)); exact rfl; exact rfl; exact rfl; refine dM ?_) | ((first | refine o_gs rfl rfl (fun hc => ?_) (fun hc => ?_) | refine g_cond rfl (fun hc => ?_) (fun hc => ?_)) <;> (try simp only [dcB] at hc) <;> (try first | contradiction | (exfalso; omega)))
    · obtain rfl := rl_halt (by omega) hc i6
      repeat refine cr ?_
      refine ends_id ?_
      refine endK [?_, ?_] (h2 := ?_) (h3 := ?_) (nd := ?_)
      rotate_left 2
      all_goals (repeat' first | exact ce0 | refine ce ?_ | refine ce2 ?_ ?_ | exact SVLe.refl | refine ceb ?_)
      all_goals first | exact (show nodupB _ = true from rfl) | exact Or.inr rfl | (rfl)
    · have hnr : ¬ ruAt m c = noR := hc
      have hok := hok hnr
      repeat' first | (apply n3; exact a_new (gb := .bx _) rfl; exact rfl; refine dA ?_) | (apply p3; (first | exact pu1 | exact puL | exact puC | exact a_add rfl rfl (by omega) (by omega)); exact rfl) | refine cd ?_ | (apply w3; (first | exact a_st_bx rfl rfl rfl rfl (fN rfl rfl) (Nat.le_of_ble_eq_true rfl) rfl | exact a_stE (E := eCf) ⟨_, _, _⟩ rfl rfl rfl rfl (fN rfl rfl) bnd (by exact rfl)); exact rfl; refine dS ?_) | (apply c4 0; exact callK1 (θ := []) (hD := (l05HaltsC_ok _ _ preB66 preB66)); exact rfl; exact rfl; exact rfl; refine dM ?_) | (apply c4 2; exact callK1 (θ := []) (hD := (l05StepC_ok _ _ preB66 preB66)); exact rfl; exact rfl; exact rfl; refine dM ?_) | (apply g_drN (id := 11) okM [[],[],[],[2],[0,2,3],[0,1,2,3,4],[0,1,2,3,4,5],[0,1,2,3,4,5,6]] [([],[]),([],[]),([],[]),([],[]),([],[1]),([],[]),([],[]),([],[])] 0; (focus (refine dp 0 0 [34, 35, 36] [] puL ?_; refine dp 1 0 [33, 35, 36] [(false, 1)] pu1 ?_; refine dp 2 0 [33, 34] [] pu1 ?_; refine dp 3 1 [33, 34] [] (callD1 (n := _) 0 (θ := []) (hD := (l05HaltsC_ok _ _ preB66 preB66))) ?_; refine duE 4 11 [34] [] (by first | exact a_st_bx rfl rfl rfl rfl (fN rfl rfl) (Nat.le_of_ble_eq_true rfl) rfl | exact a_stE (E := eCf) ⟨_, _, _⟩ rfl rfl rfl rfl (fN rfl rfl) bnd (by exact rfl)) (by exact rfl) (by exact rfl) ?_; refine dp 5 31 [] [] pu1 ?_; refine dp 6 63 [] [] pu1 ?_; refine dp 7 127 [] [] (a_pure (sv := .one _) rfl) ?_; (refine d_nil ?_; refine dN ?_))); any_goals kernel_rfl) | ((first | refine o_gs rfl rfl (fun hc => ?_) (fun hc => ?_) | refine g_cond rfl (fun hc => ?_) (fun hc => ?_)) <;> (try simp only [dcB] at hc) <;> (try first | contradiction | (exfalso; omega)))
      · obtain rfl := rl_full (by omega) hnr (by assumption) i6
        refine g_conv (t_nilB (i := 1) (k := 1) (z := 1) rfl rfl rfl (by decide)) ?_
        try dsimp only [setRow, List.map_cons, List.map_nil, scC, List.set_cons_zero, List.set_cons_succ, Nat.reduceAdd]
        refine g_conv (t_nilB (i := 1) (k := 2) (z := 1) rfl rfl rfl (by decide)) ?_
        try dsimp only [setRow, List.map_cons, List.map_nil, scC, List.set_cons_zero, List.set_cons_succ, Nat.reduceAdd]
        repeat refine cr ?_
        refine ends_id ?_
        refine endK [?_, ?_] (h2 := ?_) (h3 := ?_) (nd := ?_)
        rotate_left 2
        all_goals (repeat' first | exact ce0 | refine ce ?_ | refine ce2 ?_ ?_ | exact SVLe.refl | refine ceb ?_)
        all_goals first | exact (show nodupB _ = true from rfl) | exact Or.inr rfl | (rfl)
      · have hr : roomS (stepS (ruAt m c) c) = true := by assumption
        refine q_again (n + 1, stepS (ruAt m c) c) [0, 1, 5, 6, 4] (by exact stk) ?_ ?_
        · exact ⟨stepS_ok hm i1 hnr hr, by dsimp only; omega, by dsimp only; omega, rl_next (by omega) hnr hr i6⟩
        · dsimp only; omega
    · have hnb : n = b := by omega
      obtain rfl := rl_end hc i6
      subst hnb
      repeat' first | (apply n3; exact a_new (gb := .bx _) rfl; exact rfl; refine dA ?_) | (apply p3; (first | exact pu1 | exact puL | exact puC | exact a_add rfl rfl (by omega) (by omega)); exact rfl) | refine cd ?_ | (apply w3; (first | exact a_st_bx rfl rfl rfl rfl (fN rfl rfl) (Nat.le_of_ble_eq_true rfl) rfl | exact a_stE (E := eCf) ⟨_, _, _⟩ rfl rfl rfl rfl (fN rfl rfl) bnd (by exact rfl)); exact rfl; refine dS ?_) | (apply c4 0; exact callK1 (θ := []) (hD := (l05HaltsC_ok _ _ preB66 preB66)); exact rfl; exact rfl; exact rfl; refine dM ?_) | (apply c4 2; exact callK1 (θ := []) (hD := (l05StepC_ok _ _ preB66 preB66)); exact rfl; exact rfl; exact rfl; refine dM ?_) | (apply g_drN (id := 11) okM [[],[],[],[2],[0,2,3],[0,1,2,3,4],[0,1,2,3,4,5],[0,1,2,3,4,5,6]] [([],[]),([],[]),([],[]),([],[]),([],[1]),([],[]),([],[]),([],[])] 0; (focus (refine dp 0 0 [34, 35, 36] [] puL ?_; refine dp 1 0 [33, 35, 36] [(false, 1)] pu1 ?_; refine dp 2 0 [33, 34] [] pu1 ?_; refine dp 3 1 [33, 34] [] (callD1 (n := _) 0 (θ := []) (hD := (l05HaltsC_ok _ _ preB66 preB66))) ?_; refine duE 4 11 [34] [] (by first | exact a_st_bx rfl rfl rfl rfl (fN rfl rfl) (Nat.le_of_ble_eq_true rfl) rfl | exact a_stE (E := eCf) ⟨_, _, _⟩ rfl rfl rfl rfl (fN rfl rfl) bnd (by exact rfl)) (by exact rfl) (by exact rfl) ?_; refine dp 5 31 [] [] pu1 ?_; refine dp 6 63 [] [] pu1 ?_; refine dp 7 127 [] [] (a_pure (sv := .one _) rfl) ?_; (refine d_nil ?_; refine dN ?_))); any_goals kernel_rfl) | ((first | refine o_gs rfl rfl (fun hc => ?_) (fun hc => ?_) | refine g_cond rfl (fun hc => ?_) (fun hc => ?_)) <;> (try simp only [dcB] at hc) <;> (try first | contradiction | (exfalso; omega)))
      repeat refine cr ?_
      refine ends_id ?_
      refine endK [?_, ?_] (h2 := ?_) (h3 := ?_) (nd := ?_)
      rotate_left 2
      all_goals (repeat' first | exact ce0 | refine ce ?_ | refine ce2 ?_ ?_ | exact SVLe.refl | refine ceb ?_)
      all_goals first | exact (show nodupB _ = true from rfl) | exact Or.inr rfl | (rfl)
end Go.Proofs.YtcmdfohamphndaaGreatDoor
end
section
set_option linter.unusedVariables false
set_option linter.unusedSimpArgs false
set_option maxRecDepth 100000
set_option maxHeartbeats 4000000
namespace Go.Proofs.YtcmdfohamphndaaGreatDoor
open Go Foot
end Go.Proofs.YtcmdfohamphndaaGreatDoor
end
section
set_option linter.unusedVariables false
set_option linter.unusedSimpArgs false
set_option maxRecDepth 100000
set_option maxHeartbeats 4000000
namespace Go.Proofs.YtcmdfohamphndaaGreatDoor
open Go Foot
def frF (m : Mach) : Nat → List Int
  | 0 => []
  | i + 1 => if ruI m i = noR then frF m i ++ [(i : Int)] else frF m i
theorem frF_yes {m : Mach} {i : Int} (h0 : 0 ≤ i) (h : ruI m i = noR) : frF m (i + 1).toNat = frF m i.toNat ++ [i] := by
  rw [show (i + 1).toNat = i.toNat + 1 by omega, frF, show ((i.toNat : Nat) : Int) = i by omega, if_pos h]
theorem frF_no {m : Mach} {i : Int} (h0 : 0 ≤ i) (h : ¬ ruI m i = noR) : frF m (i + 1).toNat = frF m i.toNat := by
  rw [show (i + 1).toNat = i.toNat + 1 by omega, frF, show ((i.toNat : Nat) : Int) = i by omega, if_neg h]
theorem frF_len (m : Mach) : ∀ i, (frF m i).length ≤ i
  | 0 => by simp [frF]
  | i + 1 => by
    have := frF_len m i
    unfold frF
    split
    · simp; omega
    · omega
@[irreducible] def freeL (m : Mach) : List Int := frF m m.ru.length
theorem freeRules_ok (m : Mach) (hm : vMach m = true) : Does Tryz.prog 200 [.agg (maC m)] [] (.one (.gv 0)) [roI (freeL m)] := by
  have hl := vMach_len hm
  refine does_of (k := 0) Tryz.func200 rfl Tryz.ntmps200 rfl rfl fun w F0 S0 ρ0 => ?_
  dsimp only [argT, argH]
  repeat' first | (apply n3; exact a_nilO eI rfl; exact rfl) | (apply n3; (first | exact a_new (gb := .bx _) rfl | exact a_litE eI [] rfl rfl rfl rfl rfl rfl rfl rfl | exact a_litE eI [_] rfl rfl rfl rfl rfl rfl rfl rfl | exact a_appN (fP rfl) rfl rfl rfl nowR (by first | omega | (simp; omega)) (by decide) (by exact rfl)); exact rfl; refine dA ?_) | (apply p3; (first | exact pu1 | exact puL | exact puN | exact a_len_str rfl (fT rfl) | exact puC | exact a_add rfl rfl (by omega) (by omega) | exact puI); exact rfl) | refine cd ?_ | (apply s3; exact a_appE (fP rfl) rfl rfl rfl rfl nowR (by first | omega | (simp; omega)) (by decide) (by decide) (by exact rfl); exact rfl; exact rfl) | (apply w3; (first | exact a_st_bx rfl rfl rfl rfl (fN rfl rfl) (Nat.le_of_ble_eq_true rfl) rfl | exact a_stE (E := eR) ⟨_, _, _⟩ rfl rfl rfl rfl (fN rfl rfl) bnd (by exact rfl)); exact rfl; refine dS ?_) | (apply c4 0; exact callK1 (θ := []) (hD := (isRule_ok _)); exact rfl; exact rfl; exact rfl; refine dM ?_) | ((first | refine o_gs rfl rfl (fun hc => ?_) (fun hc => ?_) | refine g_cond rfl (fun hc => ?_) (fun hc => ?_)) <;> (try simp only [dcB] at hc) <;> (try first | contradiction | (exfalso; omega)))
  refine g_loop_id ?_
  refine loopK [2, 3, 8, 9] [2] (fun y : Int × List Int => 0 ≤ y.1 ∧ y.1 ≤ m.ru.length ∧ y.2 = frF m y.1.toNat) (fun y => [(10, .one (int y.1))]) (fun y => [(2, roI y.2)]) (fun y => (m.ru.length - y.1).toNat) ((0 : Int), ([] : List Int)) [0, 1, 2] (hI := ?_) (hr := ?_)
  · exact ⟨by simp, by simp, rfl⟩
  · rintro ⟨i, out⟩ ⟨h0, h1, h2⟩
    dsimp only [List.cons_append, List.nil_append] at *
    skip
    repeat' first | (apply p3; (first | exact pu1 | exact puC); exact rfl) | refine cdn ?_ | refine g_reg (id := 3) ?_ | refine g_reg (id := 8) ?_ | ((first | refine o_gs rfl rfl (fun hc => ?_) (fun hc => ?_) | refine g_cond rfl (fun hc => ?_) (fun hc => ?_)) <;> (try simp only [dcB] at hc) <;> (try first | contradiction | (exfalso; omega)))
    · have hg := ruI_get (m := m) (i := i) (by omega)
      have ho := frF_len m i.toNat
      rw [← h2] at ho
      repeat' first | (apply n3; exact a_new (gb := .bx _) rfl; exact rfl; refine dA ?_) | (apply p3; (first | exact pu1 | exact puL | exact puC | exact puI); exact rfl) | refine cdn ?_ | refine g_reg (id := 3) ?_ | refine g_reg (id := 4) ?_ | refine g_reg (id := 8) ?_ | (apply w3; (first | exact a_st_bx rfl rfl rfl rfl (fN rfl rfl) (Nat.le_of_ble_eq_true rfl) rfl | exact a_stE (E := eR) ⟨_, _, _⟩ rfl rfl rfl rfl (fN rfl rfl) bnd (by exact rfl)); exact rfl; refine dS ?_) | ((first | refine o_gs rfl rfl (fun hc => ?_) (fun hc => ?_) | refine g_cond rfl (fun hc => ?_) (fun hc => ?_)) <;> (try simp only [dcB] at hc) <;> (try first | contradiction | (exfalso; omega)))
      simp only [hg]
      by_cases hn : ruI m i = noR
      · have hn2 : ¬ ¬ ruI m i = ⟨0, 0, -1⟩ := fun h => h hn
        repeat' first | (apply n3; (first | exact a_new (gb := .bx _) rfl | exact a_litE eI [_] rfl rfl rfl rfl rfl rfl rfl rfl | exact a_appN (fP rfl) rfl rfl rfl nowR (by first | omega | (simp; omega)) (by decide) (by exact rfl)); exact rfl; refine dA ?_) | (apply p3; (first | exact pu1 | exact puL | exact puC | exact a_add rfl rfl (by omega) (by omega) | exact puI); exact rfl) | refine cd ?_ | (apply s3; exact a_appE (fP rfl) rfl rfl rfl rfl nowR (by first | omega | (simp; omega)) (by decide) (by decide) (by exact rfl); exact rfl; exact rfl) | (apply w3; (first | exact a_st_bx rfl rfl rfl rfl (fN rfl rfl) (Nat.le_of_ble_eq_true rfl) rfl | exact a_stE (E := eR) ⟨_, _, _⟩ rfl rfl rfl rfl (fN rfl rfl) bnd (by exact rfl)); exact rfl; refine dS ?_) | (apply c4 0; exact callK1 (θ := []) (hD := (isRule_ok _)); exact rfl; exact rfl; exact rfl; refine dM ?_) | ((first | refine o_gs rfl rfl (fun hc => ?_) (fun hc => ?_) | refine g_cond rfl (fun hc => ?_) (fun hc => ?_)) <;> (try simp only [dcB] at hc) <;> (try first | contradiction | (exfalso; omega)))
        refine q_again (i + 1, _) [0, 1, 5] (by exact stk) ?_ ?_
        · refine ⟨by dsimp only; omega, by dsimp only; omega, ?_⟩
          dsimp only
          rw [frF_yes h0 hn, h2]
        · dsimp only; omega
      · have hn2 : ¬ ruI m i = ⟨0, 0, -1⟩ := hn
        repeat' first | (apply n3; (first | exact a_new (gb := .bx _) rfl | exact a_litE eI [_] rfl rfl rfl rfl rfl rfl rfl rfl | exact a_appN (fP rfl) rfl rfl rfl nowR (by first | omega | (simp; omega)) (by decide) (by exact rfl)); exact rfl; refine dA ?_) | (apply p3; (first | exact pu1 | exact puL | exact puC | exact a_add rfl rfl (by omega) (by omega) | exact puI); exact rfl) | refine cd ?_ | (apply s3; exact a_appE (fP rfl) rfl rfl rfl rfl nowR (by first | omega | (simp; omega)) (by decide) (by decide) (by exact rfl); exact rfl; exact rfl) | (apply w3; (first | exact a_st_bx rfl rfl rfl rfl (fN rfl rfl) (Nat.le_of_ble_eq_true rfl) rfl | exact a_stE (E := eR) ⟨_, _, _⟩ rfl rfl rfl rfl (fN rfl rfl) bnd (by exact rfl)); exact rfl; refine dS ?_) | (apply c4 0; exact callK1 (θ := []) (hD := (isRule_ok _)); exact rfl; exact rfl; exact rfl; refine dM ?_) | ((first | refine o_gs rfl rfl (fun hc => ?_) (fun hc => ?_) | refine g_cond rfl (fun hc => ?_) (fun hc => ?_)) <;> (try simp only [dcB] at hc) <;> (try first | contradiction | (exfalso; omega)))
        refine q_again (i + 1, out) [0, 1, 2] (by exact stk) ?_ ?_
        · refine ⟨by dsimp only; omega, by dsimp only; omega, ?_⟩
          dsimp only
          rw [frF_no h0 hn, h2]
        · dsimp only; omega
    · have hi : i.toNat = m.ru.length := by omega
      have e : freeL m = out := by unfold freeL; rw [h2, hi]
      rw [e]
      repeat' first | (apply n3; (first | exact a_new (gb := .bx _) rfl | exact a_litE eI [_] rfl rfl rfl rfl rfl rfl rfl rfl | exact a_appN (fP rfl) rfl rfl rfl nowR (by first | omega | (simp; omega)) (by decide) (by exact rfl)); exact rfl; refine dA ?_) | (apply p3; (first | exact pu1 | exact puL | exact puC | exact a_add rfl rfl (by omega) (by omega) | exact puI); exact rfl) | refine cd ?_ | (apply s3; exact a_appE (fP rfl) rfl rfl rfl rfl nowR (by first | omega | (simp; omega)) (by decide) (by decide) (by exact rfl); exact rfl; exact rfl) | (apply w3; (first | exact a_st_bx rfl rfl rfl rfl (fN rfl rfl) (Nat.le_of_ble_eq_true rfl) rfl | exact a_stE (E := eR) ⟨_, _, _⟩ rfl rfl rfl rfl (fN rfl rfl) bnd (by exact rfl)); exact rfl; refine dS ?_) | (apply c4 0; exact callK1 (θ := []) (hD := (isRule_ok _)); exact rfl; exact rfl; exact rfl; refine dM ?_) | ((first | refine o_gs rfl rfl (fun hc => ?_) (fun hc => ?_) | refine g_cond rfl (fun hc => ?_) (fun hc => ?_)) <;> (try simp only [dcB] at hc) <;> (try first | contradiction | (exfalso; omega)))
      repeat refine cr ?_
      refine ends_id ?_
      refine endK [?_] (h2 := ?_) (h3 := ?_) (nd := ?_)
      rotate_left 1
      all_goals (repeat' first | exact ce0 | refine ce ?_ | refine ce2 ?_ ?_ | (refine Or.inr (bx_eq rfl rfl ?_); (try dsimp only [C.ren, C.ren.all]); (try exact rfl)) | exact SVLe.refl | refine ceb ?_)
      all_goals first | exact (show nodupB _ = true from rfl) | exact Or.inr rfl | (rfl)
end Go.Proofs.YtcmdfohamphndaaGreatDoor
end
section
set_option linter.unusedVariables false
set_option linter.unusedSimpArgs false
set_option maxRecDepth 100000
set_option maxHeartbeats 4000000
namespace Go.Proofs.YtcmdfohamphndaaGreatDoor
open Go Foot
end Go.Proofs.YtcmdfohamphndaaGreatDoor
end
section
set_option linter.unusedVariables false
set_option linter.unusedSimpArgs false
set_option maxRecDepth 100000
set_option maxHeartbeats 4000000
namespace Go.Proofs.YtcmdfohamphndaaGreatDoor
open Go Foot
/-- A digit's byte. -/
def isDg (c : UInt8) : Prop := 48 ≤ c.toNat ∧ c.toNat ≤ 57
def valD (l : Bs) : Nat := l.foldl (fun a c => 10 * a + (c.toNat - 48)) 0
theorem valD_snoc (l : Bs) (c : UInt8) : valD (l ++ [c]) = 10 * valD l + (c.toNat - 48) := by unfold valD; rw [List.foldl_append]; rfl
theorem dg_nat {d : Nat} (h : d < 10) : isDg (UInt8.ofNat (48 + d)) ∧ (UInt8.ofNat (48 + d)).toNat - 48 = d := by
  have : (UInt8.ofNat (48 + d)).toNat = 48 + d := by rw [UInt8.toNat_ofNat']; omega
  unfold isDg
  omega
theorem dec_val : ∀ (u : Nat), valD (Lib.decDigits u) = u ∧ (∀ c ∈ Lib.decDigits u, isDg c) ∧ Lib.decDigits u ≠ [] := by
  intro u
  induction u using Nat.strongRecOn with
  | _ u ih =>
    rw [Lib.decDigits]
    by_cases h : u < 10
    · rw [dif_pos h]
      obtain ⟨d1, d2⟩ := dg_nat h
      refine ⟨?_, fun c hc => by rw [List.mem_singleton.1 hc]; exact d1, by simp⟩
      have := valD_snoc [] (UInt8.ofNat (48 + u))
      rw [List.nil_append, d2] at this
      rw [this]
      simp [valD]
    · rw [dif_neg h]
      obtain ⟨i1, i2, i3⟩ := ih (u / 10) (by omega)
      obtain ⟨d1, d2⟩ := dg_nat (show u % 10 < 10 by omega)
      refine ⟨by rw [valD_snoc, i1, d2]; omega, fun c hc => ?_, by simp⟩
      rcases List.mem_append.1 hc with hc | hc
      · exact i2 c hc
      · rw [List.mem_singleton.1 hc]; exact d1
theorem split_at {α : Type} {s : α} : ∀ {a a' b b' : List α}, a ++ s :: b = a' ++ s :: b' → s ∉ a → s ∉ a' → a = a' ∧ b = b'
  | [], [], b, b', h, _, _ => ⟨rfl, by simpa using h⟩
  | [], y :: a', b, b', h, _, h2 => by
    simp only [List.nil_append, List.cons_append, List.cons.injEq] at h
    exact absurd (by simp [h.1]) h2
  | x :: a, [], b, b', h, h1, _ => by
    simp only [List.nil_append, List.cons_append, List.cons.injEq] at h
    exact absurd (by simp [h.1]) h1
  | x :: a, y :: a', b, b', h, h1, h2 => by
    simp only [List.cons_append, List.cons.injEq] at h
    obtain ⟨q1, q2⟩ := split_at h.2 (fun q => h1 (by simp [q])) (fun q => h2 (by simp [q]))
    exact ⟨by rw [h.1, q1], q2⟩
theorem decT_nat {n : Int} (h : 0 ≤ n) : decT n = Lib.decDigits n.toNat := by
  unfold decT Lib.itoa
  rw [if_neg (by omega)]
theorem decT_dg {n : Int} (h : 0 ≤ n) : ∀ c ∈ decT n, isDg c := by rw [decT_nat h]; exact (dec_val _).2.1
theorem decT_inj {a b : Int} (ha : 0 ≤ a) (hb : 0 ≤ b) (h : decT a = decT b) : a = b := by
  rw [decT_nat ha, decT_nat hb] at h
  have := congrArg valD h
  rw [(dec_val _).1, (dec_val _).1] at this
  omega
end Go.Proofs.YtcmdfohamphndaaGreatDoor
end
section
set_option linter.unusedVariables false
set_option linter.unusedSimpArgs false
set_option maxRecDepth 100000
set_option maxHeartbeats 4000000
namespace Go.Proofs.YtcmdfohamphndaaGreatDoor
open Go Foot
/-- Used states and symbols behind a list of rules. -/
def usL : List Rule' → Int → Int → Int × Int
  | [], s, y => (s, y)
  | r :: l, s, y => if r = noR then usL l s y else usL l (max s (r.n + 1)) (max y (r.w + 1))
@[irreducible] def usS (m : Mach) : Int := (usL m.ru 1 1).1
@[irreducible] def usY (m : Mach) : Int := (usL m.ru 1 1).2
/-- How many rules a list has. -/
def rcL : List Rule' → Nat
  | [] => 0
  | r :: l => if r = noR then rcL l else rcL l + 1
theorem rcL_app : ∀ (l k : List Rule'), rcL (l ++ k) = rcL l + rcL k
  | [], k => by simp [rcL]
  | r :: l, k => by
    simp only [List.cons_append, rcL, rcL_app l k]
    split <;> omega
theorem rcL_le : ∀ (l : List Rule'), rcL l ≤ l.length
  | [] => by simp [rcL]
  | r :: l => by
    have := rcL_le l
    simp only [rcL, List.length_cons]
    split <;> omega
theorem drop_get {α : Type} {l : List α} {i : Int} (h0 : 0 ≤ i) (h : i.toNat < l.length) : l.drop i.toNat = l[i.toNat] :: l.drop (i + 1).toNat := by
  rw [List.drop_eq_getElem_cons h, show (i + 1).toNat = i.toNat + 1 by omega]
theorem us_no {l : List Rule'} {i s y : Int} (h0 : 0 ≤ i) (h : i.toNat < l.length) (hr : l[i.toNat] = noR) : usL (l.drop (i + 1).toNat) s y = usL (l.drop i.toNat) s y := by
  rw [drop_get h0 h, usL, if_pos hr]
theorem us_yes {l : List Rule'} {i s y : Int} (h0 : 0 ≤ i) (h : i.toNat < l.length) (hr : ¬ l[i.toNat] = noR) : usL (l.drop (i + 1).toNat) (max s (l[i.toNat].n + 1)) (max y (l[i.toNat].w + 1)) = usL (l.drop i.toNat) s y := by
  rw [drop_get h0 h, usL, if_neg hr]
theorem rc_no {l : List Rule'} {i : Int} (h0 : 0 ≤ i) (h : i.toNat < l.length) (hr : l[i.toNat] = noR) : rcL (l.drop (i + 1).toNat) = rcL (l.drop i.toNat) := by
  rw [drop_get h0 h, rcL, if_pos hr]
theorem rc_yes {l : List Rule'} {i : Int} (h0 : 0 ≤ i) (h : i.toNat < l.length) (hr : ¬ l[i.toNat] = noR) : rcL (l.drop (i + 1).toNat) + 1 = rcL (l.drop i.toNat) := by
  rw [drop_get h0 h, rcL, if_neg hr]
/-- Bounds of what is used. -/
theorem usL_bd {sy st : Int} : ∀ (l : List Rule') (s y : Int), l.all (okRule sy st) = true → 1 ≤ s → s ≤ st → 1 ≤ y → y ≤ sy → (1 ≤ (usL l s y).1 ∧ (usL l s y).1 ≤ st) ∧ 1 ≤ (usL l s y).2 ∧ (usL l s y).2 ≤ sy
  | [], s, y, _, h1, h2, h3, h4 => ⟨⟨h1, h2⟩, h3, h4⟩
  | r :: l, s, y, h, h1, h2, h3, h4 => by
    simp only [List.all_cons, Bool.and_eq_true] at h
    unfold usL
    split
    · exact usL_bd l s y h.2 h1 h2 h3 h4
    · rename_i hr
      have h5 := h.1
      unfold okRule at h5
      rw [decide_eq_true_eq] at h5
      rcases h5 with h5 | h5
      · exact absurd h5 hr
      · exact usL_bd l _ _ h.2 (by omega) (by omega) (by omega) (by omega)
theorem us_bd {m : Mach} (hm : vMach m = true) : (1 ≤ usS m ∧ usS m ≤ m.st) ∧ 1 ≤ usY m ∧ usY m ≤ m.sy := by
  have hb := vMach_bd hm
  have ha : m.ru.all (okRule m.sy m.st) = true := by
    unfold vMach at hm
    rw [Bool.and_eq_true] at hm
    exact hm.2
  unfold usS usY
  exact usL_bd m.ru 1 1 ha (by omega) (by omega) (by omega) (by omega)
/-- Free places and rules. -/
theorem fr_rc (m : Mach) : ∀ (i : Nat), i ≤ m.ru.length → (frF m i).length + rcL (m.ru.take i) = i
  | 0, _ => by simp [frF, rcL]
  | i + 1, h => by
    have ih := fr_rc m i (by omega)
    have hg : m.ru[i]'(by omega) = ruI m i := ruI_get (m := m) (i := (i : Int)) (by simp; omega)
    rw [List.take_succ_eq_append_getElem (by omega), rcL_app, hg]
    unfold frF
    by_cases hr : ruI m i = noR
    · rw [if_pos hr]
      simp only [List.length_append, List.length_cons, List.length_nil, rcL, if_pos hr]
      omega
    · rw [if_neg hr]
      simp only [rcL, if_neg hr]
      omega
theorem free_rc (m : Mach) : (freeL m).length + rcL m.ru = m.ru.length := by
  have := fr_rc m m.ru.length (Nat.le_refl _)
  rw [List.take_length] at this
  unfold freeL
  exact this
/-- The status of a node, the index at which it halts, the number of steps. -/
@[irreducible] def ndS (m : Mach) (B : Int) : Int := if (rlO m B.toNat 0 blank).2.2.2 = true then if (rlO m B.toNat 0 blank).2.2.1 = true then if (rcL m.ru : Int) + 1 = m.ru.length then 1 else 0 else 2 else 3
@[irreducible] def ndA (m : Mach) (B : Int) : Int := if (rlO m B.toNat 0 blank).2.2.2 = true then if (rlO m B.toNat 0 blank).2.2.1 = true then (rlO m B.toNat 0 blank).1.st * m.sy + (rlO m B.toNat 0 blank).1.ri.headD 0 else 0 else 0
@[irreducible] def ndN (m : Mach) (B : Int) : Int := if (rlO m B.toNat 0 blank).2.2.2 = true then (rlO m B.toNat 0 blank).2.1 else 0
/-- The program's run is the reference's. -/
theorem it_eq {m : Mach} : ∀ (k : Nat) (n n' : Int) (c : Conf),
    ((rlO m k n c).2.2.2 = true → (itSteps m bdRun k n c (n', false)).j = none ∧ (itSteps m bdRun k n c (n', false)).c = (rlO m k n c).1 ∧ (itSteps m bdRun k n c (n', false)).x.1 = (rlO m k n c).2.1 ∧ decide (ruAt m (rlO m k n c).1 = noR) = (rlO m k n c).2.2.1) ∧
    ((rlO m k n c).2.2.2 = false → ¬ (itSteps m bdRun k n c (n', false)).j = none)
  | 0, n, n', c => by
    have e1 : bdRun (n', false) (c, n, true) = ((n, false), none) := by simp [bdRun]
    unfold itSteps rlO
    rw [e1]
    simp
  | k + 1, n, n', c => by
    have e1 : bdRun (n', false) (c, n, true) = ((n, false), none) := by simp [bdRun]
    unfold itSteps
    rw [e1]
    simp only [Option.isSome_none, Bool.false_eq_true, if_false]
    unfold rlO
    by_cases hr : ruAt m c = noR
    · rw [if_pos hr, if_pos hr]
      simp [hr]
    · rw [if_neg hr, if_neg hr]
      by_cases hf : roomS (stepS (ruAt m c) c) = true
      · rw [if_pos hf, if_pos hf]
        exact it_eq k (n + 1) n (stepS (ruAt m c) c)
      · rw [if_neg hf, if_neg hf]
        simp [bdRun]
theorem run_rl (m : Mach) (B : Int) : ((rlO m B.toNat 0 blank).2.2.2 = true → runCode (runIt m B blank) = 0 ∧ (runIt m B blank).c = (rlO m B.toNat 0 blank).1 ∧ runMade (runIt m B blank) = (rlO m B.toNat 0 blank).2.1 ∧ runHalts m (runIt m B blank) = (rlO m B.toNat 0 blank).2.2.1) ∧
    ((rlO m B.toNat 0 blank).2.2.2 = false → runCode (runIt m B blank) = 5) := by
  have e : itSteps m bdRun B.toNat 0 blank (0, false) = runIt m B blank := by unfold runIt; rfl
  have h := it_eq (m := m) B.toNat 0 0 blank
  rw [e] at h
  refine ⟨fun h1 => ?_, fun h1 => ?_⟩
  · obtain ⟨g1, g2, g3, g4⟩ := h.1 h1
    unfold runCode runMade runHalts
    rw [if_pos g1, if_pos g1, if_pos g1, g2]
    exact ⟨rfl, rfl, g3, g4⟩
  · unfold runCode
    rw [if_neg (h.2 h1)]
/-- A run keeps to valid configurations. -/
theorem rl_ok {m : Mach} (hm : vMach m = true) : ∀ (k : Nat) (n : Int) (c : Conf), vConf m c = true → (rlO m k n c).2.2.2 = true → vConf m (rlO m k n c).1 = true
  | 0, n, c, h, _ => h
  | k + 1, n, c, h, h2 => by
    unfold rlO at h2 ⊢
    by_cases hr : ruAt m c = noR
    · rw [if_pos hr]; exact h
    · rw [if_neg hr] at h2 ⊢
      by_cases hf : roomS (stepS (ruAt m c) c) = true
      · rw [if_pos hf] at h2 ⊢
        exact rl_ok hm k _ _ (stepS_ok hm h hr hf) h2
      · rw [if_neg hf] at h2; cases h2
/-- Where a machine of the tree halts there is no rule. -/
theorem nd_at {m : Mach} {B : Int} (hm : vMach m = true) (h : ndS m B = 0) : 0 ≤ ndA m B ∧ ndA m B < m.ru.length ∧ ruI m (ndA m B) = noR ∧ (rcL m.ru : Int) + 1 ≠ m.ru.length := by
  unfold ndS at h
  split at h
  · rename_i h1
    split at h
    · rename_i h2
      split at h
      · cases h
      · rename_i h3
        have hc := rl_ok hm B.toNat 0 blank (vBlank hm) h1
        have hb := at_bd hm hc
        have h4 := ((it_eq (m := m) B.toNat 0 0 blank).1 h1).2.2.2
        rw [h2, decide_eq_true_eq] at h4
        unfold ndA
        rw [if_pos h1, if_pos h2]
        refine ⟨by omega, by omega, ?_, h3⟩
        unfold ruAt at h4
        unfold ruI
        exact h4
    · cases h
  · cases h
theorem ndA_bd {m : Mach} {B : Int} (hm : vMach m = true) : 0 ≤ ndA m B ∧ ndA m B < m.ru.length := by
  have hb := vMach_bd hm
  have hp : 1 ≤ m.sy * m.st := Int.mul_pos (by omega) (by omega)
  unfold ndA
  split
  · rename_i h1
    split
    · have hc := rl_ok hm B.toNat 0 blank (vBlank hm) h1
      have hb := at_bd hm hc
      omega
    · omega
  · omega
/-- The rules that children have more. -/
def chQ (w mv : Int) (k : Nat) : List Rule' := (List.range k).map fun (q : Nat) => ⟨w, mv, ((q : Nat) : Int)⟩
def chMv (w : Int) (mvs : List Int) (K : Nat) : List Rule' := mvs.flatMap fun mv => chQ w mv K
def chW (mvs : List Int) (W K : Nat) : List Rule' := (List.range W).flatMap fun (w : Nat) => chMv ((w : Nat) : Int) mvs K
@[irreducible] def chMvs (m : Mach) : List Int := if rcL m.ru = 0 then [1] else [-1, 1]
@[irreducible] def chR (m : Mach) : List Rule' := chW (chMvs m) (min (usY m + 1) m.sy).toNat (min (usS m + 1) m.st).toNat
theorem chQ_next (w mv : Int) (k : Nat) : chQ w mv (k + 1) = chQ w mv k ++ [⟨w, mv, (k : Int)⟩] := by
  unfold chQ; rw [List.range_succ, List.map_append]; rfl
theorem chQ_len (w mv : Int) (k : Nat) : (chQ w mv k).length = k := by unfold chQ; simp
theorem chMv_next (w : Int) (mvs : List Int) (mv : Int) (K : Nat) : chMv w (mvs ++ [mv]) K = chMv w mvs K ++ chQ w mv K := by
  unfold chMv; rw [List.flatMap_append]; simp
theorem chMv_len (w : Int) (mvs : List Int) (K : Nat) : (chMv w mvs K).length = mvs.length * K := by
  unfold chMv
  induction mvs with
  | nil => simp
  | cons a l ih => rw [List.flatMap_cons, List.length_append, ih, chQ_len, List.length_cons, Nat.succ_mul]; omega
theorem chW_next (mvs : List Int) (W K : Nat) : chW mvs (W + 1) K = chW mvs W K ++ chMv ((W : Nat) : Int) mvs K := by
  unfold chW; rw [List.range_succ, List.flatMap_append]; simp
theorem chW_len (mvs : List Int) (W K : Nat) : (chW mvs W K).length = W * (mvs.length * K) := by
  induction W with
  | zero => simp [chW]
  | succ n ih => rw [chW_next, List.length_append, ih, chMv_len, Nat.succ_mul]
theorem chW_mem {mvs : List Int} {W K : Nat} {r : Rule'} (h : r ∈ chW mvs W K) : (0 ≤ r.w ∧ r.w < W) ∧ r.m ∈ mvs ∧ 0 ≤ r.n ∧ r.n < K := by
  unfold chW chMv chQ at h
  simp only [List.mem_flatMap, List.mem_map, List.mem_range] at h
  obtain ⟨w, hw, mv, hmv, q, hq, rfl⟩ := h
  exact ⟨⟨by simp, by simp; omega⟩, hmv, by simp, by simp; omega⟩
theorem chMvs_mem {m : Mach} {x : Int} (h : x ∈ chMvs m) : x = 1 ∨ x = -1 := by
  unfold chMvs at h
  split at h
  · simp at h; exact .inl h
  · simp at h; omega
theorem chMvs_len (m : Mach) : 1 ≤ (chMvs m).length ∧ (chMvs m).length ≤ 2 := by
  unfold chMvs
  split <;> simp
theorem chR_ok {m : Mach} (hm : vMach m = true) {r : Rule'} (h : r ∈ chR m) : okRule m.sy m.st r = true ∧ r ≠ noR := by
  have hb := us_bd hm
  unfold chR at h
  obtain ⟨h1, h2, h3⟩ := chW_mem h
  have h4 := chMvs_mem h2
  refine ⟨?_, fun e => ?_⟩
  · unfold okRule
    rw [decide_eq_true_eq]
    exact .inr ⟨by omega, h4, by omega⟩
  · rw [e] at h3; simp at h3
theorem chR_len {m : Mach} (hm : vMach m = true) : 1 ≤ ((chR m).length : Int) ∧ ((chR m).length : Int) ≤ 12000 := by
  have hb := us_bd hm
  have hv := vMach_bd hm
  have hl := chMvs_len m
  unfold chR
  rw [chW_len]
  have hW1 : 1 ≤ (min (usY m + 1) m.sy).toNat := by omega
  have hW2 : (min (usY m + 1) m.sy).toNat ≤ 6 := by omega
  have hK1 : 1 ≤ (min (usS m + 1) m.st).toNat := by omega
  have hK2 : (min (usS m + 1) m.st).toNat ≤ 1000 := by omega
  generalize (min (usY m + 1) m.sy).toNat = W at *
  generalize (min (usS m + 1) m.st).toNat = K at *
  generalize (chMvs m).length = L at *
  have h1 : 1 ≤ L * K := Nat.mul_pos hl.1 hK1
  have h2 : L * K ≤ 2 * 1000 := Nat.mul_le_mul hl.2 hK2
  have h3 : 1 ≤ W * (L * K) := Nat.mul_pos hW1 h1
  have h4 : W * (L * K) ≤ 6 * (2 * 1000) := Nat.mul_le_mul hW2 h2
  omega
/-- A child. -/
@[irreducible] def chM (m : Mach) (a : Int) (r : Rule') : Mach := ⟨m.sy, m.st, m.ru.set a.toNat r⟩
theorem chM_sy (m : Mach) (a : Int) (r : Rule') : (chM m a r).sy = m.sy := by unfold chM; rfl
theorem chM_st (m : Mach) (a : Int) (r : Rule') : (chM m a r).st = m.st := by unfold chM; rfl
theorem chM_ru (m : Mach) (a : Int) (r : Rule') : (chM m a r).ru = m.ru.set a.toNat r := by unfold chM; rfl
theorem chM_ok {m : Mach} {a : Int} {r : Rule'} (hm : vMach m = true) (hr : okRule m.sy m.st r = true) : vMach (chM m a r) = true := by
  unfold vMach at hm ⊢
  rw [chM_sy, chM_st, chM_ru]
  simp only [Bool.and_eq_true, decide_eq_true_eq, List.length_set] at hm ⊢
  refine ⟨hm.1, ?_⟩
  rw [List.all_eq_true] at hm ⊢
  intro x hx
  rcases List.mem_or_eq_of_mem_set hx with h | h
  · exact hm.2 x h
  · rw [h]; exact hr
theorem rcL_set {l : List Rule'} {k : Nat} {r : Rule'} (hk : k < l.length) (h : l[k] = noR) (hr : r ≠ noR) : rcL (l.set k r) = rcL l + 1 := by
  have e : l = l.take k ++ l[k] :: l.drop (k + 1) := by rw [← List.drop_eq_getElem_cons hk, List.take_append_drop]
  rw [List.set_eq_take_append_cons_drop, if_pos hk, rcL_app]
  conv => rhs; rw [e, rcL_app]
  simp only [rcL, if_neg hr, h, if_true]
  omega
/-- One step down the tree. -/
@[irreducible] def stp (B : Int) (m : Mach) (k : Int) : Option Mach := if ndS m B = 0 ∧ 0 ≤ k ∧ k < (chR m).length then some (chM m (ndA m B) ((chR m).getD k.toNat noR)) else none
/-- A node of the tree of machines with so many states and symbols. -/
structure NdOk (sy st : Int) (m : Mach) : Prop where
  v : vMach m = true
  sy : m.sy = sy
  st : m.st = st
theorem stp_ok {B sy st k : Int} {m m' : Mach} (h : NdOk sy st m) (hs : stp B m k = some m') : NdOk sy st m' ∧ rcL m'.ru = rcL m.ru + 1 := by
  unfold stp at hs
  split at hs
  · rename_i hc
    simp only [Option.some.injEq] at hs
    subst hs
    have hg : (chR m).getD k.toNat noR ∈ chR m := by
      rw [List.getD_eq_getElem?_getD, List.getElem?_eq_getElem (by omega)]
      exact List.getElem_mem _
    have hr := chR_ok h.v hg
    have ha := nd_at h.v hc.1
    refine ⟨⟨chM_ok h.v hr.1, by rw [chM_sy, h.sy], by rw [chM_st, h.st]⟩, ?_⟩
    rw [chM_ru]
    exact rcL_set (by omega) ((ruI_get (by omega)).trans ha.2.2.1) hr.2
  · cases hs
/-- The machine to which a path leads; all machines on it. -/
def pth (B : Int) : Mach → List Int → Option Mach
  | m, [] => some m
  | m, k :: p => (stp B m k).bind fun m' => pth B m' p
def pthL (B : Int) : Mach → List Int → Option (List Mach)
  | m, [] => some [m]
  | m, k :: p => (stp B m k).bind fun m' => (pthL B m' p).map (m :: ·)
@[irreducible] def root (sy st : Int) : Mach := ⟨sy, st, List.replicate (st * sy).toNat noR⟩
theorem root_ok {sy st : Int} (h1 : 2 ≤ sy) (h2 : sy ≤ 6) (h3 : 1 ≤ st) (h4 : st ≤ 1000) : NdOk sy st (root sy st) := by
  have hp : 1 ≤ st * sy := Int.mul_pos (by omega) (by omega)
  refine ⟨?_, by unfold root; rfl, by unfold root; rfl⟩
  unfold vMach root
  simp only [Bool.and_eq_true, decide_eq_true_eq, List.length_replicate, List.all_eq_true]
  refine ⟨⟨⟨h1, h2⟩, ⟨h3, h4⟩, ?_⟩, fun x hx => ?_⟩
  · rw [Int.mul_comm sy st]; omega
  · rw [List.eq_of_mem_replicate hx]
    unfold okRule
    simp
theorem pth_ok {B sy st : Int} : ∀ {p : List Int} {m m' : Mach}, NdOk sy st m → pth B m p = some m' → NdOk sy st m' ∧ rcL m'.ru = rcL m.ru + p.length
  | [], m, m', h, e => by simp only [pth, Option.some.injEq] at e; subst e; exact ⟨h, rfl⟩
  | k :: p, m, m', h, e => by
    simp only [pth, Option.bind_eq_some_iff] at e
    obtain ⟨m1, e1, e2⟩ := e
    have h1 := stp_ok h e1
    have h2 := pth_ok h1.1 e2
    refine ⟨h2.1, ?_⟩
    rw [h2.2, h1.2, List.length_cons]
    omega
theorem pthL_pth {B : Int} : ∀ (p : List Int) (m : Mach), (pthL B m p).isSome = (pth B m p).isSome
  | [], m => rfl
  | k :: p, m => by
    simp only [pthL, pth]
    cases stp B m k with
    | none => rfl
    | some m' => simp only [Option.bind_some, Option.isSome_map]; exact pthL_pth p m'
theorem pthL_get {B : Int} : ∀ {p : List Int} {m : Mach} {l : List Mach}, pthL B m p = some l → l.length = p.length + 1 ∧ ∀ i, i ≤ p.length → pth B m (p.take i) = l[i]?
  | [], m, l, h => by
    simp only [pthL, Option.some.injEq] at h
    subst h
    refine ⟨rfl, fun i hi => ?_⟩
    obtain rfl : i = 0 := by simpa using hi
    rfl
  | k :: p, m, l, h => by
    simp only [pthL, Option.bind_eq_some_iff, Option.map_eq_some_iff] at h
    obtain ⟨m1, h1, l1, h2, rfl⟩ := h
    have ih := pthL_get h2
    refine ⟨by simp [ih.1], fun i hi => ?_⟩
    cases i with
    | zero => rfl
    | succ i =>
      rw [List.take_succ_cons, pth, h1, Option.bind_some, List.getElem?_cons_succ]
      exact ih.2 i (by simpa using hi)
end Go.Proofs.YtcmdfohamphndaaGreatDoor
end
section
set_option linter.unusedVariables false
set_option linter.unusedSimpArgs false
set_option maxRecDepth 100000
set_option maxHeartbeats 4000000
namespace Go.Proofs.YtcmdfohamphndaaGreatDoor
open Go Foot
theorem dg_no {l : Bs} {c : UInt8} (h : ∀ x ∈ l, isDg x) (hc : ¬ isDg c) : c ∉ l := fun hm => hc (h c hm)
/-- A rule that a valid machine may have. -/
theorem rulT_form {sy st : Int} {r : Rule'} (h : okRule sy st r = true) : (r = noR ∧ rulT r = [45, 45, 45]) ∨ (r ≠ noR ∧ 0 ≤ r.w ∧ 0 ≤ r.n ∧ ((r.m = -1 ∧ rulT r = decT r.w ++ (76 : UInt8) :: decT r.n) ∨ (r.m = 1 ∧ rulT r = decT r.w ++ (82 : UInt8) :: decT r.n))) := by
  unfold okRule at h
  rw [decide_eq_true_eq] at h
  by_cases hr : r = noR
  · exact .inl ⟨hr, by unfold rulT; rw [if_pos hr]⟩
  · rcases h with h | ⟨h1, h2, h3⟩
    · exact absurd h hr
    · refine .inr ⟨hr, by omega, by omega, ?_⟩
      rcases h2 with h2 | h2
      · exact .inr ⟨h2, by unfold rulT; rw [if_neg hr, if_neg (by omega)]; simp⟩
      · exact .inl ⟨h2, by unfold rulT; rw [if_neg hr, if_pos (by omega)]; simp⟩
theorem not_dg {c : UInt8} (h : c.toNat < 48 ∨ 57 < c.toNat) : ¬ isDg c := by
  intro hd
  unfold isDg at hd
  omega
theorem dec_ne {n : Int} (h : 0 ≤ n) : decT n ≠ [] := by rw [decT_nat h]; exact (dec_val _).2.2
theorem rulT_inj {sy st : Int} {r r' : Rule'} (h : okRule sy st r = true) (h' : okRule sy st r' = true) (e : rulT r = rulT r') : r = r' := by
  have hw : ∀ {x : Rule'}, 0 ≤ x.w → ∀ (t : Bs), [45, 45, 45] ≠ decT x.w ++ t := by
    intro x hx t e
    rcases hd : decT x.w with _ | ⟨a, l⟩
    · exact dec_ne hx hd
    · rw [hd] at e
      simp only [List.cons_append, List.cons.injEq] at e
      have := decT_dg hx a (by rw [hd]; exact List.mem_cons_self)
      rw [← e.1] at this
      exact not_dg (by decide) this
  rcases rulT_form h with ⟨h1, h2⟩ | ⟨h1, h2, h3, h4⟩ <;> rcases rulT_form h' with ⟨k1, k2⟩ | ⟨k1, k2, k3, k4⟩
  · rw [h1, k1]
  · exfalso
    rw [h2] at e
    rcases k4 with ⟨_, k4⟩ | ⟨_, k4⟩ <;> (rw [k4] at e; exact hw k2 _ e)
  · exfalso
    rw [k2] at e
    rcases h4 with ⟨_, h4⟩ | ⟨_, h4⟩ <;> (rw [h4] at e; exact hw h2 _ e.symm)
  · have n76 : ∀ {n : Int}, 0 ≤ n → (76 : UInt8) ∉ decT n := fun hn => dg_no (decT_dg hn) (not_dg (by decide))
    have n82 : ∀ {n : Int}, 0 ≤ n → (82 : UInt8) ∉ decT n := fun hn => dg_no (decT_dg hn) (not_dg (by decide))
    have fin : ∀ {s : UInt8}, decT r.w ++ s :: decT r.n = decT r'.w ++ s :: decT r'.n → s ∉ decT r.w → s ∉ decT r'.w → r.w = r'.w ∧ r.n = r'.n := by
      intro s e hs hs'
      obtain ⟨e1, e2⟩ := split_at e hs hs'
      exact ⟨decT_inj h2 k2 e1, decT_inj h3 k3 e2⟩
    rcases h4 with ⟨hm, h4⟩ | ⟨hm, h4⟩ <;> rcases k4 with ⟨km, k4⟩ | ⟨km, k4⟩ <;> rw [h4, k4] at e
    · obtain ⟨e1, e2⟩ := fin e (n76 h2) (n76 k2)
      cases r; cases r'; simp_all
    · exfalso
      have : (76 : UInt8) ∈ decT r'.w ++ (82 : UInt8) :: decT r'.n := by rw [← e]; simp
      simp only [List.mem_append, List.mem_cons] at this
      rcases this with q | q | q
      · exact n76 k2 q
      · exact absurd q (by decide)
      · exact n76 k3 q
    · exfalso
      have : (82 : UInt8) ∈ decT r'.w ++ (76 : UInt8) :: decT r'.n := by rw [← e]; simp
      simp only [List.mem_append, List.mem_cons] at this
      rcases this with q | q | q
      · exact n82 k2 q
      · exact absurd q (by decide)
      · exact n82 k3 q
    · obtain ⟨e1, e2⟩ := fin e (n82 h2) (n82 k2)
      cases r; cases r'; simp_all
theorem rulT_no {sy st : Int} {r : Rule'} (h : okRule sy st r = true) {c : UInt8} (hc : c = 44 ∨ c = 59) : c ∉ rulT r := by
  have nd : ¬ isDg c := by rcases hc with rfl | rfl <;> exact not_dg (by decide)
  have n45 : c ≠ 45 := by rcases hc with rfl | rfl <;> decide
  have n76 : c ≠ 76 := by rcases hc with rfl | rfl <;> decide
  have n82 : c ≠ 82 := by rcases hc with rfl | rfl <;> decide
  rcases rulT_form h with ⟨h1, h2⟩ | ⟨h1, h2, h3, h4⟩
  · rw [h2]; simp [n45]
  · rcases h4 with ⟨_, h4⟩ | ⟨_, h4⟩
    · rw [h4]; simp only [List.mem_append, List.mem_cons, not_or]; exact ⟨dg_no (decT_dg h2) nd, n76, dg_no (decT_dg h3) nd⟩
    · rw [h4]; simp only [List.mem_append, List.mem_cons, not_or]; exact ⟨dg_no (decT_dg h2) nd, n82, dg_no (decT_dg h3) nd⟩
theorem macF_inj {sy st : Int} : ∀ {l l' : List Rule'} {i : Nat}, l.length = l'.length → l.all (okRule sy st) = true → l'.all (okRule sy st) = true → macF sy i l = macF sy i l' → l = l'
  | [], [], _, _, _, _, _ => rfl
  | [], _ :: _, _, h, _, _, _ => by simp at h
  | _ :: _, [], _, h, _, _, _ => by simp at h
  | r :: l, r' :: l', i, hl, h, h', e => by
    simp only [List.all_cons, Bool.and_eq_true] at h h'
    simp only [macF] at e
    have e1 := List.append_cancel_left e
    have hl' : l.length = l'.length := by simpa using hl
    have key : rulT r = rulT r' ∧ macF sy (i + 1) l = macF sy (i + 1) l' := by
      cases l with
      | nil =>
        have : l' = [] := List.eq_nil_of_length_eq_zero hl'.symm
        subst this
        simpa [macF] using e1
      | cons a l =>
        cases l' with
        | nil => simp at hl'
        | cons b l' =>
          simp only [macF] at e1 ⊢
          have hs : ∃ c : UInt8, (c = 44 ∨ c = 59) ∧ sepT sy ((i + 1 : Nat) : Int) = [c] := by
            unfold sepT
            rw [if_neg (by omega)]
            split
            · exact ⟨59, .inr rfl, rfl⟩
            · exact ⟨44, .inl rfl, rfl⟩
          obtain ⟨c, hc, hs⟩ := hs
          rw [hs] at e1 ⊢
          simp only [List.cons_append, List.nil_append] at e1 ⊢
          obtain ⟨q1, q2⟩ := split_at e1 (rulT_no h.1 hc) (rulT_no h'.1 hc)
          exact ⟨q1, by rw [q2]⟩
    rw [rulT_inj h.1 h'.1 key.1, macF_inj hl' h.2 h'.2 key.2]
theorem macT_inj {sy st : Int} {m m' : Mach} (h : NdOk sy st m) (h' : NdOk sy st m') (e : macT m = macT m') : m = m' := by
  have ha : ∀ {m : Mach}, vMach m = true → m.ru.all (okRule m.sy m.st) = true := by
    intro m hm
    unfold vMach at hm
    rw [Bool.and_eq_true] at hm
    exact hm.2
  have hb := (vMach_bd h.v).2.2
  have hb' := (vMach_bd h'.v).2.2
  have a1 := ha h.v
  have a2 := ha h'.v
  unfold macT at e
  rw [h.sy, h.st] at hb a1
  rw [h'.sy, h'.st] at hb' a2
  rw [h.sy, h'.sy] at e
  have := macF_inj (st := st) (by omega) a1 a2 e
  have e1 := h.sy
  have e2 := h.st
  have e3 := h'.sy
  have e4 := h'.st
  cases m; cases m'; simp_all
end Go.Proofs.YtcmdfohamphndaaGreatDoor
end
section
set_option linter.unusedVariables false
set_option linter.unusedSimpArgs false
set_option maxRecDepth 100000
set_option maxHeartbeats 4000000
namespace Go.Proofs.YtcmdfohamphndaaGreatDoor
open Go Foot
theorem preB14 {p : Prop} (h : p := by first | with_reducible assumption | omega | (simp only [List.length_append, List.length_cons, List.length_nil, List.length_set, List.length_replicate, List.length_take, List.length_drop, List.length_tail, List.length_dropLast, List.length_reverse] at *; omega) | exact mem_len (by assumption) (by omega) | (with_reducible refine Int.le_trans (Int.ofNat_le.2 (trimR_len _)) ?_; simp only [List.length_cons, List.length_tail]; omega) | (exact (ruAt_ok (by assumption) (by assumption) (by assumption)).2.1) | (have := vMach_bd (by assumption); omega) | (with_reducible refine Int.le_trans (Int.ofNat_le.2 (pushL_len _ _)) ?_; simp only [List.length_dropLast]; omega) | exact (ask_ok (by assumption)).1 | exact (ask_ok (by assumption)).2.1 | exact (ask_ok (by assumption)).2.2.1 | exact (ask_ok (by assumption)).2.2.2 | trivial) : p := h
theorem mul64_ok (x y : Int) (h1 : 0 ≤ x) (h2 : x ≤ 16777216) (h3 : 0 ≤ y) (h4 : y ≤ 16777216) (h5 : 0 ≤ x * y) (h6 : x * y ≤ 4294967295) : Does Tryz.prog 242 [.one (u64 x), .one (u64 y)] [] (.tup [(false, [u64 0]), (false, [u64 (x * y)])]) [] := by
  have h7 : x * y < 18446744073709551616 := by omega
  refine does_of (k := 0) Tryz.func242 rfl Tryz.ntmps242 rfl rfl fun w F0 S0 ρ0 => ?_
  dsimp only [argT, argH]
  repeat' first | (apply p3; (first | exact pu1 | exact u_and rfl rfl (by omega) (by omega) | exact u_shr rfl rfl (by omega) (by omega) | exact u_shr1 rfl rfl (by omega) | exact u_mul rfl rfl (by first | omega | assumption) (by first | omega | assumption) | exact u_add rfl rfl (by first | omega | assumption) (by first | omega | assumption)); exact rfl) | refine cd ?_ | ((first | refine o_gs rfl rfl (fun hc => ?_) (fun hc => ?_) | refine g_cond rfl (fun hc => ?_) (fun hc => ?_)) <;> (try simp only [dcB] at hc) <;> (try first | contradiction | (exfalso; omega)))
  repeat refine cr ?_
  refine ends_id ?_
  refine endK [] (h2 := ?_) (h3 := ?_) (nd := ?_)
  all_goals (repeat' first | exact ce0 | refine ce ?_ | refine ce2 ?_ ?_ | exact SVLe.refl | refine ceb ?_)
  all_goals first | exact (show nodupB _ = true from rfl) | exact Or.inr rfl | (simp)
theorem mulU_ok (x y : Int) (h1 : 0 ≤ x) (h2 : x ≤ 16777216) (h3 : 0 ≤ y) (h4 : y ≤ 16777216) (h5 : 0 ≤ x * y) (h6 : x * y ≤ 4294967295) : Does Tryz.prog 202 [.one (u64 x), .one (u64 y)] [] (.tup [(false, [u64 0]), (false, [u64 (x * y)])]) [] := by
  refine does_of (k := 0) Tryz.func202 rfl Tryz.ntmps202 rfl rfl fun w F0 S0 ρ0 => ?_
  dsimp only [argT, argH]
  repeat' first | (apply p3; (first | exact pu1 | exact a_conv64 rfl (fK rfl) (fK rfl) (by omega) (by omega)); exact rfl) | refine cd ?_ | (apply c4 0; exact callK1 (θ := []) (hD := (mul64_ok _ _ preB14 preB14 preB14 preB14 preB14 preB14)); exact rfl; exact rfl; exact rfl; refine dM ?_) | ((first | refine o_gs rfl rfl (fun hc => ?_) (fun hc => ?_) | refine g_cond rfl (fun hc => ?_) (fun hc => ?_)) <;> (try simp only [dcB] at hc) <;> (try first | contradiction | (exfalso; omega)))
  repeat refine cr ?_
  refine ends_id ?_
  refine endK [] (h2 := ?_) (h3 := ?_) (nd := ?_)
  all_goals (repeat' first | exact ce0 | refine ce ?_ | refine ce2 ?_ ?_ | exact SVLe.refl | refine ceb ?_)
  all_goals first | exact (show nodupB _ = true from rfl) | exact Or.inr rfl | (rfl)
theorem rep_grow {α : Type} {r : α} {l : List α} {k m : Nat} (h1 : k + m ≤ l.length) (h2 : m ≤ k) (h3 : l.take k = List.replicate k r) : (l.take k ++ (l.drop 0).take m ++ l.drop (k + m)).take (k + m) = List.replicate (k + m) r ∧ (l.take k ++ (l.drop 0).take m ++ l.drop (k + m)).length = l.length := by
  have h4 : l.take m = List.replicate m r := by
    have := congrArg (List.take m) h3
    rwa [List.take_take, Nat.min_eq_left h2, List.take_replicate, Nat.min_eq_left h2] at this
  have hl : (l.take k ++ (l.drop 0).take m).length = k + m := by rw [List.length_append, List.length_take, List.length_take, List.drop_zero]; omega
  constructor
  · rw [List.take_append_of_le_length (by omega), List.take_of_length_le (by omega), List.drop_zero, h3, h4, List.replicate_append_replicate]
  · rw [List.length_append, hl, List.length_drop]; omega
theorem repeatR_ok (r : Rule') (n : Int) (h0 : 0 ≤ n) (h1 : n ≤ 1000000) : Does Tryz.prog 152 [.one (shR [r]), .one (int n)] [] (.one (.gv 0)) [.row 3 (rows eR (List.replicate n.toNat r))] := by
  have hln : (([r].length : Nat) : Int) * n = n := by simp
  refine does_of (k := 0) Tryz.func152 rfl Tryz.ntmps152 rfl rfl fun w F0 S0 ρ0 => ?_
  dsimp only [argT, argH]
  repeat' first | (apply n3; exact a_make (fE rfl) (fZ rfl) (fP rfl) (by decide) rfl rfl (by omega) rfl (by omega) (by omega) (rows_rep eR ⟨0, 0, 0⟩ _); exact rfl; refine dA ?_) | (apply p3; (first | exact pu1 | exact puC | exact puN | exact a_len_str rfl (fT rfl) | exact u_conv rfl Tryz.underlying3 Tryz.underlying235 bnd bnd | exact u_gtr rfl rfl | exact u_vnoc rfl Tryz.underlying235 Tryz.underlying3 bnd bnd); exact rfl) | refine cd ?_ | (apply c4 0; exact callK1 (θ := []) (hD := (mulU_ok _ _ preB14 preB14 preB14 preB14 preB14 preB14)); exact rfl; exact rfl; exact rfl; refine dM ?_) | (apply c4 0; exact a_copyV rfl rfl rfl rfl (fS rfl) rfl nowR rfl (by exact rfl) (by exact rfl); exact rfl; exact rfl; exact rfl; refine dM ?_) | (apply c4 0; exact a_copyG rfl rfl rfl (fS rfl) rfl nowR bnd bnd rfl (by exact rfl) (by exact rfl); exact rfl; exact rfl; exact rfl; refine dM ?_) | refine o_no rfl rfl rfl rfl ?_ | refine o_noN rfl rfl rfl ?_ | (apply py3; exact rfl; exact rfl; (first | exact pu1 | exact puC | exact puN | exact a_len_str rfl (fT rfl) | exact u_conv rfl Tryz.underlying3 Tryz.underlying235 bnd bnd | exact u_gtr rfl rfl | exact u_vnoc rfl Tryz.underlying235 Tryz.underlying3 bnd bnd); exact rfl; exact rfl) | (apply ny3; exact rfl; exact rfl; exact a_make (fE rfl) (fZ rfl) (fP rfl) (by decide) rfl rfl (by omega) rfl (by omega) (by omega) (rows_rep eR ⟨0, 0, 0⟩ _); exact rfl; exact rfl) | (apply cy4 0; exact rfl; exact rfl; exact callK1 (θ := []) (hD := (mulU_ok _ _ preB14 preB14 preB14 preB14 preB14 preB14)); exact rfl; exact rfl; exact rfl; exact rfl; refine dM ?_) | (apply cy4 0; exact rfl; exact rfl; exact a_copyV rfl rfl rfl rfl (fS rfl) rfl nowR rfl (by exact rfl) (by exact rfl); exact rfl; exact rfl; exact rfl; exact rfl; refine dM ?_) | (apply cy4 0; exact rfl; exact rfl; exact a_copyG rfl rfl rfl (fS rfl) rfl nowR bnd bnd rfl (by exact rfl) (by exact rfl); exact rfl; exact rfl; exact rfl; exact rfl; refine dM ?_) | (apply g_drN (id := 9) okM [[],[],[],[1,2],[],[],[4,5],[1,2,3,4,5,6],[0,1,2,3,4,5,6,7],[0,1,2,3,4,5,6,7,8]] [([],[]),([],[]),([],[]),([],[]),([],[]),([],[]),([],[]),([],[0]),([],[]),([],[])] 0; (focus (refine dp 0 0 [39, 40, 41, 42, 43, 44, 45] [(false, 0)] pu1 ?_; refine dp 1 0 [38, 40, 42, 43, 44] [] pu1 ?_; refine dp 2 0 [38, 39, 42, 43, 44] [] pu1 ?_; refine dp 3 3 [38, 42, 43, 44] [] (a_slTG rfl rfl rfl (fS rfl) (by omega) (by omega) (by exact rfl)) ?_; refine dp 4 0 [38, 39, 40, 41, 43] [] pu1 ?_; refine dp 5 0 [38, 39, 40, 41, 42] [] pu1 ?_; refine dp 6 3 [38, 39, 40, 41] [] (a_slHG rfl rfl rfl (fS rfl) (by omega) (by omega) (by exact rfl)) ?_; refine duN 7 63 [38] [] (by first | exact a_copyV rfl rfl rfl rfl (fS rfl) rfl nowR rfl (by exact rfl) (by exact rfl) | exact a_copyG rfl rfl rfl (fS rfl) rfl nowR bnd bnd rfl (by exact rfl) (by exact rfl)) (by exact rfl) (by exact rfl) ?_; refine dp 8 255 [] [] (a_add rfl rfl (by omega) (by omega)) ?_; refine dp 9 511 [] [] pu1 ?_; (refine d_nil ?_; refine dN ?_))); any_goals kernel_rfl) | ((first | refine o_gs rfl rfl (fun hc => ?_) (fun hc => ?_) | refine g_cond rfl (fun hc => ?_) (fun hc => ?_)) <;> (try simp only [dcB] at hc) <;> (try first | contradiction | (exfalso; omega)))
  generalize e0 : ([r].length.min (List.replicate ((([r].length : Nat) : Int) * n).toNat (⟨0, 0, 0⟩ : Rule')).length) = k0
  generalize e1 : (List.take k0 [r] ++ List.drop k0 (List.replicate ((([r].length : Nat) : Int) * n).toNat (⟨0, 0, 0⟩ : Rule'))) = l0
  have hk0 : (k0 : Int) = min 1 n := by
    rw [← e0, hln, List.length_replicate]
    show ((min 1 n.toNat : Nat) : Int) = min 1 n
    omega
  have hl0 : l0.length = n.toNat ∧ l0.take k0 = List.replicate k0 r := by
    rw [← e1, hln]
    by_cases hn : n = 0
    · have : k0 = 0 := by omega
      subst this hn
      simp
    · have : k0 = 1 := by omega
      subst this
      simp
      omega
  clear e0 e1
  refine g_loop_id ?_
  refine loopK [4, 7] [0] (fun y : Int × List Rule' => 0 ≤ y.1 ∧ y.1 ≤ n ∧ (0 < n → 0 < y.1) ∧ y.2.length = n.toNat ∧ y.2.take y.1.toNat = List.replicate y.1.toNat r) (fun y => [(8, .one (int y.1))]) (fun y => [(0, .row 3 (rows eR y.2))]) (fun y => (n - y.1).toNat) ((k0 : Int), l0) [0] (hI := ?_) (hr := ?_)
  · exact ⟨by simp, by dsimp only; omega, fun _ => by dsimp only; omega, hl0.1, by dsimp only; rw [Int.toNat_natCast]; exact hl0.2⟩
  · rintro ⟨k, l⟩ ⟨k1, k2, k3, k4, k5⟩
    dsimp only [List.cons_append, List.nil_append] at *
    skip
    have hm : (k.toNat - 0).min (l.length - k.toNat) = min (k.toNat - 0) (l.length - k.toNat) := rfl
    repeat' first | (apply p3; (first | exact pu1 | exact puN | exact a_len_str rfl (fT rfl) | exact puC); exact rfl) | refine cd ?_ | (apply g_drN (id := 9) okM [[],[],[],[1,2],[],[],[4,5],[1,2,3,4,5,6],[0,1,2,3,4,5,6,7],[0,1,2,3,4,5,6,7,8]] [([],[]),([],[]),([],[]),([],[]),([],[]),([],[]),([],[]),([],[0]),([],[]),([],[])] 0; (focus (refine dp 0 0 [39, 40, 41, 42, 43, 44, 45] [(false, 0)] pu1 ?_; refine dp 1 0 [38, 40, 42, 43, 44] [] pu1 ?_; refine dp 2 0 [38, 39, 42, 43, 44] [] pu1 ?_; refine dp 3 3 [38, 42, 43, 44] [] (a_slTG rfl rfl rfl (fS rfl) (by omega) (by omega) (by exact rfl)) ?_; refine dp 4 0 [38, 39, 40, 41, 43] [] pu1 ?_; refine dp 5 0 [38, 39, 40, 41, 42] [] pu1 ?_; refine dp 6 3 [38, 39, 40, 41] [] (a_slHG rfl rfl rfl (fS rfl) (by omega) (by omega) (by exact rfl)) ?_; refine duN 7 63 [38] [] (by first | exact a_copyV rfl rfl rfl rfl (fS rfl) rfl nowR rfl (by exact rfl) (by exact rfl) | exact a_copyG rfl rfl rfl (fS rfl) rfl nowR bnd bnd rfl (by exact rfl) (by exact rfl)) (by exact rfl) (by exact rfl) ?_; refine dp 8 255 [] [] (a_add rfl rfl (by omega) (by omega)) ?_; refine dp 9 511 [] [] pu1 ?_; (refine d_nil ?_; refine dN ?_))); any_goals kernel_rfl) | ((first | refine o_gs rfl rfl (fun hc => ?_) (fun hc => ?_) | refine g_cond rfl (fun hc => ?_) (fun hc => ?_)) <;> (try simp only [dcB] at hc) <;> (try first | contradiction | (exfalso; omega)))
    · have hg := rep_grow (m := (k.toNat - 0).min (l.length - k.toNat)) (by omega) (by omega) k5
      have hk : (k + (((k.toNat - 0).min (l.length - k.toNat) : Nat) : Int)).toNat = k.toNat + (k.toNat - 0).min (l.length - k.toNat) := by omega
      refine q_again (k + (((k.toNat - 0).min (l.length - k.toNat) : Nat) : Int), l.take k.toNat ++ (l.drop 0).take ((k.toNat - 0).min (l.length - k.toNat)) ++ l.drop (k.toNat + (k.toNat - 0).min (l.length - k.toNat))) [0] (by exact stk) ?_ ?_
      · exact ⟨by dsimp only; omega, by dsimp only; omega, fun _ => by dsimp only; omega, hg.2.trans k4, by dsimp only; rw [hk]; exact hg.1⟩
      · dsimp only; omega
    · have : k.toNat = n.toNat := by omega
      rw [this, List.take_of_length_le (by omega)] at k5
      repeat refine cr ?_
      refine ends_id ?_
      refine endK [?_] (h2 := ?_) (h3 := ?_) (nd := ?_)
      rotate_left 1
      all_goals (repeat' first | exact ce0 | refine ce ?_ | refine ce2 ?_ ?_ | (refine Or.inr (bx_eq rfl rfl ?_); (try dsimp only [C.ren, C.ren.all]); (try exact rfl)) | exact SVLe.refl | refine ceb ?_)
      all_goals first | exact (show nodupB _ = true from rfl) | exact Or.inr rfl | (exact k5)
end Go.Proofs.YtcmdfohamphndaaGreatDoor
end
section
set_option linter.unusedVariables false
set_option linter.unusedSimpArgs false
set_option maxRecDepth 100000
set_option maxHeartbeats 4000000
namespace Go.Proofs.YtcmdfohamphndaaGreatDoor
open Go Foot
end Go.Proofs.YtcmdfohamphndaaGreatDoor
end
section
set_option linter.unusedVariables false
set_option linter.unusedSimpArgs false
set_option maxRecDepth 100000
set_option maxHeartbeats 4000000
namespace Go.Proofs.YtcmdfohamphndaaGreatDoor
open Go Foot
abbrev c0 : Conf := ⟨0, [], []⟩
end Go.Proofs.YtcmdfohamphndaaGreatDoor
end
section
set_option linter.unusedVariables false
set_option linter.unusedSimpArgs false
set_option maxRecDepth 100000
set_option maxHeartbeats 4000000
namespace Go.Proofs.YtcmdfohamphndaaGreatDoor
open Go Foot
theorem l30Empty_ok (st sy : Int) (h1 : 0 ≤ st) (h2 : st ≤ 1000) (h3 : 0 ≤ sy) (h4 : sy ≤ 6) (h5 : 0 ≤ st * sy) (h6 : st * sy ≤ 6000) : Does Tryz.prog 100 [.one (int st), .one (int sy)] [] (.agg [int sy, int st, .gv 0]) [.row 3 (rows eR (List.replicate (st * sy).toNat noR))] := by
  refine does_of (k := 0) Tryz.func100 rfl Tryz.ntmps100 rfl rfl fun w F0 S0 ρ0 => ?_
  dsimp only [argT, argH]
  repeat' first | (apply n3; exact a_new (gb := .bx _) rfl; exact rfl; refine dA ?_) | (apply p3; (first | exact pu1 | exact puL | exact a_mulB rfl rfl (by omega) (by omega) (by omega) (by omega) | exact a_mul rfl rfl (by first | omega | assumption) (by first | omega | assumption) | exact puC | exact a_add rfl rfl (by omega) (by omega)); exact rfl) | refine cd ?_ | (apply w3; (first | exact a_st_bx rfl rfl rfl rfl (fN rfl rfl) (Nat.le_of_ble_eq_true rfl) rfl | exact a_stE (E := eMa) ⟨_, _, _⟩ rfl rfl rfl rfl (fN rfl rfl) bnd (by exact rfl)); exact rfl; refine dS ?_) | (apply g_drN (id := 5) okM [[],[0],[],[2],[0,1,2,3],[0,1,2,3,4],[0,1,2,3,4,5]] [([],[]),([],[]),([],[]),([0],[]),([1],[_]),([],[]),([],[1])] 2; (focus (refine dp 0 0 [19, 20] [(true, 0)] (a_pure (sv := .one _) rfl) ?_; refine dp 1 1 [19, 20] [(true, 0)] puL ?_; refine dp 2 0 [17, 18] [] (callD1 (n := _) 0 (θ := []) (hD := l05None_ok)) ?_; refine duE 3 1 [17, 18] [] (atN 0 (fun _ => a_litE eR [⟨_, _, _⟩] rfl rfl rfl rfl rfl rfl rfl rfl)) (by exact rfl) (by exact rfl) ?_; refine duE 4 15 [] [] (atS 1 (fun _ hj => a_appE (fP rfl) rfl rfl rfl rfl nowR (by first | omega | (simp; omega)) (by decide) hj (by exact rfl)) (by decide)) (by exact rfl) (by exact rfl) ?_; refine dp 5 31 [] [] (a_pure (sv := .one _) rfl) ?_; refine duE 6 63 [] [] (a_st_bx rfl rfl rfl rfl (fN rfl rfl) (Nat.le_of_ble_eq_true rfl) rfl) (by exact rfl) (by exact rfl) ?_; (refine d_nil ?_; refine dN ?_))); any_goals kernel_rfl) | ((first | refine o_gs rfl rfl (fun hc => ?_) (fun hc => ?_) | refine g_cond rfl (fun hc => ?_) (fun hc => ?_)) <;> (try simp only [dcB] at hc) <;> (try first | contradiction | (exfalso; omega)))
  refine g_conv (t_nilB (i := 1) (k := 2) (z := 3) rfl rfl rfl (by decide)) ?_
  try dsimp only [setRow, List.map_cons, List.map_nil, scC, List.set_cons_zero, List.set_cons_succ, Nat.reduceAdd]
  refine g_loop_id ?_
  refine loopK [0, 1, 4, 5] [1, 2] (fun i : Int => 0 ≤ i ∧ i ≤ st * sy) (fun i => [(6, .one (int i))]) (fun i => [(1, .bx [int sy, int st, .gv 2]), (2, .row 3 (rows eR (List.replicate i.toNat noR)))]) (fun i => (st * sy - i).toNat) (0 : Int) [0, 1, 2] (hI := ?_) (hr := ?_)
  · exact ⟨by omega, by omega⟩
  · rintro i ⟨h7, h8⟩
    dsimp only [List.cons_append, List.nil_append] at *
    skip
    repeat' first | (apply p3; (first | exact pu1 | exact puL | exact a_mulB rfl rfl (by omega) (by omega) (by omega) (by omega) | exact a_mul rfl rfl (by first | omega | assumption) (by first | omega | assumption) | exact puC | exact a_add rfl rfl (by omega) (by omega)); exact rfl) | refine cd ?_ | (apply w3; (first | exact a_st_bx rfl rfl rfl rfl (fN rfl rfl) (Nat.le_of_ble_eq_true rfl) rfl | exact a_stE (E := eMa) ⟨_, _, _⟩ rfl rfl rfl rfl (fN rfl rfl) bnd (by exact rfl)); exact rfl; refine dS ?_) | (apply g_drN (id := 5) okM [[],[0],[],[2],[0,1,2,3],[0,1,2,3,4],[0,1,2,3,4,5]] [([],[]),([],[]),([],[]),([0],[]),([1],[_]),([],[]),([],[1])] 2; (focus (refine dp 0 0 [19, 20] [(true, 0)] (a_pure (sv := .one _) rfl) ?_; refine dp 1 1 [19, 20] [(true, 0)] puL ?_; refine dp 2 0 [17, 18] [] (callD1 (n := _) 0 (θ := []) (hD := l05None_ok)) ?_; refine duE 3 1 [17, 18] [] (atN 0 (fun _ => a_litE eR [⟨_, _, _⟩] rfl rfl rfl rfl rfl rfl rfl rfl)) (by exact rfl) (by exact rfl) ?_; refine duE 4 15 [] [] (atS 1 (fun _ hj => a_appE (fP rfl) rfl rfl rfl rfl nowR (by first | omega | (simp; omega)) (by decide) hj (by exact rfl)) (by decide)) (by exact rfl) (by exact rfl) ?_; refine dp 5 31 [] [] (a_pure (sv := .one _) rfl) ?_; refine duE 6 63 [] [] (a_st_bx rfl rfl rfl rfl (fN rfl rfl) (Nat.le_of_ble_eq_true rfl) rfl) (by exact rfl) (by exact rfl) ?_; (refine d_nil ?_; refine dN ?_))); any_goals kernel_rfl) | ((first | refine o_gs rfl rfl (fun hc => ?_) (fun hc => ?_) | refine g_cond rfl (fun hc => ?_) (fun hc => ?_)) <;> (try simp only [dcB] at hc) <;> (try first | contradiction | (exfalso; omega)))
    · have hrep : List.replicate i.toNat noR ++ [noR] = List.replicate (i + 1).toNat noR := by rw [show (i + 1).toNat = i.toNat + 1 by omega, List.replicate_succ']
      simp only [hrep] at *
      refine q_again (i + 1) [0, 1, 4] (by exact stk) ?_ ?_
      · exact ⟨by omega, by omega⟩
      · omega
    · have hi : i = st * sy := by omega
      rw [← hi]
      repeat refine cr ?_
      refine ends_id ?_
      refine endK [?_] (h2 := ?_) (h3 := ?_) (nd := ?_)
      rotate_left 1
      all_goals (repeat' first | exact ce0 | refine ce ?_ | refine ce2 ?_ ?_ | (refine Or.inr (bx_eq rfl rfl ?_); (try dsimp only [C.ren, C.ren.all]); (try exact rfl)) | exact SVLe.refl | refine ceb ?_)
      all_goals first | exact (show nodupB _ = true from rfl) | exact Or.inr rfl | (rfl)
end Go.Proofs.YtcmdfohamphndaaGreatDoor
end
section
set_option linter.unusedVariables false
set_option linter.unusedSimpArgs false
set_option maxRecDepth 100000
set_option maxHeartbeats 4000000
namespace Go.Proofs.YtcmdfohamphndaaGreatDoor
open Go Foot
theorem preB92 {p : Prop} (h : p := by first | with_reducible assumption | omega | (simp only [List.length_append, List.length_cons, List.length_nil, List.length_set, List.length_replicate, List.length_take, List.length_drop, List.length_tail, List.length_dropLast, List.length_reverse] at *; omega) | exact mem_len (by assumption) (by omega) | (with_reducible refine Int.le_trans (Int.ofNat_le.2 (trimR_len _)) ?_; simp only [List.length_cons, List.length_tail]; omega) | (exact (ruAt_ok (by assumption) (by assumption) (by assumption)).2.1) | (exact (ruAt_ok (by assumption) (by assumption) (by assumption)).2.1) | (have := vMach_bd (by assumption); omega) | (simp only [mC_ch, mC_tu]; omega) | (have := vTag_bd (by assumption); omega) | (have := (‹Gd _ _›).le; omega) | (exact tgHalts_no (by assumption)) | (exact tgHead (by assumption) (by assumption) (by assumption)) | (exact Int.le_trans (tgStep_gd (by assumption) (by assumption) (by assumption) (by assumption)).le (by decide)) | (exact vTag_r (by assumption)) | (with_reducible refine Int.le_trans (Int.ofNat_le.2 (pushL_len _ _)) ?_; simp only [List.length_dropLast]; omega) | exact ls_at (by assumption) (by omega) | exact pt_gd (by assumption) | exact lv_at (by assumption) (by omega) | exact pt_gd (lv_at (by assumption) (by omega)) | exact (ask_ok (by assumption)).1 | exact (ask_ok (by assumption)).2.1 | exact (ask_ok (by assumption)).2.2.1 | exact (ask_ok (by assumption)).2.2.2 | trivial) : p := h
theorem usedCounts_ok (m : Mach) (hm : vMach m = true) : Does Tryz.prog 203 [.agg (maC m)] [] (.tup [(false, [int (usS m)]), (false, [int (usY m)])]) [] := by
  have hl := vMach_len hm
  refine does_of (k := 0) Tryz.func203 rfl Tryz.ntmps203 rfl rfl fun w F0 S0 ρ0 => ?_
  dsimp only [argT, argH]
  repeat' first | (apply n3; exact a_new (gb := .bx _) rfl; exact rfl; refine dA ?_) | (apply p3; (first | exact pu1 | exact puL | exact puN | exact a_len_str rfl (fT rfl) | exact puC | exact a_add rfl rfl (by omega) (by omega) | exact puI); exact rfl) | refine cd ?_ | (apply w3; (first | exact a_st_bx rfl rfl rfl rfl (fN rfl rfl) (Nat.le_of_ble_eq_true rfl) rfl | exact a_stE (E := eR) ⟨_, _, _⟩ rfl rfl rfl rfl (fN rfl rfl) bnd (by exact rfl)); exact rfl; refine dS ?_) | (apply c4 0; exact callK1 (θ := []) (hD := (isRule_ok _)); exact rfl; exact rfl; exact rfl; refine dM ?_) | (apply g_drN (id := 6) okM [[],[],[1],[1,2],[0,1,2,3],[],[],[6],[6,7],[5,6,7,8],[0,1,2,3,4],[0,1,2,3,4,5,6,7,8,9,10]] [([],[]),([],[]),([],[]),([],[]),([],[]),([],[]),([],[]),([],[]),([],[]),([],[]),([],[]),([],[])] 0; (focus (refine dp 0 0 [18, 19, 20, 22, 23, 24, 25, 26] [] pu1 ?_; refine dp 1 0 [17, 22, 23, 24, 25, 26] [] (a_pure (sv := .one _) rfl) ?_; refine dp 2 1 [17, 22, 23, 24, 25, 26] [] puL ?_; refine dp 3 3 [17, 22, 23, 24, 25, 26] [] (a_add rfl rfl (by omega) (by omega)) ?_; refine dp 4 15 [22, 23, 24, 25, 26] [] (a_max rfl rfl) ?_; refine dp 5 0 [17, 18, 19, 20, 21, 23, 24, 25, 4] [] pu1 ?_; refine dp 6 0 [17, 18, 19, 20, 21, 22, 4] [] (a_pure (sv := .one _) rfl) ?_; refine dp 7 1 [17, 18, 19, 20, 21, 22, 4] [] puL ?_; refine dp 8 3 [17, 18, 19, 20, 21, 22, 4] [] (a_add rfl rfl (by omega) (by omega)) ?_; refine dp 9 15 [17, 18, 19, 20, 21, 4] [] (a_max rfl rfl) ?_; refine dp 10 992 [22, 23, 24, 25, 26] [] pu1 ?_; refine dp 11 2047 [] [] pu1 ?_; (refine d_nil ?_; refine dN ?_))); any_goals kernel_rfl) | ((first | refine o_gs rfl rfl (fun hc => ?_) (fun hc => ?_) | refine g_cond rfl (fun hc => ?_) (fun hc => ?_)) <;> (try simp only [dcB] at hc) <;> (try first | contradiction | (exfalso; omega)))
  refine g_loop_id ?_
  refine loopK [2, 3, 9, 10] [] (fun y : Int × Int × Int => 0 ≤ y.1 ∧ y.1 ≤ m.ru.length ∧ usL (m.ru.drop y.1.toNat) y.2.1 y.2.2 = usL m.ru 1 1) (fun y => [(11, .one (int y.1)), (4, .one (int y.2.1)), (5, .one (int y.2.2))]) (fun _ => []) (fun y => (m.ru.length - y.1).toNat) ((0 : Int), (1 : Int), (1 : Int)) [0] (hI := ?_) (hr := ?_)
  · exact ⟨by simp, by simp, rfl⟩
  · rintro ⟨i, s, y⟩ ⟨h0, h1, h2⟩
    dsimp only [List.cons_append, List.nil_append] at *
    skip
    repeat' first | (apply n3; exact a_new (gb := .bx _) rfl; exact rfl; refine dA ?_) | (apply p3; (first | exact pu1 | exact puL | exact puC | exact puI); exact rfl) | refine cdn ?_ | refine g_reg (id := 3) ?_ | refine g_reg (id := 4) ?_ | (apply w3; (first | exact a_st_bx rfl rfl rfl rfl (fN rfl rfl) (Nat.le_of_ble_eq_true rfl) rfl | exact a_stE (E := eR) ⟨_, _, _⟩ rfl rfl rfl rfl (fN rfl rfl) bnd (by exact rfl)); exact rfl; refine dS ?_) | ((first | refine o_gs rfl rfl (fun hc => ?_) (fun hc => ?_) | refine g_cond rfl (fun hc => ?_) (fun hc => ?_)) <;> (try simp only [dcB] at hc) <;> (try first | contradiction | (exfalso; omega)))
    · have hb := vMach_ru hm i.toNat (by omega)
      have hn := us_no (s := s) (y := y) h0 (show i.toNat < m.ru.length by omega)
      have hy := us_yes (s := s) (y := y) h0 (show i.toNat < m.ru.length by omega)
      generalize m.ru[i.toNat] = r at *
      by_cases hr : r = noR
      · repeat' first | (apply n3; exact a_new (gb := .bx _) rfl; exact rfl; refine dA ?_) | (apply p3; (first | exact pu1 | exact puL | exact puC | exact a_add rfl rfl (by omega) (by omega) | exact puI); exact rfl) | refine cd ?_ | (apply w3; (first | exact a_st_bx rfl rfl rfl rfl (fN rfl rfl) (Nat.le_of_ble_eq_true rfl) rfl | exact a_stE (E := eR) ⟨_, _, _⟩ rfl rfl rfl rfl (fN rfl rfl) bnd (by exact rfl)); exact rfl; refine dS ?_) | (apply c4 0; exact callK1 (θ := []) (hD := (isRule_ok _)); exact rfl; exact rfl; exact rfl; refine dM ?_) | (apply g_drN (id := 6) okM [[],[],[1],[1,2],[0,1,2,3],[],[],[6],[6,7],[5,6,7,8],[0,1,2,3,4],[0,1,2,3,4,5,6,7,8,9,10]] [([],[]),([],[]),([],[]),([],[]),([],[]),([],[]),([],[]),([],[]),([],[]),([],[]),([],[]),([],[])] 0; (focus (refine dp 0 0 [18, 19, 20, 22, 23, 24, 25, 26] [] pu1 ?_; refine dp 1 0 [17, 22, 23, 24, 25, 26] [] (a_pure (sv := .one _) rfl) ?_; refine dp 2 1 [17, 22, 23, 24, 25, 26] [] puL ?_; refine dp 3 3 [17, 22, 23, 24, 25, 26] [] (a_add rfl rfl (by omega) (by omega)) ?_; refine dp 4 15 [22, 23, 24, 25, 26] [] (a_max rfl rfl) ?_; refine dp 5 0 [17, 18, 19, 20, 21, 23, 24, 25, 4] [] pu1 ?_; refine dp 6 0 [17, 18, 19, 20, 21, 22, 4] [] (a_pure (sv := .one _) rfl) ?_; refine dp 7 1 [17, 18, 19, 20, 21, 22, 4] [] puL ?_; refine dp 8 3 [17, 18, 19, 20, 21, 22, 4] [] (a_add rfl rfl (by omega) (by omega)) ?_; refine dp 9 15 [17, 18, 19, 20, 21, 4] [] (a_max rfl rfl) ?_; refine dp 10 992 [22, 23, 24, 25, 26] [] pu1 ?_; refine dp 11 2047 [] [] pu1 ?_; (refine d_nil ?_; refine dN ?_))); any_goals kernel_rfl) | ((first | refine o_gs rfl rfl (fun hc => ?_) (fun hc => ?_) | refine g_cond rfl (fun hc => ?_) (fun hc => ?_)) <;> (try simp only [dcB] at hc) <;> (try first | contradiction | (exfalso; omega)))
        refine q_again (i + 1, s, y) [0] (by exact stk) ?_ ?_
        · exact ⟨by dsimp only; omega, by dsimp only; omega, (hn hr).trans h2⟩
        · dsimp only; omega
      · repeat' first | (apply n3; exact a_new (gb := .bx _) rfl; exact rfl; refine dA ?_) | (apply p3; (first | exact pu1 | exact puL | exact puC | exact a_add rfl rfl (by omega) (by omega) | exact puI); exact rfl) | refine cd ?_ | (apply w3; (first | exact a_st_bx rfl rfl rfl rfl (fN rfl rfl) (Nat.le_of_ble_eq_true rfl) rfl | exact a_stE (E := eR) ⟨_, _, _⟩ rfl rfl rfl rfl (fN rfl rfl) bnd (by exact rfl)); exact rfl; refine dS ?_) | (apply c4 0; exact callK1 (θ := []) (hD := (isRule_ok _)); exact rfl; exact rfl; exact rfl; refine dM ?_) | (apply g_drN (id := 6) okM [[],[],[1],[1,2],[0,1,2,3],[],[],[6],[6,7],[5,6,7,8],[0,1,2,3,4],[0,1,2,3,4,5,6,7,8,9,10]] [([],[]),([],[]),([],[]),([],[]),([],[]),([],[]),([],[]),([],[]),([],[]),([],[]),([],[]),([],[])] 0; (focus (refine dp 0 0 [18, 19, 20, 22, 23, 24, 25, 26] [] pu1 ?_; refine dp 1 0 [17, 22, 23, 24, 25, 26] [] (a_pure (sv := .one _) rfl) ?_; refine dp 2 1 [17, 22, 23, 24, 25, 26] [] puL ?_; refine dp 3 3 [17, 22, 23, 24, 25, 26] [] (a_add rfl rfl (by omega) (by omega)) ?_; refine dp 4 15 [22, 23, 24, 25, 26] [] (a_max rfl rfl) ?_; refine dp 5 0 [17, 18, 19, 20, 21, 23, 24, 25, 4] [] pu1 ?_; refine dp 6 0 [17, 18, 19, 20, 21, 22, 4] [] (a_pure (sv := .one _) rfl) ?_; refine dp 7 1 [17, 18, 19, 20, 21, 22, 4] [] puL ?_; refine dp 8 3 [17, 18, 19, 20, 21, 22, 4] [] (a_add rfl rfl (by omega) (by omega)) ?_; refine dp 9 15 [17, 18, 19, 20, 21, 4] [] (a_max rfl rfl) ?_; refine dp 10 992 [22, 23, 24, 25, 26] [] pu1 ?_; refine dp 11 2047 [] [] pu1 ?_; (refine d_nil ?_; refine dN ?_))); any_goals kernel_rfl) | ((first | refine o_gs rfl rfl (fun hc => ?_) (fun hc => ?_) | refine g_cond rfl (fun hc => ?_) (fun hc => ?_)) <;> (try simp only [dcB] at hc) <;> (try first | contradiction | (exfalso; omega)))
        have em : ∀ a b : Int, (if a > b then a else b) = max b a := fun a b => by split <;> omega
        refine q_again (i + 1, if r.n + 1 > s then r.n + 1 else s, if r.w + 1 > y then r.w + 1 else y) [0] (by exact stk) ?_ ?_
        · exact ⟨by dsimp only; omega, by dsimp only; omega, by dsimp only; rw [em, em]; exact (hy hr).trans h2⟩
        · dsimp only; omega
    · have e : usS m = s := by unfold usS; rw [← h2, show i.toNat = m.ru.length by omega, List.drop_length]; rfl
      have e' : usY m = y := by unfold usY; rw [← h2, show i.toNat = m.ru.length by omega, List.drop_length]; rfl
      rw [e, e']
      repeat' first | (apply n3; exact a_new (gb := .bx _) rfl; exact rfl; refine dA ?_) | (apply p3; (first | exact pu1 | exact puL | exact puC | exact a_add rfl rfl (by omega) (by omega) | exact puI); exact rfl) | refine cd ?_ | (apply w3; (first | exact a_st_bx rfl rfl rfl rfl (fN rfl rfl) (Nat.le_of_ble_eq_true rfl) rfl | exact a_stE (E := eR) ⟨_, _, _⟩ rfl rfl rfl rfl (fN rfl rfl) bnd (by exact rfl)); exact rfl; refine dS ?_) | (apply c4 0; exact callK1 (θ := []) (hD := (isRule_ok _)); exact rfl; exact rfl; exact rfl; refine dM ?_) | (apply g_drN (id := 6) okM [[],[],[1],[1,2],[0,1,2,3],[],[],[6],[6,7],[5,6,7,8],[0,1,2,3,4],[0,1,2,3,4,5,6,7,8,9,10]] [([],[]),([],[]),([],[]),([],[]),([],[]),([],[]),([],[]),([],[]),([],[]),([],[]),([],[]),([],[])] 0; (focus (refine dp 0 0 [18, 19, 20, 22, 23, 24, 25, 26] [] pu1 ?_; refine dp 1 0 [17, 22, 23, 24, 25, 26] [] (a_pure (sv := .one _) rfl) ?_; refine dp 2 1 [17, 22, 23, 24, 25, 26] [] puL ?_; refine dp 3 3 [17, 22, 23, 24, 25, 26] [] (a_add rfl rfl (by omega) (by omega)) ?_; refine dp 4 15 [22, 23, 24, 25, 26] [] (a_max rfl rfl) ?_; refine dp 5 0 [17, 18, 19, 20, 21, 23, 24, 25, 4] [] pu1 ?_; refine dp 6 0 [17, 18, 19, 20, 21, 22, 4] [] (a_pure (sv := .one _) rfl) ?_; refine dp 7 1 [17, 18, 19, 20, 21, 22, 4] [] puL ?_; refine dp 8 3 [17, 18, 19, 20, 21, 22, 4] [] (a_add rfl rfl (by omega) (by omega)) ?_; refine dp 9 15 [17, 18, 19, 20, 21, 4] [] (a_max rfl rfl) ?_; refine dp 10 992 [22, 23, 24, 25, 26] [] pu1 ?_; refine dp 11 2047 [] [] pu1 ?_; (refine d_nil ?_; refine dN ?_))); any_goals kernel_rfl) | ((first | refine o_gs rfl rfl (fun hc => ?_) (fun hc => ?_) | refine g_cond rfl (fun hc => ?_) (fun hc => ?_)) <;> (try simp only [dcB] at hc) <;> (try first | contradiction | (exfalso; omega)))
      repeat refine cr ?_
      refine ends_id ?_
      refine endK [] (h2 := ?_) (h3 := ?_) (nd := ?_)
      all_goals (repeat' first | exact ce0 | refine ce ?_ | refine ce2 ?_ ?_ | exact SVLe.refl | refine ceb ?_)
      all_goals first | exact (show nodupB _ = true from rfl) | exact Or.inr rfl | (rfl)
theorem l30Used_ok (m : Mach) (hm : vMach m = true) : Does Tryz.prog 159 [.one (maB m)] [] (.tup [(false, [int (usS m)]), (false, [int (usY m)]), (false, [int (rcL m.ru)])]) [] := by
  have hl := vMach_len hm
  refine does_of (k := 0) Tryz.func159 rfl Tryz.ntmps159 rfl rfl fun w F0 S0 ρ0 => ?_
  dsimp only [argT, argH]
  repeat' first | (apply p3; (first | exact pu1 | exact puL | exact puN | exact a_len_str rfl (fT rfl) | exact puC | exact a_add rfl rfl (by omega) (by omega) | exact puI); exact rfl) | refine cd ?_ | (apply c4 0; exact callK1 (θ := []) (hD := (l00Max_ok _ _)); exact rfl; exact rfl; exact rfl; refine dM ?_) | (apply g_drN (id := 7) okM [[],[0],[0,1],[0,1,2],[],[0,1,2,3,4],[0,1,2,3,4,5],[],[0,1,2,3,4,5,6,7]] [([],[]),([],[]),([],[]),([],[]),([],[]),([],[]),([],[]),([],[]),([],[])] 0; (focus (refine dp 0 0 [22, 25] [] pu1 ?_; refine dp 1 1 [22, 25] [] (a_pure (sv := .one _) rfl) ?_; refine dp 2 3 [22, 25] [] (a_pure (sv := .one _) rfl) ?_; refine dp 3 7 [22, 25] [] puL ?_; refine dp 4 0 [18, 19, 20, 21, 25] [] pu1 ?_; refine dp 5 31 [25] [] puI ?_; refine dp 6 63 [25] [] puL ?_; refine dp 7 0 [18, 19, 20, 21, 22, 23, 24] [] (callD1 (n := _) 0 (θ := []) (hD := l05None_ok)) ?_; refine dp 8 255 [] [] (by first | exact a_neRule rfl rfl | exact a_neRule (s := ⟨_, _, _⟩) rfl rfl | exact a_neRule (r := ⟨_, _, _⟩) rfl rfl | exact a_neRule (r := ⟨_, _, _⟩) (s := ⟨_, _, _⟩) rfl rfl) ?_; (refine d_nil ?_; refine dN ?_))); any_goals kernel_rfl) | ((first | refine o_gs rfl rfl (fun hc => ?_) (fun hc => ?_) | refine g_cond rfl (fun hc => ?_) (fun hc => ?_)) <;> (try simp only [dcB] at hc) <;> (try first | contradiction | (exfalso; omega)))
  refine g_loop_id ?_
  refine loopK [0, 2, 3, 4] [] (fun y : Int × Int × Int × Int => 0 ≤ y.1 ∧ y.1 ≤ m.ru.length ∧ usL (m.ru.drop y.1.toNat) y.2.1 y.2.2.1 = usL m.ru 1 1 ∧ y.2.2.2 + rcL (m.ru.drop y.1.toNat) = rcL m.ru ∧ 0 ≤ y.2.2.2 ∧ y.2.2.2 ≤ y.1) (fun y => [(8, .one (int y.1)), (5, .one (int y.2.1)), (6, .one (int y.2.2.1)), (7, .one (int y.2.2.2))]) (fun _ => []) (fun y => (m.ru.length - y.1).toNat) ((0 : Int), (1 : Int), (1 : Int), (0 : Int)) [] (hI := ?_) (hr := ?_)
  · exact ⟨by simp, by simp, rfl, by simp, by simp, by simp⟩
  · rintro ⟨i, s, y, c⟩ ⟨h0, h1, h2, h3, h4, h5⟩
    dsimp only [List.cons_append, List.nil_append] at *
    skip
    repeat' first | (apply p3; (first | exact pu1 | exact puL | exact puN | exact a_len_str rfl (fT rfl) | exact puC); exact rfl) | refine cdn ?_ | refine g_reg (id := 5) ?_ | ((first | refine o_gs rfl rfl (fun hc => ?_) (fun hc => ?_) | refine g_cond rfl (fun hc => ?_) (fun hc => ?_)) <;> (try simp only [dcB] at hc) <;> (try first | contradiction | (exfalso; omega)))
    · have hb := vMach_ru hm i.toNat (by omega)
      have hn := us_no (s := s) (y := y) h0 (show i.toNat < m.ru.length by omega)
      have hy := us_yes (s := s) (y := y) h0 (show i.toNat < m.ru.length by omega)
      have cn := rc_no h0 (show i.toNat < m.ru.length by omega)
      have cy := rc_yes h0 (show i.toNat < m.ru.length by omega)
      try dsimp only at h2 h3
      by_cases hr : m.ru[i.toNat]'(by omega) = noR
      · have hr2 : ¬ ¬ m.ru[i.toNat]'(by omega) = ⟨0, 0, -1⟩ := fun h => h hr
        repeat' first | (apply p3; (first | exact pu1 | exact puL | exact puN | exact a_len_str rfl (fT rfl) | exact puC | exact a_add rfl rfl (by omega) (by omega) | exact puI); exact rfl) | refine cd ?_ | (apply c4 0; exact callK1 (θ := []) (hD := (l00Max_ok _ _)); exact rfl; exact rfl; exact rfl; refine dM ?_) | (apply g_drN (id := 7) okM [[],[0],[0,1],[0,1,2],[],[0,1,2,3,4],[0,1,2,3,4,5],[],[0,1,2,3,4,5,6,7]] [([],[]),([],[]),([],[]),([],[]),([],[]),([],[]),([],[]),([],[]),([],[])] 0; (focus (refine dp 0 0 [22, 25] [] pu1 ?_; refine dp 1 1 [22, 25] [] (a_pure (sv := .one _) rfl) ?_; refine dp 2 3 [22, 25] [] (a_pure (sv := .one _) rfl) ?_; refine dp 3 7 [22, 25] [] puL ?_; refine dp 4 0 [18, 19, 20, 21, 25] [] pu1 ?_; refine dp 5 31 [25] [] puI ?_; refine dp 6 63 [25] [] puL ?_; refine dp 7 0 [18, 19, 20, 21, 22, 23, 24] [] (callD1 (n := _) 0 (θ := []) (hD := l05None_ok)) ?_; refine dp 8 255 [] [] (by first | exact a_neRule rfl rfl | exact a_neRule (s := ⟨_, _, _⟩) rfl rfl | exact a_neRule (r := ⟨_, _, _⟩) rfl rfl | exact a_neRule (r := ⟨_, _, _⟩) (s := ⟨_, _, _⟩) rfl rfl) ?_; (refine d_nil ?_; refine dN ?_))); any_goals kernel_rfl) | ((first | refine o_gs rfl rfl (fun hc => ?_) (fun hc => ?_) | refine g_cond rfl (fun hc => ?_) (fun hc => ?_)) <;> (try simp only [dcB] at hc) <;> (try first | contradiction | (exfalso; omega)))
        refine q_again (i + 1, s, y, c) [] (by exact stk) ?_ ?_
        · exact ⟨by dsimp only; omega, by dsimp only; omega, (hn hr).trans h2, by dsimp only; rw [cn hr]; exact h3, h4, by dsimp only; omega⟩
        · dsimp only; omega
      · have hr2 : ¬ m.ru[i.toNat]'(by omega) = ⟨0, 0, -1⟩ := hr
        have cy := cy hr
        repeat' first | (apply p3; (first | exact pu1 | exact puL | exact puN | exact a_len_str rfl (fT rfl) | exact puC | exact a_add rfl rfl (by omega) (by omega) | exact puI); exact rfl) | refine cd ?_ | (apply c4 0; exact callK1 (θ := []) (hD := (l00Max_ok _ _)); exact rfl; exact rfl; exact rfl; refine dM ?_) | (apply g_drN (id := 7) okM [[],[0],[0,1],[0,1,2],[],[0,1,2,3,4],[0,1,2,3,4,5],[],[0,1,2,3,4,5,6,7]] [([],[]),([],[]),([],[]),([],[]),([],[]),([],[]),([],[]),([],[]),([],[])] 0; (focus (refine dp 0 0 [22, 25] [] pu1 ?_; refine dp 1 1 [22, 25] [] (a_pure (sv := .one _) rfl) ?_; refine dp 2 3 [22, 25] [] (a_pure (sv := .one _) rfl) ?_; refine dp 3 7 [22, 25] [] puL ?_; refine dp 4 0 [18, 19, 20, 21, 25] [] pu1 ?_; refine dp 5 31 [25] [] puI ?_; refine dp 6 63 [25] [] puL ?_; refine dp 7 0 [18, 19, 20, 21, 22, 23, 24] [] (callD1 (n := _) 0 (θ := []) (hD := l05None_ok)) ?_; refine dp 8 255 [] [] (by first | exact a_neRule rfl rfl | exact a_neRule (s := ⟨_, _, _⟩) rfl rfl | exact a_neRule (r := ⟨_, _, _⟩) rfl rfl | exact a_neRule (r := ⟨_, _, _⟩) (s := ⟨_, _, _⟩) rfl rfl) ?_; (refine d_nil ?_; refine dN ?_))); any_goals kernel_rfl) | ((first | refine o_gs rfl rfl (fun hc => ?_) (fun hc => ?_) | refine g_cond rfl (fun hc => ?_) (fun hc => ?_)) <;> (try simp only [dcB] at hc) <;> (try first | contradiction | (exfalso; omega)))
        refine q_again (i + 1, max s ((m.ru[i.toNat]'(by omega)).n + 1), max y ((m.ru[i.toNat]'(by omega)).w + 1), c + 1) [] (by exact stk) ?_ ?_
        · exact ⟨by dsimp only; omega, by dsimp only; omega, (hy hr).trans h2, by dsimp only; omega, by dsimp only; omega, by dsimp only; omega⟩
        · dsimp only; omega
    · have hi : i.toNat = m.ru.length := by omega
      have e : usS m = s := by unfold usS; rw [← h2, hi, List.drop_length]; rfl
      have e' : usY m = y := by unfold usY; rw [← h2, hi, List.drop_length]; rfl
      have e2 : ((rcL m.ru : Nat) : Int) = c := by rw [← h3, hi, List.drop_length]; simp [rcL]
      rw [e, e', e2]
      repeat' first | (apply p3; (first | exact pu1 | exact puL | exact puN | exact a_len_str rfl (fT rfl) | exact puC | exact a_add rfl rfl (by omega) (by omega) | exact puI); exact rfl) | refine cd ?_ | (apply c4 0; exact callK1 (θ := []) (hD := (l00Max_ok _ _)); exact rfl; exact rfl; exact rfl; refine dM ?_) | (apply g_drN (id := 7) okM [[],[0],[0,1],[0,1,2],[],[0,1,2,3,4],[0,1,2,3,4,5],[],[0,1,2,3,4,5,6,7]] [([],[]),([],[]),([],[]),([],[]),([],[]),([],[]),([],[]),([],[]),([],[])] 0; (focus (refine dp 0 0 [22, 25] [] pu1 ?_; refine dp 1 1 [22, 25] [] (a_pure (sv := .one _) rfl) ?_; refine dp 2 3 [22, 25] [] (a_pure (sv := .one _) rfl) ?_; refine dp 3 7 [22, 25] [] puL ?_; refine dp 4 0 [18, 19, 20, 21, 25] [] pu1 ?_; refine dp 5 31 [25] [] puI ?_; refine dp 6 63 [25] [] puL ?_; refine dp 7 0 [18, 19, 20, 21, 22, 23, 24] [] (callD1 (n := _) 0 (θ := []) (hD := l05None_ok)) ?_; refine dp 8 255 [] [] (by first | exact a_neRule rfl rfl | exact a_neRule (s := ⟨_, _, _⟩) rfl rfl | exact a_neRule (r := ⟨_, _, _⟩) rfl rfl | exact a_neRule (r := ⟨_, _, _⟩) (s := ⟨_, _, _⟩) rfl rfl) ?_; (refine d_nil ?_; refine dN ?_))); any_goals kernel_rfl) | ((first | refine o_gs rfl rfl (fun hc => ?_) (fun hc => ?_) | refine g_cond rfl (fun hc => ?_) (fun hc => ?_)) <;> (try simp only [dcB] at hc) <;> (try first | contradiction | (exfalso; omega)))
      repeat refine cr ?_
      refine ends_id ?_
      refine endK [] (h2 := ?_) (h3 := ?_) (nd := ?_)
      all_goals (repeat' first | exact ce0 | refine ce ?_ | refine ce2 ?_ ?_ | exact SVLe.refl | refine ceb ?_)
      all_goals first | exact (show nodupB _ = true from rfl) | exact Or.inr rfl | (rfl)
theorem runT_ok (m : Mach) (B : Int) (c : Conf) (n : Int) (oh : Bool) (hm : vMach m = true) (h1 : B ≤ 1000000) (hO : rlO m B.toNat 0 blank = (c, n, oh, true)) : Does Tryz.prog 177 [.one (.gv 0), .one (int B)] [ruBx m 0 1 2, roI [], roI []] (.tup [(false, [int n]), (false, [boo oh]), (false, [int 0])]) [ruBx m c.st 3 4, .dead, .dead, roI c.le.reverse, roI c.ri.reverse] := by
  have h := run_ok m blank B hm (vBlank hm) (by omega)
  have hr := (run_rl m B).1 (by rw [hO])
  rw [hO] at hr
  obtain ⟨q1, q2, q3, q4⟩ := hr
  rw [q1, q2, q3, q4] at h
  exact h
theorem runF_ok (m : Mach) (B : Int) (hm : vMach m = true) (h1 : B ≤ 1000000) (hO : (rlO m B.toNat 0 blank).2.2.2 = false) : Does Tryz.prog 177 [.one (.gv 0), .one (int B)] [ruBx m 0 1 2, roI [], roI []] (.tup [(false, [int (runMade (runIt m B blank))]), (false, [boo (runHalts m (runIt m B blank))]), (false, [int 5])]) [ruBx m (runIt m B blank).c.st 3 4, .dead, .dead, roI (runIt m B blank).c.le.reverse, roI (runIt m B blank).c.ri.reverse] := by
  have h := run_ok m blank B hm (vBlank hm) (by omega)
  have hr := (run_rl m B).2 hO
  rw [hr] at h
  exact h
theorem nodeStatus_ok (m : Mach) (B : Int) (hm : vMach m = true) (h0 : 0 ≤ B) (h1 : B ≤ 1000000) : Does Tryz.prog 151 [.agg (maC m), .one (int B)] [] (.tup [(false, [int (ndS m B)]), (false, [int (ndA m B)]), (false, [int (ndN m B)])]) [] := by
  have hfr := free_rc m
  have hok := rl_ok hm B.toNat 0 blank (vBlank hm)
  by_cases hk : (rlO m B.toNat 0 blank).2.2.2 = true
  · have hvc := hok hk
    have e1 : ndS m B = if (rlO m B.toNat 0 blank).2.2.1 = true then if (rcL m.ru : Int) + 1 = m.ru.length then 1 else 0 else 2 := by unfold ndS; rw [if_pos hk]
    have e2 : ndA m B = if (rlO m B.toNat 0 blank).2.2.1 = true then (rlO m B.toNat 0 blank).1.st * m.sy + (rlO m B.toNat 0 blank).1.ri.headD 0 else 0 := by unfold ndA; rw [if_pos hk]
    have e3 : ndN m B = (rlO m B.toNat 0 blank).2.1 := by unfold ndN; rw [if_pos hk]
    rw [e1, e2, e3]
    generalize hO : rlO m B.toNat 0 blank = O at *
    obtain ⟨c, n, oh, ok⟩ := O
    obtain rfl : ok = true := hk
    try dsimp only at hvc ⊢
    cases oh
    · rw [if_neg (by decide), if_neg (by decide)]
      refine does_of (k := 0) Tryz.func151 rfl Tryz.ntmps151 rfl rfl fun w F0 S0 ρ0 => ?_
      dsimp only [argT, argH]
      repeat' first | (apply n3; exact a_new (gb := .bx _) rfl; exact rfl; refine dA ?_) | (apply p3; (first | exact pu1 | exact puL | exact a_ne rfl rfl | exact a_neS rfl rfl rfl | exact puN | exact a_len_str rfl (fT rfl) | exact puC | exact a_eqS rfl rfl rfl); exact rfl) | refine cd ?_ | (apply c4 3; exact callK0 (θ := []) (hD := (blankRun_ok _)); exact rfl; exact rfl; exact rfl; refine dM ?_) | (apply c4 2; exact callK0 (θ := [1, 2, 3]) (hD := (runT_ok m B c n false hm preB92 hO)); exact rfl; exact rfl; exact rfl; refine dM ?_) | (apply c4 1; exact callK1 (θ := []) (hD := (freeRules_ok _ preB92)); exact rfl; exact rfl; exact rfl; refine dM ?_) | (apply c4 0; exact callK1 (θ := []) (hD := (atC_ok _ _ preB92 preB92)); exact rfl; exact rfl; exact rfl; refine dM ?_) | ((first | refine o_gs rfl rfl (fun hc => ?_) (fun hc => ?_) | refine g_cond rfl (fun hc => ?_) (fun hc => ?_)) <;> (try simp only [dcB] at hc) <;> (try first | contradiction | (exfalso; omega)))
      repeat refine cr ?_
      refine ends_id ?_
      refine endK [] (h2 := ?_) (h3 := ?_) (nd := ?_)
      all_goals (repeat' first | exact ce0 | refine ce ?_ | refine ce2 ?_ ?_ | exact SVLe.refl | refine ceb ?_)
      all_goals first | exact (show nodupB _ = true from rfl) | exact Or.inr rfl | (rfl)
    · rw [if_pos rfl, if_pos rfl]
      refine does_of (k := 0) Tryz.func151 rfl Tryz.ntmps151 rfl rfl fun w F0 S0 ρ0 => ?_
      dsimp only [argT, argH]
      repeat' first | (apply n3; exact a_new (gb := .bx _) rfl; exact rfl; refine dA ?_) | (apply p3; (first | exact pu1 | exact puL | exact a_ne rfl rfl | exact a_neS rfl rfl rfl | exact puN | exact a_len_str rfl (fT rfl) | exact puC | exact a_eqS rfl rfl rfl); exact rfl) | refine cd ?_ | (apply c4 3; exact callK0 (θ := []) (hD := (blankRun_ok _)); exact rfl; exact rfl; exact rfl; refine dM ?_) | (apply c4 2; exact callK0 (θ := [1, 2, 3]) (hD := (runT_ok m B c n true hm preB92 hO)); exact rfl; exact rfl; exact rfl; refine dM ?_) | (apply c4 1; exact callK1 (θ := []) (hD := (freeRules_ok _ preB92)); exact rfl; exact rfl; exact rfl; refine dM ?_) | (apply c4 0; exact callK1 (θ := []) (hD := (atC_ok m c hm hvc)); exact rfl; exact rfl; exact rfl; refine dM ?_) | (apply c4 0; exact callK1 (θ := []) (hD := (atC_ok m c hm hvc)); exact rfl; exact rfl; exact rfl; refine dM ?_) | ((first | refine o_gs rfl rfl (fun hc => ?_) (fun hc => ?_) | refine g_cond rfl (fun hc => ?_) (fun hc => ?_)) <;> (try simp only [dcB] at hc) <;> (try first | contradiction | (exfalso; omega)))
      all_goals
        repeat refine cr ?_
        refine ends_id ?_
        refine endK [] (h2 := ?_) (h3 := ?_) (nd := ?_)
        all_goals (repeat' first | exact ce0 | refine ce ?_ | refine ce2 ?_ ?_ | exact SVLe.refl | refine ceb ?_)
        all_goals first | exact (show nodupB _ = true from rfl) | exact Or.inr rfl | ((first | rfl | (rw [if_pos (by omega)]) | (rw [if_neg (by omega)])))
  · have q : (rlO m B.toNat 0 blank).2.2.2 = false := by simpa using hk
    have e1 : ndS m B = 3 := by unfold ndS; rw [if_neg hk]
    have e2 : ndA m B = 0 := by unfold ndA; rw [if_neg hk]
    have e3 : ndN m B = 0 := by unfold ndN; rw [if_neg hk]
    rw [e1, e2, e3]
    refine does_of (k := 0) Tryz.func151 rfl Tryz.ntmps151 rfl rfl fun w F0 S0 ρ0 => ?_
    dsimp only [argT, argH]
    repeat' first | (apply n3; exact a_new (gb := .bx _) rfl; exact rfl; refine dA ?_) | (apply p3; (first | exact pu1 | exact puL | exact a_ne rfl rfl | exact a_neS rfl rfl rfl | exact puN | exact a_len_str rfl (fT rfl) | exact puC | exact a_eqS rfl rfl rfl); exact rfl) | refine cd ?_ | (apply c4 3; exact callK0 (θ := []) (hD := (blankRun_ok _)); exact rfl; exact rfl; exact rfl; refine dM ?_) | (apply c4 2; exact callK0 (θ := [1, 2, 3]) (hD := (runF_ok m B hm preB92 q)); exact rfl; exact rfl; exact rfl; refine dM ?_) | (apply c4 1; exact callK1 (θ := []) (hD := (freeRules_ok _ preB92)); exact rfl; exact rfl; exact rfl; refine dM ?_) | (apply c4 0; exact callK1 (θ := []) (hD := (atC_ok m c hm hvc)); exact rfl; exact rfl; exact rfl; refine dM ?_) | (apply c4 0; exact callK1 (θ := []) (hD := (atC_ok m c hm hvc)); exact rfl; exact rfl; exact rfl; refine dM ?_) | ((first | refine o_gs rfl rfl (fun hc => ?_) (fun hc => ?_) | refine g_cond rfl (fun hc => ?_) (fun hc => ?_)) <;> (try simp only [dcB] at hc) <;> (try first | contradiction | (exfalso; omega)))
    repeat refine cr ?_
    refine ends_id ?_
    refine endK [] (h2 := ?_) (h3 := ?_) (nd := ?_)
    all_goals (repeat' first | exact ce0 | refine ce ?_ | refine ce2 ?_ ?_ | exact SVLe.refl | refine ceb ?_)
    all_goals first | exact (show nodupB _ = true from rfl) | exact Or.inr rfl | (rfl)
theorem l30Status_ok (m : Mach) (B : Int) (hm : vMach m = true) (h0 : 0 ≤ B) (h1 : B ≤ 1000000) : Does Tryz.prog 98 [.one (maB m), .one (int B)] [] (.tup [(false, [int (ndS m B)]), (false, [int (ndA m B)]), (false, [int (ndN m B)])]) [] := by
  have hv := vBlank hm
  have hok := rl_ok hm B.toNat 0 blank hv
  have hl := vMach_len hm
  have hrc := rcL_le m.ru
  by_cases hk : (rlO m B.toNat 0 blank).2.2.2 = true
  · have hvc := hok hk
    have e1 : ndS m B = if (rlO m B.toNat 0 blank).2.2.1 = true then if (rcL m.ru : Int) + 1 = m.ru.length then 1 else 0 else 2 := by unfold ndS; rw [if_pos hk]
    have e2 : ndA m B = if (rlO m B.toNat 0 blank).2.2.1 = true then (rlO m B.toNat 0 blank).1.st * m.sy + (rlO m B.toNat 0 blank).1.ri.headD 0 else 0 := by unfold ndA; rw [if_pos hk]
    have e3 : ndN m B = (rlO m B.toNat 0 blank).2.1 := by unfold ndN; rw [if_pos hk]
    rw [e1, e2, e3]
    generalize hO : rlO m B.toNat 0 blank = O at *
    obtain ⟨c, n, oh, ok⟩ := O
    obtain rfl : ok = true := hk
    try dsimp only at hvc ⊢
    cases oh
    · rw [if_neg (by decide), if_neg (by decide)]
      refine does_of (k := 0) Tryz.func98 rfl Tryz.ntmps98 rfl rfl fun w F0 S0 ρ0 => ?_
      dsimp only [argT, argH]
      repeat' first | (apply n3; exact a_new (gb := .bx _) rfl; exact rfl; refine dA ?_) | (apply p3; (first | exact pu1 | exact puL | exact a_add rfl rfl (by omega) (by omega) | exact puN | exact a_len_str rfl (fT rfl) | exact puC | exact a_eqS rfl rfl rfl); exact rfl) | refine cd ?_ | (apply w3; (first | exact a_st_bx rfl rfl rfl rfl (fN rfl rfl) (Nat.le_of_ble_eq_true rfl) rfl | exact a_stE (E := eCf) ⟨_, _, _⟩ rfl rfl rfl rfl (fN rfl rfl) bnd (by exact rfl)); exact rfl; refine dS ?_) | (apply c4 2; exact callK1 (θ := []) (hD := (l05Run_ok m blank B hm hv preB92 preB92 ⟨c, n, false, true⟩ hO)); exact rfl; exact rfl; exact rfl; refine dM ?_) | (apply c4 0; exact callK1 (θ := []) (hD := (l30Used_ok _ preB92)); exact rfl; exact rfl; exact rfl; refine dM ?_) | (apply c4 0; exact callK1 (θ := []) (hD := (l05AtC_ok _ _ preB92 preB92)); exact rfl; exact rfl; exact rfl; refine dM ?_) | ((first | refine o_gs rfl rfl (fun hc => ?_) (fun hc => ?_) | refine g_cond rfl (fun hc => ?_) (fun hc => ?_)) <;> (try simp only [dcB] at hc) <;> (try first | contradiction | (exfalso; omega)))
      repeat refine cr ?_
      refine ends_id ?_
      refine endK [] (h2 := ?_) (h3 := ?_) (nd := ?_)
      all_goals (repeat' first | exact ce0 | refine ce ?_ | refine ce2 ?_ ?_ | exact SVLe.refl | refine ceb ?_)
      all_goals first | exact (show nodupB _ = true from rfl) | exact Or.inr rfl | (rfl)
    · rw [if_pos rfl, if_pos rfl]
      refine does_of (k := 0) Tryz.func98 rfl Tryz.ntmps98 rfl rfl fun w F0 S0 ρ0 => ?_
      dsimp only [argT, argH]
      repeat' first | (apply n3; exact a_new (gb := .bx _) rfl; exact rfl; refine dA ?_) | (apply p3; (first | exact pu1 | exact puL | exact a_add rfl rfl (by omega) (by omega) | exact puN | exact a_len_str rfl (fT rfl) | exact puC | exact a_eqS rfl rfl rfl); exact rfl) | refine cd ?_ | (apply w3; (first | exact a_st_bx rfl rfl rfl rfl (fN rfl rfl) (Nat.le_of_ble_eq_true rfl) rfl | exact a_stE (E := eCf) ⟨_, _, _⟩ rfl rfl rfl rfl (fN rfl rfl) bnd (by exact rfl)); exact rfl; refine dS ?_) | (apply c4 2; exact callK1 (θ := []) (hD := (l05Run_ok m blank B hm hv preB92 preB92 ⟨c, n, true, true⟩ hO)); exact rfl; exact rfl; exact rfl; refine dM ?_) | (apply c4 0; exact callK1 (θ := []) (hD := (l30Used_ok _ preB92)); exact rfl; exact rfl; exact rfl; refine dM ?_) | (apply c4 0; exact callK1 (θ := []) (hD := (l05AtC_ok m c hm hvc)); exact rfl; exact rfl; exact rfl; refine dM ?_) | (apply c4 0; exact callK1 (θ := []) (hD := (l05AtC_ok m c hm hvc)); exact rfl; exact rfl; exact rfl; refine dM ?_) | ((first | refine o_gs rfl rfl (fun hc => ?_) (fun hc => ?_) | refine g_cond rfl (fun hc => ?_) (fun hc => ?_)) <;> (try simp only [dcB] at hc) <;> (try first | contradiction | (exfalso; omega)))
      all_goals
        repeat refine cr ?_
        refine ends_id ?_
        refine endK [] (h2 := ?_) (h3 := ?_) (nd := ?_)
        all_goals (repeat' first | exact ce0 | refine ce ?_ | refine ce2 ?_ ?_ | exact SVLe.refl | refine ceb ?_)
        all_goals first | exact (show nodupB _ = true from rfl) | exact Or.inr rfl | ((first | rfl | (rw [if_pos (by omega)]) | (rw [if_neg (by omega)])))
  · have e1 : ndS m B = 3 := by unfold ndS; rw [if_neg hk]
    have e2 : ndA m B = 0 := by unfold ndA; rw [if_neg hk]
    have e3 : ndN m B = 0 := by unfold ndN; rw [if_neg hk]
    rw [e1, e2, e3]
    generalize hO : rlO m B.toNat 0 blank = O at *
    obtain ⟨c, n, oh, ok⟩ := O
    obtain rfl : ok = false := by simpa using hk
    refine does_of (k := 0) Tryz.func98 rfl Tryz.ntmps98 rfl rfl fun w F0 S0 ρ0 => ?_
    dsimp only [argT, argH]
    repeat' first | (apply n3; exact a_new (gb := .bx _) rfl; exact rfl; refine dA ?_) | (apply p3; (first | exact pu1 | exact puL | exact a_add rfl rfl (by omega) (by omega) | exact puN | exact a_len_str rfl (fT rfl) | exact puC | exact a_eqS rfl rfl rfl); exact rfl) | refine cd ?_ | (apply w3; (first | exact a_st_bx rfl rfl rfl rfl (fN rfl rfl) (Nat.le_of_ble_eq_true rfl) rfl | exact a_stE (E := eCf) ⟨_, _, _⟩ rfl rfl rfl rfl (fN rfl rfl) bnd (by exact rfl)); exact rfl; refine dS ?_) | (apply c4 2; exact callK1 (θ := []) (hD := (l05Run_ok m blank B hm hv preB92 preB92 ⟨c, n, oh, false⟩ hO)); exact rfl; exact rfl; exact rfl; refine dM ?_) | (apply c4 0; exact callK1 (θ := []) (hD := (l30Used_ok _ preB92)); exact rfl; exact rfl; exact rfl; refine dM ?_) | (apply c4 0; exact callK1 (θ := []) (hD := (l05AtC_ok m c hm hvc)); exact rfl; exact rfl; exact rfl; refine dM ?_) | (apply c4 0; exact callK1 (θ := []) (hD := (l05AtC_ok m c hm hvc)); exact rfl; exact rfl; exact rfl; refine dM ?_) | ((first | refine o_gs rfl rfl (fun hc => ?_) (fun hc => ?_) | refine g_cond rfl (fun hc => ?_) (fun hc => ?_)) <;> (try simp only [dcB] at hc) <;> (try first | contradiction | (exfalso; omega)))
    repeat refine cr ?_
    refine ends_id ?_
    refine endK [] (h2 := ?_) (h3 := ?_) (nd := ?_)
    all_goals (repeat' first | exact ce0 | refine ce ?_ | refine ce2 ?_ ?_ | exact SVLe.refl | refine ceb ?_)
    all_goals first | exact (show nodupB _ = true from rfl) | exact Or.inr rfl | (rfl)
end Go.Proofs.YtcmdfohamphndaaGreatDoor
end
section
set_option linter.unusedVariables false
set_option linter.unusedSimpArgs false
set_option maxRecDepth 100000
set_option maxHeartbeats 4000000
namespace Go.Proofs.YtcmdfohamphndaaGreatDoor
open Go Foot
/-- Lists of machines. -/
abbrev eMa : Enc Mach := ⟨3, fun m => [.sc (.int .i64 m.sy), .sc (.int .i64 m.st), .sl false 3 (rows eR m.ru)], fun _ => rfl, by decide⟩
theorem chW_le {mvs : List Int} {W K : Nat} (h1 : W ≤ 6) (h2 : mvs.length ≤ 2) (h3 : K ≤ 1000) : (chW mvs W K).length ≤ 12000 := by
  rw [chW_len]
  have h4 : mvs.length * K ≤ 2 * 1000 := Nat.mul_le_mul h2 h3
  have h5 : W * (mvs.length * K) ≤ 6 * (2 * 1000) := Nat.mul_le_mul h1 h4
  omega
theorem chMv_le {w : Int} {mvs : List Int} {K : Nat} (h2 : mvs.length ≤ 2) (h3 : K ≤ 1000) : (chMv w mvs K).length ≤ 2000 := by
  rw [chMv_len]
  have h4 : mvs.length * K ≤ 2 * 1000 := Nat.mul_le_mul h2 h3
  omega
theorem chMv_take {w : Int} {mvs : List Int} {K : Nat} {i : Int} (h0 : 0 ≤ i) (h : i.toNat < mvs.length) : chMv w (mvs.take (i + 1).toNat) K = chMv w (mvs.take i.toNat) K ++ chQ w mvs[i.toNat] K := by
  rw [show (i + 1).toNat = i.toNat + 1 by omega, List.take_succ_eq_append_getElem h, chMv_next]
theorem chQ_nextI {w mv q : Int} (h : 0 ≤ q) : chQ w mv (q + 1).toNat = chQ w mv q.toNat ++ [⟨w, mv, q⟩] := by
  rw [show (q + 1).toNat = q.toNat + 1 by omega, chQ_next, show ((q.toNat : Nat) : Int) = q by omega]
theorem chW_nextI {mvs : List Int} {w : Int} {K : Nat} (h : 0 ≤ w) : chW mvs (w + 1).toNat K = chW mvs w.toNat K ++ chMv w mvs K := by
  rw [show (w + 1).toNat = w.toNat + 1 by omega, chW_next, show ((w.toNat : Nat) : Int) = w by omega]
theorem emn (a b : Int) : (if b < a then b else a) = min a b := by split <;> omega
theorem preB93 {p : Prop} (h : p := by first | with_reducible assumption | omega | (simp only [List.length_append, List.length_cons, List.length_nil, List.length_set, List.length_replicate, List.length_take, List.length_drop, List.length_tail, List.length_dropLast, List.length_reverse] at *; omega) | exact mem_len (by assumption) (by omega) | (with_reducible refine Int.le_trans (Int.ofNat_le.2 (trimR_len _)) ?_; simp only [List.length_cons, List.length_tail]; omega) | (exact (ruAt_ok (by assumption) (by assumption) (by assumption)).2.1) | (exact (ruAt_ok (by assumption) (by assumption) (by assumption)).2.1) | (have := vMach_bd (by assumption); omega) | (simp only [mC_ch, mC_tu]; omega) | (have := vTag_bd (by assumption); omega) | (have := (‹Gd _ _›).le; omega) | (exact tgHalts_no (by assumption)) | (exact tgHead (by assumption) (by assumption) (by assumption)) | (exact Int.le_trans (tgStep_gd (by assumption) (by assumption) (by assumption) (by assumption)).le (by decide)) | (exact vTag_r (by assumption)) | (with_reducible refine Int.le_trans (Int.ofNat_le.2 (pushL_len _ _)) ?_; simp only [List.length_dropLast]; omega) | exact ls_at (by assumption) (by omega) | exact pt_gd (by assumption) | exact lv_at (by assumption) (by omega) | exact pt_gd (lv_at (by assumption) (by omega)) | exact (ask_ok (by assumption)).1 | exact (ask_ok (by assumption)).2.1 | exact (ask_ok (by assumption)).2.2.1 | exact (ask_ok (by assumption)).2.2.2 | trivial) : p := h
theorem childRules_ok (m : Mach) (hm : vMach m = true) : Does Tryz.prog 155 [.agg (maC m)] [] (.one (.gv 0)) [.row 3 (rows eR (chR m))] := by
  have hb := us_bd hm
  have hv := vMach_bd hm
  have hfr := free_rc m
  have hml := chMvs_len m
  have hR : chR m = chW (chMvs m) (min (usY m + 1) m.sy).toNat (min (usS m + 1) m.st).toNat := by unfold chR; rfl
  have hW1 : 1 ≤ min (usY m + 1) m.sy ∧ min (usY m + 1) m.sy ≤ 6 := by omega
  have hK1 : 1 ≤ min (usS m + 1) m.st ∧ min (usS m + 1) m.st ≤ 1000 := by omega
  refine does_of (k := 0) Tryz.func155 rfl Tryz.ntmps155 rfl rfl fun w F0 S0 ρ0 => ?_
  dsimp only [argT, argH]
  repeat' first | (apply p3; exact a_litF (dst := some 16) eI [_, _] rfl rfl rfl rfl rfl rfl rfl rfl nowR; exact rfl) | (apply n3; exact a_nilO eR rfl; exact rfl) | (apply n3; exact a_new (gb := .bx _) rfl; exact rfl; refine dA ?_) | (apply p3; (first | exact pu1 | exact puL); exact rfl) | refine cd ?_ | (apply c4 0; exact callK1 (θ := []) (hD := (usedCounts_ok _ preB93)); exact rfl; exact rfl; exact rfl; refine dM ?_) | (apply g_drN (id := 3) okM [[],[0],[0,1],[],[3],[3,4],[0,1,2,3,4,5]] [([],[]),([0],[]),([],[]),([],[]),([],[]),([],[]),([],[])] 1; (focus (refine dp 0 0 [20, 21, 22] [] puL ?_; refine duN 1 1 [20, 21, 22] [] (callD1 (n := _) 0 (θ := []) (hD := (freeRules_ok _ preB93))) (by exact rfl) (by exact rfl) ?_; refine dp 2 3 [20, 21, 22] [] (by first | exact puN | exact a_pure (sv := .one _) rfl | exact a_len_str rfl (fT rfl)) ?_; refine dp 3 0 [17, 18, 19] [(true, 0)] (a_pure (sv := .one _) rfl) ?_; refine dp 4 1 [17, 18, 19] [(true, 0)] puL ?_; refine dp 5 3 [17, 18, 19] [(true, 0)] (by first | exact puN | exact a_pure (sv := .one _) rfl | exact a_len_str rfl (fT rfl)) ?_; refine dp 6 63 [] [] (by first | exact puC | exact a_eqS rfl rfl rfl) ?_; (refine d_nil ?_; refine dN ?_))); any_goals kernel_rfl) | (refine o_gs rfl rfl (fun hc => ?_) (fun hc => ?_) <;> (try simp only [dcB] at hc) <;> (try first | contradiction | (exfalso; omega))) | (refine g_cond (c := .tmp 32) rfl (fun hc => ?_) (fun hc => ?_) <;> (try simp only [dcB] at hc) <;> (try (first | contradiction | (exfalso; omega)))) | (refine g_cond (c := .tmp 37) rfl (fun hc => ?_) (fun hc => ?_) <;> (try simp only [dcB] at hc) <;> (try (first | contradiction | (exfalso; omega)))) | (refine g_cond (c := .tmp 46) rfl (fun hc => ?_) (fun hc => ?_) <;> (try simp only [dcB] at hc) <;> (try (first | contradiction | (exfalso; omega))))
  refine cutK [1, 2, 3, 4] [] (fun y : List Int => y = chMvs m) (fun y => [(5, .one (shI y))]) (fun _ => []) (hc := ?_) (hk := ?_)
  · repeat' first | (apply p3; exact a_litF (dst := some 24) eI [_] rfl rfl rfl rfl rfl rfl rfl rfl nowR; exact rfl) | (apply p3; exact pu1; exact rfl) | refine cd ?_ | ((first | refine o_gs rfl rfl (fun hc => ?_) (fun hc => ?_) | refine g_cond rfl (fun hc => ?_) (fun hc => ?_)) <;> (try simp only [dcB] at hc) <;> (try first | contradiction | (exfalso; omega)))
    · refine q_here [1] [0, 1, 2] (by exact stk) ?_
      unfold chMvs; rw [if_pos (by omega)]
    · refine q_here [-1, 1] [0, 1, 2] (by exact stk) ?_
      unfold chMvs; rw [if_neg (by omega)]
  rintro mvs hmvs
  dsimp only [List.cons_append, List.nil_append] at *
  skip
  repeat' first | (apply n3; (first | exact a_litE eR [] rfl rfl rfl rfl rfl rfl rfl rfl | exact a_litE eR [⟨_, _, _⟩] rfl rfl rfl rfl rfl rfl rfl rfl | exact a_appN (fP rfl) rfl rfl rfl nowR (by first | omega | (simp; omega)) (by decide) (by exact rfl)); exact rfl; refine dA ?_) | (apply p3; (first | exact pu1 | exact puL | exact a_add rfl rfl (by omega) (by omega) | exact a_min rfl rfl | exact puC | exact puN | exact a_len_str rfl (fT rfl) | exact puI); exact rfl) | refine cd ?_ | (apply s3; exact a_appE (fP rfl) rfl rfl rfl rfl nowR (by first | omega | (simp; omega)) (by decide) (by decide) (by exact rfl); exact rfl; exact rfl) | ((first | refine o_gs rfl rfl (fun hc => ?_) (fun hc => ?_) | refine g_cond rfl (fun hc => ?_) (fun hc => ?_)) <;> (try simp only [dcB] at hc) <;> (try first | contradiction | (exfalso; omega)))
  rw [← hmvs] at hR hml
  simp only [emn]
  generalize min (usY m + 1) m.sy = W at *
  generalize hKK : min (usS m + 1) m.st = K at *
  refine g_loop_id ?_
  refine loopK [1, 2, 3, 5, 6, 30] [3] (fun y : Int × List Rule' => 0 ≤ y.1 ∧ y.1 ≤ W ∧ y.2 = chW mvs y.1.toNat K.toNat) (fun y => [(31, .one (int y.1))]) (fun y => [(3, .row 3 (rows eR y.2))]) (fun y => (W - y.1).toNat) ((0 : Int), ([] : List Rule')) [0, 1, 2, 3] (hI := ?_) (hr := ?_)
  · exact ⟨by simp, by dsimp only; omega, by simp [chW]⟩
  · rintro ⟨w, out⟩ ⟨h0, h1, h2⟩
    dsimp only [List.cons_append, List.nil_append] at *
    skip
    repeat' first | (apply n3; (first | exact a_litE eR [⟨_, _, _⟩] rfl rfl rfl rfl rfl rfl rfl rfl | exact a_appN (fP rfl) rfl rfl rfl nowR (by first | omega | (simp; omega)) (by decide) (by exact rfl)); exact rfl; refine dA ?_) | (apply p3; (first | exact pu1 | exact puL | exact puC | exact puN | exact a_len_str rfl (fT rfl) | exact a_add rfl rfl (by omega) (by omega) | exact a_min rfl rfl | exact puI); exact rfl) | refine cd ?_ | (apply s3; exact a_appE (fP rfl) rfl rfl rfl rfl nowR (by first | omega | (simp; omega)) (by decide) (by decide) (by exact rfl); exact rfl; exact rfl) | ((first | refine o_gs rfl rfl (fun hc => ?_) (fun hc => ?_) | refine g_cond rfl (fun hc => ?_) (fun hc => ?_)) <;> (try simp only [dcB] at hc) <;> (try first | contradiction | (exfalso; omega)))
    · refine g_loop_id ?_
      refine loopK [1, 2, 3, 5, 6, 7, 30, 31, 32, 33, 34, 35] [3] (fun y : Int × List Rule' => 0 ≤ y.1 ∧ y.1 ≤ mvs.length ∧ y.2 = chW mvs w.toNat K.toNat ++ chMv w (mvs.take y.1.toNat) K.toNat) (fun y => [(36, .one (int y.1))]) (fun y => [(3, .row 3 (rows eR y.2))]) (fun y => (mvs.length - y.1).toNat) ((0 : Int), out) [0, 1, 2, 3] (hI := ?_) (hr := ?_)
      · exact ⟨by simp, by simp, by simp [chMv, h2]⟩
      · rintro ⟨i, out'⟩ ⟨j0, j1, j2⟩
        dsimp only [List.cons_append, List.nil_append] at *
        skip
        repeat' first | (apply n3; (first | exact a_litE eR [⟨_, _, _⟩] rfl rfl rfl rfl rfl rfl rfl rfl | exact a_appN (fP rfl) rfl rfl rfl nowR (by first | omega | (simp; omega)) (by decide) (by exact rfl)); exact rfl; refine dA ?_) | (apply p3; (first | exact pu1 | exact puL | exact puC | exact a_add rfl rfl (by omega) (by omega) | exact a_min rfl rfl | exact puI); exact rfl) | refine cd ?_ | (apply s3; exact a_appE (fP rfl) rfl rfl rfl rfl nowR (by first | omega | (simp; omega)) (by decide) (by decide) (by exact rfl); exact rfl; exact rfl) | ((first | refine o_gs rfl rfl (fun hc => ?_) (fun hc => ?_) | refine g_cond rfl (fun hc => ?_) (fun hc => ?_)) <;> (try simp only [dcB] at hc) <;> (try first | contradiction | (exfalso; omega)))
        · simp only [emn, hKK]
          refine g_loop_id ?_
          refine loopK [1, 2, 3, 5, 6, 7, 9, 30, 31, 32, 33, 34, 35, 36, 37, 38, 39, 40, 41, 42, 43, 44] [3] (fun y : Int × List Rule' => 0 ≤ y.1 ∧ y.1 ≤ K ∧ y.2 = chW mvs w.toNat K.toNat ++ chMv w (mvs.take i.toNat) K.toNat ++ chQ w (mvs[i.toNat]'(by omega)) y.1.toNat) (fun y => [(45, .one (int y.1))]) (fun y => [(3, .row 3 (rows eR y.2))]) (fun y => (K - y.1).toNat) ((0 : Int), out') [0, 1, 2, 3] (hI := ?_) (hr := ?_)
          · exact ⟨by simp, by dsimp only; omega, by simp [chQ, j2]⟩
          · rintro ⟨q, o⟩ ⟨k0, k1, k2⟩
            dsimp only [List.cons_append, List.nil_append] at *
            skip
            repeat' first | (apply p3; (first | exact pu1 | exact puC | exact a_add rfl rfl (by omega) (by omega)); exact rfl) | refine cdn ?_ | refine g_reg (id := 13) ?_ | refine g_reg (id := 17) ?_ | refine g_reg (id := 18) ?_ | refine g_reg (id := 19) ?_ | ((first | refine o_gs rfl rfl (fun hc => ?_) (fun hc => ?_) | refine g_cond rfl (fun hc => ?_) (fun hc => ?_)) <;> (try simp only [dcB] at hc) <;> (try first | contradiction | (exfalso; omega)))
            · have l1 := chW_le (mvs := mvs) (W := w.toNat) (K := K.toNat) (by omega) (by omega) (by omega)
              have l2 := chMv_le (w := w) (mvs := mvs.take i.toNat) (K := K.toNat) (by rw [List.length_take]; omega) (by omega)
              have l3 : (o.length : Int) ≤ 16000 := by
                rw [k2, List.length_append, List.length_append, chQ_len]
                omega
              repeat' first | (apply n3; (first | exact a_litE eR [⟨_, _, _⟩] rfl rfl rfl rfl rfl rfl rfl rfl | exact a_appN (fP rfl) rfl rfl rfl nowR (by first | omega | (simp; omega)) (by decide) (by exact rfl)); exact rfl; refine dA ?_) | (apply p3; (first | exact pu1 | exact puC | exact a_add rfl rfl (by omega) (by omega)); exact rfl) | refine cd ?_ | (apply s3; exact a_appE (fP rfl) rfl rfl rfl rfl nowR (by first | omega | (simp; omega)) (by decide) (by decide) (by exact rfl); exact rfl; exact rfl) | ((first | refine o_gs rfl rfl (fun hc => ?_) (fun hc => ?_) | refine g_cond rfl (fun hc => ?_) (fun hc => ?_)) <;> (try simp only [dcB] at hc) <;> (try first | contradiction | (exfalso; omega)))
              refine q_again (q + 1, _) [0, 1, 2, 5] (by exact stk) ?_ ?_
              · exact ⟨by dsimp only; omega, by dsimp only; omega, by dsimp only; rw [chQ_nextI k0, ← List.append_assoc, ← k2]⟩
              · dsimp only; omega
            · refine q_again (i + 1, o) [0, 1, 2, 3] (by exact stk) ?_ ?_
              · refine ⟨by dsimp only; omega, by dsimp only; omega, ?_⟩
                dsimp only
                rw [chMv_take j0 (by omega), k2, List.append_assoc, show q = K by omega]
              · dsimp only; omega
        · refine q_again (w + 1, out') [0, 1, 2, 3] (by exact stk) ?_ ?_
          · refine ⟨by dsimp only; omega, by dsimp only; omega, ?_⟩
            dsimp only
            rw [chW_nextI h0, j2, List.take_of_length_le (by omega)]
          · dsimp only; omega
    · have e : chR m = out := by rw [hR, h2, show w = W by omega]
      rw [e]
      repeat' first | (apply n3; (first | exact a_litE eR [⟨_, _, _⟩] rfl rfl rfl rfl rfl rfl rfl rfl | exact a_appN (fP rfl) rfl rfl rfl nowR (by first | omega | (simp; omega)) (by decide) (by exact rfl)); exact rfl; refine dA ?_) | (apply p3; (first | exact pu1 | exact puC | exact a_add rfl rfl (by omega) (by omega)); exact rfl) | refine cd ?_ | (apply s3; exact a_appE (fP rfl) rfl rfl rfl rfl nowR (by first | omega | (simp; omega)) (by decide) (by decide) (by exact rfl); exact rfl; exact rfl) | ((first | refine o_gs rfl rfl (fun hc => ?_) (fun hc => ?_) | refine g_cond rfl (fun hc => ?_) (fun hc => ?_)) <;> (try simp only [dcB] at hc) <;> (try first | contradiction | (exfalso; omega)))
      repeat refine cr ?_
      refine ends_id ?_
      refine endK [?_] (h2 := ?_) (h3 := ?_) (nd := ?_)
      rotate_left 1
      all_goals (repeat' first | exact ce0 | refine ce ?_ | refine ce2 ?_ ?_ | (refine Or.inr (bx_eq rfl rfl ?_); (try dsimp only [C.ren, C.ren.all]); (try exact rfl)) | exact SVLe.refl | refine ceb ?_)
      all_goals first | exact (show nodupB _ = true from rfl) | exact Or.inr rfl | (rfl)
theorem cloneR_ok (xs : List Rule') (hx : (xs.length : Int) ≤ 16777216) : Does Tryz.prog 204 [.one (shR xs)] [] (.one (.gv 0)) [.row 3 (rows eR xs)] := by
  refine does_of (k := 0) Tryz.func204 rfl Tryz.ntmps204 rfl rfl fun w F0 S0 ρ0 => ?_
  dsimp only [argT, argH]
  repeat' first | (apply n3; exact a_nilO eR rfl; exact rfl) | (apply n3; (first | exact a_litE eR [] rfl rfl rfl rfl rfl rfl rfl rfl | exact a_appN (fP rfl) rfl rfl rfl nowR (by first | omega | (simp; omega)) (by decide) (by exact rfl)); exact rfl; refine dA ?_) | (apply p3; (first | exact pu1 | exact puC | exact a_eqS rfl rfl rfl); exact rfl) | refine cd ?_ | (apply s3; exact a_appE (fP rfl) rfl rfl rfl rfl nowR (by first | omega | (simp; omega)) (by decide) (by decide) (by exact rfl); exact rfl; exact rfl) | (apply o_isnil; exact rfl; exact rfl; exact (fE rfl); exact rfl; exact rfl; intro b hnil) | ((first | refine o_gs rfl rfl (fun hc => ?_) (fun hc => ?_) | refine g_cond rfl (fun hc => ?_) (fun hc => ?_)) <;> (try simp only [dcB] at hc) <;> (try first | contradiction | (exfalso; omega)))
  · repeat refine cr ?_
    refine ends_id ?_
    refine endK [?_] (h2 := ?_) (h3 := ?_) (nd := ?_)
    rotate_left 1
    all_goals (repeat' first | exact ce0 | refine ce ?_ | refine ce2 ?_ ?_ | (refine Or.inr (bx_eq rfl rfl ?_); (try dsimp only [C.ren, C.ren.all]); (try exact rfl)) | exact SVLe.refl | refine ceb ?_)
    all_goals first | exact (show nodupB _ = true from rfl) | exact Or.inr rfl | (exact (hnil hc).symm)
  · repeat refine cr ?_
    refine ends_id ?_
    refine endK [?_] (h2 := ?_) (h3 := ?_) (nd := ?_)
    rotate_left 1
    all_goals (repeat' first | exact ce0 | refine ce ?_ | refine ce2 ?_ ?_ | (refine Or.inr (bx_eq rfl rfl ?_); (try dsimp only [C.ren, C.ren.all]); (try exact rfl)) | exact SVLe.refl | refine ceb ?_)
    all_goals first | exact (show nodupB _ = true from rfl) | exact Or.inr rfl | (rfl)
theorem copyMachine_ok (m : Mach) (hx : (m.ru.length : Int) ≤ 16777216) : Does Tryz.prog 156 [.agg (maC m)] [] (.agg [int m.sy, int m.st, .gv 0]) [.row 3 (rows eR m.ru)] := by
  refine does_of (k := 0) Tryz.func156 rfl Tryz.ntmps156 rfl rfl fun w F0 S0 ρ0 => ?_
  dsimp only [argT, argH]
  repeat' first | (apply n3; exact a_new (gb := .bx _) rfl; exact rfl; refine dA ?_) | (apply p3; exact puL; exact rfl) | refine cd ?_ | (apply w3; (first | exact a_st_bx rfl rfl rfl rfl (fN rfl rfl) (Nat.le_of_ble_eq_true rfl) rfl | exact a_stE (E := eMa) ⟨_, _, _⟩ rfl rfl rfl rfl (fN rfl rfl) bnd (by exact rfl)); exact rfl; refine dS ?_) | (apply c4 1; exact callK1 (θ := []) (hD := (cloneR_ok _ preB93)); exact rfl; exact rfl; exact rfl; refine dM ?_) | ((first | refine o_gs rfl rfl (fun hc => ?_) (fun hc => ?_) | refine g_cond rfl (fun hc => ?_) (fun hc => ?_)) <;> (try simp only [dcB] at hc) <;> (try first | contradiction | (exfalso; omega)))
  repeat refine cr ?_
  refine ends_id ?_
  refine endK [?_] (h2 := ?_) (h3 := ?_) (nd := ?_)
  rotate_left 1
  all_goals (repeat' first | exact ce0 | refine ce ?_ | refine ce2 ?_ ?_ | (refine Or.inr (bx_eq rfl rfl ?_); (try dsimp only [C.ren, C.ren.all]); (try exact rfl)) | exact SVLe.refl | refine ceb ?_)
  all_goals first | exact (show nodupB _ = true from rfl) | exact Or.inr rfl | (rfl)
theorem children_ok (m : Mach) (s a : Int) (hm : vMach m = true) : Does Tryz.prog 92 [.agg [int m.sy, int m.st, shR m.ru, int s, int a]] [] (.one (.gv 0)) [.row 3 (rows eR (if s = 0 then chR m else []))] := by
  refine does_of (k := 0) Tryz.func92 rfl Tryz.ntmps92 rfl rfl fun w F0 S0 ρ0 => ?_
  dsimp only [argT, argH]
  repeat' first | (apply n3; exact a_nilO eR rfl; exact rfl) | (apply n3; exact a_new (gb := .bx _) rfl; exact rfl; refine dA ?_) | (apply p3; (first | exact pu1 | exact puL | exact a_ne rfl rfl | exact a_neS rfl rfl rfl); exact rfl) | refine cd ?_ | (apply c4 1; exact callK1 (θ := []) (hD := (childRules_ok _ preB93)); exact rfl; exact rfl; exact rfl; refine dM ?_) | ((first | refine o_gs rfl rfl (fun hc => ?_) (fun hc => ?_) | refine g_cond rfl (fun hc => ?_) (fun hc => ?_)) <;> (try simp only [dcB] at hc) <;> (try first | contradiction | (exfalso; omega)))
  · repeat refine cr ?_
    refine ends_id ?_
    refine endK [?_] (h2 := ?_) (h3 := ?_) (nd := ?_)
    rotate_left 1
    all_goals (repeat' first | exact ce0 | refine ce ?_ | refine ce2 ?_ ?_ | (refine Or.inr (bx_eq rfl rfl ?_); (try dsimp only [C.ren, C.ren.all]); (try exact rfl)) | exact SVLe.refl | refine ceb ?_)
    all_goals first | exact (show nodupB _ = true from rfl) | exact Or.inr rfl | ((rw [if_neg (by assumption)]))
  · repeat refine cr ?_
    refine ends_id ?_
    refine endK [?_] (h2 := ?_) (h3 := ?_) (nd := ?_)
    rotate_left 1
    all_goals (repeat' first | exact ce0 | refine ce ?_ | refine ce2 ?_ ?_ | (refine Or.inr (bx_eq rfl rfl ?_); (try dsimp only [C.ren, C.ren.all]); (try exact rfl)) | exact SVLe.refl | refine ceb ?_)
    all_goals first | exact (show nodupB _ = true from rfl) | exact Or.inr rfl | ((rw [if_pos (by assumption)]))
theorem l05Own_ok (m : Mach) (hx : (m.ru.length : Int) ≤ 16777216) : Does Tryz.prog 164 [.one (maB m)] [] (.agg [int m.sy, int m.st, .gv 0]) [.row 3 (rows eR m.ru)] := by
  refine does_of (k := 0) Tryz.func164 rfl Tryz.ntmps164 rfl rfl fun w F0 S0 ρ0 => ?_
  dsimp only [argT, argH]
  repeat' first | (apply n3; exact a_new (gb := .bx _) rfl; exact rfl; refine dA ?_) | refine cd ?_ | (apply g_drN (id := 1) okM [[],[0],[0,1],[0,1,2],[],[4],[4,5],[4,5,6],[],[],[9],[9,10],[9,10,11],[8,9,10,11,12],[0,1,2,3,4,5,6,7,8,9,10,11,12,13],[0,1,2,3,4,5,6,7,8,9,10,11,12,13,14]] [([],[]),([],[]),([],[]),([],[]),([],[]),([],[]),([],[]),([],[]),([0],[]),([],[]),([],[]),([],[]),([],[]),([1],[1]),([],[]),([],[0])] 2; (focus (refine dp 0 0 [7, 8, 9, 10, 11, 12, 13, 14, 15, 16] [(true, 0), (true, 1), (false, 1)] pu1 ?_; refine dp 1 1 [7, 8, 9, 10, 11, 12, 13, 14, 15, 16] [(true, 0), (true, 1), (false, 1)] (a_pure (sv := .one _) rfl) ?_; refine dp 2 3 [7, 8, 9, 10, 11, 12, 13, 14, 15, 16] [(true, 0), (true, 1), (false, 1)] (a_pure (sv := .one _) rfl) ?_; refine dp 3 7 [7, 8, 9, 10, 11, 12, 13, 14, 15, 16] [(true, 0), (true, 1), (false, 1)] puL ?_; refine dp 4 0 [3, 4, 5, 6, 11, 12, 13, 14, 15, 16] [(true, 0), (true, 1), (false, 1)] pu1 ?_; refine dp 5 1 [3, 4, 5, 6, 11, 12, 13, 14, 15, 16] [(true, 0), (true, 1), (false, 1)] (a_pure (sv := .one _) rfl) ?_; refine dp 6 3 [3, 4, 5, 6, 11, 12, 13, 14, 15, 16] [(true, 0), (true, 1), (false, 1)] (a_pure (sv := .one _) rfl) ?_; refine dp 7 7 [3, 4, 5, 6, 11, 12, 13, 14, 15, 16] [(true, 0), (true, 1), (false, 1)] puL ?_; refine duE 8 0 [3, 4, 5, 6, 7, 8, 9, 10, 12, 13, 14, 15] [] (atN 0 (fun _ => a_litE eR [] rfl rfl rfl rfl rfl rfl rfl rfl)) (by exact rfl) (by exact rfl) ?_; refine dp 9 0 [3, 4, 5, 6, 7, 8, 9, 10, 11] [(true, 0)] pu1 ?_; refine dp 10 1 [3, 4, 5, 6, 7, 8, 9, 10, 11] [(true, 0)] (a_pure (sv := .one _) rfl) ?_; refine dp 11 3 [3, 4, 5, 6, 7, 8, 9, 10, 11] [(true, 0)] (a_pure (sv := .one _) rfl) ?_; refine dp 12 7 [3, 4, 5, 6, 7, 8, 9, 10, 11] [(true, 0)] puL ?_; refine duE 13 31 [3, 4, 5, 6, 7, 8, 9, 10] [] (atS 1 (fun _ hj => a_appE (fP rfl) rfl rfl rfl rfl nowR (by first | omega | (simp; omega)) (by decide) hj (by exact rfl)) (by decide)) (by exact rfl) (by exact rfl) ?_; refine dp 14 16383 [] [] (a_pure (sv := .agg _) rfl) ?_; refine duE 15 32767 [] [] (by first | exact a_st_bx rfl rfl rfl rfl (fN rfl rfl) (Nat.le_of_ble_eq_true rfl) rfl | exact a_stE (E := eMa) ⟨_, _, _⟩ rfl rfl rfl rfl (fN rfl rfl) bnd (by exact rfl)) (by exact rfl) (by exact rfl) ?_; (refine d_nil ?_; refine dN ?_))); any_goals kernel_rfl) | ((first | refine o_gs rfl rfl (fun hc => ?_) (fun hc => ?_) | refine g_cond rfl (fun hc => ?_) (fun hc => ?_)) <;> (try simp only [dcB] at hc) <;> (try first | contradiction | (exfalso; omega)))
  repeat refine cr ?_
  refine ends_id ?_
  refine endK [?_] (h2 := ?_) (h3 := ?_) (nd := ?_)
  rotate_left 1
  all_goals (repeat' first | exact ce0 | refine ce ?_ | refine ce2 ?_ ?_ | (refine Or.inr (bx_eq rfl rfl ?_); (try dsimp only [C.ren, C.ren.all]); (try exact rfl)) | exact SVLe.refl | refine ceb ?_)
  all_goals first | exact (show nodupB _ = true from rfl) | exact Or.inr rfl | (rfl)
end Go.Proofs.YtcmdfohamphndaaGreatDoor
end
