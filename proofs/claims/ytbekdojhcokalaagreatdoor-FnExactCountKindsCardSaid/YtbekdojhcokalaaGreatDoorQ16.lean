/- Parts of the proof (16 of 18). -/
import Derived.Test.YtbekdojhcokalaaGreatDoorQ15
section
set_option linter.unusedVariables false
set_option linter.unusedSimpArgs false
set_option maxRecDepth 100000
set_option maxHeartbeats 4000000
namespace Go.Proofs.YtbekdojhcokalaaGreatDoor
open Go Foot
structure PrGd (p : Prf) : Prop where
  k : 1 ≤ p.k ∧ p.k ≤ 8
  nl : (p.nu.length : Int) ≤ 300
  wl : (p.wo.length : Int) ≤ 300
  nb : ∀ x ∈ p.nu, -1000000000000 ≤ x ∧ x ≤ 1000000000000
  wb : ∀ w ∈ p.wo, (w.length : Int) ≤ 400 ∧ ∀ x ∈ w, 0 ≤ x ∧ x ≤ 9
theorem validP_gd {p : Prf} (h : validP p = true) : PrGd p := by
  unfold validP inAll at h
  simp only [Bool.and_eq_true, decide_eq_true_eq, List.all_eq_true] at h
  obtain ⟨⟨⟨h1, h2, h3⟩, h4⟩, h5⟩ := h
  refine ⟨h1, h2, h3, h4, fun w hw => ?_⟩
  have := h5 w hw
  unfold isWrd inAll at this
  simp only [Bool.and_eq_true, decide_eq_true_eq, List.all_eq_true] at this
  exact this
def nams : List Bs := [[], [104, 97, 108, 116], [99, 121, 99, 108, 101], [115, 104, 105, 102, 116], [98, 97, 99, 107, 119, 97, 114, 100], [115, 101, 103, 109, 101, 110, 116], [98, 111, 117, 110, 99, 101, 114], [97, 117, 116, 111, 109, 97, 116, 111, 110], [99, 111, 110, 116, 101, 120, 116, 115]]
/-- The name of a kind of proof. -/
@[irreducible] def namT (k : Int) : Bs := nams.getD k.toNat []
theorem namT_le (k : Int) : ((namT k).length : Int) ≤ 10 := by
  unfold namT nams
  rcases k.toNat with _ | _ | _ | _ | _ | _ | _ | _ | _ | n <;> simp
/-- The text of numbers. -/
@[irreducible] def numT (l : List Int) : Bs := if l = [] then [45] else joinT (l.map decT) [44]
@[irreducible] def worT (l : List (List Int)) : Bs := joinT (l.map wdT) [44]
@[irreducible] def proT (p : Prf) : Bs := namT p.k ++ [58] ++ numT p.nu ++ [58] ++ worT p.wo
theorem djT_le {l : List Int} (h : ∀ x ∈ l, -1000000000000 ≤ x ∧ x ≤ 1000000000000) : ((joinT (l.map decT) [44]).length : Int) ≤ 22 * l.length := by
  have := joinT_le (sep := [44]) (k := 21) (l := l.map decT) fun b hb => by
    obtain ⟨r, hr, rfl⟩ := List.mem_map.1 hb
    have h2 := h r hr
    have := dec_le (n := r) (by omega) (by omega)
    omega
  simp only [List.length_map, List.length_cons, List.length_nil] at this
  omega
theorem numT_le {l : List Int} (h : ∀ x ∈ l, -1000000000000 ≤ x ∧ x ≤ 1000000000000) : ((numT l).length : Int) ≤ 22 * l.length + 1 := by
  unfold numT
  split
  · simp only [List.length_cons, List.length_nil]; omega
  · have := djT_le h; omega
theorem worT_le {l : List (List Int)} (h : ∀ w ∈ l, (w.length : Int) ≤ 400) : ((worT l).length : Int) ≤ 402 * l.length := by
  unfold worT
  have := joinT_le (sep := [44]) (k := 401) (l := l.map wdT) fun b hb => by
    obtain ⟨r, hr, rfl⟩ := List.mem_map.1 hb
    have h2 := h r hr
    have := wdT_le r
    omega
  simp only [List.length_map, List.length_cons, List.length_nil] at this
  omega
theorem proT_le {p : Prf} (h : validP p = true) : ((proT p).length : Int) ≤ 128000 := by
  have g := validP_gd h
  have h1 := namT_le p.k
  have h2 := numT_le g.nb
  have h3 := worT_le fun w hw => (g.wb w hw).1
  have h4 := g.nl
  have h5 := g.wl
  unfold proT
  simp only [List.length_append, List.length_cons, List.length_nil]
  omega
theorem namT_at (k : Int) (h0 : 0 ≤ k) (h1 : k ≤ 8) (h : k.toNat < nams.length) : nams[k.toNat] = namT k := by
  unfold namT
  rw [List.getD_eq_getElem?_getD, List.getElem?_eq_getElem h]; rfl
def pnams : List Bs := nams.tail
theorem pnams_at (k : Int) (h0 : 1 ≤ k) (h1 : k ≤ 8) (h : (k - 1).toNat < pnams.length) : pnams[(k - 1).toNat] = namT k := by
  rw [← namT_at k (by omega) h1 (by simp [nams]; omega)]
  simp only [pnams, List.getElem_tail]
  congr 1; omega
theorem preB54 {p : Prop} (h : p := by first | with_reducible assumption | omega | (simp only [List.length_append, List.length_cons, List.length_nil, List.length_set, List.length_replicate, List.length_take, List.length_drop, List.length_tail, List.length_dropLast, List.length_reverse] at *; omega) | exact mem_len (by assumption) (by omega) | (with_reducible refine Int.le_trans (Int.ofNat_le.2 (trimR_len _)) ?_; simp only [List.length_cons, List.length_tail]; omega) | (exact (ruAt_ok (by assumption) (by assumption) (by assumption)).2.1) | (exact (ruAt_ok (by assumption) (by assumption) (by assumption)).2.1) | (have := vMach_bd (by assumption); omega) | (simp only [mC_ch, mC_tu]; omega) | (have := vTag_bd (by assumption); omega) | (have := (‹Gd _ _›).le; omega) | (exact tgHalts_no (by assumption)) | (exact tgHead (by assumption) (by assumption) (by assumption)) | (exact Int.le_trans (tgStep_gd (by assumption) (by assumption) (by assumption) (by assumption)).le (by decide)) | (exact vTag_r (by assumption)) | (with_reducible refine Int.le_trans (Int.ofNat_le.2 (pushL_len _ _)) ?_; simp only [List.length_dropLast]; omega) | exact (ask_ok (by assumption)).1 | exact (ask_ok (by assumption)).2.1 | exact (ask_ok (by assumption)).2.2.1 | exact (ask_ok (by assumption)).2.2.2 | trivial) : p := h
theorem l25Names_ok : Does Tryz.prog 223 [] [] (.one (.gv 0)) [.row 1 (rows eS nams)] := by
  refine does_of (k := 0) Tryz.func223 rfl Tryz.ntmps223 rfl rfl fun w F0 S0 ρ0 => ?_
  dsimp only [argT, argH]
  repeat' first | (apply n3; exact a_litE eS [_, _, _, _, _, _, _, _, _] rfl rfl rfl rfl rfl rfl rfl rfl; exact rfl; refine dA ?_) | (apply p3; exact pu1; exact rfl) | refine cd ?_ | ((first | refine o_gs rfl rfl (fun hc => ?_) (fun hc => ?_) | refine g_cond rfl (fun hc => ?_) (fun hc => ?_)) <;> (try simp only [dcB] at hc) <;> (try first | contradiction | (exfalso; omega)))
  repeat refine cr ?_
  refine ends_id ?_
  refine endK [?_] (h2 := ?_) (h3 := ?_) (nd := ?_)
  rotate_left 1
  all_goals (repeat' first | exact ce0 | refine ce ?_ | refine ce2 ?_ ?_ | (refine Or.inr (bx_eq rfl rfl ?_); (try dsimp only [C.ren, C.ren.all]); (try exact rfl)) | exact SVLe.refl | refine ceb ?_)
  all_goals first | exact (show nodupB _ = true from rfl) | exact Or.inr rfl | (rfl)
theorem proofNames_ok : Does Tryz.prog 263 [] [] (.one (.gv 0)) [.row 1 (rows eS pnams)] := by
  refine does_of (k := 0) Tryz.func263 rfl Tryz.ntmps263 rfl rfl fun w F0 S0 ρ0 => ?_
  dsimp only [argT, argH]
  repeat' first | (apply n3; exact a_litE eS [_, _, _, _, _, _, _, _] rfl rfl rfl rfl rfl rfl rfl rfl; exact rfl; refine dA ?_) | (apply p3; exact pu1; exact rfl) | refine cd ?_ | ((first | refine o_gs rfl rfl (fun hc => ?_) (fun hc => ?_) | refine g_cond rfl (fun hc => ?_) (fun hc => ?_)) <;> (try simp only [dcB] at hc) <;> (try first | contradiction | (exfalso; omega)))
  repeat refine cr ?_
  refine ends_id ?_
  refine endK [?_] (h2 := ?_) (h3 := ?_) (nd := ?_)
  rotate_left 1
  all_goals (repeat' first | exact ce0 | refine ce ?_ | refine ce2 ?_ ?_ | (refine Or.inr (bx_eq rfl rfl ?_); (try dsimp only [C.ren, C.ren.all]); (try exact rfl)) | exact SVLe.refl | refine ceb ?_)
  all_goals first | exact (show nodupB _ = true from rfl) | exact Or.inr rfl | (rfl)
theorem ProofName_ok (k : Int) (h0 : 1 ≤ k) (h1 : k ≤ 8) : Does Tryz.prog 232 [.one (int k)] [] (.one (str (namT k))) [] := by
  have hl : pnams.length = 8 := rfl
  have en := pnams_at k h0 h1 (by rw [hl]; omega)
  refine does_of (k := 0) Tryz.func232 rfl Tryz.ntmps232 rfl rfl fun w F0 S0 ρ0 => ?_
  dsimp only [argT, argH]
  repeat' first | (apply p3; (first | exact pu1 | exact a_sub rfl rfl (by omega) (by omega) | exact a_ld_rowS rfl rfl rfl (fC rfl) bnd | exact puI); exact rfl) | refine cd ?_ | (apply c4 0; exact callK1 (θ := []) (hD := (within_ok _ _ _)); exact rfl; exact rfl; exact rfl; refine dM ?_) | (apply c4 1; exact callK1 (θ := []) (hD := proofNames_ok); exact rfl; exact rfl; exact rfl; refine dM ?_) | ((first | refine o_gs rfl rfl (fun hc => ?_) (fun hc => ?_) | refine g_cond rfl (fun hc => ?_) (fun hc => ?_)) <;> (try simp only [dcB] at hc) <;> (try first | contradiction | (exfalso; omega)))
  simp only [Nat.mul_one]
  rw [en]
  repeat refine cr ?_
  refine ends_id ?_
  refine endK [] (h2 := ?_) (h3 := ?_) (nd := ?_)
  all_goals (repeat' first | exact ce0 | refine ce ?_ | refine ce2 ?_ ?_ | exact SVLe.refl | refine ceb ?_)
  all_goals first | exact (show nodupB _ = true from rfl) | exact Or.inr rfl | (rfl)
theorem decimals_ok (l : List Int) (s : Bs) (hl : (l.length : Int) ≤ 1048576) (hb : ∀ x ∈ l, -1000000000000 ≤ x ∧ x ≤ 1000000000000) (hj : ((joinT (l.map decT) s).length : Int) ≤ 140737488355328) : Does Tryz.prog 230 [.one (shI l), .one (str s)] [] (.one (str (joinT (l.map decT) s))) [] := by
  have hg : ∀ (i : Nat) (h : i < l.length), -1000000000000 ≤ l[i] ∧ l[i] ≤ 1000000000000 := fun i h => hb _ (List.getElem_mem h)
  refine does_of (k := 0) Tryz.func230 rfl Tryz.ntmps230 rfl rfl fun w F0 S0 ρ0 => ?_
  dsimp only [argT, argH]
  repeat' first | (apply n3; (first | exact a_litE eS [] rfl rfl rfl rfl rfl rfl rfl rfl | exact a_litE eS [_] rfl rfl rfl rfl rfl rfl rfl rfl | exact a_appN (fP rfl) rfl rfl rfl nowR (by first | omega | (simp; omega)) (by decide) (by exact rfl)); exact rfl; refine dA ?_) | (apply p3; (first | exact pu1 | exact puL | exact puN | exact a_len_str rfl (fT rfl) | exact puC | exact a_add rfl rfl (by omega) (by omega) | exact puI); exact rfl) | refine cd ?_ | (apply s3; exact a_appE (fP rfl) rfl rfl rfl rfl nowR (by first | omega | (simp; omega)) (by decide) (by decide) (by exact rfl); exact rfl; exact rfl) | (apply c4 0; exact callK1 (θ := []) (hD := (Decimal_ok _ preB54 preB54)); exact rfl; exact rfl; exact rfl; refine dM ?_) | (apply c4 0; exact callK1 (θ := []) (hD := (Join_ok _ _ preB54 preB54)); exact rfl; exact rfl; exact rfl; refine dM ?_) | ((first | refine o_gs rfl rfl (fun hc => ?_) (fun hc => ?_) | refine g_cond rfl (fun hc => ?_) (fun hc => ?_)) <;> (try simp only [dcB] at hc) <;> (try first | contradiction | (exfalso; omega)))
  refine g_loop_id ?_
  refine loopK [1, 4, 5, 9, 10] [0] (fun y : Int × List Bs => 0 ≤ y.1 ∧ y.1 ≤ l.length ∧ y.2 = (l.take y.1.toNat).map decT) (fun y => [(11, .one (int y.1))]) (fun y => [(0, .row 1 (rows eS y.2))]) (fun y => (l.length - y.1).toNat) ((0 : Int), []) [0] (hI := ?_) (hr := ?_)
  · exact ⟨by simp, by simp, by simp⟩
  · rintro ⟨i, ts⟩ ⟨j0, j1, j2⟩
    dsimp only [List.cons_append, List.nil_append] at *
    skip
    have jl : (ts.length : Int) ≤ 1048576 := by rw [j2, List.length_map, List.length_take]; omega
    repeat' first | (apply p3; (first | exact pu1 | exact puL | exact puC | exact puI); exact rfl) | refine cdn ?_ | refine g_reg (id := 3) ?_ | refine g_reg (id := 4) ?_ | (apply c4 0; exact callK1 (θ := []) (hD := (Join_ok _ _ preB54 preB54)); exact rfl; exact rfl; exact rfl; refine dM ?_) | ((first | refine o_gs rfl rfl (fun hc => ?_) (fun hc => ?_) | refine g_cond rfl (fun hc => ?_) (fun hc => ?_)) <;> (try simp only [dcB] at hc) <;> (try first | contradiction | (exfalso; omega)))
    · have := hg i.toNat (by omega)
      repeat' first | (apply n3; (first | exact a_litE eS [_] rfl rfl rfl rfl rfl rfl rfl rfl | exact a_appN (fP rfl) rfl rfl rfl nowR (by first | omega | (simp; omega)) (by decide) (by exact rfl)); exact rfl; refine dA ?_) | (apply p3; (first | exact pu1 | exact puL | exact puC | exact a_add rfl rfl (by omega) (by omega) | exact puI); exact rfl) | refine cd ?_ | (apply s3; exact a_appE (fP rfl) rfl rfl rfl rfl nowR (by first | omega | (simp; omega)) (by decide) (by decide) (by exact rfl); exact rfl; exact rfl) | (apply c4 0; exact callK1 (θ := []) (hD := (Decimal_ok _ preB54 preB54)); exact rfl; exact rfl; exact rfl; refine dM ?_) | (apply c4 0; exact callK1 (θ := []) (hD := (Join_ok _ _ preB54 preB54)); exact rfl; exact rfl; exact rfl; refine dM ?_) | ((first | refine o_gs rfl rfl (fun hc => ?_) (fun hc => ?_) | refine g_cond rfl (fun hc => ?_) (fun hc => ?_)) <;> (try simp only [dcB] at hc) <;> (try first | contradiction | (exfalso; omega)))
      refine q_again (i + 1, _) [2] (by exact stk) ?_ ?_
      · dsimp only
        exact ⟨by omega, by omega, by rw [j2, map_take_s decT j0 hc]⟩
      · dsimp only; omega
    · have e : ts = l.map decT := by rw [j2, List.take_of_length_le (by omega)]
      rw [← e] at hj ⊢
      repeat' first | (apply n3; (first | exact a_litE eS [_] rfl rfl rfl rfl rfl rfl rfl rfl | exact a_appN (fP rfl) rfl rfl rfl nowR (by first | omega | (simp; omega)) (by decide) (by exact rfl)); exact rfl; refine dA ?_) | (apply p3; (first | exact pu1 | exact puL | exact puC | exact a_add rfl rfl (by omega) (by omega) | exact puI); exact rfl) | refine cd ?_ | (apply s3; exact a_appE (fP rfl) rfl rfl rfl rfl nowR (by first | omega | (simp; omega)) (by decide) (by decide) (by exact rfl); exact rfl; exact rfl) | (apply c4 0; exact callK1 (θ := []) (hD := (Decimal_ok _ preB54 preB54)); exact rfl; exact rfl; exact rfl; refine dM ?_) | (apply c4 0; exact callK1 (θ := []) (hD := (Join_ok _ _ preB54 preB54)); exact rfl; exact rfl; exact rfl; refine dM ?_) | ((first | refine o_gs rfl rfl (fun hc => ?_) (fun hc => ?_) | refine g_cond rfl (fun hc => ?_) (fun hc => ?_)) <;> (try simp only [dcB] at hc) <;> (try first | contradiction | (exfalso; omega)))
      repeat refine cr ?_
      refine ends_id ?_
      refine endK [] (h2 := ?_) (h3 := ?_) (nd := ?_)
      all_goals (repeat' first | exact ce0 | refine ce ?_ | refine ce2 ?_ ?_ | exact SVLe.refl | refine ceb ?_)
      all_goals first | exact (show nodupB _ = true from rfl) | exact Or.inr rfl | (rfl)
theorem l01List_ok (l : List Int) (hl : (l.length : Int) ≤ 1048576) (hb : ∀ x ∈ l, -1000000000000 ≤ x ∧ x ≤ 1000000000000) : Does Tryz.prog 224 [.one (shI l)] [] (.one (str (numT l))) [] := by
  have hg : ∀ (i : Nat) (h : i < l.length), -1000000000000 ≤ l[i] ∧ l[i] ≤ 1000000000000 := fun i h => hb _ (List.getElem_mem h)
  by_cases h0 : (l.length : Int) = 0
  · have e : numT l = [45] := by unfold numT; rw [if_pos (List.eq_nil_of_length_eq_zero (by omega))]
    rw [e]
    refine does_of (k := 0) Tryz.func224 rfl Tryz.ntmps224 rfl rfl fun w F0 S0 ρ0 => ?_
    dsimp only [argT, argH]
    repeat' first | (apply p3; (first | exact pu1 | exact puL | exact puN | exact a_len_str rfl (fT rfl) | exact puC | exact a_eqS rfl rfl rfl | exact a_addS rfl rfl (by first | omega | (simp only [List.length_append, List.length_cons, List.length_nil]; omega)) | exact a_add rfl rfl (by omega) (by omega) | exact puI); exact rfl) | refine cd ?_ | (apply c4 0; exact callK1 (θ := []) (hD := (l01Dec_ok _ preB54 preB54)); exact rfl; exact rfl; exact rfl; refine dM ?_) | ((first | refine o_gs rfl rfl (fun hc => ?_) (fun hc => ?_) | refine g_cond rfl (fun hc => ?_) (fun hc => ?_)) <;> (try simp only [dcB] at hc) <;> (try first | contradiction | (exfalso; omega)))
    repeat refine cr ?_
    refine ends_id ?_
    refine endK [] (h2 := ?_) (h3 := ?_) (nd := ?_)
    all_goals (repeat' first | exact ce0 | refine ce ?_ | refine ce2 ?_ ?_ | exact SVLe.refl | refine ceb ?_)
    all_goals first | exact (show nodupB _ = true from rfl) | exact Or.inr rfl | (rfl)
  have e : numT l = joinT (l.map decT) [44] := by unfold numT; rw [if_neg (fun h => h0 (by rw [h]; rfl))]
  rw [e]
  refine does_of (k := 0) Tryz.func224 rfl Tryz.ntmps224 rfl rfl fun w F0 S0 ρ0 => ?_
  dsimp only [argT, argH]
  repeat' first | (apply p3; (first | exact pu1 | exact puL | exact puN | exact a_len_str rfl (fT rfl) | exact puC | exact a_eqS rfl rfl rfl | exact a_addS rfl rfl (by first | omega | (simp only [List.length_append, List.length_cons, List.length_nil]; omega)) | exact a_add rfl rfl (by omega) (by omega) | exact puI); exact rfl) | refine cd ?_ | (apply c4 0; exact callK1 (θ := []) (hD := (l01Dec_ok _ preB54 preB54)); exact rfl; exact rfl; exact rfl; refine dM ?_) | ((first | refine o_gs rfl rfl (fun hc => ?_) (fun hc => ?_) | refine g_cond rfl (fun hc => ?_) (fun hc => ?_)) <;> (try simp only [dcB] at hc) <;> (try first | contradiction | (exfalso; omega)))
  refine g_loop_id ?_
  refine loopK [0, 2] [] (fun y : Int × Bs => 0 ≤ y.1 ∧ y.1 ≤ l.length ∧ (y.2.length : Int) ≤ 22 * y.1 ∧ y.2 ++ jf [44] y.1.toNat ((l.drop y.1.toNat).map decT) = joinT (l.map decT) [44]) (fun y => [(4, .one (int y.1)), (3, .one (str y.2))]) (fun _ => []) (fun y => (l.length - y.1).toNat) ((0 : Int), []) [] (hI := ?_) (hr := ?_)
  · exact ⟨by simp, by simp, by simp, by simp [jf_0]⟩
  · rintro ⟨i, out⟩ ⟨j0, j1, j2, j3⟩
    dsimp only [List.cons_append, List.nil_append] at *
    skip
    repeat' first | (apply p3; (first | exact pu1 | exact puN | exact a_len_str rfl (fT rfl) | exact puC); exact rfl) | refine cdn ?_ | refine g_reg (id := 5) ?_ | refine g_reg (id := 10) ?_ | ((first | refine o_gs rfl rfl (fun hc => ?_) (fun hc => ?_) | refine g_cond rfl (fun hc => ?_) (fun hc => ?_)) <;> (try simp only [dcB] at hc) <;> (try first | contradiction | (exfalso; omega)))
    · have hh := hg i.toNat (by omega)
      have d1 := dec_le (n := l[i.toNat]'(by omega)) (by omega) (by omega)
      rw [jf_at j0 hc] at j3
      by_cases hi : i = 0
      · rw [if_pos hi, List.append_nil] at j3
        repeat' first | (apply p3; (first | exact pu1 | exact puL | exact puN | exact a_len_str rfl (fT rfl) | exact puC | exact a_addS rfl rfl (by first | omega | (simp only [List.length_append, List.length_cons, List.length_nil]; omega)) | exact a_add rfl rfl (by omega) (by omega) | exact puI); exact rfl) | refine cd ?_ | (apply c4 0; exact callK1 (θ := []) (hD := (l01Dec_ok _ preB54 preB54)); exact rfl; exact rfl; exact rfl; refine dM ?_) | ((first | refine o_gs rfl rfl (fun hc => ?_) (fun hc => ?_) | refine g_cond rfl (fun hc => ?_) (fun hc => ?_)) <;> (try simp only [dcB] at hc) <;> (try first | contradiction | (exfalso; omega)))
        refine q_again (i + 1, _) [] (by exact stk) ?_ ?_
        · dsimp only
          refine ⟨by omega, by omega, ?_, j3⟩
          simp only [List.length_append]; omega
        · dsimp only; omega
      · rw [if_neg hi] at j3
        have e1 : ((out ++ [44]).length : Int) = out.length + 1 := by simp
        repeat' first | (apply p3; (first | exact pu1 | exact puL | exact puN | exact a_len_str rfl (fT rfl) | exact puC | exact a_addS rfl rfl (by first | omega | (simp only [List.length_append, List.length_cons, List.length_nil]; omega)) | exact a_add rfl rfl (by omega) (by omega) | exact puI); exact rfl) | refine cd ?_ | (apply c4 0; exact callK1 (θ := []) (hD := (l01Dec_ok _ preB54 preB54)); exact rfl; exact rfl; exact rfl; refine dM ?_) | ((first | refine o_gs rfl rfl (fun hc => ?_) (fun hc => ?_) | refine g_cond rfl (fun hc => ?_) (fun hc => ?_)) <;> (try simp only [dcB] at hc) <;> (try first | contradiction | (exfalso; omega)))
        refine q_again (i + 1, _) [] (by exact stk) ?_ ?_
        · dsimp only
          refine ⟨by omega, by omega, ?_, j3⟩
          simp only [List.length_append, List.length_cons, List.length_nil]; omega
        · dsimp only; omega
    · have e : out = joinT (l.map decT) [44] := by rw [← j3, List.drop_eq_nil_of_le (by omega), List.map_nil, jf, List.append_nil]
      rw [← e]
      repeat' first | (apply p3; (first | exact pu1 | exact puL | exact puN | exact a_len_str rfl (fT rfl) | exact puC | exact a_addS rfl rfl (by first | omega | (simp only [List.length_append, List.length_cons, List.length_nil]; omega)) | exact a_add rfl rfl (by omega) (by omega) | exact puI); exact rfl) | refine cd ?_ | (apply c4 0; exact callK1 (θ := []) (hD := (l01Dec_ok _ preB54 preB54)); exact rfl; exact rfl; exact rfl; refine dM ?_) | ((first | refine o_gs rfl rfl (fun hc => ?_) (fun hc => ?_) | refine g_cond rfl (fun hc => ?_) (fun hc => ?_)) <;> (try simp only [dcB] at hc) <;> (try first | contradiction | (exfalso; omega)))
      repeat refine cr ?_
      refine ends_id ?_
      refine endK [] (h2 := ?_) (h3 := ?_) (nd := ?_)
      all_goals (repeat' first | exact ce0 | refine ce ?_ | refine ce2 ?_ ?_ | exact SVLe.refl | refine ceb ?_)
      all_goals first | exact (show nodupB _ = true from rfl) | exact Or.inr rfl | (rfl)
theorem l25Text_ok (p : Prf) (hp : validP p = true) : Does Tryz.prog 175 [.one (prB p)] [] (.one (str (proT p))) [] := by
  have g := validP_gd hp
  have h1 := g.k
  have h4 := g.nl
  have h5 := g.wl
  have hb := g.nb
  have d1 := namT_le p.k
  have d2 := numT_le g.nb
  have hl : nams.length = 9 := rfl
  have en := namT_at p.k (by omega) (by omega) (by rw [hl]; omega)
  have hn : ((nams[p.k.toNat * 1]'(by rw [hl]; omega)).length : Int) ≤ 10 := by simp only [Nat.mul_one]; rw [en]; exact d1
  have e1 : (((nams[p.k.toNat * 1]'(by rw [hl]; omega)) ++ [58]).length : Int) = (nams[p.k.toNat * 1]'(by rw [hl]; omega)).length + 1 := by simp
  have e2 : (((nams[p.k.toNat * 1]'(by rw [hl]; omega)) ++ [58] ++ numT p.nu).length : Int) = (nams[p.k.toNat * 1]'(by rw [hl]; omega)).length + 1 + (numT p.nu).length := by simp; omega
  refine does_of (k := 0) Tryz.func175 rfl Tryz.ntmps175 rfl rfl fun w F0 S0 ρ0 => ?_
  dsimp only [argT, argH]
  repeat' first | (apply p3; (first | exact pu1 | exact puL | exact puN | exact a_len_str rfl (fT rfl) | exact puC | exact a_addS rfl rfl (by first | omega | (simp only [List.length_append, List.length_cons, List.length_nil]; omega)) | exact a_add rfl rfl (by omega) (by omega) | exact puI); exact rfl) | refine cd ?_ | (apply c4 0; exact callK1 (θ := []) (hD := (l03Text_ok _ preB54 preB54)); exact rfl; exact rfl; exact rfl; refine dM ?_) | (apply g_drN (id := 1) okM [[],[],[1],[1,2],[1,2,3],[0,1,2,3,4],[0,1,2,3,4,5],[0,1,2,3,4,5,6],[],[8],[8,9],[8,9,10],[0,8,9,10,11],[0,1,2,3,4,5,6,7,8,9,10,11,12],[0,1,2,3,4,5,6,7,8,9,10,11,12,13],[0,1,2,3,4,5,6,7,8,9,10,11,12,13,14]] [([0],[]),([],[]),([],[]),([],[]),([],[]),([],[]),([],[]),([],[]),([],[]),([],[]),([],[]),([],[]),([],[]),([],[]),([],[]),([],[])] 1; (focus (refine duN 0 0 [6, 7, 8, 9, 13, 14, 15, 16] [] (callD1 (n := _) 0 (θ := []) (hD := l25Names_ok)) (by exact rfl) (by exact rfl) ?_; refine dp 1 0 [5, 13, 14, 15, 16, 17] [(true, 0)] pu1 ?_; refine dp 2 1 [5, 13, 14, 15, 16, 17] [(true, 0)] (a_pure (sv := .one _) rfl) ?_; refine dp 3 3 [5, 13, 14, 15, 16, 17] [(true, 0)] (a_pure (sv := .one _) rfl) ?_; refine dp 4 7 [5, 13, 14, 15, 16, 17] [(true, 0)] puL ?_; refine dp 5 31 [13, 14, 15, 16, 17] [] puI ?_; refine dp 6 63 [13, 14, 15, 16, 17] [] (by first | exact a_pure (sv := .one _) rfl | exact a_ld_rowS rfl rfl rfl (fC rfl) bnd) ?_; refine dp 7 127 [13, 14, 15, 16, 17] [] (a_addS rfl rfl (by first | omega | (simp only [List.length_append, List.length_cons, List.length_nil]; omega))) ?_; refine dp 8 0 [5, 6, 7, 8, 9, 10, 11, 12] [(true, 0)] pu1 ?_; refine dp 9 1 [5, 6, 7, 8, 9, 10, 11, 12] [(true, 0)] (a_pure (sv := .one _) rfl) ?_; refine dp 10 3 [5, 6, 7, 8, 9, 10, 11, 12] [(true, 0)] (a_pure (sv := .one _) rfl) ?_; refine dp 11 7 [5, 6, 7, 8, 9, 10, 11, 12] [(true, 0)] puL ?_; refine dp 12 2063 [6, 7, 8, 9, 10, 11, 12] [] (callD1 (n := _) 1 (θ := []) (hD := (l01List_ok _ preB54 preB54))) ?_; refine dp 13 8191 [] [] (a_addS rfl rfl (by first | omega | (simp only [List.length_append, List.length_cons, List.length_nil]; omega))) ?_; refine dp 14 16383 [] [] (a_addS rfl rfl (by first | omega | (simp only [List.length_append, List.length_cons, List.length_nil]; omega))) ?_; refine dp 15 32767 [] [] pu1 ?_; (refine d_nil ?_; refine dN ?_))); any_goals kernel_rfl) | ((first | refine o_gs rfl rfl (fun hc => ?_) (fun hc => ?_) | refine g_cond rfl (fun hc => ?_) (fun hc => ?_)) <;> (try simp only [dcB] at hc) <;> (try first | contradiction | (exfalso; omega)))
  simp only [Nat.mul_one]
  rw [en]
  clear e1 e2 hn
  have e3 : ((namT p.k ++ [58] ++ numT p.nu ++ [58]).length : Int) = (namT p.k).length + 1 + (numT p.nu).length + 1 := by simp; omega
  have eP : namT p.k ++ [58] ++ numT p.nu ++ [58] ++ joinT (p.wo.map wdT) [44] = proT p := by unfold proT worT; rfl
  generalize namT p.k ++ [58] ++ numT p.nu ++ [58] = hd at *
  refine g_loop_id ?_
  refine loopK [0, 2] [] (fun y : Int × Bs => 0 ≤ y.1 ∧ y.1 ≤ p.wo.length ∧ (y.2.length : Int) ≤ 8000 + 402 * y.1 ∧ y.2 ++ jf [44] y.1.toNat ((p.wo.drop y.1.toNat).map wdT) = proT p) (fun y => [(4, .one (int y.1)), (3, .one (str y.2))]) (fun _ => []) (fun y => (p.wo.length - y.1).toNat) ((0 : Int), hd) [0] (hI := ?_) (hr := ?_)
  · exact ⟨by simp, by simp, by dsimp only; omega, by dsimp only; rw [← eP, ← jf_0]; rfl⟩
  · rintro ⟨i, out⟩ ⟨j0, j1, j2, j3⟩
    dsimp only [List.cons_append, List.nil_append] at *
    skip
    repeat' first | (apply p3; (first | exact pu1 | exact puL | exact puN | exact a_len_str rfl (fT rfl) | exact puC); exact rfl) | refine cdn ?_ | refine g_reg (id := 3) ?_ | refine g_reg (id := 8) ?_ | ((first | refine o_gs rfl rfl (fun hc => ?_) (fun hc => ?_) | refine g_cond rfl (fun hc => ?_) (fun hc => ?_)) <;> (try simp only [dcB] at hc) <;> (try first | contradiction | (exfalso; omega)))
    · obtain ⟨w1, w2⟩ := g.wb (p.wo[i.toNat]'(by omega)) (List.getElem_mem _)
      have w3 := wdT_le (p.wo[i.toNat]'(by omega))
      rw [jf_at j0 hc] at j3
      by_cases hi : i = 0
      · rw [if_pos hi, List.append_nil] at j3
        repeat' first | (apply p3; (first | exact pu1 | exact puL | exact puN | exact a_len_str rfl (fT rfl) | exact puC | exact a_addS rfl rfl (by first | omega | (simp only [List.length_append, List.length_cons, List.length_nil]; omega)) | exact a_add rfl rfl (by omega) (by omega) | exact puI); exact rfl) | refine cd ?_ | (apply c4 0; exact callK1 (θ := []) (hD := (l03Text_ok _ preB54 preB54)); exact rfl; exact rfl; exact rfl; refine dM ?_) | ((first | refine o_gs rfl rfl (fun hc => ?_) (fun hc => ?_) | refine g_cond rfl (fun hc => ?_) (fun hc => ?_)) <;> (try simp only [dcB] at hc) <;> (try first | contradiction | (exfalso; omega)))
        refine q_again (i + 1, _) [0] (by exact stk) ?_ ?_
        · dsimp only
          refine ⟨by omega, by omega, ?_, j3⟩
          simp only [List.length_append]; omega
        · dsimp only; omega
      · rw [if_neg hi] at j3
        have e1 : ((out ++ [44]).length : Int) = out.length + 1 := by simp
        repeat' first | (apply p3; (first | exact pu1 | exact puL | exact puN | exact a_len_str rfl (fT rfl) | exact puC | exact a_addS rfl rfl (by first | omega | (simp only [List.length_append, List.length_cons, List.length_nil]; omega)) | exact a_add rfl rfl (by omega) (by omega) | exact puI); exact rfl) | refine cd ?_ | (apply c4 0; exact callK1 (θ := []) (hD := (l03Text_ok _ preB54 preB54)); exact rfl; exact rfl; exact rfl; refine dM ?_) | ((first | refine o_gs rfl rfl (fun hc => ?_) (fun hc => ?_) | refine g_cond rfl (fun hc => ?_) (fun hc => ?_)) <;> (try simp only [dcB] at hc) <;> (try first | contradiction | (exfalso; omega)))
        refine q_again (i + 1, _) [0] (by exact stk) ?_ ?_
        · dsimp only
          refine ⟨by omega, by omega, ?_, j3⟩
          simp only [List.length_append, List.length_cons, List.length_nil]; omega
        · dsimp only; omega
    · have e : out = proT p := by rw [← j3, List.drop_eq_nil_of_le (by omega), List.map_nil, jf, List.append_nil]
      rw [← e]
      repeat' first | (apply p3; (first | exact pu1 | exact puL | exact puN | exact a_len_str rfl (fT rfl) | exact puC | exact a_addS rfl rfl (by first | omega | (simp only [List.length_append, List.length_cons, List.length_nil]; omega)) | exact a_add rfl rfl (by omega) (by omega) | exact puI); exact rfl) | refine cd ?_ | (apply c4 0; exact callK1 (θ := []) (hD := (l03Text_ok _ preB54 preB54)); exact rfl; exact rfl; exact rfl; refine dM ?_) | ((first | refine o_gs rfl rfl (fun hc => ?_) (fun hc => ?_) | refine g_cond rfl (fun hc => ?_) (fun hc => ?_)) <;> (try simp only [dcB] at hc) <;> (try first | contradiction | (exfalso; omega)))
      repeat refine cr ?_
      refine ends_id ?_
      refine endK [] (h2 := ?_) (h3 := ?_) (nd := ?_)
      all_goals (repeat' first | exact ce0 | refine ce ?_ | refine ce2 ?_ ?_ | exact SVLe.refl | refine ceb ?_)
      all_goals first | exact (show nodupB _ = true from rfl) | exact Or.inr rfl | (rfl)
theorem ProofText_ok (p : Prf) (hp : validP p = true) : Does Tryz.prog 185 [.agg (prC p)] [] (.one (str (proT p))) [] := by
  have g := validP_gd hp
  have h1 := g.k
  have h4 := g.nl
  have h5 := g.wl
  have hb := g.nb
  have d1 := namT_le p.k
  have d2 := djT_le g.nb
  have d3 := worT_le fun u hu => (g.wb u hu).1
  have h6 : ∀ x ∈ p.wo, (x.length : Int) ≤ 16777216 := fun x hx => by have := (g.wb x hx).1; omega
  have d4 := numT_le g.nb
  have e1 : ((namT p.k ++ [58]).length : Int) = (namT p.k).length + 1 := by simp
  have e2 : ((namT p.k ++ [58] ++ numT p.nu).length : Int) = (namT p.k).length + 1 + (numT p.nu).length := by simp; omega
  have e3 : ((namT p.k ++ [58] ++ numT p.nu ++ [58]).length : Int) = (namT p.k).length + 1 + (numT p.nu).length + 1 := by simp; omega
  have eP : namT p.k ++ [58] ++ numT p.nu ++ [58] ++ joinT (p.wo.map wdT) [44] = proT p := by unfold proT worT; rfl
  have eW : worT p.wo = joinT (p.wo.map wdT) [44] := by unfold worT; rfl
  rw [eW] at d3
  refine does_of (k := 0) Tryz.func185 rfl Tryz.ntmps185 rfl rfl fun w F0 S0 ρ0 => ?_
  dsimp only [argT, argH]
  repeat' first | (apply n3; (first | exact a_new (gb := .bx _) rfl | exact a_litE eS [] rfl rfl rfl rfl rfl rfl rfl rfl); exact rfl; refine dA ?_) | (apply p3; (first | exact pu1 | exact puL | exact puN | exact a_len_str rfl (fT rfl) | exact puC); exact rfl) | refine cd ?_ | (apply c4 0; exact callK1 (θ := []) (hD := (ValidProof_ok _ preB54 preB54 preB54)); exact rfl; exact rfl; exact rfl; refine dM ?_) | (refine o_gs rfl rfl (fun hc => ?_) (fun hc => ?_) <;> (try simp only [dcB] at hc) <;> (try first | contradiction | (exfalso; omega))) | (refine g_cond (c := .tmp 9) rfl (fun hc => ?_) (fun hc => ?_) <;> (try simp only [dcB] at hc) <;> (try (first | contradiction | (exfalso; omega)))) | (refine g_cond (c := .tmp 22) rfl (fun hc => ?_) (fun hc => ?_) <;> (try simp only [dcB] at hc) <;> (try (first | contradiction | (exfalso; omega))))
  · rw [hp] at hc; cases hc
  refine cutK [1, 2, 4] [] (fun y : Bs => y = numT p.nu) (fun y => [(3, .one (str y))]) (fun _ => []) (hc := ?_) (hk := ?_)
  · repeat' first | (apply p3; (first | exact pu1 | exact puL); exact rfl) | refine cd ?_ | (apply c4 0; exact callK1 (θ := []) (hD := (decimals_ok _ _ preB54 preB54 preB54)); exact rfl; exact rfl; exact rfl; refine dM ?_) | ((first | refine o_gs rfl rfl (fun hc => ?_) (fun hc => ?_) | refine g_cond rfl (fun hc => ?_) (fun hc => ?_)) <;> (try simp only [dcB] at hc) <;> (try first | contradiction | (exfalso; omega)))
    · refine q_here (joinT (p.nu.map decT) [44]) [0, 1] (by exact stk) ?_
      unfold numT; rw [if_neg (fun h => by rw [h] at hc; simp at hc)]
    · refine q_here [45] [0, 1] (by exact stk) ?_
      unfold numT; rw [if_pos (List.eq_nil_of_length_eq_zero (by omega))]
  rintro _ rfl
  dsimp only [List.cons_append, List.nil_append] at *
  skip
  repeat' first | (apply n3; (first | exact a_litE eS [_] rfl rfl rfl rfl rfl rfl rfl rfl | exact a_appN (fP rfl) rfl rfl rfl nowR (by first | omega | (simp; omega)) (by decide) (by exact rfl)); exact rfl; refine dA ?_) | (apply p3; (first | exact pu1 | exact puL | exact puN | exact a_len_str rfl (fT rfl) | exact puC | exact a_add rfl rfl (by omega) (by omega) | exact a_addS rfl rfl (by first | omega | (simp only [List.length_append, List.length_cons, List.length_nil]; omega)) | exact puI); exact rfl) | refine cd ?_ | (apply s3; exact a_appE (fP rfl) rfl rfl rfl rfl nowR (by first | omega | (simp; omega)) (by decide) (by decide) (by exact rfl); exact rfl; exact rfl) | (apply c4 0; exact callK1 (θ := []) (hD := (wordText_ok _ preB54 preB54)); exact rfl; exact rfl; exact rfl; refine dM ?_) | (apply c4 0; exact callK1 (θ := []) (hD := (ProofName_ok _ preB54 preB54)); exact rfl; exact rfl; exact rfl; refine dM ?_) | (apply c4 0; exact callK1 (θ := []) (hD := (Join_ok _ _ preB54 preB54)); exact rfl; exact rfl; exact rfl; refine dM ?_) | ((first | refine o_gs rfl rfl (fun hc => ?_) (fun hc => ?_) | refine g_cond rfl (fun hc => ?_) (fun hc => ?_)) <;> (try simp only [dcB] at hc) <;> (try first | contradiction | (exfalso; omega)))
  refine g_loop_id ?_
  refine loopK [1, 2, 3, 4, 19, 20] [1] (fun y : Int × List Bs => 0 ≤ y.1 ∧ y.1 ≤ p.wo.length ∧ y.2 = (p.wo.take y.1.toNat).map wdT) (fun y => [(21, .one (int y.1))]) (fun y => [(1, .row 1 (rows eS y.2))]) (fun y => (p.wo.length - y.1).toNat) ((0 : Int), []) [0, 1] (hI := ?_) (hr := ?_)
  · exact ⟨by simp, by simp, by simp⟩
  · rintro ⟨i, ts⟩ ⟨j0, j1, j2⟩
    dsimp only [List.cons_append, List.nil_append] at *
    skip
    have jl : (ts.length : Int) ≤ 1048576 := by rw [j2, List.length_map, List.length_take]; omega
    repeat' first | (apply p3; (first | exact pu1 | exact puL | exact puC | exact a_addS rfl rfl (by first | omega | (simp only [List.length_append, List.length_cons, List.length_nil]; omega)) | exact puI); exact rfl) | refine cdn ?_ | refine g_reg (id := 7) ?_ | refine g_reg (id := 8) ?_ | (apply c4 0; exact callK1 (θ := []) (hD := (ProofName_ok _ preB54 preB54)); exact rfl; exact rfl; exact rfl; refine dM ?_) | (apply c4 0; exact callK1 (θ := []) (hD := (Join_ok _ _ preB54 preB54)); exact rfl; exact rfl; exact rfl; refine dM ?_) | ((first | refine o_gs rfl rfl (fun hc => ?_) (fun hc => ?_) | refine g_cond rfl (fun hc => ?_) (fun hc => ?_)) <;> (try simp only [dcB] at hc) <;> (try first | contradiction | (exfalso; omega)))
    · obtain ⟨w1, w2⟩ := g.wb (p.wo[i.toNat]'(by omega)) (List.getElem_mem _)
      repeat' first | (apply n3; (first | exact a_litE eS [_] rfl rfl rfl rfl rfl rfl rfl rfl | exact a_appN (fP rfl) rfl rfl rfl nowR (by first | omega | (simp; omega)) (by decide) (by exact rfl)); exact rfl; refine dA ?_) | (apply p3; (first | exact pu1 | exact puL | exact puC | exact a_add rfl rfl (by omega) (by omega) | exact a_addS rfl rfl (by first | omega | (simp only [List.length_append, List.length_cons, List.length_nil]; omega)) | exact puI); exact rfl) | refine cd ?_ | (apply s3; exact a_appE (fP rfl) rfl rfl rfl rfl nowR (by first | omega | (simp; omega)) (by decide) (by decide) (by exact rfl); exact rfl; exact rfl) | (apply c4 0; exact callK1 (θ := []) (hD := (wordText_ok _ preB54 preB54)); exact rfl; exact rfl; exact rfl; refine dM ?_) | (apply c4 0; exact callK1 (θ := []) (hD := (ProofName_ok _ preB54 preB54)); exact rfl; exact rfl; exact rfl; refine dM ?_) | (apply c4 0; exact callK1 (θ := []) (hD := (Join_ok _ _ preB54 preB54)); exact rfl; exact rfl; exact rfl; refine dM ?_) | ((first | refine o_gs rfl rfl (fun hc => ?_) (fun hc => ?_) | refine g_cond rfl (fun hc => ?_) (fun hc => ?_)) <;> (try simp only [dcB] at hc) <;> (try first | contradiction | (exfalso; omega)))
      refine q_again (i + 1, _) [0, 3] (by exact stk) ?_ ?_
      · dsimp only
        exact ⟨by omega, by omega, by rw [j2, map_take_s wdT j0 hc]⟩
      · dsimp only; omega
    · have e : ts = p.wo.map wdT := by rw [j2, List.take_of_length_le (by omega)]
      rw [← e] at d3 eP
      rw [← eP]
      repeat' first | (apply n3; (first | exact a_litE eS [_] rfl rfl rfl rfl rfl rfl rfl rfl | exact a_appN (fP rfl) rfl rfl rfl nowR (by first | omega | (simp; omega)) (by decide) (by exact rfl)); exact rfl; refine dA ?_) | (apply p3; (first | exact pu1 | exact puL | exact puC | exact a_add rfl rfl (by omega) (by omega) | exact a_addS rfl rfl (by first | omega | (simp only [List.length_append, List.length_cons, List.length_nil]; omega)) | exact puI); exact rfl) | refine cd ?_ | (apply s3; exact a_appE (fP rfl) rfl rfl rfl rfl nowR (by first | omega | (simp; omega)) (by decide) (by decide) (by exact rfl); exact rfl; exact rfl) | (apply c4 0; exact callK1 (θ := []) (hD := (wordText_ok _ preB54 preB54)); exact rfl; exact rfl; exact rfl; refine dM ?_) | (apply c4 0; exact callK1 (θ := []) (hD := (ProofName_ok _ preB54 preB54)); exact rfl; exact rfl; exact rfl; refine dM ?_) | (apply c4 0; exact callK1 (θ := []) (hD := (Join_ok _ _ preB54 preB54)); exact rfl; exact rfl; exact rfl; refine dM ?_) | ((first | refine o_gs rfl rfl (fun hc => ?_) (fun hc => ?_) | refine g_cond rfl (fun hc => ?_) (fun hc => ?_)) <;> (try simp only [dcB] at hc) <;> (try first | contradiction | (exfalso; omega)))
      repeat refine cr ?_
      refine ends_id ?_
      refine endK [] (h2 := ?_) (h3 := ?_) (nd := ?_)
      all_goals (repeat' first | exact ce0 | refine ce ?_ | refine ce2 ?_ ?_ | exact SVLe.refl | refine ceb ?_)
      all_goals first | exact (show nodupB _ = true from rfl) | exact Or.inr rfl | (rfl)
end Go.Proofs.YtbekdojhcokalaaGreatDoor
end
section
set_option linter.unusedVariables false
set_option linter.unusedSimpArgs false
set_option maxRecDepth 100000
set_option maxHeartbeats 4000000
namespace Go.Proofs.YtbekdojhcokalaaGreatDoor
open Go Foot
structure Verd where
  m : Mach
  p : Prf
abbrev eV : Enc Verd := ⟨6, fun v => [.sc (.int .i64 v.m.sy), .sc (.int .i64 v.m.st), .sl false 3 (rows eR v.m.ru), .sc (.int .i64 v.p.k), .sl false 1 (rows eI v.p.nu), .sl false 1 (rows eW v.p.wo)], fun _ => rfl, by decide⟩
abbrev shV (l : List Verd) : C := .d (.sl false 6 (rows eV l))
abbrev veC (v : Verd) : List C := [int v.m.sy, int v.m.st, shR v.m.ru, int v.p.k, shI v.p.nu, shW v.p.wo]
abbrev veB (v : Verd) : C := .d (.bx false [.sc (.int .i64 v.m.sy), .sc (.int .i64 v.m.st), .sl false 3 (rows eR v.m.ru), .sc (.int .i64 v.p.k), .sl false 1 (rows eI v.p.nu), .sl false 1 (rows eW v.p.wo)])
@[irreducible] def isZ (p : Prf) : Bool := decide (p.k = 0 ∧ (p.nu.length : Int) = 0 ∧ (p.wo.length : Int) = 0)
theorem preB55 {p : Prop} (h : p := by first | with_reducible assumption | omega | (simp only [List.length_append, List.length_cons, List.length_nil, List.length_set, List.length_replicate, List.length_take, List.length_drop, List.length_tail, List.length_dropLast, List.length_reverse] at *; omega) | exact mem_len (by assumption) (by omega) | (with_reducible refine Int.le_trans (Int.ofNat_le.2 (trimR_len _)) ?_; simp only [List.length_cons, List.length_tail]; omega) | (exact (ruAt_ok (by assumption) (by assumption) (by assumption)).2.1) | (exact (ruAt_ok (by assumption) (by assumption) (by assumption)).2.1) | (have := vMach_bd (by assumption); omega) | (simp only [mC_ch, mC_tu]; omega) | (have := vTag_bd (by assumption); omega) | (have := (‹Gd _ _›).le; omega) | (exact tgHalts_no (by assumption)) | (exact tgHead (by assumption) (by assumption) (by assumption)) | (exact Int.le_trans (tgStep_gd (by assumption) (by assumption) (by assumption) (by assumption)).le (by decide)) | (exact vTag_r (by assumption)) | (with_reducible refine Int.le_trans (Int.ofNat_le.2 (pushL_len _ _)) ?_; simp only [List.length_dropLast]; omega) | exact (ask_ok (by assumption)).1 | exact (ask_ok (by assumption)).2.1 | exact (ask_ok (by assumption)).2.2.1 | exact (ask_ok (by assumption)).2.2.2 | trivial) : p := h
theorem isZero_ok (p : Prf) : Does Tryz.prog 74 [.agg (prC p)] [] (.one (boo (isZ p))) [] := by
  refine does_of (k := 0) Tryz.func74 rfl Tryz.ntmps74 rfl rfl fun w F0 S0 ρ0 => ?_
  dsimp only [argT, argH]
  repeat' first | (apply n3; exact a_new (gb := .bx _) rfl; exact rfl; refine dA ?_) | (apply p3; (first | exact pu1 | exact puL | exact puC | exact a_eqS rfl rfl rfl | exact puN | exact a_len_str rfl (fT rfl)); exact rfl) | refine cd ?_ | refine o_no rfl rfl rfl rfl ?_ | refine o_noN rfl rfl rfl ?_ | (apply py3; exact rfl; exact rfl; (first | exact pu1 | exact puL | exact puC | exact a_eqS rfl rfl rfl | exact puN | exact a_len_str rfl (fT rfl)); exact rfl; exact rfl) | (apply ny3; exact rfl; exact rfl; exact a_new (gb := .bx _) rfl; exact rfl; exact rfl) | ((first | refine o_gs rfl rfl (fun hc => ?_) (fun hc => ?_) | refine g_cond rfl (fun hc => ?_) (fun hc => ?_)) <;> (try simp only [dcB] at hc) <;> (try first | contradiction | (exfalso; omega)))
  all_goals
    repeat refine cr ?_
    refine ends_id ?_
    refine endK [] (h2 := ?_) (h3 := ?_) (nd := ?_)
    all_goals (repeat' first | exact ce0 | refine ce ?_ | refine ce2 ?_ ?_ | exact SVLe.refl | refine ceb ?_)
    all_goals first | exact (show nodupB _ = true from rfl) | exact Or.inr rfl | ((unfold isZ; first | (simp [*]; done) | (rw [decide_eq_false] <;> first | rfl | omega | (simp; done)) | (rw [decide_eq_true] <;> first | rfl | omega | (simp [*]; done)) | (simp_all; done) | (simp_all; omega)))
theorem l31None_ok (p : Prf) : Does Tryz.prog 132 [.one (prB p)] [] (.one (boo (isZ p))) [] := by
  refine does_of (k := 0) Tryz.func132 rfl Tryz.ntmps132 rfl rfl fun w F0 S0 ρ0 => ?_
  dsimp only [argT, argH]
  repeat' first | (apply p3; (first | exact pu1 | exact puL | exact puC | exact a_eqS rfl rfl rfl | exact puN | exact a_len_str rfl (fT rfl)); exact rfl) | refine cd ?_ | refine o_no rfl rfl rfl rfl ?_ | refine o_noN rfl rfl rfl ?_ | (apply py3; exact rfl; exact rfl; (first | exact pu1 | exact puL | exact puC | exact a_eqS rfl rfl rfl | exact puN | exact a_len_str rfl (fT rfl)); exact rfl; exact rfl) | ((first | refine o_gs rfl rfl (fun hc => ?_) (fun hc => ?_) | refine g_cond rfl (fun hc => ?_) (fun hc => ?_)) <;> (try simp only [dcB] at hc) <;> (try first | contradiction | (exfalso; omega)))
  all_goals
    repeat refine cr ?_
    refine ends_id ?_
    refine endK [] (h2 := ?_) (h3 := ?_) (nd := ?_)
    all_goals (repeat' first | exact ce0 | refine ce ?_ | refine ce2 ?_ ?_ | exact SVLe.refl | refine ceb ?_)
    all_goals first | exact (show nodupB _ = true from rfl) | exact Or.inr rfl | ((unfold isZ; first | (simp [*]; done) | (rw [decide_eq_false] <;> first | rfl | omega | (simp; done)) | (rw [decide_eq_true] <;> first | rfl | omega | (simp [*]; done)) | (simp_all; done) | (simp_all; omega)))
theorem check_ok (c : Int) (s : Bs) (hs : (s.length : Int) ≤ 1048576) (h0 : 0 ≤ c) (h1 : c < 65536) : Does Tryz.prog 307 [.one (int c), .one (str s)] [] (.one (int (crC s c))) [] := by
  refine does_of (k := 0) Tryz.func307 rfl Tryz.ntmps307 rfl rfl fun w F0 S0 ρ0 => ?_
  dsimp only [argT, argH]
  repeat' first | (apply p3; exact pu1; exact rfl) | refine cd ?_ | (apply c4 0; exact callK1 (θ := []) (hD := (Crc16_ok _ _ preB55 preB55 preB55)); exact rfl; exact rfl; exact rfl; refine dM ?_) | ((first | refine o_gs rfl rfl (fun hc => ?_) (fun hc => ?_) | refine g_cond rfl (fun hc => ?_) (fun hc => ?_)) <;> (try simp only [dcB] at hc) <;> (try first | contradiction | (exfalso; omega)))
  repeat refine cr ?_
  refine ends_id ?_
  refine endK [] (h2 := ?_) (h3 := ?_) (nd := ?_)
  all_goals (repeat' first | exact ce0 | refine ce ?_ | refine ce2 ?_ ?_ | exact SVLe.refl | refine ceb ?_)
  all_goals first | exact (show nodupB _ = true from rfl) | exact Or.inr rfl | (rfl)
/-- The text of a proof, or of none. -/
@[irreducible] def prfT (p : Prf) : Bs := if isZ p = true then [111, 112, 101, 110] else proT p
structure OkP (p : Prf) : Prop where
  h : isZ p = true ∨ validP p = true
@[irreducible] def linH (v : Verd) : Bs := macT v.m ++ [32] ++ prfT v.p
@[irreducible] def linT (v : Verd) : Bs := linH v ++ [32] ++ decT (crC (linH v) 65535) ++ [10]
theorem prfT_le {p : Prf} (h : OkP p) : ((prfT p).length : Int) ≤ 128000 := by
  unfold prfT
  split
  · simp
  · rename_i hz
    rcases h.h with e | e
    · exact absurd e hz
    · exact proT_le e
theorem linH_le {v : Verd} (hm : vMach v.m = true) (hp : OkP v.p) : ((linH v).length : Int) ≤ 513000 := by
  have h1 := macT_le hm
  have h2 := prfT_le hp
  unfold linH
  simp only [List.length_append, List.length_cons, List.length_nil]
  omega
theorem crc_bd (s : Bs) : 0 ≤ crC s 65535 ∧ crC s 65535 < 65536 := crC_bd s ⟨by decide, by decide⟩
theorem linT_le {v : Verd} (hm : vMach v.m = true) (hp : OkP v.p) : ((linT v).length : Int) ≤ 520000 := by
  have h1 := linH_le hm hp
  have h2 := crc_bd (linH v)
  have h3 := dec_le (n := crC (linH v) 65535) (by omega) (by omega)
  unfold linT
  simp only [List.length_append, List.length_cons, List.length_nil]
  omega
theorem linT_ne (v : Verd) : linT v ≠ [] := by unfold linT; simp
theorem lineOfVerdict_ok (v : Verd) (hm : vMach v.m = true) (hp : OkP v.p) : Does Tryz.prog 123 [.agg (veC v), .one (.ifc 166 false [int 65535])] [] (.one (str (linT v))) [] := by
  have h1 := macT_le hm
  have h2 := prfT_le hp
  have h3 := linH_le hm hp
  have h4 := crc_bd (linH v)
  have h5 := dec_le (n := crC (linH v) 65535) (by omega) (by omega)
  have e1 : ((macT v.m ++ [32]).length : Int) = (macT v.m).length + 1 := by simp
  have e2 : macT v.m ++ [32] ++ prfT v.p = linH v := by unfold linH; rfl
  have e3 : ((linH v ++ [32]).length : Int) = (linH v).length + 1 := by simp
  have e4 : ((linH v ++ [32] ++ decT (crC (linH v) 65535)).length : Int) = (linH v).length + 1 + (decT (crC (linH v) 65535)).length := by simp; omega
  have e5 : linH v ++ [32] ++ decT (crC (linH v) 65535) ++ [10] = linT v := by unfold linT; rfl
  by_cases hz : isZ v.p = true
  · have e : prfT v.p = [111, 112, 101, 110] := by unfold prfT; rw [if_pos hz]
    rw [e] at e2 h2
    have hz2 : ¬ isZ v.p = false := by simp [hz]
    refine does_of (k := 0) Tryz.func123 rfl Tryz.ntmps123 rfl rfl fun w F0 S0 ρ0 => ?_
    dsimp only [argT, argH]
    repeat' first | (apply n3; exact a_new (gb := .bx _) rfl; exact rfl; refine dA ?_) | (apply p3; (first | exact a_fa_immT 3 (T := 88) (f := 1) (off := 3) rfl (by kernel_rfl) rfl | exact a_fa_immT 3 (T := 88) (f := 0) (off := 0) rfl (by kernel_rfl) rfl | exact pu1 | exact puL | exact a_addS rfl rfl (by first | omega | (simp only [List.length_append, List.length_cons, List.length_nil]; omega))); exact rfl) | refine cdn ?_ | refine g_reg (id := 0) ?_ | refine g_reg (id := 1) ?_ | refine g_reg (id := 2) ?_ | refine g_reg (id := 3) ?_ | refine g_reg (id := 4) ?_ | (apply c4 0; exact callK1 (θ := []) (hD := (isZero_ok _)); exact rfl; exact rfl; exact rfl; refine dM ?_) | (apply c4 0; exact callK1 (θ := []) (hD := (ProofText_ok _ preB55)); exact rfl; exact rfl; exact rfl; refine dM ?_) | (apply c4 0; exact callK1 (θ := []) (hD := (MachineText_ok _ preB55)); exact rfl; exact rfl; exact rfl; refine dM ?_) | ((first | refine o_gs rfl rfl (fun hc => ?_) (fun hc => ?_) | refine g_cond rfl (fun hc => ?_) (fun hc => ?_)) <;> (try simp only [dcB] at hc) <;> (try first | contradiction | (exfalso; omega)))
    rw [e2]
    repeat' first | (apply n3; exact a_new (gb := .bx _) rfl; exact rfl; refine dA ?_) | (apply p3; (first | exact a_fa_immT 3 (T := 88) (f := 1) (off := 3) rfl (by kernel_rfl) rfl | exact a_fa_immT 3 (T := 88) (f := 0) (off := 0) rfl (by kernel_rfl) rfl | exact pu1 | exact puL | exact a_addS rfl rfl (by first | omega | (simp only [List.length_append, List.length_cons, List.length_nil]; omega))); exact rfl) | refine cd ?_ | (apply c4 0; exact callK1 (θ := []) (hD := (isZero_ok _)); exact rfl; exact rfl; exact rfl; refine dM ?_) | (apply c4 0; exact callK1 (θ := []) (hD := (ProofText_ok _ preB55)); exact rfl; exact rfl; exact rfl; refine dM ?_) | (apply c4 0; exact callK1 (θ := []) (hD := (MachineText_ok _ preB55)); exact rfl; exact rfl; exact rfl; refine dM ?_) | (apply c4 0; exact callM (θ := []) (hD := (check_ok _ _ preB55 preB55 preB55)); exact rfl; exact rfl; exact rfl; refine dM ?_) | (apply c4 0; exact callK1 (θ := []) (hD := (Decimal_ok _ preB55 preB55)); exact rfl; exact rfl; exact rfl; refine dM ?_) | ((first | refine o_gs rfl rfl (fun hc => ?_) (fun hc => ?_) | refine g_cond rfl (fun hc => ?_) (fun hc => ?_)) <;> (try simp only [dcB] at hc) <;> (try first | contradiction | (exfalso; omega)))
    rw [e5]
    repeat refine cr ?_
    refine ends_id ?_
    refine endK [] (h2 := ?_) (h3 := ?_) (nd := ?_)
    all_goals (repeat' first | exact ce0 | refine ce ?_ | refine ce2 ?_ ?_ | exact SVLe.refl | refine ceb ?_)
    all_goals first | exact (show nodupB _ = true from rfl) | exact Or.inr rfl | (rfl)
  · have e : prfT v.p = proT v.p := by unfold prfT; rw [if_neg hz]
    have hv : validP v.p = true := by rcases hp.h with h | h; exact absurd h hz; exact h
    rw [e] at e2 h2
    refine does_of (k := 0) Tryz.func123 rfl Tryz.ntmps123 rfl rfl fun w F0 S0 ρ0 => ?_
    dsimp only [argT, argH]
    repeat' first | (apply n3; exact a_new (gb := .bx _) rfl; exact rfl; refine dA ?_) | (apply p3; (first | exact a_fa_immT 3 (T := 88) (f := 1) (off := 3) rfl (by kernel_rfl) rfl | exact a_fa_immT 3 (T := 88) (f := 0) (off := 0) rfl (by kernel_rfl) rfl | exact pu1 | exact puL | exact a_addS rfl rfl (by first | omega | (simp only [List.length_append, List.length_cons, List.length_nil]; omega))); exact rfl) | refine cdn ?_ | refine g_reg (id := 0) ?_ | refine g_reg (id := 1) ?_ | refine g_reg (id := 2) ?_ | refine g_reg (id := 3) ?_ | refine g_reg (id := 4) ?_ | (apply c4 0; exact callK1 (θ := []) (hD := (isZero_ok _)); exact rfl; exact rfl; exact rfl; refine dM ?_) | (apply c4 0; exact callK1 (θ := []) (hD := (ProofText_ok _ preB55)); exact rfl; exact rfl; exact rfl; refine dM ?_) | (apply c4 0; exact callK1 (θ := []) (hD := (MachineText_ok _ preB55)); exact rfl; exact rfl; exact rfl; refine dM ?_) | ((first | refine o_gs rfl rfl (fun hc => ?_) (fun hc => ?_) | refine g_cond rfl (fun hc => ?_) (fun hc => ?_)) <;> (try simp only [dcB] at hc) <;> (try first | contradiction | (exfalso; omega)))
    rw [e2]
    repeat' first | (apply n3; exact a_new (gb := .bx _) rfl; exact rfl; refine dA ?_) | (apply p3; (first | exact a_fa_immT 3 (T := 88) (f := 1) (off := 3) rfl (by kernel_rfl) rfl | exact a_fa_immT 3 (T := 88) (f := 0) (off := 0) rfl (by kernel_rfl) rfl | exact pu1 | exact puL | exact a_addS rfl rfl (by first | omega | (simp only [List.length_append, List.length_cons, List.length_nil]; omega))); exact rfl) | refine cd ?_ | (apply c4 0; exact callK1 (θ := []) (hD := (isZero_ok _)); exact rfl; exact rfl; exact rfl; refine dM ?_) | (apply c4 0; exact callK1 (θ := []) (hD := (ProofText_ok _ preB55)); exact rfl; exact rfl; exact rfl; refine dM ?_) | (apply c4 0; exact callK1 (θ := []) (hD := (MachineText_ok _ preB55)); exact rfl; exact rfl; exact rfl; refine dM ?_) | (apply c4 0; exact callM (θ := []) (hD := (check_ok _ _ preB55 preB55 preB55)); exact rfl; exact rfl; exact rfl; refine dM ?_) | (apply c4 0; exact callK1 (θ := []) (hD := (Decimal_ok _ preB55 preB55)); exact rfl; exact rfl; exact rfl; refine dM ?_) | ((first | refine o_gs rfl rfl (fun hc => ?_) (fun hc => ?_) | refine g_cond rfl (fun hc => ?_) (fun hc => ?_)) <;> (try simp only [dcB] at hc) <;> (try first | contradiction | (exfalso; omega)))
    rw [e5]
    repeat refine cr ?_
    refine ends_id ?_
    refine endK [] (h2 := ?_) (h3 := ?_) (nd := ?_)
    all_goals (repeat' first | exact ce0 | refine ce ?_ | refine ce2 ?_ ?_ | exact SVLe.refl | refine ceb ?_)
    all_goals first | exact (show nodupB _ = true from rfl) | exact Or.inr rfl | (rfl)
theorem l31Line_ok (v : Verd) (hm : vMach v.m = true) (hp : OkP v.p) : Does Tryz.prog 119 [.one (veB v)] [] (.one (str (linT v))) [] := by
  have h1 := macT_le hm
  have h2 := prfT_le hp
  have h3 := linH_le hm hp
  have h4 := crc_bd (linH v)
  have h5 := dec_le (n := crC (linH v) 65535) (by omega) (by omega)
  have e1 : ((macT v.m ++ [32]).length : Int) = (macT v.m).length + 1 := by simp
  have e2 : macT v.m ++ [32] ++ prfT v.p = linH v := by unfold linH; rfl
  have e3 : ((linH v ++ [32]).length : Int) = (linH v).length + 1 := by simp
  have e4 : ((linH v ++ [32] ++ decT (crC (linH v) 65535)).length : Int) = (linH v).length + 1 + (decT (crC (linH v) 65535)).length := by simp; omega
  have e5 : linH v ++ [32] ++ decT (crC (linH v) 65535) ++ [10] = linT v := by unfold linT; rfl
  by_cases hz : isZ v.p = true
  · have e : prfT v.p = [111, 112, 101, 110] := by unfold prfT; rw [if_pos hz]
    rw [e] at e2 h2
    have hz2 : ¬ isZ v.p = false := by simp [hz]
    refine does_of (k := 0) Tryz.func119 rfl Tryz.ntmps119 rfl rfl fun w F0 S0 ρ0 => ?_
    dsimp only [argT, argH]
    repeat' first | (apply p3; (first | exact a_fa_immT 3 (T := 88) (f := 1) (off := 3) rfl (by kernel_rfl) rfl | exact a_fa_immT 3 (T := 88) (f := 0) (off := 0) rfl (by kernel_rfl) rfl | exact pu1 | exact a_addS rfl rfl (by first | omega | (simp only [List.length_append, List.length_cons, List.length_nil]; omega))); exact rfl) | refine cdn ?_ | refine g_reg (id := 0) ?_ | refine g_reg (id := 1) ?_ | refine g_reg (id := 2) ?_ | refine g_reg (id := 3) ?_ | refine g_reg (id := 4) ?_ | (apply c4 0; exact callK1 (θ := []) (hD := (l31None_ok _)); exact rfl; exact rfl; exact rfl; refine dM ?_) | (apply c4 0; exact callK1 (θ := []) (hD := (l25Text_ok _ preB55)); exact rfl; exact rfl; exact rfl; refine dM ?_) | (apply c4 0; exact callK1 (θ := []) (hD := (l05Text_ok _ preB55)); exact rfl; exact rfl; exact rfl; refine dM ?_) | ((first | refine o_gs rfl rfl (fun hc => ?_) (fun hc => ?_) | refine g_cond rfl (fun hc => ?_) (fun hc => ?_)) <;> (try simp only [dcB] at hc) <;> (try first | contradiction | (exfalso; omega)))
    rw [e2]
    repeat' first | (apply p3; (first | exact a_fa_immT 3 (T := 88) (f := 1) (off := 3) rfl (by kernel_rfl) rfl | exact a_fa_immT 3 (T := 88) (f := 0) (off := 0) rfl (by kernel_rfl) rfl | exact pu1 | exact a_addS rfl rfl (by first | omega | (simp only [List.length_append, List.length_cons, List.length_nil]; omega))); exact rfl) | refine cd ?_ | (apply c4 0; exact callK1 (θ := []) (hD := (l31None_ok _)); exact rfl; exact rfl; exact rfl; refine dM ?_) | (apply c4 0; exact callK1 (θ := []) (hD := (l25Text_ok _ preB55)); exact rfl; exact rfl; exact rfl; refine dM ?_) | (apply c4 0; exact callK1 (θ := []) (hD := (l05Text_ok _ preB55)); exact rfl; exact rfl; exact rfl; refine dM ?_) | (apply c4 0; exact callK1 (θ := []) (hD := (l01Crc_ok _ _ preB55 preB55 preB55)); exact rfl; exact rfl; exact rfl; refine dM ?_) | (apply c4 0; exact callK1 (θ := []) (hD := (l01Dec_ok _ preB55 preB55)); exact rfl; exact rfl; exact rfl; refine dM ?_) | ((first | refine o_gs rfl rfl (fun hc => ?_) (fun hc => ?_) | refine g_cond rfl (fun hc => ?_) (fun hc => ?_)) <;> (try simp only [dcB] at hc) <;> (try first | contradiction | (exfalso; omega)))
    rw [e5]
    repeat refine cr ?_
    refine ends_id ?_
    refine endK [] (h2 := ?_) (h3 := ?_) (nd := ?_)
    all_goals (repeat' first | exact ce0 | refine ce ?_ | refine ce2 ?_ ?_ | exact SVLe.refl | refine ceb ?_)
    all_goals first | exact (show nodupB _ = true from rfl) | exact Or.inr rfl | (rfl)
  · have e : prfT v.p = proT v.p := by unfold prfT; rw [if_neg hz]
    have hv : validP v.p = true := by rcases hp.h with h | h; exact absurd h hz; exact h
    rw [e] at e2 h2
    refine does_of (k := 0) Tryz.func119 rfl Tryz.ntmps119 rfl rfl fun w F0 S0 ρ0 => ?_
    dsimp only [argT, argH]
    repeat' first | (apply p3; (first | exact a_fa_immT 3 (T := 88) (f := 1) (off := 3) rfl (by kernel_rfl) rfl | exact a_fa_immT 3 (T := 88) (f := 0) (off := 0) rfl (by kernel_rfl) rfl | exact pu1 | exact a_addS rfl rfl (by first | omega | (simp only [List.length_append, List.length_cons, List.length_nil]; omega))); exact rfl) | refine cdn ?_ | refine g_reg (id := 0) ?_ | refine g_reg (id := 1) ?_ | refine g_reg (id := 2) ?_ | refine g_reg (id := 3) ?_ | refine g_reg (id := 4) ?_ | (apply c4 0; exact callK1 (θ := []) (hD := (l31None_ok _)); exact rfl; exact rfl; exact rfl; refine dM ?_) | (apply c4 0; exact callK1 (θ := []) (hD := (l25Text_ok _ preB55)); exact rfl; exact rfl; exact rfl; refine dM ?_) | (apply c4 0; exact callK1 (θ := []) (hD := (l05Text_ok _ preB55)); exact rfl; exact rfl; exact rfl; refine dM ?_) | ((first | refine o_gs rfl rfl (fun hc => ?_) (fun hc => ?_) | refine g_cond rfl (fun hc => ?_) (fun hc => ?_)) <;> (try simp only [dcB] at hc) <;> (try first | contradiction | (exfalso; omega)))
    rw [e2]
    repeat' first | (apply p3; (first | exact a_fa_immT 3 (T := 88) (f := 1) (off := 3) rfl (by kernel_rfl) rfl | exact a_fa_immT 3 (T := 88) (f := 0) (off := 0) rfl (by kernel_rfl) rfl | exact pu1 | exact a_addS rfl rfl (by first | omega | (simp only [List.length_append, List.length_cons, List.length_nil]; omega))); exact rfl) | refine cd ?_ | (apply c4 0; exact callK1 (θ := []) (hD := (l31None_ok _)); exact rfl; exact rfl; exact rfl; refine dM ?_) | (apply c4 0; exact callK1 (θ := []) (hD := (l25Text_ok _ preB55)); exact rfl; exact rfl; exact rfl; refine dM ?_) | (apply c4 0; exact callK1 (θ := []) (hD := (l05Text_ok _ preB55)); exact rfl; exact rfl; exact rfl; refine dM ?_) | (apply c4 0; exact callK1 (θ := []) (hD := (l01Crc_ok _ _ preB55 preB55 preB55)); exact rfl; exact rfl; exact rfl; refine dM ?_) | (apply c4 0; exact callK1 (θ := []) (hD := (l01Dec_ok _ preB55 preB55)); exact rfl; exact rfl; exact rfl; refine dM ?_) | ((first | refine o_gs rfl rfl (fun hc => ?_) (fun hc => ?_) | refine g_cond rfl (fun hc => ?_) (fun hc => ?_)) <;> (try simp only [dcB] at hc) <;> (try first | contradiction | (exfalso; omega)))
    rw [e5]
    repeat refine cr ?_
    refine ends_id ?_
    refine endK [] (h2 := ?_) (h3 := ?_) (nd := ?_)
    all_goals (repeat' first | exact ce0 | refine ce ?_ | refine ce2 ?_ ?_ | exact SVLe.refl | refine ceb ?_)
    all_goals first | exact (show nodupB _ = true from rfl) | exact Or.inr rfl | (rfl)
/-- Verdicts that have a line. -/
@[irreducible] def okV (v : Verd) : Bool := vMach v.m && (isZ v.p || validP v.p) && decide (((linT v).length : Int) ≤ 6000)
structure VeGd (v : Verd) : Prop where
  a : (v.m.ru.length : Int) ≤ 16777216
  b : (v.p.nu.length : Int) ≤ 16777216
  c : (v.p.wo.length : Int) ≤ 16777216
  d : ∀ x ∈ v.p.wo, (x.length : Int) ≤ 16777216
@[irreducible] def verT (v : Verd) : Bs := if okV v = true then linT v else []
theorem okV_1 {v : Verd} (hm : vMach v.m = true) (hp : OkP v.p) : okV v = decide (((linT v).length : Int) ≤ 6000) := by
  unfold okV
  rw [hm]
  rcases hp.h with h | h <;> simp [h]
theorem VerdictText_ok (v : Verd) (g : VeGd v) : Does Tryz.prog 61 [.agg (veC v)] [] (.one (str (verT v))) [] := by
  obtain ⟨g1, g2, g3, g4⟩ := g
  by_cases hm : vMach v.m = true
  · have hm2 : ¬ vMach v.m = false := by simp [hm]
    by_cases hz : isZ v.p = true
    · have hz2 : ¬ isZ v.p = false := by simp [hz]
      have hp : OkP v.p := ⟨.inl hz⟩
      have h3 := linT_le hm hp
      have h2 := okV_1 hm hp
      by_cases hl : ((linT v).length : Int) ≤ 6000
      · have e : verT v = linT v := by unfold verT; rw [if_pos (by rw [h2]; simp [hl])]
        rw [e]
        refine does_of (k := 0) Tryz.func61 rfl Tryz.ntmps61 rfl rfl fun w F0 S0 ρ0 => ?_
        dsimp only [argT, argH]
        repeat' first | (apply n3; exact a_new (gb := .bx _) rfl; exact rfl; refine dA ?_) | (apply p3; (first | exact a_fa_immT 3 (T := 88) (f := 0) (off := 0) rfl (by kernel_rfl) rfl | exact a_fa_immT 3 (T := 88) (f := 1) (off := 3) rfl (by kernel_rfl) rfl | exact pu1 | exact puL | exact a_lenT rfl (fT rfl) | exact puC); exact rfl) | refine cd ?_ | (apply c4 0; exact callK1 (θ := []) (hD := (ValidMachine_ok _ preB55)); exact rfl; exact rfl; exact rfl; refine dM ?_) | (apply c4 0; exact callK1 (θ := []) (hD := (isZero_ok _)); exact rfl; exact rfl; exact rfl; refine dM ?_) | (apply c4 0; exact callK1 (θ := []) (hD := (ValidProof_ok _ preB55 preB55 preB55)); exact rfl; exact rfl; exact rfl; refine dM ?_) | (apply c4 0; exact callK1 (θ := []) (hD := (lineOfVerdict_ok _ preB55 preB55)); exact rfl; exact rfl; exact rfl; refine dM ?_) | refine o_no rfl rfl rfl rfl ?_ | refine o_noN rfl rfl rfl ?_ | (apply py3; exact rfl; exact rfl; (first | exact a_fa_immT 3 (T := 88) (f := 0) (off := 0) rfl (by kernel_rfl) rfl | exact a_fa_immT 3 (T := 88) (f := 1) (off := 3) rfl (by kernel_rfl) rfl | exact pu1 | exact puL | exact a_lenT rfl (fT rfl) | exact puC); exact rfl; exact rfl) | (apply ny3; exact rfl; exact rfl; exact a_new (gb := .bx _) rfl; exact rfl; exact rfl) | (apply cy4 0; exact rfl; exact rfl; exact callK1 (θ := []) (hD := (ValidMachine_ok _ preB55)); exact rfl; exact rfl; exact rfl; exact rfl; refine dM ?_) | (apply cy4 0; exact rfl; exact rfl; exact callK1 (θ := []) (hD := (isZero_ok _)); exact rfl; exact rfl; exact rfl; exact rfl; refine dM ?_) | (apply cy4 0; exact rfl; exact rfl; exact callK1 (θ := []) (hD := (ValidProof_ok _ preB55 preB55 preB55)); exact rfl; exact rfl; exact rfl; exact rfl; refine dM ?_) | (apply cy4 0; exact rfl; exact rfl; exact callK1 (θ := []) (hD := (lineOfVerdict_ok _ preB55 preB55)); exact rfl; exact rfl; exact rfl; exact rfl; refine dM ?_) | ((first | refine o_gs rfl rfl (fun hc => ?_) (fun hc => ?_) | refine g_cond rfl (fun hc => ?_) (fun hc => ?_)) <;> (try simp only [dcB] at hc) <;> (try first | contradiction | (exfalso; omega)))
        repeat refine cr ?_
        refine ends_id ?_
        refine endK [] (h2 := ?_) (h3 := ?_) (nd := ?_)
        all_goals (repeat' first | exact ce0 | refine ce ?_ | refine ce2 ?_ ?_ | exact SVLe.refl | refine ceb ?_)
        all_goals first | exact (show nodupB _ = true from rfl) | exact Or.inr rfl | (rfl)
      · have e : verT v = [] := by unfold verT; rw [if_neg (by rw [h2]; simp [hl])]
        rw [e]
        refine does_of (k := 0) Tryz.func61 rfl Tryz.ntmps61 rfl rfl fun w F0 S0 ρ0 => ?_
        dsimp only [argT, argH]
        repeat' first | (apply n3; exact a_new (gb := .bx _) rfl; exact rfl; refine dA ?_) | (apply p3; (first | exact a_fa_immT 3 (T := 88) (f := 0) (off := 0) rfl (by kernel_rfl) rfl | exact a_fa_immT 3 (T := 88) (f := 1) (off := 3) rfl (by kernel_rfl) rfl | exact pu1 | exact puL | exact a_lenT rfl (fT rfl) | exact puC); exact rfl) | refine cd ?_ | (apply c4 0; exact callK1 (θ := []) (hD := (ValidMachine_ok _ preB55)); exact rfl; exact rfl; exact rfl; refine dM ?_) | (apply c4 0; exact callK1 (θ := []) (hD := (isZero_ok _)); exact rfl; exact rfl; exact rfl; refine dM ?_) | (apply c4 0; exact callK1 (θ := []) (hD := (ValidProof_ok _ preB55 preB55 preB55)); exact rfl; exact rfl; exact rfl; refine dM ?_) | (apply c4 0; exact callK1 (θ := []) (hD := (lineOfVerdict_ok _ preB55 preB55)); exact rfl; exact rfl; exact rfl; refine dM ?_) | refine o_no rfl rfl rfl rfl ?_ | refine o_noN rfl rfl rfl ?_ | (apply py3; exact rfl; exact rfl; (first | exact a_fa_immT 3 (T := 88) (f := 0) (off := 0) rfl (by kernel_rfl) rfl | exact a_fa_immT 3 (T := 88) (f := 1) (off := 3) rfl (by kernel_rfl) rfl | exact pu1 | exact puL | exact a_lenT rfl (fT rfl) | exact puC); exact rfl; exact rfl) | (apply ny3; exact rfl; exact rfl; exact a_new (gb := .bx _) rfl; exact rfl; exact rfl) | (apply cy4 0; exact rfl; exact rfl; exact callK1 (θ := []) (hD := (ValidMachine_ok _ preB55)); exact rfl; exact rfl; exact rfl; exact rfl; refine dM ?_) | (apply cy4 0; exact rfl; exact rfl; exact callK1 (θ := []) (hD := (isZero_ok _)); exact rfl; exact rfl; exact rfl; exact rfl; refine dM ?_) | (apply cy4 0; exact rfl; exact rfl; exact callK1 (θ := []) (hD := (ValidProof_ok _ preB55 preB55 preB55)); exact rfl; exact rfl; exact rfl; exact rfl; refine dM ?_) | (apply cy4 0; exact rfl; exact rfl; exact callK1 (θ := []) (hD := (lineOfVerdict_ok _ preB55 preB55)); exact rfl; exact rfl; exact rfl; exact rfl; refine dM ?_) | ((first | refine o_gs rfl rfl (fun hc => ?_) (fun hc => ?_) | refine g_cond rfl (fun hc => ?_) (fun hc => ?_)) <;> (try simp only [dcB] at hc) <;> (try first | contradiction | (exfalso; omega)))
        repeat refine cr ?_
        refine ends_id ?_
        refine endK [] (h2 := ?_) (h3 := ?_) (nd := ?_)
        all_goals (repeat' first | exact ce0 | refine ce ?_ | refine ce2 ?_ ?_ | exact SVLe.refl | refine ceb ?_)
        all_goals first | exact (show nodupB _ = true from rfl) | exact Or.inr rfl | (rfl)
    · by_cases hv : validP v.p = true
      · have hv2 : ¬ validP v.p = false := by simp [hv]
        have hp : OkP v.p := ⟨.inr hv⟩
        have h3 := linT_le hm hp
        have h2 := okV_1 hm hp
        by_cases hl : ((linT v).length : Int) ≤ 6000
        · have e : verT v = linT v := by unfold verT; rw [if_pos (by rw [h2]; simp [hl])]
          rw [e]
          refine does_of (k := 0) Tryz.func61 rfl Tryz.ntmps61 rfl rfl fun w F0 S0 ρ0 => ?_
          dsimp only [argT, argH]
          repeat' first | (apply n3; exact a_new (gb := .bx _) rfl; exact rfl; refine dA ?_) | (apply p3; (first | exact a_fa_immT 3 (T := 88) (f := 0) (off := 0) rfl (by kernel_rfl) rfl | exact a_fa_immT 3 (T := 88) (f := 1) (off := 3) rfl (by kernel_rfl) rfl | exact pu1 | exact puL | exact a_lenT rfl (fT rfl) | exact puC); exact rfl) | refine cd ?_ | (apply c4 0; exact callK1 (θ := []) (hD := (ValidMachine_ok _ preB55)); exact rfl; exact rfl; exact rfl; refine dM ?_) | (apply c4 0; exact callK1 (θ := []) (hD := (isZero_ok _)); exact rfl; exact rfl; exact rfl; refine dM ?_) | (apply c4 0; exact callK1 (θ := []) (hD := (ValidProof_ok _ preB55 preB55 preB55)); exact rfl; exact rfl; exact rfl; refine dM ?_) | (apply c4 0; exact callK1 (θ := []) (hD := (lineOfVerdict_ok _ preB55 preB55)); exact rfl; exact rfl; exact rfl; refine dM ?_) | refine o_no rfl rfl rfl rfl ?_ | refine o_noN rfl rfl rfl ?_ | (apply py3; exact rfl; exact rfl; (first | exact a_fa_immT 3 (T := 88) (f := 0) (off := 0) rfl (by kernel_rfl) rfl | exact a_fa_immT 3 (T := 88) (f := 1) (off := 3) rfl (by kernel_rfl) rfl | exact pu1 | exact puL | exact a_lenT rfl (fT rfl) | exact puC); exact rfl; exact rfl) | (apply ny3; exact rfl; exact rfl; exact a_new (gb := .bx _) rfl; exact rfl; exact rfl) | (apply cy4 0; exact rfl; exact rfl; exact callK1 (θ := []) (hD := (ValidMachine_ok _ preB55)); exact rfl; exact rfl; exact rfl; exact rfl; refine dM ?_) | (apply cy4 0; exact rfl; exact rfl; exact callK1 (θ := []) (hD := (isZero_ok _)); exact rfl; exact rfl; exact rfl; exact rfl; refine dM ?_) | (apply cy4 0; exact rfl; exact rfl; exact callK1 (θ := []) (hD := (ValidProof_ok _ preB55 preB55 preB55)); exact rfl; exact rfl; exact rfl; exact rfl; refine dM ?_) | (apply cy4 0; exact rfl; exact rfl; exact callK1 (θ := []) (hD := (lineOfVerdict_ok _ preB55 preB55)); exact rfl; exact rfl; exact rfl; exact rfl; refine dM ?_) | ((first | refine o_gs rfl rfl (fun hc => ?_) (fun hc => ?_) | refine g_cond rfl (fun hc => ?_) (fun hc => ?_)) <;> (try simp only [dcB] at hc) <;> (try first | contradiction | (exfalso; omega)))
          repeat refine cr ?_
          refine ends_id ?_
          refine endK [] (h2 := ?_) (h3 := ?_) (nd := ?_)
          all_goals (repeat' first | exact ce0 | refine ce ?_ | refine ce2 ?_ ?_ | exact SVLe.refl | refine ceb ?_)
          all_goals first | exact (show nodupB _ = true from rfl) | exact Or.inr rfl | (rfl)
        · have e : verT v = [] := by unfold verT; rw [if_neg (by rw [h2]; simp [hl])]
          rw [e]
          refine does_of (k := 0) Tryz.func61 rfl Tryz.ntmps61 rfl rfl fun w F0 S0 ρ0 => ?_
          dsimp only [argT, argH]
          repeat' first | (apply n3; exact a_new (gb := .bx _) rfl; exact rfl; refine dA ?_) | (apply p3; (first | exact a_fa_immT 3 (T := 88) (f := 0) (off := 0) rfl (by kernel_rfl) rfl | exact a_fa_immT 3 (T := 88) (f := 1) (off := 3) rfl (by kernel_rfl) rfl | exact pu1 | exact puL | exact a_lenT rfl (fT rfl) | exact puC); exact rfl) | refine cd ?_ | (apply c4 0; exact callK1 (θ := []) (hD := (ValidMachine_ok _ preB55)); exact rfl; exact rfl; exact rfl; refine dM ?_) | (apply c4 0; exact callK1 (θ := []) (hD := (isZero_ok _)); exact rfl; exact rfl; exact rfl; refine dM ?_) | (apply c4 0; exact callK1 (θ := []) (hD := (ValidProof_ok _ preB55 preB55 preB55)); exact rfl; exact rfl; exact rfl; refine dM ?_) | (apply c4 0; exact callK1 (θ := []) (hD := (lineOfVerdict_ok _ preB55 preB55)); exact rfl; exact rfl; exact rfl; refine dM ?_) | refine o_no rfl rfl rfl rfl ?_ | refine o_noN rfl rfl rfl ?_ | (apply py3; exact rfl; exact rfl; (first | exact a_fa_immT 3 (T := 88) (f := 0) (off := 0) rfl (by kernel_rfl) rfl | exact a_fa_immT 3 (T := 88) (f := 1) (off := 3) rfl (by kernel_rfl) rfl | exact pu1 | exact puL | exact a_lenT rfl (fT rfl) | exact puC); exact rfl; exact rfl) | (apply ny3; exact rfl; exact rfl; exact a_new (gb := .bx _) rfl; exact rfl; exact rfl) | (apply cy4 0; exact rfl; exact rfl; exact callK1 (θ := []) (hD := (ValidMachine_ok _ preB55)); exact rfl; exact rfl; exact rfl; exact rfl; refine dM ?_) | (apply cy4 0; exact rfl; exact rfl; exact callK1 (θ := []) (hD := (isZero_ok _)); exact rfl; exact rfl; exact rfl; exact rfl; refine dM ?_) | (apply cy4 0; exact rfl; exact rfl; exact callK1 (θ := []) (hD := (ValidProof_ok _ preB55 preB55 preB55)); exact rfl; exact rfl; exact rfl; exact rfl; refine dM ?_) | (apply cy4 0; exact rfl; exact rfl; exact callK1 (θ := []) (hD := (lineOfVerdict_ok _ preB55 preB55)); exact rfl; exact rfl; exact rfl; exact rfl; refine dM ?_) | ((first | refine o_gs rfl rfl (fun hc => ?_) (fun hc => ?_) | refine g_cond rfl (fun hc => ?_) (fun hc => ?_)) <;> (try simp only [dcB] at hc) <;> (try first | contradiction | (exfalso; omega)))
          repeat refine cr ?_
          refine ends_id ?_
          refine endK [] (h2 := ?_) (h3 := ?_) (nd := ?_)
          all_goals (repeat' first | exact ce0 | refine ce ?_ | refine ce2 ?_ ?_ | exact SVLe.refl | refine ceb ?_)
          all_goals first | exact (show nodupB _ = true from rfl) | exact Or.inr rfl | (rfl)
      · have h2 : okV v = false := by unfold okV; simp [hz, hv]
        have e : verT v = [] := by unfold verT; rw [if_neg (by rw [h2]; simp)]
        rw [e]
        refine does_of (k := 0) Tryz.func61 rfl Tryz.ntmps61 rfl rfl fun w F0 S0 ρ0 => ?_
        dsimp only [argT, argH]
        repeat' first | (apply n3; exact a_new (gb := .bx _) rfl; exact rfl; refine dA ?_) | (apply p3; (first | exact a_fa_immT 3 (T := 88) (f := 0) (off := 0) rfl (by kernel_rfl) rfl | exact a_fa_immT 3 (T := 88) (f := 1) (off := 3) rfl (by kernel_rfl) rfl | exact pu1 | exact puL | exact a_lenT rfl (fT rfl) | exact puC); exact rfl) | refine cd ?_ | (apply c4 0; exact callK1 (θ := []) (hD := (ValidMachine_ok _ preB55)); exact rfl; exact rfl; exact rfl; refine dM ?_) | (apply c4 0; exact callK1 (θ := []) (hD := (isZero_ok _)); exact rfl; exact rfl; exact rfl; refine dM ?_) | (apply c4 0; exact callK1 (θ := []) (hD := (ValidProof_ok _ preB55 preB55 preB55)); exact rfl; exact rfl; exact rfl; refine dM ?_) | (apply c4 0; exact callK1 (θ := []) (hD := (lineOfVerdict_ok _ preB55 preB55)); exact rfl; exact rfl; exact rfl; refine dM ?_) | refine o_no rfl rfl rfl rfl ?_ | refine o_noN rfl rfl rfl ?_ | (apply py3; exact rfl; exact rfl; (first | exact a_fa_immT 3 (T := 88) (f := 0) (off := 0) rfl (by kernel_rfl) rfl | exact a_fa_immT 3 (T := 88) (f := 1) (off := 3) rfl (by kernel_rfl) rfl | exact pu1 | exact puL | exact a_lenT rfl (fT rfl) | exact puC); exact rfl; exact rfl) | (apply ny3; exact rfl; exact rfl; exact a_new (gb := .bx _) rfl; exact rfl; exact rfl) | (apply cy4 0; exact rfl; exact rfl; exact callK1 (θ := []) (hD := (ValidMachine_ok _ preB55)); exact rfl; exact rfl; exact rfl; exact rfl; refine dM ?_) | (apply cy4 0; exact rfl; exact rfl; exact callK1 (θ := []) (hD := (isZero_ok _)); exact rfl; exact rfl; exact rfl; exact rfl; refine dM ?_) | (apply cy4 0; exact rfl; exact rfl; exact callK1 (θ := []) (hD := (ValidProof_ok _ preB55 preB55 preB55)); exact rfl; exact rfl; exact rfl; exact rfl; refine dM ?_) | (apply cy4 0; exact rfl; exact rfl; exact callK1 (θ := []) (hD := (lineOfVerdict_ok _ preB55 preB55)); exact rfl; exact rfl; exact rfl; exact rfl; refine dM ?_) | ((first | refine o_gs rfl rfl (fun hc => ?_) (fun hc => ?_) | refine g_cond rfl (fun hc => ?_) (fun hc => ?_)) <;> (try simp only [dcB] at hc) <;> (try first | contradiction | (exfalso; omega)))
        repeat refine cr ?_
        refine ends_id ?_
        refine endK [] (h2 := ?_) (h3 := ?_) (nd := ?_)
        all_goals (repeat' first | exact ce0 | refine ce ?_ | refine ce2 ?_ ?_ | exact SVLe.refl | refine ceb ?_)
        all_goals first | exact (show nodupB _ = true from rfl) | exact Or.inr rfl | (rfl)
  · have h2 : okV v = false := by unfold okV; simp [hm]
    have e : verT v = [] := by unfold verT; rw [if_neg (by rw [h2]; simp)]
    rw [e]
    refine does_of (k := 0) Tryz.func61 rfl Tryz.ntmps61 rfl rfl fun w F0 S0 ρ0 => ?_
    dsimp only [argT, argH]
    repeat' first | (apply n3; exact a_new (gb := .bx _) rfl; exact rfl; refine dA ?_) | (apply p3; (first | exact a_fa_immT 3 (T := 88) (f := 0) (off := 0) rfl (by kernel_rfl) rfl | exact a_fa_immT 3 (T := 88) (f := 1) (off := 3) rfl (by kernel_rfl) rfl | exact pu1 | exact puL | exact a_lenT rfl (fT rfl) | exact puC); exact rfl) | refine cd ?_ | (apply c4 0; exact callK1 (θ := []) (hD := (ValidMachine_ok _ preB55)); exact rfl; exact rfl; exact rfl; refine dM ?_) | (apply c4 0; exact callK1 (θ := []) (hD := (isZero_ok _)); exact rfl; exact rfl; exact rfl; refine dM ?_) | (apply c4 0; exact callK1 (θ := []) (hD := (ValidProof_ok _ preB55 preB55 preB55)); exact rfl; exact rfl; exact rfl; refine dM ?_) | (apply c4 0; exact callK1 (θ := []) (hD := (lineOfVerdict_ok _ preB55 preB55)); exact rfl; exact rfl; exact rfl; refine dM ?_) | refine o_no rfl rfl rfl rfl ?_ | refine o_noN rfl rfl rfl ?_ | (apply py3; exact rfl; exact rfl; (first | exact a_fa_immT 3 (T := 88) (f := 0) (off := 0) rfl (by kernel_rfl) rfl | exact a_fa_immT 3 (T := 88) (f := 1) (off := 3) rfl (by kernel_rfl) rfl | exact pu1 | exact puL | exact a_lenT rfl (fT rfl) | exact puC); exact rfl; exact rfl) | (apply ny3; exact rfl; exact rfl; exact a_new (gb := .bx _) rfl; exact rfl; exact rfl) | (apply cy4 0; exact rfl; exact rfl; exact callK1 (θ := []) (hD := (ValidMachine_ok _ preB55)); exact rfl; exact rfl; exact rfl; exact rfl; refine dM ?_) | (apply cy4 0; exact rfl; exact rfl; exact callK1 (θ := []) (hD := (isZero_ok _)); exact rfl; exact rfl; exact rfl; exact rfl; refine dM ?_) | (apply cy4 0; exact rfl; exact rfl; exact callK1 (θ := []) (hD := (ValidProof_ok _ preB55 preB55 preB55)); exact rfl; exact rfl; exact rfl; exact rfl; refine dM ?_) | (apply cy4 0; exact rfl; exact rfl; exact callK1 (θ := []) (hD := (lineOfVerdict_ok _ preB55 preB55)); exact rfl; exact rfl; exact rfl; exact rfl; refine dM ?_) | ((first | refine o_gs rfl rfl (fun hc => ?_) (fun hc => ?_) | refine g_cond rfl (fun hc => ?_) (fun hc => ?_)) <;> (try simp only [dcB] at hc) <;> (try first | contradiction | (exfalso; omega)))
    repeat refine cr ?_
    refine ends_id ?_
    refine endK [] (h2 := ?_) (h3 := ?_) (nd := ?_)
    all_goals (repeat' first | exact ce0 | refine ce ?_ | refine ce2 ?_ ?_ | exact SVLe.refl | refine ceb ?_)
    all_goals first | exact (show nodupB _ = true from rfl) | exact Or.inr rfl | (rfl)
theorem l31Is_ok (v : Verd) (g : VeGd v) : Does Tryz.prog 115 [.one (veB v)] [] (.one (boo (okV v))) [] := by
  obtain ⟨g1, g2, g3, g4⟩ := g
  by_cases hm : vMach v.m = true
  · have hm2 : ¬ vMach v.m = false := by simp [hm]
    by_cases hz : isZ v.p = true
    · have hz2 : ¬ isZ v.p = false := by simp [hz]
      have hp : OkP v.p := ⟨.inl hz⟩
      have h3 := linT_le hm hp
      have h2 := okV_1 hm hp
      by_cases hl : ((linT v).length : Int) ≤ 6000
      · have e : okV v = true := by rw [h2]; simp [hl]
        rw [e]
        refine does_of (k := 0) Tryz.func115 rfl Tryz.ntmps115 rfl rfl fun w F0 S0 ρ0 => ?_
        dsimp only [argT, argH]
        repeat' first | (apply p3; (first | exact a_fa_immT 3 (T := 88) (f := 0) (off := 0) rfl (by kernel_rfl) rfl | exact a_fa_immT 3 (T := 88) (f := 1) (off := 3) rfl (by kernel_rfl) rfl | exact pu1 | exact a_lenT rfl (fT rfl) | exact puC); exact rfl) | refine cd ?_ | (apply c4 0; exact callK1 (θ := []) (hD := (l05Is_ok _ preB55)); exact rfl; exact rfl; exact rfl; refine dM ?_) | (apply c4 0; exact callK1 (θ := []) (hD := (l31None_ok _)); exact rfl; exact rfl; exact rfl; refine dM ?_) | (apply c4 0; exact callK1 (θ := []) (hD := (l25Is_ok _ preB55 preB55 preB55)); exact rfl; exact rfl; exact rfl; refine dM ?_) | (apply c4 0; exact callK1 (θ := []) (hD := (l31Line_ok _ preB55 preB55)); exact rfl; exact rfl; exact rfl; refine dM ?_) | refine o_no rfl rfl rfl rfl ?_ | refine o_noN rfl rfl rfl ?_ | (apply py3; exact rfl; exact rfl; (first | exact a_fa_immT 3 (T := 88) (f := 0) (off := 0) rfl (by kernel_rfl) rfl | exact a_fa_immT 3 (T := 88) (f := 1) (off := 3) rfl (by kernel_rfl) rfl | exact pu1 | exact a_lenT rfl (fT rfl) | exact puC); exact rfl; exact rfl) | (apply cy4 0; exact rfl; exact rfl; exact callK1 (θ := []) (hD := (l05Is_ok _ preB55)); exact rfl; exact rfl; exact rfl; exact rfl; refine dM ?_) | (apply cy4 0; exact rfl; exact rfl; exact callK1 (θ := []) (hD := (l31None_ok _)); exact rfl; exact rfl; exact rfl; exact rfl; refine dM ?_) | (apply cy4 0; exact rfl; exact rfl; exact callK1 (θ := []) (hD := (l25Is_ok _ preB55 preB55 preB55)); exact rfl; exact rfl; exact rfl; exact rfl; refine dM ?_) | (apply cy4 0; exact rfl; exact rfl; exact callK1 (θ := []) (hD := (l31Line_ok _ preB55 preB55)); exact rfl; exact rfl; exact rfl; exact rfl; refine dM ?_) | ((first | refine o_gs rfl rfl (fun hc => ?_) (fun hc => ?_) | refine g_cond rfl (fun hc => ?_) (fun hc => ?_)) <;> (try simp only [dcB] at hc) <;> (try first | contradiction | (exfalso; omega)))
        repeat refine cr ?_
        refine ends_id ?_
        refine endK [] (h2 := ?_) (h3 := ?_) (nd := ?_)
        all_goals (repeat' first | exact ce0 | refine ce ?_ | refine ce2 ?_ ?_ | exact SVLe.refl | refine ceb ?_)
        all_goals first | exact (show nodupB _ = true from rfl) | exact Or.inr rfl | ((first | rfl | simp_all))
      · have e : okV v = false := by rw [h2]; simp [hl]
        rw [e]
        refine does_of (k := 0) Tryz.func115 rfl Tryz.ntmps115 rfl rfl fun w F0 S0 ρ0 => ?_
        dsimp only [argT, argH]
        repeat' first | (apply p3; (first | exact a_fa_immT 3 (T := 88) (f := 0) (off := 0) rfl (by kernel_rfl) rfl | exact a_fa_immT 3 (T := 88) (f := 1) (off := 3) rfl (by kernel_rfl) rfl | exact pu1 | exact a_lenT rfl (fT rfl) | exact puC); exact rfl) | refine cd ?_ | (apply c4 0; exact callK1 (θ := []) (hD := (l05Is_ok _ preB55)); exact rfl; exact rfl; exact rfl; refine dM ?_) | (apply c4 0; exact callK1 (θ := []) (hD := (l31None_ok _)); exact rfl; exact rfl; exact rfl; refine dM ?_) | (apply c4 0; exact callK1 (θ := []) (hD := (l25Is_ok _ preB55 preB55 preB55)); exact rfl; exact rfl; exact rfl; refine dM ?_) | (apply c4 0; exact callK1 (θ := []) (hD := (l31Line_ok _ preB55 preB55)); exact rfl; exact rfl; exact rfl; refine dM ?_) | refine o_no rfl rfl rfl rfl ?_ | refine o_noN rfl rfl rfl ?_ | (apply py3; exact rfl; exact rfl; (first | exact a_fa_immT 3 (T := 88) (f := 0) (off := 0) rfl (by kernel_rfl) rfl | exact a_fa_immT 3 (T := 88) (f := 1) (off := 3) rfl (by kernel_rfl) rfl | exact pu1 | exact a_lenT rfl (fT rfl) | exact puC); exact rfl; exact rfl) | (apply cy4 0; exact rfl; exact rfl; exact callK1 (θ := []) (hD := (l05Is_ok _ preB55)); exact rfl; exact rfl; exact rfl; exact rfl; refine dM ?_) | (apply cy4 0; exact rfl; exact rfl; exact callK1 (θ := []) (hD := (l31None_ok _)); exact rfl; exact rfl; exact rfl; exact rfl; refine dM ?_) | (apply cy4 0; exact rfl; exact rfl; exact callK1 (θ := []) (hD := (l25Is_ok _ preB55 preB55 preB55)); exact rfl; exact rfl; exact rfl; exact rfl; refine dM ?_) | (apply cy4 0; exact rfl; exact rfl; exact callK1 (θ := []) (hD := (l31Line_ok _ preB55 preB55)); exact rfl; exact rfl; exact rfl; exact rfl; refine dM ?_) | ((first | refine o_gs rfl rfl (fun hc => ?_) (fun hc => ?_) | refine g_cond rfl (fun hc => ?_) (fun hc => ?_)) <;> (try simp only [dcB] at hc) <;> (try first | contradiction | (exfalso; omega)))
        repeat refine cr ?_
        refine ends_id ?_
        refine endK [] (h2 := ?_) (h3 := ?_) (nd := ?_)
        all_goals (repeat' first | exact ce0 | refine ce ?_ | refine ce2 ?_ ?_ | exact SVLe.refl | refine ceb ?_)
        all_goals first | exact (show nodupB _ = true from rfl) | exact Or.inr rfl | ((first | rfl | simp_all))
    · by_cases hv : validP v.p = true
      · have hv2 : ¬ validP v.p = false := by simp [hv]
        have hp : OkP v.p := ⟨.inr hv⟩
        have h3 := linT_le hm hp
        have h2 := okV_1 hm hp
        by_cases hl : ((linT v).length : Int) ≤ 6000
        · have e : okV v = true := by rw [h2]; simp [hl]
          rw [e]
          refine does_of (k := 0) Tryz.func115 rfl Tryz.ntmps115 rfl rfl fun w F0 S0 ρ0 => ?_
          dsimp only [argT, argH]
          repeat' first | (apply p3; (first | exact a_fa_immT 3 (T := 88) (f := 0) (off := 0) rfl (by kernel_rfl) rfl | exact a_fa_immT 3 (T := 88) (f := 1) (off := 3) rfl (by kernel_rfl) rfl | exact pu1 | exact a_lenT rfl (fT rfl) | exact puC); exact rfl) | refine cd ?_ | (apply c4 0; exact callK1 (θ := []) (hD := (l05Is_ok _ preB55)); exact rfl; exact rfl; exact rfl; refine dM ?_) | (apply c4 0; exact callK1 (θ := []) (hD := (l31None_ok _)); exact rfl; exact rfl; exact rfl; refine dM ?_) | (apply c4 0; exact callK1 (θ := []) (hD := (l25Is_ok _ preB55 preB55 preB55)); exact rfl; exact rfl; exact rfl; refine dM ?_) | (apply c4 0; exact callK1 (θ := []) (hD := (l31Line_ok _ preB55 preB55)); exact rfl; exact rfl; exact rfl; refine dM ?_) | refine o_no rfl rfl rfl rfl ?_ | refine o_noN rfl rfl rfl ?_ | (apply py3; exact rfl; exact rfl; (first | exact a_fa_immT 3 (T := 88) (f := 0) (off := 0) rfl (by kernel_rfl) rfl | exact a_fa_immT 3 (T := 88) (f := 1) (off := 3) rfl (by kernel_rfl) rfl | exact pu1 | exact a_lenT rfl (fT rfl) | exact puC); exact rfl; exact rfl) | (apply cy4 0; exact rfl; exact rfl; exact callK1 (θ := []) (hD := (l05Is_ok _ preB55)); exact rfl; exact rfl; exact rfl; exact rfl; refine dM ?_) | (apply cy4 0; exact rfl; exact rfl; exact callK1 (θ := []) (hD := (l31None_ok _)); exact rfl; exact rfl; exact rfl; exact rfl; refine dM ?_) | (apply cy4 0; exact rfl; exact rfl; exact callK1 (θ := []) (hD := (l25Is_ok _ preB55 preB55 preB55)); exact rfl; exact rfl; exact rfl; exact rfl; refine dM ?_) | (apply cy4 0; exact rfl; exact rfl; exact callK1 (θ := []) (hD := (l31Line_ok _ preB55 preB55)); exact rfl; exact rfl; exact rfl; exact rfl; refine dM ?_) | ((first | refine o_gs rfl rfl (fun hc => ?_) (fun hc => ?_) | refine g_cond rfl (fun hc => ?_) (fun hc => ?_)) <;> (try simp only [dcB] at hc) <;> (try first | contradiction | (exfalso; omega)))
          repeat refine cr ?_
          refine ends_id ?_
          refine endK [] (h2 := ?_) (h3 := ?_) (nd := ?_)
          all_goals (repeat' first | exact ce0 | refine ce ?_ | refine ce2 ?_ ?_ | exact SVLe.refl | refine ceb ?_)
          all_goals first | exact (show nodupB _ = true from rfl) | exact Or.inr rfl | ((first | rfl | simp_all))
        · have e : okV v = false := by rw [h2]; simp [hl]
          rw [e]
          refine does_of (k := 0) Tryz.func115 rfl Tryz.ntmps115 rfl rfl fun w F0 S0 ρ0 => ?_
          dsimp only [argT, argH]
          repeat' first | (apply p3; (first | exact a_fa_immT 3 (T := 88) (f := 0) (off := 0) rfl (by kernel_rfl) rfl | exact a_fa_immT 3 (T := 88) (f := 1) (off := 3) rfl (by kernel_rfl) rfl | exact pu1 | exact a_lenT rfl (fT rfl) | exact puC); exact rfl) | refine cd ?_ | (apply c4 0; exact callK1 (θ := []) (hD := (l05Is_ok _ preB55)); exact rfl; exact rfl; exact rfl; refine dM ?_) | (apply c4 0; exact callK1 (θ := []) (hD := (l31None_ok _)); exact rfl; exact rfl; exact rfl; refine dM ?_) | (apply c4 0; exact callK1 (θ := []) (hD := (l25Is_ok _ preB55 preB55 preB55)); exact rfl; exact rfl; exact rfl; refine dM ?_) | (apply c4 0; exact callK1 (θ := []) (hD := (l31Line_ok _ preB55 preB55)); exact rfl; exact rfl; exact rfl; refine dM ?_) | refine o_no rfl rfl rfl rfl ?_ | refine o_noN rfl rfl rfl ?_ | (apply py3; exact rfl; exact rfl; (first | exact a_fa_immT 3 (T := 88) (f := 0) (off := 0) rfl (by kernel_rfl) rfl | exact a_fa_immT 3 (T := 88) (f := 1) (off := 3) rfl (by kernel_rfl) rfl | exact pu1 | exact a_lenT rfl (fT rfl) | exact puC); exact rfl; exact rfl) | (apply cy4 0; exact rfl; exact rfl; exact callK1 (θ := []) (hD := (l05Is_ok _ preB55)); exact rfl; exact rfl; exact rfl; exact rfl; refine dM ?_) | (apply cy4 0; exact rfl; exact rfl; exact callK1 (θ := []) (hD := (l31None_ok _)); exact rfl; exact rfl; exact rfl; exact rfl; refine dM ?_) | (apply cy4 0; exact rfl; exact rfl; exact callK1 (θ := []) (hD := (l25Is_ok _ preB55 preB55 preB55)); exact rfl; exact rfl; exact rfl; exact rfl; refine dM ?_) | (apply cy4 0; exact rfl; exact rfl; exact callK1 (θ := []) (hD := (l31Line_ok _ preB55 preB55)); exact rfl; exact rfl; exact rfl; exact rfl; refine dM ?_) | ((first | refine o_gs rfl rfl (fun hc => ?_) (fun hc => ?_) | refine g_cond rfl (fun hc => ?_) (fun hc => ?_)) <;> (try simp only [dcB] at hc) <;> (try first | contradiction | (exfalso; omega)))
          repeat refine cr ?_
          refine ends_id ?_
          refine endK [] (h2 := ?_) (h3 := ?_) (nd := ?_)
          all_goals (repeat' first | exact ce0 | refine ce ?_ | refine ce2 ?_ ?_ | exact SVLe.refl | refine ceb ?_)
          all_goals first | exact (show nodupB _ = true from rfl) | exact Or.inr rfl | ((first | rfl | simp_all))
      · have h2 : okV v = false := by unfold okV; simp [hz, hv]
        rw [h2]
        refine does_of (k := 0) Tryz.func115 rfl Tryz.ntmps115 rfl rfl fun w F0 S0 ρ0 => ?_
        dsimp only [argT, argH]
        repeat' first | (apply p3; (first | exact a_fa_immT 3 (T := 88) (f := 0) (off := 0) rfl (by kernel_rfl) rfl | exact a_fa_immT 3 (T := 88) (f := 1) (off := 3) rfl (by kernel_rfl) rfl | exact pu1 | exact a_lenT rfl (fT rfl) | exact puC); exact rfl) | refine cd ?_ | (apply c4 0; exact callK1 (θ := []) (hD := (l05Is_ok _ preB55)); exact rfl; exact rfl; exact rfl; refine dM ?_) | (apply c4 0; exact callK1 (θ := []) (hD := (l31None_ok _)); exact rfl; exact rfl; exact rfl; refine dM ?_) | (apply c4 0; exact callK1 (θ := []) (hD := (l25Is_ok _ preB55 preB55 preB55)); exact rfl; exact rfl; exact rfl; refine dM ?_) | (apply c4 0; exact callK1 (θ := []) (hD := (l31Line_ok _ preB55 preB55)); exact rfl; exact rfl; exact rfl; refine dM ?_) | refine o_no rfl rfl rfl rfl ?_ | refine o_noN rfl rfl rfl ?_ | (apply py3; exact rfl; exact rfl; (first | exact a_fa_immT 3 (T := 88) (f := 0) (off := 0) rfl (by kernel_rfl) rfl | exact a_fa_immT 3 (T := 88) (f := 1) (off := 3) rfl (by kernel_rfl) rfl | exact pu1 | exact a_lenT rfl (fT rfl) | exact puC); exact rfl; exact rfl) | (apply cy4 0; exact rfl; exact rfl; exact callK1 (θ := []) (hD := (l05Is_ok _ preB55)); exact rfl; exact rfl; exact rfl; exact rfl; refine dM ?_) | (apply cy4 0; exact rfl; exact rfl; exact callK1 (θ := []) (hD := (l31None_ok _)); exact rfl; exact rfl; exact rfl; exact rfl; refine dM ?_) | (apply cy4 0; exact rfl; exact rfl; exact callK1 (θ := []) (hD := (l25Is_ok _ preB55 preB55 preB55)); exact rfl; exact rfl; exact rfl; exact rfl; refine dM ?_) | (apply cy4 0; exact rfl; exact rfl; exact callK1 (θ := []) (hD := (l31Line_ok _ preB55 preB55)); exact rfl; exact rfl; exact rfl; exact rfl; refine dM ?_) | ((first | refine o_gs rfl rfl (fun hc => ?_) (fun hc => ?_) | refine g_cond rfl (fun hc => ?_) (fun hc => ?_)) <;> (try simp only [dcB] at hc) <;> (try first | contradiction | (exfalso; omega)))
        repeat refine cr ?_
        refine ends_id ?_
        refine endK [] (h2 := ?_) (h3 := ?_) (nd := ?_)
        all_goals (repeat' first | exact ce0 | refine ce ?_ | refine ce2 ?_ ?_ | exact SVLe.refl | refine ceb ?_)
        all_goals first | exact (show nodupB _ = true from rfl) | exact Or.inr rfl | ((first | rfl | simp_all))
  · have h2 : okV v = false := by unfold okV; simp [hm]
    rw [h2]
    refine does_of (k := 0) Tryz.func115 rfl Tryz.ntmps115 rfl rfl fun w F0 S0 ρ0 => ?_
    dsimp only [argT, argH]
    repeat' first | (apply p3; (first | exact a_fa_immT 3 (T := 88) (f := 0) (off := 0) rfl (by kernel_rfl) rfl | exact a_fa_immT 3 (T := 88) (f := 1) (off := 3) rfl (by kernel_rfl) rfl | exact pu1 | exact a_lenT rfl (fT rfl) | exact puC); exact rfl) | refine cd ?_ | (apply c4 0; exact callK1 (θ := []) (hD := (l05Is_ok _ preB55)); exact rfl; exact rfl; exact rfl; refine dM ?_) | (apply c4 0; exact callK1 (θ := []) (hD := (l31None_ok _)); exact rfl; exact rfl; exact rfl; refine dM ?_) | (apply c4 0; exact callK1 (θ := []) (hD := (l25Is_ok _ preB55 preB55 preB55)); exact rfl; exact rfl; exact rfl; refine dM ?_) | (apply c4 0; exact callK1 (θ := []) (hD := (l31Line_ok _ preB55 preB55)); exact rfl; exact rfl; exact rfl; refine dM ?_) | refine o_no rfl rfl rfl rfl ?_ | refine o_noN rfl rfl rfl ?_ | (apply py3; exact rfl; exact rfl; (first | exact a_fa_immT 3 (T := 88) (f := 0) (off := 0) rfl (by kernel_rfl) rfl | exact a_fa_immT 3 (T := 88) (f := 1) (off := 3) rfl (by kernel_rfl) rfl | exact pu1 | exact a_lenT rfl (fT rfl) | exact puC); exact rfl; exact rfl) | (apply cy4 0; exact rfl; exact rfl; exact callK1 (θ := []) (hD := (l05Is_ok _ preB55)); exact rfl; exact rfl; exact rfl; exact rfl; refine dM ?_) | (apply cy4 0; exact rfl; exact rfl; exact callK1 (θ := []) (hD := (l31None_ok _)); exact rfl; exact rfl; exact rfl; exact rfl; refine dM ?_) | (apply cy4 0; exact rfl; exact rfl; exact callK1 (θ := []) (hD := (l25Is_ok _ preB55 preB55 preB55)); exact rfl; exact rfl; exact rfl; exact rfl; refine dM ?_) | (apply cy4 0; exact rfl; exact rfl; exact callK1 (θ := []) (hD := (l31Line_ok _ preB55 preB55)); exact rfl; exact rfl; exact rfl; exact rfl; refine dM ?_) | ((first | refine o_gs rfl rfl (fun hc => ?_) (fun hc => ?_) | refine g_cond rfl (fun hc => ?_) (fun hc => ?_)) <;> (try simp only [dcB] at hc) <;> (try first | contradiction | (exfalso; omega)))
    repeat refine cr ?_
    refine ends_id ?_
    refine endK [] (h2 := ?_) (h3 := ?_) (nd := ?_)
    all_goals (repeat' first | exact ce0 | refine ce ?_ | refine ce2 ?_ ?_ | exact SVLe.refl | refine ceb ?_)
    all_goals first | exact (show nodupB _ = true from rfl) | exact Or.inr rfl | ((first | rfl | simp_all))
end Go.Proofs.YtbekdojhcokalaaGreatDoor
end
section
set_option linter.unusedVariables false
set_option linter.unusedSimpArgs false
set_option maxRecDepth 100000
set_option maxHeartbeats 4000000
namespace Go.Proofs.YtbekdojhcokalaaGreatDoor
open Go Foot
theorem preB56 {p : Prop} (h : p := by first | with_reducible assumption | omega | (simp only [List.length_append, List.length_cons, List.length_nil, List.length_set, List.length_replicate, List.length_take, List.length_drop, List.length_tail, List.length_dropLast, List.length_reverse] at *; omega) | exact mem_len (by assumption) (by omega) | (with_reducible refine Int.le_trans (Int.ofNat_le.2 (trimR_len _)) ?_; simp only [List.length_cons, List.length_tail]; omega) | (exact (ruAt_ok (by assumption) (by assumption) (by assumption)).2.1) | (exact (ruAt_ok (by assumption) (by assumption) (by assumption)).2.1) | (have := vMach_bd (by assumption); omega) | (simp only [mC_ch, mC_tu]; omega) | (have := vTag_bd (by assumption); omega) | (have := (‹Gd _ _›).le; omega) | (exact tgHalts_no (by assumption)) | (exact tgHead (by assumption) (by assumption) (by assumption)) | (exact Int.le_trans (tgStep_gd (by assumption) (by assumption) (by assumption) (by assumption)).le (by decide)) | (exact vTag_r (by assumption)) | (with_reducible refine Int.le_trans (Int.ofNat_le.2 (pushL_len _ _)) ?_; simp only [List.length_dropLast]; omega) | exact (ask_ok (by assumption)).1 | exact (ask_ok (by assumption)).2.1 | exact (ask_ok (by assumption)).2.2.1 | exact (ask_ok (by assumption)).2.2.2 | trivial) : p := h
theorem ValidVerdict_ok (v : Verd) (g : VeGd v) : Does Tryz.prog 118 [.agg (veC v)] [] (.one (boo (okV v))) [] := by
  cases ho : okV v with
  | true =>
    have e : verT v = linT v := by unfold verT; rw [if_pos ho]
    have hn := linT_ne v
    refine does_of (k := 0) Tryz.func118 rfl Tryz.ntmps118 rfl rfl fun w F0 S0 ρ0 => ?_
    dsimp only [argT, argH]
    repeat' first | (apply n3; exact a_new (gb := .bx _) rfl; exact rfl; refine dA ?_) | (apply p3; (first | exact pu1 | exact puL | exact a_neT rfl rfl); exact rfl) | refine cd ?_ | (apply c4 0; exact callK1 (θ := []) (hD := (VerdictText_ok _ preB56)); exact rfl; exact rfl; exact rfl; refine dM ?_) | ((first | refine o_gs rfl rfl (fun hc => ?_) (fun hc => ?_) | refine g_cond rfl (fun hc => ?_) (fun hc => ?_)) <;> (try simp only [dcB] at hc) <;> (try first | contradiction | (exfalso; omega)))
    rw [e]
    repeat refine cr ?_
    refine ends_id ?_
    refine endK [] (h2 := ?_) (h3 := ?_) (nd := ?_)
    all_goals (repeat' first | exact ce0 | refine ce ?_ | refine ce2 ?_ ?_ | exact SVLe.refl | refine ceb ?_)
    all_goals first | exact (show nodupB _ = true from rfl) | exact Or.inr rfl | ((simp [hn]))
  | false =>
    have e : verT v = [] := by unfold verT; rw [ho]; rfl
    refine does_of (k := 0) Tryz.func118 rfl Tryz.ntmps118 rfl rfl fun w F0 S0 ρ0 => ?_
    dsimp only [argT, argH]
    repeat' first | (apply n3; exact a_new (gb := .bx _) rfl; exact rfl; refine dA ?_) | (apply p3; (first | exact pu1 | exact puL | exact a_neT rfl rfl); exact rfl) | refine cd ?_ | (apply c4 0; exact callK1 (θ := []) (hD := (VerdictText_ok _ preB56)); exact rfl; exact rfl; exact rfl; refine dM ?_) | ((first | refine o_gs rfl rfl (fun hc => ?_) (fun hc => ?_) | refine g_cond rfl (fun hc => ?_) (fun hc => ?_)) <;> (try simp only [dcB] at hc) <;> (try first | contradiction | (exfalso; omega)))
    rw [e]
    repeat refine cr ?_
    refine ends_id ?_
    refine endK [] (h2 := ?_) (h3 := ?_) (nd := ?_)
    all_goals (repeat' first | exact ce0 | refine ce ?_ | refine ce2 ?_ ?_ | exact SVLe.refl | refine ceb ?_)
    all_goals first | exact (show nodupB _ = true from rfl) | exact Or.inr rfl | (rfl)
/-- Lists whose verdicts are small. -/
structure LsGd (l : List Verd) : Prop where
  n : (l.length : Int) ≤ 16777216
  a : ∀ v ∈ l, VeGd v
theorem ls_at {l : List Verd} (g : LsGd l) {i : Nat} (h : i < l.length) : VeGd l[i] := g.a _ (List.getElem_mem h)
theorem preB56_2 {p : Prop} (h : p := by first | with_reducible assumption | omega | (simp only [List.length_append, List.length_cons, List.length_nil, List.length_set, List.length_replicate, List.length_take, List.length_drop, List.length_tail, List.length_dropLast, List.length_reverse] at *; omega) | exact mem_len (by assumption) (by omega) | (with_reducible refine Int.le_trans (Int.ofNat_le.2 (trimR_len _)) ?_; simp only [List.length_cons, List.length_tail]; omega) | (exact (ruAt_ok (by assumption) (by assumption) (by assumption)).2.1) | (exact (ruAt_ok (by assumption) (by assumption) (by assumption)).2.1) | (have := vMach_bd (by assumption); omega) | (simp only [mC_ch, mC_tu]; omega) | (have := vTag_bd (by assumption); omega) | (have := (‹Gd _ _›).le; omega) | (exact tgHalts_no (by assumption)) | (exact tgHead (by assumption) (by assumption) (by assumption)) | (exact Int.le_trans (tgStep_gd (by assumption) (by assumption) (by assumption) (by assumption)).le (by decide)) | (exact vTag_r (by assumption)) | (with_reducible refine Int.le_trans (Int.ofNat_le.2 (pushL_len _ _)) ?_; simp only [List.length_dropLast]; omega) | exact (ask_ok (by assumption)).1 | exact (ask_ok (by assumption)).2.1 | exact (ask_ok (by assumption)).2.2.1 | exact (ask_ok (by assumption)).2.2.2 | exact ls_at (by assumption) (by omega) | trivial) : p := h
theorem areV1_ok (v : Verd) (g : VeGd v) : Does Tryz.prog 117 [.agg (veC v)] [] (.one (boo (!okV v))) [] := by
  refine does_of (k := 0) Tryz.func117 rfl Tryz.ntmps117 rfl rfl fun w F0 S0 ρ0 => ?_
  dsimp only [argT, argH]
  repeat' first | (apply n3; exact a_new (gb := .bx _) rfl; exact rfl; refine dA ?_) | (apply p3; (first | exact pu1 | exact puL); exact rfl) | refine cd ?_ | (apply c4 0; exact callK1 (θ := []) (hD := (ValidVerdict_ok _ preB56_2)); exact rfl; exact rfl; exact rfl; refine dM ?_) | ((first | refine o_gs rfl rfl (fun hc => ?_) (fun hc => ?_) | refine g_cond rfl (fun hc => ?_) (fun hc => ?_)) <;> (try simp only [dcB] at hc) <;> (try first | contradiction | (exfalso; omega)))
  repeat refine cr ?_
  refine ends_id ?_
  refine endK [] (h2 := ?_) (h3 := ?_) (nd := ?_)
  all_goals (repeat' first | exact ce0 | refine ce ?_ | refine ce2 ?_ ?_ | exact SVLe.refl | refine ceb ?_)
  all_goals first | exact (show nodupB _ = true from rfl) | exact Or.inr rfl | (rfl)
theorem idxV_ok (xs : List Verd) (k : Nat) (p : Verd → Bool) (g : LsGd xs) (hE : entB Tryz.prog k = true) (hp : ∀ r, VeGd r → Does Tryz.prog k [.agg (veC r)] [] (.one (boo (p r))) []) : Does Tryz.prog 174 [.one (shV xs), .one (.d (.fn (.func k) []))] [] (.one (int (idxF p xs))) [] := by
  have hx := g.n
  refine does_of (k := 0) Tryz.func174 rfl Tryz.ntmps174 rfl rfl fun w F0 S0 ρ0 => ?_
  dsimp only [argT, argH]
  repeat' first | (apply p3; (first | exact pu1 | exact puL | exact puN | exact a_len_str rfl (fT rfl) | exact puC | exact a_add rfl rfl (by omega) (by omega) | exact puI); exact rfl) | refine cd ?_ | (apply c4 0; exact callK0 (θ := []) (hE := hE) (hD := (hp _ preB56_2)); exact rfl; exact rfl; exact rfl; refine dM ?_) | ((first | refine o_gs rfl rfl (fun hc => ?_) (fun hc => ?_) | refine g_cond rfl (fun hc => ?_) (fun hc => ?_)) <;> (try simp only [dcB] at hc) <;> (try first | contradiction | (exfalso; omega)))
  refine g_loop_id ?_
  refine loopK [0, 1, 4, 7] [] (fun i : Int => 0 ≤ i ∧ i ≤ xs.length ∧ (xs.take i.toNat).all (fun x => !p x) = true) (fun i => [(8, .one (int i))]) (fun _ => []) (fun i => (xs.length - i).toNat) (0 : Int) [] (hI := ?_) (hr := ?_)
  · exact ⟨by omega, by omega, rfl⟩
  · rintro i ⟨h0, h1, h2⟩
    dsimp only [List.cons_append, List.nil_append] at *
    skip
    repeat' first | (apply p3; (first | exact pu1 | exact puL | exact puC | exact a_add rfl rfl (by omega) (by omega) | exact puI); exact rfl) | refine cd ?_ | (apply c4 0; exact callK0 (θ := []) (hE := hE) (hD := (hp _ preB56_2)); exact rfl; exact rfl; exact rfl; refine dM ?_) | ((first | refine o_gs rfl rfl (fun hc => ?_) (fun hc => ?_) | refine g_cond rfl (fun hc => ?_) (fun hc => ?_)) <;> (try simp only [dcB] at hc) <;> (try first | contradiction | (exfalso; omega)))
    · repeat refine cr ?_
      refine ends_id ?_
      refine endK [] (h2 := ?_) (h3 := ?_) (nd := ?_)
      all_goals (repeat' first | exact ce0 | refine ce ?_ | refine ce2 ?_ ?_ | exact SVLe.refl | refine ceb ?_)
      all_goals first | exact (show nodupB _ = true from rfl) | exact Or.inr rfl | (exact (idxF_stop p xs i h0 (by omega) h2 hc).symm)
    · refine q_again (i + 1) [] (by exact stk) ?_ ?_
      · exact ⟨by omega, by omega, all_snocI _ _ _ h0 (by omega) h2 (by simp [hc])⟩
      · omega
    · repeat refine cr ?_
      refine ends_id ?_
      refine endK [] (h2 := ?_) (h3 := ?_) (nd := ?_)
      all_goals (repeat' first | exact ce0 | refine ce ?_ | refine ce2 ?_ ?_ | exact SVLe.refl | refine ceb ?_)
      all_goals first | exact (show nodupB _ = true from rfl) | exact Or.inr rfl | ((rw [List.take_of_length_le (by omega)] at h2; exact (idxF_none p xs h2).symm))
theorem hasV_ok (xs : List Verd) (k : Nat) (p : Verd → Bool) (g : LsGd xs) (hE : entB Tryz.prog k = true) (hp : ∀ r, VeGd r → Does Tryz.prog k [.agg (veC r)] [] (.one (boo (p r))) []) : Does Tryz.prog 116 [.one (shV xs), .one (.d (.fn (.func k) []))] [] (.one (boo (xs.any p))) [] := by
  have hx := g.n
  refine does_of (k := 0) Tryz.func116 rfl Tryz.ntmps116 rfl rfl fun w F0 S0 ρ0 => ?_
  dsimp only [argT, argH]
  repeat' first | (apply p3; (first | exact pu1 | exact puC); exact rfl) | refine cd ?_ | (apply c4 0; exact callK1 (θ := []) (hD := (idxV_ok _ _ _ preB56_2 preB56_2 preB56_2)); exact rfl; exact rfl; exact rfl; refine dM ?_) | ((first | refine o_gs rfl rfl (fun hc => ?_) (fun hc => ?_) | refine g_cond rfl (fun hc => ?_) (fun hc => ?_)) <;> (try simp only [dcB] at hc) <;> (try first | contradiction | (exfalso; omega)))
  repeat refine cr ?_
  refine ends_id ?_
  refine endK [] (h2 := ?_) (h3 := ?_) (nd := ?_)
  all_goals (repeat' first | exact ce0 | refine ce ?_ | refine ce2 ?_ ?_ | exact SVLe.refl | refine ceb ?_)
  all_goals first | exact (show nodupB _ = true from rfl) | exact Or.inr rfl | (exact idxF_any p xs)
theorem hasV1_ok (xs : List Verd) (g : LsGd xs) : Does Tryz.prog 116 [.one (shV xs), .one (.d (.fn (.func 117) []))] [] (.one (boo (xs.any fun v => !okV v))) [] := hasV_ok xs _ _ g (fQ rfl) fun r hr => areV1_ok r hr
/-- Lists that are written. -/
@[irreducible] def okVs (l : List Verd) : Bool := decide ((l.length : Int) ≤ 40) && l.all okV
theorem areVerdicts_ok (l : List Verd) (g : LsGd l) : Does Tryz.prog 55 [.one (shV l)] [] (.one (boo (okVs l))) [] := by
  refine does_of (k := 0) Tryz.func55 rfl Tryz.ntmps55 rfl rfl fun w F0 S0 ρ0 => ?_
  dsimp only [argT, argH]
  repeat' first | (apply p3; (first | exact pu1 | exact puN | exact a_len_str rfl (fT rfl) | exact puC); exact rfl) | refine cd ?_ | (apply c4 0; exact callK1 (θ := []) (hD := (hasV1_ok _ preB56_2)); exact rfl; exact rfl; exact rfl; refine dM ?_) | refine o_no rfl rfl rfl rfl ?_ | refine o_noN rfl rfl rfl ?_ | (apply py3; exact rfl; exact rfl; (first | exact pu1 | exact puN | exact a_len_str rfl (fT rfl) | exact puC); exact rfl; exact rfl) | (apply cy4 0; exact rfl; exact rfl; exact callK1 (θ := []) (hD := (hasV1_ok _ preB56_2)); exact rfl; exact rfl; exact rfl; exact rfl; refine dM ?_) | ((first | refine o_gs rfl rfl (fun hc => ?_) (fun hc => ?_) | refine g_cond rfl (fun hc => ?_) (fun hc => ?_)) <;> (try simp only [dcB] at hc) <;> (try first | contradiction | (exfalso; omega)))
  · repeat refine cr ?_
    refine ends_id ?_
    refine endK [] (h2 := ?_) (h3 := ?_) (nd := ?_)
    all_goals (repeat' first | exact ce0 | refine ce ?_ | refine ce2 ?_ ?_ | exact SVLe.refl | refine ceb ?_)
    all_goals first | exact (show nodupB _ = true from rfl) | exact Or.inr rfl | ((unfold okVs; rw [not_any_not]; rw [decide_eq_true (by assumption)]; rfl))
  · repeat refine cr ?_
    refine ends_id ?_
    refine endK [] (h2 := ?_) (h3 := ?_) (nd := ?_)
    all_goals (repeat' first | exact ce0 | refine ce ?_ | refine ce2 ?_ ?_ | exact SVLe.refl | refine ceb ?_)
    all_goals first | exact (show nodupB _ = true from rfl) | exact Or.inr rfl | ((unfold okVs; rw [decide_eq_false (by assumption)]; rfl))
theorem l31List_ok (l : List Verd) (g : LsGd l) : Does Tryz.prog 53 [.one (shV l)] [] (.one (boo (okVs l))) [] := by
  have hx := g.n
  refine does_of (k := 0) Tryz.func53 rfl Tryz.ntmps53 rfl rfl fun w F0 S0 ρ0 => ?_
  dsimp only [argT, argH]
  repeat' first | (apply p3; (first | exact pu1 | exact puN | exact a_len_str rfl (fT rfl) | exact puC | exact a_add rfl rfl (by omega) (by omega) | exact puI); exact rfl) | refine cd ?_ | (apply c4 0; exact callK1 (θ := []) (hD := (l31Is_ok _ preB56_2)); exact rfl; exact rfl; exact rfl; refine dM ?_) | ((first | refine o_gs rfl rfl (fun hc => ?_) (fun hc => ?_) | refine g_cond rfl (fun hc => ?_) (fun hc => ?_)) <;> (try simp only [dcB] at hc) <;> (try first | contradiction | (exfalso; omega)))
  refine g_loop_id ?_
  refine loopK [0, 2] [] (fun i : Int => 0 ≤ i ∧ i ≤ l.length ∧ (l.take i.toNat).all okV = true) (fun i => [(3, .one (int i))]) (fun _ => []) (fun i => (l.length - i).toNat) (0 : Int) [] (hI := ?_) (hr := ?_)
  · exact ⟨by omega, by omega, rfl⟩
  · rintro i ⟨h0, h1, h2⟩
    dsimp only [List.cons_append, List.nil_append] at *
    skip
    repeat' first | (apply p3; (first | exact pu1 | exact puN | exact a_len_str rfl (fT rfl) | exact puC | exact a_add rfl rfl (by omega) (by omega) | exact puI); exact rfl) | refine cd ?_ | (apply c4 0; exact callK1 (θ := []) (hD := (l31Is_ok _ preB56_2)); exact rfl; exact rfl; exact rfl; refine dM ?_) | ((first | refine o_gs rfl rfl (fun hc => ?_) (fun hc => ?_) | refine g_cond rfl (fun hc => ?_) (fun hc => ?_)) <;> (try simp only [dcB] at hc) <;> (try first | contradiction | (exfalso; omega)))
    · have e : l.all okV = false := all_no _ _ i.toNat (by omega) (by simp [hc])
      repeat refine cr ?_
      refine ends_id ?_
      refine endK [] (h2 := ?_) (h3 := ?_) (nd := ?_)
      all_goals (repeat' first | exact ce0 | refine ce ?_ | refine ce2 ?_ ?_ | exact SVLe.refl | refine ceb ?_)
      all_goals first | exact (show nodupB _ = true from rfl) | exact Or.inr rfl | ((unfold okVs; rw [e]; simp))
    · refine q_again (i + 1) [] (by exact stk) ?_ ?_
      · exact ⟨by omega, by omega, all_snocI _ _ _ h0 (by omega) h2 hc⟩
      · omega
    · have e : l.all okV = true := by rw [List.take_of_length_le (by omega)] at h2; exact h2
      repeat refine cr ?_
      refine ends_id ?_
      refine endK [] (h2 := ?_) (h3 := ?_) (nd := ?_)
      all_goals (repeat' first | exact ce0 | refine ce ?_ | refine ce2 ?_ ?_ | exact SVLe.refl | refine ceb ?_)
      all_goals first | exact (show nodupB _ = true from rfl) | exact Or.inr rfl | ((unfold okVs; rw [e]; simp))
end Go.Proofs.YtbekdojhcokalaaGreatDoor
end
