/- Parts of the proof (16 of 20). -/
import Derived.Lib.Join
import Derived.Test.YtjmlbmmbionmcaaGreatDoorQ15
section
set_option linter.unusedVariables false
set_option linter.unusedSimpArgs false
set_option maxRecDepth 100000
set_option maxHeartbeats 4000000
namespace Go.Proofs.YtjmlbmmbionmcaaGreatDoor
open Go Foot Go.Shelf Go.RowKit
theorem WriteRune_ok (l : Bs) (r : Int) (h0 : 0 ≤ r) (h1 : r ≤ 127) (h : (l.length : Int) + 1 ≤ 140737488355328) : Does Tryz.prog 158 [.one (.gv 0),.one (c32 r)] [bldr l] (.tup [(false,[int 1]),(false,[nlC])]) [bldr (l ++ byt [r])] :=
  does_bld (av := [.int .i32 r]) (rv := .tuple #[.int .i64 1,.nilIface]) (fun w S ρ vs => repA_1) (fun w S ρ => ⟨_,rfl,_,_,rfl,⟨_,_,rfl,⟨rfl,rfl⟩,rfl⟩,_,_,rfl,⟨_,_,rfl,⟨rfl,rfl⟩,rfl⟩,rfl⟩) fun w b p v hB => by
    have := bs_WriteRune hB h0 h1 (by rw [Lib.byteCells_length]; omega)
    rw [cells_byt l r h0 h1] at this
    exact this
theorem String_ok (l : Bs) : Does Tryz.prog 159 [.one (.gv 0)] [bldr l] (.one (str l)) [bldr l] :=
  does_bld (av := []) (rv := sv l) (fun w S ρ vs h => h) (fun w S ρ => ⟨rfl,rfl⟩) fun w b p v hB => bl_String Tryz.lays169 Tryz.Builder_Extra_169 hB
theorem FormatInt_ok (n : Int) (h0 : -9223372036854775808 ≤ n) (h1 : n ≤ 9223372036854775807) : Does Tryz.prog 147 [.one (int n),.one (int 10)] [] (.one (str (Lib.itoa n))) [] :=
  does_ext (av := [.int .i64 n,.int .i64 10]) (rv := sv (Lib.itoa n)) (fun w S ρ vs => repA_2) (fun w S ρ => ⟨rfl,rfl⟩) fun w S hT => by
    obtain ⟨⟨cs,T,fr,ht,hcs⟩,_⟩ := hT _ List.mem_cons_self
    dsimp only at hcs
    subst hcs
    refine (Any.strconv_FormatInt_10 Tryz.laysM173 n h0 h1 w ?_).mono ?_
    · dsimp only at ht
      exact Option.bind_eq_some_iff.2 ⟨_,by kernel_rfl,by rw [ht]; simp [Lib.pow10Tab]⟩
    · rintro en w' ⟨rfl,k,os,rfl⟩
      exact ⟨rfl,Lib.below_grow _ w (Nat.le_refl _) k os⟩
end Go.Proofs.YtjmlbmmbionmcaaGreatDoor
end
section
set_option linter.unusedVariables false
set_option linter.unusedSimpArgs false
set_option maxRecDepth 100000
set_option maxHeartbeats 4000000
namespace Go.Proofs.YtjmlbmmbionmcaaGreatDoor
open Go Foot
def drev (u : Nat) : List Int := if h : u = 0 then [] else (48 + (u % 10 : Nat) : Int) :: drev (u / 10)
termination_by u
decreasing_by omega
theorem drev_0 : drev 0 = [] := by rw [drev]; simp
theorem drev_s {u : Nat} (h : u ≠ 0) : drev u = (48 + (u % 10 : Nat) : Int) :: drev (u / 10) := by rw [drev]; simp [h]
theorem drev_le : ∀ (k u : Nat),u < 10 ^ k → (drev u).length ≤ k := by
  intro k
  induction k with
  | zero =>
    intro u h
    have : u = 0 := by simpa using h
    subst this
    simp [drev_0]
  | succ k ih =>
    intro u h
    by_cases h0 : u = 0
    · subst h0; simp [drev_0]
    · rw [drev_s h0,List.length_cons]
      have := ih (u / 10) (by rw [Nat.pow_succ] at h; omega)
      omega
theorem byt_app (a b : List Int) : byt (a ++ b) = byt a ++ byt b := by unfold byt; simp
theorem byt_len (a : List Int) : (byt a).length = a.length := by unfold byt; simp
theorem byt_1 (n : Int) : byt [n] = [UInt8.ofNat n.toNat] := by unfold byt; rfl
theorem byt_0 : byt [] = [] := by unfold byt; rfl
theorem drev_dec : ∀ (u : Nat),u ≠ 0 → byt (drev u).reverse = Lib.decDigits u := by
  intro u
  induction u using Nat.strongRecOn with
  | _ u ih =>
    intro h0
    rw [drev_s h0,List.reverse_cons,byt_app,byt_1,Lib.decDigits]
    by_cases h : u < 10
    · rw [dif_pos h,show u / 10 = 0 by omega,drev_0]
      simp only [List.reverse_nil,byt_0,List.nil_append]
      congr 2
      omega
    · rw [dif_neg h,ih (u / 10) (by omega) (by omega)]
      rfl
@[irreducible] def decT (n : Int) : Bs := Lib.itoa n
theorem decT_0 : decT 0 = [48] := by unfold decT Lib.itoa; simp [Lib.decDigits]
theorem decT_n {n : Int} (h : n ≠ 0) : decT n = byt ((drev n.natAbs ++ (if n < 0 then [45] else [])).reverse) := by
  unfold decT Lib.itoa
  split
  · rw [List.reverse_append,byt_app,drev_dec _ (by omega)]; simp [byt_1]
  · rw [List.append_nil,drev_dec _ (by omega),show n.natAbs = n.toNat by omega]
theorem decT_le {n : Int} (h0 : -9223372036854775808 ≤ n) (h1 : n ≤ 9223372036854775807) : (decT n).length ≤ 21 := by
  by_cases h : n = 0
  · subst h; rw [decT_0]; decide
  · rw [decT_n h,byt_len,List.length_reverse,List.length_append]
    have h2 := drev_le 20 n.natAbs (by omega)
    split <;> simp only [List.length_cons,List.length_nil] <;> omega
theorem preB49 {p : Prop} (h : p := by first | with_reducible assumption | omega | (simp only [List.length_append,List.length_cons,List.length_nil,List.length_set,List.length_replicate,List.length_take,List.length_drop,List.length_tail,List.length_dropLast,List.length_reverse] at *; omega) | exact mem_len (by assumption) (by omega) | (with_reducible refine Int.le_trans (Int.ofNat_le.2 (trimR_len _)) ?_; simp only [List.length_cons,List.length_tail]; omega) | (exact (ruAt_ok (by assumption) (by assumption) (by assumption)).2.1) | (exact (ruAt_ok (by assumption) (by assumption) (by assumption)).2.1) | (have := vMach_bd (by assumption); omega) | (simp only [mC_ch,mC_tu]; omega) | (have := vTag_bd (by assumption); omega) | (have := (‹Gd _ _›).le; omega) | (exact tgHalts_no (by assumption)) | (exact tgHead (by assumption) (by assumption) (by assumption)) | (exact Int.le_trans (tgStep_gd (by assumption) (by assumption) (by assumption) (by assumption)).le (by decide)) | (exact vTag_r (by assumption)) | (with_reducible refine Int.le_trans (Int.ofNat_le.2 (pushL_len _ _)) ?_; simp only [List.length_dropLast]; omega) | exact (ask_ok (by assumption)).1 | exact (ask_ok (by assumption)).2.1 | exact (ask_ok (by assumption)).2.2.1 | exact (ask_ok (by assumption)).2.2.2 | trivial) : p := h
theorem l01Dec_ok (n : Int) (h0 : -9223372036854775807 ≤ n) (h1 : n ≤ 9223372036854775807) : Does Tryz.prog 109 [.one (int n)] [] (.one (str (decT n))) [] := by
  by_cases hn : n = 0
  · subst hn
    rw [decT_0]
    refine does_of (k := 0) Tryz.func109 rfl Tryz.ntmps109 rfl rfl fun w F0 S0 ρ0 => ?_
    dsimp only [argT,argH]
    repeat' first|(apply p3;(first|exact pu1|exact puC);exact rfl)|refine cd ?_
    repeat refine cr ?_
    refine ends_id ?_
    refine endK [] (h2 := ?_) (h3 := ?_) (nd := ?_)
    all_goals (repeat' first|exact ce0|refine ce ?_|refine ce2 ?_ ?_|exact SVLe.refl|refine ceb ?_)
    all_goals first | exact (show nodupB _ = true from rfl) | exact Or.inr rfl | (rfl)
  have hT := decT_n hn
  have hl := drev_le 20 n.natAbs (by omega)
  refine does_of (k := 0) Tryz.func109 rfl Tryz.ntmps109 rfl rfl fun w F0 S0 ρ0 => ?_
  dsimp only [argT,argH]
  repeat' first|(apply n3;(exact a_litE eY [] rfl rfl rfl rfl rfl rfl rfl rfl);exact rfl;refine dA ?_)|(apply p3;(first|exact pu1|exact puC);exact rfl)|refine cd ?_|((refine g_cond rfl (fun hc => ?_) (fun hc => ?_)) <;> (try simp only [dcB] at hc) <;> (try first|contradiction|(exfalso;omega)))
  refine g_loop_id ?_
  refine loopK [0,2,3] [0] (fun x : Int × List Int => x.2 ++ drev x.1.natAbs = drev n.natAbs ∧ x.1.natAbs ≤ n.natAbs ∧ (x.2.length : Int) ≤ 20) (fun x => [(4,.one (int x.1))]) (fun x => [(0,.row 1 (rows eY x.2))]) (fun x => x.1.natAbs) (n,[]) [0] (hI := ?_) (hr := ?_)
  · exact ⟨by simp,by simp,by simp⟩
  · rintro ⟨m,xs⟩ ⟨k0,k1,k2⟩
    dsimp only [List.cons_append,List.nil_append] at *
    skip
    have t1 := Int.natAbs_tmod m 10; have t2 := Int.natAbs_tdiv m 10; have t3 : m.natAbs.div (10 : Int).natAbs = m.natAbs / 10 := rfl; have t4 : (10 : Int).natAbs = 10 := rfl; rw [t3] at t2; rw [t4] at t1; have t5 : ((xs ++ [45]).length : Int) = xs.length + 1 := by simp
    repeat' first|(apply n3;(first|exact a_litE eY [_] rfl rfl rfl rfl rfl rfl rfl rfl|exact a_litE eY [] rfl rfl rfl rfl rfl rfl rfl rfl);exact rfl;refine dA ?_)|(apply p3;(first|exact pu1|exact a_ne rfl rfl|exact a_remT rfl rfl (by omega)|exact puC|exact a_neg rfl (by omega) (by omega)|exact a_add rfl rfl (by omega) (by omega)|exact a_to8 rfl Tryz.underlying2 Tryz.underlying5 (by omega) (by omega)|exact a_quoT rfl rfl (by omega) (by omega) (by omega)|exact puN|exact a_sub rfl rfl (by omega) (by omega));exact rfl)|refine cd ?_|(apply s3;exact a_appE (fP rfl) rfl rfl rfl rfl nowR (by (simp <;> omega)) (by decide) (by decide) (by exact rfl);exact rfl;exact rfl)|((refine g_cond rfl (fun hc => ?_) (fun hc => ?_)) <;> (try simp only [dcB] at hc) <;> (try first|contradiction|(exfalso;omega)))
    · refine q_again (m.tdiv 10,_) [2] (by exact stk) ?_ ?_
      · dsimp only
        refine ⟨?_,by omega,?_⟩
        · rw [← k0,drev_s (by omega : m.natAbs ≠ 0),t2,List.append_assoc]
          congr 1
          rw [List.singleton_append]
          congr 1
          omega
        · have h1 := congrArg List.length k0
          rw [drev_s (by omega : m.natAbs ≠ 0)] at h1
          simp only [List.length_append,List.length_cons,List.length_nil] at h1 ⊢
          omega
      · dsimp only; omega
    · refine q_again (m.tdiv 10,_) [2] (by exact stk) ?_ ?_
      · dsimp only
        refine ⟨?_,by omega,?_⟩
        · rw [← k0,drev_s (by omega : m.natAbs ≠ 0),t2,List.append_assoc]
          congr 1
          rw [List.singleton_append]
          congr 1
          omega
        · have h1 := congrArg List.length k0
          rw [drev_s (by omega : m.natAbs ≠ 0)] at h1
          simp only [List.length_append,List.length_cons,List.length_nil] at h1 ⊢
          omega
      · dsimp only; omega
    · have ex : xs = drev n.natAbs := by rw [← k0,show m.natAbs = 0 by omega,drev_0,List.append_nil]
      rw [if_pos (by assumption),← ex] at hT
      obtain ⟨ys,hys⟩ : ∃ ys,ys = xs ++ [45] := ⟨_,rfl⟩
      rw [← hys] at hT t5 ⊢
      refine g_loop_id ?_
      refine loopK [2,3,6] [3] (fun x : Int × List Int => -1 ≤ x.1 ∧ x.1 < ys.length ∧ x.2 = (ys.drop (x.1 + 1).toNat).reverse) (fun x => [(7,.one (int x.1))]) (fun x => [(3,.row 1 (rows eY x.2))]) (fun x => (x.1 + 1).toNat) ((ys.length : Int) - 1,[]) [0,1,2,3] (hI := ?_) (hr := ?_)
      · dsimp only
        refine ⟨by omega,by omega,?_⟩
        rw [List.drop_eq_nil_of_le (by omega)]
        rfl
      · rintro ⟨i,out⟩ ⟨j0,j1,j2⟩
        dsimp only [List.cons_append,List.nil_append] at *
        skip
        have jl : (out.length : Int) ≤ 1000 := by rw [j2,List.length_reverse,List.length_drop]; omega
        repeat' first|(apply n3;(exact a_litE eY [_] rfl rfl rfl rfl rfl rfl rfl rfl);exact rfl;refine dA ?_)|(apply p3;(first|exact pu1|exact puC|exact a_ld_rowY rfl rfl rfl (fC rfl) bnd|exact a_sub rfl rfl (by omega) (by omega)|exact a_toStr rfl (by exact rfl) Tryz.underlying48 Tryz.underlying5 Tryz.underlying9|exact puI);exact rfl)|refine cd ?_|(apply s3;exact a_appE (fP rfl) rfl rfl rfl rfl nowR (by (simp <;> omega)) (by decide) (by decide) (by exact rfl);exact rfl;exact rfl)|((refine g_cond rfl (fun hc => ?_) (fun hc => ?_)) <;> (try simp only [dcB] at hc) <;> (try first|contradiction|(exfalso;omega)))
        · refine q_again (i - 1,_) [0,1,2,5] (by exact stk) ?_ ?_
          · dsimp only
            refine ⟨by omega,by omega,?_⟩
            rw [j2,show (i - 1 + 1).toNat = i.toNat by omega,List.drop_eq_getElem_cons (show i.toNat < ys.length by omega),List.reverse_cons,show i.toNat + 1 = (i + 1).toNat by omega]
            simp only [Nat.mul_one]
          · dsimp only; omega
        · have e : out = ys.reverse := by rw [j2,show (i + 1).toNat = 0 by omega]; rfl
          rw [hT,e]
          repeat refine cr ?_
          refine ends_id ?_
          refine endK [] (h2 := ?_) (h3 := ?_) (nd := ?_)
          all_goals (repeat' first|exact ce0|refine ce ?_|refine ce2 ?_ ?_|exact SVLe.refl|refine ceb ?_)
          all_goals first | exact (show nodupB _ = true from rfl) | exact Or.inr rfl | (rfl)
    · have ex : xs = drev n.natAbs := by rw [← k0,show m.natAbs = 0 by omega,drev_0,List.append_nil]
      rw [if_neg (by assumption),← ex,List.append_nil] at hT
      obtain ⟨ys,hys⟩ : ∃ ys,ys = xs := ⟨_,rfl⟩
      rw [← hys] at hT k2 ⊢
      refine g_loop_id ?_
      refine loopK [2,3,6] [1] (fun x : Int × List Int => -1 ≤ x.1 ∧ x.1 < ys.length ∧ x.2 = (ys.drop (x.1 + 1).toNat).reverse) (fun x => [(7,.one (int x.1))]) (fun x => [(1,.row 1 (rows eY x.2))]) (fun x => (x.1 + 1).toNat) ((ys.length : Int) - 1,[]) [0,1] (hI := ?_) (hr := ?_)
      · dsimp only
        refine ⟨by omega,by omega,?_⟩
        rw [List.drop_eq_nil_of_le (by omega)]
        rfl
      · rintro ⟨i,out⟩ ⟨j0,j1,j2⟩
        dsimp only [List.cons_append,List.nil_append] at *
        skip
        have jl : (out.length : Int) ≤ 1000 := by rw [j2,List.length_reverse,List.length_drop]; omega
        repeat' first|(apply n3;(exact a_litE eY [_] rfl rfl rfl rfl rfl rfl rfl rfl);exact rfl;refine dA ?_)|(apply p3;(first|exact pu1|exact puC|exact a_ld_rowY rfl rfl rfl (fC rfl) bnd|exact a_sub rfl rfl (by omega) (by omega)|exact a_toStr rfl (by exact rfl) Tryz.underlying48 Tryz.underlying5 Tryz.underlying9|exact puI);exact rfl)|refine cd ?_|(apply s3;exact a_appE (fP rfl) rfl rfl rfl rfl nowR (by (simp <;> omega)) (by decide) (by decide) (by exact rfl);exact rfl;exact rfl)|((refine g_cond rfl (fun hc => ?_) (fun hc => ?_)) <;> (try simp only [dcB] at hc) <;> (try first|contradiction|(exfalso;omega)))
        · refine q_again (i - 1,_) [0,3] (by exact stk) ?_ ?_
          · dsimp only
            refine ⟨by omega,by omega,?_⟩
            rw [j2,show (i - 1 + 1).toNat = i.toNat by omega,List.drop_eq_getElem_cons (show i.toNat < ys.length by omega),List.reverse_cons,show i.toNat + 1 = (i + 1).toNat by omega]
            simp only [Nat.mul_one]
          · dsimp only; omega
        · have e : out = ys.reverse := by rw [j2,show (i + 1).toNat = 0 by omega]; rfl
          rw [hT,e]
          repeat refine cr ?_
          refine ends_id ?_
          refine endK [] (h2 := ?_) (h3 := ?_) (nd := ?_)
          all_goals (repeat' first|exact ce0|refine ce ?_|refine ce2 ?_ ?_|exact SVLe.refl|refine ceb ?_)
          all_goals first | exact (show nodupB _ = true from rfl) | exact Or.inr rfl | (rfl)
@[irreducible] def digT (w : List Int) : Bs := byt (w.map fun x => 48 + x)
@[irreducible] def wdT (w : List Int) : Bs := if w = [] then [45] else digT w
theorem digT_snoc (w : List Int) (i : Int) (h0 : 0 ≤ i) (h : i < w.length) : digT (w.take i.toNat) ++ byt [48 + w[i.toNat]'(by omega)] = digT (w.take (i + 1).toNat) := by
  unfold digT
  rw [show (i + 1).toNat = i.toNat + 1 by omega,List.take_succ_eq_append_getElem (by omega),List.map_append,byt_app]
  rfl
theorem digT_len (w : List Int) : (digT w).length = w.length := by unfold digT; rw [byt_len,List.length_map]
theorem map_snoc (w : List Int) (i : Int) (h0 : 0 ≤ i) (h : i < w.length) : (w.take i.toNat).map (fun x => 48 + x) ++ [48 + w[i.toNat]'(by omega)] = (w.take (i + 1).toNat).map (fun x => 48 + x) := by
  rw [show (i + 1).toNat = i.toNat + 1 by omega,List.take_succ_eq_append_getElem (by omega),List.map_append]
  rfl
theorem l03Text_ok (u : List Int) (hx : (u.length : Int) ≤ 1048576) (hd : ∀ x ∈ u,0 ≤ x ∧ x ≤ 9) : Does Tryz.prog 157 [.one (shI u)] [] (.one (str (wdT u))) [] := by
  have hg : ∀ (i : Nat) (h : i < u.length),0 ≤ u[i] ∧ u[i] ≤ 9 := fun i h => hd _ (List.getElem_mem h)
  by_cases h0 : (u.length : Int) = 0
  · have e : wdT u = [45] := by unfold wdT; rw [if_pos (List.eq_nil_of_length_eq_zero (by omega))]
    rw [e]
    refine does_of (k := 0) Tryz.func157 rfl Tryz.ntmps157 rfl rfl fun w F0 S0 ρ0 => ?_
    dsimp only [argT,argH]
    repeat' first|(apply p3;(first|exact pu1|exact puN|exact puC);exact rfl)|refine cd ?_|((refine g_cond rfl (fun hc => ?_) (fun hc => ?_)) <;> (try simp only [dcB] at hc) <;> (try first|contradiction|(exfalso;omega)))
    repeat refine cr ?_
    refine ends_id ?_
    refine endK [] (h2 := ?_) (h3 := ?_) (nd := ?_)
    all_goals (repeat' first|exact ce0|refine ce ?_|refine ce2 ?_ ?_|exact SVLe.refl|refine ceb ?_)
    all_goals first | exact (show nodupB _ = true from rfl) | exact Or.inr rfl | (rfl)
  have e : wdT u = byt (u.map fun x => 48 + x) := by unfold wdT; rw [if_neg (fun h => h0 (by rw [h]; rfl))]; unfold digT; rfl
  rw [e]
  refine does_of (k := 0) Tryz.func157 rfl Tryz.ntmps157 rfl rfl fun w F0 S0 ρ0 => ?_
  dsimp only [argT,argH]
  repeat' first|(apply n3;(exact a_litE eY [] rfl rfl rfl rfl rfl rfl rfl rfl);exact rfl;refine dA ?_)|(apply p3;(first|exact pu1|exact puN|exact puC);exact rfl)|refine cd ?_|((refine g_cond rfl (fun hc => ?_) (fun hc => ?_)) <;> (try simp only [dcB] at hc) <;> (try first|contradiction|(exfalso;omega)))
  refine g_loop_id ?_
  refine loopK [0,2,3] [0] (fun x : Int × List Int => 0 ≤ x.1 ∧ x.1 ≤ u.length ∧ x.2 = (u.take x.1.toNat).map (fun x => 48 + x)) (fun x => [(4,.one (int x.1))]) (fun x => [(0,.row 1 (rows eY x.2))]) (fun x => (u.length - x.1).toNat) ((0 : Int),[]) [0] (hI := ?_) (hr := ?_)
  · exact ⟨by simp,by simp,by simp⟩
  · rintro ⟨i,out⟩ ⟨j0,j1,j2⟩
    dsimp only [List.cons_append,List.nil_append] at *
    skip
    have jl : (out.length : Int) ≤ 1048576 := by rw [j2,List.length_map,List.length_take]; omega
    repeat' first|(apply p3;(first|exact pu1|exact puN|exact puC);exact rfl)|refine cdn ?_|refine g_reg (id := 5) ?_|((refine g_cond rfl (fun hc => ?_) (fun hc => ?_)) <;> (try simp only [dcB] at hc) <;> (try first|contradiction|(exfalso;omega)))
    · have := hg i.toNat (by omega)
      repeat' first|(apply n3;(exact a_litE eY [_] rfl rfl rfl rfl rfl rfl rfl rfl);exact rfl;refine dA ?_)|(apply p3;(first|exact pu1|exact a_add rfl rfl (by omega) (by omega)|exact a_to8 rfl Tryz.underlying2 Tryz.underlying5 (by omega) (by omega)|exact puI);exact rfl)|refine cd ?_|(apply s3;exact a_appE (fP rfl) rfl rfl rfl rfl nowR (by (simp <;> omega)) (by decide) (by decide) (by exact rfl);exact rfl;exact rfl)
      refine q_again (i + 1,_) [2] (by exact stk) ?_ ?_
      · dsimp only
        refine ⟨by omega,by omega,?_⟩
        rw [j2,← map_snoc u i j0 hc]
      · dsimp only; omega
    · have e2 : out = u.map fun x => 48 + x := by rw [j2,List.take_of_length_le (by omega)]
      rw [e2]
      repeat' first|(apply p3;(first|exact pu1|exact a_toStr rfl (by exact rfl) Tryz.underlying48 Tryz.underlying5 Tryz.underlying9);exact rfl)|refine cd ?_
      repeat refine cr ?_
      refine ends_id ?_
      refine endK [] (h2 := ?_) (h3 := ?_) (nd := ?_)
      all_goals (repeat' first|exact ce0|refine ce ?_|refine ce2 ?_ ?_|exact SVLe.refl|refine ceb ?_)
      all_goals first | exact (show nodupB _ = true from rfl) | exact Or.inr rfl | (rfl)
theorem digitsText_ok (u : List Int) (hx : (u.length : Int) ≤ 1048576) (hd : ∀ x ∈ u,0 ≤ x ∧ x ≤ 9) : Does Tryz.prog 111 [.one (shI u)] [] (.one (str (digT u))) [] := by
  have hg : ∀ (i : Nat) (h : i < u.length),0 ≤ u[i] ∧ u[i] ≤ 9 := fun i h => hd _ (List.getElem_mem h)
  refine does_of (k := 0) Tryz.func111 rfl Tryz.ntmps111 rfl rfl fun w F0 S0 ρ0 => ?_
  dsimp only [argT,argH]
  repeat' first|(apply n3;exact a_newB;exact rfl;refine dA ?_)|(apply p3;(first|exact pu1|exact puN);exact rfl)|refine cd ?_
  refine g_loop_id ?_
  refine loopK [2,3,6,7] [0] (fun x : Int × Bs => 0 ≤ x.1 ∧ x.1 ≤ u.length ∧ x.2 = digT (u.take x.1.toNat)) (fun x => [(8,.one (int x.1))]) (fun x => [(0,bldr x.2)]) (fun x => (u.length - x.1).toNat) ((0 : Int),[]) [0] (hI := ?_) (hr := ?_)
  · exact ⟨by simp,by simp,by simp [digT,byt]⟩
  · rintro ⟨i,out⟩ ⟨j0,j1,j2⟩
    dsimp only [List.cons_append,List.nil_append] at *
    skip
    have jl : (out.length : Int) ≤ 1048576 := by rw [j2,digT_len,List.length_take]; omega
    repeat' first|(apply p3;(first|exact pu1|exact puC|exact puI);exact rfl)|refine cdn ?_|refine g_reg (id := 3) ?_|refine g_reg (id := 4) ?_|refine g_reg (id := 7) ?_|(apply c4 0;exact callK1 (θ := [_]) (hD := (String_ok _));exact rfl;exact rfl;exact rfl;refine dM ?_)|((refine g_cond rfl (fun hc => ?_) (fun hc => ?_)) <;> (try simp only [dcB] at hc) <;> (try first|contradiction|(exfalso;omega)))
    · have := hg i.toNat (by omega)
      repeat' first|(apply p3;(first|exact pu1|exact a_to32 rfl Tryz.underlying2 Tryz.underlying21 (by omega) (by omega)|exact a_add32 rfl rfl (by omega) (by omega)|exact a_add rfl rfl (by omega) (by omega));exact rfl)|refine cd ?_|(apply c4 0;exact callK1 (θ := [_]) (hD := (WriteRune_ok _ _ preB49 preB49 preB49));exact rfl;exact rfl;exact rfl;refine dM ?_)
      refine q_again (i + 1,_) [0] (by exact stk) ?_ ?_
      · dsimp only
        refine ⟨by omega,by omega,?_⟩
        rw [j2,← digT_snoc u i j0 hc]
      · dsimp only; omega
    · have e2 : out = digT u := by rw [j2,List.take_of_length_le (by omega)]
      rw [e2]
      skip
      repeat refine cr ?_
      refine ends_id ?_
      refine endK [] (h2 := ?_) (h3 := ?_) (nd := ?_)
      all_goals (repeat' first|exact ce0|refine ce ?_|refine ce2 ?_ ?_|exact SVLe.refl|refine ceb ?_)
      all_goals first | exact (show nodupB _ = true from rfl) | exact Or.inr rfl | (rfl)
theorem Decimal_ok (n : Int) (h0 : -9223372036854775808 ≤ n) (h1 : n ≤ 9223372036854775807) : Does Tryz.prog 95 [.one (int n)] [] (.one (str (decT n))) [] := by
  have e : decT n = Lib.itoa n := by unfold decT; rfl
  rw [e]
  refine does_of (k := 0) Tryz.func95 rfl Tryz.ntmps95 rfl rfl fun w F0 S0 ρ0 => ?_
  dsimp only [argT,argH]
  repeat' first|(apply p3;exact pu1;exact rfl)|refine cd ?_|(apply c4 0;exact callK1 (θ := []) (hD := (FormatInt_ok _ preB49 preB49));exact rfl;exact rfl;exact rfl;refine dM ?_)
  repeat refine cr ?_
  refine ends_id ?_
  refine endK [] (h2 := ?_) (h3 := ?_) (nd := ?_)
  all_goals (repeat' first|exact ce0|refine ce ?_|refine ce2 ?_ ?_|exact SVLe.refl|refine ceb ?_)
  all_goals first | exact (show nodupB _ = true from rfl) | exact Or.inr rfl | (rfl)
end Go.Proofs.YtjmlbmmbionmcaaGreatDoor
end
section
set_option linter.unusedVariables false
set_option linter.unusedSimpArgs false
set_option maxRecDepth 100000
set_option maxHeartbeats 4000000
namespace Go.Proofs.YtjmlbmmbionmcaaGreatDoor
open Go Foot
end Go.Proofs.YtjmlbmmbionmcaaGreatDoor
end
section
set_option linter.unusedVariables false
set_option linter.unusedSimpArgs false
set_option maxRecDepth 100000
set_option maxHeartbeats 4000000
namespace Go.Proofs.YtjmlbmmbionmcaaGreatDoor
open Go Foot
structure Rule' where
  w : Int
  m : Int
  n : Int
  deriving DecidableEq
abbrev eR : Enc Rule' := ⟨3,fun r => [.sc (.int .i64 r.w),.sc (.int .i64 r.m),.sc (.int .i64 r.n)],fun _ => rfl,by decide⟩
abbrev shR (l : List Rule') : C := .d (.sl false 3 (rows eR l))
abbrev ruC (r : Rule') : List C := [int r.w,int r.m,int r.n]
structure Mach where
  sy : Int
  st : Int
  ru : List Rule'
abbrev maC (m : Mach) : List C := [int m.sy,int m.st,shR m.ru]
structure Conf where
  st : Int
  le : List Int
  ri : List Int
abbrev coC (c : Conf) : List C := [int c.st,shI c.le,shI c.ri]
theorem preA2 {p : Prop} (h : p := by first | with_reducible assumption | omega | (simp only [List.length_append,List.length_cons,List.length_nil,List.length_set,List.length_replicate,List.length_take,List.length_drop,List.length_tail,List.length_dropLast,List.length_reverse] at *; omega) | trivial) : p := h
theorem szRuleS_ok (xs : List Rule') (left : Int) (h1 : left ≤ 1048576) (h2 : 0 ≤ left) (hx : (xs.length : Int) ≤ 9223372036854775807) : Does Tryz.prog 30 [.one (shR xs),.one (int left)] [] (.one (int (szL xs.length left))) [] := by
  refine does_of (k := 0) Tryz.func30 rfl Tryz.ntmps30 rfl rfl fun w F0 S0 ρ0 => ?_
  dsimp only [argT,argH]
  repeat' first|(apply p3;(first|exact pu1|exact puN|exact a_sub rfl rfl (by omega) (by omega)|exact puC);exact rfl)|refine cd ?_|((refine g_cond rfl (fun hc => ?_) (fun hc => ?_)) <;> (try simp only [dcB] at hc) <;> (try first|contradiction|(exfalso;omega)))
  all_goals
    repeat refine cr ?_
    refine ends_id ?_
    refine endK [] (h2 := ?_) (h3 := ?_) (nd := ?_)
    all_goals (repeat' first|exact ce0|refine ce ?_|refine ce2 ?_ ?_|exact SVLe.refl|refine ceb ?_)
    all_goals first | exact (show nodupB _ = true from rfl) | exact Or.inr rfl | ((unfold szL; simp [*]))
theorem szMachine_ok (m : Mach) (left : Int) (h1 : left ≤ 1048576) (h2 : 0 ≤ left) (hx : (m.ru.length : Int) ≤ 9223372036854775807) : Does Tryz.prog 6 [.agg (maC m),.one (int left)] [] (.one (int (szL m.ru.length left))) [] := by
  refine does_of (k := 0) Tryz.func6 rfl Tryz.ntmps6 rfl rfl fun w F0 S0 ρ0 => ?_
  dsimp only [argT,argH]
  repeat' first|(apply n3;exact a_new (gb := .bx _) rfl;exact rfl;refine dA ?_)|(apply p3;(first|exact pu1|exact puC);exact rfl)|refine cd ?_|(apply c4 0;exact callK1 (θ := []) (hD := (szRuleS_ok _ _ preA2 preA2 preA2));exact rfl;exact rfl;exact rfl;refine dM ?_)|((refine g_cond rfl (fun hc => ?_) (fun hc => ?_)) <;> (try simp only [dcB] at hc) <;> (try first|contradiction|(exfalso;omega)))
  · repeat refine cr ?_
    refine ends_id ?_
    refine endK [] (h2 := ?_) (h3 := ?_) (nd := ?_)
    all_goals (repeat' first|exact ce0|refine ce ?_|refine ce2 ?_ ?_|exact SVLe.refl|refine ceb ?_)
    all_goals first | exact (show nodupB _ = true from rfl) | exact Or.inr rfl | (((unfold szL at *; split at hc <;> simp_all <;> omega)))
  · repeat refine cr ?_
    refine ends_id ?_
    refine endK [] (h2 := ?_) (h3 := ?_) (nd := ?_)
    all_goals (repeat' first|exact ce0|refine ce ?_|refine ce2 ?_ ?_|exact SVLe.refl|refine ceb ?_)
    all_goals first | exact (show nodupB _ = true from rfl) | exact Or.inr rfl | (rfl)
theorem toRule_ok (r : Rule') : Does Tryz.prog 88 [.agg (ruC r)] [] (.agg (ruC r)) [] := by
  refine does_of (k := 0) Tryz.func88 rfl Tryz.ntmps88 rfl rfl fun w F0 S0 ρ0 => ?_
  dsimp only [argT,argH]
  repeat' first|(apply n3;exact a_new (gb := .bx _) rfl;exact rfl;refine dA ?_)|(apply p3;exact puL;exact rfl)|refine cd ?_|(apply w3;(exact a_st_bx rfl rfl rfl rfl (fN rfl rfl) (Nat.le_of_ble_eq_true rfl) rfl);exact rfl;refine dS ?_)
  repeat refine cr ?_
  refine ends_id ?_
  refine endK [] (h2 := ?_) (h3 := ?_) (nd := ?_)
  all_goals (repeat' first|exact ce0|refine ce ?_|refine ce2 ?_ ?_|exact SVLe.refl|refine ceb ?_)
  all_goals first | exact (show nodupB _ = true from rfl) | exact Or.inr rfl | (rfl)
theorem toRuleS_ok (xs : List Rule') (hx : (xs.length : Int) ≤ 1048576) : Does Tryz.prog 37 [.one (shR xs)] [] (.one (.gv 0)) [.row 3 (rows eR xs)] := by
  refine does_of (k := 0) Tryz.func37 rfl Tryz.ntmps37 rfl rfl fun w F0 S0 ρ0 => ?_
  dsimp only [argT,argH]
  repeat' first|(apply n3;exact a_make (fE rfl) (fZ rfl) (fP rfl) (by decide) rfl rfl (by omega) rfl (by omega) (by omega) (rows_rep eR ⟨0,0,0⟩ _);exact rfl;refine dA ?_)|(apply p3;(first|exact pu1|exact puN);exact rfl)|refine cd ?_
  refine g_loop_id ?_
  refine loopK [0,2,3] [0] (fun x : Int × List Rule' => 0 ≤ x.1 ∧ x.1 ≤ xs.length ∧ x.2.length = xs.length ∧ ∀ k (h : k < xs.length),k < x.1 → x.2[k]? = some xs[k]) (fun x => [(4,.one (int x.1))]) (fun x => [(0,.row 3 (rows eR x.2))]) (fun x => (xs.length - x.1).toNat) ((0 : Int),List.replicate xs.length (⟨0,0,0⟩ : Rule')) [0] (hI := ?_) (hr := ?_)
  · exact ⟨by simp,by simp,by simp,by intro k h h'; simp at h'; omega⟩
  · rintro ⟨i,l⟩ ⟨h0,h1,h2,h3⟩
    dsimp only [List.cons_append,List.nil_append] at *
    skip
    repeat' first|(apply p3;(first|exact pu1|exact puN|exact puC|exact a_add rfl rfl (by omega) (by omega)|exact puI);exact rfl)|refine cd ?_|(apply w3;(exact a_stE (E := eR) ⟨_,_,_⟩ rfl rfl rfl rfl (fN rfl rfl) bnd (by exact rfl));exact rfl;refine dS ?_)|(apply c4 0;exact callK1 (θ := []) (hD := (toRule_ok _));exact rfl;exact rfl;exact rfl;refine dM ?_)|((refine g_cond rfl (fun hc => ?_) (fun hc => ?_)) <;> (try simp only [dcB] at hc) <;> (try first|contradiction|(exfalso;omega)))
    · refine q_again (i + 1,_) [0] (by exact stk) ?_ ?_
      · refine ⟨by dsimp only; omega,by dsimp only; omega,by simp [h2],fun k h h' => ?_⟩
        dsimp only at h' ⊢
        rw [List.getElem?_set]
        split
        · rename_i e
          subst e
          rw [if_pos (by omega)]
          rfl
        · exact h3 k h (by omega)
      · dsimp only; omega
    · have hl : l = xs := by
        apply List.ext_getElem?
        intro k
        by_cases hk : k < xs.length
        · rw [h3 k hk (by omega),List.getElem?_eq_getElem hk]
        · rw [List.getElem?_eq_none (by omega),List.getElem?_eq_none (by omega)]
      subst hl
      repeat refine cr ?_
      refine ends_id ?_
      refine endK [?_] (h2 := ?_) (h3 := ?_) (nd := ?_)
      rotate_left 1
      all_goals (repeat' first|exact ce0|refine ce ?_|refine ce2 ?_ ?_|(refine Or.inr (bx_eq rfl rfl ?_);(try dsimp only [C.ren,C.ren.all]);(try exact rfl))|exact SVLe.refl|refine ceb ?_)
      all_goals first | exact (show nodupB _ = true from rfl) | exact Or.inr rfl | (rfl)
abbrev maO (m : Mach) (g : Nat) : List C := [int m.sy,int m.st,.gv g]
theorem toMachine_ok (m : Mach) (hx : (m.ru.length : Int) ≤ 1048576) : Does Tryz.prog 9 [.agg (maC m)] [] (.agg (maO m 0)) [.row 3 (rows eR m.ru)] := by
  refine does_of (k := 0) Tryz.func9 rfl Tryz.ntmps9 rfl rfl fun w F0 S0 ρ0 => ?_
  dsimp only [argT,argH]
  repeat' first|(apply n3;exact a_new (gb := .bx _) rfl;exact rfl;refine dA ?_)|(apply p3;exact puL;exact rfl)|refine cd ?_|(apply w3;(exact a_st_bx rfl rfl rfl rfl (fN rfl rfl) (Nat.le_of_ble_eq_true rfl) rfl);exact rfl;refine dS ?_)|(apply c4 1;exact callK1 (θ := []) (hD := (toRuleS_ok _ preA2));exact rfl;exact rfl;exact rfl;refine dM ?_)
  repeat refine cr ?_
  refine ends_id ?_
  refine endK [?_] (h2 := ?_) (h3 := ?_) (nd := ?_)
  rotate_left 1
  all_goals (repeat' first|exact ce0|refine ce ?_|refine ce2 ?_ ?_|(refine Or.inr (bx_eq rfl rfl ?_);(try dsimp only [C.ren,C.ren.all]);(try exact rfl))|exact SVLe.refl|refine ceb ?_)
  all_goals first | exact (show nodupB _ = true from rfl) | exact Or.inr rfl | (rfl)
abbrev coO (c : Conf) (g h : Nat) : List C := [int c.st,.gv g,.gv h]
theorem toConfig_ok (c : Conf) (h1 : (c.le.length : Int) ≤ 1048576) (h2 : (c.ri.length : Int) ≤ 1048576) : Does Tryz.prog 10 [.agg (coC c)] [] (.agg (coO c 0 1)) [.row 1 (rows eI c.le),.row 1 (rows eI c.ri)] := by
  refine does_of (k := 0) Tryz.func10 rfl Tryz.ntmps10 rfl rfl fun w F0 S0 ρ0 => ?_
  dsimp only [argT,argH]
  repeat' first|(apply n3;exact a_new (gb := .bx _) rfl;exact rfl;refine dA ?_)|(apply p3;exact puL;exact rfl)|refine cd ?_|(apply w3;(exact a_st_bx rfl rfl rfl rfl (fN rfl rfl) (Nat.le_of_ble_eq_true rfl) rfl);exact rfl;refine dS ?_)|(apply c4 1;exact callK1 (θ := []) (hD := (toInt64S_ok _ preA2));exact rfl;exact rfl;exact rfl;refine dM ?_)
  repeat refine cr ?_
  refine ends_id ?_
  refine endK [?_,?_] (h2 := ?_) (h3 := ?_) (nd := ?_)
  rotate_left 2
  all_goals (repeat' first|exact ce0|refine ce ?_|refine ce2 ?_ ?_|(refine Or.inr (bx_eq rfl rfl ?_);(try dsimp only [C.ren,C.ren.all]);(try exact rfl))|exact SVLe.refl|refine ceb ?_)
  all_goals first | exact (show nodupB _ = true from rfl) | exact Or.inr rfl | (rfl)
@[irreducible] def szC (c : Conf) (left : Int) : Int := if szL c.le.length left < 0 then -1 else szL c.ri.length (szL c.le.length left)
theorem szConfig_ok (c : Conf) (left : Int) (h1 : left ≤ 1048576) (h2 : 0 ≤ left) (hx : (c.le.length : Int) ≤ 9223372036854775807) (hy : (c.ri.length : Int) ≤ 9223372036854775807) : Does Tryz.prog 7 [.agg (coC c),.one (int left)] [] (.one (int (szC c left))) [] := by
  have h3 := szL_le (n := c.le.length) h1
  refine does_of (k := 0) Tryz.func7 rfl Tryz.ntmps7 rfl rfl fun w F0 S0 ρ0 => ?_
  dsimp only [argT,argH]
  repeat' first|(apply n3;exact a_new (gb := .bx _) rfl;exact rfl;refine dA ?_)|(apply p3;(first|exact pu1|exact puC);exact rfl)|refine cd ?_|(apply c4 0;exact callK1 (θ := []) (hD := (szInt64S_ok _ _ preA2 preA2 preA2));exact rfl;exact rfl;exact rfl;refine dM ?_)|((refine g_cond rfl (fun hc => ?_) (fun hc => ?_)) <;> (try simp only [dcB] at hc) <;> (try first|contradiction|(exfalso;omega)))
  · repeat refine cr ?_
    refine ends_id ?_
    refine endK [] (h2 := ?_) (h3 := ?_) (nd := ?_)
    all_goals (repeat' first|exact ce0|refine ce ?_|refine ce2 ?_ ?_|exact SVLe.refl|refine ceb ?_)
    all_goals first | exact (show nodupB _ = true from rfl) | exact Or.inr rfl | ((unfold szC; simp [*]))
  · repeat refine cr ?_
    refine ends_id ?_
    refine endK [] (h2 := ?_) (h3 := ?_) (nd := ?_)
    all_goals (repeat' first|exact ce0|refine ce ?_|refine ce2 ?_ ?_|exact SVLe.refl|refine ceb ?_)
    all_goals first | exact (show nodupB _ = true from rfl) | exact Or.inr rfl | ((rw [szC,if_neg (by assumption)]; exact (szL_neg (by assumption)).symm))
  · repeat refine cr ?_
    refine ends_id ?_
    refine endK [] (h2 := ?_) (h3 := ?_) (nd := ?_)
    all_goals (repeat' first|exact ce0|refine ce ?_|refine ce2 ?_ ?_|exact SVLe.refl|refine ceb ?_)
    all_goals first | exact (show nodupB _ = true from rfl) | exact Or.inr rfl | ((unfold szC; simp [*]))
@[irreducible] def eqR (a b : Rule') : Bool := decide (a = b)
theorem eqRule_ok (a b : Rule') : Does Tryz.prog 106 [.agg (ruC a),.agg (ruC b)] [] (.one (boo (eqR a b))) [] := by
  obtain ⟨a1,a2,a3⟩ := a
  obtain ⟨b1,b2,b3⟩ := b
  refine does_of (k := 0) Tryz.func106 rfl Tryz.ntmps106 rfl rfl fun w F0 S0 ρ0 => ?_
  dsimp only [argT,argH]
  repeat' first|(apply n3;exact a_new (gb := .bx _) rfl;exact rfl;refine dA ?_)|(apply p3;(first|exact a_ne rfl rfl|exact puL);exact rfl)|refine cd ?_|((refine g_cond rfl (fun hc => ?_) (fun hc => ?_)) <;> (try simp only [dcB] at hc) <;> (try first|contradiction|(exfalso;omega)))
  all_goals
    repeat refine cr ?_
    refine ends_id ?_
    refine endK [] (h2 := ?_) (h3 := ?_) (nd := ?_)
    all_goals (repeat' first|exact ce0|refine ce ?_|refine ce2 ?_ ?_|exact SVLe.refl|refine ceb ?_)
    all_goals first | exact (show nodupB _ = true from rfl) | exact Or.inr rfl | ((unfold eqR; symm; simp [*]))
@[irreducible] def eqRs (a b : List Rule') : Bool := decide (a = b)
theorem eqRuleS_ok (xs ys : List Rule') (hx : (xs.length : Int) ≤ 1048576) (hy : (ys.length : Int) ≤ 1048576) : Does Tryz.prog 47 [.one (shR xs),.one (shR ys)] [] (.one (boo (eqRs xs ys))) [] := by
  refine does_of (k := 0) Tryz.func47 rfl Tryz.ntmps47 rfl rfl fun w F0 S0 ρ0 => ?_
  dsimp only [argT,argH]
  repeat' first|(apply p3;(first|exact pu1|exact puN|exact a_ne rfl rfl);exact rfl)|refine cd ?_|((refine g_cond rfl (fun hc => ?_) (fun hc => ?_)) <;> (try simp only [dcB] at hc) <;> (try first|contradiction|(exfalso;omega)))
  · repeat refine cr ?_
    refine ends_id ?_
    refine endK [] (h2 := ?_) (h3 := ?_) (nd := ?_)
    all_goals (repeat' first|exact ce0|refine ce ?_|refine ce2 ?_ ?_|exact SVLe.refl|refine ceb ?_)
    all_goals first | exact (show nodupB _ = true from rfl) | exact Or.inr rfl | ((symm; unfold eqRs; rw [decide_eq_false_iff_not]; rintro rfl; omega))
  refine g_loop_id ?_
  refine loopK [0,1,4] [] (fun i : Int => 0 ≤ i ∧ i ≤ xs.length ∧ xs.take i.toNat = ys.take i.toNat) (fun i => [(5,.one (int i))]) (fun _ => []) (fun i => (xs.length - i).toNat) (0 : Int) [] (hI := ?_) (hr := ?_)
  · exact ⟨by simp,by simp,by simp⟩
  · rintro i ⟨h0,h1,h2⟩
    dsimp only [List.cons_append,List.nil_append] at *
    skip
    repeat' first|(apply p3;(first|exact pu1|exact puN|exact puC|exact a_add rfl rfl (by omega) (by omega));exact rfl)|refine cd ?_|(apply g_drN (id := 6) okM [[],[],[0,1],[0,1,2],[],[],[4,5],[4,5,6],[0,1,2,3,4,5,6,7],[0,1,2,3,4,5,6,7,8]] [([],[]),([],[]),([],[]),([],[]),([],[]),([],[]),([],[]),([],[]),([],[]),([],[])] 0;(focus (refine dp 0 0 [18,21,22,23,24] [] pu1 ?_;refine dp 1 0 [17,21,22,23,24] [] pu1 ?_;refine dp 2 3 [21,22,23,24] [] puI ?_;refine dp 3 7 [21,22,23,24] [] puL ?_;refine dp 4 0 [17,18,19,20,22] [] pu1 ?_;refine dp 5 0 [17,18,19,20,21] [] pu1 ?_;refine dp 6 3 [17,18,19,20] [] puI ?_;refine dp 7 7 [17,18,19,20] [] puL ?_;refine dp 8 255 [] [] (callD1 (n := _) 0 (θ := []) (hD := (eqRule_ok _ _))) ?_;refine dp 9 511 [] [] (a_pure (sv := .one _) rfl) ?_;(refine d_nil ?_;refine dN ?_)));any_goals kernel_rfl)|((refine g_cond rfl (fun hc => ?_) (fun hc => ?_)) <;> (try simp only [dcB] at hc) <;> (try first|contradiction|(exfalso;omega)))
    · repeat refine cr ?_
      refine ends_id ?_
      refine endK [] (h2 := ?_) (h3 := ?_) (nd := ?_)
      all_goals (repeat' first|exact ce0|refine ce ?_|refine ce2 ?_ ?_|exact SVLe.refl|refine ceb ?_)
      all_goals first | exact (show nodupB _ = true from rfl) | exact Or.inr rfl | ((symm; unfold eqRs; rw [decide_eq_false_iff_not]; rintro rfl; unfold eqR at *; simp_all))
    · refine q_again (i + 1) [] (by exact stk) ?_ ?_
      · exact ⟨by omega,by omega,take_next h0 (by omega) (by omega) h2 (by unfold eqR at *; simp_all)⟩
      · omega
    · have hl := take_end (by omega) (by omega) h2
      repeat refine cr ?_
      refine ends_id ?_
      refine endK [] (h2 := ?_) (h3 := ?_) (nd := ?_)
      all_goals (repeat' first|exact ce0|refine ce ?_|refine ce2 ?_ ?_|exact SVLe.refl|refine ceb ?_)
      all_goals first | exact (show nodupB _ = true from rfl) | exact Or.inr rfl | ((symm; unfold eqRs; rw [decide_eq_true_eq]; exact hl))
@[irreducible] def eqM (a b : Mach) : Bool := decide (a.sy = b.sy ∧ a.st = b.st ∧ a.ru = b.ru)
theorem eqMachine_ok (a b : Mach) (ha : (a.ru.length : Int) ≤ 1048576) (hb : (b.ru.length : Int) ≤ 1048576) : Does Tryz.prog 13 [.agg (maC a),.agg (maC b)] [] (.one (boo (eqM a b))) [] := by
  refine does_of (k := 0) Tryz.func13 rfl Tryz.ntmps13 rfl rfl fun w F0 S0 ρ0 => ?_
  dsimp only [argT,argH]
  repeat' first|(apply n3;exact a_new (gb := .bx _) rfl;exact rfl;refine dA ?_)|(apply p3;(first|exact a_ne rfl rfl|exact puL);exact rfl)|refine cd ?_|(apply c4 0;exact callK1 (θ := []) (hD := (eqRuleS_ok _ _ preA2 preA2));exact rfl;exact rfl;exact rfl;refine dM ?_)|((refine g_cond rfl (fun hc => ?_) (fun hc => ?_)) <;> (try simp only [dcB] at hc) <;> (try first|contradiction|(exfalso;omega)))
  all_goals
    repeat refine cr ?_
    refine ends_id ?_
    refine endK [] (h2 := ?_) (h3 := ?_) (nd := ?_)
    all_goals (repeat' first|exact ce0|refine ce ?_|refine ce2 ?_ ?_|exact SVLe.refl|refine ceb ?_)
    all_goals first | exact (show nodupB _ = true from rfl) | exact Or.inr rfl | ((symm; unfold eqM; (try unfold eqRs at *); simp_all))
@[irreducible] def eqC (a b : Conf) : Bool := decide (a.st = b.st ∧ a.le = b.le ∧ a.ri = b.ri)
theorem eqConfig_ok (a b : Conf) (h1 : (a.le.length : Int) ≤ 1048576) (h2 : (b.le.length : Int) ≤ 1048576) (h3 : (a.ri.length : Int) ≤ 1048576) (h4 : (b.ri.length : Int) ≤ 1048576) : Does Tryz.prog 12 [.agg (coC a),.agg (coC b)] [] (.one (boo (eqC a b))) [] := by
  refine does_of (k := 0) Tryz.func12 rfl Tryz.ntmps12 rfl rfl fun w F0 S0 ρ0 => ?_
  dsimp only [argT,argH]
  repeat' first|(apply n3;exact a_new (gb := .bx _) rfl;exact rfl;refine dA ?_)|(apply p3;(first|exact a_ne rfl rfl|exact puL);exact rfl)|refine cd ?_|(apply c4 0;exact callK1 (θ := []) (hD := (eqInt64S_ok _ _ preA2 preA2));exact rfl;exact rfl;exact rfl;refine dM ?_)|((refine g_cond rfl (fun hc => ?_) (fun hc => ?_)) <;> (try simp only [dcB] at hc) <;> (try first|contradiction|(exfalso;omega)))
  all_goals
    repeat refine cr ?_
    refine ends_id ?_
    refine endK [] (h2 := ?_) (h3 := ?_) (nd := ?_)
    all_goals (repeat' first|exact ce0|refine ce ?_|refine ce2 ?_ ?_|exact SVLe.refl|refine ceb ?_)
    all_goals first | exact (show nodupB _ = true from rfl) | exact Or.inr rfl | ((symm; unfold eqC; (try unfold eqI at *); simp_all))
end Go.Proofs.YtjmlbmmbionmcaaGreatDoor
end
section
set_option linter.unusedVariables false
set_option linter.unusedSimpArgs false
set_option maxRecDepth 100000
set_option maxHeartbeats 4000000
namespace Go.Proofs.YtjmlbmmbionmcaaGreatDoor
open Go Foot
theorem rule_eq1 : Tryz.prog.stoodInHeld 110 = false := by kernel_rfl
theorem rule_eq2 : Tryz.prog.eqGuardType Tryz.prog.depth 110 = false := by kernel_rfl
theorem rule_eq3 : Tryz.prog.underlying 110 = some (.struct (Tryz.prog.fieldsOf 110)) := by kernel_rfl
theorem rule_equal (r s : Rule') (W : World) : (Op.equalIn 10000 110 (.agg #[.int .i64 r.w,.int .i64 r.m,.int .i64 r.n]) (.agg #[.int .i64 s.w,.int .i64 s.m,.int .i64 s.n])).run Tryz.prog W = .ok (decide (r = s)) W := by
  obtain ⟨a,b,c⟩ := r
  obtain ⟨a',b',c'⟩ := s
  rw [run_equalIn_struct W 9999 _ _ _ rule_eq3 rule_eq1]
  have hf : Tryz.prog.fieldsOf 110 = match Tryz.prog.underlying 110 with | some (.struct fs) => fs | _ => #[] := by kernel_rfl
  rw [hf,Tryz.underlying110]
  by_cases h1 : a = a' <;> by_cases h2 : b = b' <;> by_cases h3 : c = c' <;> simp [go_sem,Tryz.underlying2,h1,h2,h3]
theorem rule_guard (op : BinOp) (p q : Operand) (xs ys : Array Value) (W : World) : (eqGuard op 110 p q (.agg xs) (.agg ys)).run Tryz.prog W = .ok () W := by
  unfold eqGuard
  cases op <;> simp [program,Sem.run,rule_eq2]
section
variable {g : Gh} {st : St} {dst : Option Tmp} {ty : TypeId} {pos : String} {after : Array Edge} {guard : Option (Nat × Bool)} {x y : Operand} {U : TypeId} {r s : Rule'}
theorem agg3 {w : World} {S : Foot} {ρ : Env} {r : Rule'} {v : Value} (h : RepS w S ρ (.agg (ruC r)) v) : v = .agg #[.int .i64 r.w,.int .i64 r.m,.int .i64 r.n] := by
  obtain ⟨vs,rfl,h⟩ := h
  simp only [RepCs,RepC,Rep] at h
  obtain ⟨v1,u1,e1,⟨rfl,_⟩,v2,u2,rfl,⟨rfl,_⟩,v3,u3,rfl,⟨rfl,_⟩,rfl⟩ := h
  cases vs
  simp at e1
  rw [e1]
theorem a_eqRule (e1 : opd st x = .agg (ruC r)) (e2 : opd st y = .agg (ruC s)) : Acts Tryz.prog g ⟨dst,.binOp .eql 110 x y U,ty,pos,after,guard⟩ st (.one (boo (decide (r = s)))) [] [] := by
  refine acts_of fun a w S ρ F h => ⟨.bool (decide (r = s)),?_,rfl,rfl⟩
  have h1 := h.opd x
  have h2 := h.opd y
  rw [e1] at h1
  rw [e2] at h2
  show (do pure (.value (← (do eqGuard .eql 110 x y (a.eval x) (a.eval y); binOp .eql 110 (a.eval x) (a.eval y)))) : Sem Next).run _ w = _
  rw [agg3 h1,agg3 h2]
  simp [rule_guard,run_eql_struct,rule_equal]
theorem a_neRule (e1 : opd st x = .agg (ruC r)) (e2 : opd st y = .agg (ruC s)) : Acts Tryz.prog g ⟨dst,.binOp .neq 110 x y U,ty,pos,after,guard⟩ st (.one (boo (!decide (r = s)))) [] [] := by
  refine acts_of fun a w S ρ F h => ⟨.bool (!decide (r = s)),?_,rfl,rfl⟩
  have h1 := h.opd x
  have h2 := h.opd y
  rw [e1] at h1
  rw [e2] at h2
  show (do pure (.value (← (do eqGuard .neq 110 x y (a.eval x) (a.eval y); binOp .neq 110 (a.eval x) (a.eval y)))) : Sem Next).run _ w = _
  rw [agg3 h1,agg3 h2]
  simp [rule_guard,run_neq_struct,rule_equal]
end
@[irreducible] def trimR (l : List Int) : List Int := (l.reverse.dropWhile (· == 0)).reverse
theorem trimR_len (l : List Int) : (trimR l).length ≤ l.length := by
  unfold trimR
  rw [List.length_reverse]
  have := (List.dropWhile_sublist (· == (0 : Int)) (l := l.reverse)).length_le
  rwa [List.length_reverse] at this
theorem l05None_ok : Does Tryz.prog 87 [] [] (.agg [int 0,int 0,int (-1)]) [] := by
  refine does_of (k := 0) Tryz.func87 rfl Tryz.ntmps87 rfl rfl fun w F0 S0 ρ0 => ?_
  dsimp only [argT,argH]
  repeat' first|(apply n3;exact a_new (gb := .bx _) rfl;exact rfl;refine dA ?_)|(apply p3;exact a_pure (sv := .agg _) rfl;exact rfl)|refine cd ?_|(apply w3;(exact a_st_bx rfl rfl rfl rfl (fN rfl rfl) (Nat.le_of_ble_eq_true rfl) rfl);exact rfl;refine dS ?_)
  repeat refine cr ?_
  refine ends_id ?_
  refine endK [] (h2 := ?_) (h3 := ?_) (nd := ?_)
  all_goals (repeat' first|exact ce0|refine ce ?_|refine ce2 ?_ ?_|exact SVLe.refl|refine ceb ?_)
  all_goals first | exact (show nodupB _ = true from rfl) | exact Or.inr rfl | (rfl)
@[irreducible] def okRule (sy st : Int) (r : Rule') : Bool := decide (r = ⟨0,0,-1⟩ ∨ (0 ≤ r.w ∧ r.w ≤ sy - 1) ∧ (r.m = 1 ∨ r.m = -1) ∧ 0 ≤ r.n ∧ r.n ≤ st - 1)
theorem l05Rule_ok (r : Rule') (sy st : Int) (h1 : -1000 ≤ sy) (h2 : sy ≤ 1000) (h3 : -1000 ≤ st) (h4 : st ≤ 1000) : Does Tryz.prog 126 [.agg (ruC r),.one (int sy),.one (int st)] [] (.one (boo (okRule sy st r))) [] := by
  refine does_of (k := 0) Tryz.func126 rfl Tryz.ntmps126 rfl rfl fun w F0 S0 ρ0 => ?_
  dsimp only [argT,argH]
  repeat' first|(apply n3;exact a_new (gb := .bx _) rfl;exact rfl;refine dA ?_)|(apply p3;(first|exact pu1|exact a_sub rfl rfl (by omega) (by omega));exact rfl)|refine cd ?_|(apply c4 0;exact callK1 (θ := []) (hD := (l00In_ok _ _ _));exact rfl;exact rfl;exact rfl;refine dM ?_)|refine o_no rfl rfl rfl rfl ?_|(apply py3;exact rfl;exact rfl;(first|exact pu1|exact a_sub rfl rfl (by omega) (by omega)|exact puC);exact rfl;exact rfl)|(apply cy4 0;exact rfl;exact rfl;exact callK1 (θ := []) (hD := (l00In_ok _ _ _));exact rfl;exact rfl;exact rfl;exact rfl;refine dM ?_)|(apply g_drN (id := 1) okM [[],[],[0,1]] [([],[]),([],[]),([],[])] 0;(focus (refine dp 0 0 [8] [] puL ?_;refine dp 1 0 [7] [] (callD1 (n := _) 0 (θ := []) (hD := l05None_ok)) ?_;refine dp 2 3 [] [] (by exact a_eqRule (s := ⟨_,_,_⟩) rfl rfl) ?_;(refine d_nil ?_;refine dN ?_)));any_goals kernel_rfl)|((first|refine o_gs rfl rfl (fun hc => ?_) (fun hc => ?_)|refine g_cond rfl (fun hc => ?_) (fun hc => ?_)) <;> (try simp only [dcB] at hc) <;> (try first|contradiction|(exfalso;omega)))
  all_goals
    repeat refine cr ?_
    refine ends_id ?_
    refine endK [] (h2 := ?_) (h3 := ?_) (nd := ?_)
    all_goals (repeat' first|exact ce0|refine ce ?_|refine ce2 ?_ ?_|exact SVLe.refl|refine ceb ?_)
    all_goals first | exact (show nodupB _ = true from rfl) | exact Or.inr rfl | ((unfold okRule; simp_all <;> omega))
end Go.Proofs.YtjmlbmmbionmcaaGreatDoor
end
section
set_option linter.unusedVariables false
set_option linter.unusedSimpArgs false
set_option maxRecDepth 100000
set_option maxHeartbeats 4000000
namespace Go.Proofs.YtjmlbmmbionmcaaGreatDoor
open Go Foot
abbrev maB (m : Mach) : C := .d (.bx false [.sc (.int .i64 m.sy),.sc (.int .i64 m.st),.sl false 3 (rows eR m.ru)])
abbrev coB (c : Conf) : C := .d (.bx false [.sc (.int .i64 c.st),.sl false 1 (rows eI c.le),.sl false 1 (rows eI c.ri)])
@[irreducible] def vMach (m : Mach) : Bool := decide ((2 ≤ m.sy ∧ m.sy ≤ 6) ∧ (1 ≤ m.st ∧ m.st ≤ 1000) ∧ (m.ru.length : Int) = m.sy * m.st) && m.ru.all (okRule m.sy m.st)
theorem vMach_bd {m : Mach} (h : vMach m = true) : (2 ≤ m.sy ∧ m.sy ≤ 6) ∧ (1 ≤ m.st ∧ m.st ≤ 1000) ∧ (m.ru.length : Int) = m.sy * m.st := by
  unfold vMach at h
  simp only [Bool.and_eq_true,decide_eq_true_eq] at h
  exact h.1
theorem preB2 {p : Prop} (h : p := by first | with_reducible assumption | omega | (simp only [List.length_append,List.length_cons,List.length_nil,List.length_set,List.length_replicate,List.length_take,List.length_drop,List.length_tail,List.length_dropLast,List.length_reverse] at *; omega) | exact mem_len (by assumption) (by omega) | (with_reducible refine Int.le_trans (Int.ofNat_le.2 (trimR_len _)) ?_; simp only [List.length_cons,List.length_tail]; omega) | (have := vMach_bd (by assumption); omega) | trivial) : p := h
theorem l05Is_ok (m : Mach) (hm : (m.ru.length : Int) ≤ 16777216) : Does Tryz.prog 77 [.one (maB m)] [] (.one (boo (vMach m))) [] := by
  refine does_of (k := 0) Tryz.func77 rfl Tryz.ntmps77 rfl rfl fun w F0 S0 ρ0 => ?_
  dsimp only [argT,argH]
  repeat' first|(apply p3;(exact pu1);exact rfl)|refine cd ?_|(apply g_drN (id := 1) okM ([] :: [0] :: [0,1] :: [0,1,2] :: [0,1,2,3] :: [0,1,2,3,4] :: [0,1,2,3,4,5] :: [0,1,2,3,4,5,6] :: [0,1,2,3,4,5,6,7] :: [0,1,2,3,4,5,6,7,8] :: [0,1,2,3,4,5,6,7,8,9] :: [0,1,2,3,4,5,6,7,8,9,10] :: [0,1,2,3,4,5,6,7,8,9,10,11] :: [0,1,2,3,4,5,6,7,8,9,10,11,12] :: [0,1,2,3,4,5,6,7,8,9,10,11,12,13] :: [0,1,2,3,4,5,6,7,8,9,10,11,12,13,14] :: [0,1,2,3,4,5,6,7,8,9,10,11,12,13,14,15] :: [0,1,2,3,4,5,6,7,8,9,10,11,12,13,14,15,16] :: [0,1,2,3,4,5,6,7,8,9,10,11,12,13,14,15,16,17] :: [0,1,2,3,4,5,6,7,8,9,10,11,12,13,14,15,16,17,18] :: [0,1,2,3,4,5,6,7,8,9,10,11,12,13,14] :: [0,1,2,3,4,5,6,7,8,9,10,11,12,13,14,20] :: [0,1,2,3,4,5,6,7,8,9,10,11,12,13,14,20,21] :: [0,1,2,3,4,5,6,7,8,9,10,11,12,13,14,20,21,22] :: [0,1,2,3,4,5,6,7,8,9,10,11,12,13,14] :: [0,1,2,3,4,5,6,7,8,9,10,11,12,13,14,24] :: [0,1,2,3,4,5,6,7,8,9,10,11,12,13,14,24,25] :: [0,1,2,3,4,5,6,7,8,9,10,11,12,13,14,24,25,26] :: [0,1,2,3,4,5,6,7,8,9,10,11,12,13,14,20,21,22,23,24,25,26,27] :: [0,1,2,3,4,5,6,7,8,9,10,11,12,13,14,15,16,17,18,19,20,21,22,23,24,25,26,27,28] :: [0,1,2,3,4,5,6,7,8,9,10,11,12,13,14,15,16,17,18,19,20,21,22,23,24,25,26,27,28,29] :: []) (([],[]) :: ([],[]) :: ([],[]) :: ([],[]) :: ([],[]) :: ([],[]) :: ([],[]) :: ([],[]) :: ([],[]) :: ([],[]) :: ([],[]) :: ([],[]) :: ([],[]) :: ([],[]) :: ([],[]) :: ([],[]) :: ([],[]) :: ([],[]) :: ([],[]) :: ([],[]) :: ([],[]) :: ([],[]) :: ([],[]) :: ([],[]) :: ([],[]) :: ([],[]) :: ([],[]) :: ([],[]) :: ([],[]) :: ([],[]) :: ([],[]) :: []) 0;(focus (all_goals refine dp 0 0 [] [] pu1 ?_;all_goals refine dp 1 1 [] [] (a_pure (sv := .one _) rfl) ?_;all_goals refine dp 2 3 [] [] (a_pure (sv := .one _) rfl) ?_;all_goals refine dp 3 7 [] [] puL ?_;all_goals refine dp 4 15 [] [] (callD1 (n := _) 0 (θ := []) (hD := (l00In_ok _ _ _))) ?_;all_goals refine dp 5 31 [] [] (a_pure (sv := .one _) rfl) ?_;all_goals (refine db 6 63 [] [] pu1 ?_ ?_ <;> (intro hc;first|cases hc|(try simp only [dcB] at hc);first|contradiction|(exfalso;omega)|skip));all_goals (first|refine dn 7 127 [] [] ?_|refine dpy 7 127 [] [] pu1 ?_);all_goals (first|refine dn 8 255 [] [] ?_|refine dpy 8 255 [] [] (a_pure (sv := .one _) rfl) ?_);all_goals (first|refine dn 9 511 [] [] ?_|refine dpy 9 511 [] [] (a_pure (sv := .one _) rfl) ?_);all_goals (first|refine dn 10 1023 [] [] ?_|refine dpy 10 1023 [] [] puL ?_);all_goals (first|refine dn 11 2047 [] [] ?_|refine dpy 11 2047 [] [] (callD1 (n := _) 0 (θ := []) (hD := (l00In_ok _ _ _))) ?_);all_goals (first|refine dn 12 4095 [] [] ?_|refine dpy 12 4095 [] [] (a_pure (sv := .one _) rfl) ?_);all_goals refine dp 13 8191 [] [] (a_pure (sv := .one _) rfl) ?_;all_goals (refine db 14 16383 [] [] pu1 ?_ ?_ <;> (intro hc;first|cases hc|(try simp only [dcB] at hc);first|contradiction|(exfalso;omega)|skip));all_goals (first|refine dn 15 32767 [24,25,26,27,28,29,30,31,32] [] ?_|refine dpy 15 32767 [24,25,26,27,28,29,30,31,32] [] pu1 ?_);all_goals (first|refine dn 16 65535 [24,25,26,27,28,29,30,31,32] [] ?_|refine dpy 16 65535 [24,25,26,27,28,29,30,31,32] [] (a_pure (sv := .one _) rfl) ?_);all_goals (first|refine dn 17 131071 [24,25,26,27,28,29,30,31,32] [] ?_|refine dpy 17 131071 [24,25,26,27,28,29,30,31,32] [] (a_pure (sv := .one _) rfl) ?_);all_goals (first|refine dn 18 262143 [24,25,26,27,28,29,30,31,32] [] ?_|refine dpy 18 262143 [24,25,26,27,28,29,30,31,32] [] puL ?_);all_goals (first|refine dn 19 524287 [24,25,26,27,28,29,30,31,32] [] ?_|refine dpy 19 524287 [24,25,26,27,28,29,30,31,32] [] (by first|exact puN|exact a_pure (sv := .one _) rfl|exact a_len_str rfl (fT rfl)) ?_);all_goals (first|refine dn 20 1048544 [19,20,21,22,23,28,29,30,31] [] ?_|refine dpy 20 1048544 [19,20,21,22,23,28,29,30,31] [] pu1 ?_);all_goals (first|refine dn 21 2097089 [19,20,21,22,23,28,29,30,31] [] ?_|refine dpy 21 2097089 [19,20,21,22,23,28,29,30,31] [] (a_pure (sv := .one _) rfl) ?_);all_goals (first|refine dn 22 4194179 [19,20,21,22,23,28,29,30,31] [] ?_|refine dpy 22 4194179 [19,20,21,22,23,28,29,30,31] [] (a_pure (sv := .one _) rfl) ?_);all_goals (first|refine dn 23 8388359 [19,20,21,22,23,28,29,30,31] [] ?_|refine dpy 23 8388359 [19,20,21,22,23,28,29,30,31] [] puL ?_);all_goals (first|refine dn 24 16776704 [19,20,21,22,23,24,25,26,27] [] ?_|refine dpy 24 16776704 [19,20,21,22,23,24,25,26,27] [] pu1 ?_);all_goals (first|refine dn 25 33553409 [19,20,21,22,23,24,25,26,27] [] ?_|refine dpy 25 33553409 [19,20,21,22,23,24,25,26,27] [] (a_pure (sv := .one _) rfl) ?_);all_goals (first|refine dn 26 67106819 [19,20,21,22,23,24,25,26,27] [] ?_|refine dpy 26 67106819 [19,20,21,22,23,24,25,26,27] [] (a_pure (sv := .one _) rfl) ?_);all_goals (first|refine dn 27 134213639 [19,20,21,22,23,24,25,26,27] [] ?_|refine dpy 27 134213639 [19,20,21,22,23,24,25,26,27] [] puL ?_);all_goals (first|refine dn 28 268427519 [19,20,21,22,23] [] ?_|refine dpy 28 268427519 [19,20,21,22,23] [] (by first|exact a_mulB rfl rfl (by omega) (by omega) (by omega) (by omega)|exact a_mul rfl rfl (by first|omega|assumption) (by first|omega|assumption)) ?_);all_goals (first|refine dn 29 536870911 [] [] ?_|refine dpy 29 536870911 [] [] (by first|exact a_ne rfl rfl|exact a_neS rfl rfl rfl) ?_);all_goals refine dp 30 1073741823 [] [] (a_pure (sv := .one _) rfl) ?_;all_goals (refine d_nil ?_;refine dN ?_)));any_goals kernel_rfl)|((refine g_cond rfl (fun hc => ?_) (fun hc => ?_)) <;> (try simp only [dcB] at hc) <;> (try first|contradiction|(exfalso;omega)))
  · repeat refine cr ?_
    refine ends_id ?_
    refine endK [] (h2 := ?_) (h3 := ?_) (nd := ?_)
    all_goals (repeat' first|exact ce0|refine ce ?_|refine ce2 ?_ ?_|exact SVLe.refl|refine ceb ?_)
    all_goals first | exact (show nodupB _ = true from rfl) | exact Or.inr rfl | ((unfold vMach; first | (simp [*]; done) | (rw [decide_eq_false] <;> first | rfl | omega | (simp; done)) | (rw [decide_eq_true] <;> first | rfl | omega | (simp [*]; done)) | (simp_all; done) | (simp_all; omega)))
  · repeat refine cr ?_
    refine ends_id ?_
    refine endK [] (h2 := ?_) (h3 := ?_) (nd := ?_)
    all_goals (repeat' first|exact ce0|refine ce ?_|refine ce2 ?_ ?_|exact SVLe.refl|refine ceb ?_)
    all_goals first | exact (show nodupB _ = true from rfl) | exact Or.inr rfl | ((unfold vMach; first | (simp [*]; done) | (rw [decide_eq_false] <;> first | rfl | omega | (simp; done)) | (rw [decide_eq_true] <;> first | rfl | omega | (simp [*]; done)) | (simp_all; done) | (simp_all; omega)))
  · repeat refine cr ?_
    refine ends_id ?_
    refine endK [] (h2 := ?_) (h3 := ?_) (nd := ?_)
    all_goals (repeat' first|exact ce0|refine ce ?_|refine ce2 ?_ ?_|exact SVLe.refl|refine ceb ?_)
    all_goals first | exact (show nodupB _ = true from rfl) | exact Or.inr rfl | ((unfold vMach; first | (simp [*]; done) | (rw [decide_eq_false] <;> first | rfl | omega | (simp; done)) | (rw [decide_eq_true] <;> first | rfl | omega | (simp [*]; done)) | (simp_all; done) | (simp_all; omega)))
  refine g_loop_id ?_
  refine loopK [0] [] (fun i : Int => 0 ≤ i ∧ i ≤ m.ru.length ∧ (m.ru.take i.toNat).all (okRule m.sy m.st) = true) (fun i => [(3,.one (int i))]) (fun _ => []) (fun i => (m.ru.length - i).toNat) (0 : Int) [] (hI := ?_) (hr := ?_)
  · exact ⟨by omega,by omega,rfl⟩
  · rintro i ⟨h0,h1,h2⟩
    dsimp only [List.cons_append,List.nil_append] at *
    skip
    repeat' first|(apply p3;(first|exact pu1|exact puN|exact puC|exact a_add rfl rfl (by omega) (by omega));exact rfl)|refine cd ?_|(apply g_drN (id := 6) okM [[],[0],[0,1],[0,1,2],[],[0,1,2,3,4],[0,1,2,3,4,5],[],[7],[7,8],[7,8,9],[],[11],[11,12],[11,12,13],[0,1,2,3,4,5,6,7,8,9,10,11,12,13,14],[0,1,2,3,4,5,6,7,8,9,10,11,12,13,14,15]] [([],[]),([],[]),([],[]),([],[]),([],[]),([],[]),([],[]),([],[]),([],[]),([],[]),([],[]),([],[]),([],[]),([],[]),([],[]),([],[]),([],[])] 0;(focus (refine dp 0 0 [48,51,52,53,54,55,56,57,58] [] pu1 ?_;refine dp 1 1 [48,51,52,53,54,55,56,57,58] [] (a_pure (sv := .one _) rfl) ?_;refine dp 2 3 [48,51,52,53,54,55,56,57,58] [] (a_pure (sv := .one _) rfl) ?_;refine dp 3 7 [48,51,52,53,54,55,56,57,58] [] puL ?_;refine dp 4 0 [44,45,46,47,51,52,53,54,55,56,57,58] [] pu1 ?_;refine dp 5 31 [51,52,53,54,55,56,57,58] [] puI ?_;refine dp 6 63 [51,52,53,54,55,56,57,58] [] puL ?_;refine dp 7 0 [44,45,46,47,48,49,50,55,56,57,58] [] pu1 ?_;refine dp 8 1 [44,45,46,47,48,49,50,55,56,57,58] [] (a_pure (sv := .one _) rfl) ?_;refine dp 9 3 [44,45,46,47,48,49,50,55,56,57,58] [] (a_pure (sv := .one _) rfl) ?_;refine dp 10 7 [44,45,46,47,48,49,50,55,56,57,58] [] puL ?_;refine dp 11 0 [44,45,46,47,48,49,50,51,52,53,54] [] pu1 ?_;refine dp 12 1 [44,45,46,47,48,49,50,51,52,53,54] [] (a_pure (sv := .one _) rfl) ?_;refine dp 13 3 [44,45,46,47,48,49,50,51,52,53,54] [] (a_pure (sv := .one _) rfl) ?_;refine dp 14 7 [44,45,46,47,48,49,50,51,52,53,54] [] puL ?_;refine dp 15 32767 [] [] (callD1 (n := _) 0 (θ := []) (hD := (l05Rule_ok _ _ _ preB2 preB2 preB2 preB2))) ?_;refine dp 16 65535 [] [] (a_pure (sv := .one _) rfl) ?_;(refine d_nil ?_;refine dN ?_)));any_goals kernel_rfl)|((refine g_cond rfl (fun hc => ?_) (fun hc => ?_)) <;> (try simp only [dcB] at hc) <;> (try first|contradiction|(exfalso;omega)))
    · repeat refine cr ?_
      refine ends_id ?_
      refine endK [] (h2 := ?_) (h3 := ?_) (nd := ?_)
      all_goals (repeat' first|exact ce0|refine ce ?_|refine ce2 ?_ ?_|exact SVLe.refl|refine ceb ?_)
      all_goals first | exact (show nodupB _ = true from rfl) | exact Or.inr rfl | ((unfold vMach; rw [all_no _ _ i.toNat (by omega) (by rw [hc]; simp)]; simp))
    · refine q_again (i + 1) [] (by exact stk) ?_ ?_
      · exact ⟨by omega,by omega,all_snocI _ _ _ h0 (by omega) h2 hc⟩
      · omega
    · repeat refine cr ?_
      refine ends_id ?_
      refine endK [] (h2 := ?_) (h3 := ?_) (nd := ?_)
      all_goals (repeat' first|exact ce0|refine ce ?_|refine ce2 ?_ ?_|exact SVLe.refl|refine ceb ?_)
      all_goals first | exact (show nodupB _ = true from rfl) | exact Or.inr rfl | ((unfold vMach; rw [List.take_of_length_le (by omega)] at h2; simp_all))
@[irreducible] def vSide (sy : Int) (l : List Int) : Bool := l.all (fun x => decide (0 ≤ x ∧ x ≤ sy - 1)) && decide ((l.length : Int) ≤ 200 ∧ l.getLastD 1 ≠ 0)
theorem l05Cells_ok (m : Mach) (xs : List Int) (hx : (xs.length : Int) ≤ 16777216) (h1 : -1000 ≤ m.sy) (h2 : m.sy ≤ 1000) : Does Tryz.prog 127 [.one (maB m),.one (shI xs)] [] (.one (boo (vSide m.sy xs))) [] := by
  refine does_of (k := 0) Tryz.func127 rfl Tryz.ntmps127 rfl rfl fun w F0 S0 ρ0 => ?_
  dsimp only [argT,argH]
  repeat' first|(apply p3;(exact pu1);exact rfl)|refine cd ?_
  refine g_loop_id ?_
  refine loopK [0,1] [] (fun i : Int => 0 ≤ i ∧ i ≤ xs.length ∧ (xs.take i.toNat).all (fun x => decide (0 ≤ x ∧ x ≤ m.sy - 1)) = true) (fun i => [(5,.one (int i))]) (fun _ => []) (fun i => (xs.length - i).toNat) (0 : Int) [] (hI := ?_) (hr := ?_)
  · exact ⟨by omega,by omega,rfl⟩
  · rintro i ⟨h0,h1,h2⟩
    dsimp only [List.cons_append,List.nil_append] at *
    skip
    repeat' first|(apply p3;(first|exact pu1|exact puN|exact puC|exact a_add rfl rfl (by omega) (by omega));exact rfl)|refine cd ?_|refine o_no rfl rfl rfl rfl ?_|(apply py3;exact rfl;exact rfl;(first|exact pu1|exact puN|exact puC|exact a_sub rfl rfl (by omega) (by omega)|exact a_ne rfl rfl|exact puI);exact rfl;exact rfl)|(apply g_drN (id := 4) okM [[],[],[0,1],[0,1,2],[],[4],[4,5],[4,5,6],[4,5,6,7],[0,1,2,3,4,5,6,7,8],[0,1,2,3,4,5,6,7,8,9]] [([],[]),([],[]),([],[]),([],[]),([],[]),([],[]),([],[]),([],[]),([],[]),([],[]),([],[])] 0;(focus (refine dp 0 0 [13,16,17,18,19,20] [] pu1 ?_;refine dp 1 0 [12,16,17,18,19,20] [] pu1 ?_;refine dp 2 3 [16,17,18,19,20] [] puI ?_;refine dp 3 7 [16,17,18,19,20] [] puL ?_;refine dp 4 0 [12,13,14,15] [] pu1 ?_;refine dp 5 1 [12,13,14,15] [] (a_pure (sv := .one _) rfl) ?_;refine dp 6 3 [12,13,14,15] [] (a_pure (sv := .one _) rfl) ?_;refine dp 7 7 [12,13,14,15] [] puL ?_;refine dp 8 15 [12,13,14,15] [] (a_sub rfl rfl (by omega) (by omega)) ?_;refine dp 9 511 [] [] (callD1 (n := _) 0 (θ := []) (hD := (l00In_ok _ _ _))) ?_;refine dp 10 1023 [] [] (a_pure (sv := .one _) rfl) ?_;(refine d_nil ?_;refine dN ?_)));any_goals kernel_rfl)|((first|refine o_gs rfl rfl (fun hc => ?_) (fun hc => ?_)|refine g_cond rfl (fun hc => ?_) (fun hc => ?_)) <;> (try simp only [dcB] at hc) <;> (try first|contradiction|(exfalso;omega)))
    · repeat refine cr ?_
      refine ends_id ?_
      refine endK [] (h2 := ?_) (h3 := ?_) (nd := ?_)
      all_goals (repeat' first|exact ce0|refine ce ?_|refine ce2 ?_ ?_|exact SVLe.refl|refine ceb ?_)
      all_goals first | exact (show nodupB _ = true from rfl) | exact Or.inr rfl | ((unfold vSide; rw [all_no _ _ i.toNat (by omega) (by rw [decide_eq_true_eq]; exact hc)]; rfl))
    · refine q_again (i + 1) [] (by exact stk) ?_ ?_
      · exact ⟨by omega,by omega,all_snocI _ _ _ h0 (by omega) h2 (by rw [decide_eq_true_eq]; exact hc)⟩
      · omega
    all_goals (rw [List.take_of_length_le (by omega)] at h2)
    all_goals (have hl : xs ≠ [] → xs.getLastD 1 = xs.getLastD 1 := fun _ => rfl)
    · repeat refine cr ?_
      refine ends_id ?_
      refine endK [] (h2 := ?_) (h3 := ?_) (nd := ?_)
      all_goals (repeat' first|exact ce0|refine ce ?_|refine ce2 ?_ ?_|exact SVLe.refl|refine ceb ?_)
      all_goals first | exact (show nodupB _ = true from rfl) | exact Or.inr rfl | ((have : xs = [] := List.eq_nil_of_length_eq_zero (by omega); subst this; unfold vSide; rfl))
    · repeat refine cr ?_
      refine ends_id ?_
      refine endK [] (h2 := ?_) (h3 := ?_) (nd := ?_)
      all_goals (repeat' first|exact ce0|refine ce ?_|refine ce2 ?_ ?_|exact SVLe.refl|refine ceb ?_)
      all_goals first | exact (show nodupB _ = true from rfl) | exact Or.inr rfl | ((unfold vSide; rw [h2,getLastD_at xs 1 (by omega)]; simp; omega))
    · repeat refine cr ?_
      refine ends_id ?_
      refine endK [] (h2 := ?_) (h3 := ?_) (nd := ?_)
      all_goals (repeat' first|exact ce0|refine ce ?_|refine ce2 ?_ ?_|exact SVLe.refl|refine ceb ?_)
      all_goals first | exact (show nodupB _ = true from rfl) | exact Or.inr rfl | ((unfold vSide; rw [h2,decide_eq_false] <;> first | rfl | omega))
@[irreducible] def vConf (m : Mach) (c : Conf) : Bool := decide (0 ≤ c.st ∧ c.st ≤ m.st - 1) && vSide m.sy c.le && vSide m.sy c.ri
theorem l05Good_ok (m : Mach) (c : Conf) (hx : (c.le.length : Int) ≤ 16777216) (hy : (c.ri.length : Int) ≤ 16777216) (h1 : -1000 ≤ m.sy) (h2 : m.sy ≤ 1000) (h3 : -1000 ≤ m.st) (h4 : m.st ≤ 1000) : Does Tryz.prog 78 [.one (maB m),.one (coB c)] [] (.one (boo (vConf m c))) [] := by
  refine does_of (k := 0) Tryz.func78 rfl Tryz.ntmps78 rfl rfl fun w F0 S0 ρ0 => ?_
  dsimp only [argT,argH]
  repeat' first|(apply p3;exact a_pure (sv := .one _) rfl;exact rfl)|refine cd ?_|(apply g_drN (id := 1) okM [[],[0],[0,1],[0,1,2],[],[4],[4,5],[4,5,6],[4,5,6,7],[0,1,2,3,4,5,6,7,8],[0,1,2,3,4,5,6,7,8,9],[0,1,2,3,4,5,6,7,8,9,10],[0,1,2,3,4,5,6,7,8,9,10],[0,1,2,3,4,5,6,7,8,9,10,12],[0,1,2,3,4,5,6,7,8,9,10,12,13],[0,1,2,3,4,5,6,7,8,9,10,12,13,14],[0,1,2,3,4,5,6,7,8,9,10,11,12,13,14,15],[0,1,2,3,4,5,6,7,8,9,10,11,12,13,14,15,16],[0,1,2,3,4,5,6,7,8,9,10,11,12,13,14,15,16,17],[0,1,2,3,4,5,6,7,8,9,10,11,12,13,14,15,16,17,18],[0,1,2,3,4,5,6,7,8,9,10,11,12,13,14,15,16,17,18],[0,1,2,3,4,5,6,7,8,9,10,11,12,13,14,15,16,17,18,20],[0,1,2,3,4,5,6,7,8,9,10,11,12,13,14,15,16,17,18,20,21],[0,1,2,3,4,5,6,7,8,9,10,11,12,13,14,15,16,17,18,20,21,22],[0,1,2,3,4,5,6,7,8,9,10,11,12,13,14,15,16,17,18,19,20,21,22,23],[0,1,2,3,4,5,6,7,8,9,10,11,12,13,14,15,16,17,18,19,20,21,22,23,24],[0,1,2,3,4,5,6,7,8,9,10,11,12,13,14,15,16,17,18,19,20,21,22,23,24,25]] [([],[]),([],[]),([],[]),([],[]),([],[]),([],[]),([],[]),([],[]),([],[]),([],[]),([],[]),([],[]),([],[]),([],[]),([],[]),([],[]),([],[]),([],[]),([],[]),([],[]),([],[]),([],[]),([],[]),([],[]),([],[]),([],[]),([],[])] 0;(focus (all_goals refine dp 0 0 [9,10,11,12,13] [] pu1 ?_;all_goals refine dp 1 1 [9,10,11,12,13] [] (a_pure (sv := .one _) rfl) ?_;all_goals refine dp 2 3 [9,10,11,12,13] [] (a_pure (sv := .one _) rfl) ?_;all_goals refine dp 3 7 [9,10,11,12,13] [] puL ?_;all_goals refine dp 4 0 [5,6,7,8] [] pu1 ?_;all_goals refine dp 5 1 [5,6,7,8] [] (a_pure (sv := .one _) rfl) ?_;all_goals refine dp 6 3 [5,6,7,8] [] (a_pure (sv := .one _) rfl) ?_;all_goals refine dp 7 7 [5,6,7,8] [] puL ?_;all_goals refine dp 8 15 [5,6,7,8] [] (a_sub rfl rfl (by omega) (by omega)) ?_;all_goals refine dp 9 511 [] [] (callD1 (n := _) 0 (θ := []) (hD := (l00In_ok _ _ _))) ?_;all_goals (refine db 10 1023 [] [] pu1 ?_ ?_ <;> (intro hc;first|cases hc|(try simp only [dcB] at hc);first|contradiction|(exfalso;omega)|skip));all_goals (first|refine dn 11 2047 [17,18,19,20] [] ?_|refine dpy 11 2047 [17,18,19,20] [] pu1 ?_);all_goals (first|refine dn 12 4094 [16] [] ?_|refine dpy 12 4094 [16] [] pu1 ?_);all_goals (first|refine dn 13 8189 [16] [] ?_|refine dpy 13 8189 [16] [] (a_pure (sv := .one _) rfl) ?_);all_goals (first|refine dn 14 16379 [16] [] ?_|refine dpy 14 16379 [16] [] (a_pure (sv := .one _) rfl) ?_);all_goals (first|refine dn 15 32759 [16] [] ?_|refine dpy 15 32759 [16] [] puL ?_);all_goals (first|refine dn 16 65535 [] [] ?_|refine dpy 16 65535 [] [] (callD1 (n := _) 0 (θ := []) (hD := (l05Cells_ok _ _ preB2 preB2 preB2))) ?_);all_goals refine dp 17 131071 [] [] (a_pure (sv := .one _) rfl) ?_;all_goals (refine db 18 262143 [] [] pu1 ?_ ?_ <;> (intro hc;first|cases hc|(try simp only [dcB] at hc);first|contradiction|(exfalso;omega)|skip));all_goals (first|refine dn 19 524287 [25,26,27,28] [] ?_|refine dpy 19 524287 [25,26,27,28] [] pu1 ?_);all_goals (first|refine dn 20 1048574 [24] [] ?_|refine dpy 20 1048574 [24] [] pu1 ?_);all_goals (first|refine dn 21 2097149 [24] [] ?_|refine dpy 21 2097149 [24] [] (a_pure (sv := .one _) rfl) ?_);all_goals (first|refine dn 22 4194299 [24] [] ?_|refine dpy 22 4194299 [24] [] (a_pure (sv := .one _) rfl) ?_);all_goals (first|refine dn 23 8388599 [24] [] ?_|refine dpy 23 8388599 [24] [] puL ?_);all_goals (first|refine dn 24 16777215 [] [] ?_|refine dpy 24 16777215 [] [] (callD1 (n := _) 0 (θ := []) (hD := (l05Cells_ok _ _ preB2 preB2 preB2))) ?_);all_goals refine dp 25 33554431 [] [] (a_pure (sv := .one _) rfl) ?_;all_goals refine dp 26 67108863 [] [] pu1 ?_;all_goals (refine d_nil ?_;refine dN ?_)));any_goals kernel_rfl)
  all_goals
    repeat refine cr ?_
    refine ends_id ?_
    refine endK [] (h2 := ?_) (h3 := ?_) (nd := ?_)
    all_goals (repeat' first|exact ce0|refine ce ?_|refine ce2 ?_ ?_|exact SVLe.refl|refine ceb ?_)
    all_goals first | exact (show nodupB _ = true from rfl) | exact Or.inr rfl | ((unfold vConf; first | (simp [*]; done) | (rw [decide_eq_false] <;> first | rfl | omega | (simp; done)) | (rw [decide_eq_true] <;> first | rfl | omega | (simp [*]; done)) | (simp_all; done) | (simp_all; omega)))
end Go.Proofs.YtjmlbmmbionmcaaGreatDoor
end
section
set_option linter.unusedVariables false
set_option linter.unusedSimpArgs false
set_option maxRecDepth 100000
set_option maxHeartbeats 4000000
namespace Go.Proofs.YtjmlbmmbionmcaaGreatDoor
open Go Foot
theorem preB3 {p : Prop} (h : p := by first | with_reducible assumption | omega | (simp only [List.length_append,List.length_cons,List.length_nil,List.length_set,List.length_replicate,List.length_take,List.length_drop,List.length_tail,List.length_dropLast,List.length_reverse] at *; omega) | exact mem_len (by assumption) (by omega) | (with_reducible refine Int.le_trans (Int.ofNat_le.2 (trimR_len _)) ?_; simp only [List.length_cons,List.length_tail]; omega) | (have := vMach_bd (by assumption); omega) | trivial) : p := h
theorem sizeR_ok (xs : List Rule') (hx : (xs.length : Int) ≤ 16777216) : Does Tryz.prog 137 [.one (shR xs)] [] (.one (int xs.length)) [] := by
  refine does_of (k := 0) Tryz.func137 rfl Tryz.ntmps137 rfl rfl fun w F0 S0 ρ0 => ?_
  dsimp only [argT,argH]
  repeat' first|(apply p3;(first|exact pu1|exact puN);exact rfl)|refine cd ?_
  repeat refine cr ?_
  refine ends_id ?_
  refine endK [] (h2 := ?_) (h3 := ?_) (nd := ?_)
  all_goals (repeat' first|exact ce0|refine ce ?_|refine ce2 ?_ ?_|exact SVLe.refl|refine ceb ?_)
  all_goals first | exact (show nodupB _ = true from rfl) | exact Or.inr rfl | (rfl)
theorem noRule_ok : Does Tryz.prog 118 [] [] (.agg [int 0,int 0,int (-1)]) [] := by
  refine does_of (k := 0) Tryz.func118 rfl Tryz.ntmps118 rfl rfl fun w F0 S0 ρ0 => ?_
  dsimp only [argT,argH]
  repeat' first|(apply n3;exact a_new (gb := .bx _) rfl;exact rfl;refine dA ?_)|(apply p3;exact a_pure (sv := .agg _) rfl;exact rfl)|refine cd ?_|(apply w3;(exact a_st_bx rfl rfl rfl rfl (fN rfl rfl) (Nat.le_of_ble_eq_true rfl) rfl);exact rfl;refine dS ?_)
  repeat refine cr ?_
  refine ends_id ?_
  refine endK [] (h2 := ?_) (h3 := ?_) (nd := ?_)
  all_goals (repeat' first|exact ce0|refine ce ?_|refine ce2 ?_ ?_|exact SVLe.refl|refine ceb ?_)
  all_goals first | exact (show nodupB _ = true from rfl) | exact Or.inr rfl | (rfl)
theorem isRule_ok (r : Rule') : Does Tryz.prog 70 [.agg (ruC r)] [] (.one (boo (!decide (r = ⟨0,0,-1⟩)))) [] := by
  refine does_of (k := 0) Tryz.func70 rfl Tryz.ntmps70 rfl rfl fun w F0 S0 ρ0 => ?_
  dsimp only [argT,argH]
  repeat' first|(apply n3;exact a_new (gb := .bx _) rfl;exact rfl;refine dA ?_)|(apply p3;exact a_pure (sv := .one _) rfl;exact rfl)|refine cd ?_|(apply g_drN (id := 1) okM [[],[],[0,1],[0,1,2]] [([],[]),([],[]),([],[]),([],[])] 0;(focus (refine dp 0 0 [4] [] puL ?_;refine dp 1 0 [3] [] (callD1 (n := _) 0 (θ := []) (hD := noRule_ok)) ?_;refine dp 2 3 [] [] (by exact a_neRule (s := ⟨_,_,_⟩) rfl rfl) ?_;refine dp 3 7 [] [] pu1 ?_;(refine d_nil ?_;refine dN ?_)));any_goals kernel_rfl)
  repeat refine cr ?_
  refine ends_id ?_
  refine endK [] (h2 := ?_) (h3 := ?_) (nd := ?_)
  all_goals (repeat' first|exact ce0|refine ce ?_|refine ce2 ?_ ?_|exact SVLe.refl|refine ceb ?_)
  all_goals first | exact (show nodupB _ = true from rfl) | exact Or.inr rfl | (rfl)
theorem validRule_ok (m : Mach) (r : Rule') (h1 : -1000 ≤ m.sy) (h2 : m.sy ≤ 1000) (h3 : -1000 ≤ m.st) (h4 : m.st ≤ 1000) : Does Tryz.prog 140 [.agg (maC m),.agg (ruC r)] [] (.one (boo (okRule m.sy m.st r))) [] := by
  refine does_of (k := 0) Tryz.func140 rfl Tryz.ntmps140 rfl rfl fun w F0 S0 ρ0 => ?_
  dsimp only [argT,argH]
  repeat' first|(apply n3;exact a_new (gb := .bx _) rfl;exact rfl;refine dA ?_)|(apply p3;(first|exact pu1|exact a_sub rfl rfl (by omega) (by omega));exact rfl)|refine cd ?_|(apply c4 0;exact callK1 (θ := []) (hD := (isRule_ok _));exact rfl;exact rfl;exact rfl;refine dM ?_)|(apply c4 0;exact callK1 (θ := []) (hD := (within_ok _ _ _));exact rfl;exact rfl;exact rfl;refine dM ?_)|refine o_no rfl rfl rfl rfl ?_|(apply py3;exact rfl;exact rfl;(first|exact pu1|exact a_sub rfl rfl (by omega) (by omega)|exact puC);exact rfl;exact rfl)|(apply cy4 0;exact rfl;exact rfl;exact callK1 (θ := []) (hD := (within_ok _ _ _));exact rfl;exact rfl;exact rfl;exact rfl;refine dM ?_)|((first|refine o_gs rfl rfl (fun hc => ?_) (fun hc => ?_)|refine g_cond rfl (fun hc => ?_) (fun hc => ?_)) <;> (try simp only [dcB] at hc) <;> (try first|contradiction|(exfalso;omega)))
  all_goals
    repeat refine cr ?_
    refine ends_id ?_
    refine endK [] (h2 := ?_) (h3 := ?_) (nd := ?_)
    all_goals (repeat' first|exact ce0|refine ce ?_|refine ce2 ?_ ?_|exact SVLe.refl|refine ceb ?_)
    all_goals first | exact (show nodupB _ = true from rfl) | exact Or.inr rfl | ((unfold okRule; first | (simp [*]; done) | (rw [decide_eq_false] <;> first | rfl | omega | (simp; done)) | (rw [decide_eq_true] <;> first | rfl | omega | (simp [*]; done)) | (simp_all; done) | (simp_all; omega)))
theorem validM1_ok (m : Mach) (r : Rule') (h1 : -1000 ≤ m.sy) (h2 : m.sy ≤ 1000) (h3 : -1000 ≤ m.st) (h4 : m.st ≤ 1000) : Does Tryz.prog 139 [.agg (ruC r),.one (maB m)] [] (.one (boo (!okRule m.sy m.st r))) [] := by
  refine does_of (k := 0) Tryz.func139 rfl Tryz.ntmps139 rfl rfl fun w F0 S0 ρ0 => ?_
  dsimp only [argT,argH]
  repeat' first|(apply n3;exact a_new (gb := .bx _) rfl;exact rfl;refine dA ?_)|(apply p3;(exact pu1);exact rfl)|refine cd ?_|(apply c4 0;exact callK1 (θ := []) (hD := (validRule_ok _ _ preB3 preB3 preB3 preB3));exact rfl;exact rfl;exact rfl;refine dM ?_)
  repeat refine cr ?_
  refine ends_id ?_
  refine endK [] (h2 := ?_) (h3 := ?_) (nd := ?_)
  all_goals (repeat' first|exact ce0|refine ce ?_|refine ce2 ?_ ?_|exact SVLe.refl|refine ceb ?_)
  all_goals first | exact (show nodupB _ = true from rfl) | exact Or.inr rfl | (rfl)
theorem idxR_ok (xs : List Rule') (k : Nat) (d : D) (p : Rule' → Bool) (hx : (xs.length : Int) ≤ 16777216) (hE : entB Tryz.prog k = true) (hp : ∀ r,Does Tryz.prog k [.agg (ruC r),.one (.d d)] [] (.one (boo (p r))) []) : Does Tryz.prog 167 [.one (shR xs),.one (.d (.fn (.func k) [d]))] [] (.one (int (idxF p xs))) [] := by
  refine does_of (k := 0) Tryz.func167 rfl Tryz.ntmps167 rfl rfl fun w F0 S0 ρ0 => ?_
  dsimp only [argT,argH]
  repeat' first|(apply p3;(first|exact pu1|exact puN);exact rfl)|refine cd ?_
  refine g_loop_id ?_
  refine loopK [0,1,4,7] [] (fun i : Int => 0 ≤ i ∧ i ≤ xs.length ∧ (xs.take i.toNat).all (fun x => !p x) = true) (fun i => [(8,.one (int i))]) (fun _ => []) (fun i => (xs.length - i).toNat) (0 : Int) [] (hI := ?_) (hr := ?_)
  · exact ⟨by omega,by omega,rfl⟩
  · rintro i ⟨h0,h1,h2⟩
    dsimp only [List.cons_append,List.nil_append] at *
    skip
    repeat' first|(apply p3;(first|exact pu1|exact puC|exact a_add rfl rfl (by omega) (by omega)|exact puI);exact rfl)|refine cd ?_|(apply c4 0;exact callK0 (θ := []) (hE := hE) (hD := (hp _));exact rfl;exact rfl;exact rfl;refine dM ?_)|((refine g_cond rfl (fun hc => ?_) (fun hc => ?_)) <;> (try simp only [dcB] at hc) <;> (try first|contradiction|(exfalso;omega)))
    · repeat refine cr ?_
      refine ends_id ?_
      refine endK [] (h2 := ?_) (h3 := ?_) (nd := ?_)
      all_goals (repeat' first|exact ce0|refine ce ?_|refine ce2 ?_ ?_|exact SVLe.refl|refine ceb ?_)
      all_goals first | exact (show nodupB _ = true from rfl) | exact Or.inr rfl | (exact (idxF_stop p xs i h0 (by omega) h2 hc).symm)
    · refine q_again (i + 1) [] (by exact stk) ?_ ?_
      · exact ⟨by omega,by omega,all_snocI _ _ _ h0 (by omega) h2 (by simp [hc])⟩
      · omega
    · repeat refine cr ?_
      refine ends_id ?_
      refine endK [] (h2 := ?_) (h3 := ?_) (nd := ?_)
      all_goals (repeat' first|exact ce0|refine ce ?_|refine ce2 ?_ ?_|exact SVLe.refl|refine ceb ?_)
      all_goals first | exact (show nodupB _ = true from rfl) | exact Or.inr rfl | ((rw [List.take_of_length_le (by omega)] at h2; exact (idxF_none p xs h2).symm))
theorem hasR_ok (xs : List Rule') (k : Nat) (d : D) (p : Rule' → Bool) (hx : (xs.length : Int) ≤ 16777216) (hE : entB Tryz.prog k = true) (hp : ∀ r,Does Tryz.prog k [.agg (ruC r),.one (.d d)] [] (.one (boo (p r))) []) : Does Tryz.prog 138 [.one (shR xs),.one (.d (.fn (.func k) [d]))] [] (.one (boo (xs.any p))) [] := by
  refine does_of (k := 0) Tryz.func138 rfl Tryz.ntmps138 rfl rfl fun w F0 S0 ρ0 => ?_
  dsimp only [argT,argH]
  repeat' first|(apply p3;(first|exact pu1|exact puC);exact rfl)|refine cd ?_|(apply c4 0;exact callK1 (θ := []) (hD := (idxR_ok _ _ _ _ preB3 preB3 preB3));exact rfl;exact rfl;exact rfl;refine dM ?_)
  repeat refine cr ?_
  refine ends_id ?_
  refine endK [] (h2 := ?_) (h3 := ?_) (nd := ?_)
  all_goals (repeat' first|exact ce0|refine ce ?_|refine ce2 ?_ ?_|exact SVLe.refl|refine ceb ?_)
  all_goals first | exact (show nodupB _ = true from rfl) | exact Or.inr rfl | (exact idxF_any p xs)
abbrev maD (m : Mach) : D := .bx false [.sc (.int .i64 m.sy),.sc (.int .i64 m.st),.sl false 3 (rows eR m.ru)]
theorem hasM_ok (m : Mach) (xs : List Rule') (hx : (xs.length : Int) ≤ 16777216) (h1 : -1000 ≤ m.sy) (h2 : m.sy ≤ 1000) (h3 : -1000 ≤ m.st) (h4 : m.st ≤ 1000) : Does Tryz.prog 138 [.one (shR xs),.one (.d (.fn (.func 139) [maD m]))] [] (.one (boo (xs.any fun r => !okRule m.sy m.st r))) [] := hasR_ok xs _ (maD m) _ hx (fQ rfl) fun r => validM1_ok m r h1 h2 h3 h4
theorem ValidMachine_ok (m : Mach) (hm : (m.ru.length : Int) ≤ 16777216) : Does Tryz.prog 89 [.agg (maC m)] [] (.one (boo (vMach m))) [] := by
  refine does_of (k := 0) Tryz.func89 rfl Tryz.ntmps89 rfl rfl fun w F0 S0 ρ0 => ?_
  dsimp only [argT,argH]
  repeat' first|(apply n3;exact a_new (gb := .bx _) rfl;exact rfl;refine dA ?_)|(apply p3;(exact pu1);exact rfl)|refine cd ?_|(apply c4 0;exact callK1 (θ := []) (hD := (hasM_ok _ _ preB3 preB3 preB3 preB3 preB3));exact rfl;exact rfl;exact rfl;refine dM ?_)|(apply g_drN (id := 1) okM [[],[0],[0,1],[0,1,2],[0,1,2,3],[0,1,2,3,4],[0,1,2,3,4,5],[0,1,2,3,4,5,6],[0,1,2,3,4,5,6,7],[0,1,2,3,4,5,6,7,8],[0,1,2,3,4,5,6,7,8,9],[0,1,2,3,4,5,6,7,8,9,10],[0,1,2,3,4,5,6,7,8,9,10,11],[0,1,2,3,4,5,6,7,8,9,10,11,12],[0,1,2,3,4,5,6,7,8,9,10],[0,1,2,3,4,5,6,7,8,9,10,14],[0,1,2,3,4,5,6,7,8,9,10],[0,1,2,3,4,5,6,7,8,9,10,16],[0,1,2,3,4,5,6,7,8,9,10,14,15,16,17],[0,1,2,3,4,5,6,7,8,9,10,11,12,13,14,15,16,17,18],[0,1,2,3,4,5,6,7,8,9,10,11,12,13,14,15,16,17,18,19]] [([],[]),([],[]),([],[]),([],[]),([],[]),([],[]),([],[]),([],[]),([],[]),([],[]),([],[]),([],[]),([],[]),([],[]),([],[]),([],[]),([],[]),([],[]),([],[]),([],[]),([],[])] 0;(focus (all_goals refine dp 0 0 [] [] (a_pure (sv := .one _) rfl) ?_;all_goals refine dp 1 1 [] [] puL ?_;all_goals refine dp 2 3 [] [] (callD1 (n := _) 0 (θ := []) (hD := (within_ok _ _ _))) ?_;all_goals refine dp 3 7 [] [] (a_pure (sv := .one _) rfl) ?_;all_goals (refine db 4 15 [] [] pu1 ?_ ?_ <;> (intro hc;first|cases hc|(try simp only [dcB] at hc);first|contradiction|(exfalso;omega)|skip));all_goals (first|refine dn 5 31 [] [] ?_|refine dpy 5 31 [] [] (a_pure (sv := .one _) rfl) ?_);all_goals (first|refine dn 6 63 [] [] ?_|refine dpy 6 63 [] [] puL ?_);all_goals (first|refine dn 7 127 [] [] ?_|refine dpy 7 127 [] [] (callD1 (n := _) 0 (θ := []) (hD := (within_ok _ _ _))) ?_);all_goals (first|refine dn 8 255 [] [] ?_|refine dpy 8 255 [] [] (a_pure (sv := .one _) rfl) ?_);all_goals refine dp 9 511 [] [] (a_pure (sv := .one _) rfl) ?_;all_goals (refine db 10 1023 [] [] pu1 ?_ ?_ <;> (intro hc;first|cases hc|(try simp only [dcB] at hc);first|contradiction|(exfalso;omega)|skip));all_goals (first|refine dn 11 2047 [17,18,19,20,21] [] ?_|refine dpy 11 2047 [17,18,19,20,21] [] (a_pure (sv := .one _) rfl) ?_);all_goals (first|refine dn 12 4095 [17,18,19,20,21] [] ?_|refine dpy 12 4095 [17,18,19,20,21] [] puL ?_);all_goals (first|refine dn 13 8191 [17,18,19,20,21] [] ?_|refine dpy 13 8191 [17,18,19,20,21] [] (callD1 (n := _) 0 (θ := []) (hD := (sizeR_ok _ preB3))) ?_);all_goals (first|refine dn 14 16376 [14,15,16,19,20] [] ?_|refine dpy 14 16376 [14,15,16,19,20] [] (a_pure (sv := .one _) rfl) ?_);all_goals (first|refine dn 15 32753 [14,15,16,19,20] [] ?_|refine dpy 15 32753 [14,15,16,19,20] [] puL ?_);all_goals (first|refine dn 16 65504 [14,15,16,17,18] [] ?_|refine dpy 16 65504 [14,15,16,17,18] [] (a_pure (sv := .one _) rfl) ?_);all_goals (first|refine dn 17 131009 [14,15,16,17,18] [] ?_|refine dpy 17 131009 [14,15,16,17,18] [] puL ?_);all_goals (first|refine dn 18 262031 [14,15,16] [] ?_|refine dpy 18 262031 [14,15,16] [] (by first|exact a_mulB rfl rfl (by omega) (by omega) (by omega) (by omega)|exact a_mul rfl rfl (by first|omega|assumption) (by first|omega|assumption)) ?_);all_goals (first|refine dn 19 524287 [] [] ?_|refine dpy 19 524287 [] [] (by first|exact a_ne rfl rfl|exact a_neS rfl rfl rfl) ?_);all_goals refine dp 20 1048575 [] [] (a_pure (sv := .one _) rfl) ?_;all_goals (refine d_nil ?_;refine dN ?_)));any_goals kernel_rfl)|((refine g_cond rfl (fun hc => ?_) (fun hc => ?_)) <;> (try simp only [dcB] at hc) <;> (try first|contradiction|(exfalso;omega)))
  · repeat refine cr ?_
    refine ends_id ?_
    refine endK [] (h2 := ?_) (h3 := ?_) (nd := ?_)
    all_goals (repeat' first|exact ce0|refine ce ?_|refine ce2 ?_ ?_|exact SVLe.refl|refine ceb ?_)
    all_goals first | exact (show nodupB _ = true from rfl) | exact Or.inr rfl | ((unfold vMach; first | (simp [*]; done) | (rw [decide_eq_false] <;> first | rfl | omega | (simp; done)) | (rw [decide_eq_true] <;> first | rfl | omega | (simp [*]; done)) | (simp_all; done) | (simp_all; omega)))
  · repeat refine cr ?_
    refine ends_id ?_
    refine endK [] (h2 := ?_) (h3 := ?_) (nd := ?_)
    all_goals (repeat' first|exact ce0|refine ce ?_|refine ce2 ?_ ?_|exact SVLe.refl|refine ceb ?_)
    all_goals first | exact (show nodupB _ = true from rfl) | exact Or.inr rfl | ((unfold vMach; first | (simp [*]; done) | (rw [decide_eq_false] <;> first | rfl | omega | (simp; done)) | (rw [decide_eq_true] <;> first | rfl | omega | (simp [*]; done)) | (simp_all; done) | (simp_all; omega)))
  · repeat refine cr ?_
    refine ends_id ?_
    refine endK [] (h2 := ?_) (h3 := ?_) (nd := ?_)
    all_goals (repeat' first|exact ce0|refine ce ?_|refine ce2 ?_ ?_|exact SVLe.refl|refine ceb ?_)
    all_goals first | exact (show nodupB _ = true from rfl) | exact Or.inr rfl | ((rw [Int.mul_comm] at hc; unfold vMach; rw [decide_eq_false] <;> first | rfl | omega))
  · repeat refine cr ?_
    refine ends_id ?_
    refine endK [] (h2 := ?_) (h3 := ?_) (nd := ?_)
    all_goals (repeat' first|exact ce0|refine ce ?_|refine ce2 ?_ ?_|exact SVLe.refl|refine ceb ?_)
    all_goals first | exact (show nodupB _ = true from rfl) | exact Or.inr rfl | ((rw [Int.mul_comm] at hc; rw [not_any_not]; unfold vMach; rw [decide_eq_true] <;> first | rfl | omega))
theorem validSide_ok (xs : List Int) (sy : Int) (hx : (xs.length : Int) ≤ 16777216) (h1 : -1000 ≤ sy) (h2 : sy ≤ 1000) : Does Tryz.prog 141 [.one (shI xs),.one (int sy),.one (int 200)] [] (.one (boo (vSide sy xs))) [] := by
  refine does_of (k := 0) Tryz.func141 rfl Tryz.ntmps141 rfl rfl fun w F0 S0 ρ0 => ?_
  dsimp only [argT,argH]
  repeat' first|(apply p3;(first|exact pu1|exact puC);exact rfl)|refine cd ?_|(apply c4 0;exact callK1 (θ := []) (hD := (sizeI_ok _ preB3));exact rfl;exact rfl;exact rfl;refine dM ?_)|refine o_no rfl rfl rfl rfl ?_|(apply py3;exact rfl;exact rfl;(first|exact pu1|exact puC|exact a_sub rfl rfl (by omega) (by omega)|exact puN|exact a_ne rfl rfl|exact puI);exact rfl;exact rfl)|(apply cy4 0;exact rfl;exact rfl;exact callK1 (θ := []) (hD := (allWithin_ok _ _ _ preB3));exact rfl;exact rfl;exact rfl;exact rfl;refine dM ?_)|((refine o_gs rfl rfl (fun hc => ?_) (fun hc => ?_)) <;> (try simp only [dcB] at hc) <;> (try first|contradiction|(exfalso;omega)))
  · repeat refine cr ?_
    refine ends_id ?_
    refine endK [] (h2 := ?_) (h3 := ?_) (nd := ?_)
    all_goals (repeat' first|exact ce0|refine ce ?_|refine ce2 ?_ ?_|exact SVLe.refl|refine ceb ?_)
    all_goals first | exact (show nodupB _ = true from rfl) | exact Or.inr rfl | ((have : xs = [] := List.eq_nil_of_length_eq_zero (by omega); subst this; unfold vSide; rfl))
  · repeat refine cr ?_
    refine ends_id ?_
    refine endK [] (h2 := ?_) (h3 := ?_) (nd := ?_)
    all_goals (repeat' first|exact ce0|refine ce ?_|refine ce2 ?_ ?_|exact SVLe.refl|refine ceb ?_)
    all_goals first | exact (show nodupB _ = true from rfl) | exact Or.inr rfl | ((unfold vSide; unfold inAll at *; rw [getLastD_at xs 1 (by omega)]; simp_all))
  · repeat refine cr ?_
    refine ends_id ?_
    refine endK [] (h2 := ?_) (h3 := ?_) (nd := ?_)
    all_goals (repeat' first|exact ce0|refine ce ?_|refine ce2 ?_ ?_|exact SVLe.refl|refine ceb ?_)
    all_goals first | exact (show nodupB _ = true from rfl) | exact Or.inr rfl | ((unfold vSide; unfold inAll at hc; rw [hc]; rfl))
  · repeat refine cr ?_
    refine ends_id ?_
    refine endK [] (h2 := ?_) (h3 := ?_) (nd := ?_)
    all_goals (repeat' first|exact ce0|refine ce ?_|refine ce2 ?_ ?_|exact SVLe.refl|refine ceb ?_)
    all_goals first | exact (show nodupB _ = true from rfl) | exact Or.inr rfl | ((unfold vSide; rw [decide_eq_false] <;> first | omega | simp))
theorem configOf_ok (m : Mach) (c : Conf) (hx : (c.le.length : Int) ≤ 16777216) (hy : (c.ri.length : Int) ≤ 16777216) (h1 : -1000 ≤ m.sy) (h2 : m.sy ≤ 1000) (h3 : -1000 ≤ m.st) (h4 : m.st ≤ 1000) : Does Tryz.prog 90 [.agg (maC m),.agg (coC c)] [] (.one (boo (vConf m c))) [] := by
  refine does_of (k := 0) Tryz.func90 rfl Tryz.ntmps90 rfl rfl fun w F0 S0 ρ0 => ?_
  dsimp only [argT,argH]
  repeat' first|(apply n3;exact a_new (gb := .bx _) rfl;exact rfl;refine dA ?_)|(apply p3;(first|exact pu1|exact a_sub rfl rfl (by omega) (by omega));exact rfl)|refine cd ?_|(apply c4 0;exact callK1 (θ := []) (hD := (within_ok _ _ _));exact rfl;exact rfl;exact rfl;refine dM ?_)|refine o_no rfl rfl rfl rfl ?_|(apply py3;exact rfl;exact rfl;(exact pu1);exact rfl;exact rfl)|(apply cy4 0;exact rfl;exact rfl;exact callK1 (θ := []) (hD := (validSide_ok _ _ preB3 preB3 preB3));exact rfl;exact rfl;exact rfl;exact rfl;refine dM ?_)|((refine o_gs rfl rfl (fun hc => ?_) (fun hc => ?_)) <;> (try simp only [dcB] at hc) <;> (try first|contradiction|(exfalso;omega)))
  all_goals
    repeat refine cr ?_
    refine ends_id ?_
    refine endK [] (h2 := ?_) (h3 := ?_) (nd := ?_)
    all_goals (repeat' first|exact ce0|refine ce ?_|refine ce2 ?_ ?_|exact SVLe.refl|refine ceb ?_)
    all_goals first | exact (show nodupB _ = true from rfl) | exact Or.inr rfl | ((unfold vConf; first | (simp [*]; done) | (rw [decide_eq_false] <;> first | rfl | omega | (simp; done)) | (rw [decide_eq_true] <;> first | rfl | omega | (simp [*]; done)) | (simp_all; done) | (simp_all; omega)))
theorem ValidConfig_ok (m : Mach) (c : Conf) (hm : (m.ru.length : Int) ≤ 16777216) (hx : (c.le.length : Int) ≤ 16777216) (hy : (c.ri.length : Int) ≤ 16777216) : Does Tryz.prog 40 [.agg (maC m),.agg (coC c)] [] (.one (boo (vMach m && vConf m c))) [] := by
  refine does_of (k := 0) Tryz.func40 rfl Tryz.ntmps40 rfl rfl fun w F0 S0 ρ0 => ?_
  dsimp only [argT,argH]
  repeat' first|(apply n3;exact a_new (gb := .bx _) rfl;exact rfl;refine dA ?_)|(apply p3;(exact pu1);exact rfl)|refine cd ?_|(apply c4 0;exact callK1 (θ := []) (hD := (ValidMachine_ok _ preB3));exact rfl;exact rfl;exact rfl;refine dM ?_)|refine o_no rfl rfl rfl rfl ?_|(apply py3;exact rfl;exact rfl;(exact pu1);exact rfl;exact rfl)|(apply cy4 0;exact rfl;exact rfl;exact callK1 (θ := []) (hD := (configOf_ok _ _ preB3 preB3 preB3 preB3 preB3 preB3));exact rfl;exact rfl;exact rfl;exact rfl;refine dM ?_)|((refine o_gs rfl rfl (fun hc => ?_) (fun hc => ?_)) <;> (try simp only [dcB] at hc) <;> (try first|contradiction|(exfalso;omega)))
  all_goals
    repeat refine cr ?_
    refine ends_id ?_
    refine endK [] (h2 := ?_) (h3 := ?_) (nd := ?_)
    all_goals (repeat' first|exact ce0|refine ce ?_|refine ce2 ?_ ?_|exact SVLe.refl|refine ceb ?_)
    all_goals first | exact (show nodupB _ = true from rfl) | exact Or.inr rfl | ((simp [*]))
@[irreducible] def askC (m : Mach) (c : Conf) (b : Int) : Int := if vMach m = true ∧ vConf m c = true then if 1 ≤ b ∧ b ≤ 20000 then 0 else 2 else 1
end Go.Proofs.YtjmlbmmbionmcaaGreatDoor
end
section
set_option linter.unusedVariables false
set_option linter.unusedSimpArgs false
set_option maxRecDepth 100000
set_option maxHeartbeats 4000000
namespace Go.Proofs.YtjmlbmmbionmcaaGreatDoor
open Go Foot
@[irreducible] def pushL (l : List Int) (x : Int) : List Int := if x = 0 ∧ l = [] then l else l ++ [x]
end Go.Proofs.YtjmlbmmbionmcaaGreatDoor
end
section
set_option linter.unusedVariables false
set_option linter.unusedSimpArgs false
set_option maxRecDepth 100000
set_option maxHeartbeats 4000000
namespace Go.Proofs.YtjmlbmmbionmcaaGreatDoor
open Go Foot
theorem pushL_len (l : List Int) (x : Int) : (pushL l x).length ≤ l.length + 1 := by unfold pushL; split <;> simp
theorem count_snoc (xs : List Int) (x i : Int) (h0 : 0 ≤ i) (h : i < xs.length) : (xs.take (i + 1).toNat).count x = (xs.take i.toNat).count x + if xs[i.toNat]'(by omega) = x then 1 else 0 := by
  rw [show (i + 1).toNat = i.toNat + 1 by omega,List.take_succ_eq_append_getElem (by omega),List.count_append,List.count_singleton]
  simp
theorem countOf_ok (xs : List Int) (x : Int) (hx : (xs.length : Int) ≤ 16777216) : Does Tryz.prog 102 [.one (shI xs),.one (int x)] [] (.one (int (xs.count x))) [] := by
  refine does_of (k := 0) Tryz.func102 rfl Tryz.ntmps102 rfl rfl fun w F0 S0 ρ0 => ?_
  dsimp only [argT,argH]
  repeat' first|(apply p3;(first|exact pu1|exact puN);exact rfl)|refine cd ?_
  refine g_loop_id ?_
  refine loopK [1,4,8,9] [] (fun y : Int × Int => 0 ≤ y.1 ∧ y.1 ≤ xs.length ∧ y.2 = ((xs.take y.1.toNat).count x : Nat) ∧ y.2 ≤ y.1) (fun y => [(10,.one (int y.1)),(5,.one (int y.2))]) (fun _ => []) (fun y => (xs.length - y.1).toNat) ((0 : Int),(0 : Int)) [] (hI := ?_) (hr := ?_)
  · exact ⟨by simp,by simp,by simp,by simp⟩
  · rintro ⟨i,k⟩ ⟨h0,h1,h2,h3⟩
    dsimp only [List.cons_append,List.nil_append] at *
    skip
    repeat' first|(apply p3;(first|exact pu1|exact puC|exact a_add rfl rfl (by omega) (by omega)|exact puI);exact rfl)|refine cd ?_|((refine g_cond rfl (fun hc => ?_) (fun hc => ?_)) <;> (try simp only [dcB] at hc) <;> (try first|contradiction|(exfalso;omega)))
    · refine q_again (i + 1,k + 1) [] (by exact stk) ?_ ?_
      · exact ⟨by dsimp only; omega,by dsimp only; omega,by dsimp only; rw [count_snoc xs x i h0 (by omega),if_pos hc,h2]; rfl,by dsimp only; omega⟩
      · dsimp only; omega
    · refine q_again (i + 1,k) [] (by exact stk) ?_ ?_
      · exact ⟨by dsimp only; omega,by dsimp only; omega,by dsimp only; rw [count_snoc xs x i h0 (by omega),if_neg hc,h2]; rfl,by dsimp only; omega⟩
      · dsimp only; omega
    · repeat refine cr ?_
      refine ends_id ?_
      refine endK [] (h2 := ?_) (h3 := ?_) (nd := ?_)
      all_goals (repeat' first|exact ce0|refine ce ?_|refine ce2 ?_ ?_|exact SVLe.refl|refine ceb ?_)
      all_goals first | exact (show nodupB _ = true from rfl) | exact Or.inr rfl | ((rw [h2,List.take_of_length_le (by omega)]))
end Go.Proofs.YtjmlbmmbionmcaaGreatDoor
end
section
set_option linter.unusedVariables false
set_option linter.unusedSimpArgs false
set_option maxRecDepth 100000
set_option maxHeartbeats 4000000
namespace Go.Proofs.YtjmlbmmbionmcaaGreatDoor
open Go Foot
theorem vSide_bd {sy : Int} {l : List Int} (h : vSide sy l = true) : (l.length : Int) ≤ 200 ∧ (∀ x ∈ l,0 ≤ x ∧ x ≤ sy - 1) ∧ l.getLastD 1 ≠ 0 := by
  unfold vSide at h
  simp only [Bool.and_eq_true,List.all_eq_true,decide_eq_true_eq] at h
  exact ⟨h.2.1,h.1,h.2.2⟩
theorem vConf_bd {m : Mach} {c : Conf} (h : vConf m c = true) : (0 ≤ c.st ∧ c.st ≤ m.st - 1) ∧ vSide m.sy c.le = true ∧ vSide m.sy c.ri = true := by
  unfold vConf at h
  simp only [Bool.and_eq_true,decide_eq_true_eq] at h
  exact ⟨h.1.1,h.1.2,h.2⟩
abbrev noR : Rule' := ⟨0,0,-1⟩
@[irreducible] def ruAt (m : Mach) (c : Conf) : Rule' := m.ru.getD (c.st * m.sy + c.ri.headD 0).toNat noR
theorem headD_bd {sy : Int} {l : List Int} (hs : 2 ≤ sy) (h : vSide sy l = true) : 0 ≤ l.headD 0 ∧ l.headD 0 ≤ sy - 1 := by
  have := (vSide_bd h).2.1
  cases l with
  | nil => simp; omega
  | cons a l => exact this a (by simp)
theorem at_bd {m : Mach} {c : Conf} (hm : vMach m = true) (hc : vConf m c = true) : 0 ≤ c.st * m.sy ∧ 0 ≤ c.ri.headD 0 ∧ c.ri.headD 0 ≤ 5 ∧ c.st * m.sy + c.ri.headD 0 < m.ru.length ∧ (m.ru.length : Int) ≤ 6000 ∧ c.st ≤ 999 ∧ 0 ≤ c.st ∧ (c.le.length : Int) ≤ 200 ∧ (c.ri.length : Int) ≤ 200 := by
  obtain ⟨⟨h1,h2⟩,⟨h3,h4⟩,h5⟩ := vMach_bd hm
  obtain ⟨⟨h6,h7⟩,h8,h9⟩ := vConf_bd hc
  obtain ⟨h10,h11⟩ := headD_bd h1 h9
  have a1 : c.st * m.sy ≤ (m.st - 1) * m.sy := Int.mul_le_mul_of_nonneg_right h7 (by omega)
  have a2 : (m.st - 1) * m.sy = m.sy * m.st - m.sy := by rw [Int.sub_mul,Int.mul_comm]; omega
  have a3 : m.sy * m.st ≤ 6 * m.st := Int.mul_le_mul_of_nonneg_right h2 (by omega)
  exact ⟨Int.mul_nonneg h6 (by omega),h10,by omega,by omega,by omega,by omega,h6,(vSide_bd h8).1,(vSide_bd h9).1⟩
theorem ruAt_get {m : Mach} {c : Conf} (hm : vMach m = true) (hc : vConf m c = true) : m.ru[(c.st * m.sy + c.ri.headD 0).toNat]? = some (ruAt m c) := by
  have h := at_bd hm hc
  rw [ruAt,List.getD_eq_getElem?_getD,List.getElem?_eq_getElem (by omega)]
  rfl
theorem ruAt_ok {m : Mach} {c : Conf} (hm : vMach m = true) (hc : vConf m c = true) (hn : ruAt m c ≠ noR) : (0 ≤ (ruAt m c).w ∧ (ruAt m c).w ≤ m.sy - 1) ∧ ((ruAt m c).m = 1 ∨ (ruAt m c).m = -1) ∧ 0 ≤ (ruAt m c).n ∧ (ruAt m c).n ≤ m.st - 1 := by
  have hg := ruAt_get hm hc
  have := hm
  unfold vMach at this
  rw [Bool.and_eq_true,List.all_eq_true] at this
  have := this.2 _ (List.mem_of_getElem? hg)
  unfold okRule at this
  rw [decide_eq_true_eq] at this
  exact this.resolve_left hn
end Go.Proofs.YtjmlbmmbionmcaaGreatDoor
end
section
set_option linter.unusedVariables false
set_option linter.unusedSimpArgs false
set_option maxRecDepth 100000
set_option maxHeartbeats 4000000
namespace Go.Proofs.YtjmlbmmbionmcaaGreatDoor
open Go Foot
structure Out (σ : Type) where
  x : σ
  n : Int
  c : Conf
  hd : Int
  halts : Bool
  full : Bool
section
variable {σ : Type} {m : Mach} {fc : Conf → Int → σ → σ} {fs : Conf → Int → Rule' → σ → σ} {b n hd : Int} {c : Conf} {x : σ} {O : Out σ}
end
theorem ask_ok {m : Mach} {c : Conf} {b : Int} (h : askC m c b = 0) : vMach m = true ∧ vConf m c = true ∧ 1 ≤ b ∧ b ≤ 20000 := by
  unfold askC at h
  split at h
  · rename_i h1
    split at h
    · rename_i h2; exact ⟨h1.1,h1.2,h2.1,h2.2⟩
    · cases h
  · cases h
end Go.Proofs.YtjmlbmmbionmcaaGreatDoor
end
section
set_option linter.unusedVariables false
set_option linter.unusedSimpArgs false
set_option maxRecDepth 100000
set_option maxHeartbeats 4000000
namespace Go.Proofs.YtjmlbmmbionmcaaGreatDoor
open Go Foot
structure Prf where
  k : Int
  nu : List Int
  wo : List (List Int)
end Go.Proofs.YtjmlbmmbionmcaaGreatDoor
end
section
set_option linter.unusedVariables false
set_option linter.unusedSimpArgs false
set_option maxRecDepth 100000
set_option maxHeartbeats 4000000
namespace Go.Proofs.YtjmlbmmbionmcaaGreatDoor
open Go Foot
end Go.Proofs.YtjmlbmmbionmcaaGreatDoor
end
section
set_option linter.unusedVariables false
set_option linter.unusedSimpArgs false
set_option maxRecDepth 100000
set_option maxHeartbeats 4000000
namespace Go.Proofs.YtjmlbmmbionmcaaGreatDoor
open Go Foot
end Go.Proofs.YtjmlbmmbionmcaaGreatDoor
end
section
set_option linter.unusedVariables false
set_option linter.unusedSimpArgs false
set_option maxRecDepth 100000
namespace Go.Proofs.YtjmlbmmbionmcaaGreatDoor
open Go Foot
section
variable {P : Program} {g : Gh} {dst : Option Tmp} {ty : TypeId} {pos : String} {after : Array Edge} {guard : Option (Nat × Bool)} {st : St} {x y : Operand}
end
end Go.Proofs.YtjmlbmmbionmcaaGreatDoor
end
section
set_option linter.unusedVariables false
set_option linter.unusedSimpArgs false
set_option maxRecDepth 100000
set_option maxHeartbeats 4000000
namespace Go.Proofs.YtjmlbmmbionmcaaGreatDoor
open Go Foot
def jf (sep : Bs) : Nat → List Bs → Bs
  | _,[] => []
  | i,b :: r => (if i = 0 then [] else sep) ++ (b ++ jf sep (i + 1) r)
end Go.Proofs.YtjmlbmmbionmcaaGreatDoor
end
section
set_option linter.unusedVariables false
set_option linter.unusedSimpArgs false
set_option maxRecDepth 100000
set_option maxHeartbeats 4000000
namespace Go.Proofs.YtjmlbmmbionmcaaGreatDoor
open Go Foot
end Go.Proofs.YtjmlbmmbionmcaaGreatDoor
end
section
set_option linter.unusedVariables false
set_option linter.unusedSimpArgs false
set_option maxRecDepth 100000
set_option maxHeartbeats 4000000
namespace Go.Proofs.YtjmlbmmbionmcaaGreatDoor
open Go Foot
end Go.Proofs.YtjmlbmmbionmcaaGreatDoor
end
section
set_option linter.unusedVariables false
set_option linter.unusedSimpArgs false
set_option maxRecDepth 100000
set_option maxHeartbeats 4000000
namespace Go.Proofs.YtjmlbmmbionmcaaGreatDoor
open Go Foot
end Go.Proofs.YtjmlbmmbionmcaaGreatDoor
end
section
set_option linter.unusedVariables false
set_option linter.unusedSimpArgs false
set_option maxRecDepth 100000
set_option maxHeartbeats 4000000
namespace Go.Proofs.YtjmlbmmbionmcaaGreatDoor
open Go Foot Go.RowKit
theorem preB149 {p : Prop} (h : p := by first | with_reducible assumption | omega | (simp only [List.length_append,List.length_cons,List.length_nil,List.length_set,List.length_replicate,List.length_take,List.length_drop,List.length_tail,List.length_dropLast,List.length_reverse] at *; omega) | exact mem_len (by assumption) (by omega) | (with_reducible refine Int.le_trans (Int.ofNat_le.2 (trimR_len _)) ?_; simp only [List.length_cons,List.length_tail]; omega) | (exact (ruAt_ok (by assumption) (by assumption) (by assumption)).2.1) | (exact (ruAt_ok (by assumption) (by assumption) (by assumption)).2.1) | (have := vMach_bd (by assumption); omega) | (simp only [mC_ch,mC_tu]; omega) | (have := vTag_bd (by assumption); omega) | (have := (‹Gd _ _›).le; omega) | (exact tgHalts_no (by assumption)) | (exact tgHead (by assumption) (by assumption) (by assumption)) | (exact Int.le_trans (tgStep_gd (by assumption) (by assumption) (by assumption) (by assumption)).le (by decide)) | (exact vTag_r (by assumption)) | (with_reducible refine Int.le_trans (Int.ofNat_le.2 (pushL_len _ _)) ?_; simp only [List.length_dropLast]; omega) | exact ls_at (by assumption) (by omega) | exact pt_gd (by assumption) | exact lv_at (by assumption) (by omega) | exact pt_gd (lv_at (by assumption) (by omega)) | exact (ask_ok (by assumption)).1 | exact (ask_ok (by assumption)).2.1 | exact (ask_ok (by assumption)).2.2.1 | exact (ask_ok (by assumption)).2.2.2 | trivial) : p := h
theorem l19Words_ok (t : Tg) (q : List Int) (n : Int) (hv : vTag t = true) (hg : Gd t q) (hx : (t.ha.length : Int) ≤ 1048576) (h1 : 0 ≤ n) (h2 : n ≤ 599) : Does Tryz.prog 52 [.one (tgB t),.one (shI q),.one (int n)] [] (.tup [(false,[.gv 0]),(false,[boo (trA t n.toNat [] q).2])]) [roW (trA t n.toNat [] q).1] := by
  have hb := vTag_bd hv
  refine does_of (k := 0) Tryz.func52 rfl Tryz.ntmps52 rfl rfl fun w F0 S0 ρ0 => ?_
  dsimp only [argT,argH]
  repeat' first|(apply n3;exact a_nilO eW rfl;exact rfl)|(apply n3;(exact a_litE eW [_] rfl rfl rfl rfl rfl rfl rfl rfl);exact rfl;refine dA ?_)|(apply p3;(exact pu1);exact rfl)|refine cd ?_|(apply c4 0;exact callF (hD := (l00Own_ok _ preB149));exact rfl;exact rfl;exact rfl;refine dM ?_)
  refine g_loop_id ?_
  refine loopK [0,6,7] [1] (fun x : Int × List Int × List (List Int) => 0 ≤ x.1 ∧ Gd t x.2.1 ∧ x.1 + x.2.2.length = n ∧ trA t x.1.toNat x.2.2 x.2.1 = trA t n.toNat [] q) (fun x => [(2,.one (int x.1)),(8,.one (.gv 1)),(9,.one (shI x.2.1))]) (fun x => [(1,roW (x.2.2 ++ [x.2.1]))]) (fun x => x.1.toNat) (n,q,([] : List (List Int))) [0,1] (hI := ?_) (hr := ?_)
  · exact ⟨h1,hg,by simp,rfl⟩
  · rintro ⟨m,w,l⟩ ⟨k0,k1,k2,k3⟩
    dsimp only [List.cons_append,List.nil_append] at *
    skip
    have kl := k1.le
    repeat' first|(apply n3;exact a_nilO eW rfl;exact rfl)|(apply n3;(exact a_litE eW [_] rfl rfl rfl rfl rfl rfl rfl rfl);exact rfl;refine dA ?_)|(apply p3;(first|exact pu1|exact puC|exact a_sub rfl rfl (by omega) (by omega));exact rfl)|refine cd ?_|(apply s3;exact a_appE (fP rfl) rfl rfl rfl rfl nowR (by (simp;omega)) (by decide) (by decide) (by exact rfl);exact rfl;exact rfl)|(apply c4 0;exact callF (hD := (l09Step_ok _ _ preB149 preB149 preB149 preB149));exact rfl;exact rfl;exact rfl;refine dM ?_)|refine o_no rfl rfl rfl rfl ?_|(apply py3;exact rfl;exact rfl;(exact pu1);exact rfl;exact rfl)|(apply cy4 0;exact rfl;exact rfl;exact callK1 (θ := []) (hD := (l09Halts_ok _ _ preB149 preB149 preB149));exact rfl;exact rfl;exact rfl;exact rfl;refine dM ?_)|((first|refine o_gs rfl rfl (fun hc => ?_) (fun hc => ?_)|refine g_cond rfl (fun hc => ?_) (fun hc => ?_)) <;> (try simp only [dcB] at hc) <;> (try first|contradiction|(exfalso;omega)))
    · have e : trA t n.toNat [] q = ([],false) := by rw [← k3,show m.toNat = (m - 1).toNat + 1 by omega,trA_o (by assumption) (by simpa using hc)]
      rw [e]
      repeat refine cr ?_
      refine ends_id ?_
      refine endK [?_] (h2 := ?_) (h3 := ?_) (nd := ?_)
      rotate_left 1
      all_goals (repeat' first|exact ce0|refine ce ?_|refine ce2 ?_ ?_|(refine Or.inr (bx_eq rfl rfl ?_);(try dsimp only [C.ren,C.ren.all]);(try exact rfl))|exact SVLe.refl|refine ceb ?_)
      all_goals first | exact (show nodupB _ = true from rfl) | exact Or.inr rfl | (rfl)
    · have ho : tgOver t w = false := by simpa using hc
      refine q_again (m - 1,tgStep t w,l ++ [w]) [0,3] (by exact stk) ?_ ?_
      · dsimp only
        refine ⟨by omega,tgStep_gd hv k1 (by assumption) ho,by simp; omega,?_⟩
        rw [← k3,show m.toNat = (m - 1).toNat + 1 by omega,trA_s (by assumption) ho]
      · dsimp only; omega
    · have e : trA t n.toNat [] q = (l ++ [w],true) := by rw [← k3,trA_h hc]
      rw [e]
      repeat refine cr ?_
      refine ends_id ?_
      refine endK [?_] (h2 := ?_) (h3 := ?_) (nd := ?_)
      rotate_left 1
      all_goals (repeat' first|exact ce0|refine ce ?_|refine ce2 ?_ ?_|(refine Or.inr (bx_eq rfl rfl ?_);(try dsimp only [C.ren,C.ren.all]);(try exact rfl))|exact SVLe.refl|refine ceb ?_)
      all_goals first | exact (show nodupB _ = true from rfl) | exact Or.inr rfl | (rfl)
    · have e : trA t n.toNat [] q = (l ++ [w],true) := by rw [← k3,show m.toNat = 0 by omega,trA_0]
      rw [e]
      repeat refine cr ?_
      refine ends_id ?_
      refine endK [?_] (h2 := ?_) (h3 := ?_) (nd := ?_)
      rotate_left 1
      all_goals (repeat' first|exact ce0|refine ce ?_|refine ce2 ?_ ?_|(refine Or.inr (bx_eq rfl rfl ?_);(try dsimp only [C.ren,C.ren.all]);(try exact rfl))|exact SVLe.refl|refine ceb ?_)
      all_goals first | exact (show nodupB _ = true from rfl) | exact Or.inr rfl | (rfl)
end Go.Proofs.YtjmlbmmbionmcaaGreatDoor
end
section
set_option linter.unusedVariables false
set_option linter.unusedSimpArgs false
set_option maxRecDepth 100000
set_option maxHeartbeats 4000000
namespace Go.Proofs.YtjmlbmmbionmcaaGreatDoor
open Go Foot
theorem preB14 {p : Prop} (h : p := by first | with_reducible assumption | omega | (simp only [List.length_append,List.length_cons,List.length_nil,List.length_set,List.length_replicate,List.length_take,List.length_drop,List.length_tail,List.length_dropLast,List.length_reverse] at *; omega) | exact mem_len (by assumption) (by omega) | (with_reducible refine Int.le_trans (Int.ofNat_le.2 (trimR_len _)) ?_; simp only [List.length_cons,List.length_tail]; omega) | (exact (ruAt_ok (by assumption) (by assumption) (by assumption)).2.1) | (have := vMach_bd (by assumption); omega) | (with_reducible refine Int.le_trans (Int.ofNat_le.2 (pushL_len _ _)) ?_; simp only [List.length_dropLast]; omega) | exact (ask_ok (by assumption)).1 | exact (ask_ok (by assumption)).2.1 | exact (ask_ok (by assumption)).2.2.1 | exact (ask_ok (by assumption)).2.2.2 | trivial) : p := h
theorem mul64_ok (x y : Int) (h1 : 0 ≤ x) (h2 : x ≤ 16777216) (h3 : 0 ≤ y) (h4 : y ≤ 16777216) (h5 : 0 ≤ x * y) (h6 : x * y ≤ 4294967295) : Does Tryz.prog 191 [.one (u64 x),.one (u64 y)] [] (.tup [(false,[u64 0]),(false,[u64 (x * y)])]) [] := by
  have h7 : x * y < 18446744073709551616 := by omega
  refine does_of (k := 0) Tryz.func191 rfl Tryz.ntmps191 rfl rfl fun w F0 S0 ρ0 => ?_
  dsimp only [argT,argH]
  repeat' first|(apply p3;(first|exact pu1|exact u_and rfl rfl (by omega) (by omega)|exact u_shr rfl rfl (by omega) (by omega)|exact u_mul rfl rfl (by first|omega|assumption) (by first|omega|assumption)|exact u_add rfl rfl (by first|omega|assumption) (by first|omega|assumption));exact rfl)|refine cd ?_
  repeat refine cr ?_
  refine ends_id ?_
  refine endK [] (h2 := ?_) (h3 := ?_) (nd := ?_)
  all_goals (repeat' first|exact ce0|refine ce ?_|refine ce2 ?_ ?_|exact SVLe.refl|refine ceb ?_)
  all_goals first | exact (show nodupB _ = true from rfl) | exact Or.inr rfl | (simp)
theorem mulU_ok (x y : Int) (h1 : 0 ≤ x) (h2 : x ≤ 16777216) (h3 : 0 ≤ y) (h4 : y ≤ 16777216) (h5 : 0 ≤ x * y) (h6 : x * y ≤ 4294967295) : Does Tryz.prog 171 [.one (u64 x),.one (u64 y)] [] (.tup [(false,[u64 0]),(false,[u64 (x * y)])]) [] := by
  refine does_of (k := 0) Tryz.func171 rfl Tryz.ntmps171 rfl rfl fun w F0 S0 ρ0 => ?_
  dsimp only [argT,argH]
  repeat' first|(apply p3;(exact pu1);exact rfl)|refine cd ?_|(apply c4 0;exact callK1 (θ := []) (hD := (mul64_ok _ _ preB14 preB14 preB14 preB14 preB14 preB14));exact rfl;exact rfl;exact rfl;refine dM ?_)
  repeat refine cr ?_
  refine ends_id ?_
  refine endK [] (h2 := ?_) (h3 := ?_) (nd := ?_)
  all_goals (repeat' first|exact ce0|refine ce ?_|refine ce2 ?_ ?_|exact SVLe.refl|refine ceb ?_)
  all_goals first | exact (show nodupB _ = true from rfl) | exact Or.inr rfl | (rfl)
end Go.Proofs.YtjmlbmmbionmcaaGreatDoor
end
section
set_option linter.unusedVariables false
set_option linter.unusedSimpArgs false
set_option maxRecDepth 100000
set_option maxHeartbeats 1000000
namespace Go.Proofs.YtjmlbmmbionmcaaGreatDoor
open Go Foot Go.RowKit
def ixT (x : Bs) : List Bs → Int
  | [] => -1
  | y :: l => if x = y then 0 else if ixT x l < 0 then -1 else ixT x l + 1
theorem ixT_ge (x : Bs) : ∀ l : List Bs,-1 ≤ ixT x l
  | [] => by rw [ixT]; omega
  | y :: l => by have := ixT_ge x l; rw [ixT]; split; omega; split <;> omega
theorem ixT_lt (x : Bs) : ∀ l : List Bs,ixT x l < l.length
  | [] => by rw [ixT]; simp
  | y :: l => by have := ixT_lt x l; rw [ixT,List.length_cons]; split; omega; split <;> omega
theorem ixT_app {x : Bs} : ∀ {a b : List Bs},x ∉ a → ixT x (a ++ b) = if ixT x b < 0 then -1 else a.length + ixT x b
  | [],b,_ => by
    rw [List.nil_append]
    have := ixT_ge x b
    split
    · omega
    · simp
  | y :: a,b,h => by
    have ih := ixT_app (x := x) (a := a) (b := b) (fun q => h (by simp [q]))
    have hne : ¬ x = y := fun e => h (by simp [e])
    rw [List.cons_append,ixT,if_neg hne,ih]
    by_cases q : ixT x b < 0
    · rw [if_pos q,if_pos q,if_pos (by omega)]
    · rw [if_neg q,if_neg q,if_neg (by omega)]
      simp only [List.length_cons]
      omega
theorem ixT_no {x : Bs} {l : List Bs} (h : x ∉ l) : ixT x l = -1 := by
  have := ixT_app (x := x) (a := l) (b := []) h
  rw [List.append_nil] at this
  rw [this]
  rfl
theorem ixT_at {x : Bs} {l : List Bs} {i : Nat} (h : i < l.length) (h1 : x ∉ l.take i) (h2 : x = l[i]) : ixT x l = i := by
  have e := List.take_append_drop i l
  rw [List.drop_eq_getElem_cons h] at e
  rw [← e,ixT_app h1]
  have : ixT x (l[i] :: l.drop (i + 1)) = 0 := by rw [ixT,if_pos h2]
  rw [this,List.length_take]
  omega
def nmL : List Bs := [[65],[97],[66],[98],[65,49],[97,49],[66,49],[98,49],[80,49],[80,48],[112,49],[112,48],[81,49],[81,48],[114,49],[114,48],[69],[101],[70,49],[70,48],[102,49],[102,48],[72,49],[72,48],[104,49],[104,48],[74,49],[74,48],[106,49],[106,48]]
abbrev xN : Bs := [120]
@[irreducible] def ltN (s : Bs) (q : Int) : Int := 1 + 30 * q + ixT s nmL
theorem ltN_i {s : Bs} (k : Int) (h : ixT s nmL = k) (q : Int) : ltN s q = 1 + 30 * q + k := by unfold ltN; rw [h]
theorem ltN_bd (s : Bs) (q : Int) : 30 * q ≤ ltN s q ∧ ltN s q ≤ 30 * q + 30 := by
  unfold ltN
  have h1 := ixT_ge s nmL
  have h2 := ixT_lt s nmL
  have : nmL.length = 30 := rfl
  omega
@[irreducible] def wdN (ns : List Bs) (q : Int) : List Int := ns.map fun s => if s = xN then 0 else ltN s q
theorem wdN_snoc (ns : List Bs) (s : Bs) (q : Int) : wdN (ns ++ [s]) q = wdN ns q ++ [if s = xN then 0 else ltN s q] := by unfold wdN; rw [List.map_append]; rfl
theorem wdN_nil (q : Int) : wdN [] q = [] := by unfold wdN; rfl
theorem wdN_len (ns : List Bs) (q : Int) : (wdN ns q).length = ns.length := by unfold wdN; rw [List.length_map]
theorem wdN_bd {ns : List Bs} {q y : Int} (hq : 0 ≤ q) (h : y ∈ wdN ns q) : 0 ≤ y ∧ y ≤ 30 * q + 30 := by
  unfold wdN at h
  obtain ⟨s,hs,e⟩ := List.mem_map.1 h
  subst e
  split
  · omega
  · have := ltN_bd s q
    omega
@[irreducible] def fixN (s : Bs) : List Bs :=
  if s = [65] then [[65,49],xN] else if s = [97] then [[97,49],xN] else if s = [66] then [[66,49]] else if s = [98] then [[98,49]]
  else if s = [65,49] then [[80,49],[80,48]] else if s = [97,49] then [[112,49],[112,48]] else if s = [66,49] then [[81,49],[81,48]] else if s = [98,49] then [[114,49],[114,48]]
  else if s = [69] then [[72,49],[72,48]] else if s = [101] then [[104,49],[104,48]]
  else if s = [70,49] then [[74,49],[74,48],[106,49],[106,48]] else if s = [70,48] then [[74,49],[74,48]]
  else if s = [102,49] then [[106,49],[106,48]] else if s = [102,48] then [[106,49],[106,48]]
  else if s = [72,49] then [[65],xN] else if s = [72,48] then [xN,[65],xN] else if s = [104,49] then [[97],xN] else if s = [104,48] then [[97],xN]
  else if s = [74,49] then [[66],xN] else if s = [74,48] then [[66],xN] else [[98],xN]
@[irreducible] def rlN (r : Rule') (s : Int) : List (List Bs) :=
  if 0 < r.m then [(if s = 0 then [xN] else []) ++ [[65],xN] ++ (if r.w = 1 then [[97],xN] else []),[[97],xN,[97],xN],[[66],xN],[[98],xN]]
  else [(if s = 0 then [xN] else []) ++ [[69]],[[101]],[[70,49],[70,48]] ++ (if r.w = 1 then [[102,49],[102,48],[102,49],[102,48]] else []),[[102,49],[102,48],[102,49],[102,48],[102,49],[102,48],[102,49],[102,48]]]
theorem rlN_len (r : Rule') (s : Int) : (rlN r s).length = 4 := by unfold rlN; split <;> rfl
@[irreducible] def rwN (r : Rule') (s : Int) (i : Nat) : List Int := if r = noR then [] else wdN ((rlN r s).getD i []) r.n
theorem rwN_no (s : Int) (i : Nat) : rwN noR s i = [] := by unfold rwN; rw [if_pos rfl]
@[irreducible] def fxN (q : Int) (i : Nat) : List Int := wdN (fixN (nmL.getD i [])) q
def blkN (q : Int) (a b : Nat → List Int) : List (List Int) := [fxN q 0,fxN q 1,fxN q 2,fxN q 3,fxN q 4,fxN q 5,fxN q 6,fxN q 7,b 0,a 0,b 1,a 1,b 2,a 2,b 3,a 3,fxN q 16,fxN q 17,fxN q 18,fxN q 19,fxN q 20,fxN q 21,fxN q 22,fxN q 23,fxN q 24,fxN q 25,fxN q 26,fxN q 27,fxN q 28,fxN q 29]
theorem blkN_len (q : Int) (a b : Nat → List Int) : (blkN q a b).length = 30 := rfl
@[irreducible] def ruN (m : Mach) (q : Nat) (s : Nat) : Rule' := m.ru.getD (2 * q + s) noR
def tmW (m : Mach) : Nat → List (List Int)
  | 0 => [[]]
  | q + 1 => tmW m q ++ blkN q (rwN (ruN m q 0) 0) (rwN (ruN m q 1) 1)
def tmH (m : Mach) : Nat → List Int
  | 0 => []
  | q + 1 => tmH m q ++ ((if ruN m q 1 = noR then [1 + 30 * (q : Int) + 8] else []) ++ (if ruN m q 0 = noR then [1 + 30 * (q : Int) + 9] else []))
def tmU (m : Mach) : Nat → List Int
  | 0 => []
  | q + 1 => tmU m q ++ ((if ruN m q 0 = noR then [1 + 30 * (q : Int) + 9] else []) ++ (if ruN m q 1 = noR then [1 + 30 * (q : Int) + 8] else []))
abbrev tmT (m : Mach) : Tg := ⟨2,tmW m m.st.toNat,tmH m m.st.toNat⟩
theorem tmW_len (m : Mach) : ∀ q : Nat,(tmW m q).length = 1 + 30 * q
  | 0 => rfl
  | q + 1 => by rw [tmW,List.length_append,tmW_len m q,blkN_len]; omega
theorem tmU_perm (m : Mach) : ∀ q : Nat,(tmU m q).Perm (tmH m q)
  | 0 => List.Perm.refl _
  | q + 1 => by rw [tmU,tmH]; exact (tmU_perm m q).append List.perm_append_comm
theorem tmH_mem (m : Mach) : ∀ (q : Nat) {x : Int},x ∈ tmH m q → 1 ≤ x ∧ x ≤ 30 * q
  | 0,x,h => by simp [tmH] at h
  | q + 1,x,h => by
    rw [tmH] at h
    rcases List.mem_append.1 h with h | h
    · have := tmH_mem m q h; omega
    · rcases List.mem_append.1 h with h | h
      · split at h
        · simp at h; omega
        · simp at h
      · split at h
        · simp at h; omega
        · simp at h
theorem tmH_asc (m : Mach) : ∀ q : Nat,(tmH m q).Pairwise (· < ·)
  | 0 => by simp [tmH]
  | q + 1 => by
    rw [tmH,List.pairwise_append]
    refine ⟨tmH_asc m q,?_,?_⟩
    · split <;> split <;> simp <;> omega
    · intro x hx y hy
      have := (tmH_mem m q hx).2
      rcases List.mem_append.1 hy with h | h
      · split at h
        · simp at h; omega
        · simp at h
      · split at h
        · simp at h; omega
        · simp at h
theorem tmH_len (m : Mach) : ∀ q : Nat,(tmH m q).length ≤ 2 * q
  | 0 => by simp [tmH]
  | q + 1 => by
    have := tmH_len m q
    rw [tmH,List.length_append,List.length_append]
    split <;> split <;> simp <;> omega
theorem tmU_len (m : Mach) (q : Nat) : (tmU m q).length ≤ 2 * q := by rw [(tmU_perm m q).length_eq]; exact tmH_len m q
theorem ite_len {c : Prop} [Decidable c] {a b : List Bs} (ha : a.length ≤ 8) (hb : b.length ≤ 8) : (if c then a else b).length ≤ 8 := by
  by_cases h : c
  · rw [if_pos h]; exact ha
  · rw [if_neg h]; exact hb
theorem fixN_len (s : Bs) : (fixN s).length ≤ 8 := by
  unfold fixN
  repeat (refine ite_len (by decide) ?_)
  decide
theorem rlN_le {r : Rule'} {s : Int} : ∀ x ∈ rlN r s,x.length ≤ 8 := by
  unfold rlN
  split <;> (repeat (any_goals split)) <;> simp
theorem fxN_gd {q : Int} (hq : 0 ≤ q) (i : Nat) : (fxN q i).length ≤ 8 ∧ ∀ y ∈ fxN q i,0 ≤ y ∧ y ≤ 30 * q + 30 := by
  unfold fxN
  exact ⟨by rw [wdN_len]; exact fixN_len _,fun y h => wdN_bd hq h⟩
theorem rwN_gd {r : Rule'} {s : Int} (hr : r = noR ∨ 0 ≤ r.n) (i : Nat) : (rwN r s i).length ≤ 8 ∧ ∀ y ∈ rwN r s i,0 ≤ y ∧ (y ≤ 30 * r.n + 30 ∧ r ≠ noR) := by
  unfold rwN
  by_cases h : r = noR
  · rw [if_pos h]; simp
  · rw [if_neg h]
    have hr' : 0 ≤ r.n := by rcases hr with e | e; exact absurd e h; exact e
    refine ⟨?_,fun y hy => ⟨(wdN_bd hr' hy).1,(wdN_bd hr' hy).2,h⟩⟩
    rw [wdN_len,List.getD_eq_getElem?_getD]
    cases e : (rlN r s)[i]? with
    | none => simp
    | some x => exact rlN_le x (List.mem_of_getElem? e)
structure TmOk (m : Mach) : Prop where
  v : vMach m = true
  y : m.sy = 2
  s : m.st ≤ 6
theorem tm_ru {m : Mach} (g : TmOk m) {q s : Nat} (hq : q < m.st.toNat) (hs : s < 2) : ruN m q s = noR ∨ (((ruN m q s).w = 0 ∨ (ruN m q s).w = 1) ∧ ((ruN m q s).m = 1 ∨ (ruN m q s).m = -1) ∧ 0 ≤ (ruN m q s).n ∧ (ruN m q s).n ≤ m.st - 1) := by
  have hb := vMach_bd g.v
  have hy := g.y
  have hv := g.v
  rw [hy] at hb
  have hl : 2 * q + s < m.ru.length := by omega
  unfold vMach at hv
  rw [Bool.and_eq_true,List.all_eq_true] at hv
  have := hv.2 _ (List.getElem_mem hl)
  unfold okRule at this
  rw [decide_eq_true_eq,get_getD _ noR,hy] at this
  unfold ruN
  rcases this with h | ⟨h1,h2,h3⟩
  · exact .inl h
  · exact .inr ⟨by omega,h2,h3⟩
theorem tmW_gd {m : Mach} (g : TmOk m) : ∀ (k : Nat),k ≤ m.st.toNat → ∀ x ∈ tmW m k,x.length ≤ 8 ∧ ∀ y ∈ x,0 ≤ y ∧ y ≤ 30 * m.st
  | 0,_,x,h => by simp [tmW] at h; subst h; simp
  | k + 1,hk,x,h => by
    rw [tmW] at h
    rcases List.mem_append.1 h with h | h
    · exact tmW_gd g k (by omega) x h
    · have r0 := tm_ru g (q := k) (s := 0) (by omega) (by omega)
      have r1 := tm_ru g (q := k) (s := 1) (by omega) (by omega)
      have f : ∀ i,(fxN (k : Int) i).length ≤ 8 ∧ ∀ y ∈ fxN (k : Int) i,0 ≤ y ∧ y ≤ 30 * m.st := fun i => by
        have := fxN_gd (q := (k : Int)) (by omega) i
        exact ⟨this.1,fun y hy => by have := this.2 y hy; omega⟩
      have f0 : ∀ i,(rwN (ruN m k 0) 0 i).length ≤ 8 ∧ ∀ y ∈ rwN (ruN m k 0) 0 i,0 ≤ y ∧ y ≤ 30 * m.st := fun i => by
        have := rwN_gd (r := ruN m k 0) (s := 0) (by rcases r0 with h | h; exact .inl h; exact .inr h.2.2.1) i
        refine ⟨this.1,fun y hy => ?_⟩
        have h5 := this.2 y hy
        rcases r0 with h | h
        · exact absurd h h5.2.2
        · omega
      have f1 : ∀ i,(rwN (ruN m k 1) 1 i).length ≤ 8 ∧ ∀ y ∈ rwN (ruN m k 1) 1 i,0 ≤ y ∧ y ≤ 30 * m.st := fun i => by
        have := rwN_gd (r := ruN m k 1) (s := 1) (by rcases r1 with h | h; exact .inl h; exact .inr h.2.2.1) i
        refine ⟨this.1,fun y hy => ?_⟩
        have h5 := this.2 y hy
        rcases r1 with h | h
        · exact absurd h h5.2.2
        · omega
      simp only [blkN,List.mem_cons,List.not_mem_nil,or_false] at h
      repeat (first | exact f _ | exact f0 _ | exact f1 _ | (rcases h with h | h; · (subst h; first | exact f _ | exact f0 _ | exact f1 _)) | subst h)
theorem asc_rises {l : List Int} (h : l.Pairwise (· < ·)) : risesL l = true := by
  unfold risesL
  rw [List.all_eq_true]
  intro i hi
  rw [List.mem_range] at hi
  rw [decide_eq_true_eq,← get_getD l 0 _ (by omega),← get_getD l 0 _ (by omega)]
  exact List.pairwise_iff_getElem.1 h i (i + 1) (by omega) (by omega) (by omega)
theorem tmT_v {m : Mach} (g : TmOk m) : vTag (tmT m) = true := by
  have hb := vMach_bd g.v
  have hs := g.s
  have hl := tmW_len m m.st.toNat
  have hl' : ((tmT m).wo.length : Int) = 1 + 30 * m.st := by show ((tmW m m.st.toNat).length : Int) = _; omega
  unfold vTag
  rw [hl']
  simp only [Bool.and_eq_true,decide_eq_true_eq,List.all_eq_true]
  refine ⟨⟨⟨by decide,by omega,by omega⟩,asc_rises (tmH_asc m _),?_⟩,fun x hx => ?_⟩
  · unfold inAll
    rw [List.all_eq_true]
    intro x hx
    have := tmH_mem m _ hx
    rw [decide_eq_true_eq]
    omega
  · have := tmW_gd g _ (Nat.le_refl _) x hx
    unfold tgWord inAll
    rw [Bool.and_eq_true,List.all_eq_true,decide_eq_true_eq]
    refine ⟨fun y hy => ?_,by omega⟩
    have := this.2 y hy
    rw [decide_eq_true_eq]
    omega
end Go.Proofs.YtjmlbmmbionmcaaGreatDoor
end
section
set_option linter.unusedVariables false
set_option linter.unusedSimpArgs false
set_option maxRecDepth 100000
set_option maxHeartbeats 1000000
namespace Go.Proofs.YtjmlbmmbionmcaaGreatDoor
open Go Foot Go.RowKit
abbrev noN : Nat → List Int := fun _ => []
def b0N (q : Int) : List (List Int) := (List.range 30).map fun i => if i < 8 ∨ 16 ≤ i then fxN q i else []
theorem b0N_blk (q : Int) : b0N q = blkN q noN noN := rfl
theorem b0N_len (q : Int) : (b0N q).length = 30 := rfl
def tbgN : List (List Bs) := [[[65],[65,49],xN],[[97],[97,49],xN],[[66],[66,49]],[[98],[98,49]],[[65,49],[80,49],[80,48]],[[97,49],[112,49],[112,48]],[[66,49],[81,49],[81,48]],[[98,49],[114,49],[114,48]],[[69],[72,49],[72,48]],[[101],[104,49],[104,48]],[[70,49],[74,49],[74,48],[106,49],[106,48]],[[70,48],[74,49],[74,48]],[[102,49],[106,49],[106,48]],[[102,48],[106,49],[106,48]],[[72,49],[65],xN],[[72,48],xN,[65],xN],[[104,49],[97],xN],[[104,48],[97],xN],[[74,49],[66],xN],[[74,48],[66],xN],[[106,49],[98],xN],[[106,48],[98],xN]]
@[irreducible] def seN (q p : Int) (ws : List (List Int)) (s : Bs) (ns : List Bs) : List (List Int) := ws.set (ltN s q).toNat (wdN ns p)
theorem seN_len (q p : Int) (ws : List (List Int)) (s : Bs) (ns : List Bs) : (seN q p ws s ns).length = ws.length := by unfold seN; simp
def stN (q : Int) (ws : List (List Int)) (l : List (List Bs)) : List (List Int) := l.foldl (fun ws r => seN q q ws (r.headD []) r.tail) ws
theorem stN_snoc (q : Int) (ws : List (List Int)) (l : List (List Bs)) (r : List Bs) : stN q ws (l ++ [r]) = seN q q (stN q ws l) (r.headD []) r.tail := by
  unfold stN
  rw [List.foldl_append]
  rfl
theorem stN_len (q : Int) : ∀ (l : List (List Bs)) (ws : List (List Int)),(stN q ws l).length = ws.length
  | [],ws => rfl
  | r :: l,ws => by
    show (stN q (seN q q ws (r.headD []) r.tail) l).length = _
    rw [stN_len q l,seN_len]
theorem set_mdl {pre l post : List (List Int)} {k : Nat} {x : List Int} (h : k < l.length) : (pre ++ l ++ post).set (pre.length + k) x = pre ++ l.set k x ++ post := by
  rw [List.append_assoc,List.set_append_right _ _ (by omega),Nat.add_sub_cancel_left,List.set_append_left _ _ h,List.append_assoc]
theorem ltN_at {s : Bs} {q : Nat} {pre : List (List Int)} (hp : pre.length = 1 + 30 * q) (h : 0 ≤ ixT s nmL) : (ltN s (q : Int)).toNat = pre.length + (ixT s nmL).toNat := by
  unfold ltN
  omega
theorem stN_mid {q : Nat} {pre post : List (List Int)} (hp : pre.length = 1 + 30 * q) : ∀ (l : List (List Bs)) (b : List (List Int)),b.length = 30 → (∀ r ∈ l,0 ≤ ixT (r.headD []) nmL) → stN q (pre ++ b ++ post) l = pre ++ l.foldl (fun b r => b.set (ixT (r.headD []) nmL).toNat (wdN r.tail q)) b ++ post
  | [],b,_,_ => rfl
  | r :: l,b,hb,h => by
    have h0 := h r (by simp)
    have h1 := ixT_lt (r.headD []) nmL
    have h2 : nmL.length = 30 := rfl
    show stN q (seN q q (pre ++ b ++ post) (r.headD []) r.tail) l = _
    rw [seN,ltN_at hp h0,set_mdl (by omega),stN_mid hp l _ (by rw [List.length_set]; exact hb) (fun r hr => h r (by simp [hr]))]
    rfl
def tbgK : List (Nat × List Bs) := [(0,[[65,49],xN]),(1,[[97,49],xN]),(2,[[66,49]]),(3,[[98,49]]),(4,[[80,49],[80,48]]),(5,[[112,49],[112,48]]),(6,[[81,49],[81,48]]),(7,[[114,49],[114,48]]),(16,[[72,49],[72,48]]),(17,[[104,49],[104,48]]),(18,[[74,49],[74,48],[106,49],[106,48]]),(19,[[74,49],[74,48]]),(20,[[106,49],[106,48]]),(21,[[106,49],[106,48]]),(22,[[65],xN]),(23,[xN,[65],xN]),(24,[[97],xN]),(25,[[97],xN]),(26,[[66],xN]),(27,[[66],xN]),(28,[[98],xN]),(29,[[98],xN])]
theorem tbg_K : tbgN.map (fun r => ((ixT (r.headD []) nmL).toNat,r.tail)) = tbgK := by decide
theorem tbg_fold (q : Int) : ∀ (l : List (List Bs)) (b : List (List Int)),l.foldl (fun b r => b.set (ixT (r.headD []) nmL).toNat (wdN r.tail q)) b = (l.map (fun r => ((ixT (r.headD []) nmL).toNat,r.tail))).foldl (fun b e => b.set e.1 (wdN e.2 q)) b
  | [],b => rfl
  | r :: l,b => by
    rw [List.foldl_cons,List.map_cons,List.foldl_cons,tbg_fold q l]
theorem fx_0 (q : Int) : fxN q 0 = wdN [[65,49],xN] q := by unfold fxN; rw [show fixN (nmL.getD 0 []) = [[65,49],xN] by unfold fixN; decide]
theorem fx_1 (q : Int) : fxN q 1 = wdN [[97,49],xN] q := by unfold fxN; rw [show fixN (nmL.getD 1 []) = [[97,49],xN] by unfold fixN; decide]
theorem fx_2 (q : Int) : fxN q 2 = wdN [[66,49]] q := by unfold fxN; rw [show fixN (nmL.getD 2 []) = [[66,49]] by unfold fixN; decide]
theorem fx_3 (q : Int) : fxN q 3 = wdN [[98,49]] q := by unfold fxN; rw [show fixN (nmL.getD 3 []) = [[98,49]] by unfold fixN; decide]
theorem fx_4 (q : Int) : fxN q 4 = wdN [[80,49],[80,48]] q := by unfold fxN; rw [show fixN (nmL.getD 4 []) = [[80,49],[80,48]] by unfold fixN; decide]
theorem fx_5 (q : Int) : fxN q 5 = wdN [[112,49],[112,48]] q := by unfold fxN; rw [show fixN (nmL.getD 5 []) = [[112,49],[112,48]] by unfold fixN; decide]
theorem fx_6 (q : Int) : fxN q 6 = wdN [[81,49],[81,48]] q := by unfold fxN; rw [show fixN (nmL.getD 6 []) = [[81,49],[81,48]] by unfold fixN; decide]
theorem fx_7 (q : Int) : fxN q 7 = wdN [[114,49],[114,48]] q := by unfold fxN; rw [show fixN (nmL.getD 7 []) = [[114,49],[114,48]] by unfold fixN; decide]
theorem fx_16 (q : Int) : fxN q 16 = wdN [[72,49],[72,48]] q := by unfold fxN; rw [show fixN (nmL.getD 16 []) = [[72,49],[72,48]] by unfold fixN; decide]
theorem fx_17 (q : Int) : fxN q 17 = wdN [[104,49],[104,48]] q := by unfold fxN; rw [show fixN (nmL.getD 17 []) = [[104,49],[104,48]] by unfold fixN; decide]
theorem fx_18 (q : Int) : fxN q 18 = wdN [[74,49],[74,48],[106,49],[106,48]] q := by unfold fxN; rw [show fixN (nmL.getD 18 []) = [[74,49],[74,48],[106,49],[106,48]] by unfold fixN; decide]
theorem fx_19 (q : Int) : fxN q 19 = wdN [[74,49],[74,48]] q := by unfold fxN; rw [show fixN (nmL.getD 19 []) = [[74,49],[74,48]] by unfold fixN; decide]
theorem fx_20 (q : Int) : fxN q 20 = wdN [[106,49],[106,48]] q := by unfold fxN; rw [show fixN (nmL.getD 20 []) = [[106,49],[106,48]] by unfold fixN; decide]
theorem fx_21 (q : Int) : fxN q 21 = wdN [[106,49],[106,48]] q := by unfold fxN; rw [show fixN (nmL.getD 21 []) = [[106,49],[106,48]] by unfold fixN; decide]
theorem fx_22 (q : Int) : fxN q 22 = wdN [[65],xN] q := by unfold fxN; rw [show fixN (nmL.getD 22 []) = [[65],xN] by unfold fixN; decide]
theorem fx_23 (q : Int) : fxN q 23 = wdN [xN,[65],xN] q := by unfold fxN; rw [show fixN (nmL.getD 23 []) = [xN,[65],xN] by unfold fixN; decide]
theorem fx_24 (q : Int) : fxN q 24 = wdN [[97],xN] q := by unfold fxN; rw [show fixN (nmL.getD 24 []) = [[97],xN] by unfold fixN; decide]
theorem fx_25 (q : Int) : fxN q 25 = wdN [[97],xN] q := by unfold fxN; rw [show fixN (nmL.getD 25 []) = [[97],xN] by unfold fixN; decide]
theorem fx_26 (q : Int) : fxN q 26 = wdN [[66],xN] q := by unfold fxN; rw [show fixN (nmL.getD 26 []) = [[66],xN] by unfold fixN; decide]
theorem fx_27 (q : Int) : fxN q 27 = wdN [[66],xN] q := by unfold fxN; rw [show fixN (nmL.getD 27 []) = [[66],xN] by unfold fixN; decide]
theorem fx_28 (q : Int) : fxN q 28 = wdN [[98],xN] q := by unfold fxN; rw [show fixN (nmL.getD 28 []) = [[98],xN] by unfold fixN; decide]
theorem fx_29 (q : Int) : fxN q 29 = wdN [[98],xN] q := by unfold fxN; rw [show fixN (nmL.getD 29 []) = [[98],xN] by unfold fixN; decide]
theorem tbg_blk (q : Int) : tbgN.foldl (fun b r => b.set (ixT (r.headD []) nmL).toNat (wdN r.tail q)) (List.replicate 30 []) = blkN q noN noN := by
  rw [tbg_fold,tbg_K]
  unfold blkN
  rw [fx_0,fx_1,fx_2,fx_3,fx_4,fx_5,fx_6,fx_7,fx_16,fx_17,fx_18,fx_19,fx_20,fx_21,fx_22,fx_23,fx_24,fx_25,fx_26,fx_27,fx_28,fx_29]
  simp only [tbgK,List.foldl_cons,List.foldl_nil,List.replicate,List.set_cons_succ,List.set_cons_zero]
theorem tbg_ix : ∀ r ∈ tbgN,0 ≤ ixT (r.headD []) nmL := by decide
theorem stN_blk {q : Nat} {pre post : List (List Int)} (hp : pre.length = 1 + 30 * q) : stN q (pre ++ List.replicate 30 [] ++ post) tbgN = pre ++ blkN q noN noN ++ post := by
  rw [stN_mid hp tbgN _ rfl tbg_ix,tbg_blk]
def stI (ws : List (List Int)) (k : Nat) (f : Nat → List Int) : Nat → List (List Int)
  | 0 => ws
  | i + 1 => (stI ws k f i).set (k + 2 * i) (f i)
theorem stI_len (ws : List (List Int)) (k : Nat) (f : Nat → List Int) : ∀ i,(stI ws k f i).length = ws.length
  | 0 => rfl
  | i + 1 => by rw [stI,List.length_set,stI_len ws k f i]
theorem stI_mid {pre post : List (List Int)} {k : Nat} {f : Nat → List Int} : ∀ {n : Nat} {b : List (List Int)},k + 2 * n ≤ b.length + 1 → stI (pre ++ b ++ post) (pre.length + k) f n = pre ++ stI b k f n ++ post
  | 0,b,h => rfl
  | n + 1,b,h => by
    rw [stI,stI_mid (by omega),Nat.add_assoc,set_mdl (by rw [stI_len]; omega)]
    rfl
def ruS (q : Nat) (s : Nat) (r : Rule') (ws : List (List Int)) : List (List Int) := stI ws (1 + 30 * q + (9 - s)) (rwN r s) 4
theorem ruS_1 {q : Nat} {pre post : List (List Int)} (hp : pre.length = 1 + 30 * q) (r : Rule') (a b : Nat → List Int) : ruS q 1 r (pre ++ blkN q a b ++ post) = pre ++ blkN q a (rwN r 1) ++ post := by
  unfold ruS
  rw [← hp,stI_mid (by rw [blkN_len]; omega)]
  rfl
theorem ruS_0 {q : Nat} {pre post : List (List Int)} (hp : pre.length = 1 + 30 * q) (r : Rule') (a b : Nat → List Int) : ruS q 0 r (pre ++ blkN q a b ++ post) = pre ++ blkN q (rwN r 0) b ++ post := by
  unfold ruS
  rw [← hp,stI_mid (by rw [blkN_len]; omega)]
  rfl
theorem rwN_noN (s : Int) : rwN noR s = noN := funext fun i => rwN_no s i
theorem rwN_get {r : Rule'} {s : Int} {i : Nat} (hr : r ≠ noR) : rwN r s i = wdN ((rlN r s).getD i []) r.n := by unfold rwN; rw [if_neg hr]
@[irreducible] def midS (m : Mach) (q : Nat) (s : Int) : List (List Int) := tmW m q ++ blkN q (if s < 0 then rwN (ruN m q 0) 0 else noN) (if s < 1 then rwN (ruN m q 1) 1 else noN)
@[irreducible] def midH (m : Mach) (q : Nat) (s : Int) : List Int := tmH m q ++ ((if s < 1 ∧ ruN m q 1 = noR then [1 + 30 * (q : Int) + 8] else []) ++ (if s < 0 ∧ ruN m q 0 = noR then [1 + 30 * (q : Int) + 9] else []))
theorem midS_1 (m : Mach) (q : Nat) : midS m q 1 = tmW m q ++ b0N q := by unfold midS; rw [b0N_blk]; rfl
theorem midH_1 (m : Mach) (q : Nat) : midH m q 1 = tmH m q := by unfold midH; simp
theorem midS_e (m : Mach) (q : Nat) : midS m q (-1) = tmW m (q + 1) := by unfold midS; rw [tmW]; rfl
theorem midH_e (m : Mach) (q : Nat) : midH m q (-1) = tmH m (q + 1) := by unfold midH; rw [tmH]; simp
theorem midS_len (m : Mach) (q : Nat) (s : Int) : (midS m q s).length = 31 + 30 * q := by unfold midS; rw [List.length_append,tmW_len,blkN_len]; omega
theorem midS_no {m : Mach} {q s : Nat} (hs : s < 2) (h : ruN m q s = noR) : midS m q ((s : Int) - 1) = midS m q s := by
  unfold midS
  have h01 : s = 0 ∨ s = 1 := by omega
  rcases h01 with e | e
  · subst e
    rw [h,rwN_noN]
    simp
  · subst e
    rw [h,rwN_noN]
    simp
theorem midH_no {m : Mach} {q s : Nat} (hs : s < 2) (h : ruN m q s = noR) : midH m q ((s : Int) - 1) = midH m q s ++ [1 + 30 * (q : Int) + 8 + (1 - s)] := by
  unfold midH
  have h01 : s = 0 ∨ s = 1 := by omega
  rcases h01 with e | e
  · subst e
    simp [h]
    omega
  · subst e
    simp [h]
theorem midH_ru {m : Mach} {q s : Nat} (hs : s < 2) (h : ruN m q s ≠ noR) : midH m q ((s : Int) - 1) = midH m q s := by
  unfold midH
  have h01 : s = 0 ∨ s = 1 := by omega
  rcases h01 with e | e
  · subst e
    simp [h]
  · subst e
    simp [h]
theorem midS_ru {m : Mach} {q s : Nat} (hs : s < 2) : midS m q ((s : Int) - 1) = ruS q s (ruN m q s) (midS m q s) := by
  have h01 : s = 0 ∨ s = 1 := by omega
  have hp := tmW_len m q
  rcases h01 with e | e
  · subst e
    unfold midS
    have := ruS_0 (post := []) hp (ruN m q 0) noN (rwN (ruN m q 1) 1)
    rw [List.append_nil,List.append_nil] at this
    exact this.symm
  · subst e
    unfold midS
    have := ruS_1 (post := []) hp (ruN m q 1) noN noN
    rw [List.append_nil,List.append_nil] at this
    exact this.symm
@[irreducible] def miiS (m : Mach) (q : Nat) (v : Nat) : List (List Int) := tmW m q ++ blkN q (if 0 < v then rwN (ruN m q 0) 0 else noN) (if 1 < v then rwN (ruN m q 1) 1 else noN) ++ List.replicate (30 * (m.st.toNat - (q + 1))) []
@[irreducible] def miiU (m : Mach) (q : Nat) (v : Nat) : List Int := tmU m q ++ ((if 0 < v ∧ ruN m q 0 = noR then [1 + 30 * (q : Int) + 9] else []) ++ (if 1 < v ∧ ruN m q 1 = noR then [1 + 30 * (q : Int) + 8] else []))
@[irreducible] def aheS (m : Mach) (q : Nat) : List (List Int) := tmW m q ++ List.replicate (30 * (m.st.toNat - q)) []
theorem aheS_0 (m : Mach) (h : 1 ≤ m.st) : aheS m 0 = List.replicate (1 + 30 * m.st).toNat [] := by
  unfold aheS
  rw [tmW,show (1 + 30 * m.st).toNat = 30 * (m.st.toNat - 0) + 1 by omega,List.replicate_succ]
  rfl
theorem aheS_e (m : Mach) : aheS m m.st.toNat = tmW m m.st.toNat := by unfold aheS; rw [Nat.sub_self]; simp
theorem aheS_len {m : Mach} {q : Nat} (h : q ≤ m.st.toNat) : (aheS m q).length = 1 + 30 * m.st.toNat := by unfold aheS; rw [List.length_append,tmW_len,List.length_replicate]; omega
theorem miiS_0 {m : Mach} {q : Nat} (h : q < m.st.toNat) : stN q (aheS m q) tbgN = miiS m q 0 := by
  unfold aheS miiS
  rw [show 30 * (m.st.toNat - q) = 30 + 30 * (m.st.toNat - (q + 1)) by omega,← List.replicate_append_replicate,← List.append_assoc,stN_blk (tmW_len m q)]
  rfl
theorem miiS_e {m : Mach} {q : Nat} : miiS m q 2 = aheS m (q + 1) := by unfold miiS aheS; rw [tmW]; rfl
theorem miiU_0 (m : Mach) (q : Nat) : miiU m q 0 = tmU m q := by unfold miiU; simp
theorem miiU_e (m : Mach) (q : Nat) : miiU m q 2 = tmU m (q + 1) := by unfold miiU; rw [tmU]; simp
theorem miiS_len {m : Mach} {q v : Nat} (h : q < m.st.toNat) : (miiS m q v).length = 1 + 30 * m.st.toNat := by unfold miiS; rw [List.length_append,List.length_append,tmW_len,blkN_len,List.length_replicate]; omega
theorem miiS_ru {m : Mach} {q v : Nat} (hv : v < 2) : miiS m q (v + 1) = ruS q v (ruN m q v) (miiS m q v) := by
  have h01 : v = 0 ∨ v = 1 := by omega
  have hp := tmW_len m q
  rcases h01 with e | e
  · subst e
    unfold miiS
    exact (ruS_0 hp (ruN m q 0) noN noN).symm
  · subst e
    unfold miiS
    exact (ruS_1 hp (ruN m q 1) (rwN (ruN m q 0) 0) noN).symm
theorem miiS_no {m : Mach} {q v : Nat} (hv : v < 2) (h : ruN m q v = noR) : miiS m q (v + 1) = miiS m q v := by
  have h01 : v = 0 ∨ v = 1 := by omega
  unfold miiS
  rcases h01 with e | e
  · subst e; rw [h,rwN_noN]; rfl
  · subst e; rw [h,rwN_noN]; rfl
theorem miiU_ru {m : Mach} {q v : Nat} (hv : v < 2) (h : ruN m q v ≠ noR) : miiU m q (v + 1) = miiU m q v := by
  have h01 : v = 0 ∨ v = 1 := by omega
  unfold miiU
  rcases h01 with e | e
  · subst e; simp [h]
  · subst e; simp [h]
theorem miiU_no {m : Mach} {q v : Nat} (hv : v < 2) (h : ruN m q v = noR) : miiU m q (v + 1) = miiU m q v ++ [1 + 30 * (q : Int) + 8 + (1 - v)] := by
  have h01 : v = 0 ∨ v = 1 := by omega
  unfold miiU
  rcases h01 with e | e
  · subst e
    simp [h]
    omega
  · subst e
    simp [h]
theorem miiU_len (m : Mach) (q v : Nat) : (miiU m q v).length ≤ 2 * q + 2 := by
  have := tmU_len m q
  unfold miiU
  rw [List.length_append,List.length_append]
  split <;> split <;> simp <;> omega
@[irreducible] def srtL (l : List Int) : List Int := l.mergeSort (fun a b => decide (a ≤ b))
theorem srtL_eq {l y : List Int} (hp : y.Perm l) (hs : y.Pairwise (· ≤ ·)) : srtL l = y := by
  unfold srtL
  have h1 : (l.mergeSort (fun a b => decide (a ≤ b))).Pairwise (fun a b => decide (a ≤ b) = true) := List.pairwise_mergeSort (fun a b c h1 h2 => by simp only [decide_eq_true_eq] at *; omega) (fun a b => by simp only [Bool.or_eq_true,decide_eq_true_eq]; omega) l
  have h2 : (l.mergeSort (fun a b => decide (a ≤ b))).Pairwise (· ≤ ·) := h1.imp (fun h => of_decide_eq_true h)
  exact List.Perm.eq_of_pairwise (le := (· ≤ ·)) (fun a b _ _ h1 h2 => by omega) h2 hs ((List.mergeSort_perm l _).trans hp.symm)
theorem srt_tm (m : Mach) (q : Nat) : srtL (tmU m q) = tmH m q := srtL_eq (tmU_perm m q).symm ((tmH_asc m q).imp (fun h => Int.le_of_lt h))
end Go.Proofs.YtjmlbmmbionmcaaGreatDoor
end
section
set_option linter.unusedVariables false
set_option linter.unusedSimpArgs false
set_option maxRecDepth 100000
set_option maxHeartbeats 1000000
namespace Go.Proofs.YtjmlbmmbionmcaaGreatDoor
open Go Foot Go.RowKit
def repW {α : Type} (l : List α) : Nat → List α
  | 0 => []
  | n + 1 => l ++ repW l n
theorem repW_len {α : Type} (l : List α) : ∀ n,(repW l n).length = n * l.length
  | 0 => by simp [repW]
  | n + 1 => by rw [repW,List.length_append,repW_len l n,Nat.succ_mul,Nat.add_comm]
theorem repW_snoc {α : Type} (l : List α) : ∀ n,repW l n ++ l = repW l (n + 1)
  | 0 => by simp [repW]
  | n + 1 => by rw [repW,List.append_assoc,repW_snoc l n]; rfl
theorem repW_mem {α : Type} {l : List α} {x : α} : ∀ {n : Nat},x ∈ repW l n → x ∈ l
  | 0,h => by simp [repW] at h
  | n + 1,h => by
    rw [repW] at h
    rcases List.mem_append.1 h with h | h
    · exact h
    · exact repW_mem h
theorem repW_count (l : List Int) (x : Int) : ∀ n,(repW l n).count x = n * l.count x
  | 0 => by simp [repW]
  | n + 1 => by rw [repW,List.count_append,repW_count l x n,Nat.succ_mul,Nat.add_comm]
def pqC (p : List Int) : Nat → List Int → Nat
  | 0,_ => 0
  | k + 1,l => if l.take 2 = p then pqC p k (l.drop 2) + 1 else 0
theorem pqC_s {p l : List Int} {k : Nat} (h : l.take 2 = p) : pqC p (k + 1) l = pqC p k (l.drop 2) + 1 := by rw [pqC,if_pos h]
theorem pqC_n {p l : List Int} {k : Nat} (h : ¬ l.take 2 = p) : pqC p k l = 0 := by
  cases k with
  | zero => rfl
  | succ k => rw [pqC,if_neg h]
theorem pqC_split {p : List Int} (hp : p.length = 2) : ∀ (k : Nat) (l : List Int),l = repW p (pqC p k l) ++ l.drop (2 * pqC p k l)
  | 0,l => by simp [pqC,repW]
  | k + 1,l => by
    by_cases h : l.take 2 = p
    · rw [pqC_s h,repW,List.append_assoc]
      have ih := pqC_split hp k (l.drop 2)
      rw [List.drop_drop] at ih
      rw [show 2 * (pqC p k (l.drop 2) + 1) = 2 + 2 * pqC p k (l.drop 2) by omega,← ih]
      conv => rhs; arg 1; rw [← h]
      rw [List.take_append_drop]
    · rw [pqC_n h]; simp [repW]
theorem pqC_le {p : List Int} (hp : p.length = 2) : ∀ (k : Nat) (l : List Int),2 * pqC p k l ≤ l.length
  | 0,l => by simp [pqC]
  | k + 1,l => by
    by_cases h : l.take 2 = p
    · have ih := pqC_le hp k (l.drop 2)
      have := congrArg List.length h
      rw [List.length_take,hp] at this
      rw [List.length_drop] at ih
      rw [pqC_s h]
      omega
    · rw [pqC_n h]; omega
theorem pqC_rep {p : List Int} (hp : p.length = 2) : ∀ {n k : Nat} {r : List Int},n ≤ k → ¬ r.take 2 = p → pqC p k (repW p n ++ r) = n
  | 0,k,r,hk,hr => by rw [repW,List.nil_append,pqC_n hr]
  | n + 1,0,r,hk,hr => by omega
  | n + 1,k + 1,r,hk,hr => by
    have h1 : (repW p (n + 1) ++ r).take 2 = p := by rw [repW,List.append_assoc,List.take_append_of_le_length (by omega),List.take_of_length_le (by omega)]
    have h2 : (repW p (n + 1) ++ r).drop 2 = repW p n ++ r := by rw [repW,List.append_assoc,List.drop_append_of_le_length (by omega),List.drop_of_length_le (by omega),List.nil_append]
    rw [pqC_s h1,h2,pqC_rep hp (by omega) hr]
def shF (f p u z : List Int) (a b : Nat) : List Int := f ++ repW p a ++ u ++ repW z b
def frF (f p u z : List Int) (w : List Int) : Int × Int × Bool :=
  if w.take f.length = f then
    (if (w.drop (f.length + 2 * pqC p w.length (w.drop f.length))).take 2 = u then
      (((pqC p w.length (w.drop f.length) : Nat) : Int),((pqC z w.length (w.drop (f.length + 2 * pqC p w.length (w.drop f.length) + 2)) : Nat) : Int),decide (f.length + 2 * pqC p w.length (w.drop f.length) + 2 + 2 * pqC z w.length (w.drop (f.length + 2 * pqC p w.length (w.drop f.length) + 2)) = w.length))
    else (0,0,false))
  else (0,0,false)
theorem frF_1 {f p u z w : List Int} (h : ¬ w.take f.length = f) : frF f p u z w = (0,0,false) := by unfold frF; rw [if_neg h]
theorem frF_2 {f p u z w : List Int} (h : w.take f.length = f) (h2 : ¬ (w.drop (f.length + 2 * pqC p w.length (w.drop f.length))).take 2 = u) : frF f p u z w = (0,0,false) := by unfold frF; rw [if_pos h,if_neg h2]
theorem frF_3 {f p u z w : List Int} (h : w.take f.length = f) (h2 : (w.drop (f.length + 2 * pqC p w.length (w.drop f.length))).take 2 = u) : frF f p u z w = (((pqC p w.length (w.drop f.length) : Nat) : Int),((pqC z w.length (w.drop (f.length + 2 * pqC p w.length (w.drop f.length) + 2)) : Nat) : Int),decide (f.length + 2 * pqC p w.length (w.drop f.length) + 2 + 2 * pqC z w.length (w.drop (f.length + 2 * pqC p w.length (w.drop f.length) + 2)) = w.length)) := by unfold frF; rw [if_pos h,if_pos h2]
theorem frF_fw {f p u z w : List Int} (hp : p.length = 2) (hu : u.length = 2) (hz : z.length = 2) (h : (frF f p u z w).2.2 = true) : ∃ a b : Nat,frF f p u z w = ((a : Int),(b : Int),true) ∧ w = shF f p u z a b := by
  by_cases h1 : w.take f.length = f
  · by_cases h2 : (w.drop (f.length + 2 * pqC p w.length (w.drop f.length))).take 2 = u
    · rw [frF_3 h1 h2] at h ⊢
      dsimp only at h
      refine ⟨_,_,by rw [h],?_⟩
      rw [decide_eq_true_eq] at h
      have e1 := pqC_split hp w.length (w.drop f.length)
      rw [List.drop_drop] at e1
      have e2 := pqC_split hz w.length (w.drop (f.length + 2 * pqC p w.length (w.drop f.length) + 2))
      rw [List.drop_drop,List.drop_of_length_le (i := f.length + 2 * pqC p w.length (w.drop f.length) + 2 + 2 * pqC z w.length (w.drop (f.length + 2 * pqC p w.length (w.drop f.length) + 2))) (by omega),List.append_nil] at e2
      have e3 := List.take_append_drop 2 (w.drop (f.length + 2 * pqC p w.length (w.drop f.length)))
      rw [h2,List.drop_drop] at e3
      have e4 := List.take_append_drop f.length w
      unfold shF
      rw [h1] at e4
      generalize pqC p w.length (w.drop f.length) = A at *
      generalize pqC z w.length (w.drop (f.length + 2 * A + 2)) = B at *
      rw [← e2,List.append_assoc,e3,List.append_assoc,← e1,e4]
    · rw [frF_2 h1 h2] at h; cases h
  · rw [frF_1 h1] at h; cases h
theorem frF_bw {f p u z : List Int} {a b : Nat} (hp : p.length = 2) (hu : u.length = 2) (hz : z.length = 2) (hne : ¬ u = p) : frF f p u z (shF f p u z a b) = ((a : Int),(b : Int),true) := by
  have el : (shF f p u z a b).length = f.length + 2 * a + 2 + 2 * b := by unfold shF; simp only [List.length_append,repW_len]; rw [hp,hu,hz]; omega
  have e0 : shF f p u z a b = f ++ (repW p a ++ (u ++ repW z b)) := by unfold shF; simp only [List.append_assoc]
  have h1 : (shF f p u z a b).take f.length = f := by rw [e0,List.take_append_of_le_length (by omega),List.take_of_length_le (by omega)]
  have d1 : (shF f p u z a b).drop f.length = repW p a ++ (u ++ repW z b) := by rw [e0,List.drop_append_of_le_length (by omega),List.drop_of_length_le (by omega),List.nil_append]
  have t1 : (u ++ repW z b).take 2 = u := by rw [List.take_append_of_le_length (by omega),List.take_of_length_le (by omega)]
  have c1 : pqC p (shF f p u z a b).length ((shF f p u z a b).drop f.length) = a := by rw [d1,pqC_rep hp (by omega) (by rw [t1]; exact hne)]
  have d2 : (shF f p u z a b).drop (f.length + 2 * a) = u ++ repW z b := by
    rw [← List.drop_drop,d1,List.drop_append_of_le_length (by rw [repW_len,hp]; omega),List.drop_of_length_le (by rw [repW_len,hp]; omega),List.nil_append]
  have d3 : (shF f p u z a b).drop (f.length + 2 * a + 2) = repW z b ++ [] := by
    rw [← List.drop_drop,d2,List.drop_append_of_le_length (by omega),List.drop_of_length_le (by omega),List.nil_append,List.append_nil]
  have c2 : pqC z (shF f p u z a b).length ((shF f p u z a b).drop (f.length + 2 * a + 2)) = b := by rw [d3,pqC_rep hz (by omega) (by intro h; have := congrArg List.length h; simp [hz] at this)]
  rw [frF_3 h1 (by rw [c1,d2,t1]),c1,c2]
  congr 2
  rw [el]
  simp
def btF : Nat → Int → List Int
  | 0,_ => []
  | k + 1,n => if 0 < n then n % 2 :: btF k (n / 2) else []
@[irreducible] def btS (n : Int) : List Int := btF n.toNat n
theorem btF_fu : ∀ (k j : Nat) (n : Int),n.toNat ≤ k → n.toNat ≤ j → btF k n = btF j n
  | 0,0,n,_,_ => rfl
  | 0,j + 1,n,h1,h2 => by rw [btF,btF,if_neg (by omega)]
  | k + 1,0,n,h1,h2 => by rw [btF,btF,if_neg (by omega)]
  | k + 1,j + 1,n,h1,h2 => by
    rw [btF,btF]
    by_cases h : 0 < n
    · rw [if_pos h,if_pos h,btF_fu k j (n / 2) (by omega) (by omega)]
    · rw [if_neg h,if_neg h]
theorem btS_s {n : Int} (h : 0 < n) : btS n = n % 2 :: btS (n / 2) := by
  unfold btS
  obtain ⟨k,hk⟩ : ∃ k,n.toNat = k + 1 := ⟨n.toNat - 1,by omega⟩
  rw [hk,btF,if_pos h,btF_fu k (n / 2).toNat (n / 2) (by omega) (by omega)]
theorem btS_n {n : Int} (h : ¬ 0 < n) : btS n = [] := by
  unfold btS
  rw [show n.toNat = 0 by omega,btF]
theorem btF_len : ∀ (k : Nat) (n : Int),((btF k n).length : Int) ≤ k
  | 0,n => by simp [btF]
  | k + 1,n => by
    rw [btF]
    have := btF_len k (n / 2)
    split
    · rw [List.length_cons]; omega
    · simp; omega
theorem btF_bit : ∀ (k : Nat) (n : Int),∀ x ∈ btF k n,0 ≤ x ∧ x ≤ 1
  | 0,n,x,h => by simp [btF] at h
  | k + 1,n,x,h => by
    rw [btF] at h
    split at h
    · rcases List.mem_cons.1 h with h | h
      · subst h; omega
      · exact btF_bit k _ x h
    · simp at h
theorem btS_bit {n x : Int} (h : x ∈ btS n) : 0 ≤ x ∧ x ≤ 1 := by unfold btS at h; exact btF_bit _ _ x h
theorem btS_len (n : Int) : ((btS n).length : Int) ≤ n.toNat := by unfold btS; exact btF_len _ _
@[irreducible] def shA (q : Int) (a b : Nat) : List Int := shF (wdN [[65],xN] q) (wdN [[97],xN] q) (wdN [[66],xN] q) (wdN [[98],xN] q) a b
@[irreducible] def shB (q : Int) (v : Nat) (a b : Nat) : List Int := shF (wdN (if v = 1 then [[80,49],[80,48]] else [[80,48]]) q) (wdN [[112,49],[112,48]] q) (wdN [[81,49],[81,48]] q) (wdN [[114,49],[114,48]] q) a b
@[irreducible] def frA (q : Int) (w : List Int) : Int × Int × Bool := frF (wdN [[65],xN] q) (wdN [[97],xN] q) (wdN [[66],xN] q) (wdN [[98],xN] q) w
@[irreducible] def frB (q : Int) (v : Int) (w : List Int) : Int × Int × Bool := frF (wdN (if v = 1 then [[80,49],[80,48]] else [[80,48]]) q) (wdN [[112,49],[112,48]] q) (wdN [[81,49],[81,48]] q) (wdN [[114,49],[114,48]] q) w
theorem w2_A (q : Int) : wdN [[65],xN] q = [1 + 30 * q,0] ∧ wdN [[97],xN] q = [2 + 30 * q,0] ∧ wdN [[66],xN] q = [3 + 30 * q,0] ∧ wdN [[98],xN] q = [4 + 30 * q,0] := by
  unfold wdN
  have e1 := ltN_i (s := [65]) 0 (by decide) q
  have e2 := ltN_i (s := [97]) 1 (by decide) q
  have e3 := ltN_i (s := [66]) 2 (by decide) q
  have e4 := ltN_i (s := [98]) 3 (by decide) q
  simp [e1,e2,e3,e4]
  try omega
theorem w2_B (q : Int) : wdN [[80,49],[80,48]] q = [9 + 30 * q,10 + 30 * q] ∧ wdN [[80,48]] q = [10 + 30 * q] ∧ wdN [[112,49],[112,48]] q = [11 + 30 * q,12 + 30 * q] ∧ wdN [[81,49],[81,48]] q = [13 + 30 * q,14 + 30 * q] ∧ wdN [[114,49],[114,48]] q = [15 + 30 * q,16 + 30 * q] := by
  unfold wdN
  have e1 := ltN_i (s := [80,49]) 8 (by decide) q
  have e2 := ltN_i (s := [80,48]) 9 (by decide) q
  have e3 := ltN_i (s := [112,49]) 10 (by decide) q
  have e4 := ltN_i (s := [112,48]) 11 (by decide) q
  have e5 := ltN_i (s := [81,49]) 12 (by decide) q
  have e6 := ltN_i (s := [81,48]) 13 (by decide) q
  have e7 := ltN_i (s := [114,49]) 14 (by decide) q
  have e8 := ltN_i (s := [114,48]) 15 (by decide) q
  simp [e1,e2,e3,e4,e5,e6,e7,e8]
  try omega
theorem frA_fw {q : Int} {w : List Int} (h : (frA q w).2.2 = true) : ∃ a b : Nat,frA q w = ((a : Int),(b : Int),true) ∧ w = shA q a b := by
  unfold frA shA at *
  exact frF_fw (by rw [wdN_len]; rfl) (by rw [wdN_len]; rfl) (by rw [wdN_len]; rfl) h
theorem frA_bw {q : Int} {a b : Nat} : frA q (shA q a b) = ((a : Int),(b : Int),true) := by
  unfold frA shA
  refine frF_bw (by rw [wdN_len]; rfl) (by rw [wdN_len]; rfl) (by rw [wdN_len]; rfl) ?_
  rw [(w2_A q).2.1,(w2_A q).2.2.1]
  simp
  try omega
theorem frB_fw {q : Int} {v : Nat} {w : List Int} (h : (frB q v w).2.2 = true) : ∃ a b : Nat,frB q v w = ((a : Int),(b : Int),true) ∧ w = shB q v a b := by
  unfold frB shB at *
  have e : (((v : Int) = 1) = (v = 1)) := by simp only [eq_iff_iff]; omega
  simp only [e] at *
  exact frF_fw (by rw [wdN_len]; rfl) (by rw [wdN_len]; rfl) (by rw [wdN_len]; rfl) h
theorem frB_bw {q : Int} {v : Nat} {a b : Nat} : frB q v (shB q v a b) = ((a : Int),(b : Int),true) := by
  unfold frB shB
  have e : (((v : Int) = 1) = (v = 1)) := by simp only [eq_iff_iff]; omega
  simp only [e]
  refine frF_bw (by rw [wdN_len]; rfl) (by rw [wdN_len]; rfl) (by rw [wdN_len]; rfl) ?_
  rw [(w2_B q).2.2.1,(w2_B q).2.2.2.1]
  simp
  try omega
theorem shA_hd {q : Int} {a b : Nat} : (shA q a b).headD 0 = 1 + 30 * q := by
  unfold shA shF
  rw [(w2_A q).1]
  rfl
theorem shB_hd {q : Int} {v : Nat} {a b : Nat} : (shB q v a b).headD 0 = if v = 1 then 9 + 30 * q else 10 + 30 * q := by
  unfold shB shF
  by_cases h : v = 1
  · rw [if_pos h,if_pos h,(w2_B q).1]; rfl
  · rw [if_neg h,if_neg h,(w2_B q).2.1]; rfl
theorem shA_ca {q : Int} (hq : 0 ≤ q) {a b : Nat} : (shA q a b).count (2 + 30 * q) = a ∧ (shA q a b).count (4 + 30 * q) = b := by
  unfold shA shF
  obtain ⟨e1,e2,e3,e4⟩ := w2_A q
  rw [e1,e2,e3,e4]
  simp only [List.count_append,repW_count,List.count_cons,List.count_nil,beq_iff_eq,if_true]
  constructor
  · (repeat rw [if_neg (by omega)]); omega
  · (repeat rw [if_neg (by omega)]); omega
theorem shB_ca {q : Int} (hq : 0 ≤ q) {v : Nat} {a b : Nat} : (shB q v a b).count (12 + 30 * q) = a ∧ (shB q v a b).count (16 + 30 * q) = b := by
  unfold shB shF
  obtain ⟨e1,e2,e3,e4,e5⟩ := w2_B q
  rw [e3,e4,e5]
  by_cases h : v = 1
  · rw [if_pos h,e1]
    simp only [List.count_append,repW_count,List.count_cons,List.count_nil,beq_iff_eq,if_true]
    constructor
    · (repeat rw [if_neg (by omega)]); omega
    · (repeat rw [if_neg (by omega)]); omega
  · rw [if_neg h,e2]
    simp only [List.count_append,repW_count,List.count_cons,List.count_nil,beq_iff_eq,if_true]
    constructor
    · (repeat rw [if_neg (by omega)]); omega
    · (repeat rw [if_neg (by omega)]); omega
end Go.Proofs.YtjmlbmmbionmcaaGreatDoor
end
section
set_option linter.unusedVariables false
set_option linter.unusedSimpArgs false
set_option maxRecDepth 100000
set_option maxHeartbeats 1000000
namespace Go.Proofs.YtjmlbmmbionmcaaGreatDoor
open Go Foot Go.RowKit
theorem preB192 {p : Prop} (h : p := by first | with_reducible assumption | omega | (simp only [List.length_append,List.length_cons,List.length_nil,List.length_set,List.length_replicate,List.length_take,List.length_drop,List.length_tail,List.length_dropLast,List.length_reverse] at *; omega) | exact mem_len (by assumption) (by omega) | (with_reducible refine Int.le_trans (Int.ofNat_le.2 (trimR_len _)) ?_; simp only [List.length_cons,List.length_tail]; omega) | (exact (ruAt_ok (by assumption) (by assumption) (by assumption)).2.1) | (exact (ruAt_ok (by assumption) (by assumption) (by assumption)).2.1) | (have := vMach_bd (by assumption); omega) | (simp only [mC_ch,mC_tu]; omega) | (have := vTag_bd (by assumption); omega) | (have := (‹Gd _ _›).le; omega) | (exact tgHalts_no (by assumption)) | (exact tgHead (by assumption) (by assumption) (by assumption)) | (exact Int.le_trans (tgStep_gd (by assumption) (by assumption) (by assumption) (by assumption)).le (by decide)) | (exact vTag_r (by assumption)) | (with_reducible refine Int.le_trans (Int.ofNat_le.2 (pushL_len _ _)) ?_; simp only [List.length_dropLast]; omega) | exact ls_at (by assumption) (by omega) | exact pt_gd (by assumption) | exact lv_at (by assumption) (by omega) | exact pt_gd (lv_at (by assumption) (by omega)) | exact (ask_ok (by assumption)).1 | exact (ask_ok (by assumption)).2.1 | exact (ask_ok (by assumption)).2.2.1 | exact (ask_ok (by assumption)).2.2.2 | trivial) : p := h
theorem IndexT_ok (l : List Bs) (x : Bs) (hl : (l.length : Int) ≤ 16777216) : Does Tryz.prog 148 [.one (shS l),.one (str x)] [] (.one (int (ixT x l))) [] := by
  refine does_of (k := 0) Tryz.func148 rfl Tryz.ntmps148 rfl rfl fun w F0 S0 ρ0 => ?_
  dsimp only [argT,argH]
  repeat' first|(apply p3;(first|exact pu1|exact puN);exact rfl)|refine cd ?_
  refine g_loop_id ?_
  refine loopK [0,1,4,7] [] (fun i : Int => 0 ≤ i ∧ i ≤ l.length ∧ x ∉ l.take i.toNat) (fun i => [(8,.one (int i))]) (fun _ => []) (fun i => (l.length - i).toNat) (0 : Int) [] (hI := ?_) (hr := ?_)
  · exact ⟨by simp,by simp,by simp⟩
  · rintro i ⟨h0,h1,h2⟩
    dsimp only [List.cons_append,List.nil_append] at *
    skip
    repeat' first|(apply p3;(first|exact pu1|exact puC|exact a_eqT rfl rfl|exact a_add rfl rfl (by omega) (by omega)|exact puI);exact rfl)|refine cd ?_|((refine g_cond rfl (fun hc => ?_) (fun hc => ?_)) <;> (try simp only [dcB] at hc) <;> (try first|contradiction|(exfalso;omega)))
    · have e : ixT x l = i := by
        rw [ixT_at (i := i.toNat) (by omega) h2 hc]
        omega
      rw [e]
      repeat refine cr ?_
      refine ends_id ?_
      refine endK [] (h2 := ?_) (h3 := ?_) (nd := ?_)
      all_goals (repeat' first|exact ce0|refine ce ?_|refine ce2 ?_ ?_|exact SVLe.refl|refine ceb ?_)
      all_goals first | exact (show nodupB _ = true from rfl) | exact Or.inr rfl | (rfl)
    · refine q_again (i + 1) [] (by exact stk) ?_ ?_
      · refine ⟨by omega,by omega,?_⟩
        rw [show (i + 1).toNat = i.toNat + 1 by omega,List.take_succ_eq_append_getElem (by omega)]
        intro q
        rcases List.mem_append.1 q with q | q
        · exact h2 q
        · exact hc (List.mem_singleton.1 q)
      · omega
    · have e : ixT x l = -1 := ixT_no (by rw [List.take_of_length_le (by omega)] at h2; exact h2)
      rw [e]
      repeat refine cr ?_
      refine ends_id ?_
      refine endK [] (h2 := ?_) (h3 := ?_) (nd := ?_)
      all_goals (repeat' first|exact ce0|refine ce ?_|refine ce2 ?_ ?_|exact SVLe.refl|refine ceb ?_)
      all_goals first | exact (show nodupB _ = true from rfl) | exact Or.inr rfl | (rfl)
theorem kindNames_ok : Does Tryz.prog 149 [] [] (.one (.gv 0)) [.row 1 (rows eS nmL)] := by
  refine does_of (k := 0) Tryz.func149 rfl Tryz.ntmps149 rfl rfl fun w F0 S0 ρ0 => ?_
  dsimp only [argT,argH]
  repeat' first|(apply n3;exact a_nilO eS rfl;exact rfl)|(apply n3;exact a_litE eS [_,_,_,_,_,_,_,_,_,_,_,_,_,_,_,_,_,_,_,_,_,_,_,_,_,_,_,_,_,_] rfl rfl rfl rfl rfl rfl rfl rfl;exact rfl;refine dA ?_)|(apply p3;exact pu1;exact rfl)|refine cd ?_
  repeat refine cr ?_
  refine ends_id ?_
  refine endK [?_] (h2 := ?_) (h3 := ?_) (nd := ?_)
  rotate_left 1
  all_goals (repeat' first|exact ce0|refine ce ?_|refine ce2 ?_ ?_|(refine Or.inr (bx_eq rfl rfl ?_);(try dsimp only [C.ren,C.ren.all]);(try exact rfl))|exact SVLe.refl|refine ceb ?_)
  all_goals first | exact (show nodupB _ = true from rfl) | exact Or.inr rfl | (rfl)
theorem letterOf_ok (s : Bs) (q : Int) (h0 : -1000 ≤ q) (h1 : q ≤ 1000000) : Does Tryz.prog 96 [.one (str s),.one (int q)] [] (.one (int (ltN s q))) [] := by
  have e : ltN s q = 1 + 30 * q + ixT s nmL := by unfold ltN; rfl
  have b1 := ixT_ge s nmL
  have b2 := ixT_lt s nmL
  have b3 : nmL.length = 30 := rfl
  rw [e]
  refine does_of (k := 0) Tryz.func96 rfl Tryz.ntmps96 rfl rfl fun w F0 S0 ρ0 => ?_
  dsimp only [argT,argH]
  repeat' first|(apply p3;(first|exact pu1|exact a_mulB rfl rfl (by omega) (by omega) (by omega) (by omega)|exact a_add rfl rfl (by omega) (by omega));exact rfl)|refine cd ?_|(apply c4 1;exact callK1 (θ := []) (hD := kindNames_ok);exact rfl;exact rfl;exact rfl;refine dM ?_)|(apply c4 0;exact callK1 (θ := []) (hD := (IndexT_ok _ _ preB192));exact rfl;exact rfl;exact rfl;refine dM ?_)
  repeat refine cr ?_
  refine ends_id ?_
  refine endK [] (h2 := ?_) (h3 := ?_) (nd := ?_)
  all_goals (repeat' first|exact ce0|refine ce ?_|refine ce2 ?_ ?_|exact SVLe.refl|refine ceb ?_)
  all_goals first | exact (show nodupB _ = true from rfl) | exact Or.inr rfl | (rfl)
theorem l15Names_ok : Does Tryz.prog 128 [] [] (.one (.gv 0)) [.row 1 (rows eS nmL)] := by
  refine does_of (k := 0) Tryz.func128 rfl Tryz.ntmps128 rfl rfl fun w F0 S0 ρ0 => ?_
  dsimp only [argT,argH]
  repeat' first|(apply n3;exact a_nilO eS rfl;exact rfl)|(apply n3;exact a_litE eS [_,_,_,_,_,_,_,_,_,_,_,_,_,_,_,_,_,_,_,_,_,_,_,_,_,_,_,_,_,_] rfl rfl rfl rfl rfl rfl rfl rfl;exact rfl;refine dA ?_)|(apply p3;exact pu1;exact rfl)|refine cd ?_
  repeat refine cr ?_
  refine ends_id ?_
  refine endK [?_] (h2 := ?_) (h3 := ?_) (nd := ?_)
  rotate_left 1
  all_goals (repeat' first|exact ce0|refine ce ?_|refine ce2 ?_ ?_|(refine Or.inr (bx_eq rfl rfl ?_);(try dsimp only [C.ren,C.ren.all]);(try exact rfl))|exact SVLe.refl|refine ceb ?_)
  all_goals first | exact (show nodupB _ = true from rfl) | exact Or.inr rfl | (rfl)
theorem l15Find_ok (s : Bs) : Does Tryz.prog 165 [.one (str s)] [] (.one (int (ixT s nmL))) [] := by
  have hl : nmL.length = 30 := rfl
  refine does_of (k := 0) Tryz.func165 rfl Tryz.ntmps165 rfl rfl fun w F0 S0 ρ0 => ?_
  dsimp only [argT,argH]
  repeat' first|(apply p3;(exact pu1);exact rfl)|refine cd ?_|(apply c4 1;exact callK1 (θ := []) (hD := l15Names_ok);exact rfl;exact rfl;exact rfl;refine dM ?_)
  refine g_loop_id ?_
  refine loopK [0,2,3] [] (fun i : Int => 0 ≤ i ∧ i ≤ nmL.length ∧ s ∉ nmL.take i.toNat) (fun i => [(4,.one (int i))]) (fun _ => []) (fun i => (nmL.length - i).toNat) (0 : Int) [0] (hI := ?_) (hr := ?_)
  · exact ⟨by simp,by simp,by simp⟩
  · rintro i ⟨h0,h1,h2⟩
    dsimp only [List.cons_append,List.nil_append] at *
    skip
    repeat' first|(apply p3;(first|exact pu1|exact puN|exact puC|exact a_ld_rowS rfl rfl rfl (fC rfl) bnd|exact a_eqT rfl rfl|exact a_add rfl rfl (by omega) (by omega)|exact puI);exact rfl)|refine cd ?_|((refine g_cond rfl (fun hc => ?_) (fun hc => ?_)) <;> (try simp only [dcB] at hc) <;> (try first|contradiction|(exfalso;omega)))
    · simp only [Nat.mul_one] at hc
      have e : ixT s nmL = i := by
        rw [ixT_at (i := i.toNat) (by omega) h2 hc.symm]
        omega
      rw [e]
      repeat refine cr ?_
      refine ends_id ?_
      refine endK [] (h2 := ?_) (h3 := ?_) (nd := ?_)
      all_goals (repeat' first|exact ce0|refine ce ?_|refine ce2 ?_ ?_|exact SVLe.refl|refine ceb ?_)
      all_goals first | exact (show nodupB _ = true from rfl) | exact Or.inr rfl | (rfl)
    · simp only [Nat.mul_one] at hc
      refine q_again (i + 1) [0] (by exact stk) ?_ ?_
      · refine ⟨by omega,by omega,?_⟩
        rw [show (i + 1).toNat = i.toNat + 1 by omega,List.take_succ_eq_append_getElem (by omega)]
        intro q
        rcases List.mem_append.1 q with q | q
        · exact h2 q
        · exact hc (List.mem_singleton.1 q).symm
      · omega
    · have e : ixT s nmL = -1 := ixT_no (by rw [List.take_of_length_le (by omega)] at h2; exact h2)
      rw [e]
      repeat refine cr ?_
      refine ends_id ?_
      refine endK [] (h2 := ?_) (h3 := ?_) (nd := ?_)
      all_goals (repeat' first|exact ce0|refine ce ?_|refine ce2 ?_ ?_|exact SVLe.refl|refine ceb ?_)
      all_goals first | exact (show nodupB _ = true from rfl) | exact Or.inr rfl | (rfl)
theorem l15Letter_ok (s : Bs) (q : Int) (h0 : -1000 ≤ q) (h1 : q ≤ 1000000) : Does Tryz.prog 131 [.one (str s),.one (int q)] [] (.one (int (ltN s q))) [] := by
  have e : ltN s q = 1 + 30 * q + ixT s nmL := by unfold ltN; rfl
  have b1 := ixT_ge s nmL
  have b2 := ixT_lt s nmL
  have b3 : nmL.length = 30 := rfl
  rw [e]
  refine does_of (k := 0) Tryz.func131 rfl Tryz.ntmps131 rfl rfl fun w F0 S0 ρ0 => ?_
  dsimp only [argT,argH]
  repeat' first|(apply p3;(first|exact pu1|exact a_mulB rfl rfl (by omega) (by omega) (by omega) (by omega)|exact a_add rfl rfl (by omega) (by omega));exact rfl)|refine cd ?_|(apply c4 0;exact callK1 (θ := []) (hD := (l15Find_ok _));exact rfl;exact rfl;exact rfl;refine dM ?_)
  repeat refine cr ?_
  refine ends_id ?_
  refine endK [] (h2 := ?_) (h3 := ?_) (nd := ?_)
  all_goals (repeat' first|exact ce0|refine ce ?_|refine ce2 ?_ ?_|exact SVLe.refl|refine ceb ?_)
  all_goals first | exact (show nodupB _ = true from rfl) | exact Or.inr rfl | (rfl)
theorem wdN_take {ns : List Bs} {q i : Int} (h0 : 0 ≤ i) (h : i.toNat < ns.length) : wdN (ns.take (i + 1).toNat) q = wdN (ns.take i.toNat) q ++ [if ns[i.toNat] = xN then 0 else ltN ns[i.toNat] q] := by
  rw [show (i + 1).toNat = i.toNat + 1 by omega,List.take_succ_eq_append_getElem h,wdN_snoc]
theorem l15Word_ok (ns : List Bs) (q : Int) (hn : (ns.length : Int) ≤ 1000) (h0 : -1000 ≤ q) (h1 : q ≤ 1000000) : Does Tryz.prog 129 [.one (shS ns),.one (int q)] [] (.one (.gv 0)) [roI (wdN ns q)] := by
  refine does_of (k := 0) Tryz.func129 rfl Tryz.ntmps129 rfl rfl fun w F0 S0 ρ0 => ?_
  dsimp only [argT,argH]
  repeat' first|(apply n3;exact a_nilO eI rfl;exact rfl)|(apply n3;(exact a_litE eI [] rfl rfl rfl rfl rfl rfl rfl rfl);exact rfl;refine dA ?_)|(apply p3;(exact pu1);exact rfl)|refine cd ?_
  refine g_loop_id ?_
  refine loopK [0,1,4] [1] (fun y : Int × List Int => 0 ≤ y.1 ∧ y.1 ≤ ns.length ∧ y.2 = wdN (ns.take y.1.toNat) q) (fun y => [(6,.one (int y.1)),(5,.one (.gv 1))]) (fun y => [(1,roI y.2)]) (fun y => (ns.length - y.1).toNat) ((0 : Int),[]) [0,1] (hI := ?_) (hr := ?_)
  · exact ⟨by simp,by simp,by simp [wdN_nil]⟩
  · rintro ⟨i,l⟩ ⟨j0,j1,j2⟩
    dsimp only [List.cons_append,List.nil_append] at *
    skip
    have jl : (l.length : Int) = i := by rw [j2,wdN_len,List.length_take]; omega
    repeat' first|(apply n3;(exact a_litE eI [_] rfl rfl rfl rfl rfl rfl rfl rfl);exact rfl;refine dA ?_)|(apply p3;(first|exact pu1|exact puN|exact puC|exact a_eqT rfl rfl|exact a_add rfl rfl (by omega) (by omega)|exact puI);exact rfl)|refine cd ?_|(apply s3;exact a_appE (fP rfl) rfl rfl rfl rfl nowR (by (simp;omega)) (by decide) (by decide) (by exact rfl);exact rfl;exact rfl)|(apply c4 0;exact callK1 (θ := []) (hD := (l15Letter_ok _ _ preB192 preB192));exact rfl;exact rfl;exact rfl;refine dM ?_)|((refine g_cond rfl (fun hc => ?_) (fun hc => ?_)) <;> (try simp only [dcB] at hc) <;> (try first|contradiction|(exfalso;omega)))
    · have hw := wdN_take (ns := ns) (q := q) j0 (by omega)
      refine q_again (i + 1,l ++ [0]) [0,3] (by exact stk) ?_ ?_
      · dsimp only
        exact ⟨by omega,by omega,by rw [hw,if_pos (by assumption),← j2]⟩
      · dsimp only; omega
    · have hw := wdN_take (ns := ns) (q := q) j0 (by omega)
      refine q_again (i + 1,l ++ [ltN (ns[i.toNat]'(by omega)) q]) [0,3] (by exact stk) ?_ ?_
      · dsimp only
        exact ⟨by omega,by omega,by rw [hw,if_neg (by assumption),← j2]⟩
      · dsimp only; omega
    · have e : l = wdN ns q := by rw [j2,List.take_of_length_le (by omega)]
      rw [← e]
      repeat refine cr ?_
      refine ends_id ?_
      refine endK [?_] (h2 := ?_) (h3 := ?_) (nd := ?_)
      rotate_left 1
      all_goals (repeat' first|exact ce0|refine ce ?_|refine ce2 ?_ ?_|(refine Or.inr (bx_eq rfl rfl ?_);(try dsimp only [C.ren,C.ren.all]);(try exact rfl))|exact SVLe.refl|refine ceb ?_)
      all_goals first | exact (show nodupB _ = true from rfl) | exact Or.inr rfl | (rfl)
theorem l15Fixed_ok (s : Bs) : Does Tryz.prog 130 [.one (str s)] [] (.one (.gv 0)) [.row 1 (rows eS (fixN s))] := by
  refine does_of (k := 0) Tryz.func130 rfl Tryz.ntmps130 rfl rfl fun w F0 S0 ρ0 => ?_
  dsimp only [argT,argH]
  repeat' first|(apply n3;exact a_nilO eS rfl;exact rfl)|(apply n3;(first|exact a_litE eS [_,_] rfl rfl rfl rfl rfl rfl rfl rfl|exact a_litE eS [_] rfl rfl rfl rfl rfl rfl rfl rfl|exact a_litE eS [_,_,_,_] rfl rfl rfl rfl rfl rfl rfl rfl|exact a_litE eS [_,_,_] rfl rfl rfl rfl rfl rfl rfl rfl);exact rfl;refine dA ?_)|(apply p3;(first|exact pu1|exact a_eqT rfl rfl);exact rfl)|refine cd ?_|((refine g_cond rfl (fun hc => ?_) (fun hc => ?_)) <;> (try simp only [dcB] at hc) <;> (try first|contradiction|(exfalso;omega)))
  all_goals
    repeat refine cr ?_
    refine ends_id ?_
    refine endK [?_] (h2 := ?_) (h3 := ?_) (nd := ?_)
    rotate_left 1
    all_goals (repeat' first|exact ce0|refine ce ?_|refine ce2 ?_ ?_|(refine Or.inr (bx_eq rfl rfl ?_);(try dsimp only [C.ren,C.ren.all]);(try exact rfl))|exact SVLe.refl|refine ceb ?_)
    all_goals first | exact (show nodupB _ = true from rfl) | exact Or.inr rfl | ((unfold fixN; simp_all))
end Go.Proofs.YtjmlbmmbionmcaaGreatDoor
end
section
set_option linter.unusedVariables false
set_option linter.unusedSimpArgs false
set_option maxRecDepth 100000
set_option maxHeartbeats 1000000
namespace Go.Proofs.YtjmlbmmbionmcaaGreatDoor
open Go Foot Go.RowKit
theorem repW_app {α : Type} (l : List α) : ∀ (a b : Nat),repW l (a + b) = repW l a ++ repW l b
  | 0,b => by rw [Nat.zero_add,repW,List.nil_append]
  | a + 1,b => by rw [Nat.add_right_comm,repW,repW,repW_app l a b,List.append_assoc]
theorem rep_grw {α : Type} {l a : List α} {N t k m : Nat} (hl : l.length = 2) (ha : a.length = N * 2) (hk : k = t * 2) (h1 : k + m ≤ N * 2) (h2 : m ≤ k) (h3 : a.take k = (repW l N).take k) : (a.take k ++ (a.drop 0).take m ++ a.drop (k + m)).take (k + m) = (repW l N).take (k + m) ∧ (a.take k ++ (a.drop 0).take m ++ a.drop (k + m)).length = a.length := by
  have hr : (repW l N).length = N * 2 := by rw [repW_len,hl]
  have h4 : a.take m = (repW l N).take m := by
    have := congrArg (List.take m) h3
    rwa [List.take_take,List.take_take,Nat.min_eq_left h2] at this
  have hlen : (a.take k ++ (a.drop 0).take m).length = k + m := by rw [List.length_append,List.length_take,List.length_take,List.drop_zero]; omega
  constructor
  · rw [List.take_append_of_le_length (by omega),List.take_of_length_le (by omega),List.drop_zero,h3,h4]
    have ht : t ≤ N := by omega
    have e1 : repW l N = repW l t ++ repW l (N - t) := by rw [← repW_app,show t + (N - t) = N by omega]
    have e2 : repW l N = repW l (N - t) ++ repW l t := by rw [← repW_app,show N - t + t = N by omega]
    have lt : (repW l t).length = k := by rw [repW_len,hl,hk]
    have lN : (repW l (N - t)).length = (N - t) * 2 := by rw [repW_len,hl]
    have a1 : (repW l N).take k = repW l t := by rw [e1,List.take_append_of_le_length (by omega),List.take_of_length_le (by omega)]
    have a2 : (repW l N).take m = (repW l (N - t)).take m := by rw [e2,List.take_append_of_le_length (by omega)]
    have a3 : (repW l N).take (k + m) = repW l t ++ (repW l (N - t)).take m := by rw [e1,List.take_append,List.take_of_length_le (by omega),lt,Nat.add_sub_cancel_left]
    rw [a1,a2,a3]
  · rw [List.length_append,hlen,List.length_drop]; omega
theorem preB195 {p : Prop} (h : p := by first | with_reducible assumption | omega | (simp only [List.length_append,List.length_cons,List.length_nil,List.length_set,List.length_replicate,List.length_take,List.length_drop,List.length_tail,List.length_dropLast,List.length_reverse] at *; omega) | exact mem_len (by assumption) (by omega) | (with_reducible refine Int.le_trans (Int.ofNat_le.2 (trimR_len _)) ?_; simp only [List.length_cons,List.length_tail]; omega) | (exact (ruAt_ok (by assumption) (by assumption) (by assumption)).2.1) | (exact (ruAt_ok (by assumption) (by assumption) (by assumption)).2.1) | (have := vMach_bd (by assumption); omega) | (simp only [mC_ch,mC_tu]; omega) | (have := vTag_bd (by assumption); omega) | (have := (‹Gd _ _›).le; omega) | (exact tgHalts_no (by assumption)) | (exact tgHead (by assumption) (by assumption) (by assumption)) | (exact Int.le_trans (tgStep_gd (by assumption) (by assumption) (by assumption) (by assumption)).le (by decide)) | (exact vTag_r (by assumption)) | (with_reducible refine Int.le_trans (Int.ofNat_le.2 (pushL_len _ _)) ?_; simp only [List.length_dropLast]; omega) | exact ls_at (by assumption) (by omega) | exact pt_gd (by assumption) | exact lv_at (by assumption) (by omega) | exact pt_gd (lv_at (by assumption) (by omega)) | exact (ask_ok (by assumption)).1 | exact (ask_ok (by assumption)).2.1 | exact (ask_ok (by assumption)).2.2.1 | exact (ask_ok (by assumption)).2.2.2 | trivial) : p := h
theorem repeatI_ok (l : List Int) (n : Int) (h0 : 0 ≤ n) (h1 : n ≤ 1000) (hl : l.length = 2) : Does Tryz.prog 144 [.one (shI l),.one (int n)] [] (.one (.gv 0)) [.row 1 (rows eI (repW l n.toNat))] := by
  have hln : ((l.length : Nat) : Int) * n = 2 * n := by rw [hl]; rfl
  have h5 : 0 ≤ ((l.length : Nat) : Int) * n := by omega
  have h6 : ((l.length : Nat) : Int) * n ≤ 2000 := by omega
  have hT : (repW l n.toNat).length = n.toNat * 2 := by rw [repW_len,hl]
  skip
  refine does_of (k := 0) Tryz.func144 rfl Tryz.ntmps144 rfl rfl fun w F0 S0 ρ0 => ?_
  dsimp only [argT,argH]
  repeat' first|(apply n3;exact a_make (fE rfl) (fZ rfl) (fP rfl) (by decide) rfl rfl (by omega) rfl (by omega) (by omega) (rows_rep eI 0 _);exact rfl;refine dA ?_)|(apply p3;(first|exact pu1|exact puC|exact puN|exact u_conv rfl Tryz.underlying3 Tryz.underlying195 bnd bnd|exact u_gtr rfl rfl|exact u_vnoc rfl Tryz.underlying195 Tryz.underlying3 bnd bnd);exact rfl)|refine cd ?_|(apply c4 0;exact callK1 (θ := []) (hD := (mulU_ok _ _ preB195 preB195 preB195 preB195 preB195 preB195));exact rfl;exact rfl;exact rfl;refine dM ?_)|(apply c4 0;exact a_copyV rfl rfl rfl rfl (fS rfl) rfl nowR rfl (by exact rfl) (by exact rfl);exact rfl;exact rfl;exact rfl;refine dM ?_)|(apply py3;exact rfl;exact rfl;(first|exact pu1|exact u_gtr rfl rfl);exact rfl;exact rfl)|((refine g_cond rfl (fun hc => ?_) (fun hc => ?_)) <;> (try simp only [dcB] at hc) <;> (try first|contradiction|(exfalso;omega)))
  generalize e0 : (l.length.min (List.replicate (((l.length : Nat) : Int) * n).toNat (0 : Int)).length) = k0
  generalize e1 : (List.take k0 l ++ List.drop k0 (List.replicate (((l.length : Nat) : Int) * n).toNat (0 : Int))) = l0
  have hk0 : (k0 : Int) = min 2 (2 * n) := by
    rw [← e0,hln,List.length_replicate,hl]
    show ((min 2 (2 * n).toNat : Nat) : Int) = _
    omega
  have hl0 : l0.length = n.toNat * 2 ∧ l0.take k0 = (repW l n.toNat).take k0 := by
    by_cases hn : n = 0
    · have hz : k0 = 0 := by omega
      subst hn
      rw [← e1,hz]
      simp
    · have hk : k0 = 2 := by omega
      have t2 : l.take 2 = l := List.take_of_length_le (by omega)
      rw [← e1,hk,t2]
      constructor
      · rw [List.length_append,List.length_drop,List.length_replicate,hln,hl]; omega
      · rw [List.take_append_of_le_length (by omega),t2]
        obtain ⟨j,hj⟩ : ∃ j,n.toNat = j + 1 := ⟨n.toNat - 1,by omega⟩
        rw [hj,repW,List.take_append_of_le_length (by omega),t2]
  clear e0 e1
  refine g_loop_id ?_
  refine loopK [4,7] [0] (fun y : Int × List Int => 0 ≤ y.1 ∧ y.1 ≤ 2 * n ∧ (0 < n → 0 < y.1) ∧ y.2.length = n.toNat * 2 ∧ y.2.take y.1.toNat = (repW l n.toNat).take y.1.toNat ∧ (y.1 = 2 * n ∨ y.1 % 2 = 0)) (fun y => [(8,.one (int y.1))]) (fun y => [(0,.row 1 (rows eI y.2))]) (fun y => (2 * n - y.1).toNat) ((k0 : Int),l0) [0] (hI := ?_) (hr := ?_)
  · exact ⟨by simp,by dsimp only; omega,fun _ => by dsimp only; omega,hl0.1,by dsimp only; rw [Int.toNat_natCast]; exact hl0.2,by dsimp only; omega⟩
  · rintro ⟨k,a⟩ ⟨k1,k2,k3,k4,k5,k6⟩
    dsimp only [List.cons_append,List.nil_append] at *
    skip
    have hm : (k.toNat - 0).min (a.length - k.toNat) = min (k.toNat - 0) (a.length - k.toNat) := rfl
    repeat' first|(apply p3;(first|exact pu1|exact puN|exact puC);exact rfl)|refine cd ?_|(apply g_drN (id := 9) okM [[],[],[],[1,2],[],[],[4,5],[1,2,3,4,5,6],[0,1,2,3,4,5,6,7],[0,1,2,3,4,5,6,7,8]] [([],[]),([],[]),([],[]),([],[]),([],[]),([],[]),([],[]),([],[0]),([],[]),([],[])] 0;(focus (refine dp 0 0 [39,40,41,42,43,44,45] [(false,0)] pu1 ?_;refine dp 1 0 [38,40,42,43,44] [] pu1 ?_;refine dp 2 0 [38,39,42,43,44] [] pu1 ?_;refine dp 3 3 [38,42,43,44] [] (a_slTG rfl rfl rfl (fS rfl) (by omega) (by omega) (by exact rfl)) ?_;refine dp 4 0 [38,39,40,41,43] [] pu1 ?_;refine dp 5 0 [38,39,40,41,42] [] pu1 ?_;refine dp 6 3 [38,39,40,41] [] (a_slHG rfl rfl rfl (fS rfl) (by omega) (by omega) (by exact rfl)) ?_;refine duN 7 63 [38] [] (by exact a_copyG rfl rfl rfl (fS rfl) rfl nowR bnd bnd rfl (by exact rfl) (by exact rfl)) (by exact rfl) (by exact rfl) ?_;refine dp 8 255 [] [] (a_add rfl rfl (by omega) (by omega)) ?_;refine dp 9 511 [] [] pu1 ?_;(refine d_nil ?_;refine dN ?_)));any_goals kernel_rfl)|((refine g_cond rfl (fun hc => ?_) (fun hc => ?_)) <;> (try simp only [dcB] at hc) <;> (try first|contradiction|(exfalso;omega)))
    · have hg := rep_grw (l := l) (N := n.toNat) (t := (k / 2).toNat) (m := (k.toNat - 0).min (a.length - k.toNat)) hl k4 (by omega) (by omega) (by omega) k5
      have hk : (k + (((k.toNat - 0).min (a.length - k.toNat) : Nat) : Int)).toNat = k.toNat + (k.toNat - 0).min (a.length - k.toNat) := by omega
      refine q_again (k + (((k.toNat - 0).min (a.length - k.toNat) : Nat) : Int),a.take k.toNat ++ (a.drop 0).take ((k.toNat - 0).min (a.length - k.toNat)) ++ a.drop (k.toNat + (k.toNat - 0).min (a.length - k.toNat))) [0] (by exact stk) ?_ ?_
      · exact ⟨by dsimp only; omega,by dsimp only; omega,fun _ => by dsimp only; omega,hg.2.trans k4,by dsimp only; rw [hk]; exact hg.1,by dsimp only; omega⟩
      · dsimp only; omega
    · have e : k.toNat = n.toNat * 2 := by omega
      rw [e,List.take_of_length_le (by omega),List.take_of_length_le (by omega)] at k5
      repeat refine cr ?_
      refine ends_id ?_
      refine endK [?_] (h2 := ?_) (h3 := ?_) (nd := ?_)
      rotate_left 1
      all_goals (repeat' first|exact ce0|refine ce ?_|refine ce2 ?_ ?_|(refine Or.inr (bx_eq rfl rfl ?_);(try dsimp only [C.ren,C.ren.all]);(try exact rfl))|exact SVLe.refl|refine ceb ?_)
      all_goals first | exact (show nodupB _ = true from rfl) | exact Or.inr rfl | (exact k5)
theorem repeatS_ok (l : List Bs) (n : Int) (h0 : 0 ≤ n) (h1 : n ≤ 1000) (hl : l.length = 2) : Does Tryz.prog 172 [.one (shS l),.one (int n)] [] (.one (.gv 0)) [.row 1 (rows eS (repW l n.toNat))] := by
  have hln : ((l.length : Nat) : Int) * n = 2 * n := by rw [hl]; rfl
  have h5 : 0 ≤ ((l.length : Nat) : Int) * n := by omega
  have h6 : ((l.length : Nat) : Int) * n ≤ 2000 := by omega
  have hT : (repW l n.toNat).length = n.toNat * 2 := by rw [repW_len,hl]
  refine does_of (k := 0) Tryz.func172 rfl Tryz.ntmps172 rfl rfl fun w F0 S0 ρ0 => ?_
  dsimp only [argT,argH]
  repeat' first|(apply n3;exact a_make (fE rfl) (fZ rfl) (fP rfl) (by decide) rfl rfl (by omega) rfl (by omega) (by omega) (rows_rep eS ([] : Bs) _);exact rfl;refine dA ?_)|(apply p3;(first|exact pu1|exact puC|exact puN|exact u_conv rfl Tryz.underlying3 Tryz.underlying195 bnd bnd|exact u_gtr rfl rfl|exact u_vnoc rfl Tryz.underlying195 Tryz.underlying3 bnd bnd);exact rfl)|refine cd ?_|(apply c4 0;exact callK1 (θ := []) (hD := (mulU_ok _ _ preB195 preB195 preB195 preB195 preB195 preB195));exact rfl;exact rfl;exact rfl;refine dM ?_)|(apply c4 0;exact a_copyV rfl rfl rfl rfl (fS rfl) rfl nowR rfl (by exact rfl) (by exact rfl);exact rfl;exact rfl;exact rfl;refine dM ?_)|(apply py3;exact rfl;exact rfl;(first|exact pu1|exact u_gtr rfl rfl);exact rfl;exact rfl)|((refine g_cond rfl (fun hc => ?_) (fun hc => ?_)) <;> (try simp only [dcB] at hc) <;> (try first|contradiction|(exfalso;omega)))
  generalize e0 : (l.length.min (List.replicate (((l.length : Nat) : Int) * n).toNat ([] : Bs)).length) = k0
  generalize e1 : (List.take k0 l ++ List.drop k0 (List.replicate (((l.length : Nat) : Int) * n).toNat ([] : Bs))) = l0
  have hk0 : (k0 : Int) = min 2 (2 * n) := by
    rw [← e0,hln,List.length_replicate,hl]
    show ((min 2 (2 * n).toNat : Nat) : Int) = _
    omega
  have hl0 : l0.length = n.toNat * 2 ∧ l0.take k0 = (repW l n.toNat).take k0 := by
    by_cases hn : n = 0
    · have hz : k0 = 0 := by omega
      subst hn
      rw [← e1,hz]
      simp
    · have hk : k0 = 2 := by omega
      have t2 : l.take 2 = l := List.take_of_length_le (by omega)
      rw [← e1,hk,t2]
      constructor
      · rw [List.length_append,List.length_drop,List.length_replicate,hln,hl]; omega
      · rw [List.take_append_of_le_length (by omega),t2]
        obtain ⟨j,hj⟩ : ∃ j,n.toNat = j + 1 := ⟨n.toNat - 1,by omega⟩
        rw [hj,repW,List.take_append_of_le_length (by omega),t2]
  clear e0 e1
  refine g_loop_id ?_
  refine loopK [4,7] [0] (fun y : Int × List Bs => 0 ≤ y.1 ∧ y.1 ≤ 2 * n ∧ (0 < n → 0 < y.1) ∧ y.2.length = n.toNat * 2 ∧ y.2.take y.1.toNat = (repW l n.toNat).take y.1.toNat ∧ (y.1 = 2 * n ∨ y.1 % 2 = 0)) (fun y => [(8,.one (int y.1))]) (fun y => [(0,.row 1 (rows eS y.2))]) (fun y => (2 * n - y.1).toNat) ((k0 : Int),l0) [0] (hI := ?_) (hr := ?_)
  · exact ⟨by simp,by dsimp only; omega,fun _ => by dsimp only; omega,hl0.1,by dsimp only; rw [Int.toNat_natCast]; exact hl0.2,by dsimp only; omega⟩
  · rintro ⟨k,a⟩ ⟨k1,k2,k3,k4,k5,k6⟩
    dsimp only [List.cons_append,List.nil_append] at *
    skip
    have hm : (k.toNat - 0).min (a.length - k.toNat) = min (k.toNat - 0) (a.length - k.toNat) := rfl
    repeat' first|(apply p3;(first|exact pu1|exact puN|exact puC);exact rfl)|refine cd ?_|(apply g_drN (id := 9) okM [[],[],[],[1,2],[],[],[4,5],[1,2,3,4,5,6],[0,1,2,3,4,5,6,7],[0,1,2,3,4,5,6,7,8]] [([],[]),([],[]),([],[]),([],[]),([],[]),([],[]),([],[]),([],[0]),([],[]),([],[])] 0;(focus (refine dp 0 0 [39,40,41,42,43,44,45] [(false,0)] pu1 ?_;refine dp 1 0 [38,40,42,43,44] [] pu1 ?_;refine dp 2 0 [38,39,42,43,44] [] pu1 ?_;refine dp 3 3 [38,42,43,44] [] (a_slTG rfl rfl rfl (fS rfl) (by omega) (by omega) (by exact rfl)) ?_;refine dp 4 0 [38,39,40,41,43] [] pu1 ?_;refine dp 5 0 [38,39,40,41,42] [] pu1 ?_;refine dp 6 3 [38,39,40,41] [] (a_slHG rfl rfl rfl (fS rfl) (by omega) (by omega) (by exact rfl)) ?_;refine duN 7 63 [38] [] (by exact a_copyG rfl rfl rfl (fS rfl) rfl nowR bnd bnd rfl (by exact rfl) (by exact rfl)) (by exact rfl) (by exact rfl) ?_;refine dp 8 255 [] [] (a_add rfl rfl (by omega) (by omega)) ?_;refine dp 9 511 [] [] pu1 ?_;(refine d_nil ?_;refine dN ?_)));any_goals kernel_rfl)|((refine g_cond rfl (fun hc => ?_) (fun hc => ?_)) <;> (try simp only [dcB] at hc) <;> (try first|contradiction|(exfalso;omega)))
    · have hg := rep_grw (l := l) (N := n.toNat) (t := (k / 2).toNat) (m := (k.toNat - 0).min (a.length - k.toNat)) hl k4 (by omega) (by omega) (by omega) k5
      have hk : (k + (((k.toNat - 0).min (a.length - k.toNat) : Nat) : Int)).toNat = k.toNat + (k.toNat - 0).min (a.length - k.toNat) := by omega
      refine q_again (k + (((k.toNat - 0).min (a.length - k.toNat) : Nat) : Int),a.take k.toNat ++ (a.drop 0).take ((k.toNat - 0).min (a.length - k.toNat)) ++ a.drop (k.toNat + (k.toNat - 0).min (a.length - k.toNat))) [0] (by exact stk) ?_ ?_
      · exact ⟨by dsimp only; omega,by dsimp only; omega,fun _ => by dsimp only; omega,hg.2.trans k4,by dsimp only; rw [hk]; exact hg.1,by dsimp only; omega⟩
      · dsimp only; omega
    · have e : k.toNat = n.toNat * 2 := by omega
      rw [e,List.take_of_length_le (by omega),List.take_of_length_le (by omega)] at k5
      repeat refine cr ?_
      refine ends_id ?_
      refine endK [?_] (h2 := ?_) (h3 := ?_) (nd := ?_)
      rotate_left 1
      all_goals (repeat' first|exact ce0|refine ce ?_|refine ce2 ?_ ?_|(refine Or.inr (bx_eq rfl rfl ?_);(try dsimp only [C.ren,C.ren.all]);(try exact rfl))|exact SVLe.refl|refine ceb ?_)
      all_goals first | exact (show nodupB _ = true from rfl) | exact Or.inr rfl | (exact k5)
theorem repeated_ok (l : List Bs) (n : Int) (h0 : 0 ≤ n) (h1 : n ≤ 1000) (hl : l.length = 2) : Does Tryz.prog 146 [.one (int n),.one (shS l)] [] (.one (.gv 0)) [.row 1 (rows eS (repW l n.toNat))] := by
  refine does_of (k := 0) Tryz.func146 rfl Tryz.ntmps146 rfl rfl fun w F0 S0 ρ0 => ?_
  dsimp only [argT,argH]
  repeat' first|(apply p3;exact pu1;exact rfl)|refine cd ?_|(apply c4 1;exact callK1 (θ := []) (hD := (repeatS_ok _ _ preB195 preB195 preB195));exact rfl;exact rfl;exact rfl;refine dM ?_)
  repeat refine cr ?_
  refine ends_id ?_
  refine endK [?_] (h2 := ?_) (h3 := ?_) (nd := ?_)
  rotate_left 1
  all_goals (repeat' first|exact ce0|refine ce ?_|refine ce2 ?_ ?_|(refine Or.inr (bx_eq rfl rfl ?_);(try dsimp only [C.ren,C.ren.all]);(try exact rfl))|exact SVLe.refl|refine ceb ?_)
  all_goals first | exact (show nodupB _ = true from rfl) | exact Or.inr rfl | (rfl)
end Go.Proofs.YtjmlbmmbionmcaaGreatDoor
end
section
set_option linter.unusedVariables false
set_option linter.unusedSimpArgs false
set_option maxRecDepth 100000
set_option maxHeartbeats 4000000
namespace Go.Proofs.YtjmlbmmbionmcaaGreatDoor
open Go Foot
structure Verd where
  m : Mach
  p : Prf
structure VeGd (v : Verd) : Prop where
  a : (v.m.ru.length : Int) ≤ 16777216
  b : (v.p.nu.length : Int) ≤ 16777216
  c : (v.p.wo.length : Int) ≤ 16777216
  d : ∀ x ∈ v.p.wo,(x.length : Int) ≤ 16777216
end Go.Proofs.YtjmlbmmbionmcaaGreatDoor
end
section
set_option linter.unusedVariables false
set_option linter.unusedSimpArgs false
set_option maxRecDepth 100000
set_option maxHeartbeats 4000000
namespace Go.Proofs.YtjmlbmmbionmcaaGreatDoor
open Go Foot
structure LsGd (l : List Verd) : Prop where
  n : (l.length : Int) ≤ 16777216
  a : ∀ v ∈ l,VeGd v
theorem ls_at {l : List Verd} (g : LsGd l) {i : Nat} (h : i < l.length) : VeGd l[i] := g.a _ (List.getElem_mem h)
end Go.Proofs.YtjmlbmmbionmcaaGreatDoor
end
section
set_option linter.unusedVariables false
set_option linter.unusedSimpArgs false
set_option maxRecDepth 100000
set_option maxHeartbeats 4000000
namespace Go.Proofs.YtjmlbmmbionmcaaGreatDoor
open Go Foot
end Go.Proofs.YtjmlbmmbionmcaaGreatDoor
end
section
set_option linter.unusedVariables false
set_option linter.unusedSimpArgs false
set_option maxRecDepth 100000
set_option maxHeartbeats 4000000
namespace Go.Proofs.YtjmlbmmbionmcaaGreatDoor
open Go Foot
section
variable {m : Mach} {d n a b : Int} {c : Conf} {O : Option (Conf × Int × Int)}
end
end Go.Proofs.YtjmlbmmbionmcaaGreatDoor
end
section
set_option linter.unusedVariables false
set_option linter.unusedSimpArgs false
set_option maxRecDepth 100000
set_option maxHeartbeats 4000000
namespace Go.Proofs.YtjmlbmmbionmcaaGreatDoor
open Go Foot
end Go.Proofs.YtjmlbmmbionmcaaGreatDoor
end
section
set_option linter.unusedVariables false
set_option linter.unusedSimpArgs false
set_option maxRecDepth 100000
set_option maxHeartbeats 4000000
namespace Go.Proofs.YtjmlbmmbionmcaaGreatDoor
open Go Foot
structure ItOut (X : Type) where
  x : X
  j : Option Code
  c : Conf
section
variable {X : Type} {m : Mach} {bd : X → Conf × Int × Bool → X × Option Code} {b n : Int} {c : Conf} {x : X} {O : ItOut X} {k : Nat}
end
end Go.Proofs.YtjmlbmmbionmcaaGreatDoor
end
section
set_option linter.unusedVariables false
set_option linter.unusedSimpArgs false
set_option maxRecDepth 100000
set_option maxHeartbeats 4000000
namespace Go.Proofs.YtjmlbmmbionmcaaGreatDoor
open Go Foot
end Go.Proofs.YtjmlbmmbionmcaaGreatDoor
end
section
set_option linter.unusedVariables false
set_option linter.unusedSimpArgs false
set_option maxRecDepth 100000
set_option maxHeartbeats 4000000
namespace Go.Proofs.YtjmlbmmbionmcaaGreatDoor
open Go Foot
end Go.Proofs.YtjmlbmmbionmcaaGreatDoor
end
section
set_option linter.unusedVariables false
set_option linter.unusedSimpArgs false
set_option maxRecDepth 100000
set_option maxHeartbeats 4000000
namespace Go.Proofs.YtjmlbmmbionmcaaGreatDoor
open Go Foot
section
variable {m : Mach}
end
end Go.Proofs.YtjmlbmmbionmcaaGreatDoor
end
section
set_option linter.unusedVariables false
set_option linter.unusedSimpArgs false
set_option maxRecDepth 100000
set_option maxHeartbeats 4000000
namespace Go.Proofs.YtjmlbmmbionmcaaGreatDoor
open Go Foot
end Go.Proofs.YtjmlbmmbionmcaaGreatDoor
end
