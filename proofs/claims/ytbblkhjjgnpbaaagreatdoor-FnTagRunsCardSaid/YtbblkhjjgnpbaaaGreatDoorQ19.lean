/- Parts of the proof (19 of 21). -/
import Derived.Lib.AtoiErrMem
import Derived.Test.YtbblkhjjgnpbaaaGreatDoorQ18
section
set_option linter.unusedVariables false
set_option linter.unusedSimpArgs false
set_option maxRecDepth 100000
set_option maxHeartbeats 4000000
namespace Go.Proofs.YtbblkhjjgnpbaaaGreatDoor
open Go Foot Go.RowKit
theorem preB88 {p : Prop} (h : p := by first | with_reducible assumption | omega | (simp only [List.length_append,List.length_cons,List.length_nil,List.length_set,List.length_replicate,List.length_take,List.length_drop,List.length_tail,List.length_dropLast,List.length_reverse] at *; omega) | exact mem_len (by assumption) (by omega) | (with_reducible refine Int.le_trans (Int.ofNat_le.2 (trimR_len _)) ?_; simp only [List.length_cons,List.length_tail]; omega) | (exact (ruAt_ok (by assumption) (by assumption) (by assumption)).2.1) | (exact (ruAt_ok (by assumption) (by assumption) (by assumption)).2.1) | (have := vMach_bd (by assumption); omega) | (simp only [mC_ch,mC_tu]; omega) | (have := vTag_bd (by assumption); omega) | (have := (‹Gd _ _›).le; omega) | (exact tgHalts_no (by assumption)) | (exact tgHead (by assumption) (by assumption) (by assumption)) | (exact Int.le_trans (tgStep_gd (by assumption) (by assumption) (by assumption) (by assumption)).le (by decide)) | (exact vTag_r (by assumption)) | (with_reducible refine Int.le_trans (Int.ofNat_le.2 (pushL_len _ _)) ?_; simp only [List.length_dropLast]; omega) | exact ls_at (by assumption) (by omega) | exact pt_gd (by assumption) | exact lv_at (by assumption) (by omega) | exact pt_gd (lv_at (by assumption) (by omega)) | exact (ask_ok (by assumption)).1 | exact (ask_ok (by assumption)).2.1 | exact (ask_ok (by assumption)).2.2.1 | exact (ask_ok (by assumption)).2.2.2 | trivial) : p := h
theorem TrimPrefix_ok (s p : Bs) : Does Tryz.prog 188 [.one (str s),.one (str p)] [] (.one (str (Lib.trimPrefix s p))) [] :=
  does_ext (av := [sv s,sv p]) (rv := sv (Lib.trimPrefix s p)) (fun w S ρ vs => repA_2) (fun w S ρ => ⟨rfl,rfl⟩) fun w S _ => (Tryz.strings_TrimPrefix ⟨s.toArray⟩ ⟨p.toArray⟩ w).mono fun en w' ⟨h1,h2⟩ => by
    subst h2
    exact ⟨h1,Below.refl _ _⟩
theorem repA_3 {w : World} {S : Foot} {ρ : Env} {v u t : Value} {vs : List Value} (h : RepA w S ρ [.one (.d (.sc v)),.one (.d (.sc u)),.one (.d (.sc t))] vs) : vs = [v,u,t] := by
  simp only [RepA,RepS,RepC,Rep] at h
  obtain ⟨_,_,rfl,⟨rfl,_⟩,_,_,rfl,⟨rfl,_⟩,_,_,rfl,⟨rfl,_⟩,rfl⟩ := h
  rfl
theorem ParseInt_ok (s : Bs) (n : Int) (hs : (s.length : Int) ≤ 1000000000) (h : Lib.parseIntB 64 s = .ok n) : Does Tryz.prog 187 [.one (str s),.one (int 10),.one (int 64)] [] (.tup [(false,[int n]),(false,[.d (.sc .nilIface)])]) [] :=
  does_ext (av := [sv s,.int .i64 10,.int .i64 64]) (rv := .tuple #[.int .i64 n,.nilIface]) (fun w S ρ vs => repA_3) (fun w S ρ => ⟨_,rfl,_,_,rfl,⟨_,[],rfl,⟨rfl,rfl⟩,rfl⟩,_,_,rfl,⟨_,[],rfl,⟨rfl,rfl⟩,rfl⟩,rfl⟩) fun w S _ => (Tryz.strconv_ParseInt_10_at64_ok ⟨s.toArray⟩ (by rw [sz_str]; omega) n h w).mono fun en w' ⟨h1,h2⟩ => by
    refine ⟨h1,?_⟩
    rcases h2 with rfl | ⟨t,rfl⟩
    · exact Below.refl _ _
    · exact Lib.bytesWorld_below w 5 t
theorem index_at {c : UInt8} : ∀ {a b : Bs},c ∉ a → Lib.indexByte (a ++ c :: b) c = a.length
  | [],b,_ => by simp [Lib.indexByte]
  | x :: a,b,h => by
    have ih := index_at (c := c) (a := a) (b := b) (fun q => h (by simp [q]))
    have hx : (x == c) = false := by
      rw [beq_eq_false_iff_ne]
      exact fun e => h (by simp [e])
    rw [List.cons_append,Lib.indexByte,hx,ih]
    simp only [Bool.false_eq_true,if_false]
    rw [if_neg (by rw [beq_iff_eq]; omega)]
    simp
theorem parseM {M : Nat} : ∀ {l : Bs} {acc : Nat},(∀ c ∈ l,isDg c) → l.foldl (fun a c => 10 * a + (c.toNat - 48)) acc ≤ 1000000000000000000 → 1000000000000000000 ≤ M → Lib.parseUintM M acc l = .ok (l.foldl (fun a c => 10 * a + (c.toNat - 48)) acc)
  | [],acc,_,_,_ => rfl
  | c :: l,acc,h,hv,hM => by
    have hmono : ∀ (l : Bs) (a : Nat),a ≤ l.foldl (fun a c => 10 * a + (c.toNat - 48)) a := by
      intro l
      induction l with
      | nil => intro a; exact Nat.le_refl _
      | cons x l ih =>
        intro a
        rw [List.foldl_cons]
        exact Nat.le_trans (by omega) (ih _)
    rw [List.foldl_cons] at hv ⊢
    have h1 := hmono l (10 * acc + (c.toNat - 48))
    have hd := h c (by simp)
    unfold isDg at hd
    rw [Lib.parseUintM,if_pos hd,if_neg (by omega),if_neg (by omega),show acc * 10 + (c.toNat - 48) = 10 * acc + (c.toNat - 48) by omega]
    exact parseM (fun x hx => h x (by simp [hx])) hv hM
theorem parse_dec {n : Int} (h0 : 0 ≤ n) (h1 : n ≤ 1000000000000000000) : Lib.parseIntB 64 (decT n) = .ok n := by
  rw [decT_nat h0]
  obtain ⟨d1,d2,d3⟩ := dec_val n.toNat
  cases hl : Lib.decDigits n.toNat with
  | nil => exact absurd hl d3
  | cons c r =>
    rw [hl] at d1 d2
    have hc := d2 c (by simp)
    unfold isDg at hc
    have hp : Lib.parseUintB 64 (c :: r) = .ok n.toNat := by
      unfold Lib.parseUintB
      rw [if_neg (by simp),parseM d2 (by unfold valD at d1; rw [d1]; omega) (by decide)]
      unfold valD at d1
      rw [d1]
    unfold Lib.parseIntB
    simp only
    rw [if_neg (show ¬ (c.toNat = 43 ∨ c.toNat = 45) by omega),hp]
    simp only
    rw [if_neg (by omega),if_neg (by omega),if_neg (by omega)]
    rw [show ((n.toNat : Nat) : Int) = n by omega]
theorem dec_l18 {n : Int} (h0 : 0 ≤ n) (h1 : n ≤ 1000000) : (decT n).length ≤ 18 := by
  by_cases h : n = 0
  · subst h; rw [decT_0]; decide
  · rw [decT_n h,byt_len,List.length_reverse,List.length_append]
    have h2 := drev_le 17 n.natAbs (by omega)
    split <;> simp only [List.length_cons,List.length_nil] <;> omega
theorem ReadDecimal_ok (n : Int) (h0 : 0 ≤ n) (h1 : n ≤ 1000000) : Does Tryz.prog 85 [.one (str (decT n))] [] (.tup [(false,[int n]),(false,[boo true])]) [] := by
  have hp := parse_dec h0 (by omega)
  have hl := decT_le (n := n) (by omega) (by omega)
  have ht : Lib.trimPrefix (decT n) [45] = decT n := by
    unfold Lib.trimPrefix
    rw [if_neg]
    intro h
    have hd := decT_dg h0
    obtain ⟨_,_,d3⟩ := dec_val n.toNat
    rw [← decT_nat h0] at d3
    cases hq : decT n with
    | nil => exact d3 hq
    | cons c r =>
      rw [hq] at h hd
      have hc := hd c (by simp)
      unfold isDg at hc
      simp [Lib.hasPrefix] at h
      rw [← h] at hc
      revert hc
      decide
  have hdt : decT n = Lib.itoa n := by unfold decT; rfl
  have hlen := dec_l18 h0 h1
  refine does_of (k := 0) Tryz.func85 rfl Tryz.ntmps85 rfl rfl fun w F0 S0 ρ0 => ?_
  dsimp only [argT,argH]
  repeat' first|(apply p3;(first|exact pu1|exact a_neNil rfl (by kernel_rfl));exact rfl)|refine cd ?_|(apply c4 0;exact callK1 (θ := []) (hD := (ParseInt_ok _ _ preB88 preB88));exact rfl;exact rfl;exact rfl;refine dM ?_)|(apply py3;exact rfl;exact rfl;(first|exact pu1|exact a_neT rfl rfl|exact a_lenT rfl (fT rfl)|exact puC);exact rfl;exact rfl)|(apply cy4 0;exact rfl;exact rfl;exact callK1 (θ := []) (hD := (Decimal_ok _ preB88 preB88));exact rfl;exact rfl;exact rfl;exact rfl;refine dM ?_)|(apply cy4 0;exact rfl;exact rfl;exact callK1 (θ := []) (hD := (TrimPrefix_ok _ _));exact rfl;exact rfl;exact rfl;exact rfl;refine dM ?_)|(refine o_gs rfl rfl (fun hc => ?_) (fun hc => ?_) <;> (try simp only [dcB] at hc) <;> (try first|contradiction|(exfalso;omega)))
  simp only [ht]
  repeat' first|(apply p3;(exact pu1);exact rfl)|refine cd ?_|((refine g_cond rfl (fun hc => ?_) (fun hc => ?_)) <;> (try simp only [dcB] at hc) <;> (try first|contradiction|(exfalso;omega)))
  repeat refine cr ?_
  refine ends_id ?_
  refine endK [] (h2 := ?_) (h3 := ?_) (nd := ?_)
  all_goals (repeat' first|exact ce0|refine ce ?_|refine ce2 ?_ ?_|exact SVLe.refl|refine ceb ?_)
  all_goals first | exact (show nodupB _ = true from rfl) | exact Or.inr rfl | (rfl)
end Go.Proofs.YtbblkhjjgnpbaaaGreatDoor
end
section
set_option linter.unusedVariables false
set_option linter.unusedSimpArgs false
set_option maxRecDepth 100000
set_option maxHeartbeats 4000000
namespace Go.Proofs.YtbblkhjjgnpbaaaGreatDoor
open Go Foot Go.RowKit
theorem preB116 {p : Prop} (h : p := by first | with_reducible assumption | omega | (simp only [List.length_append,List.length_cons,List.length_nil,List.length_set,List.length_replicate,List.length_take,List.length_drop,List.length_tail,List.length_dropLast,List.length_reverse] at *; omega) | exact mem_len (by assumption) (by omega) | (with_reducible refine Int.le_trans (Int.ofNat_le.2 (trimR_len _)) ?_; simp only [List.length_cons,List.length_tail]; omega) | (exact (ruAt_ok (by assumption) (by assumption) (by assumption)).2.1) | (exact (ruAt_ok (by assumption) (by assumption) (by assumption)).2.1) | (have := vMach_bd (by assumption); omega) | (simp only [mC_ch,mC_tu]; omega) | (have := vTag_bd (by assumption); omega) | (have := (‹Gd _ _›).le; omega) | (exact tgHalts_no (by assumption)) | (exact tgHead (by assumption) (by assumption) (by assumption)) | (exact Int.le_trans (tgStep_gd (by assumption) (by assumption) (by assumption) (by assumption)).le (by decide)) | (exact vTag_r (by assumption)) | (with_reducible refine Int.le_trans (Int.ofNat_le.2 (pushL_len _ _)) ?_; simp only [List.length_dropLast]; omega) | exact ls_at (by assumption) (by omega) | exact pt_gd (by assumption) | exact lv_at (by assumption) (by omega) | exact pt_gd (lv_at (by assumption) (by omega)) | exact (ask_ok (by assumption)).1 | exact (ask_ok (by assumption)).2.1 | exact (ask_ok (by assumption)).2.2.1 | exact (ask_ok (by assumption)).2.2.2 | trivial) : p := h
theorem IndexB_ok (s : Bs) (c : UInt8) : Does Tryz.prog 298 [.one (str s),.one (str [c])] [] (.one (int (Lib.indexByte s c))) [] :=
  does_ext (av := [sv s,sv [c]]) (rv := .int .i64 (Lib.indexByte s c)) (fun w S ρ vs => repA_2) (fun w S ρ => ⟨rfl,rfl⟩) fun w S _ => (Tryz.strings_Index_one ⟨s.toArray⟩ c w).mono fun en w' ⟨h1,h2⟩ => by
    subst h2
    exact ⟨h1,Below.refl _ _⟩
theorem CountB_ok (s : Bs) (c : UInt8) : Does Tryz.prog 297 [.one (str s),.one (str [c])] [] (.one (int (Lib.countByte s c))) [] :=
  does_ext (av := [sv s,sv [c]]) (rv := .int .i64 (Lib.countByte s c)) (fun w S ρ vs => repA_2) (fun w S ρ => ⟨rfl,rfl⟩) fun w S _ => (Tryz.strings_Count_one ⟨s.toArray⟩ c w).mono fun en w' ⟨h1,h2⟩ => by
    subst h2
    exact ⟨h1,Below.refl _ _⟩
def spl (c : UInt8) : Bs → List Bs
  | [] => [[]]
  | x :: s => if x = c then [] :: spl c s else match spl c s with
    | [] => [[x]]
    | p :: r => (x :: p) :: r
theorem spl_no {c : UInt8} : ∀ {s : Bs},c ∉ s → spl c s = [s]
  | [],_ => rfl
  | x :: s,h => by
    rw [spl,if_neg (fun e => h (by simp [e])),spl_no (fun q => h (by simp [q]))]
theorem spl_app {c : UInt8} {b : Bs} : ∀ {a : Bs},c ∉ a → spl c (a ++ c :: b) = a :: spl c b
  | [],_ => by simp [spl]
  | x :: a,h => by
    rw [List.cons_append,spl,if_neg (fun e => h (by simp [e])),spl_app (fun q => h (by simp [q]))]
theorem count_no {c : UInt8} : ∀ {s : Bs},c ∉ s → Lib.countByte s c = 0
  | [],_ => rfl
  | x :: s,h => by
    have hx : (x == c) = false := by rw [beq_eq_false_iff_ne]; exact fun e => h (by simp [e])
    have := count_no (c := c) (s := s) (fun q => h (by simp [q]))
    simp [Lib.countByte] at *
    simp_all
theorem index_split {c : UInt8} : ∀ {s : Bs},0 ≤ Lib.indexByte s c → ∃ a b,s = a ++ c :: b ∧ c ∉ a
  | [],h => by simp [Lib.indexByte] at h
  | x :: s,h => by
    by_cases e : x = c
    · exact ⟨[],s,by simp [e],by simp⟩
    · have hx : (x == c) = false := by rw [beq_eq_false_iff_ne]; exact e
      rw [Lib.indexByte,hx] at h
      simp only [Bool.false_eq_true,if_false] at h
      have hs : 0 ≤ Lib.indexByte s c := by
        rcases Int.lt_or_le (Lib.indexByte s c) 0 with q | q
        · have := Lib.indexByte_ge s c
          rw [show Lib.indexByte s c = -1 by omega] at h
          simp at h
        · exact q
      obtain ⟨a,b,e1,e2⟩ := index_split hs
      refine ⟨x :: a,b,by rw [e1]; rfl,fun q => ?_⟩
      rw [List.mem_cons] at q
      rcases q with q | q
      · exact e q.symm
      · exact e2 q
theorem count_app {c : UInt8} {a b : Bs} (h : c ∉ a) : Lib.countByte (a ++ c :: b) c = Lib.countByte b c + 1 := by
  have := count_no h
  unfold Lib.countByte at *
  rw [List.count_append,this,List.count_cons_self]
  omega
theorem index_nn {c : UInt8} : ∀ {s : Bs},c ∈ s → 0 ≤ Lib.indexByte s c
  | x :: s,h => by
    by_cases e : x = c
    · rw [Lib.indexByte,show (x == c) = true by simp [e]]; simp
    · have hx : (x == c) = false := by rw [beq_eq_false_iff_ne]; exact e
      rw [List.mem_cons] at h
      have ih := index_nn (c := c) (s := s) (by rcases h with q | q; exact absurd q.symm e; exact q)
      rw [Lib.indexByte,hx]
      simp only [Bool.false_eq_true,if_false]
      rw [if_neg (by rw [beq_iff_eq]; omega)]
      omega
theorem genSplit_ok (s : Bs) (c : UInt8) (hs : (s.length : Int) ≤ 1048576) : Does Tryz.prog 186 [.one (str s),.one (str [c]),.one (int 0),.one (int (-1))] [] (.one (.gv 0)) [.row 1 (rows eS (spl c s))] := by
  have hcl : Lib.countByte s c ≤ s.length := List.count_le_length
  have hone : ((([c] : Bs).length : Nat) : Int) = 1 := rfl
  refine does_of (k := 0) Tryz.func186 rfl Tryz.ntmps186 rfl rfl fun w F0 S0 ρ0 => ?_
  dsimp only [argT,argH]
  repeat' first|(apply n3;exact a_make (fE rfl) (fZ rfl) (fP rfl) (by decide) rfl rfl (by omega) rfl (by omega) (by omega) (rows_rep eS [] _);exact rfl;refine dA ?_)|(apply p3;(first|exact pu1|exact puC|exact a_eqT rfl rfl|exact a_add rfl rfl (by omega) (by omega)|exact a_lenT rfl (fT rfl)|exact a_min rfl rfl|exact a_sub rfl rfl (by omega) (by omega));exact rfl)|refine cd ?_|(apply c4 0;exact callK1 (θ := []) (hD := (CountB_ok _ _));exact rfl;exact rfl;exact rfl;refine dM ?_)
  rw [if_neg (by omega)]
  skip
  refine g_loop_id ?_
  refine loopK [1,2,3,8,9] [0] (fun y : Int × Bs × List Bs => 0 ≤ y.1 ∧ y.1 ≤ Lib.countByte s c ∧ y.2.2.length = Lib.countByte s c + 1 ∧ (Lib.countByte y.2.1 c : Int) = Lib.countByte s c - y.1 ∧ y.2.1.length ≤ s.length ∧ spl c s = y.2.2.take y.1.toNat ++ spl c y.2.1) (fun y => [(10,.one (int y.1)),(0,.one (str y.2.1))]) (fun y => [(0,.row 1 (rows eS y.2.2))]) (fun y => (Lib.countByte s c - y.1).toNat) ((0 : Int),s,List.replicate ((Lib.countByte s c : Int) + 1).toNat ([] : Bs)) [0] (hI := ?_) (hr := ?_)
  · exact ⟨by simp,by simp,by simp,by simp,by simp,by simp⟩
  · rintro ⟨i,cur,l⟩ ⟨h0,h1,h2,h3,h4,h5⟩
    dsimp only [List.cons_append,List.nil_append] at *
    skip
    repeat' first|(apply p3;(first|exact pu1|exact puC|exact a_add rfl rfl (by omega) (by omega)|exact puI);exact rfl)|refine cd ?_|(apply w3;(exact a_stE (E := eS) _ rfl rfl rfl rfl (fN rfl rfl) bnd (by exact rfl));exact rfl;refine dS ?_)|(apply c4 0;exact callK1 (θ := []) (hD := (IndexB_ok _ _));exact rfl;exact rfl;exact rfl;refine dM ?_)|(refine g_cond (c := .tmp 36) rfl (fun hc => ?_) (fun hc => ?_) <;> (try simp only [dcB] at hc) <;> (try (first|contradiction|(exfalso;omega))))
    · have hpos : 0 ≤ Lib.indexByte cur c := by
        rcases Int.lt_or_le (Lib.indexByte cur c) 0 with q | q
        · exfalso
          by_cases hm : c ∈ cur
          · obtain ⟨a,b,e⟩ := List.append_of_mem hm
            exact absurd q (by have := index_nn hm; omega)
          · have := count_no hm
            omega
        · exact q
      obtain ⟨a,b,e1,e2⟩ := index_split hpos
      subst e1
      have e3 := index_at (b := b) e2
      have e4 := count_app (b := b) e2
      rw [spl_app e2] at h5
      have e5 : (a ++ c :: b).length = a.length + b.length + 1 := by simp; omega
      have e6 : (a ++ c :: b).take ((a.length : Int) + 0).toNat = a := by simp
      have e7 : (a ++ c :: b).drop ((a.length : Int) + (([c] : Bs).length : Int)).toNat = b := by
        rw [show ((a.length : Int) + (([c] : Bs).length : Int)).toNat = a.length + 1 by simp,← List.drop_drop]
        simp
      rw [e3]
      repeat' first|(apply p3;(first|exact pu1|exact a_add rfl rfl (by omega) (by omega)|exact a_slSh rfl rfl (fT rfl) (by omega) bnd|exact a_lenT rfl (fT rfl)|exact a_slSl rfl rfl (fT rfl) (by omega) bnd|exact puI);exact rfl)|refine cd ?_|(apply w3;(exact a_stE (E := eS) _ rfl rfl rfl rfl (fN rfl rfl) bnd (by exact rfl));exact rfl;refine dS ?_)
      rw [e6,e7]
      refine q_again (i + 1,b,l.set i.toNat a) [0] (by exact stk) ?_ ?_
      · refine ⟨by dsimp only; omega,by dsimp only; omega,by simp [h2],by dsimp only; omega,by dsimp only; omega,?_⟩
        dsimp only
        rw [h5,show (i + 1).toNat = i.toNat + 1 by omega,List.take_succ_eq_append_getElem (by rw [List.length_set]; omega),List.getElem_set_self]
        simp [List.take_set_of_le]
      · omega
    · have hin : i = Lib.countByte s c := by omega
      have hno : c ∉ cur := fun q => by
        have := List.count_pos_iff.2 q
        have h6 : Lib.countByte cur c = 0 := by omega
        unfold Lib.countByte at h6
        omega
      have hset : (l.set i.toNat cur).length = l.length := List.length_set
      rw [spl_no hno] at h5
      have e : (l.set i.toNat cur) = spl c s := by
        rw [h5]
        apply List.ext_getElem
        · simp [h2]; omega
        · intro k k1 k2
          rw [List.getElem_set]
          split
          · next q => subst q; simp [List.getElem_append]; omega
          · next q =>
            rw [List.length_set] at k1
            rw [List.getElem_append_left (by simp; omega)]
            simp
      repeat' first|(apply p3;(exact pu1);exact rfl)|refine cd ?_|(apply s3;exact a_slHO rfl rfl rfl (fS rfl) (by omega) (by omega) (by exact rfl) (by decide);exact rfl;exact rfl)
      rw [List.take_of_length_le (by omega),e]
      repeat refine cr ?_
      refine ends_id ?_
      refine endK [?_] (h2 := ?_) (h3 := ?_) (nd := ?_)
      rotate_left 1
      all_goals (repeat' first|exact ce0|refine ce ?_|refine ce2 ?_ ?_|(refine Or.inr (bx_eq rfl rfl ?_);(try dsimp only [C.ren,C.ren.all]);(try exact rfl))|exact SVLe.refl|refine ceb ?_)
      all_goals first | exact (show nodupB _ = true from rfl) | exact Or.inr rfl | (rfl)
theorem Split_ok (s : Bs) (c : UInt8) (hs : (s.length : Int) ≤ 1048576) : Does Tryz.prog 82 [.one (str s),.one (str [c])] [] (.one (.gv 0)) [.row 1 (rows eS (spl c s))] := by
  refine does_of (k := 0) Tryz.func82 rfl Tryz.ntmps82 rfl rfl fun w F0 S0 ρ0 => ?_
  dsimp only [argT,argH]
  repeat' first|(apply p3;exact pu1;exact rfl)|refine cd ?_|(apply c4 1;exact callK1 (θ := []) (hD := (genSplit_ok _ _ preB116));exact rfl;exact rfl;exact rfl;refine dM ?_)
  repeat refine cr ?_
  refine ends_id ?_
  refine endK [?_] (h2 := ?_) (h3 := ?_) (nd := ?_)
  rotate_left 1
  all_goals (repeat' first|exact ce0|refine ce ?_|refine ce2 ?_ ?_|(refine Or.inr (bx_eq rfl rfl ?_);(try dsimp only [C.ren,C.ren.all]);(try exact rfl))|exact SVLe.refl|refine ceb ?_)
  all_goals first | exact (show nodupB _ = true from rfl) | exact Or.inr rfl | (rfl)
def rpl (c d : UInt8) (s : Bs) : Bs := s.map fun x => if x = c then d else x
theorem rpl_no {c d : UInt8} : ∀ {s : Bs},c ∉ s → rpl c d s = s
  | [],_ => rfl
  | x :: s,h => by
    have := rpl_no (c := c) (d := d) (s := s) (fun q => h (by simp [q]))
    unfold rpl at *
    rw [List.map_cons,if_neg (fun e => h (by simp [e])),this]
theorem rpl_app (c d : UInt8) (a b : Bs) : rpl c d (a ++ b) = rpl c d a ++ rpl c d b := by unfold rpl; rw [List.map_append]
theorem rpl_len (c d : UInt8) (a : Bs) : (rpl c d a).length = a.length := by unfold rpl; rw [List.length_map]
end Go.Proofs.YtbblkhjjgnpbaaaGreatDoor
end
section
set_option linter.unusedVariables false
set_option linter.unusedSimpArgs false
set_option maxRecDepth 100000
set_option maxHeartbeats 4000000
namespace Go.Proofs.YtbblkhjjgnpbaaaGreatDoor
open Go Foot
theorem valD_lt : ∀ (n : Nat) {l : Bs},l.length = n → (∀ c ∈ l,isDg c) → valD l < 10 ^ n
  | 0,l,h,_ => by
    have : l = [] := List.length_eq_zero_iff.1 h
    subst this
    simp [valD]
  | n + 1,l,h,hd => by
    have hne : l ≠ [] := fun e => by rw [e] at h; simp at h
    obtain ⟨a,c,rfl⟩ : ∃ a c,l = a ++ [c] := ⟨l.dropLast,l.getLast hne,(List.dropLast_concat_getLast hne).symm⟩
    have ih := valD_lt n (l := a) (by simp at h; exact h) fun x hx => hd x (by simp [hx])
    have hc := hd c (by simp)
    unfold isDg at hc
    rw [valD_snoc,Nat.pow_succ]
    omega
theorem head_app {a b : Bs} (h : a ≠ []) : (a ++ b).head? = a.head? := by
  cases a with
  | nil => exact absurd rfl h
  | cons x a => rfl
theorem dec_head {u : Nat} (h : u ≠ 0) : (Lib.decDigits u).head? ≠ some 48 := by
  induction u using Nat.strongRecOn with
  | _ u ih =>
    rw [Lib.decDigits]
    by_cases hu : u < 10
    · rw [dif_pos hu]
      intro e
      simp only [List.head?_cons,Option.some.injEq] at e
      have := (dg_nat hu).2
      rw [e] at this
      have h48 : (48 : UInt8).toNat = 48 := rfl
      omega
    · rw [dif_neg hu,head_app (dec_val (u / 10)).2.2]
      exact ih (u / 10) (by omega) (by omega)
theorem dec_len {k u : Nat} (hk : 1 ≤ k) (h : u < 10 ^ k) : (Lib.decDigits u).length ≤ k := by
  by_cases h0 : u = 0
  · subst h0; simp [Lib.decDigits]; omega
  · rw [← drev_dec u h0,byt_len,List.length_reverse]; exact drev_le k u h
theorem len_dec {k u : Nat} (h : (Lib.decDigits u).length ≤ k) : u < 10 ^ k := by
  obtain ⟨d1,d2,d3⟩ := dec_val u
  have := valD_lt _ rfl d2
  rw [d1] at this
  exact Nat.lt_of_lt_of_le this (Nat.pow_le_pow_right (by omega) h)
def valS : Bs → Int
  | [] => 0
  | c :: r => if c = 45 then -((valD r : Nat) : Int) else ((valD (c :: r) : Nat) : Int)
@[irreducible] def numS (s : Bs) : Option Int := if decT (valS s) = s ∧ -1000000000000000000 < valS s ∧ valS s < 1000000000000000000 then some (valS s) else none
theorem decT_neg {n : Int} (h : n < 0) : decT n = 45 :: Lib.decDigits n.natAbs := by unfold decT Lib.itoa; rw [if_pos h]
theorem dg_ne {c : UInt8} (h : isDg c) : c ≠ 45 := by rintro rfl; revert h; unfold isDg; decide
theorem valS_dec (n : Int) : valS (decT n) = n := by
  by_cases h : n < 0
  · rw [decT_neg h,valS,if_pos rfl,(dec_val _).1]; omega
  · rw [decT_nat (by omega)]
    obtain ⟨d1,d2,d3⟩ := dec_val n.toNat
    cases hq : Lib.decDigits n.toNat with
    | nil => exact absurd hq d3
    | cons c r =>
      rw [hq] at d1 d2
      rw [valS,if_neg (dg_ne (d2 c (by simp))),d1]
      omega
theorem numS_some {s : Bs} {n : Int} : numS s = some n ↔ decT n = s ∧ -1000000000000000000 < n ∧ n < 1000000000000000000 := by
  unfold numS
  constructor
  · intro h
    split at h
    · next hh => cases h; exact hh
    · cases h
  · rintro ⟨rfl,h1,h2⟩
    rw [valS_dec,if_pos ⟨rfl,h1,h2⟩]
def sgn (s : Bs) : Nat := if s.head? = some 45 then 1 else 0
structure Canon (s : Bs) : Prop where
  ne : sgn s < s.length
  le : s.length - sgn s ≤ 18
  z : ¬ (s[sgn s]? = some 48 ∧ 1 < s.length)
  d : ∀ c ∈ s.drop (sgn s),isDg c
theorem canon_dec {n : Int} (h1 : -1000000000000000000 < n) (h2 : n < 1000000000000000000) : Canon (decT n) := by
  by_cases h : n < 0
  · obtain ⟨d1,d2,d3⟩ := dec_val n.natAbs
    have dl := dec_len (k := 18) (u := n.natAbs) (by omega) (by omega)
    have dh := dec_head (u := n.natAbs) (by omega)
    have e := decT_neg h
    have es : sgn (decT n) = 1 := by rw [e]; rfl
    have hp : 0 < (Lib.decDigits n.natAbs).length := List.length_pos_iff.2 d3
    refine ⟨by rw [es,e,List.length_cons]; omega,by rw [es,e,List.length_cons]; omega,?_,?_⟩
    · rintro ⟨q,_⟩
      rw [es,e,List.getElem?_cons_succ,← List.head?_eq_getElem?] at q
      exact dh q
    · rw [es,e]; exact d2
  · obtain ⟨d1,d2,d3⟩ := dec_val n.toNat
    have dl := dec_len (k := 18) (u := n.toNat) (by omega) (by omega)
    have e := decT_nat (n := n) (by omega)
    have hp : 0 < (Lib.decDigits n.toNat).length := List.length_pos_iff.2 d3
    have es : sgn (decT n) = 0 := by
      rw [e]
      unfold sgn
      rw [if_neg]
      intro q
      exact dg_ne (d2 45 (List.mem_of_mem_head? q)) rfl
    refine ⟨by rw [es,e]; exact hp,by rw [es,e]; omega,?_,by rw [es,e]; exact d2⟩
    rintro ⟨q,q2⟩
    rw [es,e,← List.head?_eq_getElem?] at q
    by_cases h0 : n.toNat = 0
    · rw [e,h0] at q2
      simp [Lib.decDigits] at q2
    · exact dec_head h0 q
theorem parse_dec2 {n : Int} (h1 : -1000000000000000000 < n) (h2 : n < 1000000000000000000) : Lib.parseIntB 64 (decT n) = .ok n := by
  by_cases h : n < 0
  · rw [decT_neg h]
    obtain ⟨d1,d2,d3⟩ := dec_val n.natAbs
    have hp : Lib.parseUintB 64 (Lib.decDigits n.natAbs) = .ok n.natAbs := by
      unfold Lib.parseUintB
      rw [if_neg d3,parseM d2 (by unfold valD at d1; rw [d1]; omega) (by decide)]
      unfold valD at d1
      rw [d1]
    unfold Lib.parseIntB
    simp only
    rw [if_pos (.inr (by decide)),hp]
    simp only
    rw [if_neg (fun q => q.1 (by decide)),if_neg (fun q => by have := q.2; omega),if_pos (by decide)]
    congr 1
    omega
  · exact parse_dec (by omega) (by omega)
theorem parse_bd {s : Bs} {v : Int} (h : Lib.parseIntB 64 s = .ok v) : -9223372036854775808 ≤ v ∧ v ≤ 9223372036854775807 := by
  cases s with
  | nil => cases h
  | cons c r =>
    simp only [Lib.parseIntB] at h
    split at h
    · cases h
    · cases h
    · split at h
      · cases h
      · split at h
        · cases h
        · simp only [Lib.NumEnd.ok.injEq] at h
          subst h
          split <;> omega
theorem trim_dec (n : Int) : Lib.trimPrefix (decT n) [45] = Lib.decDigits n.natAbs := by
  unfold Lib.trimPrefix
  by_cases h : n < 0
  · rw [decT_neg h,if_pos (by simp [Lib.hasPrefix])]
    rfl
  · have e := decT_nat (n := n) (by omega)
    obtain ⟨_,d2,d3⟩ := dec_val n.toNat
    rw [e,show n.natAbs = n.toNat by omega,if_neg]
    intro q
    cases hq : Lib.decDigits n.toNat with
    | nil => exact d3 hq
    | cons c r =>
      rw [hq] at q d2
      simp [Lib.hasPrefix] at q
      exact dg_ne (d2 c (by simp)) q.symm
def numL : List Bs → Option (List Int)
  | [] => some []
  | p :: r => (numS p).bind fun n => (numL r).map (n :: ·)
theorem numL_len : ∀ {l : List Bs} {w : List Int},numL l = some w → w.length = l.length
  | [],w,h => by cases h; rfl
  | p :: r,w,h => by
    unfold numL at h
    cases hp : numS p with
    | none => rw [hp] at h; cases h
    | some n =>
      rw [hp,Option.bind_some] at h
      cases hr : numL r with
      | none => rw [hr] at h; cases h
      | some v =>
        rw [hr] at h
        simp only [Option.map_some,Option.some.injEq] at h
        subst h
        simp [numL_len hr]
theorem numL_snoc : ∀ (l : List Bs) (p : Bs),numL (l ++ [p]) = (numL l).bind fun w => (numS p).map (w ++ [·])
  | [],p => by
    simp only [List.nil_append,numL]
    cases numS p <;> rfl
  | q :: r,p => by
    rw [List.cons_append,numL,numL_snoc r p,numL]
    cases numS q with
    | none => rfl
    | some n =>
      cases numL r with
      | none => rfl
      | some w => cases numS p <;> rfl
theorem numL_none {l : List Bs} : ∀ {i : Nat} (h : i < l.length),numS (l[i]) = none → numL l = none := by
  induction l with
  | nil => intro i h; simp at h
  | cons p r ih =>
    intro i h e
    unfold numL
    cases i with
    | zero => rw [List.getElem_cons_zero] at e; rw [e]; rfl
    | succ i =>
      rw [List.getElem_cons_succ] at e
      rw [ih (by simpa using h) e]
      cases numS p <;> rfl
end Go.Proofs.YtbblkhjjgnpbaaaGreatDoor
end
section
set_option linter.unusedVariables false
set_option linter.unusedSimpArgs false
set_option maxRecDepth 100000
namespace Go.Proofs.YtbblkhjjgnpbaaaGreatDoor
open Go Foot Go.Shelf Go.RowKit
def frB (T : Nat) : Opq where
  p w _ us F := ∃ b,us = [.pointer (some ⟨b,0,none⟩)] ∧ w.heap[b]? = some (.cells #[.pointer none,.slice none 0 0] T (0,0)) ∧ ∀ o,F b o
  keep := by
    rintro w w' S S' F F' us ⟨b,rfl,h1,h2⟩ hF _ _ hf
    exact ⟨b,rfl,heap_agree h1 h2 hF,fun o => hf _ _ (h2 o)⟩
theorem a_allocF {P : Program} {g : Gh} {st : St} {dst : Option Tmp} {ty : TypeId} {pos : String} {after : Array Edge} {guard : Option (Nat × Bool)} {T i : Nat} (hT : zeroC P T = some [.pointer none,.slice none 0 0]) : Acts P g ⟨dst,.alloc T,ty,pos,after,guard⟩ st (.one (.gv i)) [] [(i,.opq (frB T) [i])] := by
  refine ⟨fun a w S ρ F h hn K Q hK => ?_⟩
  have hn' : ρ i = none := by simpa using hn (i,.opq (frB T) [i]) (by simp)
  clear hn
  unfold zeroC at hT
  split at hT
  case h_2 => cases hT
  rename_i inf hi
  split at hT
  case h_2 => cases hT
  rename_i zv hz
  cases hb : zv.cells.toList.all Value.oneCell' with
  | false => rw [hb] at hT; cases hT
  | true =>
    rw [hb] at hT
    simp only [cond_true,Option.some.injEq] at hT
    have hrun : (execOp a.eval ⟨dst,.alloc T,ty,pos,after,guard⟩).run P w = .ok (.value (.pointer (some ⟨w.heap.size,0,none⟩))) (w.alloc (.cells zv.cells.toList.toArray T)) := by
      simp [execOp,Instr.alloc,zeroValue,typeInfo,hi,hz,run_newRow,go_sem]
    rw [hT] at hrun
    refine oper_in (fun _ h => nomatch h) ?_
    rw [hrun,Oper.uponIn_value]
    refine hK _ _ no _ _ (Done.new (S1 := no) (u := .pointer (some ⟨w.heap.size,0,none⟩)) (G := fun b _ => b = w.heap.size) (keeps_alloc _) hn' (fun ρ' hl he => ?_) (by rintro b o rfl; simp)) ⟨by simp,rfl⟩
    exact ⟨[.pointer (some ⟨w.heap.size,0,none⟩)],by simp [he],w.heap.size,rfl,by simp [heap_alloc],fun _ => rfl⟩
theorem does_fresh {P : Program} {f : Nat} {T e : Nat} {l' : List UInt8} {ags : List SV} {av : List Value} {res : SV} {rv : Value} (ha : ∀ w S ρ vs,RepA w S ρ ags vs → vs = av) (hr : ∀ w S ρ,RepS w S ρ res rv)
    (hc : ∀ (w : World) (b : Nat),w.heap[b]? = some (.cells #[.pointer none,.slice none 0 0] T (0,0)) → Calls P f (self b :: av).toArray w fun en w' => en = .returned rv ∧ BlTo w w' T e b (.slice none 0 0) (Lib.byteCells l')) :
    Does P f (.one (.gv 0) :: ags) [.opq (frB T) [0]] res [.bld T e l'] := by
  intro vs w S ρ F hA hG
  simp only [RepA] at hA
  obtain ⟨v0,us,rfl,h0,hA⟩ := hA
  have := ha _ _ _ _ hA
  subst this
  obtain ⟨v,hv,hg⟩ := (hG.roots 0 (.opq (frB T) [0]) rfl).resolve_left (by simp)
  simp only [RepG] at hg
  obtain ⟨us,hu,b,rfl,hat,hFb⟩ := hg
  have hvb : v = .pointer (some ⟨b,0,none⟩) := by simp [hv] at hu; exact hu
  subst hvb
  have hFq : ∀ g,(Value.slice none 0 0).ownBlock = some g → ∀ o,F 0 g o := fun g hg => by simp [Value.ownBlock] at hg
  have h0' := h0.1
  rw [hv] at h0'
  cases h0'
  refine (hc w b hat).mono ?_
  rintro en w' ⟨rfl,p',v',hB,hon,hfr⟩
  have hFb' : ∀ o,upTo F 1 b o := fun o => ⟨0,by omega,hFb o⟩
  have hbl : ∀ k,k < w.heap.size → (∃ o,¬ upTo F 1 k o) → w'.heap[k]? = w.heap[k]? := fun k hk ⟨o,ho⟩ => hfr.block k hk (fun e => by subst e; exact ho (hFb' o)) (fun e => ho ⟨0,by omega,hFq k e.symm o⟩)
  have hl' : (Lib.byteCells l').length = l'.length := Lib.byteCells_length l'
  refine ⟨rv,no,ρ,fun i => if i = 0 then (fun b o => F 0 b o ∨ w.heap.size ≤ b ∧ b < w'.heap.size) else no,rfl,?_,hr _ _ _⟩
  refine ⟨⟨hfr.os,hfr.tape,hfr.output,hfr.size,fun k hk hn => hbl k hk ⟨0,hn 0⟩,fun k o hk hn => ?_⟩,no_le _,fun _ _ h => h.elim,by simp,fun i u _ h => h,hG.new,?_,fun i j hi hj hij => ?_,fun i _ => by rintro b o _ h; exact h.elim,fun i hi => ?_,fun i hi b o hb => ?_⟩
  · have e := hbl k hk ⟨o,hn⟩
    simp [World.cell?,World.frozen?,mapAt,e]
  · intro i gb hi
    match i,hi with
    | 0,hi =>
      simp at hi
      subst hi
      refine .inr ⟨_,hv,b,rfl,p',v',hB.adr,hB.at_,hl' ▸ hB.own,hB.ne,fun o => .inl (hFb o),fun g hg o => ?_⟩
      rcases hon with e | e | ⟨g',e,hg'⟩
      · rw [e] at hg; exact .inl (hFq g hg o)
      · rw [e] at hg; cases hg
      · rw [e] at hg
        cases hg
        exact .inr ⟨hg',(hB.own.lt g e).2⟩
    | i + 1,hi => simp at hi
  · simp at hi hj; omega
  · have : i = 0 := by simpa using hi
    subst this
    rintro b' o' hb
    simp only [if_true] at hb
    rcases hb with hb | ⟨hb,_⟩
    · exact .inl ⟨0,by simp,hb⟩
    · exact .inr hb
  · have : i = 0 := by simpa using hi
    subst this
    simp only [if_true] at hb
    rcases hb with hb | ⟨_,hb⟩
    · have := hG.ex 0 (by simp) b o hb
      have := hfr.size
      omega
    · exact hb
theorem alloc_set {w : World} {a : Addr} {v : Value} {o : Obj} (h : a.block < w.heap.size) : (w.setCell a v).alloc o = (w.alloc o).setCell a v := by
  unfold World.setCell World.alloc
  dsimp only
  congr 1
  apply Array.ext_getElem?
  intro i
  simp only [Array.getElem?_push,Array.getElem?_modify,Array.size_modify]
  by_cases h1 : i = w.heap.size
  · subst h1
    have hne : ¬ a.block = w.heap.size := by omega
    simp [hne]
  · simp [h1]
theorem bl_grown {T e b : Nat} {w : World} {cs : Array Value} (hbk : w.heap[b]? = some (.cells #[self b,.slice none 0 0] T (0,0))) (hm : cs.size ≤ maxLen) (hTe : T ≠ e) :
    BlTo w ((w.alloc (.cells cs e)).setCell ⟨b,1,none⟩ (.slice (some ⟨w.heap.size,0,none⟩) 0 cs.size)).drew.drew.drew T e b (.slice none 0 0) [] := by
  obtain ⟨⟨_,v,h1,h2,h3⟩,_⟩ := Lib.grown_fresh (B := 0) (Nat.zero_le b) hbk (Nat.zero_le _) hm hTe
  have hlt := heap_lt hbk
  have hb2 : (w.alloc (.cells cs e)).heap[b]? = some (.cells #[self b,.slice none 0 0] T (0,0)) := (Lib.alloc_old w _ b hlt).trans hbk
  have d1 : (w.alloc (.cells cs e)).cell? ⟨b,1,none⟩ = some (.slice none 0 0) := by rw [Lib.cell_of_heap hb2]; rfl
  have hv : v = .slice (some ⟨w.heap.size,0,none⟩) 0 cs.size := by
    have : ((w.alloc (.cells cs e)).setCell ⟨b,1,none⟩ (.slice (some ⟨w.heap.size,0,none⟩) 0 cs.size)).cell? ⟨b,1,none⟩ = some v := by
      have h1' : ((w.alloc (.cells cs e)).setCell ⟨b,1,none⟩ (.slice (some ⟨w.heap.size,0,none⟩) 0 cs.size)).heap[b]? = some (.cells #[self b,v] T (0,0)) := h1
      rw [Lib.cell_of_heap h1']; rfl
    rw [cell_set_same d1] at this
    exact (Option.some.inj this).symm
  subst hv
  refine ⟨self b,_,⟨.inr rfl,h1,World.ownsRowF_of h2,h3⟩,.inr (.inr ⟨w.heap.size,rfl,Nat.le_refl _⟩),?_⟩
  exact (((((Fr.alloc b _ w _).trans (Fr.set _ _ _ _ _) (fun _ _ e => e)).trans (Fr.drew b _ _) (fun _ _ e => e)).trans (Fr.drew b _ _) (fun _ _ e => e)).trans (Fr.drew b _ _) (fun _ _ e => e))
end Go.Proofs.YtbblkhjjgnpbaaaGreatDoor
end
section
set_option linter.unusedVariables false
set_option linter.unusedSimpArgs false
set_option maxRecDepth 1000000
namespace Go.Proofs.YtbblkhjjgnpbaaaGreatDoor
open Go Foot Go.Shelf Go.RowKit
set_option maxHeartbeats 4000000 in
theorem bs_growF {b n : Nat} {w : World} (hbk : w.heap[b]? = some (.cells #[self b,.slice none 0 0] 173 (0,0))) (hn : n ≤ 281474976710656) :
    Calls Tryz.prog 314 #[self b,.int .i64 n] w fun en w' => en = .returned (.tuple #[]) ∧ BlTo w w' 173 5 b (.slice none 0 0) [] := by
  obtain ⟨cs,hrun,hle,hmax⟩ := Lib.run_makeNoZero (P := Tryz.prog) w.drew #[3] 31 5 Tryz.underlying31 n hn
  have hw : IntKind.i64.wrap (IntKind.i64.wrap 0 + (n : Int)) = n := by
    rw [IntKind.wrap_i64,IntKind.wrap_i64]; omega
  have hcall : (callFunc 375 #[.int .i64 (IntKind.i64.wrap (IntKind.i64.wrap 0 + (n : Int)))]).run Tryz.prog w.drew = .ok (.value (.slice (some ⟨w.drew.heap.size,0,none⟩) n cs.size)) (w.drew.drew.drew.alloc (.cells cs 5)) := by
    rw [hw,run_callFunc_extern Tryz.func375 (by kernel_rfl) (by kernel_rfl) (by kernel_rfl) (e := Extern.BytealgMakeNoZero.makeNoZero #[3] #[31]) (by kernel_rfl),hrun]
    rfl
  have hlt := heap_lt hbk
  have hd : w.drew.heap[b]? = _ := hbk
  have ha : (w.alloc (.cells cs 5)).heap[b]? = _ := (Lib.alloc_old w _ b hlt).trans hbk
  have c1 : w.drew.cell? ⟨b,1,none⟩ = some (.slice none 0 0) := by rw [Lib.cell_of_heap hd]; rfl
  have c2 : (w.alloc (.cells cs 5)).cell? ⟨b,1,none⟩ = some (.slice none 0 0) := by rw [Lib.cell_of_heap ha]; rfl
  have f2 : (w.alloc (.cells cs 5)).frozen? ⟨b,1,none⟩ = false := Lib.frozen_of_heap ha 1
  have hcopy : ∀ W : World,(Builtin.copy_ #[31,31] 3 #[.slice (some ⟨w.heap.size,0,none⟩) 0 cs.size,.slice none 0 0]).run Tryz.prog W = .ok (goInt 0) W :=
    fun W => run_copy_none W _ _ _ 5 _ _ 0 cs.size 0 0 Tryz.underlying31 (by kernel_rfl) rfl
  have hfin := bl_grown (e := 5) hbk (hmax (by unfold maxLen; omega)) (by decide)
  clear hw
  have mixed : Tryz.prog.follows .mixedOrders = true := by kernel_rfl
  go_enter Tryz.func314,Tryz.ntmps314
  go_wp2
  go_region_o
  all_goals (go_wp2; go_end0; first | exact ⟨rfl,hfin⟩ | (refine ⟨rfl,?_⟩; rw [alloc_set hlt]; exact hfin))
end Go.Proofs.YtbblkhjjgnpbaaaGreatDoor
end
section
set_option linter.unusedVariables false
set_option linter.unusedSimpArgs false
set_option maxRecDepth 1000000
namespace Go.Proofs.YtbblkhjjgnpbaaaGreatDoor
open Go Foot Go.Shelf Go.RowKit
set_option maxHeartbeats 4000000 in
theorem bs_GrowF {b n : Nat} {w : World} (hbk : w.heap[b]? = some (.cells #[.pointer none,.slice none 0 0] 173 (0,0))) (hn : n ≤ 281474976710656) :
    Calls Tryz.prog 216 #[self b,.int .i64 n] w fun en w' => en = .returned (.tuple #[]) ∧ BlTo w w' 173 5 b (.slice none 0 0) [] := by
  have h : Bl w 173 5 b (.pointer none) (.slice none 0 0) [] := ⟨.inl rfl,hbk,World.ownsRowF_nil _ _ _ _,by simp [Value.ownBlock]⟩
  have e240 : ∀ args w,(callFunc 213 args).run Tryz.prog w = .ok (.enter 213 args) w := enters_of Tryz.func213 (by kernel_rfl) rfl
  have e241 : ∀ args w,(callFunc 314 args).run Tryz.prog w = .ok (.enter 314 args) w := enters_of Tryz.func314 (by kernel_rfl) rfl
  have mixed : Tryz.prog.follows .mixedOrders = true := by kernel_rfl
  go_enter Tryz.func216,Tryz.ntmps216
  go_wp2_with (go_at_fn 213; refine (bs_check h).mono ?_)
  rintro e w1 ⟨rfl,-,h1,hf1⟩
  have hbk1 := h1.at_
  have hbk2 : w1.drew.heap[b]? = some (.cells #[self b,.slice none 0 0] 173 (0,0)) := hbk1
  have hf2 : Fr b none w w1.drew := Fr.trans hf1 (Fr.drew b none w1) (fun _ _ e => e)
  have fin1 : BlTo w w1.drew 173 5 b (.slice none 0 0) [] := ⟨_,_,h1.drew,.inl rfl,hf2⟩
  have fin2 : ∀ w2,BlTo w1.drew w2 173 5 b (.slice none 0 0) [] → BlTo w w2 173 5 b (.slice none 0 0) [] := by
    rintro w2 ⟨p',v',k1,k2,k3⟩
    refine ⟨p',v',k1,?_,Fr.trans hf2 k3 (fun _ _ e => e)⟩
    rcases k2 with e | e | ⟨g,e,hg⟩
    · exact .inl e
    · exact .inr (.inl e)
    · exact .inr (.inr ⟨g,e,by have := hf2.size; omega⟩)
  clear h h1 hf1 hf2
  have c1 : w1.cell? ⟨b,1,none⟩ = some (.slice none 0 0) := by rw [Lib.cell_of_heap hbk1]; rfl
  go_wp2
  go_region_o
  go_wp2_with (go_at_fn 314; refine (bs_growF hbk2 hn).mono ?_)
  · rintro e w2 ⟨rfl,hB⟩
    go_wp2
    go_end0
    exact ⟨rfl,fin2 _ hB⟩
  · go_end0
    exact ⟨rfl,fin1⟩
section
variable {g : Gh} {st : St} {dst : Option Tmp} {ty : TypeId} {pos : String} {after : Array Edge} {guard : Option (Nat × Bool)} {i : Nat}
theorem a_newF : Acts Tryz.prog g ⟨dst,.alloc 173,ty,pos,after,guard⟩ st (.one (.gv i)) [] [(i,.opq (frB 173) [i])] := a_allocF (by kernel_rfl)
end
def erR : Opq where
  p _ _ us _ := ∃ te a,us = [.iface te (.pointer (some a))]
  keep := fun h _ _ _ _ => h
theorem does_err {P : Program} {f : Nat} {ags : List SV} {av : List Value} {m : Int} (ha : ∀ w S ρ vs,RepA w S ρ ags vs → vs = av)
    (hc : ∀ (w : World) (S : Foot),Tabs w S → Calls P f av.toArray w fun en w' => ∃ te a,en = .returned (.tuple #[.int .i64 m,.iface te (.pointer (some a))]) ∧ Below w.heap.size w w') :
    Does P f ags [] (.tup [(false,[int m]),(false,[.gv 0])]) [.opq erR [0]] := by
  intro vs w S ρ F hA hG
  have := ha _ _ _ _ hA
  subst this
  refine (hc w S hG.tab).mono ?_
  rintro en w' ⟨te,a,rfl,hb⟩
  have hn : ρ 0 = none := hG.new 0 (Nat.le_refl _)
  refine ⟨_,no,fun i => if i = 0 then some (.iface te (.pointer (some a))) else ρ i,fun _ => no,rfl,?_,⟨_,rfl,_,_,rfl,⟨_,[],rfl,⟨rfl,rfl⟩,rfl⟩,_,_,rfl,⟨.iface te (.pointer (some a)),[],rfl,⟨if_pos rfl,rfl⟩,rfl⟩,rfl⟩⟩
  refine ⟨⟨hb.os,hb.tape,hb.output,hb.size,fun k hk _ => hb.block k hk,fun k o hk _ => ?_⟩,no_le _,fun _ _ h => h.elim,by simp,fun i u hi _ => absurd hi (by simp),fun i hi => ?_,fun i gb hi => ?_,fun i j _ _ _ => fun _ _ h _ => h,fun i _ => fun _ _ h _ => h,fun i _ => no_le _,fun i _ b o h => h.elim⟩
  · have e := hb.block k hk
    simp [World.cell?,World.frozen?,mapAt,e]
  · simp only [List.length_cons,List.length_nil] at hi
    rw [if_neg (by omega)]
    exact hG.new i (Nat.zero_le _)
  · match i,hi with
    | 0,hi =>
      simp at hi
      subst hi
      exact .inr ⟨.iface te (.pointer (some a)),if_pos rfl,[.iface te (.pointer (some a))],by simp,te,a,rfl⟩
    | i + 1,hi => simp at hi
section
variable {P : Program} {g : Gh} {st : St}
variable {dst : Option Tmp} {ty : TypeId} {pos : String} {after : Array Edge} {guard : Option (Nat × Bool)} {x : Operand} {T U : TypeId} {i : Nat}
theorem a_neErr (e1 : opd st x = .one (.gv i)) (hg : lkG st.h i = .opq erR [i]) (hT : P.isIface T = true) : Acts P g ⟨dst,.binOp .neq T x (.const .nilIface) U,ty,pos,after,guard⟩ st (.one (boo true)) [] [] := by
  refine acts_of fun A w S ρ F h => ⟨.bool true,?_,rfl,rfl⟩
  have h1 := (opd_one h e1).1
  rcases h.root i with h0 | ⟨u,r1,r2⟩
  · rw [hg] at h0; cases h0
  rw [hg] at r2
  obtain ⟨us,q1,te,a,rfl⟩ := r2
  simp only [List.map_cons,List.map_nil,List.cons.injEq,and_true] at q1
  rw [q1] at h1
  simp only [Option.some.injEq] at h1
  show (do pure (.value (← (do eqGuard .neq T x (.const .nilIface) (A.eval x) (A.eval (.const .nilIface)); binOp .neq T (A.eval x) (A.eval (.const .nilIface))))) : Sem Next).run P w = _
  rw [← h1,show A.eval (.const .nilIface) = .nilIface from rfl]
  simp [eqGuard,run_neq_iface_nil w T hT]
end
end Go.Proofs.YtbblkhjjgnpbaaaGreatDoor
end
section
set_option linter.unusedVariables false
set_option linter.unusedSimpArgs false
set_option maxRecDepth 100000
set_option maxHeartbeats 4000000
namespace Go.Proofs.YtbblkhjjgnpbaaaGreatDoor
open Go Foot Go.RowKit
theorem preB122 {p : Prop} (h : p := by first | with_reducible assumption | omega | (simp only [List.length_append,List.length_cons,List.length_nil,List.length_set,List.length_replicate,List.length_take,List.length_drop,List.length_tail,List.length_dropLast,List.length_reverse] at *; omega) | exact mem_len (by assumption) (by omega) | (with_reducible refine Int.le_trans (Int.ofNat_le.2 (trimR_len _)) ?_; simp only [List.length_cons,List.length_tail]; omega) | (exact (ruAt_ok (by assumption) (by assumption) (by assumption)).2.1) | (exact (ruAt_ok (by assumption) (by assumption) (by assumption)).2.1) | (have := vMach_bd (by assumption); omega) | (simp only [mC_ch,mC_tu]; omega) | (have := vTag_bd (by assumption); omega) | (have := (‹Gd _ _›).le; omega) | (exact tgHalts_no (by assumption)) | (exact tgHead (by assumption) (by assumption) (by assumption)) | (exact Int.le_trans (tgStep_gd (by assumption) (by assumption) (by assumption) (by assumption)).le (by decide)) | (exact vTag_r (by assumption)) | (with_reducible refine Int.le_trans (Int.ofNat_le.2 (pushL_len _ _)) ?_; simp only [List.length_dropLast]; omega) | exact ls_at (by assumption) (by omega) | exact pt_gd (by assumption) | exact lv_at (by assumption) (by omega) | exact pt_gd (lv_at (by assumption) (by omega)) | exact (ask_ok (by assumption)).1 | exact (ask_ok (by assumption)).2.1 | exact (ask_ok (by assumption)).2.2.1 | exact (ask_ok (by assumption)).2.2.2 | trivial) : p := h
theorem ParseIntSyn_ok (s : Bs) (hs : (s.length : Int) ≤ 1000000000) (h : Lib.parseIntB 64 s = Lib.parseIntB 64 []) : Does Tryz.prog 187 [.one (str s),.one (int 10),.one (int 64)] [] (.tup [(false,[int 0]),(false,[.gv 0])]) [.opq erR [0]] :=
  does_err (av := [sv s,.int .i64 10,.int .i64 64]) (fun w S ρ vs => repA_3) fun w S hT => by
    obtain ⟨⟨cs,T,fr,ht,te,pe,hcs⟩,_⟩ := hT _ (List.mem_cons_of_mem _ (List.mem_cons_of_mem _ List.mem_cons_self))
    refine (Tryz.strconv_ParseInt_10_at64_syntax ⟨s.toArray⟩ (by rw [sz_str]; omega) h (.iface te pe) w ?_ (.inr ⟨te,pe,rfl⟩)).mono ?_
    · rw [Lib.cell_of_heap ht,hcs]; rfl
    · rintro en w' ⟨N,rfl,h1,h2,h3⟩
      exact ⟨_,_,rfl,h3⟩
theorem ParseIntRng_ok (s : Bs) (hs : (s.length : Int) ≤ 1000000000) (h : Lib.parseIntB 64 s = .range) : Does Tryz.prog 187 [.one (str s),.one (int 10),.one (int 64)] [] (.tup [(false,[int (Lib.intSat 64 s)]),(false,[.gv 0])]) [.opq erR [0]] :=
  does_err (av := [sv s,.int .i64 10,.int .i64 64]) (fun w S ρ vs => repA_3) fun w S hT => by
    obtain ⟨⟨cs,T,fr,ht,te,pe,hcs⟩,_⟩ := hT _ (List.mem_cons_of_mem _ List.mem_cons_self)
    refine (Tryz.strconv_ParseInt_10_at64_range ⟨s.toArray⟩ (by rw [sz_str]; omega) h (.iface te pe) w ?_ (.inr ⟨te,pe,rfl⟩)).mono ?_
    · rw [Lib.cell_of_heap ht,hcs]; rfl
    · rintro en w' ⟨N,rfl,h1,h2,h3⟩
      exact ⟨_,_,rfl,h3⟩
theorem ReadDecimalG_ok (s : Bs) (hs : (s.length : Int) ≤ 1048576) : Does Tryz.prog 85 [.one (str s)] [] (.tup [(false,[int ((numS s).getD 0)]),(false,[boo (numS s).isSome])]) [] := by
  cases hp : Lib.parseIntB 64 s
  · rename_i n
    obtain ⟨b1,b2⟩ := parse_bd hp
    have hdt : decT n = Lib.itoa n := by unfold decT; rfl
    have hlen := decT_le b1 b2
    by_cases hd : decT n = s
    · have ht : (Lib.trimPrefix s [45]) = Lib.decDigits n.natAbs := by rw [← hd,trim_dec]
      by_cases hl : (Lib.decDigits n.natAbs).length ≤ 18
      · have hn := len_dec hl
        have e : numS s = some n := numS_some.2 ⟨hd,by omega,by omega⟩
        rw [e]
        refine does_of (k := 0) Tryz.func85 rfl Tryz.ntmps85 rfl rfl fun w F0 S0 ρ0 => ?_
        dsimp only [argT,argH]
        repeat' first|(apply p3;(first|exact pu1|exact a_neNil rfl (by kernel_rfl));exact rfl)|refine cd ?_|(apply c4 0;exact callK1 (θ := []) (hD := (ParseInt_ok s n preB122 hp));exact rfl;exact rfl;exact rfl;refine dM ?_)|(apply py3;exact rfl;exact rfl;(first|exact pu1|exact a_neT rfl rfl|exact a_lenT rfl (fT rfl)|exact puC);exact rfl;exact rfl)|(apply cy4 0;exact rfl;exact rfl;exact callK1 (θ := []) (hD := (Decimal_ok _ preB122 preB122));exact rfl;exact rfl;exact rfl;exact rfl;refine dM ?_)|(apply cy4 0;exact rfl;exact rfl;exact callK1 (θ := []) (hD := (TrimPrefix_ok _ _));exact rfl;exact rfl;exact rfl;exact rfl;refine dM ?_)|(refine o_gs rfl rfl (fun hc => ?_) (fun hc => ?_) <;> (try simp only [dcB] at hc) <;> (try first|contradiction|(exfalso;omega)))
        simp only [ht]
        repeat' first|(apply p3;(exact pu1);exact rfl)|refine cd ?_|((refine g_cond rfl (fun hc => ?_) (fun hc => ?_)) <;> (try simp only [dcB] at hc) <;> (try first|contradiction|(exfalso;omega)))
        repeat refine cr ?_
        refine ends_id ?_
        refine endK [] (h2 := ?_) (h3 := ?_) (nd := ?_)
        all_goals (repeat' first|exact ce0|refine ce ?_|refine ce2 ?_ ?_|exact SVLe.refl|refine ceb ?_)
        all_goals first | exact (show nodupB _ = true from rfl) | exact Or.inr rfl | (rfl)
      · have e : numS s = none := by
          cases hq : numS s with
          | none => rfl
          | some k =>
            obtain ⟨q1,q2,q3⟩ := numS_some.1 hq
            have q4 : valS (decT k) = valS (decT n) := by rw [q1,hd]
            rw [valS_dec,valS_dec] at q4
            subst q4
            exact absurd (dec_len (k := 18) (by omega) (by omega)) hl
        rw [e]
        refine does_of (k := 0) Tryz.func85 rfl Tryz.ntmps85 rfl rfl fun w F0 S0 ρ0 => ?_
        dsimp only [argT,argH]
        repeat' first|(apply p3;(first|exact pu1|exact a_neNil rfl (by kernel_rfl));exact rfl)|refine cd ?_|(apply c4 0;exact callK1 (θ := []) (hD := (ParseInt_ok s n preB122 hp));exact rfl;exact rfl;exact rfl;refine dM ?_)|(apply py3;exact rfl;exact rfl;(first|exact pu1|exact a_neT rfl rfl|exact a_lenT rfl (fT rfl)|exact puC);exact rfl;exact rfl)|(apply cy4 0;exact rfl;exact rfl;exact callK1 (θ := []) (hD := (Decimal_ok _ preB122 preB122));exact rfl;exact rfl;exact rfl;exact rfl;refine dM ?_)|(apply cy4 0;exact rfl;exact rfl;exact callK1 (θ := []) (hD := (TrimPrefix_ok _ _));exact rfl;exact rfl;exact rfl;exact rfl;refine dM ?_)|(refine o_gs rfl rfl (fun hc => ?_) (fun hc => ?_) <;> (try simp only [dcB] at hc) <;> (try first|contradiction|(exfalso;omega)))
        simp only [ht]
        repeat' first|(apply p3;(exact pu1);exact rfl)|refine cd ?_|((refine g_cond rfl (fun hc => ?_) (fun hc => ?_)) <;> (try simp only [dcB] at hc) <;> (try first|contradiction|(exfalso;omega)))
        repeat refine cr ?_
        refine ends_id ?_
        refine endK [] (h2 := ?_) (h3 := ?_) (nd := ?_)
        all_goals (repeat' first|exact ce0|refine ce ?_|refine ce2 ?_ ?_|exact SVLe.refl|refine ceb ?_)
        all_goals first | exact (show nodupB _ = true from rfl) | exact Or.inr rfl | (rfl)
    · have e : numS s = none := by
        cases hq : numS s with
        | none => rfl
        | some k =>
          obtain ⟨q1,q2,q3⟩ := numS_some.1 hq
          rw [← q1,parse_dec2 q2 q3] at hp
          cases hp
          exact absurd q1 hd
      rw [e]
      refine does_of (k := 0) Tryz.func85 rfl Tryz.ntmps85 rfl rfl fun w F0 S0 ρ0 => ?_
      dsimp only [argT,argH]
      repeat' first|(apply p3;(first|exact pu1|exact a_neNil rfl (by kernel_rfl));exact rfl)|refine cd ?_|(apply c4 0;exact callK1 (θ := []) (hD := (ParseInt_ok s n preB122 hp));exact rfl;exact rfl;exact rfl;refine dM ?_)|refine o_no rfl rfl rfl rfl ?_|(apply py3;exact rfl;exact rfl;(first|exact pu1|exact a_neT rfl rfl);exact rfl;exact rfl)|(apply cy4 0;exact rfl;exact rfl;exact callK1 (θ := []) (hD := (Decimal_ok _ preB122 preB122));exact rfl;exact rfl;exact rfl;exact rfl;refine dM ?_)|((refine o_gs rfl rfl (fun hc => ?_) (fun hc => ?_)) <;> (try simp only [dcB] at hc) <;> (try first|contradiction|(exfalso;omega)))
      repeat refine cr ?_
      refine ends_id ?_
      refine endK [] (h2 := ?_) (h3 := ?_) (nd := ?_)
      all_goals (repeat' first|exact ce0|refine ce ?_|refine ce2 ?_ ?_|exact SVLe.refl|refine ceb ?_)
      all_goals first | exact (show nodupB _ = true from rfl) | exact Or.inr rfl | (rfl)
  · have e : numS s = none := by
      cases hq : numS s with
      | none => rfl
      | some k =>
        obtain ⟨q1,q2,q3⟩ := numS_some.1 hq
        rw [← q1,parse_dec2 q2 q3] at hp
        cases hp
    rw [e]
    refine does_of (k := 0) Tryz.func85 rfl Tryz.ntmps85 rfl rfl fun w F0 S0 ρ0 => ?_
    dsimp only [argT,argH]
    repeat' first|(apply p3;(first|exact pu1|exact a_neErr rfl rfl (by kernel_rfl));exact rfl)|refine cd ?_|(apply c4 1;exact callK0 (θ := []) (hD := (ParseIntSyn_ok s preB122 hp));exact rfl;exact rfl;exact rfl;refine dM ?_)|refine o_no rfl rfl rfl rfl ?_
    repeat refine cr ?_
    refine ends_id ?_
    refine endK [] (h2 := ?_) (h3 := ?_) (nd := ?_)
    all_goals (repeat' first|exact ce0|refine ce ?_|refine ce2 ?_ ?_|exact SVLe.refl|refine ceb ?_)
    all_goals first | exact (show nodupB _ = true from rfl) | exact Or.inr rfl | (rfl)
  · have e : numS s = none := by
      cases hq : numS s with
      | none => rfl
      | some k =>
        obtain ⟨q1,q2,q3⟩ := numS_some.1 hq
        rw [← q1,parse_dec2 q2 q3] at hp
        cases hp
    rw [e]
    refine does_of (k := 0) Tryz.func85 rfl Tryz.ntmps85 rfl rfl fun w F0 S0 ρ0 => ?_
    dsimp only [argT,argH]
    repeat' first|(apply p3;(first|exact pu1|exact a_neErr rfl rfl (by kernel_rfl));exact rfl)|refine cd ?_|(apply c4 1;exact callK0 (θ := []) (hD := (ParseIntRng_ok s preB122 hp));exact rfl;exact rfl;exact rfl;refine dM ?_)|refine o_no rfl rfl rfl rfl ?_
    repeat refine cr ?_
    refine ends_id ?_
    refine endK [] (h2 := ?_) (h3 := ?_) (nd := ?_)
    all_goals (repeat' first|exact ce0|refine ce ?_|refine ce2 ?_ ?_|exact SVLe.refl|refine ceb ?_)
    all_goals first | exact (show nodupB _ = true from rfl) | exact Or.inr rfl | (rfl)
end Go.Proofs.YtbblkhjjgnpbaaaGreatDoor
end
section
set_option linter.unusedVariables false
set_option linter.unusedSimpArgs false
set_option maxRecDepth 100000
set_option maxHeartbeats 4000000
namespace Go.Proofs.YtbblkhjjgnpbaaaGreatDoor
open Go Foot Go.RowKit
theorem preB123 {p : Prop} (h : p := by first | with_reducible assumption | omega | (simp only [List.length_append,List.length_cons,List.length_nil,List.length_set,List.length_replicate,List.length_take,List.length_drop,List.length_tail,List.length_dropLast,List.length_reverse] at *; omega) | exact mem_len (by assumption) (by omega) | (with_reducible refine Int.le_trans (Int.ofNat_le.2 (trimR_len _)) ?_; simp only [List.length_cons,List.length_tail]; omega) | (exact (ruAt_ok (by assumption) (by assumption) (by assumption)).2.1) | (exact (ruAt_ok (by assumption) (by assumption) (by assumption)).2.1) | (have := vMach_bd (by assumption); omega) | (simp only [mC_ch,mC_tu]; omega) | (have := vTag_bd (by assumption); omega) | (have := (‹Gd _ _›).le; omega) | (exact tgHalts_no (by assumption)) | (exact tgHead (by assumption) (by assumption) (by assumption)) | (exact Int.le_trans (tgStep_gd (by assumption) (by assumption) (by assumption) (by assumption)).le (by decide)) | (exact vTag_r (by assumption)) | (with_reducible refine Int.le_trans (Int.ofNat_le.2 (pushL_len _ _)) ?_; simp only [List.length_dropLast]; omega) | exact ls_at (by assumption) (by omega) | exact pt_gd (by assumption) | exact lv_at (by assumption) (by omega) | exact pt_gd (lv_at (by assumption) (by omega)) | exact (ask_ok (by assumption)).1 | exact (ask_ok (by assumption)).2.1 | exact (ask_ok (by assumption)).2.2.1 | exact (ask_ok (by assumption)).2.2.2 | trivial) : p := h
theorem GrowF_ok (n : Int) (h0 : 0 ≤ n) (h1 : n ≤ 281474976710656) : Does Tryz.prog 216 [.one (.gv 0),.one (int n)] [.opq (frB 173) [0]] (.tup []) [bldr []] :=
  does_fresh (av := [.int .i64 n]) (rv := .tuple #[]) (fun w S ρ vs => repA_1) (fun w S ρ => ⟨#[],rfl,rfl⟩) fun w b h => by
    obtain ⟨k,rfl⟩ : ∃ k : Nat,n = k := ⟨n.toNat,by omega⟩
    exact bs_GrowF h (by omega)
theorem ReplaceB_ok (s : Bs) (c d : UInt8) (hs : (s.length : Int) ≤ 1048576) (hcd : c ≠ d) : Does Tryz.prog 205 [.one (str s),.one (str [c]),.one (str [d]),.one (int (-1))] [] (.one (str (rpl c d s))) [] := by
  have hone : ((([c] : Bs).length : Nat) : Int) = 1 := rfl
  have hond : ((([d] : Bs).length : Nat) : Int) = 1 := rfl
  have hcl : Lib.countByte s c ≤ s.length := List.count_le_length
  have hne : ¬ (([c] : Bs) = [d]) := by simp [hcd]
  by_cases h0 : (Lib.countByte s c : Int) = 0
  · have hno : c ∉ s := fun q => by
      have := List.count_pos_iff.2 q
      unfold Lib.countByte at h0
      omega
    have e := rpl_no (d := d) hno
    rw [e]
    refine does_of (k := 0) Tryz.func205 rfl Tryz.ntmps205 rfl rfl fun w F0 S0 ρ0 => ?_
    dsimp only [argT,argH]
    repeat' first|(apply p3;(first|exact pu1|exact a_eqT rfl rfl|exact puC);exact rfl)|refine cd ?_|(apply c4 0;exact callK1 (θ := []) (hD := (CountB_ok _ _));exact rfl;exact rfl;exact rfl;refine dM ?_)|(apply py3;exact rfl;exact rfl;(first|exact pu1|exact puC);exact rfl;exact rfl)|((first|refine o_gs rfl rfl (fun hc => ?_) (fun hc => ?_)|refine g_cond rfl (fun hc => ?_) (fun hc => ?_)) <;> (try simp only [dcB] at hc) <;> (try first|contradiction|(exfalso;omega)))
    repeat refine cr ?_
    refine ends_id ?_
    refine endK [] (h2 := ?_) (h3 := ?_) (nd := ?_)
    all_goals (repeat' first|exact ce0|refine ce ?_|refine ce2 ?_ ?_|exact SVLe.refl|refine ceb ?_)
    all_goals first | exact (show nodupB _ = true from rfl) | exact Or.inr rfl | (rfl)
  · have hm0 : ¬ (Lib.countByte s c : Int) < 0 := by omega
    have hz : (Lib.countByte s c : Int) * (((([d] : Bs).length : Nat) : Int) - ((([c] : Bs).length : Nat) : Int)) = 0 := by rw [hone,hond]; simp
    refine does_of (k := 0) Tryz.func205 rfl Tryz.ntmps205 rfl rfl fun w F0 S0 ρ0 => ?_
    dsimp only [argT,argH]
    repeat' first|(apply n3;exact a_newF;exact rfl;refine dA ?_)|(apply p3;(first|exact pu1|exact a_eqT rfl rfl|exact puC|exact a_lenT rfl (fT rfl)|exact a_sub rfl rfl (by omega) (by omega)|exact a_mulB rfl rfl (by omega) (by omega) (by omega) (by omega)|exact a_add rfl rfl (by omega) (by omega));exact rfl)|refine cd ?_|(apply c4 0;exact callK1 (θ := []) (hD := (CountB_ok _ _));exact rfl;exact rfl;exact rfl;refine dM ?_)|(apply c4 0;exact callK1 (θ := [_]) (hD := (GrowF_ok _ preB123 preB123));exact rfl;exact rfl;exact rfl;refine dM ?_)|refine o_no rfl rfl rfl rfl ?_|(apply py3;exact rfl;exact rfl;(first|exact pu1|exact puC);exact rfl;exact rfl)|((first|refine o_gs rfl rfl (fun hc => ?_) (fun hc => ?_)|refine g_cond rfl (fun hc => ?_) (fun hc => ?_)) <;> (try simp only [dcB] at hc) <;> (try first|contradiction|(exfalso;omega)))
    refine g_loop_id ?_
    refine loopK [0,1,2,3,8,10,52] [0] (fun y : Int × Int × Bs => 0 ≤ y.1 ∧ y.1 ≤ Lib.countByte s c ∧ 0 ≤ y.2.1 ∧ y.2.1 ≤ s.length ∧ (Lib.countByte (s.drop y.2.1.toNat) c : Int) = Lib.countByte s c - y.1 ∧ (y.2.2.length : Int) = y.2.1 ∧ rpl c d s = y.2.2 ++ rpl c d (s.drop y.2.1.toNat)) (fun y => [(53,.one (int y.1)),(11,.one (int y.2.1))]) (fun y => [(0,bldr y.2.2)]) (fun y => (Lib.countByte s c - y.1).toNat) ((0 : Int),(0 : Int),([] : Bs)) [0] (hI := ?_) (hr := ?_)
    · exact ⟨by simp,by simp,by simp,by simp,by simp,by simp,by simp⟩
    · rintro ⟨i,k,acc⟩ ⟨h1,h2,h3,h4,h5,h6,h7⟩
      dsimp only [List.cons_append,List.nil_append] at *
      skip
      repeat' first|(apply p3;(first|exact pu1|exact puC|exact a_slSl rfl rfl (fT rfl) (by omega) bnd);exact rfl)|refine cdn ?_|refine g_reg (id := 13) ?_|refine g_reg (id := 28) ?_|refine g_reg (id := 29) ?_|(apply c4 0;exact callK1 (θ := [_]) (hD := (WriteString_ok _ _ preB123));exact rfl;exact rfl;exact rfl;refine dM ?_)|(apply c4 0;exact callK1 (θ := [_]) (hD := (String_ok _));exact rfl;exact rfl;exact rfl;refine dM ?_)|((refine g_cond rfl (fun hc => ?_) (fun hc => ?_)) <;> (try simp only [dcB] at hc) <;> (try first|contradiction|(exfalso;omega)))
      · have hpos : 0 ≤ Lib.indexByte (s.drop k.toNat) c := by
          rcases Int.lt_or_le (Lib.indexByte (s.drop k.toNat) c) 0 with q | q
          · exfalso
            by_cases hm : c ∈ s.drop k.toNat
            · have := index_nn hm; omega
            · have := count_no hm
              omega
          · exact q
        obtain ⟨a,b,e1,e2⟩ := index_split hpos
        have e3 := index_at (b := b) e2
        have e4 := count_app (b := b) e2
        have e5 : (s.length : Int) = k + a.length + 1 + b.length := by
          have := congrArg List.length e1
          rw [List.length_drop] at this
          simp only [List.length_append,List.length_cons] at this
          omega
        have e6 : (s.drop k.toNat).take ((k + (a.length : Int)).toNat - k.toNat) = a := by
          rw [e1,show (k + (a.length : Int)).toNat - k.toNat = a.length by omega]
          simp
        have e7 : s.drop (k + a.length + 1).toNat = b := by
          rw [show (k + (a.length : Int) + 1).toNat = k.toNat + (a.length + 1) by omega,← List.drop_drop,e1]
          simp
        rw [e1] at h5 h7
        rw [rpl_app,rpl_no e2] at h7
        have e8 : rpl c d (c :: b) = d :: rpl c d b := by unfold rpl; simp
        rw [e8] at h7
        repeat' first|(apply p3;(first|exact pu1|exact a_slSl rfl rfl (fT rfl) (by omega) bnd);exact rfl)|refine g_reg (id := 14) ?_|(apply c4 0;exact callK1 (θ := []) (hD := (IndexB_ok _ _));exact rfl;exact rfl;exact rfl;refine dM ?_)
        simp only [e1,e3]
        repeat' first|(apply p3;(first|exact pu1|exact a_add rfl rfl (by omega) (by omega)|exact a_slSm rfl rfl rfl (fT rfl) (by omega) (by omega) bnd|exact a_lenT rfl (fT rfl));exact rfl)|refine cd ?_|(apply c4 0;exact callK1 (θ := [_]) (hD := (WriteString_ok _ _ preB123));exact rfl;exact rfl;exact rfl;refine dM ?_)
        have e9 : (s.drop k.toNat).take ((k + ((a.length : Nat) : Int)).toNat - k.toNat) = a := e6
        simp only [e9]
        refine q_again (i + 1,k + a.length + 1,acc ++ a ++ [d]) [0] (by exact stk) ?_ ?_
        · refine ⟨by dsimp only; omega,by dsimp only; omega,by dsimp only; omega,by dsimp only; omega,?_,by simp; omega,?_⟩
          · dsimp only
            rw [e7]
            omega
          · dsimp only
            rw [e7,h7]
            simp
        · dsimp only; omega
      · have hno : c ∉ s.drop k.toNat := fun q => by
          have h1 := List.count_pos_iff.2 q
          have h6 : Lib.countByte (s.drop k.toNat) c = 0 := by omega
          unfold Lib.countByte at h6
          omega
        rw [rpl_no hno] at h7
        rw [h7]
        repeat refine cr ?_
        refine ends_id ?_
        refine endK [] (h2 := ?_) (h3 := ?_) (nd := ?_)
        all_goals (repeat' first|exact ce0|refine ce ?_|refine ce2 ?_ ?_|exact SVLe.refl|refine ceb ?_)
        all_goals first | exact (show nodupB _ = true from rfl) | exact Or.inr rfl | (rfl)
end Go.Proofs.YtbblkhjjgnpbaaaGreatDoor
end
section
set_option linter.unusedVariables false
set_option linter.unusedSimpArgs false
set_option maxRecDepth 100000
set_option maxHeartbeats 4000000
namespace Go.Proofs.YtbblkhjjgnpbaaaGreatDoor
open Go Foot
theorem spl_join : ∀ {l : List Bs},l ≠ [] → (∀ p ∈ l,(46 : UInt8) ∉ p ∧ (44 : UInt8) ∉ p) → spl 44 (rpl 46 44 (joinT l [46])) = l
  | [],h,_ => absurd rfl h
  | [a],_,h => by
    obtain ⟨h1,h2⟩ := h a (by simp)
    rw [join_one,rpl_no h1,spl_no h2]
  | a :: b :: l,_,h => by
    obtain ⟨h1,h2⟩ := h a (by simp)
    rw [join_cons2,rpl_app,rpl_app,rpl_no h1,show rpl 46 44 [46] = [44] by decide,List.singleton_append,spl_app h2,spl_join (by simp) (fun p hp => h p (by simp at hp ⊢; exact .inr hp))]
theorem dec_l19 {n : Int} (h1 : -1000000000000000000 < n) (h2 : n < 1000000000000000000) : (decT n).length ≤ 19 := by
  have := canon_dec h1 h2
  have h3 := this.le
  have h4 : sgn (decT n) ≤ 1 := by unfold sgn; split <;> omega
  omega
end Go.Proofs.YtbblkhjjgnpbaaaGreatDoor
end
section
set_option linter.unusedVariables false
set_option linter.unusedSimpArgs false
set_option maxRecDepth 100000
set_option maxHeartbeats 4000000
namespace Go.Proofs.YtbblkhjjgnpbaaaGreatDoor
open Go Foot Go.RowKit
theorem spl_len (c : UInt8) : ∀ s : Bs,(spl c s).length ≤ s.length + 1
  | [] => by simp [spl]
  | x :: s => by
    have ih := spl_len c s
    rw [spl]
    split
    · simp only [List.length_cons]; omega
    · split
      · simp
      · next p r e => rw [e] at ih; simp only [List.length_cons] at ih ⊢; omega
theorem spl_el (c : UInt8) : ∀ (s : Bs),∀ p ∈ spl c s,p.length ≤ s.length ∧ ∀ x ∈ p,x ∈ s
  | [],p,h => by simp [spl] at h; subst h; simp
  | x :: s,p,h => by
    have ih := spl_el c s
    rw [spl] at h
    split at h
    · rcases List.mem_cons.1 h with rfl | h
      · simp
      · obtain ⟨i1,i2⟩ := ih p h
        exact ⟨by simp only [List.length_cons]; omega,fun y hy => List.mem_cons_of_mem _ (i2 y hy)⟩
    · split at h
      · rcases List.mem_cons.1 h with rfl | h
        · simp
        · cases h
      · next q r e =>
        rw [e] at ih
        rcases List.mem_cons.1 h with rfl | h
        · obtain ⟨i1,i2⟩ := ih q (by simp)
          refine ⟨by simp only [List.length_cons]; omega,fun y hy => ?_⟩
          rcases List.mem_cons.1 hy with rfl | hy
          · simp
          · exact List.mem_cons_of_mem _ (i2 y hy)
        · obtain ⟨i1,i2⟩ := ih p (by simp [h])
          exact ⟨by simp only [List.length_cons]; omega,fun y hy => List.mem_cons_of_mem _ (i2 y hy)⟩
theorem ReadDecsG_ok (s : Bs) (hs : (s.length : Int) ≤ 1048576) : Does Tryz.prog 113 [.one (str s)] [] (.tup [(false,[.gv 0]),(false,[boo (numL (spl 44 s)).isSome])]) [roI ((numL (spl 44 s)).getD [])] := by
  have hpl := spl_len 44 s
  have hpe := spl_el 44 s
  refine does_of (k := 0) Tryz.func113 rfl Tryz.ntmps113 rfl rfl fun w F0 S0 ρ0 => ?_
  dsimp only [argT,argH]
  repeat' first|(apply n3;exact a_nilO eI rfl;exact rfl)|(apply n3;(exact a_litE eI [] rfl rfl rfl rfl rfl rfl rfl rfl);exact rfl;refine dA ?_)|(apply p3;(first|exact pu1|exact puN);exact rfl)|refine cd ?_|(apply c4 1;exact callK1 (θ := []) (hD := (Split_ok s 44 hs));exact rfl;exact rfl;exact rfl;refine dM ?_)
  generalize spl 44 s = ps at *
  refine g_loop_id ?_
  refine loopK [2,3,11,12] [1] (fun y : Int × List Int => 0 ≤ y.1 ∧ y.1 ≤ ps.length ∧ numL (ps.take y.1.toNat) = some y.2) (fun y => [(13,.one (int y.1)),(4,.one (.gv 1))]) (fun y => [(1,roI y.2)]) (fun y => (ps.length - y.1).toNat) ((0 : Int),([] : List Int)) [0,1,2] (hI := ?_) (hr := ?_)
  · exact ⟨by simp,by simp,by simp [numL]⟩
  · rintro ⟨i,l⟩ ⟨h0,h1,h2⟩
    dsimp only [List.cons_append,List.nil_append] at *
    skip
    repeat' first|(apply p3;(first|exact pu1|exact puC|exact a_ld_rowS rfl rfl rfl (fC rfl) bnd|exact puI);exact rfl)|refine cdn ?_|refine g_reg (id := 3) ?_|refine g_reg (id := 4) ?_|refine g_reg (id := 10) ?_|((refine g_cond rfl (fun hc => ?_) (fun hc => ?_)) <;> (try simp only [dcB] at hc) <;> (try first|contradiction|(exfalso;omega)))
    · have hi : i.toNat < ps.length := by omega
      have hx := (hpe _ (List.getElem_mem hi)).1
      have hx1 : ((ps[i.toNat]'hi).length : Int) ≤ 1048576 := by omega
      have hll := numL_len h2
      rw [List.length_take] at hll
      have hsn := numL_snoc (ps.take i.toNat) (ps[i.toNat]'hi)
      rw [← List.take_succ_eq_append_getElem hi,h2,Option.bind_some] at hsn
      simp only [List.getElem_map,Nat.mul_one]
      repeat' first|(apply p3;(exact pu1);exact rfl)|refine cdn ?_|refine g_reg (id := 5) ?_|(apply c4 0;exact callK1 (θ := []) (hD := (ReadDecimalG_ok (ps[i.toNat]'hi) hx1));exact rfl;exact rfl;exact rfl;refine dM ?_)
      cases hn : numS (ps[i.toNat]'hi) with
      | none =>
        rw [numL_none hi hn]
        simp only [Option.isSome_none,Option.getD_none]
        repeat' first|(apply n3;exact a_nilO eI rfl;exact rfl)|(apply p3;(exact pu1);exact rfl)|refine cd ?_
        repeat refine cr ?_
        refine ends_id ?_
        refine endK [?_] (h2 := ?_) (h3 := ?_) (nd := ?_)
        rotate_left 1
        all_goals (repeat' first|exact ce0|refine ce ?_|refine ce2 ?_ ?_|(refine Or.inr (bx_eq rfl rfl ?_);(try dsimp only [C.ren,C.ren.all]);(try exact rfl))|exact SVLe.refl|refine ceb ?_)
        all_goals first | exact (show nodupB _ = true from rfl) | exact Or.inr rfl | (rfl)
      | some n =>
        rw [hn,Option.map_some] at hsn
        simp only [Option.isSome_some,Option.getD_some]
        repeat' first|(apply n3;(exact a_litE eI [_] rfl rfl rfl rfl rfl rfl rfl rfl);exact rfl;refine dA ?_)|(apply p3;(first|exact pu1|exact a_add rfl rfl (by omega) (by omega));exact rfl)|refine cd ?_|(apply s3;exact a_appE (fP rfl) rfl rfl rfl rfl nowR (by (simp;omega)) (by decide) (by decide) (by exact rfl);exact rfl;exact rfl)
        refine q_again (i + 1,l ++ [n]) [0,4,2] (by exact stk) ?_ ?_
        · exact ⟨by dsimp only; omega,by dsimp only; omega,by dsimp only; rw [show (i + 1).toNat = i.toNat + 1 by omega,hsn]⟩
        · omega
    · rw [List.take_of_length_le (by omega)] at h2
      rw [h2]
      repeat refine cr ?_
      refine ends_id ?_
      refine endK [?_] (h2 := ?_) (h3 := ?_) (nd := ?_)
      rotate_left 1
      all_goals (repeat' first|exact ce0|refine ce ?_|refine ce2 ?_ ?_|(refine Or.inr (bx_eq rfl rfl ?_);(try dsimp only [C.ren,C.ren.all]);(try exact rfl))|exact SVLe.refl|refine ceb ?_)
      all_goals first | exact (show nodupB _ = true from rfl) | exact Or.inr rfl | (rfl)
theorem ReplaceAllB_ok (s : Bs) (c d : UInt8) (hs : (s.length : Int) ≤ 1048576) (hcd : c ≠ d) : Does Tryz.prog 114 [.one (str s),.one (str [c]),.one (str [d])] [] (.one (str (rpl c d s))) [] := by
  refine does_of (k := 0) Tryz.func114 rfl Tryz.ntmps114 rfl rfl fun w F0 S0 ρ0 => ?_
  dsimp only [argT,argH]
  repeat' first|(apply p3;exact pu1;exact rfl)|refine cd ?_|(apply c4 0;exact callK1 (θ := []) (hD := (ReplaceB_ok s c d hs hcd));exact rfl;exact rfl;exact rfl;refine dM ?_)
  repeat refine cr ?_
  refine ends_id ?_
  refine endK [] (h2 := ?_) (h3 := ?_) (nd := ?_)
  all_goals (repeat' first|exact ce0|refine ce ?_|refine ce2 ?_ ?_|exact SVLe.refl|refine ceb ?_)
  all_goals first | exact (show nodupB _ = true from rfl) | exact Or.inr rfl | (rfl)
@[irreducible] def dotS (s : Bs) : List Int := if s = [45] then [] else (numL (spl 44 (rpl 46 44 s))).getD [-1]
theorem readDotted_ok (s : Bs) (hs : (s.length : Int) ≤ 1048576) : Does Tryz.prog 84 [.one (str s)] [] (.one (.gv 0)) [roI (dotS s)] := by
  by_cases h : s = [45]
  · have e : dotS s = [] := by unfold dotS; rw [if_pos h]
    rw [e]
    subst h
    refine does_of (k := 0) Tryz.func84 rfl Tryz.ntmps84 rfl rfl fun w F0 S0 ρ0 => ?_
    dsimp only [argT,argH]
    repeat' first|(apply n3;exact a_nilO eI rfl;exact rfl)|(apply p3;(first|exact pu1|exact a_eqT rfl rfl);exact rfl)|refine cd ?_
    repeat refine cr ?_
    refine ends_id ?_
    refine endK [?_] (h2 := ?_) (h3 := ?_) (nd := ?_)
    rotate_left 1
    all_goals (repeat' first|exact ce0|refine ce ?_|refine ce2 ?_ ?_|(refine Or.inr (bx_eq rfl rfl ?_);(try dsimp only [C.ren,C.ren.all]);(try exact rfl))|exact SVLe.refl|refine ceb ?_)
    all_goals first | exact (show nodupB _ = true from rfl) | exact Or.inr rfl | (rfl)
  · have e : dotS s = (numL (spl 44 (rpl 46 44 s))).getD [-1] := by unfold dotS; rw [if_neg h]
    have hr : ((rpl 46 44 s).length : Int) ≤ 1048576 := by rw [rpl_len]; exact hs
    rw [e]
    refine does_of (k := 0) Tryz.func84 rfl Tryz.ntmps84 rfl rfl fun w F0 S0 ρ0 => ?_
    dsimp only [argT,argH]
    repeat' first|(apply n3;exact a_nilO eI rfl;exact rfl)|(apply p3;(first|exact pu1|exact a_eqT rfl rfl);exact rfl)|refine cdn ?_|refine g_reg (id := 0) ?_|refine g_reg (id := 1) ?_|refine g_reg (id := 3) ?_|(apply c4 0;exact callK1 (θ := []) (hD := (ReplaceAllB_ok s 46 44 hs (by decide)));exact rfl;exact rfl;exact rfl;refine dM ?_)|(apply c4 1;exact callK1 (θ := []) (hD := (ReadDecsG_ok (rpl 46 44 s) hr));exact rfl;exact rfl;exact rfl;refine dM ?_)|((refine g_cond rfl (fun hc => ?_) (fun hc => ?_)) <;> (try simp only [dcB] at hc) <;> (try first|contradiction|(exfalso;omega)))
    cases hn : numL (spl 44 (rpl 46 44 s)) with
    | none =>
      simp only [Option.isSome_none,Option.getD_none]
      repeat' first|(apply n3;exact a_litE eI [_] rfl rfl rfl rfl rfl rfl rfl rfl;exact rfl;refine dA ?_)|(apply p3;(exact pu1);exact rfl)|refine cd ?_
      repeat refine cr ?_
      refine ends_id ?_
      refine endK [?_] (h2 := ?_) (h3 := ?_) (nd := ?_)
      rotate_left 1
      all_goals (repeat' first|exact ce0|refine ce ?_|refine ce2 ?_ ?_|(refine Or.inr (bx_eq rfl rfl ?_);(try dsimp only [C.ren,C.ren.all]);(try exact rfl))|exact SVLe.refl|refine ceb ?_)
      all_goals first | exact (show nodupB _ = true from rfl) | exact Or.inr rfl | (rfl)
    | some w =>
      simp only [Option.isSome_some,Option.getD_some]
      repeat' first|(apply p3;(exact pu1);exact rfl)|refine cd ?_
      repeat refine cr ?_
      refine ends_id ?_
      refine endK [?_] (h2 := ?_) (h3 := ?_) (nd := ?_)
      rotate_left 1
      all_goals (repeat' first|exact ce0|refine ce ?_|refine ce2 ?_ ?_|(refine Or.inr (bx_eq rfl rfl ?_);(try dsimp only [C.ren,C.ren.all]);(try exact rfl))|exact SVLe.refl|refine ceb ?_)
      all_goals first | exact (show nodupB _ = true from rfl) | exact Or.inr rfl | (rfl)
theorem numL_map : ∀ {p : List Int},(∀ x ∈ p,0 ≤ x ∧ x ≤ 1000000000000) → numL (p.map decT) = some p
  | [],_ => rfl
  | n :: p,h => by
    have hn := h n (by simp)
    rw [List.map_cons,numL,numS_some.2 ⟨rfl,by omega,by omega⟩,Option.bind_some,numL_map (fun x hx => h x (by simp [hx]))]
    rfl
theorem join_mem {x : UInt8} : ∀ {l : List Bs},x ∈ joinT l [46] → x = 46 ∨ ∃ p ∈ l,x ∈ p
  | [],h => by unfold joinT at h; simp [Lib.join] at h
  | [a],h => by rw [join_one] at h; exact .inr ⟨a,by simp,h⟩
  | a :: b :: l,h => by
    rw [join_cons2,List.mem_append,List.mem_append] at h
    rcases h with h | h | h
    · exact .inr ⟨a,by simp,h⟩
    · exact .inl (by simpa using h)
    · rcases join_mem h with h | ⟨p,hp,h⟩
      · exact .inl h
      · exact .inr ⟨p,by simp only [List.mem_cons] at hp ⊢; exact .inr hp,h⟩
end Go.Proofs.YtbblkhjjgnpbaaaGreatDoor
end
section
set_option linter.unusedVariables false
set_option linter.unusedSimpArgs false
set_option maxRecDepth 100000
set_option maxHeartbeats 4000000
namespace Go.Proofs.YtbblkhjjgnpbaaaGreatDoor
open Go Foot Go.RowKit
theorem spl_joinH {c : UInt8} : ∀ {l : List Bs},l ≠ [] → (∀ p ∈ l,c ∉ p) → spl c (joinT l [c]) = l
  | [],h,_ => absurd rfl h
  | [a],_,h => by rw [join_one,spl_no (h a (by simp))]
  | a :: b :: l,_,h => by
    rw [join_cons2,List.singleton_append,spl_app (h a (by simp)),spl_joinH (by simp) (fun p hp => h p (by simp at hp ⊢; exact .inr hp))]
theorem join_memH {c x : UInt8} : ∀ {l : List Bs},x ∈ joinT l [c] → x = c ∨ ∃ p ∈ l,x ∈ p
  | [],h => by unfold joinT at h; simp [Lib.join] at h
  | [a],h => by rw [join_one] at h; exact .inr ⟨a,by simp,h⟩
  | a :: b :: l,h => by
    rw [join_cons2,List.mem_append,List.mem_append] at h
    rcases h with h | h | h
    · exact .inr ⟨a,by simp,h⟩
    · exact .inl (by simpa using h)
    · rcases join_memH h with h | ⟨p,hp,h⟩
      · exact .inl h
      · exact .inr ⟨p,by simp only [List.mem_cons] at hp ⊢; exact .inr hp,h⟩
theorem dotT_mem {l : List Int} (g : LtOk l) {c : UInt8} (h : c ∈ dotT l) : isDg c ∨ c = 46 ∨ c = 45 := by
  unfold dotT at h
  split at h
  · exact .inr (.inr (by simpa using h))
  · rcases join_mem h with q | ⟨p,hp,q⟩
    · exact .inr (.inl q)
    · obtain ⟨x,hx,rfl⟩ := List.mem_map.1 hp
      exact .inl (decT_dg (g.b x hx).1 c q)
theorem dotT_no {l : List Int} (g : LtOk l) : (44 : UInt8) ∉ dotT l ∧ (58 : UInt8) ∉ dotT l := by
  constructor <;>
  · intro h
    rcases dotT_mem g h with q | q | q
    · revert q; unfold isDg; decide
    · revert q; decide
    · revert q; decide
theorem dotS_dot {p : List Int} (g : LtOk p) : dotS (dotT p) = p := by
  have hb := g.b
  by_cases h0 : p = []
  · subst h0
    have e : dotT [] = [45] := by unfold dotT; rfl
    rw [e]
    unfold dotS; rfl
  · have hl : ¬ ((p.length : Int) = 0) := fun q => h0 (List.length_eq_zero_iff.1 (by omega))
    have e : dotT p = joinT (p.map decT) [46] := by unfold dotT; rw [if_neg hl]
    have hdg : ∀ q ∈ p.map decT,∀ c ∈ q,isDg c := fun q hq c hc => by
      obtain ⟨x,hx,rfl⟩ := List.mem_map.1 hq
      exact decT_dg (hb x hx).1 c hc
    have hno : ∀ q ∈ p.map decT,(46 : UInt8) ∉ q ∧ (44 : UInt8) ∉ q := fun q hq => by
      refine ⟨fun hc => ?_,fun hc => ?_⟩ <;> (have := hdg q hq _ hc; revert this; unfold isDg; decide)
    have hs := spl_join (l := p.map decT) (by simp [h0]) hno
    rw [← e] at hs
    have h45 : dotT p ≠ [45] := fun q => by
      rw [q] at hs
      have : (p.map decT) = [[45]] := by rw [← hs]; decide
      have := hdg [45] (by rw [this]; simp) 45 (by simp)
      revert this; unfold isDg; decide
    unfold dotS
    rw [if_neg h45,hs,numL_map hb]
    rfl
@[irreducible] def wosT (l : List (List Int)) : Bs := joinT (l.map dotT) [44]
@[irreducible] def tagT (t : Tg) : Bs := decT t.de ++ [58] ++ wosT t.wo ++ [58] ++ dotT t.ha
theorem wosT_spl {l : List (List Int)} (h0 : l ≠ []) (h : ∀ x ∈ l,LtOk x) : spl 44 (wosT l) = l.map dotT := by
  unfold wosT
  refine spl_joinH (by simpa using h0) fun p hp => ?_
  obtain ⟨x,hx,rfl⟩ := List.mem_map.1 hp
  exact (dotT_no (h x hx)).1
theorem wosT_no {l : List (List Int)} (h : ∀ x ∈ l,LtOk x) : (58 : UInt8) ∉ wosT l := by
  unfold wosT
  intro q
  rcases join_memH q with q | ⟨p,hp,q⟩
  · revert q; decide
  · obtain ⟨x,hx,rfl⟩ := List.mem_map.1 hp
    exact (dotT_no (h x hx)).2 q
theorem tagT_spl {t : Tg} (hd : 0 ≤ t.de) (hw : ∀ x ∈ t.wo,LtOk x) (hh : LtOk t.ha) : spl 58 (tagT t) = [decT t.de,wosT t.wo,dotT t.ha] := by
  have h1 : (58 : UInt8) ∉ decT t.de := fun q => by have := decT_dg hd 58 q; revert this; unfold isDg; decide
  unfold tagT
  have e : decT t.de ++ [58] ++ wosT t.wo ++ [58] ++ dotT t.ha = decT t.de ++ 58 :: (wosT t.wo ++ 58 :: dotT t.ha) := by simp
  rw [e,spl_app h1,spl_app (wosT_no hw),spl_no (dotT_no hh).2]
theorem dotT_le {l : List Int} (g : LtOk l) : ((dotT l).length : Int) ≤ 20 * l.length + 1 := by
  unfold dotT
  split
  · simp; omega
  · have := join_len (sep := 46) (k := 19) (l := l.map decT) fun p hp => by
      obtain ⟨x,hx,rfl⟩ := List.mem_map.1 hp
      have := g.b x hx
      exact dec_l19 (by omega) (by omega)
    rw [List.length_map] at this
    omega
structure TgSm (t : Tg) : Prop where
  v : vTag t = true
  n : t.wo.length ≤ 20
  w : ∀ x ∈ t.wo,x.length ≤ 20
  h : t.ha.length ≤ 20
theorem vTag_h {t : Tg} (h : vTag t = true) {x : Int} (hx : x ∈ t.ha) : 0 ≤ x ∧ x < t.wo.length := by
  unfold vTag at h
  simp only [Bool.and_eq_true] at h
  have := h.1.2.2
  unfold inAll at this
  have := List.all_eq_true.1 this x hx
  simp only [decide_eq_true_eq] at this
  omega
theorem sm_w {t : Tg} (g : TgSm t) : ∀ x ∈ t.wo,LtOk x := fun x hx => by
  have h1 := vTag_w g.v hx
  have h2 := g.w x hx
  have h3 := g.n
  exact lt_ok (by omega) fun y hy => by have := h1.2 y hy; omega
theorem sm_h {t : Tg} (g : TgSm t) : LtOk t.ha := by
  have h2 := g.h
  have h3 := g.n
  exact lt_ok (by omega) fun y hy => by have := vTag_h g.v hy; omega
theorem wosT_le {l : List (List Int)} (h : ∀ x ∈ l,LtOk x ∧ x.length ≤ 20) : ((wosT l).length : Int) ≤ 402 * l.length := by
  unfold wosT
  have := join_len (sep := 44) (k := 401) (l := l.map dotT) fun p hp => by
    obtain ⟨x,hx,rfl⟩ := List.mem_map.1 hp
    have h1 := dotT_le (h x hx).1
    have h2 := (h x hx).2
    omega
  rw [List.length_map] at this
  omega
theorem tagT_le {t : Tg} (g : TgSm t) : ((tagT t).length : Int) ≤ 20000 := by
  have hb := vTag_bd g.v
  have h1 := wosT_le (l := t.wo) fun x hx => ⟨sm_w g x hx,g.w x hx⟩
  have h2 := dotT_le (sm_h g)
  have h3 := dec_l19 (n := t.de) (by omega) (by omega)
  have h4 := g.n
  have h5 := g.h
  unfold tagT
  simp only [List.length_append,List.length_cons,List.length_nil]
  omega
end Go.Proofs.YtbblkhjjgnpbaaaGreatDoor
end
section
set_option linter.unusedVariables false
set_option linter.unusedSimpArgs false
set_option maxRecDepth 100000
set_option maxHeartbeats 4000000
namespace Go.Proofs.YtbblkhjjgnpbaaaGreatDoor
open Go Foot Go.RowKit
theorem preB155 {p : Prop} (h : p := by first | with_reducible assumption | omega | (simp only [List.length_append,List.length_cons,List.length_nil,List.length_set,List.length_replicate,List.length_take,List.length_drop,List.length_tail,List.length_dropLast,List.length_reverse] at *; omega) | exact mem_len (by assumption) (by omega) | (with_reducible refine Int.le_trans (Int.ofNat_le.2 (trimR_len _)) ?_; simp only [List.length_cons,List.length_tail]; omega) | (exact (ruAt_ok (by assumption) (by assumption) (by assumption)).2.1) | (exact (ruAt_ok (by assumption) (by assumption) (by assumption)).2.1) | (have := vMach_bd (by assumption); omega) | (simp only [mC_ch,mC_tu]; omega) | (have := vTag_bd (by assumption); omega) | (have := (‹Gd _ _›).le; omega) | (exact tgHalts_no (by assumption)) | (exact tgHead (by assumption) (by assumption) (by assumption)) | (exact Int.le_trans (tgStep_gd (by assumption) (by assumption) (by assumption) (by assumption)).le (by decide)) | (exact vTag_r (by assumption)) | (with_reducible refine Int.le_trans (Int.ofNat_le.2 (pushL_len _ _)) ?_; simp only [List.length_dropLast]; omega) | exact ls_at (by assumption) (by omega) | exact pt_gd (by assumption) | exact lv_at (by assumption) (by omega) | exact pt_gd (lv_at (by assumption) (by omega)) | exact (ask_ok (by assumption)).1 | exact (ask_ok (by assumption)).2.1 | exact (ask_ok (by assumption)).2.2.1 | exact (ask_ok (by assumption)).2.2.2 | trivial) : p := h
theorem wordsText_ok (l : List (List Int)) (hl : (l.length : Int) ≤ 1000) (hb : ∀ x ∈ l,LtOk x ∧ x.length ≤ 20) : Does Tryz.prog 88 [.one (shW l)] [] (.one (str (wosT l))) [] := by
  have hj := wosT_le hb
  have eT : wosT l = joinT (l.map dotT) [44] := by unfold wosT; rfl
  rw [eT] at hj ⊢
  have hg : ∀ (i : Nat) (h : i < l.length),LtOk l[i] := fun i h => (hb _ (List.getElem_mem h)).1
  refine does_of (k := 0) Tryz.func88 rfl Tryz.ntmps88 rfl rfl fun w F0 S0 ρ0 => ?_
  dsimp only [argT,argH]
  repeat' first|(apply n3;(exact a_litE eS [] rfl rfl rfl rfl rfl rfl rfl rfl);exact rfl;refine dA ?_)|(apply p3;(first|exact pu1|exact puN);exact rfl)|refine cd ?_
  refine g_loop_id ?_
  refine loopK [2,3,7,8] [0] (fun y : Int × List Bs => 0 ≤ y.1 ∧ y.1 ≤ l.length ∧ y.2 = (l.take y.1.toNat).map dotT) (fun y => [(9,.one (int y.1))]) (fun y => [(0,.row 1 (rows eS y.2))]) (fun y => (l.length - y.1).toNat) ((0 : Int),[]) [0] (hI := ?_) (hr := ?_)
  · exact ⟨by simp,by simp,by simp⟩
  · rintro ⟨i,ts⟩ ⟨j0,j1,j2⟩
    dsimp only [List.cons_append,List.nil_append] at *
    skip
    have jl : (ts.length : Int) ≤ 1048576 := by rw [j2,List.length_map,List.length_take]; omega
    repeat' first|(apply p3;(first|exact pu1|exact puC|exact puI);exact rfl)|refine cdn ?_|refine g_reg (id := 3) ?_|refine g_reg (id := 4) ?_|((refine g_cond rfl (fun hc => ?_) (fun hc => ?_)) <;> (try simp only [dcB] at hc) <;> (try first|contradiction|(exfalso;omega)))
    · have := hg i.toNat (by omega)
      repeat' first|(apply n3;(exact a_litE eS [_] rfl rfl rfl rfl rfl rfl rfl rfl);exact rfl;refine dA ?_)|(apply p3;(first|exact pu1|exact a_add rfl rfl (by omega) (by omega));exact rfl)|refine cd ?_|(apply s3;exact a_appE (fP rfl) rfl rfl rfl rfl nowR (by (simp;omega)) (by decide) (by decide) (by exact rfl);exact rfl;exact rfl)|(apply c4 0;exact callK1 (θ := []) (hD := (dottedG_ok _ preB155));exact rfl;exact rfl;exact rfl;refine dM ?_)
      refine q_again (i + 1,_) [2] (by exact stk) ?_ ?_
      · dsimp only
        exact ⟨by omega,by omega,by rw [j2,map_take_s dotT j0 hc]⟩
      · dsimp only; omega
    · have e : ts = l.map dotT := by rw [j2,List.take_of_length_le (by omega)]
      rw [← e] at hj ⊢
      repeat' first|(apply p3;(exact pu1);exact rfl)|refine cd ?_|(apply c4 0;exact callK1 (θ := []) (hD := (Join_ok _ _ preB155 preB155));exact rfl;exact rfl;exact rfl;refine dM ?_)
      repeat refine cr ?_
      refine ends_id ?_
      refine endK [] (h2 := ?_) (h3 := ?_) (nd := ?_)
      all_goals (repeat' first|exact ce0|refine ce ?_|refine ce2 ?_ ?_|exact SVLe.refl|refine ceb ?_)
      all_goals first | exact (show nodupB _ = true from rfl) | exact Or.inr rfl | (rfl)
theorem TagText_ok (t : Tg) (g : TgSm t) : Does Tryz.prog 20 [.agg (tgC t)] [] (.one (str (tagT t))) [] := by
  have hv := g.v
  have hb := vTag_bd hv
  have h1 := g.n
  have h2 := g.h
  have h3 : ∀ x ∈ t.wo,(x.length : Int) ≤ 16777216 := fun x hx => by have := g.w x hx; omega
  have h4 := sm_h g
  have h5 : ∀ x ∈ t.wo,LtOk x ∧ x.length ≤ 20 := fun x hx => ⟨sm_w g x hx,g.w x hx⟩
  have h6 := tagT_le g
  have e : tagT t = decT t.de ++ [58] ++ wosT t.wo ++ [58] ++ dotT t.ha := by unfold tagT; rfl
  rw [e] at h6 ⊢
  have kv : ¬ vTag t = false := by simp [hv]
  have l0 := dec_le (n := t.de) (by omega) (by omega)
  have l1 : ((decT t.de ++ [58]).length : Int) = (decT t.de).length + 1 := by simp
  have l2 : ((decT t.de ++ [58] ++ wosT t.wo).length : Int) = (decT t.de).length + 1 + (wosT t.wo).length := by simp; omega
  have l3 : ((decT t.de ++ [58] ++ wosT t.wo ++ [58]).length : Int) = (decT t.de).length + 1 + (wosT t.wo).length + 1 := by simp; omega
  have l4 := wosT_le h5
  have l5 := dotT_le h4
  refine does_of (k := 0) Tryz.func20 rfl Tryz.ntmps20 rfl rfl fun w F0 S0 ρ0 => ?_
  dsimp only [argT,argH]
  repeat' first|(apply n3;exact a_new (gb := .bx _) rfl;exact rfl;refine dA ?_)|(apply p3;(exact pu1);exact rfl)|refine cdn ?_|refine g_reg (id := 0) ?_|refine g_reg (id := 1) ?_|(apply c4 0;exact callK1 (θ := []) (hD := (ValidTag_ok _ preB155 preB155 preB155));exact rfl;exact rfl;exact rfl;refine dM ?_)|((refine g_cond rfl (fun hc => ?_) (fun hc => ?_)) <;> (try simp only [dcB] at hc) <;> (try first|contradiction|(exfalso;omega)))
  first | refine g_turn (t_frzB (d := 1) (i := 0) rfl rfl rfl) ?_ | refine o_turn (t_frzB (d := 1) (i := 0) rfl rfl rfl) ?_
  repeat' first|refine cd ?_|(apply g_drN (id := 3) okM [[],[0],[0,1],[0,1,2],[],[4],[0,1,2,4,5],[0,1,2,3,4,5,6],[0,1,2,3,4,5,6,7],[],[9],[0,1,2,4,5,6,9,10],[0,1,2,3,4,5,6,7,8,9,10,11],[0,1,2,3,4,5,6,7,8,9,10,11,12]] [([],[]),([],[]),([],[]),([],[]),([],[]),([],[]),([],[]),([],[]),([],[]),([],[]),([],[]),([],[]),([],[]),([],[])] 0;(focus (refine dp 0 0 [10,11,15,16] [] (a_pure (sv := .one _) rfl) ?_;refine dp 1 1 [10,11,15,16] [] puL ?_;refine dp 2 3 [10,11,15,16] [] (callD1 (n := _) 0 (θ := []) (hD := (Decimal_ok _ preB155 preB155))) ?_;refine dp 3 7 [10,11,12,15,16,17] [] (a_addS rfl rfl (by (simp only [List.length_append,List.length_cons,List.length_nil];omega))) ?_;refine dp 4 0 [6,7,8,9,15,16] [] (a_pure (sv := .one _) rfl) ?_;refine dp 5 1 [6,7,8,9,15,16] [] puL ?_;refine dp 6 59 [9,15,16] [] (callD1 (n := _) 0 (θ := []) (hD := (wordsText_ok t.wo (by omega) h5))) ?_;refine dp 7 127 [15,16,17] [] (a_addS rfl rfl (by omega)) ?_;refine dp 8 255 [15,16,17] [] (a_addS rfl rfl (by (simp only [List.length_append,List.length_cons,List.length_nil];omega))) ?_;refine dp 9 0 [6,7,8,9,10,11,12,13,14] [] (a_pure (sv := .one _) rfl) ?_;refine dp 10 1 [6,7,8,9,10,11,12,13,14] [] puL ?_;refine dp 11 1907 [9,13,14] [] (callD1 (n := _) 0 (θ := []) (hD := (dottedG_ok t.ha h4))) ?_;refine dp 12 4095 [] [] (a_addS rfl rfl (by omega)) ?_;refine dp 13 8191 [] [] pu1 ?_;(refine d_nil ?_;refine dN ?_)));any_goals kernel_rfl)
  repeat refine cr ?_
  refine ends_id ?_
  refine endK [] (h2 := ?_) (h3 := ?_) (nd := ?_)
  all_goals (repeat' first|exact ce0|refine ce ?_|refine ce2 ?_ ?_|exact SVLe.refl|refine ceb ?_)
  all_goals first | exact (show nodupB _ = true from rfl) | exact Or.inr rfl | (rfl)
theorem readDottedT_ok (p : List Int) (g : LtOk p) : Does Tryz.prog 84 [.one (str (dotT p))] [] (.one (.gv 0)) [roI p] := by
  have l5 := dotT_le g
  have := g.n
  have h := readDotted_ok (dotT p) (by omega)
  rw [dotS_dot g] at h
  exact h
theorem readWords_ok (l : List (List Int)) (hl : (l.length : Int) ≤ 1000) (h0 : l ≠ []) (hb : ∀ x ∈ l,LtOk x ∧ x.length ≤ 20) : Does Tryz.prog 83 [.one (str (wosT l))] [] (.one (.gv 0)) [roW l] := by
  have hj := wosT_le hb
  have hs := wosT_spl h0 fun x hx => (hb x hx).1
  have hz : ((wosT l).length : Int) ≤ 1048576 := by omega
  have hm : (l.map dotT).length = l.length := by rw [List.length_map]
  refine does_of (k := 0) Tryz.func83 rfl Tryz.ntmps83 rfl rfl fun w F0 S0 ρ0 => ?_
  dsimp only [argT,argH]
  repeat' first|(apply n3;exact a_litE eW [] rfl rfl rfl rfl rfl rfl rfl rfl;exact rfl;refine dA ?_)|(apply p3;(first|exact pu1|exact puN);exact rfl)|refine cdn ?_|refine g_reg (id := 0) ?_|refine g_reg (id := 1) ?_|refine g_reg (id := 2) ?_|(apply c4 1;exact callK1 (θ := []) (hD := (Split_ok (wosT l) 44 hz));exact rfl;exact rfl;exact rfl;refine dM ?_)
  rw [hs]
  refine g_loop_id ?_
  refine loopK [2,8,9] [0] (fun y : Int × List (List Int) => 0 ≤ y.1 ∧ y.1 ≤ l.length ∧ y.2 = l.take y.1.toNat) (fun y => [(10,.one (int y.1)),(3,.one (.gv 0))]) (fun y => [(0,roW y.2)]) (fun y => (l.length - y.1).toNat) ((0 : Int),([] : List (List Int))) [0,1] (hI := ?_) (hr := ?_)
  · exact ⟨by simp,by simp,by simp⟩
  · rintro ⟨i,ws⟩ ⟨j0,j1,j2⟩
    dsimp only [List.cons_append,List.nil_append] at *
    skip
    have jl : (ws.length : Int) ≤ 1048576 := by rw [j2,List.length_take]; omega
    repeat' first|(apply p3;(first|exact pu1|exact puC|exact a_ld_rowS rfl rfl rfl (fC rfl) bnd|exact puI);exact rfl)|refine cdn ?_|refine g_reg (id := 3) ?_|refine g_reg (id := 4) ?_|refine g_reg (id := 7) ?_|((refine g_cond rfl (fun hc => ?_) (fun hc => ?_)) <;> (try simp only [dcB] at hc) <;> (try first|contradiction|(exfalso;omega)))
    · have hi : i.toNat < l.length := by omega
      have gl := (hb _ (List.getElem_mem hi)).1
      simp only [List.getElem_map,Nat.mul_one]
      repeat' first|(apply n3;(exact a_litE eW [_] rfl rfl rfl rfl rfl rfl rfl rfl);exact rfl;refine dA ?_)|(apply p3;(first|exact pu1|exact a_add rfl rfl (by omega) (by omega));exact rfl)|refine cd ?_|(apply s3;exact a_appE (fP rfl) rfl rfl rfl rfl nowR (by (simp;omega)) (by decide) (by decide) (by exact rfl);exact rfl;exact rfl)|(apply c4 0;exact callF (hD := (readDottedT_ok (l[i.toNat]'hi) gl));exact rfl;exact rfl;exact rfl;refine dM ?_)
      refine q_again (i + 1,ws ++ [l[i.toNat]'hi]) [3,1] (by exact stk) ?_ ?_
      · dsimp only
        exact ⟨by omega,by omega,by rw [j2,show (i + 1).toNat = i.toNat + 1 by omega,List.take_succ_eq_append_getElem hi]⟩
      · dsimp only; omega
    · have e : ws = l := by rw [j2,List.take_of_length_le (by omega)]
      rw [← e]
      repeat refine cr ?_
      refine ends_id ?_
      refine endK [?_] (h2 := ?_) (h3 := ?_) (nd := ?_)
      rotate_left 1
      all_goals (repeat' first|exact ce0|refine ce ?_|refine ce2 ?_ ?_|exact SVLe.refl|refine ceb ?_)
      all_goals first | exact (show nodupB _ = true from rfl) | exact Or.inr rfl | (rfl)
theorem ReadTag_ok (t : Tg) (g : TgSm t) : Does Tryz.prog 19 [.one (str (tagT t))] [] (.tup [(true,[int t.de,.gv 0,.gv 1]),(false,[boo true])]) [roW t.wo,roI t.ha] := by
  have hv := g.v
  have hb := vTag_bd hv
  have h1 := g.n
  have h2 := g.h
  have h3 : ∀ x ∈ t.wo,(x.length : Int) ≤ 16777216 := fun x hx => by have := g.w x hx; omega
  have h4 := sm_h g
  have h5 : ∀ x ∈ t.wo,LtOk x ∧ x.length ≤ 20 := fun x hx => ⟨sm_w g x hx,g.w x hx⟩
  have h6 := tagT_le g
  have hz : ((tagT t).length : Int) ≤ 1048576 := by omega
  have hs := tagT_spl (t := t) (by omega) (fun x hx => (h5 x hx).1) h4
  have hne : t.wo ≠ [] := fun e => by rw [e] at hb; simp at hb
  refine does_of (k := 0) Tryz.func19 rfl Tryz.ntmps19 rfl rfl fun w F0 S0 ρ0 => ?_
  dsimp only [argT,argH]
  repeat' first|(apply n3;exact a_new (gb := .bx _) rfl;exact rfl;refine dA ?_)|(apply p3;exact pu1;exact rfl)|refine cdn ?_|refine g_reg (id := 0) ?_|refine g_reg (id := 1) ?_|(apply c4 1;exact callK1 (θ := []) (hD := (Split_ok (tagT t) 58 hz));exact rfl;exact rfl;exact rfl;refine dM ?_)
  rw [hs]
  first | refine g_turn (t_frzR (d := 4) (i := 1) rfl rfl shutR) ?_ | refine o_turn (t_frzR (d := 4) (i := 1) rfl rfl shutR) ?_
  repeat' first|(apply p3;(first|exact pu1|exact puN|exact a_ne rfl rfl|exact puI);exact rfl)|refine cdn ?_|refine g_reg (id := 2) ?_|refine g_reg (id := 5) ?_|(apply w3;(exact a_st_bx rfl rfl rfl rfl (fN rfl rfl) (Nat.le_of_ble_eq_true rfl) rfl);exact rfl;refine dS ?_)|(apply c4 0;exact callK1 (θ := []) (hD := (ReadDecimal_ok t.de (by omega) (by omega)));exact rfl;exact rfl;exact rfl;refine dM ?_)|(apply g_drN (id := 4) okM [[],[0],[0,1],[0,1,2],[],[4],[4,5],[0,1,2,3,4,5,6],[0,1,2,3,4,5,6,7],[],[0,1,2,3,4,5,6,7,8,9]] [([],[]),([],[]),([],[]),([0],[]),([],[]),([],[]),([],[]),([1],[]),([],[]),([2],[]),([],[4])] 3;(focus (refine dp 0 0 [16,17,18,5] [(true,2)] pu1 ?_;refine dp 1 1 [16,17,18,5] [(true,2)] puI ?_;refine dp 2 3 [16,17,18,5] [(true,2)] (by exact a_pure (sv := .one _) rfl) ?_;refine duN 3 7 [16,17,18,5] [(true,2)] (callD0 (n := _) 0 (θ := []) (hD := (readWords_ok t.wo (by omega) hne h5))) (by exact rfl) (by exact rfl) ?_;refine dp 4 0 [12,13,14,15,5] [(true,0),(true,2)] pu1 ?_;refine dp 5 1 [12,13,14,15,5] [(true,0),(true,2)] puI ?_;refine dp 6 3 [12,13,14,15,5] [(true,0),(true,2)] (by exact a_pure (sv := .one _) rfl) ?_;refine duN 7 127 [5] [(true,2)] (callD1 (n := _) 1 (θ := []) (hD := (readDottedT_ok t.ha h4))) (by exact rfl) (by exact rfl) ?_;refine dp 8 255 [5] [(true,2)] (a_pure (sv := .agg _) rfl) ?_;refine duE 9 0 [12,13,14,15,16,17,18,19,20] [(true,0),(true,1)] (atN 2 (fun _ => a_new (gb := .bx _) rfl)) (by exact rfl) (by exact rfl) ?_;refine duE 10 1023 [] [] (a_st_bx rfl rfl rfl rfl (fN rfl rfl) (Nat.le_of_ble_eq_true rfl) rfl) (by exact rfl) (by exact rfl) ?_;(refine d_nil ?_;refine dN ?_)));any_goals kernel_rfl)
  simp only [setRow,scC,List.map_cons,List.map_nil,List.set_cons_zero,List.set_cons_succ,Nat.zero_add,List.getElem?_cons_zero,List.getElem?_cons_succ,List.take_succ_cons,List.take_zero,List.drop_zero,List.cons_append,List.nil_append,List.drop_succ_cons,List.drop_nil,List.append_nil,List.append_eq]
  have kv : ¬ vTag t = false := by simp [hv]
  repeat' first|(apply p3;(exact pu1);exact rfl)|refine cd ?_|(apply w3;(exact a_st_bx rfl rfl rfl rfl (fN rfl rfl) (Nat.le_of_ble_eq_true rfl) rfl);exact rfl;refine dS ?_)|(apply c4 0;exact callK1 (θ := []) (hD := (ValidTag_ok _ preB155 preB155 preB155));exact rfl;exact rfl;exact rfl;refine dM ?_)|(apply py3;exact rfl;exact rfl;(first|exact pu1|exact a_neT rfl rfl);exact rfl;exact rfl)|(apply cy4 0;exact rfl;exact rfl;exact callK1 (θ := []) (hD := (TagText_ok t g));exact rfl;exact rfl;exact rfl;exact rfl;refine dM ?_)|((first|refine o_gs rfl rfl (fun hc => ?_) (fun hc => ?_)|refine g_cond rfl (fun hc => ?_) (fun hc => ?_)) <;> (try simp only [dcB] at hc) <;> (try first|contradiction|(exfalso;omega)))
  simp only [setRow,scC,List.map_cons,List.map_nil,List.set_cons_zero,List.set_cons_succ,Nat.zero_add,List.getElem?_cons_zero,List.getElem?_cons_succ,List.take_succ_cons,List.take_zero,List.drop_zero,List.cons_append,List.nil_append,List.drop_succ_cons,List.drop_nil,List.append_nil,List.append_eq]
  repeat refine cr ?_
  refine ends_id ?_
  refine endK [?_,?_] (h2 := ?_) (h3 := ?_) (nd := ?_)
  rotate_left 2
  all_goals (repeat' first|exact ce0|refine ce ?_|refine ce2 ?_ ?_|exact SVLe.refl|refine ceb ?_)
  all_goals first | exact (show nodupB _ = true from rfl) | exact Or.inr rfl | (rfl)
end Go.Proofs.YtbblkhjjgnpbaaaGreatDoor
end
section
set_option linter.unusedVariables false
set_option linter.unusedSimpArgs false
set_option maxRecDepth 100000
set_option maxHeartbeats 4000000
namespace Go.Proofs.YtbblkhjjgnpbaaaGreatDoor
open Go Foot
def drF (m : Int) : Nat → Src → List Int → List Int × Src
  | 0,s,r => (r,s)
  | n + 1,s,r => drF m n (pkS s m) (r ++ [pkV s m])
@[irreducible] def drO (m : Int) (s : Src) (n : Int) : List Int × Src := drF m n.toNat s []
theorem drF_pl (m : Int) : ∀ (n : Nat) (s : Src) (r : List Int),s.pl ≤ (drF m n s r).2.pl ∧ (drF m n s r).2.pl ≤ s.pl + 2 * n
  | 0,s,r => by simp [drF]
  | n + 1,s,r => by
    have h1 := drF_pl m n (pkS s m) (r ++ [pkV s m])
    have h2 := pkS_pl s m
    rw [drF]
    omega
theorem drF_ok {m : Int} (hm : 1 ≤ m) : ∀ (n : Nat) (s : Src) (r : List Int),SrOk s → s.pl + 2 * n ≤ 999999999999999900 → (∀ x ∈ r,0 ≤ x ∧ x < m) → SrOk (drF m n s r).2 ∧ (∀ x ∈ (drF m n s r).1,0 ≤ x ∧ x < m) ∧ (drF m n s r).1.length = r.length + n
  | 0,s,r,g,_,h => ⟨g,h,rfl⟩
  | n + 1,s,r,g,hp,h => by
    have k := pkS_pl s m
    have b := pkV_bd (n := m) g hm
    rw [drF]
    have := drF_ok hm n (pkS s m) (r ++ [pkV s m]) (sr_pick g (by omega)) (by omega) fun x hx => by
      rcases List.mem_append.1 hx with hx | hx
      · exact h x hx
      · rw [List.mem_singleton.1 hx]; exact b
    exact ⟨this.1,this.2.1,by rw [this.2.2]; simp; omega⟩
structure DrOk (m : Int) (s : Src) (n : Int) : Prop where
  src : SrOk (drO m s n).2
  lo : s.pl ≤ (drO m s n).2.pl
  hi : (drO m s n).2.pl ≤ s.pl + 2 * n
  len : ((drO m s n).1.length : Int) = n
  ok : ∀ x ∈ (drO m s n).1,0 ≤ x ∧ x < m
theorem drO_ok {m : Int} {s : Src} {n : Int} (hm : 1 ≤ m) (g : SrOk s) (h : s.pl ≤ 100000000000000000) (h1 : 0 ≤ n) (h2 : n ≤ 100) : DrOk m s n := by
  have k1 := drF_ok hm n.toNat s [] g (by omega) (by simp)
  have k2 := drF_pl m n.toNat s []
  have e : drF m n.toNat s [] = drO m s n := by unfold drO; rfl
  rw [e] at k1 k2
  rw [List.length_nil] at k1
  exact ⟨k1.1,k2.1,by omega,by omega,k1.2.1⟩
@[irreducible] def dl1 (m : Int) (s : Src) : List Int × Src := drO m (pkS s 4) (pkV s 4)
def dlF (m : Int) : Nat → Src → List (List Int) → List (List Int) × Src
  | 0,s,r => (r,s)
  | n + 1,s,r => dlF m n (dl1 m s).2 (r ++ [(dl1 m s).1])
@[irreducible] def dlO (m : Int) (s : Src) (n : Int) : List (List Int) × Src := dlF m n.toNat s []
structure D1Ok (m : Int) (s : Src) : Prop where
  src : SrOk (dl1 m s).2
  lo : s.pl ≤ (dl1 m s).2.pl
  hi : (dl1 m s).2.pl ≤ s.pl + 8
  len : (dl1 m s).1.length ≤ 3
  ok : ∀ x ∈ (dl1 m s).1,0 ≤ x ∧ x < m
theorem dl1_ok {m : Int} {s : Src} (hm : 1 ≤ m) (g : SrOk s) (h : s.pl ≤ 90000000000000000) : D1Ok m s := by
  have k := pkS_pl s 4
  have b := pkV_bd (n := 4) g (by omega)
  have d := drO_ok (n := pkV s 4) hm (sr_pick (n := 4) g (by omega)) (by omega) (by omega) (by omega)
  have e : drO m (pkS s 4) (pkV s 4) = dl1 m s := by unfold dl1; rfl
  obtain ⟨d1,d2,d3,d4,d5⟩ := d
  rw [e] at d1 d2 d3 d4 d5
  exact ⟨d1,by omega,by omega,by omega,d5⟩
theorem dlF_ok {m : Int} (hm : 1 ≤ m) : ∀ (n : Nat) (s : Src) (r : List (List Int)),SrOk s → s.pl + 8 * n ≤ 90000000000000000 → (∀ x ∈ r,x.length ≤ 3 ∧ ∀ y ∈ x,0 ≤ y ∧ y < m) → SrOk (dlF m n s r).2 ∧ (∀ x ∈ (dlF m n s r).1,x.length ≤ 3 ∧ ∀ y ∈ x,0 ≤ y ∧ y < m) ∧ (dlF m n s r).1.length = r.length + n ∧ s.pl ≤ (dlF m n s r).2.pl ∧ (dlF m n s r).2.pl ≤ s.pl + 8 * n
  | 0,s,r,g,_,h => ⟨g,h,rfl,by simp [dlF],by simp [dlF]⟩
  | n + 1,s,r,g,hp,h => by
    have k := dl1_ok hm g (by omega)
    have k2 := k.lo
    have k3 := k.hi
    rw [dlF]
    have := dlF_ok hm n (dl1 m s).2 (r ++ [(dl1 m s).1]) k.src (by omega) fun x hx => by
      rcases List.mem_append.1 hx with hx | hx
      · exact h x hx
      · rw [List.mem_singleton.1 hx]; exact ⟨k.len,k.ok⟩
    exact ⟨this.1,this.2.1,by rw [this.2.2.1]; simp; omega,by omega,by omega⟩
structure DlOk (m : Int) (s : Src) (n : Int) : Prop where
  src : SrOk (dlO m s n).2
  lo : s.pl ≤ (dlO m s n).2.pl
  hi : (dlO m s n).2.pl ≤ s.pl + 8 * n
  len : ((dlO m s n).1.length : Int) = n
  ok : ∀ x ∈ (dlO m s n).1,x.length ≤ 3 ∧ ∀ y ∈ x,0 ≤ y ∧ y < m
theorem dlO_ok {m : Int} {s : Src} {n : Int} (hm : 1 ≤ m) (g : SrOk s) (h : s.pl ≤ 10000000000000000) (h1 : 0 ≤ n) (h2 : n ≤ 100) : DlOk m s n := by
  have k1 := dlF_ok hm n.toNat s [] g (by omega) (by simp)
  have e : dlF m n.toNat s [] = dlO m s n := by unfold dlO; rfl
  rw [e] at k1
  rw [List.length_nil] at k1
  exact ⟨k1.1,k1.2.2.2.1,by omega,by omega,k1.2.1⟩
@[irreducible] def r1S (s : Src) : Src := pkS s 4
@[irreducible] def r1N (s : Src) : Int := 1 + pkV s 4
@[irreducible] def r1D (s : Src) : Int := 1 + pkV (r1S s) 3
@[irreducible] def r2S (s : Src) : Src := pkS (r1S s) 3
@[irreducible] def r3W (s : Src) : List (List Int) := (dlO (r1N s) (r2S s) (r1N s)).1
@[irreducible] def r3S (s : Src) : Src := (dlO (r1N s) (r2S s) (r1N s)).2
@[irreducible] def r4S (s : Src) : Src := pkS (r3S s) 2
@[irreducible] def r4B (s : Src) : Bool := decide (pkV (r3S s) 2 = 0)
@[irreducible] def r5H (s : Src) : List Int := bif r4B s then [pkV (r4S s) (r1N s)] else []
@[irreducible] def r5S (s : Src) : Src := bif r4B s then pkS (r4S s) (r1N s) else r4S s
@[irreducible] def r6K (s : Src) : Int := pkV (r5S s) 8
@[irreducible] def r6S (s : Src) : Src := pkS (r5S s) 8
@[irreducible] def r7Q (s : Src) : List Int := (drO (r1N s) (r6S s) (r6K s)).1
@[irreducible] def r7T (s : Src) : Tg := ⟨r1D s,r3W s,r5H s⟩
structure RtOk (s : Src) : Prop where
  g1 : SrOk (r1S s)
  p1 : (r1S s).pl ≤ s.pl + 2
  n : 1 ≤ r1N s ∧ r1N s ≤ 4
  d : 1 ≤ r1D s ∧ r1D s ≤ 3
  g2 : SrOk (r2S s)
  p2 : (r2S s).pl ≤ s.pl + 4
  w : DlOk (r1N s) (r2S s) (r1N s)
  g3 : SrOk (r3S s)
  p3 : (r3S s).pl ≤ s.pl + 100
  g4 : SrOk (r4S s)
  p4 : (r4S s).pl ≤ s.pl + 102
  h : (r5H s).length ≤ 1 ∧ ∀ x ∈ r5H s,0 ≤ x ∧ x < r1N s
  g5 : SrOk (r5S s)
  p5 : (r5S s).pl ≤ s.pl + 104
  k : 0 ≤ r6K s ∧ r6K s ≤ 7
  g6 : SrOk (r6S s)
  p6 : (r6S s).pl ≤ s.pl + 106
  q : DrOk (r1N s) (r6S s) (r6K s)
theorem rt_ok {s : Src} (g : SrOk s) (h : s.pl ≤ 1000000) : RtOk s := by
  have a1 := pkS_pl s 4
  have a2 := sr_pick (n := 4) g (by omega)
  have a3 := pkV_bd (n := 4) g (by omega)
  have e1 : pkS s 4 = r1S s := by unfold r1S; rfl
  have e2 : 1 + pkV s 4 = r1N s := by unfold r1N; rfl
  rw [e1] at a1 a2
  have b1 := pkS_pl (r1S s) 3
  have b2 := sr_pick (n := 3) a2 (by omega)
  have b3 := pkV_bd (n := 3) a2 (by omega)
  have e3 : pkS (r1S s) 3 = r2S s := by unfold r2S; rfl
  have e4 : 1 + pkV (r1S s) 3 = r1D s := by unfold r1D; rfl
  rw [e3] at b1 b2
  have c := dlO_ok (m := r1N s) (s := r2S s) (n := r1N s) (by omega) b2 (by omega) (by omega) (by omega)
  have c1 := c.src
  have c2 := c.hi
  have e5 : (dlO (r1N s) (r2S s) (r1N s)).2 = r3S s := by unfold r3S; rfl
  rw [e5] at c1 c2
  have d1 := pkS_pl (r3S s) 2
  have d2 := sr_pick (n := 2) c1 (by omega)
  have e6 : pkS (r3S s) 2 = r4S s := by unfold r4S; rfl
  rw [e6] at d1 d2
  have f1 := pkS_pl (r4S s) (r1N s)
  have f2 := sr_pick (n := r1N s) d2 (by omega)
  have f3 := pkV_bd (n := r1N s) d2 (by omega)
  have i1 : (r5H s).length ≤ 1 ∧ ∀ x ∈ r5H s,0 ≤ x ∧ x < r1N s := by
    unfold r5H
    cases r4B s with
    | true => exact ⟨Nat.le_refl _,fun x hx => by rw [cond_true] at hx; rw [List.mem_singleton.1 hx]; exact f3⟩
    | false => exact ⟨Nat.zero_le _,fun x hx => by rw [cond_false] at hx; cases hx⟩
  have i2 : SrOk (r5S s) ∧ (r5S s).pl ≤ (r4S s).pl + 2 := by
    unfold r5S
    cases r4B s with
    | true => exact ⟨f2,f1.2⟩
    | false => exact ⟨d2,by rw [cond_false]; omega⟩
  have j1 := pkS_pl (r5S s) 8
  have j2 := sr_pick (n := 8) i2.1 (by omega)
  have j3 := pkV_bd (n := 8) i2.1 (by omega)
  have e7 : pkS (r5S s) 8 = r6S s := by unfold r6S; rfl
  have e8 : pkV (r5S s) 8 = r6K s := by unfold r6K; rfl
  rw [e7] at j1 j2
  rw [e8] at j3
  have m := drO_ok (m := r1N s) (s := r6S s) (n := r6K s) (by omega) j2 (by omega) (by omega) (by omega)
  exact ⟨a2,by omega,by omega,by omega,b2,by omega,c,c1,by omega,d2,by omega,i1,i2.1,by omega,by omega,j2,by omega,m⟩
theorem rises_1 {l : List Int} (h : l.length ≤ 1) : risesL l = true := by
  unfold risesL
  rw [List.all_eq_true]
  intro x hx
  rw [List.mem_range] at hx
  omega
theorem rt_v {s : Src} (g : RtOk s) : vTag (r7T s) = true ∧ Gd (r7T s) (r7Q s) ∧ (r7Q s).length ≤ 7 ∧ (∀ x ∈ (r7T s).wo,x.length ≤ 3) ∧ TgSm (r7T s) := by
  have hw := g.w
  have hq := g.q
  have hn := g.n
  have e1 : (dlO (r1N s) (r2S s) (r1N s)).1 = r3W s := by unfold r3W; rfl
  have e2 : (drO (r1N s) (r6S s) (r6K s)).1 = r7Q s := by unfold r7Q; rfl
  have w1 := hw.len
  have w2 := hw.ok
  have q1 := hq.len
  have q2 := hq.ok
  rw [e1] at w1 w2
  rw [e2] at q1 q2
  have hk := g.k
  have hd := g.d
  have hh := g.h
  have hv : vTag (r7T s) = true := by
    unfold vTag r7T
    simp only [w1,Bool.and_eq_true,decide_eq_true_eq]
    refine ⟨⟨⟨by omega,by omega⟩,rises_1 hh.1,?_⟩,?_⟩
    · unfold inAll
      rw [List.all_eq_true]
      intro x hx
      have := hh.2 x hx
      rw [decide_eq_true_eq]
      omega
    · rw [List.all_eq_true]
      intro x hx
      have h1 := w2 x hx
      unfold tgWord inAll
      rw [Bool.and_eq_true,List.all_eq_true,decide_eq_true_eq]
      exact ⟨fun y hy => by have := h1.2 y hy; rw [decide_eq_true_eq]; omega,by omega⟩
  have w3 : ∀ x ∈ (r7T s).wo,x.length ≤ 3 := fun x hx => (w2 x (by unfold r7T at hx; exact hx)).1
  have w4 : (r7T s).wo = r3W s := by unfold r7T; rfl
  have w5 : (r7T s).ha = r5H s := by unfold r7T; rfl
  refine ⟨hv,⟨fun y hy => by rw [w4,w1]; exact q2 y hy,by omega⟩,by omega,w3,⟨hv,by rw [w4]; omega,fun x hx => by have := w3 x hx; omega,by rw [w5]; omega⟩⟩
end Go.Proofs.YtbblkhjjgnpbaaaGreatDoor
end
section
set_option linter.unusedVariables false
set_option linter.unusedSimpArgs false
set_option maxRecDepth 100000
set_option maxHeartbeats 4000000
namespace Go.Proofs.YtbblkhjjgnpbaaaGreatDoor
open Go Foot
theorem drawWords_ok (s : Src) (n m : Int) (g : SrOk s) (h : s.pl ≤ 1000000000000000) (h1 : 0 ≤ n) (h2 : n ≤ 100) (h3 : 1 ≤ m) (h4 : m ≤ 100) : Does Tryz.prog 80 [.one (.gv 0),.one (int n),.one (int m),.one (int 3)] [srB s] (.one (.gv 1)) [srB (dlO m s n).2,roW (dlO m s n).1] := by
  have e0 : dlF m n.toNat s [] = dlO m s n := by unfold dlO; rfl
  refine does_of (k := 1) Tryz.func80 rfl Tryz.ntmps80 rfl rfl fun w F0 S0 ρ0 => ?_
  dsimp only [argT,argH]
  repeat' first|(apply n3;(exact a_litE eW [] rfl rfl rfl rfl rfl rfl rfl rfl);exact rfl;refine dA ?_)|(apply p3;(exact pu1);exact rfl)|refine cd ?_
  refine g_loop_id ?_
  refine loopK [0,2,3,8] [0,1] (fun y : Int × Src × List (List Int) => 0 ≤ y.1 ∧ SrOk y.2.1 ∧ y.2.1.pl ≤ s.pl + 8 * (n - y.1) ∧ (y.2.2.length : Int) ≤ n - y.1 ∧ dlF m y.1.toNat y.2.1 y.2.2 = dlO m s n) (fun y => [(1,.one (int y.1)),(9,.one (.gv 1))]) (fun y => [(0,srB y.2.1),(1,roW y.2.2)]) (fun y => y.1.toNat) (n,s,([] : List (List Int))) [0,1] (hI := ?_) (hr := ?_)
  · exact ⟨h1,g,by simp,by simp,e0⟩
  · rintro ⟨k,u,l⟩ ⟨k0,k1,k2,k3,k4⟩
    dsimp only [List.cons_append,List.nil_append] at *
    skip
    repeat' first|(apply p3;(first|exact pu1|exact puC);exact rfl)|refine cdn ?_|refine g_reg (id := 2) ?_|refine g_reg (id := 10) ?_|((refine g_cond rfl (fun hc => ?_) (fun hc => ?_)) <;> (try simp only [dcB] at hc) <;> (try first|contradiction|(exfalso;omega)))
    · have hp : u.pl ≤ 999999999999999998 := by omega
      have v1 := pkS_pl u 4
      have v2 := sr_pick (n := 4) k1 hp
      have v3 := pkV_bd (n := 4) k1 (by omega)
      have e1 : drF m (pkV u 4).toNat (pkS u 4) [] = dl1 m u := by unfold dl1 drO; rfl
      repeat' first|(apply n3;(exact a_litE eI [] rfl rfl rfl rfl rfl rfl rfl rfl);exact rfl;refine dA ?_)|(apply p3;(first|exact pu1|exact a_add rfl rfl (by omega) (by omega));exact rfl)|refine cd ?_|(apply c4 0;exact callK0 (θ := [_]) (hD := (srcPick_ok u 4 k1 hp (by omega)));exact rfl;exact rfl;exact rfl;refine dM ?_)
      generalize pkS u 4 = u1 at *
      generalize pkV u 4 = c at *
      refine g_loop_id ?_
      refine loopK [0,1,2,3,8,9] [0,2] (fun z : Int × Src × List Int => 0 ≤ z.1 ∧ SrOk z.2.1 ∧ z.2.1.pl ≤ u1.pl + 2 * (c - z.1) ∧ (z.2.2.length : Int) ≤ c - z.1 ∧ drF m z.1.toNat z.2.1 z.2.2 = dl1 m u) (fun z => [(11,.one (int z.1)),(10,.one (.gv 2))]) (fun z => [(0,srB z.2.1),(2,roI z.2.2)]) (fun z => z.1.toNat) (c,u1,([] : List Int)) [0,1,2] (hI := ?_) (hr := ?_)
      · exact ⟨v3.1,v2,by simp,by simp,e1⟩
      · rintro ⟨a,v,r⟩ ⟨m0,m1,m2,m3,m4⟩
        dsimp only [List.cons_append,List.nil_append] at *
        skip
        repeat' first|(apply p3;(first|exact pu1|exact puC);exact rfl)|refine cdn ?_|refine g_reg (id := 6) ?_|((refine g_cond rfl (fun hc => ?_) (fun hc => ?_)) <;> (try simp only [dcB] at hc) <;> (try first|contradiction|(exfalso;omega)))
        · have hp2 : v.pl ≤ 999999999999999998 := by omega
          have w1 := pkS_pl v m
          have w2 := sr_pick (n := m) m1 hp2
          repeat' first|(apply n3;(exact a_litE eI [_] rfl rfl rfl rfl rfl rfl rfl rfl);exact rfl;refine dA ?_)|(apply p3;(first|exact pu1|exact a_sub rfl rfl (by omega) (by omega));exact rfl)|refine cd ?_|(apply s3;exact a_appE (fP rfl) rfl rfl rfl rfl nowR (by (simp;omega)) (by decide) (by decide) (by exact rfl);exact rfl;exact rfl)|(apply c4 0;exact callK0 (θ := [_]) (hD := (srcPick_ok v m m1 hp2 (by omega)));exact rfl;exact rfl;exact rfl;refine dM ?_)
          refine q_again (a - 1,pkS v m,r ++ [pkV v m]) [0,1,4] (by exact stk) ?_ ?_
          · dsimp only
            refine ⟨by omega,w2,by omega,by simp; omega,?_⟩
            rw [← m4,show a.toNat = (a - 1).toNat + 1 by omega,drF]
          · dsimp only; omega
        · have v0 : a.toNat = 0 := by omega
          rw [v0,drF] at m4
          have x1 := congrArg Prod.fst m4
          have x2 := congrArg Prod.snd m4
          dsimp only at x1 x2
          first | refine g_turn (t_frzR (d := 10) (i := 2) rfl rfl shutR) ?_ | refine o_turn (t_frzR (d := 10) (i := 2) rfl rfl shutR) ?_
          repeat' first|(apply n3;(exact a_litE eW [_] rfl rfl rfl rfl rfl rfl rfl rfl);exact rfl;refine dA ?_)|(apply p3;(first|exact pu1|exact a_sub rfl rfl (by omega) (by omega));exact rfl)|refine cd ?_|(apply s3;exact a_appE (fP rfl) rfl rfl rfl rfl nowR (by (simp;omega)) (by decide) (by decide) (by exact rfl);exact rfl;exact rfl)
          refine q_again (k - 1,v,l ++ [r]) [0,4] (by exact stk) ?_ ?_
          · dsimp only
            refine ⟨by omega,m1,by omega,by simp; omega,?_⟩
            rw [← k4,show k.toNat = (k - 1).toNat + 1 by omega,dlF,← x1,← x2]
          · dsimp only; omega
    · have v0 : k.toNat = 0 := by omega
      rw [v0,dlF] at k4
      rw [← k4]
      repeat refine cr ?_
      refine ends_id ?_
      refine endK [?_] (h2 := ?_) (h3 := ?_) (nd := ?_)
      rotate_left 1
      all_goals (repeat' first|exact ce0|refine ce ?_|refine ce2 ?_ ?_|(refine Or.inr (bx_eq rfl rfl ?_);(try dsimp only [C.ren,C.ren.all]);(try exact rfl))|exact SVLe.refl|refine ceb ?_)
      all_goals first | exact (show nodupB _ = true from rfl) | exact Or.inr rfl | (rfl)
theorem R8Tag_ok (l : List Int) (g : SrOk ⟨l,0,0⟩) : Does Tryz.prog 17 [.one (shY l)] [] (.tup [(true,[int (r7T ⟨l,0,0⟩).de,.gv 0,.gv 1]),(false,[.gv 2])]) [roW (r7T ⟨l,0,0⟩).wo,roI (r7T ⟨l,0,0⟩).ha,roI (r7Q ⟨l,0,0⟩)] := by
  have gr := rt_ok g (by dsimp only; omega)
  obtain ⟨gg1,z1,hn,hd,gg2,z2,hw,gg3,z3,gg4,z4,hh,gg5,z5,hkk,gg6,z6,hq⟩ := gr
  have e1 : pkS ⟨l,0,0⟩ 4 = r1S ⟨l,0,0⟩ := by unfold r1S; rfl
  have e2 : 1 + pkV ⟨l,0,0⟩ 4 = r1N ⟨l,0,0⟩ := by unfold r1N; rfl
  have e3 : pkS (r1S ⟨l,0,0⟩) 3 = r2S ⟨l,0,0⟩ := by unfold r2S; rfl
  have e4 : 1 + pkV (r1S ⟨l,0,0⟩) 3 = r1D ⟨l,0,0⟩ := by unfold r1D; rfl
  have e5 : (dlO (r1N ⟨l,0,0⟩) (r2S ⟨l,0,0⟩) (r1N ⟨l,0,0⟩)).1 = r3W ⟨l,0,0⟩ := by unfold r3W; rfl
  have e6 : (dlO (r1N ⟨l,0,0⟩) (r2S ⟨l,0,0⟩) (r1N ⟨l,0,0⟩)).2 = r3S ⟨l,0,0⟩ := by unfold r3S; rfl
  have e7 : pkS (r3S ⟨l,0,0⟩) 2 = r4S ⟨l,0,0⟩ := by unfold r4S; rfl
  have f5 : pkV (r5S ⟨l,0,0⟩) 8 = r6K ⟨l,0,0⟩ := by unfold r6K; rfl
  have f6 : pkS (r5S ⟨l,0,0⟩) 8 = r6S ⟨l,0,0⟩ := by unfold r6S; rfl
  have f7 : (drO (r1N ⟨l,0,0⟩) (r6S ⟨l,0,0⟩) (r6K ⟨l,0,0⟩)).1 = r7Q ⟨l,0,0⟩ := by unfold r7Q; rfl
  have f8 : drF (r1N ⟨l,0,0⟩) (r6K ⟨l,0,0⟩).toNat (r6S ⟨l,0,0⟩) [] = drO (r1N ⟨l,0,0⟩) (r6S ⟨l,0,0⟩) (r6K ⟨l,0,0⟩) := by unfold drO; rfl
  have hT : r7T ⟨l,0,0⟩ = ⟨r1D ⟨l,0,0⟩,r3W ⟨l,0,0⟩,r5H ⟨l,0,0⟩⟩ := by unfold r7T; rfl
  rw [hT]
  dsimp only
  have b4 := pkV_bd (n := 3) gg1 (by omega)
  have b1 := pkV_bd (n := 4) g (by omega)
  refine does_of (k := 0) Tryz.func17 rfl Tryz.ntmps17 rfl rfl fun w F0 S0 ρ0 => ?_
  dsimp only [argT,argH]
  repeat' first|(apply n3;exact a_nilO eI rfl;exact rfl)|(apply n3;exact a_new (gb := .bx _) rfl;exact rfl;refine dA ?_)|(apply p3;(first|exact pu1|exact a_add rfl rfl (by omega) (by omega));exact rfl)|refine cdn ?_|refine g_reg (id := 0) ?_|refine g_reg (id := 1) ?_|refine g_reg (id := 2) ?_|(apply c4 1;exact callK0 (θ := []) (hD := (srcFrom_ok _));exact rfl;exact rfl;exact rfl;refine dM ?_)|(apply c4 0;exact callK0 (θ := [_]) (hD := (srcPick_ok ⟨l,0,0⟩ 4 g (by dsimp only;omega) (by omega)));exact rfl;exact rfl;exact rfl;refine dM ?_)
  rw [e1,e2]
  repeat' first|(apply n3;(first|exact a_new (gb := .bx _) rfl|exact a_litE eI [] rfl rfl rfl rfl rfl rfl rfl rfl);exact rfl;refine dA ?_)|(apply p3;(first|exact pu1|exact a_add rfl rfl (by omega) (by omega));exact rfl)|refine cdn ?_|refine g_reg (id := 3) ?_|(apply w3;exact a_st_bx rfl rfl rfl rfl (fN rfl rfl) (Nat.le_of_ble_eq_true rfl) rfl;exact rfl;refine dS ?_)|(apply c4 0;exact callK0 (θ := [_]) (hD := (srcPick_ok (r1S ⟨l,0,0⟩) 3 gg1 (by dsimp only at z1;omega) (by omega)));exact rfl;exact rfl;exact rfl;refine dM ?_)|(apply c4 1;exact callK0 (θ := [_]) (hD := (drawWords_ok (pkS (r1S ⟨l,0,0⟩) 3) (r1N ⟨l,0,0⟩) (r1N ⟨l,0,0⟩) (by rw [e3];exact gg2) (by rw [e3];dsimp only at z2;omega) (by omega) (by omega) (by omega) (by omega)));exact rfl;exact rfl;exact rfl;refine dM ?_)
  rw [e3,e4,e5,e6]
  simp only [setRow,scC,List.map_cons,List.map_nil,List.set_cons_zero,List.set_cons_succ,Nat.zero_add,List.getElem?_cons_zero,List.getElem?_cons_succ,List.take_succ_cons,List.take_zero,List.drop_zero,List.cons_append,List.nil_append,List.drop_succ_cons,List.drop_nil,List.append_nil,List.append_eq]
  by_cases hB : pkV (r3S ⟨l,0,0⟩) 2 = 0
  · have f1 : r5H ⟨l,0,0⟩ = [pkV (r4S ⟨l,0,0⟩) (r1N ⟨l,0,0⟩)] := by unfold r5H r4B; rw [decide_eq_true hB]; rfl
    have f2 : pkS (r4S ⟨l,0,0⟩) (r1N ⟨l,0,0⟩) = r5S ⟨l,0,0⟩ := by unfold r5S r4B; rw [decide_eq_true hB]; rfl
    rw [f1]
    repeat' first|(apply n3;(exact a_litE eI [_] rfl rfl rfl rfl rfl rfl rfl rfl);exact rfl;refine dA ?_)|(apply p3;(exact pu1);exact rfl)|refine cdn ?_|refine g_reg (id := 4) ?_|refine g_reg (id := 5) ?_|(apply w3;(exact a_st_bx rfl rfl rfl rfl (fN rfl rfl) (Nat.le_of_ble_eq_true rfl) rfl);exact rfl;refine dS ?_)|(apply c4 0;exact callK0 (θ := [_]) (hD := (srcPick_ok (pkS (r3S ⟨l,0,0⟩) 2) (r1N ⟨l,0,0⟩) (by rw [e7];exact gg4) (by rw [e7];dsimp only at z4;omega) (by omega)));exact rfl;exact rfl;exact rfl;refine dM ?_)|(apply c4 0;exact callK0 (θ := [_]) (hD := (srcOne_ok (r3S ⟨l,0,0⟩) 2 gg3 (by dsimp only at z3;omega) (by omega)));exact rfl;exact rfl;exact rfl;refine dM ?_)|((refine g_cond rfl (fun hc => ?_) (fun hc => ?_)) <;> (try simp only [dcB] at hc) <;> (try first|contradiction|(exfalso;omega)))
    rw [e7,f2]
    repeat' first|(apply n3;(exact a_litE eI [] rfl rfl rfl rfl rfl rfl rfl rfl);exact rfl;refine dA ?_)|(apply p3;(exact pu1);exact rfl)|refine cd ?_|(apply c4 0;exact callK0 (θ := [_]) (hD := (srcPick_ok (r5S ⟨l,0,0⟩) 8 gg5 (by dsimp only at z5;omega) (by omega)));exact rfl;exact rfl;exact rfl;refine dM ?_)
    rw [f5,f6]
    refine g_loop_id ?_
    refine loopK [2,3,4,5,6] [2,7] (fun y : Int × Src × List Int => 0 ≤ y.1 ∧ SrOk y.2.1 ∧ y.2.1.pl ≤ (r6S ⟨l,0,0⟩).pl + 2 * (r6K ⟨l,0,0⟩ - y.1) ∧ (y.2.2.length : Int) ≤ r6K ⟨l,0,0⟩ - y.1 ∧ drF (r1N ⟨l,0,0⟩) y.1.toNat y.2.1 y.2.2 = drO (r1N ⟨l,0,0⟩) (r6S ⟨l,0,0⟩) (r6K ⟨l,0,0⟩)) (fun y => [(8,.one (int y.1)),(7,.one (.gv 7))]) (fun y => [(2,srB y.2.1),(7,roI y.2.2)]) (fun y => y.1.toNat) (r6K ⟨l,0,0⟩,r6S ⟨l,0,0⟩,([] : List Int)) [0,1,2,3,4,5,6,7] (hI := ?_) (hr := ?_)
    · exact ⟨hkk.1,gg6,by simp,by simp,f8⟩
    · rintro ⟨k,u,r⟩ ⟨k0,k2,k3,k4,k5⟩
      dsimp only [List.cons_append,List.nil_append] at *
      skip
      repeat' first|(apply p3;(first|exact pu1|exact puC);exact rfl)|refine cdn ?_|refine g_reg (id := 8) ?_|refine g_reg (id := 11) ?_|(apply w3;exact a_st_bx rfl rfl rfl rfl (fN rfl rfl) (Nat.le_of_ble_eq_true rfl) rfl;exact rfl;refine dS ?_)|((refine g_cond rfl (fun hc => ?_) (fun hc => ?_)) <;> (try simp only [dcB] at hc) <;> (try first|contradiction|(exfalso;omega)))
      · have hp : u.pl ≤ 999999999999999998 := by omega
        have v1 := pkS_pl u (r1N ⟨l,0,0⟩)
        have v2 := sr_pick (n := (r1N ⟨l,0,0⟩)) k2 hp
        repeat' first|(apply n3;(exact a_litE eI [_] rfl rfl rfl rfl rfl rfl rfl rfl);exact rfl;refine dA ?_)|(apply p3;(first|exact pu1|exact a_sub rfl rfl (by omega) (by omega));exact rfl)|refine cd ?_|(apply s3;exact a_appE (fP rfl) rfl rfl rfl rfl nowR (by (simp;omega)) (by decide) (by decide) (by exact rfl);exact rfl;exact rfl)|(apply c4 0;exact callK0 (θ := [_]) (hD := (srcPick_ok u (r1N ⟨l,0,0⟩) k2 hp (by omega)));exact rfl;exact rfl;exact rfl;refine dM ?_)
        refine q_again (k - 1,pkS u (r1N ⟨l,0,0⟩),r ++ [pkV u (r1N ⟨l,0,0⟩)]) [0,1,2,3,4,5,6,9] (by exact stk) ?_ ?_
        · dsimp only
          refine ⟨by omega,v2,by omega,by simp; omega,?_⟩
          rw [← k5,show k.toNat = (k - 1).toNat + 1 by omega,drF]
        · dsimp only; omega
      · have v0 : k.toNat = 0 := by omega
        rw [v0,drF] at k5
        have x1 := congrArg Prod.fst k5
        dsimp only at x1
        rw [f7] at x1
        rw [← x1]
        skip
        repeat refine cr ?_
        refine ends_id ?_
        refine endK [?_,?_,?_] (h2 := ?_) (h3 := ?_) (nd := ?_)
        rotate_left 3
        all_goals (repeat' first|exact ce0|refine ce ?_|refine ce2 ?_ ?_|(refine Or.inr (bx_eq rfl rfl ?_);(try dsimp only [C.ren,C.ren.all]);(try exact rfl))|exact SVLe.refl|refine ceb ?_)
        all_goals first | exact (show nodupB _ = true from rfl) | exact Or.inr rfl | (rfl)
  · have f1 : r5H ⟨l,0,0⟩ = [] := by unfold r5H r4B; rw [decide_eq_false hB]; rfl
    have f2 : r4S ⟨l,0,0⟩ = r5S ⟨l,0,0⟩ := by unfold r5S r4B; rw [decide_eq_false hB]; rfl
    rw [f1]
    repeat' first|(apply p3;(exact pu1);exact rfl)|refine cdn ?_|refine g_reg (id := 4) ?_|(apply c4 0;exact callK0 (θ := [_]) (hD := (srcOne_ok (r3S ⟨l,0,0⟩) 2 gg3 (by dsimp only at z3;omega) (by omega)));exact rfl;exact rfl;exact rfl;refine dM ?_)|((refine g_cond rfl (fun hc => ?_) (fun hc => ?_)) <;> (try simp only [dcB] at hc) <;> (try first|contradiction|(exfalso;omega)))
    rw [e7,f2]
    repeat' first|(apply n3;(exact a_litE eI [] rfl rfl rfl rfl rfl rfl rfl rfl);exact rfl;refine dA ?_)|(apply p3;(exact pu1);exact rfl)|refine cd ?_|(apply c4 0;exact callK0 (θ := [_]) (hD := (srcPick_ok (r5S ⟨l,0,0⟩) 8 gg5 (by dsimp only at z5;omega) (by omega)));exact rfl;exact rfl;exact rfl;refine dM ?_)
    rw [f5,f6]
    refine g_loop_id ?_
    refine loopK [2,3,4,5,6] [2,6] (fun y : Int × Src × List Int => 0 ≤ y.1 ∧ SrOk y.2.1 ∧ y.2.1.pl ≤ (r6S ⟨l,0,0⟩).pl + 2 * (r6K ⟨l,0,0⟩ - y.1) ∧ (y.2.2.length : Int) ≤ r6K ⟨l,0,0⟩ - y.1 ∧ drF (r1N ⟨l,0,0⟩) y.1.toNat y.2.1 y.2.2 = drO (r1N ⟨l,0,0⟩) (r6S ⟨l,0,0⟩) (r6K ⟨l,0,0⟩)) (fun y => [(8,.one (int y.1)),(7,.one (.gv 6))]) (fun y => [(2,srB y.2.1),(6,roI y.2.2)]) (fun y => y.1.toNat) (r6K ⟨l,0,0⟩,r6S ⟨l,0,0⟩,([] : List Int)) [0,1,2,3,4,5,6] (hI := ?_) (hr := ?_)
    · exact ⟨hkk.1,gg6,by simp,by simp,f8⟩
    · rintro ⟨k,u,r⟩ ⟨k0,k2,k3,k4,k5⟩
      dsimp only [List.cons_append,List.nil_append] at *
      skip
      repeat' first|(apply p3;(first|exact pu1|exact puC);exact rfl)|refine cdn ?_|refine g_reg (id := 8) ?_|refine g_reg (id := 11) ?_|(apply w3;exact a_st_bx rfl rfl rfl rfl (fN rfl rfl) (Nat.le_of_ble_eq_true rfl) rfl;exact rfl;refine dS ?_)|((refine g_cond rfl (fun hc => ?_) (fun hc => ?_)) <;> (try simp only [dcB] at hc) <;> (try first|contradiction|(exfalso;omega)))
      · have hp : u.pl ≤ 999999999999999998 := by omega
        have v1 := pkS_pl u (r1N ⟨l,0,0⟩)
        have v2 := sr_pick (n := (r1N ⟨l,0,0⟩)) k2 hp
        repeat' first|(apply n3;(exact a_litE eI [_] rfl rfl rfl rfl rfl rfl rfl rfl);exact rfl;refine dA ?_)|(apply p3;(first|exact pu1|exact a_sub rfl rfl (by omega) (by omega));exact rfl)|refine cd ?_|(apply s3;exact a_appE (fP rfl) rfl rfl rfl rfl nowR (by (simp;omega)) (by decide) (by decide) (by exact rfl);exact rfl;exact rfl)|(apply c4 0;exact callK0 (θ := [_]) (hD := (srcPick_ok u (r1N ⟨l,0,0⟩) k2 hp (by omega)));exact rfl;exact rfl;exact rfl;refine dM ?_)
        refine q_again (k - 1,pkS u (r1N ⟨l,0,0⟩),r ++ [pkV u (r1N ⟨l,0,0⟩)]) [0,1,2,3,4,5,8] (by exact stk) ?_ ?_
        · dsimp only
          refine ⟨by omega,v2,by omega,by simp; omega,?_⟩
          rw [← k5,show k.toNat = (k - 1).toNat + 1 by omega,drF]
        · dsimp only; omega
      · have v0 : k.toNat = 0 := by omega
        rw [v0,drF] at k5
        have x1 := congrArg Prod.fst k5
        dsimp only at x1
        rw [f7] at x1
        rw [← x1]
        skip
        repeat refine cr ?_
        refine ends_id ?_
        refine endK [?_,?_,?_] (h2 := ?_) (h3 := ?_) (nd := ?_)
        rotate_left 3
        all_goals (repeat' first|exact ce0|refine ce ?_|refine ce2 ?_ ?_|(refine Or.inr (bx_eq rfl rfl ?_);(try dsimp only [C.ren,C.ren.all]);(try exact rfl))|exact SVLe.refl|refine ceb ?_)
        all_goals first | exact (show nodupB _ = true from rfl) | exact Or.inr rfl | (rfl)
end Go.Proofs.YtbblkhjjgnpbaaaGreatDoor
end
section
set_option linter.unusedVariables false
set_option linter.unusedSimpArgs false
set_option maxRecDepth 100000
set_option maxHeartbeats 1000000
namespace Go.Proofs.YtbblkhjjgnpbaaaGreatDoor
open Go Foot
theorem preB164 {p : Prop} (h : p := by first | with_reducible assumption | omega | (simp only [List.length_append,List.length_cons,List.length_nil,List.length_set,List.length_replicate,List.length_take,List.length_drop,List.length_tail,List.length_dropLast,List.length_reverse] at *; omega) | exact mem_len (by assumption) (by omega) | (with_reducible refine Int.le_trans (Int.ofNat_le.2 (trimR_len _)) ?_; simp only [List.length_cons,List.length_tail]; omega) | (exact (ruAt_ok (by assumption) (by assumption) (by assumption)).2.1) | (exact (ruAt_ok (by assumption) (by assumption) (by assumption)).2.1) | (have := vMach_bd (by assumption); omega) | (simp only [mC_ch,mC_tu]; omega) | (have := vTag_bd (by assumption); omega) | (have := (‹Gd _ _›).le; omega) | (exact tgHalts_no (by assumption)) | (exact tgHead (by assumption) (by assumption) (by assumption)) | (exact Int.le_trans (tgStep_gd (by assumption) (by assumption) (by assumption) (by assumption)).le (by decide)) | (exact vTag_r (by assumption)) | (with_reducible refine Int.le_trans (Int.ofNat_le.2 (pushL_len _ _)) ?_; simp only [List.length_dropLast]; omega) | exact ls_at (by assumption) (by omega) | exact pt_gd (by assumption) | exact lv_at (by assumption) (by omega) | exact pt_gd (lv_at (by assumption) (by omega)) | exact (ask_ok (by assumption)).1 | exact (ask_ok (by assumption)).2.1 | exact (ask_ok (by assumption)).2.2.1 | exact (ask_ok (by assumption)).2.2.2 | trivial) : p := h
theorem r8Long_ok (c m : List Int) (hc : (c.length : Int) ≤ 9223372036854775807) (hm : (m.length : Int) ≤ 9223372036854775807) : Does Tryz.prog 16 [.one (shY c),.one (shY m)] [] (.one (boo (decide ((c.length : Int) > 1048576 ∨ (m.length : Int) > 1048576)))) [] := by
  by_cases h : (c.length : Int) > 1048576 ∨ (m.length : Int) > 1048576
  · rw [decide_eq_true h]
    refine does_of (k := 0) Tryz.func16 rfl Tryz.ntmps16 rfl rfl fun w F0 S0 ρ0 => ?_
    dsimp only [argT,argH]
    repeat' first|(apply p3;(first|exact pu1|exact puN|exact puC);exact rfl)|refine cd ?_|refine o_no rfl rfl rfl rfl ?_|(apply py3;exact rfl;exact rfl;(first|exact pu1|exact puN|exact puC);exact rfl;exact rfl)|((refine o_gs rfl rfl (fun hc => ?_) (fun hc => ?_)) <;> (try simp only [dcB] at hc) <;> (try first|contradiction|(exfalso;omega)))
    all_goals
      repeat refine cr ?_
      refine ends_id ?_
      refine endK [] (h2 := ?_) (h3 := ?_) (nd := ?_)
      all_goals (repeat' first|exact ce0|refine ce ?_|refine ce2 ?_ ?_|exact SVLe.refl|refine ceb ?_)
      all_goals first | exact (show nodupB _ = true from rfl) | exact Or.inr rfl | ((first | rfl | (simp; omega) | (simp_all; done)))
  · rw [decide_eq_false h]
    refine does_of (k := 0) Tryz.func16 rfl Tryz.ntmps16 rfl rfl fun w F0 S0 ρ0 => ?_
    dsimp only [argT,argH]
    repeat' first|(apply p3;(first|exact pu1|exact puN|exact puC);exact rfl)|refine cd ?_|(apply py3;exact rfl;exact rfl;(first|exact pu1|exact puN|exact puC);exact rfl;exact rfl)|((refine o_gs rfl rfl (fun hc => ?_) (fun hc => ?_)) <;> (try simp only [dcB] at hc) <;> (try first|contradiction|(exfalso;omega)))
    all_goals
      repeat refine cr ?_
      refine ends_id ?_
      refine endK [] (h2 := ?_) (h3 := ?_) (nd := ?_)
      all_goals (repeat' first|exact ce0|refine ce ?_|refine ce2 ?_ ?_|exact SVLe.refl|refine ceb ?_)
      all_goals first | exact (show nodupB _ = true from rfl) | exact Or.inr rfl | ((first | rfl | (simp; omega) | (simp_all; done)))
@[irreducible] def atV (l : List Int) (k n : Int) : Int := if (l.length : Int) ≤ k then 0 else l.getD k.toNat 0 % n
theorem atV_bd (l : List Int) (k n : Int) (h : 1 ≤ n) : 0 ≤ atV l k n ∧ atV l k n < n := by
  unfold atV
  split
  · omega
  · exact ⟨Int.emod_nonneg _ (by omega),Int.emod_lt_of_pos _ (by omega)⟩
theorem r8At_ok (l : List Int) (k n : Int) (hl : (l.length : Int) ≤ 1048576) (hb : ∀ x ∈ l,0 ≤ x ∧ x ≤ 255) (hk : 0 ≤ k) (hk2 : k ≤ 1000) (hn : 2 ≤ n) (hn2 : n ≤ 1000) : Does Tryz.prog 18 [.one (shY l),.one (int k),.one (int n)] [] (.one (int (atV l k n))) [] := by
  by_cases h : (l.length : Int) ≤ k
  · have e : atV l k n = 0 := by unfold atV; rw [if_pos h]
    rw [e]
    refine does_of (k := 0) Tryz.func18 rfl Tryz.ntmps18 rfl rfl fun w F0 S0 ρ0 => ?_
    dsimp only [argT,argH]
    repeat' first|(apply p3;(first|exact pu1|exact puC);exact rfl)|refine cd ?_|(apply py3;exact rfl;exact rfl;(first|exact pu1|exact puC|exact puN);exact rfl;exact rfl)|((first|refine o_gs rfl rfl (fun hc => ?_) (fun hc => ?_)|refine g_cond rfl (fun hc => ?_) (fun hc => ?_)) <;> (try simp only [dcB] at hc) <;> (try first|contradiction|(exfalso;omega)))
    repeat refine cr ?_
    refine ends_id ?_
    refine endK [] (h2 := ?_) (h3 := ?_) (nd := ?_)
    all_goals (repeat' first|exact ce0|refine ce ?_|refine ce2 ?_ ?_|exact SVLe.refl|refine ceb ?_)
    all_goals first | exact (show nodupB _ = true from rfl) | exact Or.inr rfl | (rfl)
  · have hi : k.toNat < l.length := by omega
    have e : atV l k n = l[k.toNat]'hi % n := by unfold atV; rw [if_neg h,List.getD_eq_getElem?_getD,List.getElem?_eq_getElem hi]; rfl
    have hx := hb _ (List.getElem_mem hi)
    rw [e]
    refine does_of (k := 0) Tryz.func18 rfl Tryz.ntmps18 rfl rfl fun w F0 S0 ρ0 => ?_
    dsimp only [argT,argH]
    repeat' first|(apply p3;(first|exact pu1|exact puC|exact a_of8 rfl Tryz.underlying5 Tryz.underlying2 (by omega) (by first|omega|exact byte_lt _)|exact a_rem rfl rfl (by omega) (by omega) (by omega)|exact puI);exact rfl)|refine cd ?_|(apply py3;exact rfl;exact rfl;(first|exact pu1|exact puC|exact puN);exact rfl;exact rfl)|((first|refine o_gs rfl rfl (fun hc => ?_) (fun hc => ?_)|refine g_cond rfl (fun hc => ?_) (fun hc => ?_)) <;> (try simp only [dcB] at hc) <;> (try first|contradiction|(exfalso;omega)))
    repeat refine cr ?_
    refine ends_id ?_
    refine endK [] (h2 := ?_) (h3 := ?_) (nd := ?_)
    all_goals (repeat' first|exact ce0|refine ce ?_|refine ce2 ?_ ?_|exact SVLe.refl|refine ceb ?_)
    all_goals first | exact (show nodupB _ = true from rfl) | exact Or.inr rfl | (rfl)
theorem r8Same_ok (xs ys : List Int) (hx : (xs.length : Int) ≤ 1048576) (hy : (ys.length : Int) ≤ 1048576) : Does Tryz.prog 25 [.one (shI xs),.one (shI ys)] [] (.one (boo (eqI xs ys))) [] := by
  refine does_of (k := 0) Tryz.func25 rfl Tryz.ntmps25 rfl rfl fun w F0 S0 ρ0 => ?_
  dsimp only [argT,argH]
  repeat' first|(apply p3;(first|exact pu1|exact puN|exact a_ne rfl rfl);exact rfl)|refine cd ?_|((refine g_cond rfl (fun hc => ?_) (fun hc => ?_)) <;> (try simp only [dcB] at hc) <;> (try first|contradiction|(exfalso;omega)))
  · repeat refine cr ?_
    refine ends_id ?_
    refine endK [] (h2 := ?_) (h3 := ?_) (nd := ?_)
    all_goals (repeat' first|exact ce0|refine ce ?_|refine ce2 ?_ ?_|exact SVLe.refl|refine ceb ?_)
    all_goals first | exact (show nodupB _ = true from rfl) | exact Or.inr rfl | ((symm; unfold eqI; rw [decide_eq_false_iff_not]; rintro rfl; omega))
  refine g_loop_id ?_
  refine loopK [0,1,4] [] (fun i : Int => 0 ≤ i ∧ i ≤ xs.length ∧ xs.take i.toNat = ys.take i.toNat) (fun i => [(5,.one (int i))]) (fun _ => []) (fun i => (xs.length - i).toNat) (0 : Int) [] (hI := ?_) (hr := ?_)
  · exact ⟨by simp,by simp,by simp⟩
  · rintro i ⟨h0,h1,h2⟩
    dsimp only [List.cons_append,List.nil_append] at *
    skip
    repeat' first|(apply p3;(first|exact pu1|exact puN|exact puC|exact a_add rfl rfl (by omega) (by omega));exact rfl)|refine cd ?_|(apply g_drN (id := 6) okM [[],[],[0,1],[0,1,2],[],[],[4,5],[4,5,6],[0,1,2,3,4,5,6,7]] [([],[]),([],[]),([],[]),([],[]),([],[]),([],[]),([],[]),([],[]),([],[])] 0;(focus (refine dp 0 0 [18,21,22,23,24] [] pu1 ?_;refine dp 1 0 [17,21,22,23,24] [] pu1 ?_;refine dp 2 3 [21,22,23,24] [] puI ?_;refine dp 3 7 [21,22,23,24] [] puL ?_;refine dp 4 0 [17,18,19,20,22] [] pu1 ?_;refine dp 5 0 [17,18,19,20,21] [] pu1 ?_;refine dp 6 3 [17,18,19,20] [] puI ?_;refine dp 7 7 [17,18,19,20] [] puL ?_;refine dp 8 255 [] [] (by exact a_ne rfl rfl) ?_;(refine d_nil ?_;refine dN ?_)));any_goals kernel_rfl)|((refine g_cond rfl (fun hc => ?_) (fun hc => ?_)) <;> (try simp only [dcB] at hc) <;> (try first|contradiction|(exfalso;omega)))
    · repeat refine cr ?_
      refine ends_id ?_
      refine endK [] (h2 := ?_) (h3 := ?_) (nd := ?_)
      all_goals (repeat' first|exact ce0|refine ce ?_|refine ce2 ?_ ?_|exact SVLe.refl|refine ceb ?_)
      all_goals first | exact (show nodupB _ = true from rfl) | exact Or.inr rfl | ((symm; unfold eqI; rw [decide_eq_false_iff_not]; rintro rfl; simp_all))
    · refine q_again (i + 1) [] (by exact stk) ?_ ?_
      · exact ⟨by omega,by omega,take_next h0 (by omega) (by omega) h2 (by simp_all)⟩
      · omega
    · have hl := take_end (by omega) (by omega) h2
      repeat refine cr ?_
      refine ends_id ?_
      refine endK [] (h2 := ?_) (h3 := ?_) (nd := ?_)
      all_goals (repeat' first|exact ce0|refine ce ?_|refine ce2 ?_ ?_|exact SVLe.refl|refine ceb ?_)
      all_goals first | exact (show nodupB _ = true from rfl) | exact Or.inr rfl | ((symm; unfold eqI; rw [decide_eq_true_eq]; exact hl))
theorem r8Lists_ok (xs : List (List Int)) (hx : (xs.length : Int) ≤ 1048576) (hxs : ∀ x ∈ xs,(x.length : Int) ≤ 1048576) : Does Tryz.prog 24 [.one (shW xs),.one (shW xs)] [] (.one (boo true)) [] := by
  refine does_of (k := 0) Tryz.func24 rfl Tryz.ntmps24 rfl rfl fun w F0 S0 ρ0 => ?_
  dsimp only [argT,argH]
  repeat' first|(apply p3;(first|exact pu1|exact puN|exact a_ne rfl rfl);exact rfl)|refine cd ?_|((refine g_cond rfl (fun hc => ?_) (fun hc => ?_)) <;> (try simp only [dcB] at hc) <;> (try first|contradiction|(exfalso;omega)))
  refine g_loop_id ?_
  refine loopK [0,1,4] [] (fun i : Int => 0 ≤ i ∧ i ≤ xs.length) (fun i => [(5,.one (int i))]) (fun _ => []) (fun i => (xs.length - i).toNat) (0 : Int) [] (hI := ?_) (hr := ?_)
  · exact ⟨by simp,by simp⟩
  · rintro i ⟨h0,h1⟩
    dsimp only [List.cons_append,List.nil_append] at *
    skip
    repeat' first|(apply p3;(first|exact pu1|exact puN|exact puC);exact rfl)|refine cdn ?_|refine g_reg (id := 4) ?_|refine g_reg (id := 8) ?_|((refine g_cond rfl (fun hc => ?_) (fun hc => ?_)) <;> (try simp only [dcB] at hc) <;> (try first|contradiction|(exfalso;omega)))
    · have hi : i.toNat < xs.length := by omega
      have hv := hxs _ (List.getElem_mem hi)
      have hk : ¬ eqI (xs[i.toNat]'hi) (xs[i.toNat]'hi) = false := by simp [eqI]
      repeat' first|(apply p3;(first|exact pu1|exact a_add rfl rfl (by omega) (by omega));exact rfl)|refine cd ?_|(apply g_drN (id := 6) okM [[],[],[0,1],[0,1,2],[],[],[4,5],[4,5,6],[0,1,2,3,4,5,6,7],[0,1,2,3,4,5,6,7,8]] [([],[]),([],[]),([],[]),([],[]),([],[]),([],[]),([],[]),([],[]),([],[]),([],[])] 0;(focus (refine dp 0 0 [18,21,22,23,24] [] pu1 ?_;refine dp 1 0 [17,21,22,23,24] [] pu1 ?_;refine dp 2 3 [21,22,23,24] [] puI ?_;refine dp 3 7 [21,22,23,24] [] (by exact puL) ?_;refine dp 4 0 [17,18,19,20,22] [] pu1 ?_;refine dp 5 0 [17,18,19,20,21] [] pu1 ?_;refine dp 6 3 [17,18,19,20] [] puI ?_;refine dp 7 7 [17,18,19,20] [] (by exact puL) ?_;refine dp 8 255 [] [] (callD1 (n := _) 0 (θ := []) (hD := (r8Same_ok (xs[i.toNat]'hi) (xs[i.toNat]'hi) hv hv))) ?_;refine dp 9 511 [] [] (a_pure (sv := .one _) rfl) ?_;(refine d_nil ?_;refine dN ?_)));any_goals kernel_rfl)|((refine g_cond rfl (fun hc => ?_) (fun hc => ?_)) <;> (try simp only [dcB] at hc) <;> (try first|contradiction|(exfalso;omega)))
      refine q_again (i + 1) [] (by exact stk) ?_ ?_
      · exact ⟨by omega,by omega⟩
      · omega
    · repeat refine cr ?_
      refine ends_id ?_
      refine endK [] (h2 := ?_) (h3 := ?_) (nd := ?_)
      all_goals (repeat' first|exact ce0|refine ce ?_|refine ce2 ?_ ?_|exact SVLe.refl|refine ceb ?_)
      all_goals first | exact (show nodupB _ = true from rfl) | exact Or.inr rfl | (rfl)
theorem lawTagRuns (c m : List Int) (hc : (c.length : Int) ≤ 9223372036854775807) (hm : (m.length : Int) ≤ 9223372036854775807) (hcb : ∀ x ∈ c,0 ≤ x ∧ x ≤ 255) (hmb : ∀ x ∈ m,0 ≤ x ∧ x ≤ 255) : Does Tryz.prog 4 [.one (shY c),.one (shY m)] [] (.one (boo true)) [] := by
  by_cases hL : (c.length : Int) > 1048576 ∨ (m.length : Int) > 1048576
  · refine does_of (k := 0) Tryz.func4 rfl Tryz.ntmps4 rfl rfl fun w F0 S0 ρ0 => ?_
    dsimp only [argT,argH]
    repeat' first|(apply p3;(exact pu1);exact rfl)|refine cd ?_|(apply c4 0;exact callK1 (θ := []) (hD := (r8Long_ok _ _ preB164 preB164));exact rfl;exact rfl;exact rfl;refine dM ?_)|((refine g_cond rfl (fun hc => ?_) (fun hc => ?_)) <;> (try simp only [dcB] at hc) <;> (try first|contradiction|(exfalso;omega)))
    repeat refine cr ?_
    refine ends_id ?_
    refine endK [] (h2 := ?_) (h3 := ?_) (nd := ?_)
    all_goals (repeat' first|exact ce0|refine ce ?_|refine ce2 ?_ ?_|exact SVLe.refl|refine ceb ?_)
    all_goals first | exact (show nodupB _ = true from rfl) | exact Or.inr rfl | (rfl)
  have g : SrOk ⟨c,0,0⟩ := ⟨hc,⟨by dsimp only; omega,by dsimp only; omega⟩,hcb⟩
  obtain ⟨hv,hg,hq7,hw3,hsm⟩ := rt_v (rt_ok g (by dsimp only; omega))
  have ba := atV_bd m 0 20 (by omega)
  have bb := atV_bd m 1 20 (by omega)
  have hml : (m.length : Int) ≤ 1048576 := by omega
  refine does_of (k := 0) Tryz.func4 rfl Tryz.ntmps4 rfl rfl fun w F0 S0 ρ0 => ?_
  dsimp only [argT,argH]
  repeat' first|(apply n3;exact a_new (gb := .bx _) rfl;exact rfl;refine dA ?_)|(apply p3;exact pu1;exact rfl)|refine cdn ?_|refine g_reg (id := 0) ?_|refine g_reg (id := 1) ?_|refine g_reg (id := 3) ?_|(apply w3;exact a_st_bx rfl rfl rfl rfl (fN rfl rfl) (Nat.le_of_ble_eq_true rfl) rfl;exact rfl;refine dS ?_)|(apply c4 0;exact callK1 (θ := []) (hD := (r8Long_ok _ _ preB164 preB164));exact rfl;exact rfl;exact rfl;refine dM ?_)|(apply c4 3;exact callK0 (θ := []) (hD := (R8Tag_ok c g));exact rfl;exact rfl;exact rfl;refine dM ?_)|((refine g_cond rfl (fun hc => ?_) (fun hc => ?_)) <;> (try simp only [dcB] at hc) <;> (try first|contradiction|(exfalso;omega)))
  generalize r7T ⟨c,0,0⟩ = T at *
  generalize r7Q ⟨c,0,0⟩ = Q at *
  refine g_turn (t_freeze (i := 0) rfl nowR) ?_
  refine g_turn (t_freeze (i := 1) rfl nowR) ?_
  refine g_turn (t_freeze (i := 2) rfl nowR) ?_
  simp only [setRow,C.frz.all,C.frz,SV.frz,tFrz,List.map_cons,List.map_nil,scC,List.set_cons_zero,List.set_cons_succ,Nat.zero_add,List.getElem?_cons_zero,List.getElem?_cons_succ,List.take_succ_cons,List.take_zero,List.drop_zero]
  first | refine g_turn (t_frzB (d := 5) (i := 3) rfl rfl rfl) ?_ | refine o_turn (t_frzB (d := 5) (i := 3) rfl rfl rfl) ?_
  repeat' first|(apply p3;(first|exact pu1|exact a_add rfl rfl (by omega) (by omega));exact rfl)|refine cdn ?_|refine g_reg (id := 4) ?_|refine g_reg (id := 5) ?_|(apply c4 0;exact callK1 (θ := []) (hD := (r8At_ok m 0 20 hml hmb (by omega) (by omega) (by omega) (by omega)));exact rfl;exact rfl;exact rfl;refine dM ?_)|(apply c4 0;exact callK1 (θ := []) (hD := (r8At_ok m 1 20 hml hmb (by omega) (by omega) (by omega) (by omega)));exact rfl;exact rfl;exact rfl;refine dM ?_)
  generalize hA : 1 + atV m 0 20 = A at *
  generalize hB : 1 + atV m 1 20 = B at *
  have eAB : (A + B).toNat = A.toNat + B.toNat := by omega
  have hno : NoOv T (A + B).toNat Q := noOv_small hv hw3 _ _ hg (by omega)
  have hno2 : NoOv T (A.toNat + B.toNat) Q := by rw [← eAB]; exact hno
  obtain ⟨hnA,hnB⟩ := noOv_add _ _ _ hno2
  have hX := rnT_gd hv hnA hg
  have hha : (T.ha.length : Int) ≤ 1048576 := by have := hsm.h; omega
  have hwo : ∀ x ∈ T.wo,(x.length : Int) ≤ 16777216 := fun x hx => by have := hw3 x hx; omega
  have rA : RnOk T Q A := ⟨hv,hg,hha,hwo,hnA⟩
  have rB : RnOk T (rnT T A.toNat Q).1 B := ⟨hv,hX,hha,hwo,hnB⟩
  have rC : RnOk T Q (A + B) := ⟨hv,hg,hha,hwo,hno⟩
  repeat' first|(apply n3;exact a_new (gb := .bx _) rfl;exact rfl;refine dA ?_)|(apply p3;(exact pu1);exact rfl)|refine cdn ?_|refine g_reg (id := 6) ?_|refine g_reg (id := 7) ?_|refine g_reg (id := 8) ?_|refine g_reg (id := 9) ?_|(apply w3;exact a_st_bx rfl rfl rfl rfl (fN rfl rfl) (Nat.le_of_ble_eq_true rfl) rfl;exact rfl;refine dS ?_)|(apply c4 0;exact callK1 (θ := []) (hD := (TagText_ok T hsm));exact rfl;exact rfl;exact rfl;refine dM ?_)|(apply c4 2;exact callK0 (θ := []) (hD := (ReadTag_ok T hsm));exact rfl;exact rfl;exact rfl;refine dM ?_)|(apply c4 1;exact callK0 (θ := []) (hD := (TraceTag_ok T Q A rA (by omega) (by omega)));exact rfl;exact rfl;exact rfl;refine dM ?_)|(apply c4 1;exact callK1 (θ := []) (hD := (RunTag_ok T Q A rA (by omega) (by omega)));exact rfl;exact rfl;exact rfl;refine dM ?_)|(apply c4 0;exact callK1 (θ := []) (hD := (TagLengths_ok T Q A rA (by omega) (by omega)));exact rfl;exact rfl;exact rfl;refine dM ?_)
  have hlen := wdL_len (t := T) A.toNat Q
  have hlast := wdL_last (t := T) A.toNat Q
  have hle := rnT_le (t := T) A.toNat Q
  have hLg : ∀ y ∈ wdL T A.toNat Q,Gd T y := wdL_gd hv hnA hg
  have hms := (mstL_ge (wdL T A.toNat Q) Q.length).2
  have hls := (lstL_le (wdL T A.toNat Q) Q.length).2
  have hadd := rnT_add (t := T) B.toNat A.toNat Q
  rw [← eAB] at hadd
  generalize wdL T A.toNat Q = L at *
  generalize hR : rnT T A.toNat Q = R at *
  obtain ⟨X,N1,h1⟩ := R
  dsimp only at *
  have hi : ((N1 : Nat) : Int).toNat < L.length := by omega
  have hLX : L[((N1 : Nat) : Int).toNat]'hi = X := by
    have h5 : L[((N1 : Nat) : Int).toNat]? = some X := by rw [Int.toNat_natCast]; exact hlast
    rw [List.getElem?_eq_getElem hi] at h5
    exact Option.some.inj h5
  have hXl := hX.le
  have kS : ¬ eqI (L[((N1 : Nat) : Int).toNat]'hi) X = false := by rw [hLX]; simp [eqI]
  have hLl : ((L[((N1 : Nat) : Int).toNat]'hi).length : Int) ≤ 1048576 := by rw [hLX]; omega
  have hwn : (T.wo.length : Int) ≤ 1048576 := by have := hsm.n; omega
  have hwo2 : ∀ x ∈ T.wo,(x.length : Int) ≤ 1048576 := fun x hx => by have := hw3 x hx; omega
  refine g_turn (t_freeze (i := 4) rfl nowR) ?_
  refine g_turn (t_freeze (i := 5) rfl nowR) ?_
  refine g_turn (t_freeze (i := 7) rfl nowR) ?_
  refine g_turn (t_freeze (i := 8) rfl nowR) ?_
  simp only [setRow,C.frz.all,C.frz,SV.frz,tFrz,List.map_cons,List.map_nil,scC,List.set_cons_zero,List.set_cons_succ,Nat.zero_add,List.getElem?_cons_zero,List.getElem?_cons_succ,List.take_succ_cons,List.take_zero,List.drop_zero]
  first | refine g_turn (t_frzB (d := 9) (i := 6) rfl rfl rfl) ?_ | refine o_turn (t_frzB (d := 9) (i := 6) rfl rfl rfl) ?_
  repeat' first|(apply p3;(exact pu1);exact rfl)|refine cdn ?_|refine g_reg (id := 10) ?_|(apply py3;exact rfl;exact rfl;(first|exact pu1|exact a_add rfl rfl (by omega) (by omega)|exact a_ne rfl rfl|exact puN|exact puC|exact puI);exact rfl;exact rfl)|(apply cy4 0;exact rfl;exact rfl;exact callK1 (θ := []) (hD := (r8Lists_ok T.wo hwn hwo2));exact rfl;exact rfl;exact rfl;exact rfl;refine dM ?_)|(apply cy4 0;exact rfl;exact rfl;exact callK1 (θ := []) (hD := (r8Same_ok (L[((N1 : Nat) : Int).toNat]'hi) X hLl (by omega)));exact rfl;exact rfl;exact rfl;exact rfl;refine dM ?_)|((first|refine o_gs rfl rfl (fun hc => ?_) (fun hc => ?_)|refine g_cond rfl (fun hc => ?_) (fun hc => ?_)) <;> (try simp only [dcB] at hc) <;> (try first|contradiction|(exfalso;omega)))
  repeat' first|(apply p3;(exact pu1);exact rfl)|refine cd ?_
  refine g_loop_id ?_
  refine loopK [4,5,6,7,8,11,13,14,17,18] [] (fun i : Int => 0 ≤ i ∧ i ≤ L.length) (fun i => [(20,.one (int i))]) (fun _ => []) (fun i => (L.length - i).toNat) (0 : Int) [0,1,2,3,4,5,6,7,8] (hI := ?_) (hr := ?_)
  · exact ⟨by simp,by simp⟩
  · rintro i ⟨h0,h1'⟩
    dsimp only [List.cons_append,List.nil_append] at *
    skip
    repeat' first|(apply p3;(first|exact pu1|exact puN|exact puC);exact rfl)|refine cdn ?_|refine g_reg (id := 13) ?_|((refine g_cond rfl (fun hc => ?_) (fun hc => ?_)) <;> (try simp only [dcB] at hc) <;> (try first|contradiction|(exfalso;omega)))
    · have hi2 : i.toNat < L.length := by omega
      have q1 := hls _ (List.getElem_mem hi2)
      have q2 := hms _ (List.getElem_mem hi2)
      have q3 := (hLg _ (List.getElem_mem hi2)).le
      repeat' first|(apply p3;(first|exact pu1|exact puN|exact puC|exact a_add rfl rfl (by omega) (by omega)|exact puI);exact rfl)|refine cd ?_|(apply py3;exact rfl;exact rfl;(first|exact pu1|exact puC);exact rfl;exact rfl)|((first|refine o_gs rfl rfl (fun hc => ?_) (fun hc => ?_)|refine g_cond rfl (fun hc => ?_) (fun hc => ?_)) <;> (try simp only [dcB] at hc) <;> (try first|contradiction|(exfalso;omega)))
      refine q_again (i + 1) [0,1,2,3,4,5,6,7,8] (by exact stk) ?_ ?_
      · exact ⟨by omega,by omega⟩
      · omega
    · skip
      repeat' first|(apply p3;(exact pu1);exact rfl)|refine cdn ?_|refine g_reg (id := 18) ?_|(apply c4 1;exact callK1 (θ := []) (hD := (RunTag_ok T X B rB (by omega) (by omega)));exact rfl;exact rfl;exact rfl;refine dM ?_)
      repeat' first|(apply p3;(first|exact pu1|exact a_add rfl rfl (by omega) (by omega));exact rfl)|refine cdn ?_|refine g_reg (id := 19) ?_|(apply c4 1;exact callK1 (θ := []) (hD := (RunTag_ok T Q (A + B) rC (by omega) (by omega)));exact rfl;exact rfl;exact rfl;refine dM ?_)
      simp only [hadd]
      have hY := (rnT_gd hv hnB hX).le
      have hle2 := rnT_le (t := T) B.toNat X
      generalize rnT T B.toNat X = R2 at *
      obtain ⟨Y,N2,h2⟩ := R2
      dsimp only at *
      have kY : eqI Y Y = true := by simp [eqI]
      simp only [Int.natCast_add]
      repeat' first|(apply p3;(first|exact pu1|exact puC);exact rfl)|refine cd ?_|refine o_no rfl rfl rfl rfl ?_|(apply py3;exact rfl;exact rfl;(first|exact pu1|exact puC|exact a_add rfl rfl (by omega) (by omega)|exact a_eqB rfl rfl (by kernel_rfl));exact rfl;exact rfl)|(apply cy4 0;exact rfl;exact rfl;exact callK1 (θ := []) (hD := (r8Same_ok Y Y (by omega) (by omega)));exact rfl;exact rfl;exact rfl;exact rfl;refine dM ?_)|((refine o_gs rfl rfl (fun hc => ?_) (fun hc => ?_)) <;> (try simp only [dcB] at hc) <;> (try first|contradiction|(exfalso;omega)))
      all_goals first | (exfalso; clear hadd; simp at *; done) | (exfalso; omega) | skip
      all_goals
        repeat refine cr ?_
        refine ends_id ?_
        refine endK [] (h2 := ?_) (h3 := ?_) (nd := ?_)
        all_goals (repeat' first|exact ce0|refine ce ?_|refine ce2 ?_ ?_|exact SVLe.refl|refine ceb ?_)
        all_goals first | exact (show nodupB _ = true from rfl) | exact Or.inr rfl | ((first | rfl | exact kY | (simp [eqI]; done) | (simp_all; done)))
end Go.Proofs.YtbblkhjjgnpbaaaGreatDoor
end
