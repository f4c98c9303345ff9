/- Parts of the proof (19 of 21). -/
import Derived.Lib.AtoiErrMem
import Derived.Test.YtbblkhjjgnpbaaaDoorQ18
section
set_option linter.unusedVariables false
set_option linter.unusedSimpArgs false
set_option maxRecDepth 100000
set_option maxHeartbeats 4000000
namespace Go.Proofs.YtbblkhjjgnpbaaaDoor
open Go Foot Go.RowKit
theorem TrimPrefix_ok (s p : Bs) : Does Tryd.prog 108 [.one (str s),.one (str p)] [] (.one (str (Lib.trimPrefix s p))) [] :=
  does_ext (av := [sv s,sv p]) (rv := sv (Lib.trimPrefix s p)) (fun w S ρ vs => repA_2) (fun w S ρ => ⟨rfl,rfl⟩) fun w S _ => (Tryd.strings_TrimPrefix ⟨s.toArray⟩ ⟨p.toArray⟩ w).mono fun en w' ⟨h1,h2⟩ => by
    subst h2
    exact ⟨h1,Below.refl _ _⟩
theorem repA_3 {w : World} {S : Foot} {ρ : Env} {v u t : Value} {vs : List Value} (h : RepA w S ρ [.one (.d (.sc v)),.one (.d (.sc u)),.one (.d (.sc t))] vs) : vs = [v,u,t] := by
  simp only [RepA,RepS,RepC,Rep] at h
  obtain ⟨_,_,rfl,⟨rfl,_⟩,_,_,rfl,⟨rfl,_⟩,_,_,rfl,⟨rfl,_⟩,rfl⟩ := h
  rfl
theorem ParseInt_ok (s : Bs) (n : Int) (hs : (s.length : Int) ≤ 1000000000) (h : Lib.parseIntB 64 s = .ok n) : Does Tryd.prog 107 [.one (str s),.one (int 10),.one (int 64)] [] (.tup [(false,[int n]),(false,[.d (.sc .nilIface)])]) [] :=
  does_ext (av := [sv s,.int .i64 10,.int .i64 64]) (rv := .tuple #[.int .i64 n,.nilIface]) (fun w S ρ vs => repA_3) (fun w S ρ => ⟨_,rfl,_,_,rfl,⟨_,[],rfl,⟨rfl,rfl⟩,rfl⟩,_,_,rfl,⟨_,[],rfl,⟨rfl,rfl⟩,rfl⟩,rfl⟩) fun w S _ => (Tryd.strconv_ParseInt_10_at64_ok ⟨s.toArray⟩ (by rw [sz_str]; omega) n h w).mono fun en w' ⟨h1,h2⟩ => by
    refine ⟨h1,?_⟩
    rcases h2 with rfl | ⟨t,rfl⟩
    · exact Below.refl _ _
    · exact Lib.bytesWorld_below w 5 t
theorem index_at {c : UInt8} : ∀ {a b : Bs},c ∉ a → Lib.indexByte (a ++ c :: b) c = a.length
  | [],b,_ => by simp [Lib.indexByte]
  | x :: a,b,h => by
    have ih := index_at (c := c) (a := a) (b := b) (fun q => h (by simp [q]))
    have hx : (x == c) = false := by
      rw [beq_eq_false_iff_ne]
      exact fun e => h (by simp [e])
    rw [List.cons_append,Lib.indexByte,hx,ih]
    simp only [Bool.false_eq_true,if_false]
    rw [if_neg (by rw [beq_iff_eq]; omega)]
    simp
theorem parseM {M : Nat} : ∀ {l : Bs} {acc : Nat},(∀ c ∈ l,isDg c) → l.foldl (fun a c => 10 * a + (c.toNat - 48)) acc ≤ 1000000000000000000 → 1000000000000000000 ≤ M → Lib.parseUintM M acc l = .ok (l.foldl (fun a c => 10 * a + (c.toNat - 48)) acc)
  | [],acc,_,_,_ => rfl
  | c :: l,acc,h,hv,hM => by
    have hmono : ∀ (l : Bs) (a : Nat),a ≤ l.foldl (fun a c => 10 * a + (c.toNat - 48)) a := by
      intro l
      induction l with
      | nil => intro a; exact Nat.le_refl _
      | cons x l ih =>
        intro a
        rw [List.foldl_cons]
        exact Nat.le_trans (by omega) (ih _)
    rw [List.foldl_cons] at hv ⊢
    have h1 := hmono l (10 * acc + (c.toNat - 48))
    have hd := h c (by simp)
    unfold isDg at hd
    rw [Lib.parseUintM,if_pos hd,if_neg (by omega),if_neg (by omega),show acc * 10 + (c.toNat - 48) = 10 * acc + (c.toNat - 48) by omega]
    exact parseM (fun x hx => h x (by simp [hx])) hv hM
theorem parse_dec {n : Int} (h0 : 0 ≤ n) (h1 : n ≤ 1000000000000000000) : Lib.parseIntB 64 (decT n) = .ok n := by
  rw [decT_nat h0]
  obtain ⟨d1,d2,d3⟩ := dec_val n.toNat
  cases hl : Lib.decDigits n.toNat with
  | nil => exact absurd hl d3
  | cons c r =>
    rw [hl] at d1 d2
    have hc := d2 c (by simp)
    unfold isDg at hc
    have hp : Lib.parseUintB 64 (c :: r) = .ok n.toNat := by
      unfold Lib.parseUintB
      rw [if_neg (by simp),parseM d2 (by unfold valD at d1; rw [d1]; omega) (by decide)]
      unfold valD at d1
      rw [d1]
    unfold Lib.parseIntB
    simp only
    rw [if_neg (show ¬ (c.toNat = 43 ∨ c.toNat = 45) by omega),hp]
    simp only
    rw [if_neg (by omega),if_neg (by omega),if_neg (by omega)]
    rw [show ((n.toNat : Nat) : Int) = n by omega]
end Go.Proofs.YtbblkhjjgnpbaaaDoor
end
section
set_option linter.unusedVariables false
set_option linter.unusedSimpArgs false
set_option maxRecDepth 100000
set_option maxHeartbeats 4000000
namespace Go.Proofs.YtbblkhjjgnpbaaaDoor
open Go Foot Go.RowKit
theorem preB116 {p : Prop} (h : p := by first | with_reducible assumption | omega | (simp only [List.length_append,List.length_cons,List.length_nil,List.length_set,List.length_replicate,List.length_take,List.length_drop,List.length_tail,List.length_dropLast,List.length_reverse] at *; omega) | exact mem_len (by assumption) (by omega) | (with_reducible refine Int.le_trans (Int.ofNat_le.2 (trimR_len _)) ?_; simp only [List.length_cons,List.length_tail]; omega) | (exact (ruAt_ok (by assumption) (by assumption) (by assumption)).2.1) | (exact (ruAt_ok (by assumption) (by assumption) (by assumption)).2.1) | (have := vMach_bd (by assumption); omega) | (simp only [mC_ch,mC_tu]; omega) | (have := vTag_bd (by assumption); omega) | (have := (‹Gd _ _›).le; omega) | (exact tgHalts_no (by assumption)) | (exact tgHead (by assumption) (by assumption) (by assumption)) | (exact Int.le_trans (tgStep_gd (by assumption) (by assumption) (by assumption) (by assumption)).le (by decide)) | (exact vTag_r (by assumption)) | (with_reducible refine Int.le_trans (Int.ofNat_le.2 (pushL_len _ _)) ?_; simp only [List.length_dropLast]; omega) | exact ls_at (by assumption) (by omega) | exact pt_gd (by assumption) | exact lv_at (by assumption) (by omega) | exact pt_gd (lv_at (by assumption) (by omega)) | exact (ask_ok (by assumption)).1 | exact (ask_ok (by assumption)).2.1 | exact (ask_ok (by assumption)).2.2.1 | exact (ask_ok (by assumption)).2.2.2 | trivial) : p := h
theorem IndexB_ok (s : Bs) (c : UInt8) : Does Tryd.prog 110 [.one (str s),.one (str [c])] [] (.one (int (Lib.indexByte s c))) [] :=
  does_ext (av := [sv s,sv [c]]) (rv := .int .i64 (Lib.indexByte s c)) (fun w S ρ vs => repA_2) (fun w S ρ => ⟨rfl,rfl⟩) fun w S _ => (Tryd.strings_Index_one ⟨s.toArray⟩ c w).mono fun en w' ⟨h1,h2⟩ => by
    subst h2
    exact ⟨h1,Below.refl _ _⟩
theorem CountB_ok (s : Bs) (c : UInt8) : Does Tryd.prog 109 [.one (str s),.one (str [c])] [] (.one (int (Lib.countByte s c))) [] :=
  does_ext (av := [sv s,sv [c]]) (rv := .int .i64 (Lib.countByte s c)) (fun w S ρ vs => repA_2) (fun w S ρ => ⟨rfl,rfl⟩) fun w S _ => (Tryd.strings_Count_one ⟨s.toArray⟩ c w).mono fun en w' ⟨h1,h2⟩ => by
    subst h2
    exact ⟨h1,Below.refl _ _⟩
def spl (c : UInt8) : Bs → List Bs
  | [] => [[]]
  | x :: s => if x = c then [] :: spl c s else match spl c s with
    | [] => [[x]]
    | p :: r => (x :: p) :: r
theorem spl_no {c : UInt8} : ∀ {s : Bs},c ∉ s → spl c s = [s]
  | [],_ => rfl
  | x :: s,h => by
    rw [spl,if_neg (fun e => h (by simp [e])),spl_no (fun q => h (by simp [q]))]
theorem spl_app {c : UInt8} {b : Bs} : ∀ {a : Bs},c ∉ a → spl c (a ++ c :: b) = a :: spl c b
  | [],_ => by simp [spl]
  | x :: a,h => by
    rw [List.cons_append,spl,if_neg (fun e => h (by simp [e])),spl_app (fun q => h (by simp [q]))]
theorem count_no {c : UInt8} : ∀ {s : Bs},c ∉ s → Lib.countByte s c = 0
  | [],_ => rfl
  | x :: s,h => by
    have hx : (x == c) = false := by rw [beq_eq_false_iff_ne]; exact fun e => h (by simp [e])
    have := count_no (c := c) (s := s) (fun q => h (by simp [q]))
    simp [Lib.countByte] at *
    simp_all
theorem index_split {c : UInt8} : ∀ {s : Bs},0 ≤ Lib.indexByte s c → ∃ a b,s = a ++ c :: b ∧ c ∉ a
  | [],h => by simp [Lib.indexByte] at h
  | x :: s,h => by
    by_cases e : x = c
    · exact ⟨[],s,by simp [e],by simp⟩
    · have hx : (x == c) = false := by rw [beq_eq_false_iff_ne]; exact e
      rw [Lib.indexByte,hx] at h
      simp only [Bool.false_eq_true,if_false] at h
      have hs : 0 ≤ Lib.indexByte s c := by
        rcases Int.lt_or_le (Lib.indexByte s c) 0 with q | q
        · have := Lib.indexByte_ge s c
          rw [show Lib.indexByte s c = -1 by omega] at h
          simp at h
        · exact q
      obtain ⟨a,b,e1,e2⟩ := index_split hs
      refine ⟨x :: a,b,by rw [e1]; rfl,fun q => ?_⟩
      rw [List.mem_cons] at q
      rcases q with q | q
      · exact e q.symm
      · exact e2 q
theorem count_app {c : UInt8} {a b : Bs} (h : c ∉ a) : Lib.countByte (a ++ c :: b) c = Lib.countByte b c + 1 := by
  have := count_no h
  unfold Lib.countByte at *
  rw [List.count_append,this,List.count_cons_self]
  omega
theorem index_nn {c : UInt8} : ∀ {s : Bs},c ∈ s → 0 ≤ Lib.indexByte s c
  | x :: s,h => by
    by_cases e : x = c
    · rw [Lib.indexByte,show (x == c) = true by simp [e]]; simp
    · have hx : (x == c) = false := by rw [beq_eq_false_iff_ne]; exact e
      rw [List.mem_cons] at h
      have ih := index_nn (c := c) (s := s) (by rcases h with q | q; exact absurd q.symm e; exact q)
      rw [Lib.indexByte,hx]
      simp only [Bool.false_eq_true,if_false]
      rw [if_neg (by rw [beq_iff_eq]; omega)]
      omega
theorem genSplit_ok (s : Bs) (c : UInt8) (hs : (s.length : Int) ≤ 1048576) : Does Tryd.prog 106 [.one (str s),.one (str [c]),.one (int 0),.one (int (-1))] [] (.one (.gv 0)) [.row 1 (rows eS (spl c s))] := by
  have hcl : Lib.countByte s c ≤ s.length := List.count_le_length
  have hone : ((([c] : Bs).length : Nat) : Int) = 1 := rfl
  refine does_of (k := 0) Tryd.func106 rfl Tryd.ntmps106 rfl rfl fun w F0 S0 ρ0 => ?_
  dsimp only [argT,argH]
  repeat' first|(apply n3;exact a_make (fE rfl) (fZ rfl) (fP rfl) (by decide) rfl rfl (by omega) rfl (by omega) (by omega) (rows_rep eS [] _);exact rfl;refine dA ?_)|(apply p3;(first|exact pu1|exact puC|exact a_eqT rfl rfl|exact a_add rfl rfl (by omega) (by omega)|exact a_lenT rfl (fT rfl)|exact a_min rfl rfl|exact a_sub rfl rfl (by omega) (by omega));exact rfl)|refine cd ?_|(apply c4 0;exact callK1 (θ := []) (hD := (CountB_ok _ _));exact rfl;exact rfl;exact rfl;refine dM ?_)
  rw [if_neg (by omega)]
  skip
  refine g_loop_id ?_
  refine loopK [1,2,3,8,9] [0] (fun y : Int × Bs × List Bs => 0 ≤ y.1 ∧ y.1 ≤ Lib.countByte s c ∧ y.2.2.length = Lib.countByte s c + 1 ∧ (Lib.countByte y.2.1 c : Int) = Lib.countByte s c - y.1 ∧ y.2.1.length ≤ s.length ∧ spl c s = y.2.2.take y.1.toNat ++ spl c y.2.1) (fun y => [(10,.one (int y.1)),(0,.one (str y.2.1))]) (fun y => [(0,.row 1 (rows eS y.2.2))]) (fun y => (Lib.countByte s c - y.1).toNat) ((0 : Int),s,List.replicate ((Lib.countByte s c : Int) + 1).toNat ([] : Bs)) [0] (hI := ?_) (hr := ?_)
  · exact ⟨by simp,by simp,by simp,by simp,by simp,by simp⟩
  · rintro ⟨i,cur,l⟩ ⟨h0,h1,h2,h3,h4,h5⟩
    dsimp only [List.cons_append,List.nil_append] at *
    skip
    repeat' first|(apply p3;(first|exact pu1|exact puC|exact a_add rfl rfl (by omega) (by omega)|exact puI);exact rfl)|refine cd ?_|(apply w3;(exact a_stE (E := eS) _ rfl rfl rfl rfl (fN rfl rfl) bnd (by exact rfl));exact rfl;refine dS ?_)|(apply c4 0;exact callK1 (θ := []) (hD := (IndexB_ok _ _));exact rfl;exact rfl;exact rfl;refine dM ?_)|(refine g_cond (c := .tmp 36) rfl (fun hc => ?_) (fun hc => ?_) <;> (try simp only [dcB] at hc) <;> (try (first|contradiction|(exfalso;omega))))
    · have hpos : 0 ≤ Lib.indexByte cur c := by
        rcases Int.lt_or_le (Lib.indexByte cur c) 0 with q | q
        · exfalso
          by_cases hm : c ∈ cur
          · obtain ⟨a,b,e⟩ := List.append_of_mem hm
            exact absurd q (by have := index_nn hm; omega)
          · have := count_no hm
            omega
        · exact q
      obtain ⟨a,b,e1,e2⟩ := index_split hpos
      subst e1
      have e3 := index_at (b := b) e2
      have e4 := count_app (b := b) e2
      rw [spl_app e2] at h5
      have e5 : (a ++ c :: b).length = a.length + b.length + 1 := by simp; omega
      have e6 : (a ++ c :: b).take ((a.length : Int) + 0).toNat = a := by simp
      have e7 : (a ++ c :: b).drop ((a.length : Int) + (([c] : Bs).length : Int)).toNat = b := by
        rw [show ((a.length : Int) + (([c] : Bs).length : Int)).toNat = a.length + 1 by simp,← List.drop_drop]
        simp
      rw [e3]
      repeat' first|(apply p3;(first|exact pu1|exact a_add rfl rfl (by omega) (by omega)|exact a_slSh rfl rfl (fT rfl) (by omega) bnd|exact a_lenT rfl (fT rfl)|exact a_slSl rfl rfl (fT rfl) (by omega) bnd|exact puI);exact rfl)|refine cd ?_|(apply w3;(exact a_stE (E := eS) _ rfl rfl rfl rfl (fN rfl rfl) bnd (by exact rfl));exact rfl;refine dS ?_)
      rw [e6,e7]
      refine q_again (i + 1,b,l.set i.toNat a) [0] (by exact stk) ?_ ?_
      · refine ⟨by dsimp only; omega,by dsimp only; omega,by simp [h2],by dsimp only; omega,by dsimp only; omega,?_⟩
        dsimp only
        rw [h5,show (i + 1).toNat = i.toNat + 1 by omega,List.take_succ_eq_append_getElem (by rw [List.length_set]; omega),List.getElem_set_self]
        simp [List.take_set_of_le]
      · omega
    · have hin : i = Lib.countByte s c := by omega
      have hno : c ∉ cur := fun q => by
        have := List.count_pos_iff.2 q
        have h6 : Lib.countByte cur c = 0 := by omega
        unfold Lib.countByte at h6
        omega
      have hset : (l.set i.toNat cur).length = l.length := List.length_set
      rw [spl_no hno] at h5
      have e : (l.set i.toNat cur) = spl c s := by
        rw [h5]
        apply List.ext_getElem
        · simp [h2]; omega
        · intro k k1 k2
          rw [List.getElem_set]
          split
          · next q => subst q; simp [List.getElem_append]; omega
          · next q =>
            rw [List.length_set] at k1
            rw [List.getElem_append_left (by simp; omega)]
            simp
      repeat' first|(apply p3;(exact pu1);exact rfl)|refine cd ?_|(apply s3;exact a_slHO rfl rfl rfl (fS rfl) (by omega) (by omega) (by exact rfl) (by decide);exact rfl;exact rfl)
      rw [List.take_of_length_le (by omega),e]
      repeat refine cr ?_
      refine ends_id ?_
      refine endK [?_] (h2 := ?_) (h3 := ?_) (nd := ?_)
      rotate_left 1
      all_goals (repeat' first|exact ce0|refine ce ?_|refine ce2 ?_ ?_|(refine Or.inr (bx_eq rfl rfl ?_);(try dsimp only [C.ren,C.ren.all]);(try exact rfl))|exact SVLe.refl|refine ceb ?_)
      all_goals first | exact (show nodupB _ = true from rfl) | exact Or.inr rfl | (rfl)
theorem Split_ok (s : Bs) (c : UInt8) (hs : (s.length : Int) ≤ 1048576) : Does Tryd.prog 90 [.one (str s),.one (str [c])] [] (.one (.gv 0)) [.row 1 (rows eS (spl c s))] := by
  refine does_of (k := 0) Tryd.func90 rfl Tryd.ntmps90 rfl rfl fun w F0 S0 ρ0 => ?_
  dsimp only [argT,argH]
  repeat' first|(apply p3;exact pu1;exact rfl)|refine cd ?_|(apply c4 1;exact callK1 (θ := []) (hD := (genSplit_ok _ _ preB116));exact rfl;exact rfl;exact rfl;refine dM ?_)
  repeat refine cr ?_
  refine ends_id ?_
  refine endK [?_] (h2 := ?_) (h3 := ?_) (nd := ?_)
  rotate_left 1
  all_goals (repeat' first|exact ce0|refine ce ?_|refine ce2 ?_ ?_|(refine Or.inr (bx_eq rfl rfl ?_);(try dsimp only [C.ren,C.ren.all]);(try exact rfl))|exact SVLe.refl|refine ceb ?_)
  all_goals first | exact (show nodupB _ = true from rfl) | exact Or.inr rfl | (rfl)
def rpl (c d : UInt8) (s : Bs) : Bs := s.map fun x => if x = c then d else x
theorem rpl_no {c d : UInt8} : ∀ {s : Bs},c ∉ s → rpl c d s = s
  | [],_ => rfl
  | x :: s,h => by
    have := rpl_no (c := c) (d := d) (s := s) (fun q => h (by simp [q]))
    unfold rpl at *
    rw [List.map_cons,if_neg (fun e => h (by simp [e])),this]
theorem rpl_app (c d : UInt8) (a b : Bs) : rpl c d (a ++ b) = rpl c d a ++ rpl c d b := by unfold rpl; rw [List.map_append]
theorem rpl_len (c d : UInt8) (a : Bs) : (rpl c d a).length = a.length := by unfold rpl; rw [List.length_map]
end Go.Proofs.YtbblkhjjgnpbaaaDoor
end
section
set_option linter.unusedVariables false
set_option linter.unusedSimpArgs false
set_option maxRecDepth 100000
set_option maxHeartbeats 4000000
namespace Go.Proofs.YtbblkhjjgnpbaaaDoor
open Go Foot
theorem valD_lt : ∀ (n : Nat) {l : Bs},l.length = n → (∀ c ∈ l,isDg c) → valD l < 10 ^ n
  | 0,l,h,_ => by
    have : l = [] := List.length_eq_zero_iff.1 h
    subst this
    simp [valD]
  | n + 1,l,h,hd => by
    have hne : l ≠ [] := fun e => by rw [e] at h; simp at h
    obtain ⟨a,c,rfl⟩ : ∃ a c,l = a ++ [c] := ⟨l.dropLast,l.getLast hne,(List.dropLast_concat_getLast hne).symm⟩
    have ih := valD_lt n (l := a) (by simp at h; exact h) fun x hx => hd x (by simp [hx])
    have hc := hd c (by simp)
    unfold isDg at hc
    rw [valD_snoc,Nat.pow_succ]
    omega
theorem dec_len {k u : Nat} (hk : 1 ≤ k) (h : u < 10 ^ k) : (Lib.decDigits u).length ≤ k := by
  by_cases h0 : u = 0
  · subst h0; simp [Lib.decDigits]; omega
  · rw [← drev_dec u h0,byt_len,List.length_reverse]; exact drev_le k u h
theorem len_dec {k u : Nat} (h : (Lib.decDigits u).length ≤ k) : u < 10 ^ k := by
  obtain ⟨d1,d2,d3⟩ := dec_val u
  have := valD_lt _ rfl d2
  rw [d1] at this
  exact Nat.lt_of_lt_of_le this (Nat.pow_le_pow_right (by omega) h)
def valS : Bs → Int
  | [] => 0
  | c :: r => if c = 45 then -((valD r : Nat) : Int) else ((valD (c :: r) : Nat) : Int)
@[irreducible] def numS (s : Bs) : Option Int := if decT (valS s) = s ∧ -1000000000000000000 < valS s ∧ valS s < 1000000000000000000 then some (valS s) else none
theorem decT_neg {n : Int} (h : n < 0) : decT n = 45 :: Lib.decDigits n.natAbs := by unfold decT Lib.itoa; rw [if_pos h]
theorem dg_ne {c : UInt8} (h : isDg c) : c ≠ 45 := by rintro rfl; revert h; unfold isDg; decide
theorem valS_dec (n : Int) : valS (decT n) = n := by
  by_cases h : n < 0
  · rw [decT_neg h,valS,if_pos rfl,(dec_val _).1]; omega
  · rw [decT_nat (by omega)]
    obtain ⟨d1,d2,d3⟩ := dec_val n.toNat
    cases hq : Lib.decDigits n.toNat with
    | nil => exact absurd hq d3
    | cons c r =>
      rw [hq] at d1 d2
      rw [valS,if_neg (dg_ne (d2 c (by simp))),d1]
      omega
theorem numS_some {s : Bs} {n : Int} : numS s = some n ↔ decT n = s ∧ -1000000000000000000 < n ∧ n < 1000000000000000000 := by
  unfold numS
  constructor
  · intro h
    split at h
    · next hh => cases h; exact hh
    · cases h
  · rintro ⟨rfl,h1,h2⟩
    rw [valS_dec,if_pos ⟨rfl,h1,h2⟩]
theorem parse_dec2 {n : Int} (h1 : -1000000000000000000 < n) (h2 : n < 1000000000000000000) : Lib.parseIntB 64 (decT n) = .ok n := by
  by_cases h : n < 0
  · rw [decT_neg h]
    obtain ⟨d1,d2,d3⟩ := dec_val n.natAbs
    have hp : Lib.parseUintB 64 (Lib.decDigits n.natAbs) = .ok n.natAbs := by
      unfold Lib.parseUintB
      rw [if_neg d3,parseM d2 (by unfold valD at d1; rw [d1]; omega) (by decide)]
      unfold valD at d1
      rw [d1]
    unfold Lib.parseIntB
    simp only
    rw [if_pos (.inr (by decide)),hp]
    simp only
    rw [if_neg (fun q => q.1 (by decide)),if_neg (fun q => by have := q.2; omega),if_pos (by decide)]
    congr 1
    omega
  · exact parse_dec (by omega) (by omega)
theorem parse_bd {s : Bs} {v : Int} (h : Lib.parseIntB 64 s = .ok v) : -9223372036854775808 ≤ v ∧ v ≤ 9223372036854775807 := by
  cases s with
  | nil => cases h
  | cons c r =>
    simp only [Lib.parseIntB] at h
    split at h
    · cases h
    · cases h
    · split at h
      · cases h
      · split at h
        · cases h
        · simp only [Lib.NumEnd.ok.injEq] at h
          subst h
          split <;> omega
theorem trim_dec (n : Int) : Lib.trimPrefix (decT n) [45] = Lib.decDigits n.natAbs := by
  unfold Lib.trimPrefix
  by_cases h : n < 0
  · rw [decT_neg h,if_pos (by simp [Lib.hasPrefix])]
    rfl
  · have e := decT_nat (n := n) (by omega)
    obtain ⟨_,d2,d3⟩ := dec_val n.toNat
    rw [e,show n.natAbs = n.toNat by omega,if_neg]
    intro q
    cases hq : Lib.decDigits n.toNat with
    | nil => exact d3 hq
    | cons c r =>
      rw [hq] at q d2
      simp [Lib.hasPrefix] at q
      exact dg_ne (d2 c (by simp)) q.symm
def numL : List Bs → Option (List Int)
  | [] => some []
  | p :: r => (numS p).bind fun n => (numL r).map (n :: ·)
theorem numL_len : ∀ {l : List Bs} {w : List Int},numL l = some w → w.length = l.length
  | [],w,h => by cases h; rfl
  | p :: r,w,h => by
    unfold numL at h
    cases hp : numS p with
    | none => rw [hp] at h; cases h
    | some n =>
      rw [hp,Option.bind_some] at h
      cases hr : numL r with
      | none => rw [hr] at h; cases h
      | some v =>
        rw [hr] at h
        simp only [Option.map_some,Option.some.injEq] at h
        subst h
        simp [numL_len hr]
theorem numL_snoc : ∀ (l : List Bs) (p : Bs),numL (l ++ [p]) = (numL l).bind fun w => (numS p).map (w ++ [·])
  | [],p => by
    simp only [List.nil_append,numL]
    cases numS p <;> rfl
  | q :: r,p => by
    rw [List.cons_append,numL,numL_snoc r p,numL]
    cases numS q with
    | none => rfl
    | some n =>
      cases numL r with
      | none => rfl
      | some w => cases numS p <;> rfl
theorem numL_none {l : List Bs} : ∀ {i : Nat} (h : i < l.length),numS (l[i]) = none → numL l = none := by
  induction l with
  | nil => intro i h; simp at h
  | cons p r ih =>
    intro i h e
    unfold numL
    cases i with
    | zero => rw [List.getElem_cons_zero] at e; rw [e]; rfl
    | succ i =>
      rw [List.getElem_cons_succ] at e
      rw [ih (by simpa using h) e]
      cases numS p <;> rfl
end Go.Proofs.YtbblkhjjgnpbaaaDoor
end
section
set_option linter.unusedVariables false
set_option linter.unusedSimpArgs false
set_option maxRecDepth 100000
namespace Go.Proofs.YtbblkhjjgnpbaaaDoor
open Go Foot Go.Shelf Go.RowKit
def frB (T : Nat) : Opq where
  p w _ us F := ∃ b,us = [.pointer (some ⟨b,0,none⟩)] ∧ w.heap[b]? = some (.cells #[.pointer none,.slice none 0 0] T (0,0)) ∧ ∀ o,F b o
  keep := by
    rintro w w' S S' F F' us ⟨b,rfl,h1,h2⟩ hF _ _ hf
    exact ⟨b,rfl,heap_agree h1 h2 hF,fun o => hf _ _ (h2 o)⟩
theorem a_allocF {P : Program} {g : Gh} {st : St} {dst : Option Tmp} {ty : TypeId} {pos : String} {after : Array Edge} {guard : Option (Nat × Bool)} {T i : Nat} (hT : zeroC P T = some [.pointer none,.slice none 0 0]) : Acts P g ⟨dst,.alloc T,ty,pos,after,guard⟩ st (.one (.gv i)) [] [(i,.opq (frB T) [i])] := by
  refine ⟨fun a w S ρ F h hn K Q hK => ?_⟩
  have hn' : ρ i = none := by simpa using hn (i,.opq (frB T) [i]) (by simp)
  clear hn
  unfold zeroC at hT
  split at hT
  case h_2 => cases hT
  rename_i inf hi
  split at hT
  case h_2 => cases hT
  rename_i zv hz
  cases hb : zv.cells.toList.all Value.oneCell' with
  | false => rw [hb] at hT; cases hT
  | true =>
    rw [hb] at hT
    simp only [cond_true,Option.some.injEq] at hT
    have hrun : (execOp a.eval ⟨dst,.alloc T,ty,pos,after,guard⟩).run P w = .ok (.value (.pointer (some ⟨w.heap.size,0,none⟩))) (w.alloc (.cells zv.cells.toList.toArray T)) := by
      simp [execOp,Instr.alloc,zeroValue,typeInfo,hi,hz,run_newRow,go_sem]
    rw [hT] at hrun
    refine oper_in (fun _ h => nomatch h) ?_
    rw [hrun,Oper.uponIn_value]
    refine hK _ _ no _ _ (Done.new (S1 := no) (u := .pointer (some ⟨w.heap.size,0,none⟩)) (G := fun b _ => b = w.heap.size) (keeps_alloc _) hn' (fun ρ' hl he => ?_) (by rintro b o rfl; simp)) ⟨by simp,rfl⟩
    exact ⟨[.pointer (some ⟨w.heap.size,0,none⟩)],by simp [he],w.heap.size,rfl,by simp [heap_alloc],fun _ => rfl⟩
theorem does_fresh {P : Program} {f : Nat} {T e : Nat} {l' : List UInt8} {ags : List SV} {av : List Value} {res : SV} {rv : Value} (ha : ∀ w S ρ vs,RepA w S ρ ags vs → vs = av) (hr : ∀ w S ρ,RepS w S ρ res rv)
    (hc : ∀ (w : World) (b : Nat),w.heap[b]? = some (.cells #[.pointer none,.slice none 0 0] T (0,0)) → Calls P f (self b :: av).toArray w fun en w' => en = .returned rv ∧ BlTo w w' T e b (.slice none 0 0) (Lib.byteCells l')) :
    Does P f (.one (.gv 0) :: ags) [.opq (frB T) [0]] res [.bld T e l'] := by
  intro vs w S ρ F hA hG
  simp only [RepA] at hA
  obtain ⟨v0,us,rfl,h0,hA⟩ := hA
  have := ha _ _ _ _ hA
  subst this
  obtain ⟨v,hv,hg⟩ := (hG.roots 0 (.opq (frB T) [0]) rfl).resolve_left (by simp)
  simp only [RepG] at hg
  obtain ⟨us,hu,b,rfl,hat,hFb⟩ := hg
  have hvb : v = .pointer (some ⟨b,0,none⟩) := by simp [hv] at hu; exact hu
  subst hvb
  have hFq : ∀ g,(Value.slice none 0 0).ownBlock = some g → ∀ o,F 0 g o := fun g hg => by simp [Value.ownBlock] at hg
  have h0' := h0.1
  rw [hv] at h0'
  cases h0'
  refine (hc w b hat).mono ?_
  rintro en w' ⟨rfl,p',v',hB,hon,hfr⟩
  have hFb' : ∀ o,upTo F 1 b o := fun o => ⟨0,by omega,hFb o⟩
  have hbl : ∀ k,k < w.heap.size → (∃ o,¬ upTo F 1 k o) → w'.heap[k]? = w.heap[k]? := fun k hk ⟨o,ho⟩ => hfr.block k hk (fun e => by subst e; exact ho (hFb' o)) (fun e => ho ⟨0,by omega,hFq k e.symm o⟩)
  have hl' : (Lib.byteCells l').length = l'.length := Lib.byteCells_length l'
  refine ⟨rv,no,ρ,fun i => if i = 0 then (fun b o => F 0 b o ∨ w.heap.size ≤ b ∧ b < w'.heap.size) else no,rfl,?_,hr _ _ _⟩
  refine ⟨⟨hfr.os,hfr.tape,hfr.output,hfr.size,fun k hk hn => hbl k hk ⟨0,hn 0⟩,fun k o hk hn => ?_⟩,no_le _,fun _ _ h => h.elim,by simp,fun i u _ h => h,hG.new,?_,fun i j hi hj hij => ?_,fun i _ => by rintro b o _ h; exact h.elim,fun i hi => ?_,fun i hi b o hb => ?_⟩
  · have e := hbl k hk ⟨o,hn⟩
    simp [World.cell?,World.frozen?,mapAt,e]
  · intro i gb hi
    match i,hi with
    | 0,hi =>
      simp at hi
      subst hi
      refine .inr ⟨_,hv,b,rfl,p',v',hB.adr,hB.at_,hl' ▸ hB.own,hB.ne,fun o => .inl (hFb o),fun g hg o => ?_⟩
      rcases hon with e | e | ⟨g',e,hg'⟩
      · rw [e] at hg; exact .inl (hFq g hg o)
      · rw [e] at hg; cases hg
      · rw [e] at hg
        cases hg
        exact .inr ⟨hg',(hB.own.lt g e).2⟩
    | i + 1,hi => simp at hi
  · simp at hi hj; omega
  · have : i = 0 := by simpa using hi
    subst this
    rintro b' o' hb
    simp only [if_true] at hb
    rcases hb with hb | ⟨hb,_⟩
    · exact .inl ⟨0,by simp,hb⟩
    · exact .inr hb
  · have : i = 0 := by simpa using hi
    subst this
    simp only [if_true] at hb
    rcases hb with hb | ⟨_,hb⟩
    · have := hG.ex 0 (by simp) b o hb
      have := hfr.size
      omega
    · exact hb
theorem alloc_set {w : World} {a : Addr} {v : Value} {o : Obj} (h : a.block < w.heap.size) : (w.setCell a v).alloc o = (w.alloc o).setCell a v := by
  unfold World.setCell World.alloc
  dsimp only
  congr 1
  apply Array.ext_getElem?
  intro i
  simp only [Array.getElem?_push,Array.getElem?_modify,Array.size_modify]
  by_cases h1 : i = w.heap.size
  · subst h1
    have hne : ¬ a.block = w.heap.size := by omega
    simp [hne]
  · simp [h1]
theorem bl_grown {T e b : Nat} {w : World} {cs : Array Value} (hbk : w.heap[b]? = some (.cells #[self b,.slice none 0 0] T (0,0))) (hm : cs.size ≤ maxLen) (hTe : T ≠ e) :
    BlTo w ((w.alloc (.cells cs e)).setCell ⟨b,1,none⟩ (.slice (some ⟨w.heap.size,0,none⟩) 0 cs.size)).drew.drew.drew T e b (.slice none 0 0) [] := by
  obtain ⟨⟨_,v,h1,h2,h3⟩,_⟩ := Lib.grown_fresh (B := 0) (Nat.zero_le b) hbk (Nat.zero_le _) hm hTe
  have hlt := heap_lt hbk
  have hb2 : (w.alloc (.cells cs e)).heap[b]? = some (.cells #[self b,.slice none 0 0] T (0,0)) := (Lib.alloc_old w _ b hlt).trans hbk
  have d1 : (w.alloc (.cells cs e)).cell? ⟨b,1,none⟩ = some (.slice none 0 0) := by rw [Lib.cell_of_heap hb2]; rfl
  have hv : v = .slice (some ⟨w.heap.size,0,none⟩) 0 cs.size := by
    have : ((w.alloc (.cells cs e)).setCell ⟨b,1,none⟩ (.slice (some ⟨w.heap.size,0,none⟩) 0 cs.size)).cell? ⟨b,1,none⟩ = some v := by
      have h1' : ((w.alloc (.cells cs e)).setCell ⟨b,1,none⟩ (.slice (some ⟨w.heap.size,0,none⟩) 0 cs.size)).heap[b]? = some (.cells #[self b,v] T (0,0)) := h1
      rw [Lib.cell_of_heap h1']; rfl
    rw [cell_set_same d1] at this
    exact (Option.some.inj this).symm
  subst hv
  refine ⟨self b,_,⟨.inr rfl,h1,World.ownsRowF_of h2,h3⟩,.inr (.inr ⟨w.heap.size,rfl,Nat.le_refl _⟩),?_⟩
  exact (((((Fr.alloc b _ w _).trans (Fr.set _ _ _ _ _) (fun _ _ e => e)).trans (Fr.drew b _ _) (fun _ _ e => e)).trans (Fr.drew b _ _) (fun _ _ e => e)).trans (Fr.drew b _ _) (fun _ _ e => e))
end Go.Proofs.YtbblkhjjgnpbaaaDoor
end
section
set_option linter.unusedVariables false
set_option linter.unusedSimpArgs false
set_option maxRecDepth 1000000
namespace Go.Proofs.YtbblkhjjgnpbaaaDoor
open Go Foot Go.Shelf Go.RowKit
set_option maxHeartbeats 4000000 in
theorem bs_growF {b n : Nat} {w : World} (hbk : w.heap[b]? = some (.cells #[self b,.slice none 0 0] 139 (0,0))) (hn : n ≤ 281474976710656) :
    Calls Tryd.prog 114 #[self b,.int .i64 n] w fun en w' => en = .returned (.tuple #[]) ∧ BlTo w w' 139 5 b (.slice none 0 0) [] := by
  obtain ⟨cs,hrun,hle,hmax⟩ := Lib.run_makeNoZero (P := Tryd.prog) w.drew #[3] 40 5 Tryd.underlying40 n hn
  have hw : IntKind.i64.wrap (IntKind.i64.wrap 0 + (n : Int)) = n := by
    rw [IntKind.wrap_i64,IntKind.wrap_i64]; omega
  have hcall : (callFunc 127 #[.int .i64 (IntKind.i64.wrap (IntKind.i64.wrap 0 + (n : Int)))]).run Tryd.prog w.drew = .ok (.value (.slice (some ⟨w.drew.heap.size,0,none⟩) n cs.size)) (w.drew.drew.drew.alloc (.cells cs 5)) := by
    rw [hw,run_callFunc_extern Tryd.func127 (by kernel_rfl) (by kernel_rfl) (by kernel_rfl) (e := Extern.BytealgMakeNoZero.makeNoZero #[3] #[40]) (by kernel_rfl),hrun]
    rfl
  have hlt := heap_lt hbk
  have hd : w.drew.heap[b]? = _ := hbk
  have ha : (w.alloc (.cells cs 5)).heap[b]? = _ := (Lib.alloc_old w _ b hlt).trans hbk
  have c1 : w.drew.cell? ⟨b,1,none⟩ = some (.slice none 0 0) := by rw [Lib.cell_of_heap hd]; rfl
  have c2 : (w.alloc (.cells cs 5)).cell? ⟨b,1,none⟩ = some (.slice none 0 0) := by rw [Lib.cell_of_heap ha]; rfl
  have f2 : (w.alloc (.cells cs 5)).frozen? ⟨b,1,none⟩ = false := Lib.frozen_of_heap ha 1
  have hcopy : ∀ W : World,(Builtin.copy_ #[40,40] 3 #[.slice (some ⟨w.heap.size,0,none⟩) 0 cs.size,.slice none 0 0]).run Tryd.prog W = .ok (goInt 0) W :=
    fun W => run_copy_none W _ _ _ 5 _ _ 0 cs.size 0 0 Tryd.underlying40 (by kernel_rfl) rfl
  have hfin := bl_grown (e := 5) hbk (hmax (by unfold maxLen; omega)) (by decide)
  clear hw
  have mixed : Tryd.prog.follows .mixedOrders = true := by kernel_rfl
  go_enter Tryd.func114,Tryd.ntmps114
  go_wp2
  go_region_o
  all_goals (go_wp2; go_end0; first | exact ⟨rfl,hfin⟩ | (refine ⟨rfl,?_⟩; rw [alloc_set hlt]; exact hfin))
end Go.Proofs.YtbblkhjjgnpbaaaDoor
end
section
set_option linter.unusedVariables false
set_option linter.unusedSimpArgs false
set_option maxRecDepth 1000000
namespace Go.Proofs.YtbblkhjjgnpbaaaDoor
open Go Foot Go.Shelf Go.RowKit
set_option maxHeartbeats 4000000 in
theorem bs_GrowF {b n : Nat} {w : World} (hbk : w.heap[b]? = some (.cells #[.pointer none,.slice none 0 0] 139 (0,0))) (hn : n ≤ 281474976710656) :
    Calls Tryd.prog 95 #[self b,.int .i64 n] w fun en w' => en = .returned (.tuple #[]) ∧ BlTo w w' 139 5 b (.slice none 0 0) [] := by
  have h : Bl w 139 5 b (.pointer none) (.slice none 0 0) [] := ⟨.inl rfl,hbk,World.ownsRowF_nil _ _ _ _,by simp [Value.ownBlock]⟩
  have e240 : ∀ args w,(callFunc 113 args).run Tryd.prog w = .ok (.enter 113 args) w := enters_of Tryd.func113 (by kernel_rfl) rfl
  have e241 : ∀ args w,(callFunc 114 args).run Tryd.prog w = .ok (.enter 114 args) w := enters_of Tryd.func114 (by kernel_rfl) rfl
  have mixed : Tryd.prog.follows .mixedOrders = true := by kernel_rfl
  go_enter Tryd.func95,Tryd.ntmps95
  go_wp2_with (go_at_fn 113; refine (bs_check h).mono ?_)
  rintro e w1 ⟨rfl,-,h1,hf1⟩
  have hbk1 := h1.at_
  have hbk2 : w1.drew.heap[b]? = some (.cells #[self b,.slice none 0 0] 139 (0,0)) := hbk1
  have hf2 : Fr b none w w1.drew := Fr.trans hf1 (Fr.drew b none w1) (fun _ _ e => e)
  have fin1 : BlTo w w1.drew 139 5 b (.slice none 0 0) [] := ⟨_,_,h1.drew,.inl rfl,hf2⟩
  have fin2 : ∀ w2,BlTo w1.drew w2 139 5 b (.slice none 0 0) [] → BlTo w w2 139 5 b (.slice none 0 0) [] := by
    rintro w2 ⟨p',v',k1,k2,k3⟩
    refine ⟨p',v',k1,?_,Fr.trans hf2 k3 (fun _ _ e => e)⟩
    rcases k2 with e | e | ⟨g,e,hg⟩
    · exact .inl e
    · exact .inr (.inl e)
    · exact .inr (.inr ⟨g,e,by have := hf2.size; omega⟩)
  clear h h1 hf1 hf2
  have c1 : w1.cell? ⟨b,1,none⟩ = some (.slice none 0 0) := by rw [Lib.cell_of_heap hbk1]; rfl
  go_wp2
  go_region_o
  go_wp2_with (go_at_fn 114; refine (bs_growF hbk2 hn).mono ?_)
  · rintro e w2 ⟨rfl,hB⟩
    go_wp2
    go_end0
    exact ⟨rfl,fin2 _ hB⟩
  · go_end0
    exact ⟨rfl,fin1⟩
section
variable {g : Gh} {st : St} {dst : Option Tmp} {ty : TypeId} {pos : String} {after : Array Edge} {guard : Option (Nat × Bool)} {i : Nat}
theorem a_newF : Acts Tryd.prog g ⟨dst,.alloc 139,ty,pos,after,guard⟩ st (.one (.gv i)) [] [(i,.opq (frB 139) [i])] := a_allocF (by kernel_rfl)
end
def erR : Opq where
  p _ _ us _ := ∃ te a,us = [.iface te (.pointer (some a))]
  keep := fun h _ _ _ _ => h
theorem does_err {P : Program} {f : Nat} {ags : List SV} {av : List Value} {m : Int} (ha : ∀ w S ρ vs,RepA w S ρ ags vs → vs = av)
    (hc : ∀ (w : World) (S : Foot),Tabs w S → Calls P f av.toArray w fun en w' => ∃ te a,en = .returned (.tuple #[.int .i64 m,.iface te (.pointer (some a))]) ∧ Below w.heap.size w w') :
    Does P f ags [] (.tup [(false,[int m]),(false,[.gv 0])]) [.opq erR [0]] := by
  intro vs w S ρ F hA hG
  have := ha _ _ _ _ hA
  subst this
  refine (hc w S hG.tab).mono ?_
  rintro en w' ⟨te,a,rfl,hb⟩
  have hn : ρ 0 = none := hG.new 0 (Nat.le_refl _)
  refine ⟨_,no,fun i => if i = 0 then some (.iface te (.pointer (some a))) else ρ i,fun _ => no,rfl,?_,⟨_,rfl,_,_,rfl,⟨_,[],rfl,⟨rfl,rfl⟩,rfl⟩,_,_,rfl,⟨.iface te (.pointer (some a)),[],rfl,⟨if_pos rfl,rfl⟩,rfl⟩,rfl⟩⟩
  refine ⟨⟨hb.os,hb.tape,hb.output,hb.size,fun k hk _ => hb.block k hk,fun k o hk _ => ?_⟩,no_le _,fun _ _ h => h.elim,by simp,fun i u hi _ => absurd hi (by simp),fun i hi => ?_,fun i gb hi => ?_,fun i j _ _ _ => fun _ _ h _ => h,fun i _ => fun _ _ h _ => h,fun i _ => no_le _,fun i _ b o h => h.elim⟩
  · have e := hb.block k hk
    simp [World.cell?,World.frozen?,mapAt,e]
  · simp only [List.length_cons,List.length_nil] at hi
    rw [if_neg (by omega)]
    exact hG.new i (Nat.zero_le _)
  · match i,hi with
    | 0,hi =>
      simp at hi
      subst hi
      exact .inr ⟨.iface te (.pointer (some a)),if_pos rfl,[.iface te (.pointer (some a))],by simp,te,a,rfl⟩
    | i + 1,hi => simp at hi
section
variable {P : Program} {g : Gh} {st : St}
variable {dst : Option Tmp} {ty : TypeId} {pos : String} {after : Array Edge} {guard : Option (Nat × Bool)} {x : Operand} {T U : TypeId} {i : Nat}
theorem a_neErr (e1 : opd st x = .one (.gv i)) (hg : lkG st.h i = .opq erR [i]) (hT : P.isIface T = true) : Acts P g ⟨dst,.binOp .neq T x (.const .nilIface) U,ty,pos,after,guard⟩ st (.one (boo true)) [] [] := by
  refine acts_of fun A w S ρ F h => ⟨.bool true,?_,rfl,rfl⟩
  have h1 := (opd_one h e1).1
  rcases h.root i with h0 | ⟨u,r1,r2⟩
  · rw [hg] at h0; cases h0
  rw [hg] at r2
  obtain ⟨us,q1,te,a,rfl⟩ := r2
  simp only [List.map_cons,List.map_nil,List.cons.injEq,and_true] at q1
  rw [q1] at h1
  simp only [Option.some.injEq] at h1
  show (do pure (.value (← (do eqGuard .neq T x (.const .nilIface) (A.eval x) (A.eval (.const .nilIface)); binOp .neq T (A.eval x) (A.eval (.const .nilIface))))) : Sem Next).run P w = _
  rw [← h1,show A.eval (.const .nilIface) = .nilIface from rfl]
  simp [eqGuard,run_neq_iface_nil w T hT]
end
end Go.Proofs.YtbblkhjjgnpbaaaDoor
end
section
set_option linter.unusedVariables false
set_option linter.unusedSimpArgs false
set_option maxRecDepth 100000
set_option maxHeartbeats 4000000
namespace Go.Proofs.YtbblkhjjgnpbaaaDoor
open Go Foot Go.RowKit
theorem preB122 {p : Prop} (h : p := by first | with_reducible assumption | omega | (simp only [List.length_append,List.length_cons,List.length_nil,List.length_set,List.length_replicate,List.length_take,List.length_drop,List.length_tail,List.length_dropLast,List.length_reverse] at *; omega) | exact mem_len (by assumption) (by omega) | (with_reducible refine Int.le_trans (Int.ofNat_le.2 (trimR_len _)) ?_; simp only [List.length_cons,List.length_tail]; omega) | (exact (ruAt_ok (by assumption) (by assumption) (by assumption)).2.1) | (exact (ruAt_ok (by assumption) (by assumption) (by assumption)).2.1) | (have := vMach_bd (by assumption); omega) | (simp only [mC_ch,mC_tu]; omega) | (have := vTag_bd (by assumption); omega) | (have := (‹Gd _ _›).le; omega) | (exact tgHalts_no (by assumption)) | (exact tgHead (by assumption) (by assumption) (by assumption)) | (exact Int.le_trans (tgStep_gd (by assumption) (by assumption) (by assumption) (by assumption)).le (by decide)) | (exact vTag_r (by assumption)) | (with_reducible refine Int.le_trans (Int.ofNat_le.2 (pushL_len _ _)) ?_; simp only [List.length_dropLast]; omega) | exact ls_at (by assumption) (by omega) | exact pt_gd (by assumption) | exact lv_at (by assumption) (by omega) | exact pt_gd (lv_at (by assumption) (by omega)) | exact (ask_ok (by assumption)).1 | exact (ask_ok (by assumption)).2.1 | exact (ask_ok (by assumption)).2.2.1 | exact (ask_ok (by assumption)).2.2.2 | trivial) : p := h
theorem ParseIntSyn_ok (s : Bs) (hs : (s.length : Int) ≤ 1000000000) (h : Lib.parseIntB 64 s = Lib.parseIntB 64 []) : Does Tryd.prog 107 [.one (str s),.one (int 10),.one (int 64)] [] (.tup [(false,[int 0]),(false,[.gv 0])]) [.opq erR [0]] :=
  does_err (av := [sv s,.int .i64 10,.int .i64 64]) (fun w S ρ vs => repA_3) fun w S hT => by
    obtain ⟨⟨cs,T,fr,ht,te,pe,hcs⟩,_⟩ := hT _ (List.mem_cons_of_mem _ (List.mem_cons_of_mem _ List.mem_cons_self))
    refine (Tryd.strconv_ParseInt_10_at64_syntax ⟨s.toArray⟩ (by rw [sz_str]; omega) h (.iface te pe) w ?_ (.inr ⟨te,pe,rfl⟩)).mono ?_
    · rw [Lib.cell_of_heap ht,hcs]; rfl
    · rintro en w' ⟨N,rfl,h1,h2,h3⟩
      exact ⟨_,_,rfl,h3⟩
theorem ParseIntRng_ok (s : Bs) (hs : (s.length : Int) ≤ 1000000000) (h : Lib.parseIntB 64 s = .range) : Does Tryd.prog 107 [.one (str s),.one (int 10),.one (int 64)] [] (.tup [(false,[int (Lib.intSat 64 s)]),(false,[.gv 0])]) [.opq erR [0]] :=
  does_err (av := [sv s,.int .i64 10,.int .i64 64]) (fun w S ρ vs => repA_3) fun w S hT => by
    obtain ⟨⟨cs,T,fr,ht,te,pe,hcs⟩,_⟩ := hT _ (List.mem_cons_of_mem _ List.mem_cons_self)
    refine (Tryd.strconv_ParseInt_10_at64_range ⟨s.toArray⟩ (by rw [sz_str]; omega) h (.iface te pe) w ?_ (.inr ⟨te,pe,rfl⟩)).mono ?_
    · rw [Lib.cell_of_heap ht,hcs]; rfl
    · rintro en w' ⟨N,rfl,h1,h2,h3⟩
      exact ⟨_,_,rfl,h3⟩
theorem ReadDecimalG_ok (s : Bs) (hs : (s.length : Int) ≤ 1048576) : Does Tryd.prog 91 [.one (str s)] [] (.tup [(false,[int ((numS s).getD 0)]),(false,[boo (numS s).isSome])]) [] := by
  cases hp : Lib.parseIntB 64 s
  · rename_i n
    obtain ⟨b1,b2⟩ := parse_bd hp
    have hdt : decT n = Lib.itoa n := by unfold decT; rfl
    have hlen := decT_le b1 b2
    by_cases hd : decT n = s
    · have ht : (Lib.trimPrefix s [45]) = Lib.decDigits n.natAbs := by rw [← hd,trim_dec]
      by_cases hl : (Lib.decDigits n.natAbs).length ≤ 18
      · have hn := len_dec hl
        have e : numS s = some n := numS_some.2 ⟨hd,by omega,by omega⟩
        rw [e]
        refine does_of (k := 0) Tryd.func91 rfl Tryd.ntmps91 rfl rfl fun w F0 S0 ρ0 => ?_
        dsimp only [argT,argH]
        repeat' first|(apply p3;(first|exact pu1|exact a_neNil rfl (by kernel_rfl));exact rfl)|refine cd ?_|(apply c4 0;exact callK1 (θ := []) (hD := (ParseInt_ok s n preB122 hp));exact rfl;exact rfl;exact rfl;refine dM ?_)|(apply py3;exact rfl;exact rfl;(first|exact pu1|exact a_neT rfl rfl|exact a_lenT rfl (fT rfl)|exact puC);exact rfl;exact rfl)|(apply cy4 0;exact rfl;exact rfl;exact callK1 (θ := []) (hD := (Decimal_ok _ preB122 preB122));exact rfl;exact rfl;exact rfl;exact rfl;refine dM ?_)|(apply cy4 0;exact rfl;exact rfl;exact callK1 (θ := []) (hD := (TrimPrefix_ok _ _));exact rfl;exact rfl;exact rfl;exact rfl;refine dM ?_)|(refine o_gs rfl rfl (fun hc => ?_) (fun hc => ?_) <;> (try simp only [dcB] at hc) <;> (try first|contradiction|(exfalso;omega)))
        simp only [ht]
        repeat' first|(apply p3;(exact pu1);exact rfl)|refine cd ?_|((refine g_cond rfl (fun hc => ?_) (fun hc => ?_)) <;> (try simp only [dcB] at hc) <;> (try first|contradiction|(exfalso;omega)))
        repeat refine cr ?_
        refine ends_id ?_
        refine endK [] (h2 := ?_) (h3 := ?_) (nd := ?_)
        all_goals (repeat' first|exact ce0|refine ce ?_|refine ce2 ?_ ?_|exact SVLe.refl|refine ceb ?_)
        all_goals first | exact (show nodupB _ = true from rfl) | exact Or.inr rfl | (rfl)
      · have e : numS s = none := by
          cases hq : numS s with
          | none => rfl
          | some k =>
            obtain ⟨q1,q2,q3⟩ := numS_some.1 hq
            have q4 : valS (decT k) = valS (decT n) := by rw [q1,hd]
            rw [valS_dec,valS_dec] at q4
            subst q4
            exact absurd (dec_len (k := 18) (by omega) (by omega)) hl
        rw [e]
        refine does_of (k := 0) Tryd.func91 rfl Tryd.ntmps91 rfl rfl fun w F0 S0 ρ0 => ?_
        dsimp only [argT,argH]
        repeat' first|(apply p3;(first|exact pu1|exact a_neNil rfl (by kernel_rfl));exact rfl)|refine cd ?_|(apply c4 0;exact callK1 (θ := []) (hD := (ParseInt_ok s n preB122 hp));exact rfl;exact rfl;exact rfl;refine dM ?_)|(apply py3;exact rfl;exact rfl;(first|exact pu1|exact a_neT rfl rfl|exact a_lenT rfl (fT rfl)|exact puC);exact rfl;exact rfl)|(apply cy4 0;exact rfl;exact rfl;exact callK1 (θ := []) (hD := (Decimal_ok _ preB122 preB122));exact rfl;exact rfl;exact rfl;exact rfl;refine dM ?_)|(apply cy4 0;exact rfl;exact rfl;exact callK1 (θ := []) (hD := (TrimPrefix_ok _ _));exact rfl;exact rfl;exact rfl;exact rfl;refine dM ?_)|(refine o_gs rfl rfl (fun hc => ?_) (fun hc => ?_) <;> (try simp only [dcB] at hc) <;> (try first|contradiction|(exfalso;omega)))
        simp only [ht]
        repeat' first|(apply p3;(exact pu1);exact rfl)|refine cd ?_|((refine g_cond rfl (fun hc => ?_) (fun hc => ?_)) <;> (try simp only [dcB] at hc) <;> (try first|contradiction|(exfalso;omega)))
        repeat refine cr ?_
        refine ends_id ?_
        refine endK [] (h2 := ?_) (h3 := ?_) (nd := ?_)
        all_goals (repeat' first|exact ce0|refine ce ?_|refine ce2 ?_ ?_|exact SVLe.refl|refine ceb ?_)
        all_goals first | exact (show nodupB _ = true from rfl) | exact Or.inr rfl | (rfl)
    · have e : numS s = none := by
        cases hq : numS s with
        | none => rfl
        | some k =>
          obtain ⟨q1,q2,q3⟩ := numS_some.1 hq
          rw [← q1,parse_dec2 q2 q3] at hp
          cases hp
          exact absurd q1 hd
      rw [e]
      refine does_of (k := 0) Tryd.func91 rfl Tryd.ntmps91 rfl rfl fun w F0 S0 ρ0 => ?_
      dsimp only [argT,argH]
      repeat' first|(apply p3;(first|exact pu1|exact a_neNil rfl (by kernel_rfl));exact rfl)|refine cd ?_|(apply c4 0;exact callK1 (θ := []) (hD := (ParseInt_ok s n preB122 hp));exact rfl;exact rfl;exact rfl;refine dM ?_)|refine o_no rfl rfl rfl rfl ?_|(apply py3;exact rfl;exact rfl;(first|exact pu1|exact a_neT rfl rfl);exact rfl;exact rfl)|(apply cy4 0;exact rfl;exact rfl;exact callK1 (θ := []) (hD := (Decimal_ok _ preB122 preB122));exact rfl;exact rfl;exact rfl;exact rfl;refine dM ?_)|((refine o_gs rfl rfl (fun hc => ?_) (fun hc => ?_)) <;> (try simp only [dcB] at hc) <;> (try first|contradiction|(exfalso;omega)))
      repeat refine cr ?_
      refine ends_id ?_
      refine endK [] (h2 := ?_) (h3 := ?_) (nd := ?_)
      all_goals (repeat' first|exact ce0|refine ce ?_|refine ce2 ?_ ?_|exact SVLe.refl|refine ceb ?_)
      all_goals first | exact (show nodupB _ = true from rfl) | exact Or.inr rfl | (rfl)
  · have e : numS s = none := by
      cases hq : numS s with
      | none => rfl
      | some k =>
        obtain ⟨q1,q2,q3⟩ := numS_some.1 hq
        rw [← q1,parse_dec2 q2 q3] at hp
        cases hp
    rw [e]
    refine does_of (k := 0) Tryd.func91 rfl Tryd.ntmps91 rfl rfl fun w F0 S0 ρ0 => ?_
    dsimp only [argT,argH]
    repeat' first|(apply p3;(first|exact pu1|exact a_neErr rfl rfl (by kernel_rfl));exact rfl)|refine cd ?_|(apply c4 1;exact callK0 (θ := []) (hD := (ParseIntSyn_ok s preB122 hp));exact rfl;exact rfl;exact rfl;refine dM ?_)|refine o_no rfl rfl rfl rfl ?_
    repeat refine cr ?_
    refine ends_id ?_
    refine endK [] (h2 := ?_) (h3 := ?_) (nd := ?_)
    all_goals (repeat' first|exact ce0|refine ce ?_|refine ce2 ?_ ?_|exact SVLe.refl|refine ceb ?_)
    all_goals first | exact (show nodupB _ = true from rfl) | exact Or.inr rfl | (rfl)
  · have e : numS s = none := by
      cases hq : numS s with
      | none => rfl
      | some k =>
        obtain ⟨q1,q2,q3⟩ := numS_some.1 hq
        rw [← q1,parse_dec2 q2 q3] at hp
        cases hp
    rw [e]
    refine does_of (k := 0) Tryd.func91 rfl Tryd.ntmps91 rfl rfl fun w F0 S0 ρ0 => ?_
    dsimp only [argT,argH]
    repeat' first|(apply p3;(first|exact pu1|exact a_neErr rfl rfl (by kernel_rfl));exact rfl)|refine cd ?_|(apply c4 1;exact callK0 (θ := []) (hD := (ParseIntRng_ok s preB122 hp));exact rfl;exact rfl;exact rfl;refine dM ?_)|refine o_no rfl rfl rfl rfl ?_
    repeat refine cr ?_
    refine ends_id ?_
    refine endK [] (h2 := ?_) (h3 := ?_) (nd := ?_)
    all_goals (repeat' first|exact ce0|refine ce ?_|refine ce2 ?_ ?_|exact SVLe.refl|refine ceb ?_)
    all_goals first | exact (show nodupB _ = true from rfl) | exact Or.inr rfl | (rfl)
end Go.Proofs.YtbblkhjjgnpbaaaDoor
end
section
set_option linter.unusedVariables false
set_option linter.unusedSimpArgs false
set_option maxRecDepth 100000
set_option maxHeartbeats 4000000
namespace Go.Proofs.YtbblkhjjgnpbaaaDoor
open Go Foot Go.RowKit
theorem preB123 {p : Prop} (h : p := by first | with_reducible assumption | omega | (simp only [List.length_append,List.length_cons,List.length_nil,List.length_set,List.length_replicate,List.length_take,List.length_drop,List.length_tail,List.length_dropLast,List.length_reverse] at *; omega) | exact mem_len (by assumption) (by omega) | (with_reducible refine Int.le_trans (Int.ofNat_le.2 (trimR_len _)) ?_; simp only [List.length_cons,List.length_tail]; omega) | (exact (ruAt_ok (by assumption) (by assumption) (by assumption)).2.1) | (exact (ruAt_ok (by assumption) (by assumption) (by assumption)).2.1) | (have := vMach_bd (by assumption); omega) | (simp only [mC_ch,mC_tu]; omega) | (have := vTag_bd (by assumption); omega) | (have := (‹Gd _ _›).le; omega) | (exact tgHalts_no (by assumption)) | (exact tgHead (by assumption) (by assumption) (by assumption)) | (exact Int.le_trans (tgStep_gd (by assumption) (by assumption) (by assumption) (by assumption)).le (by decide)) | (exact vTag_r (by assumption)) | (with_reducible refine Int.le_trans (Int.ofNat_le.2 (pushL_len _ _)) ?_; simp only [List.length_dropLast]; omega) | exact ls_at (by assumption) (by omega) | exact pt_gd (by assumption) | exact lv_at (by assumption) (by omega) | exact pt_gd (lv_at (by assumption) (by omega)) | exact (ask_ok (by assumption)).1 | exact (ask_ok (by assumption)).2.1 | exact (ask_ok (by assumption)).2.2.1 | exact (ask_ok (by assumption)).2.2.2 | trivial) : p := h
theorem GrowF_ok (n : Int) (h0 : 0 ≤ n) (h1 : n ≤ 281474976710656) : Does Tryd.prog 95 [.one (.gv 0),.one (int n)] [.opq (frB 139) [0]] (.tup []) [bldr []] :=
  does_fresh (av := [.int .i64 n]) (rv := .tuple #[]) (fun w S ρ vs => repA_1) (fun w S ρ => ⟨#[],rfl,rfl⟩) fun w b h => by
    obtain ⟨k,rfl⟩ : ∃ k : Nat,n = k := ⟨n.toNat,by omega⟩
    exact bs_GrowF h (by omega)
theorem ReplaceB_ok (s : Bs) (c d : UInt8) (hs : (s.length : Int) ≤ 1048576) (hcd : c ≠ d) : Does Tryd.prog 92 [.one (str s),.one (str [c]),.one (str [d]),.one (int (-1))] [] (.one (str (rpl c d s))) [] := by
  have hone : ((([c] : Bs).length : Nat) : Int) = 1 := rfl
  have hond : ((([d] : Bs).length : Nat) : Int) = 1 := rfl
  have hcl : Lib.countByte s c ≤ s.length := List.count_le_length
  have hne : ¬ (([c] : Bs) = [d]) := by simp [hcd]
  by_cases h0 : (Lib.countByte s c : Int) = 0
  · have hno : c ∉ s := fun q => by
      have := List.count_pos_iff.2 q
      unfold Lib.countByte at h0
      omega
    have e := rpl_no (d := d) hno
    rw [e]
    refine does_of (k := 0) Tryd.func92 rfl Tryd.ntmps92 rfl rfl fun w F0 S0 ρ0 => ?_
    dsimp only [argT,argH]
    repeat' first|(apply p3;(first|exact pu1|exact a_eqT rfl rfl|exact puC);exact rfl)|refine cd ?_|(apply c4 0;exact callK1 (θ := []) (hD := (CountB_ok _ _));exact rfl;exact rfl;exact rfl;refine dM ?_)|(apply py3;exact rfl;exact rfl;(first|exact pu1|exact puC);exact rfl;exact rfl)|((first|refine o_gs rfl rfl (fun hc => ?_) (fun hc => ?_)|refine g_cond rfl (fun hc => ?_) (fun hc => ?_)) <;> (try simp only [dcB] at hc) <;> (try first|contradiction|(exfalso;omega)))
    repeat refine cr ?_
    refine ends_id ?_
    refine endK [] (h2 := ?_) (h3 := ?_) (nd := ?_)
    all_goals (repeat' first|exact ce0|refine ce ?_|refine ce2 ?_ ?_|exact SVLe.refl|refine ceb ?_)
    all_goals first | exact (show nodupB _ = true from rfl) | exact Or.inr rfl | (rfl)
  · have hm0 : ¬ (Lib.countByte s c : Int) < 0 := by omega
    have hz : (Lib.countByte s c : Int) * (((([d] : Bs).length : Nat) : Int) - ((([c] : Bs).length : Nat) : Int)) = 0 := by rw [hone,hond]; simp
    refine does_of (k := 0) Tryd.func92 rfl Tryd.ntmps92 rfl rfl fun w F0 S0 ρ0 => ?_
    dsimp only [argT,argH]
    repeat' first|(apply n3;exact a_newF;exact rfl;refine dA ?_)|(apply p3;(first|exact pu1|exact a_eqT rfl rfl|exact puC|exact a_lenT rfl (fT rfl)|exact a_sub rfl rfl (by omega) (by omega)|exact a_mulB rfl rfl (by omega) (by omega) (by omega) (by omega)|exact a_add rfl rfl (by omega) (by omega));exact rfl)|refine cd ?_|(apply c4 0;exact callK1 (θ := []) (hD := (CountB_ok _ _));exact rfl;exact rfl;exact rfl;refine dM ?_)|(apply c4 0;exact callK1 (θ := [_]) (hD := (GrowF_ok _ preB123 preB123));exact rfl;exact rfl;exact rfl;refine dM ?_)|refine o_no rfl rfl rfl rfl ?_|(apply py3;exact rfl;exact rfl;(first|exact pu1|exact puC);exact rfl;exact rfl)|((first|refine o_gs rfl rfl (fun hc => ?_) (fun hc => ?_)|refine g_cond rfl (fun hc => ?_) (fun hc => ?_)) <;> (try simp only [dcB] at hc) <;> (try first|contradiction|(exfalso;omega)))
    refine g_loop_id ?_
    refine loopK [0,1,2,3,8,10,52] [0] (fun y : Int × Int × Bs => 0 ≤ y.1 ∧ y.1 ≤ Lib.countByte s c ∧ 0 ≤ y.2.1 ∧ y.2.1 ≤ s.length ∧ (Lib.countByte (s.drop y.2.1.toNat) c : Int) = Lib.countByte s c - y.1 ∧ (y.2.2.length : Int) = y.2.1 ∧ rpl c d s = y.2.2 ++ rpl c d (s.drop y.2.1.toNat)) (fun y => [(53,.one (int y.1)),(11,.one (int y.2.1))]) (fun y => [(0,bldr y.2.2)]) (fun y => (Lib.countByte s c - y.1).toNat) ((0 : Int),(0 : Int),([] : Bs)) [0] (hI := ?_) (hr := ?_)
    · exact ⟨by simp,by simp,by simp,by simp,by simp,by simp,by simp⟩
    · rintro ⟨i,k,acc⟩ ⟨h1,h2,h3,h4,h5,h6,h7⟩
      dsimp only [List.cons_append,List.nil_append] at *
      skip
      repeat' first|(apply p3;(first|exact pu1|exact puC|exact a_slSl rfl rfl (fT rfl) (by omega) bnd);exact rfl)|refine cdn ?_|refine g_reg (id := 13) ?_|refine g_reg (id := 28) ?_|refine g_reg (id := 29) ?_|(apply c4 0;exact callK1 (θ := [_]) (hD := (WriteString_ok _ _ preB123));exact rfl;exact rfl;exact rfl;refine dM ?_)|(apply c4 0;exact callK1 (θ := [_]) (hD := (String_ok _));exact rfl;exact rfl;exact rfl;refine dM ?_)|((refine g_cond rfl (fun hc => ?_) (fun hc => ?_)) <;> (try simp only [dcB] at hc) <;> (try first|contradiction|(exfalso;omega)))
      · have hpos : 0 ≤ Lib.indexByte (s.drop k.toNat) c := by
          rcases Int.lt_or_le (Lib.indexByte (s.drop k.toNat) c) 0 with q | q
          · exfalso
            by_cases hm : c ∈ s.drop k.toNat
            · have := index_nn hm; omega
            · have := count_no hm
              omega
          · exact q
        obtain ⟨a,b,e1,e2⟩ := index_split hpos
        have e3 := index_at (b := b) e2
        have e4 := count_app (b := b) e2
        have e5 : (s.length : Int) = k + a.length + 1 + b.length := by
          have := congrArg List.length e1
          rw [List.length_drop] at this
          simp only [List.length_append,List.length_cons] at this
          omega
        have e6 : (s.drop k.toNat).take ((k + (a.length : Int)).toNat - k.toNat) = a := by
          rw [e1,show (k + (a.length : Int)).toNat - k.toNat = a.length by omega]
          simp
        have e7 : s.drop (k + a.length + 1).toNat = b := by
          rw [show (k + (a.length : Int) + 1).toNat = k.toNat + (a.length + 1) by omega,← List.drop_drop,e1]
          simp
        rw [e1] at h5 h7
        rw [rpl_app,rpl_no e2] at h7
        have e8 : rpl c d (c :: b) = d :: rpl c d b := by unfold rpl; simp
        rw [e8] at h7
        repeat' first|(apply p3;(first|exact pu1|exact a_slSl rfl rfl (fT rfl) (by omega) bnd);exact rfl)|refine g_reg (id := 14) ?_|(apply c4 0;exact callK1 (θ := []) (hD := (IndexB_ok _ _));exact rfl;exact rfl;exact rfl;refine dM ?_)
        simp only [e1,e3]
        repeat' first|(apply p3;(first|exact pu1|exact a_add rfl rfl (by omega) (by omega)|exact a_slSm rfl rfl rfl (fT rfl) (by omega) (by omega) bnd|exact a_lenT rfl (fT rfl));exact rfl)|refine cd ?_|(apply c4 0;exact callK1 (θ := [_]) (hD := (WriteString_ok _ _ preB123));exact rfl;exact rfl;exact rfl;refine dM ?_)
        have e9 : (s.drop k.toNat).take ((k + ((a.length : Nat) : Int)).toNat - k.toNat) = a := e6
        simp only [e9]
        refine q_again (i + 1,k + a.length + 1,acc ++ a ++ [d]) [0] (by exact stk) ?_ ?_
        · refine ⟨by dsimp only; omega,by dsimp only; omega,by dsimp only; omega,by dsimp only; omega,?_,by simp; omega,?_⟩
          · dsimp only
            rw [e7]
            omega
          · dsimp only
            rw [e7,h7]
            simp
        · dsimp only; omega
      · have hno : c ∉ s.drop k.toNat := fun q => by
          have h1 := List.count_pos_iff.2 q
          have h6 : Lib.countByte (s.drop k.toNat) c = 0 := by omega
          unfold Lib.countByte at h6
          omega
        rw [rpl_no hno] at h7
        rw [h7]
        repeat refine cr ?_
        refine ends_id ?_
        refine endK [] (h2 := ?_) (h3 := ?_) (nd := ?_)
        all_goals (repeat' first|exact ce0|refine ce ?_|refine ce2 ?_ ?_|exact SVLe.refl|refine ceb ?_)
        all_goals first | exact (show nodupB _ = true from rfl) | exact Or.inr rfl | (rfl)
end Go.Proofs.YtbblkhjjgnpbaaaDoor
end
section
set_option linter.unusedVariables false
set_option linter.unusedSimpArgs false
set_option maxRecDepth 100000
set_option maxHeartbeats 4000000
namespace Go.Proofs.YtbblkhjjgnpbaaaDoor
open Go Foot
end Go.Proofs.YtbblkhjjgnpbaaaDoor
end
section
set_option linter.unusedVariables false
set_option linter.unusedSimpArgs false
set_option maxRecDepth 100000
set_option maxHeartbeats 4000000
namespace Go.Proofs.YtbblkhjjgnpbaaaDoor
open Go Foot Go.RowKit
theorem spl_len (c : UInt8) : ∀ s : Bs,(spl c s).length ≤ s.length + 1
  | [] => by simp [spl]
  | x :: s => by
    have ih := spl_len c s
    rw [spl]
    split
    · simp only [List.length_cons]; omega
    · split
      · simp
      · next p r e => rw [e] at ih; simp only [List.length_cons] at ih ⊢; omega
theorem spl_el (c : UInt8) : ∀ (s : Bs),∀ p ∈ spl c s,p.length ≤ s.length ∧ ∀ x ∈ p,x ∈ s
  | [],p,h => by simp [spl] at h; subst h; simp
  | x :: s,p,h => by
    have ih := spl_el c s
    rw [spl] at h
    split at h
    · rcases List.mem_cons.1 h with rfl | h
      · simp
      · obtain ⟨i1,i2⟩ := ih p h
        exact ⟨by simp only [List.length_cons]; omega,fun y hy => List.mem_cons_of_mem _ (i2 y hy)⟩
    · split at h
      · rcases List.mem_cons.1 h with rfl | h
        · simp
        · cases h
      · next q r e =>
        rw [e] at ih
        rcases List.mem_cons.1 h with rfl | h
        · obtain ⟨i1,i2⟩ := ih q (by simp)
          refine ⟨by simp only [List.length_cons]; omega,fun y hy => ?_⟩
          rcases List.mem_cons.1 hy with rfl | hy
          · simp
          · exact List.mem_cons_of_mem _ (i2 y hy)
        · obtain ⟨i1,i2⟩ := ih p (by simp [h])
          exact ⟨by simp only [List.length_cons]; omega,fun y hy => List.mem_cons_of_mem _ (i2 y hy)⟩
theorem ReadDecsG_ok (s : Bs) (hs : (s.length : Int) ≤ 1048576) : Does Tryd.prog 53 [.one (str s)] [] (.tup [(false,[.gv 0]),(false,[boo (numL (spl 44 s)).isSome])]) [roI ((numL (spl 44 s)).getD [])] := by
  have hpl := spl_len 44 s
  have hpe := spl_el 44 s
  refine does_of (k := 0) Tryd.func53 rfl Tryd.ntmps53 rfl rfl fun w F0 S0 ρ0 => ?_
  dsimp only [argT,argH]
  repeat' first|(apply n3;exact a_nilO eI rfl;exact rfl)|(apply n3;(exact a_litE eI [] rfl rfl rfl rfl rfl rfl rfl rfl);exact rfl;refine dA ?_)|(apply p3;(first|exact pu1|exact puN);exact rfl)|refine cd ?_|(apply c4 1;exact callK1 (θ := []) (hD := (Split_ok s 44 hs));exact rfl;exact rfl;exact rfl;refine dM ?_)
  generalize spl 44 s = ps at *
  refine g_loop_id ?_
  refine loopK [2,3,11,12] [1] (fun y : Int × List Int => 0 ≤ y.1 ∧ y.1 ≤ ps.length ∧ numL (ps.take y.1.toNat) = some y.2) (fun y => [(13,.one (int y.1)),(4,.one (.gv 1))]) (fun y => [(1,roI y.2)]) (fun y => (ps.length - y.1).toNat) ((0 : Int),([] : List Int)) [0,1,2] (hI := ?_) (hr := ?_)
  · exact ⟨by simp,by simp,by simp [numL]⟩
  · rintro ⟨i,l⟩ ⟨h0,h1,h2⟩
    dsimp only [List.cons_append,List.nil_append] at *
    skip
    repeat' first|(apply p3;(first|exact pu1|exact puC|exact a_ld_rowS rfl rfl rfl (fC rfl) bnd|exact puI);exact rfl)|refine cdn ?_|refine g_reg (id := 3) ?_|refine g_reg (id := 4) ?_|refine g_reg (id := 10) ?_|((refine g_cond rfl (fun hc => ?_) (fun hc => ?_)) <;> (try simp only [dcB] at hc) <;> (try first|contradiction|(exfalso;omega)))
    · have hi : i.toNat < ps.length := by omega
      have hx := (hpe _ (List.getElem_mem hi)).1
      have hx1 : ((ps[i.toNat]'hi).length : Int) ≤ 1048576 := by omega
      have hll := numL_len h2
      rw [List.length_take] at hll
      have hsn := numL_snoc (ps.take i.toNat) (ps[i.toNat]'hi)
      rw [← List.take_succ_eq_append_getElem hi,h2,Option.bind_some] at hsn
      simp only [List.getElem_map,Nat.mul_one]
      repeat' first|(apply p3;(exact pu1);exact rfl)|refine cdn ?_|refine g_reg (id := 5) ?_|(apply c4 0;exact callK1 (θ := []) (hD := (ReadDecimalG_ok (ps[i.toNat]'hi) hx1));exact rfl;exact rfl;exact rfl;refine dM ?_)
      cases hn : numS (ps[i.toNat]'hi) with
      | none =>
        rw [numL_none hi hn]
        simp only [Option.isSome_none,Option.getD_none]
        repeat' first|(apply n3;exact a_nilO eI rfl;exact rfl)|(apply p3;(exact pu1);exact rfl)|refine cd ?_
        repeat refine cr ?_
        refine ends_id ?_
        refine endK [?_] (h2 := ?_) (h3 := ?_) (nd := ?_)
        rotate_left 1
        all_goals (repeat' first|exact ce0|refine ce ?_|refine ce2 ?_ ?_|(refine Or.inr (bx_eq rfl rfl ?_);(try dsimp only [C.ren,C.ren.all]);(try exact rfl))|exact SVLe.refl|refine ceb ?_)
        all_goals first | exact (show nodupB _ = true from rfl) | exact Or.inr rfl | (rfl)
      | some n =>
        rw [hn,Option.map_some] at hsn
        simp only [Option.isSome_some,Option.getD_some]
        repeat' first|(apply n3;(exact a_litE eI [_] rfl rfl rfl rfl rfl rfl rfl rfl);exact rfl;refine dA ?_)|(apply p3;(first|exact pu1|exact a_add rfl rfl (by omega) (by omega));exact rfl)|refine cd ?_|(apply s3;exact a_appE (fP rfl) rfl rfl rfl rfl nowR (by (simp;omega)) (by decide) (by decide) (by exact rfl);exact rfl;exact rfl)
        refine q_again (i + 1,l ++ [n]) [0,4,2] (by exact stk) ?_ ?_
        · exact ⟨by dsimp only; omega,by dsimp only; omega,by dsimp only; rw [show (i + 1).toNat = i.toNat + 1 by omega,hsn]⟩
        · omega
    · rw [List.take_of_length_le (by omega)] at h2
      rw [h2]
      repeat refine cr ?_
      refine ends_id ?_
      refine endK [?_] (h2 := ?_) (h3 := ?_) (nd := ?_)
      rotate_left 1
      all_goals (repeat' first|exact ce0|refine ce ?_|refine ce2 ?_ ?_|(refine Or.inr (bx_eq rfl rfl ?_);(try dsimp only [C.ren,C.ren.all]);(try exact rfl))|exact SVLe.refl|refine ceb ?_)
      all_goals first | exact (show nodupB _ = true from rfl) | exact Or.inr rfl | (rfl)
theorem ReplaceAllB_ok (s : Bs) (c d : UInt8) (hs : (s.length : Int) ≤ 1048576) (hcd : c ≠ d) : Does Tryd.prog 54 [.one (str s),.one (str [c]),.one (str [d])] [] (.one (str (rpl c d s))) [] := by
  refine does_of (k := 0) Tryd.func54 rfl Tryd.ntmps54 rfl rfl fun w F0 S0 ρ0 => ?_
  dsimp only [argT,argH]
  repeat' first|(apply p3;exact pu1;exact rfl)|refine cd ?_|(apply c4 0;exact callK1 (θ := []) (hD := (ReplaceB_ok s c d hs hcd));exact rfl;exact rfl;exact rfl;refine dM ?_)
  repeat refine cr ?_
  refine ends_id ?_
  refine endK [] (h2 := ?_) (h3 := ?_) (nd := ?_)
  all_goals (repeat' first|exact ce0|refine ce ?_|refine ce2 ?_ ?_|exact SVLe.refl|refine ceb ?_)
  all_goals first | exact (show nodupB _ = true from rfl) | exact Or.inr rfl | (rfl)
theorem numL_map : ∀ {p : List Int},(∀ x ∈ p,0 ≤ x ∧ x ≤ 1000000000000) → numL (p.map decT) = some p
  | [],_ => rfl
  | n :: p,h => by
    have hn := h n (by simp)
    rw [List.map_cons,numL,numS_some.2 ⟨rfl,by omega,by omega⟩,Option.bind_some,numL_map (fun x hx => h x (by simp [hx]))]
    rfl
end Go.Proofs.YtbblkhjjgnpbaaaDoor
end
section
set_option linter.unusedVariables false
set_option linter.unusedSimpArgs false
set_option maxRecDepth 100000
set_option maxHeartbeats 4000000
namespace Go.Proofs.YtbblkhjjgnpbaaaDoor
open Go Foot Go.RowKit
theorem spl_joinH {c : UInt8} : ∀ {l : List Bs},l ≠ [] → (∀ p ∈ l,c ∉ p) → spl c (joinT l [c]) = l
  | [],h,_ => absurd rfl h
  | [a],_,h => by rw [join_one,spl_no (h a (by simp))]
  | a :: b :: l,_,h => by
    rw [join_cons2,List.singleton_append,spl_app (h a (by simp)),spl_joinH (by simp) (fun p hp => h p (by simp at hp ⊢; exact .inr hp))]
theorem join_memH {c x : UInt8} : ∀ {l : List Bs},x ∈ joinT l [c] → x = c ∨ ∃ p ∈ l,x ∈ p
  | [],h => by unfold joinT at h; simp [Lib.join] at h
  | [a],h => by rw [join_one] at h; exact .inr ⟨a,by simp,h⟩
  | a :: b :: l,h => by
    rw [join_cons2,List.mem_append,List.mem_append] at h
    rcases h with h | h | h
    · exact .inr ⟨a,by simp,h⟩
    · exact .inl (by simpa using h)
    · rcases join_memH h with h | ⟨p,hp,h⟩
      · exact .inl h
      · exact .inr ⟨p,by simp only [List.mem_cons] at hp ⊢; exact .inr hp,h⟩
end Go.Proofs.YtbblkhjjgnpbaaaDoor
end
section
set_option linter.unusedVariables false
set_option linter.unusedSimpArgs false
set_option maxRecDepth 100000
set_option maxHeartbeats 4000000
namespace Go.Proofs.YtbblkhjjgnpbaaaDoor
open Go Foot
def drF (m : Int) : Nat → Src → List Int → List Int × Src
  | 0,s,r => (r,s)
  | n + 1,s,r => drF m n (pkS s m) (r ++ [pkV s m])
@[irreducible] def drO (m : Int) (s : Src) (n : Int) : List Int × Src := drF m n.toNat s []
theorem drF_pl (m : Int) : ∀ (n : Nat) (s : Src) (r : List Int),s.pl ≤ (drF m n s r).2.pl ∧ (drF m n s r).2.pl ≤ s.pl + 2 * n
  | 0,s,r => by simp [drF]
  | n + 1,s,r => by
    have h1 := drF_pl m n (pkS s m) (r ++ [pkV s m])
    have h2 := pkS_pl s m
    rw [drF]
    omega
theorem drF_ok {m : Int} (hm : 1 ≤ m) : ∀ (n : Nat) (s : Src) (r : List Int),SrOk s → s.pl + 2 * n ≤ 999999999999999900 → (∀ x ∈ r,0 ≤ x ∧ x < m) → SrOk (drF m n s r).2 ∧ (∀ x ∈ (drF m n s r).1,0 ≤ x ∧ x < m) ∧ (drF m n s r).1.length = r.length + n
  | 0,s,r,g,_,h => ⟨g,h,rfl⟩
  | n + 1,s,r,g,hp,h => by
    have k := pkS_pl s m
    have b := pkV_bd (n := m) g hm
    rw [drF]
    have := drF_ok hm n (pkS s m) (r ++ [pkV s m]) (sr_pick g (by omega)) (by omega) fun x hx => by
      rcases List.mem_append.1 hx with hx | hx
      · exact h x hx
      · rw [List.mem_singleton.1 hx]; exact b
    exact ⟨this.1,this.2.1,by rw [this.2.2]; simp; omega⟩
structure DrOk (m : Int) (s : Src) (n : Int) : Prop where
  src : SrOk (drO m s n).2
  lo : s.pl ≤ (drO m s n).2.pl
  hi : (drO m s n).2.pl ≤ s.pl + 2 * n
  len : ((drO m s n).1.length : Int) = n
  ok : ∀ x ∈ (drO m s n).1,0 ≤ x ∧ x < m
theorem drO_ok {m : Int} {s : Src} {n : Int} (hm : 1 ≤ m) (g : SrOk s) (h : s.pl ≤ 100000000000000000) (h1 : 0 ≤ n) (h2 : n ≤ 100) : DrOk m s n := by
  have k1 := drF_ok hm n.toNat s [] g (by omega) (by simp)
  have k2 := drF_pl m n.toNat s []
  have e : drF m n.toNat s [] = drO m s n := by unfold drO; rfl
  rw [e] at k1 k2
  rw [List.length_nil] at k1
  exact ⟨k1.1,k2.1,by omega,by omega,k1.2.1⟩
end Go.Proofs.YtbblkhjjgnpbaaaDoor
end
section
set_option linter.unusedVariables false
set_option linter.unusedSimpArgs false
set_option maxRecDepth 100000
set_option maxHeartbeats 1000000
namespace Go.Proofs.YtbblkhjjgnpbaaaDoor
open Go Foot Go.RowKit
@[irreducible] def rcS (sy k : Int) : Int := if k = 1 then sy else sy * sy
@[irreducible] def rcL (S n : Int) : List Int := (List.range n.toNat).map fun (i : Nat) => (i : Int) % S
theorem rcL_0 (S : Int) : rcL S 0 = [] := by unfold rcL; rfl
theorem rcL_s {S n : Int} (h : 0 ≤ n) : rcL S (n + 1) = rcL S n ++ [n % S] := by
  unfold rcL
  rw [show (n + 1).toNat = n.toNat + 1 by omega,List.range_succ,List.map_append,List.map_cons,List.map_nil,Int.toNat_of_nonneg h]
theorem rcL_len {S n : Int} (h : 0 ≤ n) : ((rcL S n).length : Int) = n := by
  unfold rcL
  rw [List.length_map,List.length_range]
  omega
theorem rcS_bd {sy k : Int} (hs : sy = 2 ∨ sy = 3) (hk : k = 1 ∨ k = 2) : 2 ≤ rcS sy k ∧ rcS sy k ≤ 9 := by
  unfold rcS
  rcases hs with rfl | rfl <;> rcases hk with rfl | rfl <;> simp
theorem rc_ok {sy k : Int} (hs : sy = 2 ∨ sy = 3) (hk : k = 1 ∨ k = 2) : DfOk ⟨rcS sy k,rcL (rcS sy k) (rcS sy k * sy)⟩ sy := by
  have hb := rcS_bd hs hk
  have hm : 2 * 2 ≤ rcS sy k * sy := Int.mul_le_mul hb.1 (by omega) (by omega) (by omega)
  generalize rcS sy k = S at *
  refine ⟨by omega,by dsimp only; omega,rcL_len (by omega),fun x hx => ?_,?_⟩
  · unfold rcL at hx
    obtain ⟨i,_,rfl⟩ := List.mem_map.1 hx
    exact ⟨Int.emod_nonneg _ (by omega),Int.emod_lt_of_pos _ (by omega)⟩
  · have e : rcL S (S * sy) = (List.range (S * sy).toNat).map fun (i : Nat) => (i : Int) % S := by unfold rcL; rfl
    show (rcL S (S * sy))[0]? = some 0
    rw [e,List.getElem?_map,List.getElem?_range (by omega)]
    simp
theorem RecentDfa_ok (sy k : Int) (hs : sy = 2 ∨ sy = 3) (hk : k = 1 ∨ k = 2) : Does Tryd.prog 89 [.one (int sy),.one (int k)] [] (.tup [(true,[int (rcS sy k),.gv 0]),(false,[int 0])]) [roI (rcL (rcS sy k) (rcS sy k * sy))] := by
  have hss : 4 ≤ sy * sy ∧ sy * sy ≤ 9 := by rcases hs with rfl | rfl <;> decide
  have hSb := rcS_bd hs hk
  have hm : rcS sy k * sy ≤ 9 * 3 := Int.mul_le_mul hSb.2 (by omega) (by omega) (by omega)
  have hm0 : 0 ≤ rcS sy k * sy := Int.mul_nonneg (by omega) (by omega)
  have eS : rcS sy k = if k = 1 then sy else sy * sy := by unfold rcS; rfl
  refine does_of (k := 0) Tryd.func89 rfl Tryd.ntmps89 rfl rfl fun w F0 S0 ρ0 => ?_
  dsimp only [argT,argH]
  repeat' first|(apply n3;exact a_new (gb := .bx _) rfl;exact rfl;refine dA ?_)|(apply p3;(exact pu1);exact rfl)|refine cd ?_|(apply w3;(exact a_st_bx rfl rfl rfl rfl (fN rfl rfl) (Nat.le_of_ble_eq_true rfl) rfl);exact rfl;refine dS ?_)|(apply c4 0;exact callK1 (θ := []) (hD := (l00In_ok _ _ _));exact rfl;exact rfl;exact rfl;refine dM ?_)|((refine g_cond rfl (fun hc => ?_) (fun hc => ?_)) <;> (try simp only [dcB] at hc) <;> (try first|contradiction|(exfalso;omega)))
  refine g_conv (t_nilB (i := 1) (k := 1) (z := 1) rfl rfl rfl (by decide)) ?_
  try dsimp only [setRow,List.map_cons,List.map_nil,scC,List.set_cons_zero,List.set_cons_succ,Nat.reduceAdd]
  refine g_loop_id ?_
  refine loopK [0,4,5,6] [1] (fun y : Int × Int => 0 ≤ y.1 ∧ ((y.1 = k ∧ y.2 = 1) ∨ (y.1 = k - 1 ∧ y.2 = sy) ∨ (y.1 = k - 2 ∧ y.2 = sy * sy))) (fun y => [(1,.one (int y.1))]) (fun y => [(1,.bx [int y.2,.gv 2])]) (fun y => y.1.toNat) (k,(1 : Int)) [0,1,2] (hI := ?_) (hr := ?_)
  · exact ⟨by dsimp only; omega,.inl ⟨rfl,rfl⟩⟩
  · rintro ⟨a,S⟩ ⟨j0,j1⟩
    dsimp only [List.cons_append,List.nil_append] at *
    skip
    repeat' first|(apply p3;(first|exact pu1|exact puC);exact rfl)|refine cdn ?_|refine g_reg (id := 6) ?_|((refine g_cond rfl (fun hc => ?_) (fun hc => ?_)) <;> (try simp only [dcB] at hc) <;> (try first|contradiction|(exfalso;omega)))
    · have hS : 0 ≤ S * sy ∧ S * sy ≤ 9 ∧ ((a - 1 = k - 1 ∧ S * sy = sy) ∨ (a - 1 = k - 2 ∧ S * sy = sy * sy)) := by
        rcases j1 with ⟨h1,rfl⟩ | ⟨h1,rfl⟩ | ⟨h1,_⟩
        · rw [Int.one_mul]; omega
        · omega
        · omega
      have hS2 : 0 ≤ S ∧ S ≤ 9 := by omega
      repeat' first|(apply p3;(first|exact pu1|exact puC|exact a_mulB rfl rfl (by omega) (by omega) (by omega) (by omega)|exact a_sub rfl rfl (by omega) (by omega));exact rfl)|refine cd ?_|(apply w3;(exact a_st_bx rfl rfl rfl rfl (fN rfl rfl) (Nat.le_of_ble_eq_true rfl) rfl);exact rfl;refine dS ?_)|((refine g_cond rfl (fun hc => ?_) (fun hc => ?_)) <;> (try simp only [dcB] at hc) <;> (try first|contradiction|(exfalso;omega)))
      refine q_again (a - 1,S * sy) [0,1,2] (by exact stk) ?_ ?_
      · dsimp only
        exact ⟨by omega,by omega⟩
      · dsimp only; omega
    · have hS : S = rcS sy k := by
        rw [eS]
        rcases hk with rfl | rfl
        · rw [if_pos rfl]; omega
        · rw [if_neg (by decide)]; omega
      subst hS
      generalize rcS sy k = S at *
      repeat' first|(apply p3;(exact pu1);exact rfl)|refine cd ?_
      refine g_loop_id ?_
      refine loopK [0,4,5,6] [1,2] (fun y : Int × List Int => 0 ≤ y.1 ∧ y.1 ≤ S ∧ y.2 = rcL S (y.1 * sy)) (fun y => [(7,.one (int y.1))]) (fun y => [(1,.bx [int S,.gv 2]),(2,roI y.2)]) (fun y => (S - y.1).toNat) ((0 : Int),([] : List Int)) [0,1,2] (hI := ?_) (hr := ?_)
      · exact ⟨by simp,by dsimp only; omega,by simp [rcL_0]⟩
      · rintro ⟨n,l⟩ ⟨m0,m1,m2⟩
        dsimp only [List.cons_append,List.nil_append] at *
        skip
        repeat' first|(apply p3;(first|exact pu1|exact puC);exact rfl)|refine cdn ?_|refine g_reg (id := 12) ?_|((refine g_cond rfl (fun hc => ?_) (fun hc => ?_)) <;> (try simp only [dcB] at hc) <;> (try first|contradiction|(exfalso;omega)))
        · have n0 : 0 ≤ n * sy := Int.mul_nonneg m0 (by omega)
          have n1 : n * sy ≤ (S - 1) * sy := Int.mul_le_mul_of_nonneg_right (by omega) (by omega)
          rw [Int.sub_mul,Int.one_mul] at n1
          repeat' first|(apply p3;(exact pu1);exact rfl)|refine cd ?_
          refine g_loop_id ?_
          refine loopK [0,4,5,6,7] [1,2] (fun y : Int × List Int => 0 ≤ y.1 ∧ y.1 ≤ sy ∧ y.2 = rcL S (n * sy + y.1)) (fun y => [(8,.one (int y.1))]) (fun y => [(1,.bx [int S,.gv 2]),(2,roI y.2)]) (fun y => (sy - y.1).toNat) ((0 : Int),l) [0,1,2] (hI := ?_) (hr := ?_)
          · exact ⟨by simp,by dsimp only; omega,by dsimp only; rw [m2,Int.add_zero]⟩
          · rintro ⟨c,l'⟩ ⟨q0,q1,q2⟩
            dsimp only [List.cons_append,List.nil_append] at *
            skip
            repeat' first|(apply p3;(first|exact pu1|exact puC|exact a_add rfl rfl (by omega) (by omega));exact rfl)|refine cdn ?_|refine g_reg (id := 15) ?_|refine g_reg (id := 13) ?_|((refine g_cond rfl (fun hc => ?_) (fun hc => ?_)) <;> (try simp only [dcB] at hc) <;> (try first|contradiction|(exfalso;omega)))
            · have ll : (l'.length : Int) = n * sy + c := by rw [q2]; exact rcL_len (by omega)
              repeat' first|(apply p3;(first|exact pu1|exact a_add rfl rfl (by omega) (by omega));exact rfl)|refine cd ?_|(apply g_drN (id := 17) okM [[],[0],[],[],[2,3],[],[2,3,4,5],[],[7],[2,3,4,5,6,7,8],[2,3,4,5,6,7,8,9],[0,1,2,3,4,5,6,7,8,9,10],[0,1,2,3,4,5,6,7,8,9,10,11],[0,1,2,3,4,5,6,7,8,9,10,11,12]] [([],[]),([],[]),([],[]),([],[]),([],[]),([],[]),([],[]),([],[]),([],[]),([],[]),([0],[]),([1],[2]),([],[]),([],[1])] 2;(focus (refine dp 0 0 [44,45,46,47,48,49,50,51,52] [(true,0)] (a_pure (sv := .one _) rfl) ?_;refine dp 1 1 [44,45,46,47,48,49,50,51,52] [(true,0)] puL ?_;refine dp 2 0 [42,43,45,47,49,50] [] pu1 ?_;refine dp 3 0 [42,43,44,47,49,50] [] pu1 ?_;refine dp 4 3 [42,43,47,49,50] [] (by exact a_mulB rfl rfl (by omega) (by omega) (by omega) (by omega)) ?_;refine dp 5 0 [42,43,44,45,46,49,50] [] pu1 ?_;refine dp 6 15 [42,43,49,50] [] (a_add rfl rfl (by omega) (by omega)) ?_;refine dp 7 0 [42,43,44,45,46,47,48] [] (a_pure (sv := .one _) rfl) ?_;refine dp 8 1 [42,43,44,45,46,47,48] [] puL ?_;refine dp 9 127 [42,43] [] (a_rem rfl rfl (by omega) (by omega) (by omega)) ?_;refine duE 10 255 [42,43] [] (atN 0 (fun _ => a_litE eI [_] rfl rfl rfl rfl rfl rfl rfl rfl)) (by exact rfl) (by exact rfl) ?_;refine duE 11 2047 [] [] (atS 1 (fun _ hj => a_appE (fP rfl) rfl rfl rfl rfl nowR (by (simp;omega)) (by decide) hj (by exact rfl)) (by decide)) (by exact rfl) (by exact rfl) ?_;refine dp 12 4095 [] [] (a_pure (sv := .one _) rfl) ?_;refine duE 13 8191 [] [] (by exact a_st_bx rfl rfl rfl rfl (fN rfl rfl) (Nat.le_of_ble_eq_true rfl) rfl) (by exact rfl) (by exact rfl) ?_;(refine d_nil ?_;refine dN ?_)));any_goals kernel_rfl)
              refine q_again (c + 1,l' ++ [(n * sy + c) % S]) [0,1,4] (by exact stk) ?_ ?_
              · dsimp only
                exact ⟨by omega,by omega,by rw [q2,← Int.add_assoc,rcL_s (by omega)]⟩
              · dsimp only; omega
            · have hc0 : c = sy := by omega
              subst hc0
              refine q_again (n + 1,l') [0,1,2] (by exact stk) ?_ ?_
              · dsimp only
                exact ⟨by omega,by omega,by rw [q2,Int.add_mul,Int.one_mul]⟩
              · dsimp only; omega
        · have hn : n = S := by omega
          subst hn
          rw [← m2]
          repeat' first|(apply p3;(exact pu1);exact rfl)|refine cd ?_|(apply w3;exact a_st_bx rfl rfl rfl rfl (fN rfl rfl) (Nat.le_of_ble_eq_true rfl) rfl;exact rfl;refine dS ?_)
          simp only [setRow,scC,List.map_cons,List.map_nil,List.set_cons_zero,List.set_cons_succ,Nat.zero_add,List.getElem?_cons_zero,List.getElem?_cons_succ,List.take_succ_cons,List.take_zero,List.drop_zero,List.cons_append,List.nil_append,List.drop_succ_cons,List.drop_nil,List.append_nil,List.append_eq]
          repeat refine cr ?_
          refine ends_id ?_
          refine endK [?_] (h2 := ?_) (h3 := ?_) (nd := ?_)
          rotate_left 1
          all_goals (repeat' first|exact ce0|refine ce ?_|refine ce2 ?_ ?_|(refine Or.inr (bx_eq rfl rfl ?_);(try dsimp only [C.ren,C.ren.all]);(try exact rfl))|exact SVLe.refl|refine ceb ?_)
          all_goals first | exact (show nodupB _ = true from rfl) | exact Or.inr rfl | (rfl)
theorem drF_pre (m : Int) : ∀ (n : Nat) (s : Src) (r : List Int),r ≠ [] → (drF m n s r).1[0]? = r[0]?
  | 0,s,r,_ => rfl
  | n + 1,s,r,h => by
    rw [drF,drF_pre m n _ _ (by simp)]
    cases r with
    | nil => exact absurd rfl h
    | cons x r => rfl
@[irreducible] def dkK (s : Src) : Int := 1 + pkV (pkS s 3) 2
@[irreducible] def dkT (s : Src) : Int := 1 + pkV (pkS s 3) 3
@[irreducible] def dkL (sy : Int) (s : Src) : List Int := (drF (dkT s) (dkT s * sy - 1).toNat (pkS (pkS s 3) 3) [0]).1
@[irreducible] def dkD (sy : Int) (s : Src) : Dfa' := if pkV s 3 = 0 then ⟨rcS sy (dkK s),rcL (rcS sy (dkK s)) (rcS sy (dkK s) * sy)⟩ else ⟨dkT s,dkL sy s⟩
structure DkOk (sy : Int) (s : Src) : Prop where
  g1 : SrOk (pkS s 3)
  z1 : (pkS s 3).pl ≤ s.pl + 2
  k : dkK s = 1 ∨ dkK s = 2
  t : 1 ≤ dkT s ∧ dkT s ≤ 3
  g2 : SrOk (pkS (pkS s 3) 3)
  z2 : (pkS (pkS s 3) 3).pl ≤ s.pl + 4
  m : 2 ≤ dkT s * sy ∧ dkT s * sy ≤ 9
  ln : ((dkL sy s).length : Int) = dkT s * sy
  ok : DfOk (dkD sy s) sy
theorem dk_ok {sy : Int} {s : Src} (g : SrOk s) (h : s.pl ≤ 1000000) (hs : sy = 2 ∨ sy = 3) : DkOk sy s := by
  have a1 := pkS_pl s 3
  have a2 := sr_pick (n := 3) g (by omega)
  have b1 := pkV_bd (n := 2) a2 (by omega)
  have b2 := pkV_bd (n := 3) a2 (by omega)
  have c1 := pkS_pl (pkS s 3) 3
  have c2 := sr_pick (n := 3) a2 (by omega)
  have e1 : dkK s = 1 + pkV (pkS s 3) 2 := by unfold dkK; rfl
  have e2 : dkT s = 1 + pkV (pkS s 3) 3 := by unfold dkT; rfl
  have m1 : 1 * 2 ≤ dkT s * sy := Int.mul_le_mul (by omega) (by omega) (by omega) (by omega)
  have m2 : dkT s * sy ≤ 3 * 3 := Int.mul_le_mul (by omega) (by omega) (by omega) (by omega)
  have hd := drF_ok (m := dkT s) (by omega) (dkT s * sy - 1).toNat (pkS (pkS s 3) 3) [0] c2 (by omega) (fun x hx => by rw [List.mem_singleton.1 hx]; omega)
  have hp := drF_pre (dkT s) (dkT s * sy - 1).toNat (pkS (pkS s 3) 3) [0] (by simp)
  have e3 : (drF (dkT s) (dkT s * sy - 1).toNat (pkS (pkS s 3) 3) [0]).1 = dkL sy s := by unfold dkL; rfl
  rw [e3] at hd hp
  have hl : ((dkL sy s).length : Int) = dkT s * sy := by have := hd.2.2; simp only [List.length_cons,List.length_nil] at this; omega
  refine ⟨a2,by omega,by omega,by omega,c2,by omega,by omega,hl,?_⟩
  unfold dkD
  split
  · exact rc_ok hs (by omega)
  · exact ⟨by omega,by dsimp only; omega,hl,hd.2.1,hp⟩
theorem l28DrawOk_ok (s : Src) (sy : Int) (g : SrOk s) (h : s.pl ≤ 1000000) (hs : sy = 2 ∨ sy = 3) : Does Tryd.prog 48 [.one (.gv 0),.one (int sy)] [srB s] (.agg [int (dkD sy s).st,.gv 1]) [.dead,roI (dkD sy s).nx] := by
  obtain ⟨gg1,z1,hk,ht,gg2,z2,hm,hln,hok⟩ := dk_ok g h hs
  have e1 : 1 + pkV (pkS s 3) 2 = dkK s := by unfold dkK; rfl
  have e2 : 1 + pkV (pkS s 3) 3 = dkT s := by unfold dkT; rfl
  have b1 := pkV_bd (n := 2) gg1 (by omega)
  have b2 := pkV_bd (n := 3) gg1 (by omega)
  by_cases hB : pkV s 3 = 0
  · have f1 : dkD sy s = ⟨rcS sy (dkK s),rcL (rcS sy (dkK s)) (rcS sy (dkK s) * sy)⟩ := by unfold dkD; rw [if_pos hB]
    rw [f1]
    dsimp only
    refine does_of (k := 1) Tryd.func48 rfl Tryd.ntmps48 rfl rfl fun w F0 S0 ρ0 => ?_
    dsimp only [argT,argH]
    repeat' first|(apply n3;(exact a_new (gb := .bx _) rfl);exact rfl;refine dA ?_)|(apply p3;(first|exact pu1|exact a_add rfl rfl (by omega) (by omega)|exact puC);exact rfl)|refine cd ?_|(apply w3;exact a_st_bx rfl rfl rfl rfl (fN rfl rfl) (Nat.le_of_ble_eq_true rfl) rfl;exact rfl;refine dS ?_)|(apply c4 0;exact callK0 (θ := [_]) (hD := (srcOne_ok s 3 g (by omega) (by omega)));exact rfl;exact rfl;exact rfl;refine dM ?_)|(apply c4 0;exact callK0 (θ := [_]) (hD := (srcPick_ok (pkS s 3) 2 gg1 (by omega) (by omega)));exact rfl;exact rfl;exact rfl;refine dM ?_)|(apply c4 1;exact callK1 (θ := []) (hD := (RecentDfa_ok sy (1 + pkV (pkS s 3) 2) hs (by omega)));exact rfl;exact rfl;exact rfl;refine dM ?_)|((refine g_cond rfl (fun hc => ?_) (fun hc => ?_)) <;> (try simp only [dcB] at hc) <;> (try first|contradiction|(exfalso;omega)))
    simp only [setRow,scC,List.map_cons,List.map_nil,List.set_cons_zero,List.set_cons_succ,Nat.zero_add,List.getElem?_cons_zero,List.getElem?_cons_succ,List.take_succ_cons,List.take_zero,List.drop_zero,List.cons_append,List.nil_append,List.drop_succ_cons,List.drop_nil,List.append_nil,List.append_eq]
    rw [e1]
    repeat refine cr ?_
    refine ends_id ?_
    refine endK [?_] (h2 := ?_) (h3 := ?_) (nd := ?_)
    rotate_left 1
    all_goals (repeat' first|exact ce0|refine ce ?_|refine ce2 ?_ ?_|(refine Or.inr (bx_eq rfl rfl ?_);(try dsimp only [C.ren,C.ren.all]);(try exact rfl))|exact SVLe.refl|refine ceb ?_)
    all_goals first | exact (show nodupB _ = true from rfl) | exact Or.inr rfl | (rfl)
  · have f1 : dkD sy s = ⟨dkT s,dkL sy s⟩ := by unfold dkD; rw [if_neg hB]
    rw [f1]
    dsimp only
    refine does_of (k := 1) Tryd.func48 rfl Tryd.ntmps48 rfl rfl fun w F0 S0 ρ0 => ?_
    dsimp only [argT,argH]
    repeat' first|(apply n3;(first|exact a_new (gb := .bx _) rfl|exact a_litE eI [_] rfl rfl rfl rfl rfl rfl rfl rfl);exact rfl;refine dA ?_)|(apply p3;(first|exact pu1|exact a_add rfl rfl (by omega) (by omega));exact rfl)|refine cd ?_|(apply w3;exact a_st_bx rfl rfl rfl rfl (fN rfl rfl) (Nat.le_of_ble_eq_true rfl) rfl;exact rfl;refine dS ?_)|(apply c4 0;exact callK0 (θ := [_]) (hD := (srcOne_ok s 3 g (by omega) (by omega)));exact rfl;exact rfl;exact rfl;refine dM ?_)|(apply c4 0;exact callK0 (θ := [_]) (hD := (srcPick_ok (pkS s 3) 3 gg1 (by omega) (by omega)));exact rfl;exact rfl;exact rfl;refine dM ?_)|((refine g_cond rfl (fun hc => ?_) (fun hc => ?_)) <;> (try simp only [dcB] at hc) <;> (try first|contradiction|(exfalso;omega)))
    simp only [setRow,scC,List.map_cons,List.map_nil,List.set_cons_zero,List.set_cons_succ,Nat.zero_add,List.getElem?_cons_zero,List.getElem?_cons_succ,List.take_succ_cons,List.take_zero,List.drop_zero,List.cons_append,List.nil_append,List.drop_succ_cons,List.drop_nil,List.append_nil,List.append_eq]
    rw [e2]
    refine g_loop_id ?_
    refine loopK [0,1,4,7] [0,2,3] (fun y : Src × List Int => SrOk y.1 ∧ y.1.pl ≤ (pkS (pkS s 3) 3).pl + 2 * (y.2.length : Int) ∧ (y.2.length : Int) ≤ dkT s * sy ∧ (drF (dkT s) (dkT s * sy - y.2.length).toNat y.1 y.2).1 = dkL sy s) (fun _ => []) (fun y => [(0,srB y.1),(2,roI y.2),(3,.bx [int (dkT s),.gv 2])]) (fun y => (dkT s * sy - y.2.length).toNat) (pkS (pkS s 3) 3,[(0 : Int)]) [0,1,2,3] (hI := ?_) (hr := ?_)
    · exact ⟨gg2,by simp; omega,by simp; omega,by unfold dkL; rfl⟩
    · rintro ⟨u,l⟩ ⟨j0,j1,j2,j3⟩
      dsimp only [List.cons_append,List.nil_append] at *
      skip
      repeat' first|(apply p3;(first|exact pu1|exact puN|exact a_mulB rfl rfl (by omega) (by omega) (by omega) (by omega)|exact puC);exact rfl)|refine cdn ?_|refine g_reg (id := 6) ?_|((refine g_cond rfl (fun hc => ?_) (fun hc => ?_)) <;> (try simp only [dcB] at hc) <;> (try first|contradiction|(exfalso;omega)))
      · have hp : u.pl ≤ 999999999999999998 := by omega
        have v1 := pkS_pl u (dkT s)
        have v2 := sr_pick (n := dkT s) j0 hp
        repeat' first|refine cd ?_|(apply g_drN (id := 7) okM [[],[0],[],[],[3],[2,3,4],[2,3,4,5],[0,1,2,3,4,5,6],[0,1,2,3,4,5,6,7],[0,1,2,3,4,5,6,7,8]] [([],[]),([],[]),([],[]),([],[]),([],[]),([],[0]),([0],[]),([1],[2]),([],[]),([],[3])] 2;(focus (refine dp 0 0 [36,37,38,39,40] [(false,0),(true,0)] (a_pure (sv := .one _) rfl) ?_;refine dp 1 1 [36,37,38,39,40] [(false,0),(true,0)] puL ?_;refine dp 2 0 [34,35,37,38] [] pu1 ?_;refine dp 3 0 [34,35,36] [] (a_pure (sv := .one _) rfl) ?_;refine dp 4 1 [34,35,36] [] puL ?_;refine duN 5 7 [34,35] [] (callD0 (n := _) 0 (θ := [_]) (hD := (srcPick_ok u (dkT s) j0 hp (by omega)))) (by exact rfl) (by exact rfl) ?_;refine duE 6 15 [34,35] [] (atN 0 (fun _ => a_litE eI [_] rfl rfl rfl rfl rfl rfl rfl rfl)) (by exact rfl) (by exact rfl) ?_;refine duE 7 127 [] [] (atS 1 (fun _ hj => a_appE (fP rfl) rfl rfl rfl rfl nowR (by (simp;omega)) (by decide) hj (by exact rfl)) (by decide)) (by exact rfl) (by exact rfl) ?_;refine dp 8 255 [] [] (a_pure (sv := .one _) rfl) ?_;refine duE 9 511 [] [] (by exact a_st_bx rfl rfl rfl rfl (fN rfl rfl) (Nat.le_of_ble_eq_true rfl) rfl) (by exact rfl) (by exact rfl) ?_;(refine d_nil ?_;refine dN ?_)));any_goals kernel_rfl)
        refine q_again (pkS u (dkT s),l ++ [pkV u (dkT s)]) [0,1,5,3] (by exact stk) ?_ ?_
        · have el : ((l ++ [pkV u (dkT s)]).length : Int) = l.length + 1 := by simp
          refine ⟨v2,by dsimp only; omega,by dsimp only; omega,?_⟩
          rw [← j3]
          dsimp only
          rw [el,show (dkT s * sy - (l.length : Int)).toNat = (dkT s * sy - ((l.length : Int) + 1)).toNat + 1 by omega,drF]
        · have el : ((l ++ [pkV u (dkT s)]).length : Int) = l.length + 1 := by simp
          dsimp only; omega
      · rw [show (dkT s * sy - (l.length : Int)).toNat = 0 by omega,drF] at j3
        dsimp only at j3
        rw [← j3]
        repeat' first|(apply p3;(exact pu1);exact rfl)|refine cd ?_|(apply w3;exact a_st_bx rfl rfl rfl rfl (fN rfl rfl) (Nat.le_of_ble_eq_true rfl) rfl;exact rfl;refine dS ?_)
        simp only [setRow,scC,List.map_cons,List.map_nil,List.set_cons_zero,List.set_cons_succ,Nat.zero_add,List.getElem?_cons_zero,List.getElem?_cons_succ,List.take_succ_cons,List.take_zero,List.drop_zero,List.cons_append,List.nil_append,List.drop_succ_cons,List.drop_nil,List.append_nil,List.append_eq]
        repeat refine cr ?_
        refine ends_id ?_
        refine endK [?_] (h2 := ?_) (h3 := ?_) (nd := ?_)
        rotate_left 1
        all_goals (repeat' first|exact ce0|refine ce ?_|refine ce2 ?_ ?_|(refine Or.inr (bx_eq rfl rfl ?_);(try dsimp only [C.ren,C.ren.all]);(try exact rfl))|exact SVLe.refl|refine ceb ?_)
        all_goals first | exact (show nodupB _ = true from rfl) | exact Or.inr rfl | (rfl)
end Go.Proofs.YtbblkhjjgnpbaaaDoor
end
section
set_option linter.unusedVariables false
set_option linter.unusedSimpArgs false
set_option maxRecDepth 100000
set_option maxHeartbeats 1000000
namespace Go.Proofs.YtbblkhjjgnpbaaaDoor
open Go Foot Go.RowKit
@[irreducible] def rkY (l : List Int) : Int := 2 + pkV ⟨l,0,0⟩ 2
@[irreducible] def rkX (l : List Int) : Dfa' := dkD (rkY l) (pkS ⟨l,0,0⟩ 2)
theorem rkY_bd {l : List Int} (g : SrOk ⟨l,0,0⟩) : rkY l = 2 ∨ rkY l = 3 := by
  have := pkV_bd (n := 2) g (by omega)
  unfold rkY
  omega
theorem rkX_ok {l : List Int} (g : SrOk ⟨l,0,0⟩) : DfOk (rkX l) (rkY l) := by
  have z := pkS_pl ⟨l,0,0⟩ 2
  dsimp only at z
  have := dk_ok (sr_pick (n := 2) g (by dsimp only; omega)) (by omega) (rkY_bd g)
  unfold rkX
  exact this.ok
theorem B10Dfa_ok (l : List Int) (g : SrOk ⟨l,0,0⟩) : Does Tryd.prog 19 [.one (shY l)] [] (.tup [(true,[int (rkX l).st,.gv 0]),(false,[int (rkY l)])]) [roI (rkX l).nx] := by
  have z := pkS_pl ⟨l,0,0⟩ 2
  dsimp only at z
  have gg := sr_pick (n := 2) g (by dsimp only; omega)
  have hy := rkY_bd g
  have b := pkV_bd (n := 2) g (by omega)
  have e1 : 2 + pkV ⟨l,0,0⟩ 2 = rkY l := by unfold rkY; rfl
  have e2 : dkD (rkY l) (pkS ⟨l,0,0⟩ 2) = rkX l := by unfold rkX; rfl
  refine does_of (k := 0) Tryd.func19 rfl Tryd.ntmps19 rfl rfl fun w F0 S0 ρ0 => ?_
  dsimp only [argT,argH]
  repeat' first|(apply n3;exact a_new (gb := .bx _) rfl;exact rfl;refine dA ?_)|(apply p3;(first|exact pu1|exact a_add rfl rfl (by omega) (by omega));exact rfl)|refine cdn ?_|refine g_reg (id := 0) ?_|refine g_reg (id := 1) ?_|refine g_reg (id := 2) ?_|(apply c4 1;exact callK0 (θ := []) (hD := (srcFrom_ok _));exact rfl;exact rfl;exact rfl;refine dM ?_)|(apply c4 0;exact callK0 (θ := [_]) (hD := (srcPick_ok ⟨l,0,0⟩ 2 g (by dsimp only;omega) (by omega)));exact rfl;exact rfl;exact rfl;refine dM ?_)
  rw [e1]
  repeat' first|(apply p3;(exact pu1);exact rfl)|refine cd ?_|(apply w3;exact a_st_bx rfl rfl rfl rfl (fN rfl rfl) (Nat.le_of_ble_eq_true rfl) rfl;exact rfl;refine dS ?_)|(apply c4 1;exact callK1 (θ := [_]) (hD := (l28DrawOk_ok (pkS ⟨l,0,0⟩ 2) (rkY l) gg (by omega) hy));exact rfl;exact rfl;exact rfl;refine dM ?_)
  simp only [setRow,scC,List.map_cons,List.map_nil,List.set_cons_zero,List.set_cons_succ,Nat.zero_add,List.getElem?_cons_zero,List.getElem?_cons_succ,List.take_succ_cons,List.take_zero,List.drop_zero,List.cons_append,List.nil_append,List.drop_succ_cons,List.drop_nil,List.append_nil,List.append_eq]
  rw [e2]
  repeat refine cr ?_
  refine ends_id ?_
  refine endK [?_] (h2 := ?_) (h3 := ?_) (nd := ?_)
  rotate_left 1
  all_goals (repeat' first|exact ce0|refine ce ?_|refine ce2 ?_ ?_|(refine Or.inr (bx_eq rfl rfl ?_);(try dsimp only [C.ren,C.ren.all]);(try exact rfl))|exact SVLe.refl|refine ceb ?_)
  all_goals first | exact (show nodupB _ = true from rfl) | exact Or.inr rfl | (rfl)
@[irreducible] def ovW (sy : Int) (s : Src) : List Int := (drO sy (pkS s 8) (pkV s 8)).1
theorem ovW_bd {sy : Int} {s : Src} (g : SrOk s) (h : s.pl ≤ 1000000) (hs : sy = 2 ∨ sy = 3) : ((ovW sy s).length : Int) ≤ 7 ∧ ∀ x ∈ ovW sy s,0 ≤ x ∧ x < sy := by
  have z := pkS_pl s 8
  have gg := sr_pick (n := 8) g (by omega)
  have b := pkV_bd (n := 8) g (by omega)
  have d := drO_ok (m := sy) (n := pkV s 8) (by omega) gg (by omega) (by omega) (by omega)
  have d1 := d.len
  unfold ovW
  exact ⟨by omega,d.ok⟩
theorem drawWord_ok (s : Src) (sy : Int) (g : SrOk s) (h : s.pl ≤ 1000000) (hs : sy = 2 ∨ sy = 3) : Does Tryd.prog 61 [.one (.gv 0),.one (int 0),.one (int 7),.one (int sy)] [srB s] (.one (.gv 1)) [.dead,roI (ovW sy s)] := by
  have z := pkS_pl s 8
  have gg := sr_pick (n := 8) g (by omega)
  have b := pkV_bd (n := 8) g (by omega)
  have e0 : drF sy (pkV s 8).toNat (pkS s 8) [] = drO sy (pkS s 8) (pkV s 8) := by unfold drO; rfl
  have e1 : (drO sy (pkS s 8) (pkV s 8)).1 = ovW sy s := by unfold ovW; rfl
  refine does_of (k := 1) Tryd.func61 rfl Tryd.ntmps61 rfl rfl fun w F0 S0 ρ0 => ?_
  dsimp only [argT,argH]
  repeat' first|(apply n3;(exact a_litE eI [] rfl rfl rfl rfl rfl rfl rfl rfl);exact rfl;refine dA ?_)|(apply p3;(first|exact pu1|exact a_sub rfl rfl (by omega) (by omega)|exact a_add rfl rfl (by omega) (by omega));exact rfl)|refine cd ?_|(apply c4 0;exact callK0 (θ := [_]) (hD := (srcPick_ok s 8 g (by omega) (by omega)));exact rfl;exact rfl;exact rfl;refine dM ?_)
  refine g_loop_id ?_
  refine loopK [0,3,8,9] [0,1] (fun y : Int × Src × List Int => 0 ≤ y.1 ∧ SrOk y.2.1 ∧ y.2.1.pl ≤ (pkS s 8).pl + 2 * (pkV s 8 - y.1) ∧ (y.2.2.length : Int) ≤ pkV s 8 - y.1 ∧ drF sy y.1.toNat y.2.1 y.2.2 = drO sy (pkS s 8) (pkV s 8)) (fun y => [(10,.one (int y.1))]) (fun y => [(0,srB y.2.1),(1,roI y.2.2)]) (fun y => y.1.toNat) (0 + pkV s 8,pkS s 8,([] : List Int)) [0,1] (hI := ?_) (hr := ?_)
  · rw [Int.zero_add]
    exact ⟨b.1,gg,by simp,by simp,e0⟩
  · rintro ⟨k,u,r⟩ ⟨k0,k2,k3,k4,k5⟩
    dsimp only [List.cons_append,List.nil_append] at *
    skip
    repeat' first|(apply p3;(first|exact pu1|exact puC);exact rfl)|refine cdn ?_|refine g_reg (id := 3) ?_|refine g_reg (id := 6) ?_|((refine g_cond rfl (fun hc => ?_) (fun hc => ?_)) <;> (try simp only [dcB] at hc) <;> (try first|contradiction|(exfalso;omega)))
    · have hp : u.pl ≤ 999999999999999998 := by omega
      have v1 := pkS_pl u sy
      have v2 := sr_pick (n := sy) k2 hp
      repeat' first|(apply n3;(exact a_litE eI [_] rfl rfl rfl rfl rfl rfl rfl rfl);exact rfl;refine dA ?_)|(apply p3;(first|exact pu1|exact a_sub rfl rfl (by omega) (by omega));exact rfl)|refine cd ?_|(apply s3;exact a_appE (fP rfl) rfl rfl rfl rfl nowR (by (simp;omega)) (by decide) (by decide) (by exact rfl);exact rfl;exact rfl)|(apply c4 0;exact callK0 (θ := [_]) (hD := (srcPick_ok u sy k2 hp (by omega)));exact rfl;exact rfl;exact rfl;refine dM ?_)
      refine q_again (k - 1,pkS u sy,r ++ [pkV u sy]) [0,3] (by exact stk) ?_ ?_
      · dsimp only
        refine ⟨by omega,v2,by omega,by simp; omega,?_⟩
        rw [← k5,show k.toNat = (k - 1).toNat + 1 by omega,drF]
      · dsimp only; omega
    · have v0 : k.toNat = 0 := by omega
      rw [v0,drF] at k5
      have x1 := congrArg Prod.fst k5
      dsimp only at x1
      rw [e1] at x1
      rw [← x1]
      repeat refine cr ?_
      refine ends_id ?_
      refine endK [?_] (h2 := ?_) (h3 := ?_) (nd := ?_)
      rotate_left 1
      all_goals (repeat' first|exact ce0|refine ce ?_|refine ce2 ?_ ?_|(refine Or.inr (bx_eq rfl rfl ?_);(try dsimp only [C.ren,C.ren.all]);(try exact rfl))|exact SVLe.refl|refine ceb ?_)
      all_goals first | exact (show nodupB _ = true from rfl) | exact Or.inr rfl | (rfl)
theorem B10Over_ok (l : List Int) (sy : Int) (g : SrOk ⟨l,0,0⟩) (hs : sy = 2 ∨ sy = 3) : Does Tryd.prog 27 [.one (shY l),.one (int sy)] [] (.one (.gv 0)) [roI (ovW sy ⟨l,0,0⟩)] := by
  refine does_of (k := 0) Tryd.func27 rfl Tryd.ntmps27 rfl rfl fun w F0 S0 ρ0 => ?_
  dsimp only [argT,argH]
  repeat' first|(apply n3;exact a_nilO eI rfl;exact rfl)|(apply p3;exact pu1;exact rfl)|refine cd ?_|(apply c4 1;exact callK0 (θ := []) (hD := (srcFrom_ok _));exact rfl;exact rfl;exact rfl;refine dM ?_)|(apply c4 1;exact callK1 (θ := [_]) (hD := (drawWord_ok ⟨l,0,0⟩ sy g (by dsimp only;omega) hs));exact rfl;exact rfl;exact rfl;refine dM ?_)
  repeat refine cr ?_
  refine ends_id ?_
  refine endK [?_] (h2 := ?_) (h3 := ?_) (nd := ?_)
  rotate_left 1
  all_goals (repeat' first|exact ce0|refine ce ?_|refine ce2 ?_ ?_|(refine Or.inr (bx_eq rfl rfl ?_);(try dsimp only [C.ren,C.ren.all]);(try exact rfl))|exact SVLe.refl|refine ceb ?_)
  all_goals first | exact (show nodupB _ = true from rfl) | exact Or.inr rfl | (rfl)
theorem l28Is_ok (d : Dfa') (sy : Int) (g : DfOk d sy) : Does Tryd.prog 59 [.one (dfB d),.one (int sy)] [] (.one (boo true)) [] := by
  have g1 := g.yb
  have g2 := g.st
  obtain ⟨k6,k7,k8⟩ := df_len g
  have hz : (0 : Int).toNat < d.nx.length := by show 0 < d.nx.length; omega
  have gz : d.nx[(0 : Int).toNat]'hz = 0 := by
    have := g.z
    rw [List.getElem?_eq_getElem (by show 0 < d.nx.length; omega)] at this
    exact Option.some.inj this
  refine does_of (k := 0) Tryd.func59 rfl Tryd.ntmps59 rfl rfl fun w F0 S0 ρ0 => ?_
  dsimp only [argT,argH]
  repeat' first|(apply p3;(exact pu1);exact rfl)|refine cd ?_|(apply g_drN (id := 1) okM ([] :: [0] :: [0,1] :: [0,1,2] :: [0,1,2,3] :: [0,1,2,3,4] :: [0,1,2,3,4,5] :: [0,1,2,3,4,5,6] :: [0,1,2,3,4,5,6,7] :: [0,1,2,3,4,5,6,7,8] :: [0,1,2,3,4,5,6,7,8,9] :: [0,1,2,3,4,5,6,7,8,9,10] :: [0,1,2,3,4,5,6,7,8,9,10,11] :: [0,1,2,3,4,5,6,7,8,9,10,11,12] :: [0,1,2,3,4,5,6,7,8,9,10,11,12,13] :: [0,1,2,3,4,5,6,7,8,9,10,11,12,13,14] :: [0,1,2,3,4,5,6,7,8,9,10,11,12,13,14,15] :: [0,1,2,3,4,5,6,7,8,9,10,11] :: [0,1,2,3,4,5,6,7,8,9,10,11,17] :: [0,1,2,3,4,5,6,7,8,9,10,11,17,18] :: [0,1,2,3,4,5,6,7,8,9,10,11,17,18,19] :: [0,1,2,3,4,5,6,7,8,9,10,11] :: [0,1,2,3,4,5,6,7,8,9,10,11,17,18,19,20,21] :: [0,1,2,3,4,5,6,7,8,9,10,11,12,13,14,15,16,17,18,19,20,21,22] :: [0,1,2,3,4,5,6,7,8,9,10,11,12,13,14,15,16,17,18,19,20,21,22,23] :: [0,1,2,3,4,5,6,7,8,9,10,11,12,13,14,15,16,17,18,19,20,21,22,23,24] :: [0,1,2,3,4,5,6,7,8,9,10,11,12,13,14,15,16,17,18,19,20,21,22,23,24,25] :: [0,1,2,3,4,5,6,7,8,9,10,11,12,13,14,15,16,17,18,19,20,21,22,23,24,25,26] :: [0,1,2,3,4,5,6,7,8,9,10,11,12,13,14,15,16,17,18,19,20,21,22,23,24,25,26,27] :: [0,1,2,3,4,5,6,7,8,9,10,11,12,13,14,15,16,17,18,19,20,21,22,23,24,25,26,27,28] :: [0,1,2,3,4,5,6,7,8,9,10,11,12,13,14,15,16,17,18,19,20,21,22,23,24,25,26,27,28,29] :: (0 :: 1 :: 2 :: 3 :: 4 :: 5 :: 6 :: 7 :: 8 :: 9 :: 10 :: 11 :: 12 :: 13 :: 14 :: 15 :: 16 :: 17 :: 18 :: 19 :: 20 :: 21 :: 22 :: 23 :: 24 :: 25 :: 26 :: 27 :: 28 :: 29 :: 30 :: []) :: (0 :: 1 :: 2 :: 3 :: 4 :: 5 :: 6 :: 7 :: 8 :: 9 :: 10 :: 11 :: 12 :: 13 :: 14 :: 15 :: 16 :: 17 :: 18 :: 19 :: 20 :: 21 :: 22 :: 23 :: 24 :: 25 :: 26 :: 27 :: 28 :: 29 :: 30 :: 31 :: []) :: (0 :: 1 :: 2 :: 3 :: 4 :: 5 :: 6 :: 7 :: 8 :: 9 :: 10 :: 11 :: 12 :: 13 :: 14 :: 15 :: 16 :: 17 :: 18 :: 19 :: 20 :: 21 :: 22 :: 23 :: 24 :: 25 :: 26 :: 27 :: 28 :: 29 :: 30 :: 31 :: 32 :: []) :: []) (([],[]) :: ([],[]) :: ([],[]) :: ([],[]) :: ([],[]) :: ([],[]) :: ([],[]) :: ([],[]) :: ([],[]) :: ([],[]) :: ([],[]) :: ([],[]) :: ([],[]) :: ([],[]) :: ([],[]) :: ([],[]) :: ([],[]) :: ([],[]) :: ([],[]) :: ([],[]) :: ([],[]) :: ([],[]) :: ([],[]) :: ([],[]) :: ([],[]) :: ([],[]) :: ([],[]) :: ([],[]) :: ([],[]) :: ([],[]) :: ([],[]) :: ([],[]) :: ([],[]) :: ([],[]) :: []) 0;(focus (all_goals refine dp 0 0 [] [] pu1 ?_;all_goals refine dp 1 1 [] [] (callD1 (n := _) 0 (θ := []) (hD := (l00In_ok _ _ _))) ?_;all_goals refine dp 2 3 [] [] (a_pure (sv := .one _) rfl) ?_;all_goals (refine db 3 7 [] [] pu1 ?_ ?_ <;> (intro hc;first|cases hc|(try simp only [dcB] at hc);first|contradiction|(exfalso;omega)|skip));all_goals (refine dpy 4 15 [] [] pu1 ?_);all_goals (refine dpy 5 31 [] [] (a_pure (sv := .one _) rfl) ?_);all_goals (refine dpy 6 63 [] [] (a_pure (sv := .one _) rfl) ?_);all_goals (refine dpy 7 127 [] [] puL ?_);all_goals (refine dpy 8 255 [] [] (callD1 (n := _) 0 (θ := []) (hD := (l00In_ok _ _ _))) ?_);all_goals (refine dpy 9 511 [] [] (a_pure (sv := .one _) rfl) ?_);all_goals refine dp 10 1023 [] [] (a_pure (sv := .one _) rfl) ?_;all_goals (refine db 11 2047 [] [] pu1 ?_ ?_ <;> (intro hc;first|cases hc|(try simp only [dcB] at hc);first|contradiction|(exfalso;omega)|skip));all_goals (refine dpy 12 4095 [23,24,25,26,27,28] [] pu1 ?_);all_goals (refine dpy 13 8191 [23,24,25,26,27,28] [] (a_pure (sv := .one _) rfl) ?_);all_goals (refine dpy 14 16383 [23,24,25,26,27,28] [] (a_pure (sv := .one _) rfl) ?_);all_goals (refine dpy 15 32767 [23,24,25,26,27,28] [] puL ?_);all_goals (refine dpy 16 65535 [23,24,25,26,27,28] [] (by first|exact puN|exact a_pure (sv := .one _) rfl|exact a_len_str rfl (fT rfl)) ?_);all_goals (refine dpy 17 131040 [18,19,20,21,22,27] [] pu1 ?_);all_goals (refine dpy 18 262081 [18,19,20,21,22,27] [] (a_pure (sv := .one _) rfl) ?_);all_goals (refine dpy 19 524163 [18,19,20,21,22,27] [] (a_pure (sv := .one _) rfl) ?_);all_goals (refine dpy 20 1048327 [18,19,20,21,22,27] [] puL ?_);all_goals (refine dpy 21 2096640 [18,19,20,21,22,23,24,25,26] [] pu1 ?_);all_goals (refine dpy 22 4193311 [18,19,20,21,22] [] (by first|exact a_mulB rfl rfl (by omega) (by omega) (by omega) (by omega)|exact a_mul rfl rfl (by first|omega|assumption) (by first|omega|assumption)) ?_);all_goals (refine dpy 23 8388607 [] [] (by first|exact a_ne rfl rfl|exact a_neS rfl rfl rfl) ?_);all_goals refine dp 24 16777215 [] [] (a_pure (sv := .one _) rfl) ?_;all_goals (refine db 25 33554431 [] [] pu1 ?_ ?_ <;> (intro hc;first|cases hc|(try simp only [dcB] at hc);first|contradiction|(exfalso;omega)|skip));all_goals (refine dpy 26 67108863 [] [] pu1 ?_);all_goals (refine dpy 27 134217727 [] [] (a_pure (sv := .one _) rfl) ?_);all_goals (refine dpy 28 268435455 [] [] (a_pure (sv := .one _) rfl) ?_);all_goals (refine dpy 29 536870911 [] [] puL ?_);all_goals (refine dpy 30 1073741823 [] [] puI ?_);all_goals (refine dpy 31 2147483647 [] [] puL ?_);all_goals (refine dpy 32 4294967295 [] [] (by first|exact a_ne rfl rfl|exact a_neS rfl rfl rfl) ?_);all_goals refine dp 33 8589934591 [] [] (a_pure (sv := .one _) rfl) ?_;all_goals (refine d_nil ?_;refine dN ?_)));any_goals kernel_rfl)|((refine g_cond rfl (fun hc => ?_) (fun hc => ?_)) <;> (try simp only [dcB] at hc) <;> (try first|contradiction|(exfalso;omega)))
  all_goals first | (exfalso; omega) | (exfalso; simp_all; done) | skip
  refine g_loop_id ?_
  refine loopK [0,4] [] (fun i : Int => 0 ≤ i ∧ i ≤ d.nx.length) (fun i => [(5,.one (int i))]) (fun _ => []) (fun i => (d.nx.length - i).toNat) (0 : Int) [] (hI := ?_) (hr := ?_)
  · exact ⟨by simp,by omega⟩
  · rintro i ⟨h0,h1⟩
    dsimp only [List.cons_append,List.nil_append] at *
    skip
    repeat' first|(apply p3;(first|exact pu1|exact puN|exact puC);exact rfl)|refine cdn ?_|refine g_reg (id := 4) ?_|refine g_reg (id := 8) ?_|((refine g_cond rfl (fun hc => ?_) (fun hc => ?_)) <;> (try simp only [dcB] at hc) <;> (try first|contradiction|(exfalso;omega)))
    · have hi : i.toNat < d.nx.length := by omega
      have hx := g.bd _ (List.getElem_mem hi)
      repeat' first|(apply p3;(first|exact pu1|exact a_add rfl rfl (by omega) (by omega));exact rfl)|refine cd ?_|(apply g_drN (id := 6) okM [[],[0],[0,1],[0,1,2],[],[0,1,2,3,4],[0,1,2,3,4,5],[],[7],[7,8],[7,8,9],[7,8,9,10],[0,1,2,3,4,5,6,7,8,9,10,11],[0,1,2,3,4,5,6,7,8,9,10,11,12]] [([],[]),([],[]),([],[]),([],[]),([],[]),([],[]),([],[]),([],[]),([],[]),([],[]),([],[]),([],[]),([],[]),([],[])] 0;(focus (refine dp 0 0 [53,56,57,58,59,60] [] pu1 ?_;refine dp 1 1 [53,56,57,58,59,60] [] (a_pure (sv := .one _) rfl) ?_;refine dp 2 3 [53,56,57,58,59,60] [] (a_pure (sv := .one _) rfl) ?_;refine dp 3 7 [53,56,57,58,59,60] [] puL ?_;refine dp 4 0 [49,50,51,52,56,57,58,59,60] [] pu1 ?_;refine dp 5 31 [56,57,58,59,60] [] puI ?_;refine dp 6 63 [56,57,58,59,60] [] puL ?_;refine dp 7 0 [49,50,51,52,53,54,55] [] pu1 ?_;refine dp 8 1 [49,50,51,52,53,54,55] [] (a_pure (sv := .one _) rfl) ?_;refine dp 9 3 [49,50,51,52,53,54,55] [] (a_pure (sv := .one _) rfl) ?_;refine dp 10 7 [49,50,51,52,53,54,55] [] puL ?_;refine dp 11 15 [49,50,51,52,53,54,55] [] (a_sub rfl rfl (by omega) (by omega)) ?_;refine dp 12 4095 [] [] (callD1 (n := _) 0 (θ := []) (hD := (l00In_ok _ _ _))) ?_;refine dp 13 8191 [] [] (a_pure (sv := .one _) rfl) ?_;(refine d_nil ?_;refine dN ?_)));any_goals kernel_rfl)|((refine g_cond rfl (fun hc => ?_) (fun hc => ?_)) <;> (try simp only [dcB] at hc) <;> (try first|contradiction|(exfalso;omega)))
      refine q_again (i + 1) [] (by exact stk) ?_ ?_
      · exact ⟨by omega,by omega⟩
      · omega
    · repeat refine cr ?_
      refine ends_id ?_
      refine endK [] (h2 := ?_) (h3 := ?_) (nd := ?_)
      all_goals (repeat' first|exact ce0|refine ce ?_|refine ce2 ?_ ?_|exact SVLe.refl|refine ceb ?_)
      all_goals first | exact (show nodupB _ = true from rfl) | exact Or.inr rfl | (rfl)
theorem sRankDfa_ok (d : Dfa') (sy : Int) (g : DfOk d sy) : Does Tryd.prog 24 [.agg (dfC d),.one (int sy)] [] (.tup [(false,[int ((rkF d.st d.nx 0).getD 0)]),(false,[int (bif (rkF d.st d.nx 0).isSome then 0 else 5)])]) [] := by
  have k4 := g.yb
  have k5 := g.st
  have k6 := df_len g
  have ht := rkF_tail (st := d.st) g.z
  refine does_of (k := 0) Tryd.func24 rfl Tryd.ntmps24 rfl rfl fun w F0 S0 ρ0 => ?_
  dsimp only [argT,argH]
  repeat' first|(apply n3;exact a_new (gb := .bx _) rfl;exact rfl;refine dA ?_)|(apply p3;exact a_pure (sv := .one _) rfl;exact rfl)|refine cdn ?_|refine g_reg (id := 0) ?_
  first | refine g_turn (t_frzB (d := 2) (i := 0) rfl rfl rfl) ?_ | refine o_turn (t_frzB (d := 2) (i := 0) rfl rfl rfl) ?_
  repeat' first|(apply p3;(exact pu1);exact rfl)|refine cd ?_|(apply c4 0;exact callK1 (θ := []) (hD := (l28Is_ok d sy g));exact rfl;exact rfl;exact rfl;refine dM ?_)
  refine g_loop_id ?_
  refine loopK [2,4,5] [] (fun y : Int × Int => 1 ≤ y.1 ∧ y.1 ≤ d.nx.length ∧ 0 ≤ y.2 ∧ y.2 ≤ 1000000000000 ∧ rkF d.st (d.nx.drop y.1.toNat) y.2 = rkF d.st d.nx 0) (fun y => [(7,.one (int y.1)),(6,.one (int y.2))]) (fun _ => []) (fun y => (d.nx.length - y.1).toNat) ((1 : Int),(0 : Int)) [0] (hI := ?_) (hr := ?_)
  · exact ⟨by simp,by dsimp only; omega,by simp,by simp,ht.symm⟩
  · rintro ⟨i,r⟩ ⟨j0,j1,j2,j3,j4⟩
    dsimp only [List.cons_append,List.nil_append] at *
    skip
    repeat' first|(apply p3;(first|exact pu1|exact puN|exact puC);exact rfl)|refine cdn ?_|refine g_reg (id := 5) ?_|refine g_reg (id := 10) ?_|((refine g_cond rfl (fun hc => ?_) (fun hc => ?_)) <;> (try simp only [dcB] at hc) <;> (try first|contradiction|(exfalso;omega)))
    · have hi : i.toNat < d.nx.length := by omega
      have hx := g.bd _ (List.getElem_mem hi)
      have m1 : 0 ≤ r * d.st := Int.mul_nonneg j2 (by omega)
      have m2 : r * d.st ≤ 1000000000000 * 20 := Int.mul_le_mul j3 (by omega) (by omega) (by omega)
      rw [List.drop_eq_getElem_cons hi,rkF] at j4
      repeat' first|(apply p3;(first|exact pu1|exact puC|exact a_add rfl rfl (by omega) (by omega));exact rfl)|refine cd ?_|(apply g_drN (id := 7) okM [[],[],[1],[0,1,2],[],[4],[],[4,5,6],[4,5,6,7],[0,1,2,3,4,5,6,7,8],[0,1,2,3,4,5,6,7,8,9]] [([],[]),([],[]),([],[]),([],[]),([],[]),([],[]),([],[]),([],[]),([],[]),([],[]),([],[])] 0;(focus (refine dp 0 0 [19,20,22,23,24,25,26] [] pu1 ?_;refine dp 1 0 [18,22,23,24,25,26] [] (a_pure (sv := .one _) rfl) ?_;refine dp 2 1 [18,22,23,24,25,26] [] puL ?_;refine dp 3 7 [22,23,24,25,26] [] (by exact a_mul rfl rfl (by first|omega|assumption) (by first|omega|assumption)) ?_;refine dp 4 0 [18,19,20,21,24] [] (a_pure (sv := .one _) rfl) ?_;refine dp 5 1 [18,19,20,21,24] [] puL ?_;refine dp 6 0 [18,19,20,21,22,23] [] pu1 ?_;refine dp 7 7 [18,19,20,21] [] puI ?_;refine dp 8 15 [18,19,20,21] [] puL ?_;refine dp 9 511 [] [] (a_add rfl rfl (by omega) (by omega)) ?_;refine dp 10 1023 [] [] pu1 ?_;(refine d_nil ?_;refine dN ?_)));any_goals kernel_rfl)|((refine g_cond rfl (fun hc => ?_) (fun hc => ?_)) <;> (try simp only [dcB] at hc) <;> (try first|contradiction|(exfalso;omega)))
      · rw [if_pos hc] at j4
        rw [← j4]
        repeat refine cr ?_
        refine ends_id ?_
        refine endK [] (h2 := ?_) (h3 := ?_) (nd := ?_)
        all_goals (repeat' first|exact ce0|refine ce ?_|refine ce2 ?_ ?_|exact SVLe.refl|refine ceb ?_)
        all_goals first | exact (show nodupB _ = true from rfl) | exact Or.inr rfl | (rfl)
      · rw [if_neg hc] at j4
        refine q_again (i + 1,r * d.st + d.nx[i.toNat]'hi) [0] (by exact stk) ?_ ?_
        · dsimp only
          exact ⟨by omega,by omega,by omega,by omega,by rw [show (i + 1).toNat = i.toNat + 1 by omega]; exact j4⟩
        · dsimp only; omega
    · rw [List.drop_of_length_le (by omega),rkF] at j4
      rw [← j4]
      repeat refine cr ?_
      refine ends_id ?_
      refine endK [] (h2 := ?_) (h3 := ?_) (nd := ?_)
      all_goals (repeat' first|exact ce0|refine ce ?_|refine ce2 ?_ ?_|exact SVLe.refl|refine ceb ?_)
      all_goals first | exact (show nodupB _ = true from rfl) | exact Or.inr rfl | (rfl)
end Go.Proofs.YtbblkhjjgnpbaaaDoor
end
section
set_option linter.unusedVariables false
set_option linter.unusedSimpArgs false
set_option maxRecDepth 100000
set_option maxHeartbeats 4000000
namespace Go.Proofs.YtbblkhjjgnpbaaaDoor
open Go Foot Go.RowKit
theorem chs_flatH {α : Type} {n : Nat} (hn : n ≠ 0) : ∀ (k : Nat) (l : List α),l.length ≤ k → (chs n l).flatten = l
  | 0,l,h => by
    have : l = [] := List.length_eq_zero_iff.1 (by omega)
    subst this
    rw [chs_0 n rfl]; rfl
  | k + 1,l,h => by
    by_cases h0 : l.length = 0
    · have : l = [] := List.length_eq_zero_iff.1 h0
      subst this
      rw [chs_0 n rfl]; rfl
    · rw [chs_s hn h0,List.flatten_cons,chs_flatH hn k (l.drop n) (by rw [List.length_drop]; omega),List.take_append_drop]
theorem chs_lenH {α : Type} {n : Nat} (hn : n ≠ 0) : ∀ (k : Nat) (l : List α),l.length = n * k → (chs n l).length = k ∧ ∀ x ∈ chs n l,x.length = n
  | 0,l,h => by
    rw [chs_0 n (by simpa using h)]
    exact ⟨rfl,by simp⟩
  | k + 1,l,h => by
    have hz : n * (k + 1) = n * k + n := Nat.mul_succ n k
    rw [chs_s hn (by omega)]
    obtain ⟨i1,i2⟩ := chs_lenH hn k (l.drop n) (by rw [List.length_drop]; omega)
    refine ⟨by rw [List.length_cons,i1],fun x hx => ?_⟩
    rcases List.mem_cons.1 hx with rfl | hx
    · rw [List.length_take]; omega
    · exact i2 x hx
theorem join_app {c : UInt8} : ∀ {a b : List Bs},a ≠ [] → b ≠ [] → joinT (a ++ b) [c] = joinT a [c] ++ ([c] ++ joinT b [c])
  | [],_,h,_ => absurd rfl h
  | [x],[],_,h => absurd rfl h
  | [x],y :: b,_,_ => by rw [List.cons_append,List.nil_append,join_cons2,join_one]
  | x :: z :: a,b,_,h => by
    have ih := join_app (c := c) (a := z :: a) (b := b) (by simp) h
    rw [List.cons_append] at ih
    rw [List.cons_append,List.cons_append,join_cons2,ih,join_cons2]
    simp
theorem rpl_joinH {c d : UInt8} : ∀ {l : List Bs},(∀ p ∈ l,c ∉ p) → rpl c d (joinT l [c]) = joinT l [d]
  | [],_ => by unfold joinT; simp [Lib.join,rpl]
  | [a],h => by rw [join_one,join_one,rpl_no (h a (by simp))]
  | a :: b :: l,h => by
    rw [join_cons2,join_cons2,rpl_app,rpl_app,rpl_no (h a (by simp)),rpl_joinH (l := b :: l) fun p hp => h p (by simp at hp ⊢; exact .inr hp)]
    congr 2
    unfold rpl
    simp
theorem join_flat {c : UInt8} : ∀ {L : List (List Bs)},(∀ x ∈ L,x ≠ []) → joinT (L.map fun x => joinT x [c]) [c] = joinT L.flatten [c]
  | [],_ => rfl
  | [a],_ => by simp only [List.map_cons,List.map_nil,List.flatten_cons,List.flatten_nil,List.append_nil]; rw [join_one]
  | a :: b :: L,h => by
    have ih := join_flat (c := c) (L := b :: L) fun x hx => h x (by simp at hx ⊢; exact .inr hx)
    have hb : (b :: L).flatten ≠ [] := by
      have := h b (by simp)
      simp [this]
    rw [List.map_cons] at ih
    have e : (a :: b :: L).flatten = a ++ (b :: L).flatten := rfl
    rw [List.map_cons,List.map_cons,join_cons2,ih,e,join_app (h a (by simp)) hb]
@[irreducible] def dfaT (sy : Int) (l : List Int) : Bs := joinT ((chs sy.toNat l).map fun c => joinT (c.map decT) [44]) [59]
theorem dfaT_read {sy : Int} {l : List Int} {k : Nat} (hs : 1 ≤ sy) (hk : 1 ≤ k) (hl : l.length = sy.toNat * k) (hb : ∀ x ∈ l,0 ≤ x ∧ x ≤ 1000000000000) : numL (spl 44 (rpl 59 44 (dfaT sy l))) = some l := by
  have hn : sy.toNat ≠ 0 := by omega
  have h1 := chs_flatH hn l.length l (Nat.le_refl _)
  obtain ⟨h2,h3⟩ := chs_lenH hn k l hl
  obtain ⟨L,eL⟩ : ∃ L,L = chs sy.toNat l := ⟨_,rfl⟩
  have hLb : ∀ x ∈ L,∀ y ∈ x,0 ≤ y ∧ y ≤ 1000000000000 := fun x hx y hy => hb y (by rw [← h1,← eL]; exact List.mem_flatten.2 ⟨x,hx,hy⟩)
  unfold dfaT
  rw [← eL] at h1 h2 h3 ⊢
  have hne : ∀ x ∈ L,x ≠ [] := fun x hx e => by
    have := h3 x hx
    rw [e,List.length_nil] at this
    omega
  have hno : ∀ p ∈ L.map fun c => joinT (c.map decT) [44],(59 : UInt8) ∉ p := fun p hp q => by
    obtain ⟨c,hc,rfl⟩ := List.mem_map.1 hp
    rcases join_memH q with q | ⟨z,hz,q⟩
    · revert q; decide
    · obtain ⟨y,hy,rfl⟩ := List.mem_map.1 hz
      have := decT_dg (hLb c hc y hy).1 _ q
      revert this; unfold isDg; decide
  rw [rpl_joinH hno]
  have e1 : (L.map fun c => joinT (c.map decT) [44]) = (L.map fun c => c.map decT).map fun x => joinT x [44] := by rw [List.map_map]; rfl
  have e2 : (L.map fun c => c.map decT).flatten = l.map decT := by rw [← h1,List.map_flatten]
  rw [e1,join_flat (fun x hx => by obtain ⟨c,hc,rfl⟩ := List.mem_map.1 hx; simpa using hne c hc),e2,spl_joinH,numL_map hb]
  · intro e
    have := congrArg List.length e
    simp only [List.length_map,List.length_nil] at this
    have h5 : sy.toNat * k ≠ 0 := Nat.mul_ne_zero (by omega) (by omega)
    omega
  · intro p hp q
    obtain ⟨y,hy,rfl⟩ := List.mem_map.1 hp
    have := decT_dg (hb y hy).1 _ q
    revert this; unfold isDg; decide
end Go.Proofs.YtbblkhjjgnpbaaaDoor
end
section
set_option linter.unusedVariables false
set_option linter.unusedSimpArgs false
set_option maxRecDepth 100000
set_option maxHeartbeats 1000000
namespace Go.Proofs.YtbblkhjjgnpbaaaDoor
open Go Foot Go.RowKit
theorem dfaT_eq (sy : Int) (l : List Int) : dfaT sy l = joinT (chXI sy l) [59] := by
  unfold dfaT chXI chTI; rfl
theorem chXI_bd {d : Dfa'} {sy : Int} (g : DfOk d sy) : ((joinT (chXI sy d.nx) [59]).length : Int) ≤ 1000000 ∧ (chXI sy d.nx).length ≤ 20 := by
  have k4 := g.yb
  have k5 := g.st
  obtain ⟨k6,k7,k8⟩ := df_len g
  have hl : d.nx.length = sy.toNat * d.st.toNat := by
    have e : ((sy.toNat * d.st.toNat : Nat) : Int) = d.st * sy := by
      rw [Int.natCast_mul,Int.toNat_of_nonneg (by omega),Int.toNat_of_nonneg (by omega),Int.mul_comm]
    omega
  obtain ⟨h2,h3⟩ := chs_lenH (by omega) d.st.toNat d.nx hl
  have h1 := chs_flatH (n := sy.toNat) (by omega) d.nx.length d.nx (Nat.le_refl _)
  have hL : (chXI sy d.nx).length = d.st.toNat := by unfold chXI; rw [List.length_map,h2]
  have := join_len (sep := 59) (k := 200) (l := chXI sy d.nx) fun p hp => by
    unfold chXI at hp
    obtain ⟨c,hc,rfl⟩ := List.mem_map.1 hp
    have hcl := h3 c hc
    unfold chTI
    have := join_len (sep := 44) (k := 21) (l := c.map decT) fun q hq => by
      obtain ⟨x,hx,rfl⟩ := List.mem_map.1 hq
      have hb := g.bd x (by rw [← h1]; exact List.mem_flatten.2 ⟨c,hc,hx⟩)
      have := dec_le (n := x) (by omega) (by omega)
      omega
    rw [List.length_map] at this
    omega
  omega
theorem preB166 {p : Prop} (h : p := by first | with_reducible assumption | omega | (simp only [List.length_append,List.length_cons,List.length_nil,List.length_set,List.length_replicate,List.length_take,List.length_drop,List.length_tail,List.length_dropLast,List.length_reverse] at *; omega) | exact mem_len (by assumption) (by omega) | (with_reducible refine Int.le_trans (Int.ofNat_le.2 (trimR_len _)) ?_; simp only [List.length_cons,List.length_tail]; omega) | (exact (ruAt_ok (by assumption) (by assumption) (by assumption)).2.1) | (exact (ruAt_ok (by assumption) (by assumption) (by assumption)).2.1) | (have := vMach_bd (by assumption); omega) | (simp only [mC_ch,mC_tu]; omega) | (have := vTag_bd (by assumption); omega) | (have := (‹Gd _ _›).le; omega) | (exact tgHalts_no (by assumption)) | (exact tgHead (by assumption) (by assumption) (by assumption)) | (exact Int.le_trans (tgStep_gd (by assumption) (by assumption) (by assumption) (by assumption)).le (by decide)) | (exact vTag_r (by assumption)) | (with_reducible refine Int.le_trans (Int.ofNat_le.2 (pushL_len _ _)) ?_; simp only [List.length_dropLast]; omega) | exact ls_at (by assumption) (by omega) | exact pt_gd (by assumption) | exact lv_at (by assumption) (by omega) | exact pt_gd (lv_at (by assumption) (by omega)) | exact (ask_ok (by assumption)).1 | exact (ask_ok (by assumption)).2.1 | exact (ask_ok (by assumption)).2.2.1 | exact (ask_ok (by assumption)).2.2.2 | trivial) : p := h
theorem DfaText_ok (d : Dfa') (sy : Int) (g : DfOk d sy) : Does Tryd.prog 23 [.agg (dfC d),.one (int sy)] [] (.one (str (dfaT sy d.nx))) [] := by
  have k4 := g.yb
  have k5 := g.st
  obtain ⟨k6,k7,k8⟩ := df_len g
  obtain ⟨hj,hx⟩ := chXI_bd g
  have hR : ∀ r ∈ d.nx,0 ≤ r ∧ r ≤ 1000000000000 := fun r hr => by have := g.bd r hr; omega
  rw [dfaT_eq]
  refine does_of (k := 0) Tryd.func23 rfl Tryd.ntmps23 rfl rfl fun w F0 S0 ρ0 => ?_
  dsimp only [argT,argH]
  repeat' first|(apply n3;(first|exact a_new (gb := .bx _) rfl|exact a_litE eS [] rfl rfl rfl rfl rfl rfl rfl rfl);exact rfl;refine dA ?_)|(apply p3;(exact pu1);exact rfl)|refine cd ?_|(apply w3;exact a_st_bx rfl rfl rfl rfl (fN rfl rfl) (Nat.le_of_ble_eq_true rfl) rfl;exact rfl;refine dS ?_)|(apply c4 0;exact callK1 (θ := []) (hD := (ValidDfa_ok d sy g));exact rfl;exact rfl;exact rfl;refine dM ?_)|(apply c4 2;exact callK0 (θ := []) (hD := (chunkI_ok _ _ preB166));exact rfl;exact rfl;exact rfl;refine dM ?_)
  refine g_conv (t_mvB (i := 1) (j := 2) (k := 0) rfl rfl rfl rfl rfl rfl) ?_
  try dsimp only [setRow,List.map_cons,List.map_nil,scC,List.set_cons_zero,List.set_cons_succ]
  refine rangeK [4,5,15] [2,5] (fun x : List Bs => [(5,.row 1 (rows eS x)),(2,.bx [.gv 5])]) [0,1,2,3,4,5] 5 5 [3,4] [] [] [] [] (fun a : List Int => [.one (shI a)]) (fun _ => []) (fun x a => (x ++ [chTI a],none)) ChPreI [] (n1 := 6) (hD := fun l R hY => chunkItI_ok d.nx sy l R (by omega) (by omega) (by omega) hR hY) (hr := ?_) (hn := ?_) (hs := ?_)
  · rintro x a ⟨k0,k1,k2⟩ lp0 w0 F0 S0 ρ0 rc0
    dsimp only [parT,upOf,deadR,thN,List.map_cons,List.map_nil,SV.ren,List.cons_append,List.nil_append,GB.ren,C.ren,C.ren.all,Nat.reduceAdd] at *
    repeat' first|refine g_reg ?_|(apply p3;(exact a_pure (sv := .one _) rfl);exact rfl)|refine o_nil ?_|refine qAsg.go rfl ?_
    dsimp only
    repeat' first|refine cdn ?_
    have e2 : joinT (a.map decT) [44] = chTI a := by unfold chTI; rfl
    have e3 : ((joinT (a.map decT) [44]).length : Int) ≤ 140737488355328 := by
      have := join_len (sep := 44) (k := 21) (l := a.map decT) fun q hq => by
        obtain ⟨y,hy,rfl⟩ := List.mem_map.1 hq
        have hb := k2 y hy
        have := dec_le (n := y) (by omega) (by omega)
        omega
      rw [List.length_map] at this
      omega
    have e4 : ∀ y ∈ a,-1000000000000 ≤ y ∧ y ≤ 1000000000000 := fun y hy => by have := k2 y hy; omega
    repeat' first|refine cd ?_|(apply g_drN (id := 6) okM [[],[],[1],[1,2],[0,1,2,3],[0,1,2,3,4]] [([],[]),([],[]),([],[]),([0],[]),([1],[5]),([],[2])] 2;(focus (refine dp 0 0 [18,19,20] [(true,0)] puL ?_;refine dp 1 0 [17] [] pu1 ?_;refine dp 2 1 [17] [] (callD1 (n := _) 0 (θ := []) (hD := (decimals_ok a [44] (by omega) e4 e3))) ?_;refine duE 3 3 [17] [] (atN 0 (fun _ => a_litE eS [_] rfl rfl rfl rfl rfl rfl rfl rfl)) (by exact rfl) (by exact rfl) ?_;refine duE 4 15 [] [] (atS 1 (fun _ hj => a_appE (fP rfl) rfl rfl rfl rfl nowR (by (simp;omega)) (by decide) hj (by exact rfl)) (by decide)) (by exact rfl) (by exact rfl) ?_;refine duE 5 31 [] [] (a_st_bx rfl rfl rfl rfl (fN rfl rfl) (Nat.le_of_ble_eq_true rfl) rfl) (by exact rfl) (by exact rfl) ?_;(refine d_nil ?_;refine dN ?_)));any_goals kernel_rfl)
    rw [e2]
    refine q_next (x ++ [chTI a]) [0,1,2,3,4,8,6] (by exact stk) ?_
    rfl
  · rintro hj2
    dsimp only [upOf,deadR,calF,List.cons_append,List.nil_append,GB.ren,C.ren,C.ren.all,List.length_cons,List.length_nil,Nat.reduceAdd,Nat.reduceSub] at *
    skip
    repeat' first|(apply p3;(exact pu1);exact rfl)|refine cd ?_|(apply c4 0;exact callK1 (θ := []) (hD := (Join_ok _ _ preB166 preB166));exact rfl;exact rfl;exact rfl;refine dM ?_)
    skip
    repeat refine cr ?_
    refine ends_id ?_
    refine endK [] (h2 := ?_) (h3 := ?_) (nd := ?_)
    all_goals (repeat' first|exact ce0|refine ce ?_|refine ce2 ?_ ?_|exact SVLe.refl|refine ceb ?_)
    all_goals first | exact (show nodupB _ = true from rfl) | exact Or.inr rfl | (rfl)
  · intro _ h; cases h
theorem readDecT_ok (d : Dfa') (sy : Int) (g : DfOk d sy) : Does Tryd.prog 53 [.one (str (rpl 59 44 (dfaT sy d.nx)))] [] (.tup [(false,[.gv 0]),(false,[boo true])]) [roI d.nx] := by
  have k4 := g.yb
  have k5 := g.st
  obtain ⟨k6,k7,k8⟩ := df_len g
  obtain ⟨hj,hx⟩ := chXI_bd g
  rw [← dfaT_eq] at hj
  have hl : d.nx.length = sy.toNat * d.st.toNat := by
    have e : ((sy.toNat * d.st.toNat : Nat) : Int) = d.st * sy := by
      rw [Int.natCast_mul,Int.toNat_of_nonneg (by omega),Int.toNat_of_nonneg (by omega),Int.mul_comm]
    omega
  have h := ReadDecsG_ok (rpl 59 44 (dfaT sy d.nx)) (by rw [rpl_len]; omega)
  rw [dfaT_read (by omega) (k := d.st.toNat) (by omega) hl (fun x hx => by have := g.bd x hx; omega)] at h
  exact h
theorem ReadDfa_ok (d : Dfa') (sy : Int) (g : DfOk d sy) : Does Tryd.prog 22 [.one (str (dfaT sy d.nx)),.one (int sy)] [] (.tup [(true,[int d.st,.gv 0]),(false,[boo true])]) [roI d.nx] := by
  have k4 := g.yb
  have k5 := g.st
  obtain ⟨k6,k7,k8⟩ := df_len g
  obtain ⟨hj,hx⟩ := chXI_bd g
  rw [← dfaT_eq] at hj
  have hq : (d.nx.length : Int) / sy = d.st := by rw [k8]; exact Int.mul_ediv_cancel _ (by omega)
  have c1 : inB sy 2 6 = true := by unfold inB; rw [decide_eq_true_eq]; omega
  have kc : ¬ inB sy 2 6 = false := by simp [c1]
  refine does_of (k := 0) Tryd.func22 rfl Tryd.ntmps22 rfl rfl fun w F0 S0 ρ0 => ?_
  dsimp only [argT,argH]
  repeat' first|(apply n3;exact a_new (gb := .bx _) rfl;exact rfl;refine dA ?_)|(apply p3;(first|exact pu1|exact a_quo rfl rfl (by omega) (by omega) (by omega));exact rfl)|refine cdn ?_|refine g_reg (id := 0) ?_|refine g_reg (id := 1) ?_|refine g_reg (id := 2) ?_|refine g_reg (id := 4) ?_|(apply w3;exact a_st_bx rfl rfl rfl rfl (fN rfl rfl) (Nat.le_of_ble_eq_true rfl) rfl;exact rfl;refine dS ?_)|(apply c4 0;exact callK1 (θ := []) (hD := (ReplaceAllB_ok (dfaT sy d.nx) 59 44 (by omega) (by decide)));exact rfl;exact rfl;exact rfl;refine dM ?_)|(apply c4 1;exact callK1 (θ := []) (hD := (readDecT_ok d sy g));exact rfl;exact rfl;exact rfl;refine dM ?_)|(apply c4 0;exact callK1 (θ := []) (hD := (sizeI_ok _ preB166));exact rfl;exact rfl;exact rfl;refine dM ?_)|(apply py3;exact rfl;exact rfl;(exact pu1);exact rfl;exact rfl)|(apply cy4 0;exact rfl;exact rfl;exact callK1 (θ := []) (hD := (symOk_ok _));exact rfl;exact rfl;exact rfl;exact rfl;refine dM ?_)|((refine g_cond rfl (fun hc => ?_) (fun hc => ?_)) <;> (try simp only [dcB] at hc) <;> (try first|contradiction|(exfalso;omega)))
  simp only [setRow,scC,List.map_cons,List.map_nil,List.set_cons_zero,List.set_cons_succ,Nat.zero_add,List.getElem?_cons_zero,List.getElem?_cons_succ,List.take_succ_cons,List.take_zero,List.drop_zero,List.cons_append,List.nil_append,List.drop_succ_cons,List.drop_nil,List.append_nil,List.append_eq]
  rw [hq]
  repeat' first|(apply p3;(exact pu1);exact rfl)|refine cd ?_|(apply w3;exact a_st_bx rfl rfl rfl rfl (fN rfl rfl) (Nat.le_of_ble_eq_true rfl) rfl;exact rfl;refine dS ?_)|(apply c4 0;exact callK1 (θ := []) (hD := (ValidDfa_ok d sy g));exact rfl;exact rfl;exact rfl;refine dM ?_)|(apply py3;exact rfl;exact rfl;(first|exact pu1|exact a_neT rfl rfl);exact rfl;exact rfl)|(apply cy4 0;exact rfl;exact rfl;exact callK1 (θ := []) (hD := (DfaText_ok d sy g));exact rfl;exact rfl;exact rfl;exact rfl;refine dM ?_)|((refine g_cond rfl (fun hc => ?_) (fun hc => ?_)) <;> (try simp only [dcB] at hc) <;> (try first|contradiction|(exfalso;omega)))
  simp only [setRow,scC,List.map_cons,List.map_nil,List.set_cons_zero,List.set_cons_succ,Nat.zero_add,List.getElem?_cons_zero,List.getElem?_cons_succ,List.take_succ_cons,List.take_zero,List.drop_zero,List.cons_append,List.nil_append,List.drop_succ_cons,List.drop_nil,List.append_nil,List.append_eq]
  repeat refine cr ?_
  refine ends_id ?_
  refine endK [?_] (h2 := ?_) (h3 := ?_) (nd := ?_)
  rotate_left 1
  all_goals (repeat' first|exact ce0|refine ce ?_|refine ce2 ?_ ?_|exact SVLe.refl|refine ceb ?_)
  all_goals first | exact (show nodupB _ = true from rfl) | exact Or.inr rfl | (rfl)
end Go.Proofs.YtbblkhjjgnpbaaaDoor
end
section
set_option linter.unusedVariables false
set_option linter.unusedSimpArgs false
set_option maxRecDepth 100000
set_option maxHeartbeats 1000000
namespace Go.Proofs.YtbblkhjjgnpbaaaDoor
open Go Foot Go.RowKit
def esI (k : Int) : List Int → List (Int × Int)
  | [] => []
  | x :: l => (x,k) :: esI (k + 1) l
theorem esI_no {x : Int} : ∀ {l : List Int} {k : Int},x ∉ l → getA (esI k l) x = none
  | [],_,_ => rfl
  | y :: l,k,h => by
    simp only [List.mem_cons,not_or] at h
    rw [esI,getA,if_neg (fun e => h.1 e.symm),esI_no h.2]
theorem esI_yes {x : Int} : ∀ {l : List Int} {k : Int},x ∈ l → getA (esI k l) x = some (k + (l.idxOf x : Nat))
  | y :: l,k,h => by
    by_cases e : y = x
    · subst e
      rw [esI,getA,if_pos rfl,List.idxOf_cons_self]
      simp
    · have h2 : x ∈ l := by
        rcases List.mem_cons.1 h with q | q
        · exact absurd q.symm e
        · exact q
      have e3 : (y == x) = false := by simpa using e
      rw [esI,getA,if_neg e,esI_yes h2,List.idxOf_cons,e3,cond_false]
      congr 1
      omega
theorem setA_newI {l : List (Int × Int)} {a b : Int} (h : getA l a = none) : setA l a b = l ++ [(a,b)] := by
  induction l with
  | nil => rfl
  | cons p l ih =>
    obtain ⟨x,y⟩ := p
    simp only [getA] at h
    split at h
    · cases h
    · rename_i hne
      simp only [setA,if_neg hne,ih h,List.cons_append]
theorem esI_snoc (x : Int) : ∀ (l : List Int) (k : Int),esI k (l ++ [x]) = esI k l ++ [(x,k + l.length)]
  | [],k => by simp [esI]
  | y :: l,k => by simp only [List.cons_append,esI,esI_snoc x l,List.length_cons]; congr 4; omega
theorem idx_snoc {x : Int} : ∀ {l : List Int},x ∉ l → (l ++ [x]).idxOf x = l.length
  | [],_ => by simp
  | y :: l,h => by
    simp only [List.mem_cons,not_or] at h
    have e3 : (y == x) = false := by simpa using fun e : y = x => h.1 e.symm
    rw [List.cons_append,List.idxOf_cons,e3,cond_false,idx_snoc h.2,List.length_cons]
theorem set_digit {l : List Int} {k : Nat} (h : k < l.length) : (List.replicate (k + 1) (0 : Int) ++ l.drop (k + 1)).set k (l[k]) = List.replicate k 0 ++ l.drop k := by
  rw [List.replicate_succ',List.append_assoc,List.set_append_right _ _ (by simp),List.length_replicate,Nat.sub_self,List.singleton_append,List.set_cons_zero,List.drop_eq_getElem_cons h]
theorem preB165 {p : Prop} (h : p := by first | with_reducible assumption | omega | (simp only [List.length_append,List.length_cons,List.length_nil,List.length_set,List.length_replicate,List.length_take,List.length_drop,List.length_tail,List.length_dropLast,List.length_reverse] at *; omega) | exact mem_len (by assumption) (by omega) | (with_reducible refine Int.le_trans (Int.ofNat_le.2 (trimR_len _)) ?_; simp only [List.length_cons,List.length_tail]; omega) | (exact (ruAt_ok (by assumption) (by assumption) (by assumption)).2.1) | (exact (ruAt_ok (by assumption) (by assumption) (by assumption)).2.1) | (have := vMach_bd (by assumption); omega) | (simp only [mC_ch,mC_tu]; omega) | (have := vTag_bd (by assumption); omega) | (have := (‹Gd _ _›).le; omega) | (exact tgHalts_no (by assumption)) | (exact tgHead (by assumption) (by assumption) (by assumption)) | (exact Int.le_trans (tgStep_gd (by assumption) (by assumption) (by assumption) (by assumption)).le (by decide)) | (exact vTag_r (by assumption)) | (with_reducible refine Int.le_trans (Int.ofNat_le.2 (pushL_len _ _)) ?_; simp only [List.length_dropLast]; omega) | exact ls_at (by assumption) (by omega) | exact pt_gd (by assumption) | exact lv_at (by assumption) (by omega) | exact pt_gd (lv_at (by assumption) (by omega)) | exact (ask_ok (by assumption)).1 | exact (ask_ok (by assumption)).2.1 | exact (ask_ok (by assumption)).2.2.1 | exact (ask_ok (by assumption)).2.2.2 | trivial) : p := h
theorem dfaAt_ok (d : Dfa') (sy v : Int) (g : DfOk d sy) (hv : v = vlD d.st d.nx 0) (h0 : 0 ≤ v) (h1 : v ≤ 1000000000000) : Does Tryd.prog 52 [.one (int d.st),.one (int sy),.one (int v)] [] (.tup [(true,[int d.st,.gv 0]),(false,[boo true])]) [roI d.nx] := by
  have k4 := g.yb
  have k5 := g.st
  obtain ⟨k6,k7,k8⟩ := df_len g
  have hn : (d.st * sy).toNat = d.nx.length := by omega
  have hm : 0 ≤ d.st * sy := by omega
  have hk0 : (d.nx.length - 1 + 1 : Nat) = d.nx.length := by omega
  have hz0 : d.nx.drop 1 = d.nx.tail := List.drop_one
  refine does_of (k := 0) Tryd.func52 rfl Tryd.ntmps52 rfl rfl fun w F0 S0 ρ0 => ?_
  dsimp only [argT,argH]
  repeat' first|(apply n3;(first|exact a_new (gb := .bx _) rfl|exact a_make (fE rfl) (fZ rfl) (fP rfl) (by decide) rfl rfl (by omega) rfl (by omega) (by omega) (rows_rep eI 0 _));exact rfl;refine dA ?_)|(apply p3;(first|exact pu1|exact a_mulB rfl rfl (by omega) (by omega) (by omega) (by omega));exact rfl)|refine cdn ?_|refine g_reg (id := 0) ?_|refine g_reg (id := 1) ?_|(apply w3;exact a_st_bx rfl rfl rfl rfl (fN rfl rfl) (Nat.le_of_ble_eq_true rfl) rfl;exact rfl;refine dS ?_)
  rw [hn]
  simp only [setRow,scC,List.map_cons,List.map_nil,List.set_cons_zero,List.set_cons_succ,Nat.zero_add,List.getElem?_cons_zero,List.getElem?_cons_succ,List.take_succ_cons,List.take_zero,List.drop_zero,List.cons_append,List.nil_append,List.drop_succ_cons,List.drop_nil,List.append_nil,List.append_eq]
  have hrl : ((List.replicate d.nx.length (0 : Int)).length : Int) = d.nx.length := by simp
  repeat' first|(apply p3;(first|exact pu1|exact puN|exact a_sub rfl rfl (by omega) (by omega));exact rfl)|refine cd ?_
  refine g_loop_id ?_
  refine loopK [0,6,7,8] [1] (fun y : Int × Int × List Int => 0 ≤ y.1 ∧ y.1 < d.nx.length ∧ 0 ≤ y.2.1 ∧ y.2.1 ≤ 1000000000000 ∧ y.2.1 = vlD d.st (d.nx.take (y.1.toNat + 1)) 0 ∧ y.2.2 = List.replicate (y.1.toNat + 1) 0 ++ d.nx.drop (y.1.toNat + 1)) (fun y => [(9,.one (int y.1)),(2,.one (int y.2.1))]) (fun y => [(1,roI y.2.2)]) (fun y => y.1.toNat) (((List.replicate d.nx.length (0 : Int)).length : Int) - 1,v,List.replicate d.nx.length (0 : Int)) [0,1,2] (hI := ?_) (hr := ?_)
  · rw [hrl]
    have e1 : ((d.nx.length : Int) - 1).toNat + 1 = d.nx.length := by omega
    refine ⟨by dsimp only; omega,by dsimp only; omega,h0,h1,?_,?_⟩
    · dsimp only
      rw [e1,List.take_length,hv]
    · dsimp only
      rw [e1,List.drop_length,List.append_nil]
  · rintro ⟨k,r,l⟩ ⟨j0,j1,j2,j5,j3,j4⟩
    dsimp only [List.cons_append,List.nil_append] at *
    skip
    repeat' first|(apply p3;(first|exact pu1|exact puC);exact rfl)|refine cdn ?_|refine g_reg (id := 3) ?_|((refine g_cond rfl (fun hc => ?_) (fun hc => ?_)) <;> (try simp only [dcB] at hc) <;> (try first|contradiction|(exfalso;omega)))
    · have hi : k.toNat < d.nx.length := by omega
      obtain ⟨s1,s2⟩ := vlD_step (by omega) g.bd hi
      have hll : l.length = d.nx.length := by rw [j4,List.length_append,List.length_replicate,List.length_drop]; omega
      have hr0 : 0 ≤ vlD d.st (d.nx.take k.toNat) 0 := vlD_nn (by omega) (fun x hx => g.bd x (List.mem_of_mem_take hx)) (by omega)
      repeat' first|(apply p3;(first|exact pu1|exact a_quo rfl rfl (by omega) (by omega) (by omega)|exact a_sub rfl rfl (by omega) (by omega));exact rfl)|refine cd ?_|(apply g_drN (id := 5) okM [[],[0],[],[],[],[3,4],[0,1,2,3,4,5],[0,1,2,3,4,5,6]] [([],[]),([],[]),([],[]),([],[]),([],[]),([],[]),([],[]),([],[1])] 0;(focus (refine dp 0 0 [26,27,28,29] [] (a_pure (sv := .one _) rfl) ?_;refine dp 1 1 [26,27,28,29] [] puL ?_;refine dp 2 0 [24,25,27,28,29] [] pu1 ?_;refine dp 3 0 [24,25,26,28] [] pu1 ?_;refine dp 4 0 [24,25,26,27] [] pu1 ?_;refine dp 5 3 [24,25,26] [] (a_rem rfl rfl (by omega) (by omega) (by omega)) ?_;refine dp 6 63 [] [] puI ?_;refine duE 7 127 [] [] (by exact a_st_rowI rfl rfl rfl rfl (fN rfl rfl) bnd) (by exact rfl) (by exact rfl) ?_;(refine d_nil ?_;refine dN ?_)));any_goals kernel_rfl)
      refine q_again (k - 1,r / d.st,l.set k.toNat (r % d.st)) [0,1,2] (by exact stk) ?_ ?_
      · have e2 : (k - 1).toNat + 1 = k.toNat := by omega
        have hrl2 : r / d.st ≤ r := Int.ediv_le_self _ j2
        refine ⟨by dsimp only; omega,by dsimp only; omega,?_,by dsimp only; omega,?_,?_⟩
        · dsimp only
          rw [j3,s2]; exact hr0
        · dsimp only
          rw [e2,j3,s2]
        · dsimp only
          rw [e2,j4,j3,s1,set_digit hi]
      · dsimp only; omega
    · have hk : k = 0 := by omega
      subst hk
      have hr : r = 0 := by
        rw [j3]
        have hi : 0 < d.nx.length := by omega
        obtain ⟨s1,s2⟩ := vlD_step (k := 0) (by omega) g.bd hi
        have gz := g.z
        rw [List.getElem?_eq_getElem hi] at gz
        have gz2 := Option.some.inj gz
        show vlD d.st (d.nx.take (0 + 1)) 0 = 0
        rw [List.take_succ_eq_append_getElem hi,vlD_snoc,gz2,List.take_zero,vlD]
        omega
      have hl2 : l = d.nx := by
        have hi : 0 < d.nx.length := by omega
        have gz := g.z
        rw [List.getElem?_eq_getElem hi] at gz
        have gz2 := Option.some.inj gz
        rw [j4]
        show List.replicate 1 0 ++ d.nx.drop 1 = d.nx
        conv => rhs; rw [← List.drop_zero (l := d.nx),List.drop_eq_getElem_cons hi,gz2]
        rfl
      subst hl2
      subst hr
      repeat' first|(apply p3;(first|exact pu1|exact puC);exact rfl)|refine cd ?_|(apply w3;exact a_st_bx rfl rfl rfl rfl (fN rfl rfl) (Nat.le_of_ble_eq_true rfl) rfl;exact rfl;refine dS ?_)
      simp only [setRow,scC,List.map_cons,List.map_nil,List.set_cons_zero,List.set_cons_succ,Nat.zero_add,List.getElem?_cons_zero,List.getElem?_cons_succ,List.take_succ_cons,List.take_zero,List.drop_zero,List.cons_append,List.nil_append,List.drop_succ_cons,List.drop_nil,List.append_nil,List.append_eq]
      repeat refine cr ?_
      refine ends_id ?_
      refine endK [?_] (h2 := ?_) (h3 := ?_) (nd := ?_)
      rotate_left 1
      all_goals (repeat' first|exact ce0|refine ce ?_|refine ce2 ?_ ?_|exact SVLe.refl|refine ceb ?_)
      all_goals first | exact (show nodupB _ = true from rfl) | exact Or.inr rfl | (rfl)
theorem DfaAt_ok (d : Dfa') (sy v : Int) (g : DfOk d sy) (hv : rkF d.st d.nx 0 = some v) : Does Tryd.prog 21 [.one (int d.st),.one (int sy),.one (int v)] [] (.tup [(true,[int d.st,.gv 0]),(false,[int 0])]) [roI d.nx] := by
  have k4 := g.yb
  have k5 := g.st
  obtain ⟨b1,b2⟩ := rkF_bd (by omega) g.bd (by omega) (by omega) hv
  have c1 : inB sy 2 6 = true := by unfold inB; rw [decide_eq_true_eq]; omega
  have c2 : inB d.st 1 20 = true := by unfold inB; rw [decide_eq_true_eq]; omega
  have c3 : inB v 0 1000000000000 = true := by unfold inB; rw [decide_eq_true_eq]; omega
  refine does_of (k := 0) Tryd.func21 rfl Tryd.ntmps21 rfl rfl fun w F0 S0 ρ0 => ?_
  dsimp only [argT,argH]
  repeat' first|(apply n3;exact a_new (gb := .bx _) rfl;exact rfl;refine dA ?_)|(apply p3;(exact pu1);exact rfl)|refine cd ?_|(apply w3;exact a_st_bx rfl rfl rfl rfl (fN rfl rfl) (Nat.le_of_ble_eq_true rfl) rfl;exact rfl;refine dS ?_)|(apply c4 0;exact callK1 (θ := []) (hD := (symOk_ok _));exact rfl;exact rfl;exact rfl;refine dM ?_)|(apply c4 0;exact callK1 (θ := []) (hD := (within_ok _ _ _));exact rfl;exact rfl;exact rfl;refine dM ?_)|(apply c4 1;exact callK1 (θ := []) (hD := (dfaAt_ok d sy v g (rkF_val hv) b1 b2));exact rfl;exact rfl;exact rfl;refine dM ?_)|(apply py3;exact rfl;exact rfl;(exact pu1);exact rfl;exact rfl)|(apply cy4 0;exact rfl;exact rfl;exact callK1 (θ := []) (hD := (within_ok _ _ _));exact rfl;exact rfl;exact rfl;exact rfl;refine dM ?_)|((first|refine o_gs rfl rfl (fun hc => ?_) (fun hc => ?_)|refine g_cond rfl (fun hc => ?_) (fun hc => ?_)) <;> (try simp only [dcB] at hc) <;> (try first|contradiction|(exfalso;omega)))
  all_goals first | (exfalso; omega) | (exfalso; simp_all; done) | skip
  simp only [setRow,scC,List.map_cons,List.map_nil,List.set_cons_zero,List.set_cons_succ,Nat.zero_add,List.getElem?_cons_zero,List.getElem?_cons_succ,List.take_succ_cons,List.take_zero,List.drop_zero,List.cons_append,List.nil_append,List.drop_succ_cons,List.drop_nil,List.append_nil,List.append_eq]
  repeat refine cr ?_
  refine ends_id ?_
  refine endK [?_] (h2 := ?_) (h3 := ?_) (nd := ?_)
  rotate_left 1
  all_goals (repeat' first|exact ce0|refine ce ?_|refine ce2 ?_ ?_|exact SVLe.refl|refine ceb ?_)
  all_goals first | exact (show nodupB _ = true from rfl) | exact Or.inr rfl | (rfl)
theorem PruneDfa_ok (d : Dfa') (sy : Int) (g : DfOk d sy) : Does Tryd.prog 26 [.agg (dfC d),.one (int sy)] [] (.tup [(true,[int (prD d sy).st,.gv 0]),(false,[int 0])]) [roI (prD d sy).nx] := by
  have k4 := g.yb
  have k5 := g.st
  obtain ⟨k6,k7,k8⟩ := df_len g
  have q0 := pr_0 g
  refine does_of (k := 0) Tryd.func26 rfl Tryd.ntmps26 rfl rfl fun w F0 S0 ρ0 => ?_
  dsimp only [argT,argH]
  repeat' first|(apply n3;(first|exact a_new (gb := .bx _) rfl|exact a_litE eI [_] rfl rfl rfl rfl rfl rfl rfl rfl|exact a_mkMapE mII);exact rfl;refine dA ?_)|(apply p3;(exact pu1);exact rfl)|refine cd ?_|(apply w3;(first|exact a_st_bx rfl rfl rfl rfl (fN rfl rfl) (Nat.le_of_ble_eq_true rfl) rfl|exact a_insert (M := mII) rfl rfl rfl rfl Tryd.underlying89 (by kernel_rfl));exact rfl;refine dS ?_)|(apply c4 0;exact callK1 (θ := []) (hD := (ValidDfa_ok d sy g));exact rfl;exact rfl;exact rfl;refine dM ?_)
  simp only [setRow,scC,List.map_cons,List.map_nil,List.set_cons_zero,List.set_cons_succ,Nat.zero_add,List.getElem?_cons_zero,List.getElem?_cons_succ,List.take_succ_cons,List.take_zero,List.drop_zero,List.cons_append,List.nil_append,List.drop_succ_cons,List.drop_nil,List.append_nil,List.append_eq]
  have hs0 : setA [] (0 : Int) (0 : Int) = esI 0 [0] := rfl
  rw [hs0]
  refine g_conv (t_nilB (i := 4) (k := 1) (z := 1) rfl rfl rfl (by decide)) ?_
  try dsimp only [setRow,List.map_cons,List.map_nil,scC,List.set_cons_zero,List.set_cons_succ,Nat.reduceAdd]
  refine g_loop_id ?_
  refine loopK [1,2,4,5,6,7,8] [2,3,4,5] (fun y : Int × List Int × List Int => 0 ≤ y.1 ∧ y.1 ≤ y.2.1.length ∧ PrOk d sy y.2.1 y.2.2 ∧ y.2.2.length = y.1.toNat * sy.toNat ∧ prF d sy (d.st.toNat - y.1.toNat) y.1.toNat y.2.1 y.2.2 = prF d sy d.st.toNat 0 [0] []) (fun y => [(9,.one (int y.1))]) (fun y => [(2,roI y.2.1),(3,mpOf mII (esI 0 y.2.1)),(4,.bx [int 0,.gv 5]),(5,roI y.2.2)]) (fun y => (d.st - y.1).toNat) ((0 : Int),[0],([] : List Int)) [0,1,2,3,4,5] (hI := ?_) (hr := ?_)
  · exact ⟨by simp,by simp,q0,by simp,by simp⟩
  · rintro ⟨k,l,o⟩ ⟨j0,j1,j2,j3,j4⟩
    dsimp only [List.cons_append,List.nil_append] at *
    skip
    have jl := pr_len g j2
    repeat' first|(apply p3;(first|exact pu1|exact puN|exact puC);exact rfl)|refine cdn ?_|refine g_reg (id := 5) ?_|((refine g_cond rfl (fun hc => ?_) (fun hc => ?_)) <;> (try simp only [dcB] at hc) <;> (try first|contradiction|(exfalso;omega)))
    · have hk : k.toNat < l.length := by omega
      have hlk : l[k.toNat]? = some (l.getD k.toNat 0) := by rw [List.getD_eq_getElem?_getD,List.getElem?_eq_getElem hk]; rfl
      have hsd : 0 ≤ l.getD k.toNat 0 ∧ l.getD k.toNat 0 < d.st := j2.bd _ (List.mem_of_getElem? hlk)
      generalize l.getD k.toNat 0 = s at *
      repeat' first|(apply p3;(exact pu1);exact rfl)|refine cd ?_
      refine g_loop_id ?_
      refine loopK [1,2,4,5,6,7,8,9,29] [2,3,4,5] (fun y : Int × List Int × List Int => 0 ≤ y.1 ∧ y.1 ≤ sy ∧ PrOk d sy y.2.1 y.2.2 ∧ y.2.1[k.toNat]? = some s ∧ l.length ≤ y.2.1.length ∧ y.2.2.length = k.toNat * sy.toNat + y.1.toNat ∧ inF d sy s (sy.toNat - y.1.toNat) y.1 y.2.1 y.2.2 = inF d sy s sy.toNat 0 l o) (fun y => [(30,.one (int y.1))]) (fun y => [(2,roI y.2.1),(3,mpOf mII (esI 0 y.2.1)),(4,.bx [int 0,.gv 5]),(5,roI y.2.2)]) (fun y => (sy - y.1).toNat) ((0 : Int),l,o) [0,1,2,3,4,5] (hI := ?_) (hr := ?_)
      · exact ⟨by simp,by dsimp only; omega,j2,hlk,Nat.le_refl _,by dsimp only; omega,by simp⟩
      · rintro ⟨c,l',o'⟩ ⟨m0,m1,m2,m3,m4,m5,m6⟩
        dsimp only [List.cons_append,List.nil_append] at *
        skip
        have ml := pr_len g m2
        repeat' first|(apply p3;(first|exact pu1|exact puC|exact a_add rfl rfl (by omega) (by omega));exact rfl)|refine cdn ?_|refine g_reg (id := 8) ?_|refine g_reg (id := 9) ?_|refine g_reg (id := 6) ?_|((refine g_cond rfl (fun hc => ?_) (fun hc => ?_)) <;> (try simp only [dcB] at hc) <;> (try first|contradiction|(exfalso;omega)))
        · have hk2 : k.toNat < l'.length := by omega
          have hs2 : l'[k.toNat]'hk2 = s := by rw [List.getElem?_eq_getElem hk2] at m3; exact Option.some.inj m3
          have ol : (o'.length : Int) ≤ 1000000 := by
            have a1 : k.toNat * sy.toNat ≤ 20 * 6 := Nat.mul_le_mul (by omega) (by omega)
            omega
          have hpa := pr_add (c := c.toNat) g m2 m3 (by omega) m5
          rw [show ((c.toNat : Nat) : Int) = c by omega] at hpa
          have hst : inF d sy s (sy.toNat - c.toNat) c l' o' = inF d sy s (sy.toNat - (c + 1).toNat) (c + 1) (adS l' (d.nx.getD (s * sy + c).toNat 0)) (o' ++ [(((adS l' (d.nx.getD (s * sy + c).toNat 0)).idxOf (d.nx.getD (s * sy + c).toNat 0) : Nat) : Int)]) := by
            rw [show sy.toNat - c.toNat = (sy.toNat - (c + 1).toNat) + 1 by omega,inF]
          have hal := adS_len (l := l') (x := d.nx.getD (s * sy + c).toNat 0)
          have hag : (adS l' (d.nx.getD (s * sy + c).toNat 0))[k.toNat]? = some s := by rw [adS_get hk2]; exact m3
          repeat' first|refine cdn ?_|(apply g_drN (id := 10) okM [[],[],[],[1,2],[1,2,3],[],[],[0,1,2,3,4,5,6],[0,1,2,3,4,5,6,7]] [([],[]),([],[]),([],[]),([],[]),([],[]),([],[]),([],[]),([],[]),([],[])] 0;(focus (refine dp 0 0 [34,35,36,37,38,39] [] puL ?_;refine dp 1 0 [33,35,38,39] [] pu1 ?_;refine dp 2 0 [33,34,38,39] [] pu1 ?_;refine dp 3 3 [33,38,39] [] puI ?_;refine dp 4 7 [33,38,39] [] puL ?_;refine dp 5 0 [33,34,35,36,37,39] [] pu1 ?_;refine dp 6 0 [33,34,35,36,37,38] [] pu1 ?_;refine dp 7 127 [] [] (callD1 (n := _) 0 (θ := []) (hD := (toDfa_ok d (l'[k.toNat]'hk2) c sy g (by rw [hs2];exact hsd.1) (by rw [hs2];exact hsd.2) m0 (by omega)))) ?_;refine dp 8 255 [] [] pu1 ?_;(refine d_nil ?_;refine dN ?_)));any_goals kernel_rfl)
          rw [hs2]
          generalize d.nx.getD (s * sy + c).toNat 0 = y at *
          by_cases hy : y ∈ l'
          · have hg := esI_yes (k := 0) hy
            have hes : ∀ v,getA (esI 0 l') y = some v → 0 ≤ v ∧ v ≤ 1048576 := fun v hv => by
              rw [hg] at hv
              have := List.idxOf_lt_length_of_mem hy
              injection hv with hv
              omega
            have ha : adS l' y = l' := by unfold adS; rw [if_pos hy]
            rw [ha] at hpa hst hag
            repeat' first|(apply p3;(first|exact pu1|exact a_lookOk (M := mII) 0 rfl rfl rfl Tryd.underlying89 (by kernel_rfl) (by kernel_rfl));exact rfl)|refine cdn ?_|refine g_reg (id := 11) ?_
            simp only [hg,Option.isSome_some,Option.getD_some,Int.zero_add]
            repeat' first|(apply n3;(exact a_litE eI [_] rfl rfl rfl rfl rfl rfl rfl rfl);exact rfl;refine dA ?_)|(apply p3;(first|exact pu1|exact a_add rfl rfl (by omega) (by omega));exact rfl)|refine cd ?_|(apply s3;exact a_appE (fP rfl) rfl rfl rfl rfl nowR (by (simp;omega)) (by decide) (by decide) (by exact rfl);exact rfl;exact rfl)|(apply w3;(exact a_st_bx rfl rfl rfl rfl (fN rfl rfl) (Nat.le_of_ble_eq_true rfl) rfl);exact rfl;refine dS ?_)
            refine q_again (c + 1,l',o' ++ [((l'.idxOf y : Nat) : Int)]) [0,1,2,3,4,7] (by exact stk) ?_ ?_
            · dsimp only
              exact ⟨by omega,by omega,hpa,hag,m4,by simp; omega,by rw [← hst]; exact m6⟩
            · dsimp only; omega
          · have hg := esI_no (k := 0) hy
            have hes : ∀ v,getA (esI 0 l') y = some v → 0 ≤ v ∧ v ≤ 1048576 := fun v hv => by rw [hg] at hv; cases hv
            have ha : adS l' y = l' ++ [y] := by unfold adS; rw [if_neg hy]
            have hss : setA (esI 0 l') y (l'.length : Int) = esI 0 (l' ++ [y]) := by rw [setA_newI hg,esI_snoc]; simp
            rw [ha,idx_snoc hy] at hpa hst
            rw [ha] at hag hal
            repeat' first|(apply p3;(first|exact pu1|exact a_lookOk (M := mII) 0 rfl rfl rfl Tryd.underlying89 (by kernel_rfl) (by kernel_rfl));exact rfl)|refine cdn ?_|refine g_reg (id := 11) ?_
            simp only [hg,Option.isSome_none,Option.getD_none]
            repeat' first|(apply n3;(exact a_litE eI [_] rfl rfl rfl rfl rfl rfl rfl rfl);exact rfl;refine dA ?_)|(apply p3;(first|exact pu1|exact a_add rfl rfl (by omega) (by omega));exact rfl)|refine cd ?_|(apply s3;exact a_appE (fP rfl) rfl rfl rfl rfl nowR (by (simp;omega)) (by decide) (by decide) (by exact rfl);exact rfl;exact rfl)|(apply w3;(first|exact a_st_bx rfl rfl rfl rfl (fN rfl rfl) (Nat.le_of_ble_eq_true rfl) rfl|exact a_mapUpd (M := mII) rfl rfl rfl rfl Tryd.underlying89 (by kernel_rfl));exact rfl;refine dS ?_)|(apply c4 0;exact callK1 (θ := []) (hD := (sizeI_ok _ preB165));exact rfl;exact rfl;exact rfl;refine dM ?_)
            rw [hss]
            refine q_again (c + 1,l' ++ [y],o' ++ [((l'.length : Nat) : Int)]) [0,1,7,3,4,9] (by exact stk) ?_ ?_
            · dsimp only
              exact ⟨by omega,by omega,hpa,hag,by omega,by simp; omega,by rw [← hst]; exact m6⟩
            · dsimp only; omega
        · have hc0 : c = sy := by omega
          subst hc0
          rw [Nat.sub_self,inF] at m6
          have x1 := congrArg Prod.fst m6
          have x2 := congrArg Prod.snd m6
          dsimp only at x1 x2
          skip
          refine q_again (k + 1,l',o') [0,1,2,3,4,5] (by exact stk) ?_ ?_
          · dsimp only
            refine ⟨by omega,by omega,m2,by rw [m5,show (k + 1).toNat = k.toNat + 1 by omega,Nat.add_mul,Nat.one_mul],?_⟩
            rw [← j4,show d.st.toNat - k.toNat = (d.st.toNat - (k + 1).toNat) + 1 by omega,prF,if_pos hk,List.getD_eq_getElem?_getD,hlk,Option.getD_some,← x1,← x2,show (k + 1).toNat = k.toNat + 1 by omega]
          · dsimp only; omega
    · have e : prF d sy (d.st.toNat - k.toNat) k.toNat l o = (l,o) := by
        cases hq : d.st.toNat - k.toNat with
        | zero => rw [prF]
        | succ n => rw [prF,if_neg (by omega)]
      rw [e] at j4
      have hP : prD d sy = ⟨(l.length : Nat),o⟩ := by unfold prD; rw [← j4]
      rw [hP]
      repeat' first|(apply p3;(exact pu1);exact rfl)|refine cd ?_|(apply w3;(exact a_st_bx rfl rfl rfl rfl (fN rfl rfl) (Nat.le_of_ble_eq_true rfl) rfl);exact rfl;refine dS ?_)|(apply c4 0;exact callK1 (θ := []) (hD := (sizeI_ok _ preB165));exact rfl;exact rfl;exact rfl;refine dM ?_)
      simp only [setRow,scC,List.map_cons,List.map_nil,List.set_cons_zero,List.set_cons_succ,Nat.zero_add,List.getElem?_cons_zero,List.getElem?_cons_succ,List.take_succ_cons,List.take_zero,List.drop_zero,List.cons_append,List.nil_append,List.drop_succ_cons,List.drop_nil,List.append_nil,List.append_eq]
      repeat refine cr ?_
      refine ends_id ?_
      refine endK [?_] (h2 := ?_) (h3 := ?_) (nd := ?_)
      rotate_left 1
      all_goals (repeat' first|exact ce0|refine ce ?_|refine ce2 ?_ ?_|(refine Or.inr (bx_eq rfl rfl ?_);(try dsimp only [C.ren,C.ren.all]);(try exact rfl))|exact SVLe.refl|refine ceb ?_)
      all_goals first | exact (show nodupB _ = true from rfl) | exact Or.inr rfl | (rfl)
end Go.Proofs.YtbblkhjjgnpbaaaDoor
end
section
set_option linter.unusedVariables false
set_option linter.unusedSimpArgs false
set_option maxRecDepth 100000
set_option maxHeartbeats 1000000
namespace Go.Proofs.YtbblkhjjgnpbaaaDoor
open Go Foot Go.RowKit
theorem rkF_rep {st : Int} : ∀ n : Nat,rkF st (List.replicate n 0) 0 = some 0
  | 0 => rfl
  | n + 1 => by rw [List.replicate_succ,rkF,if_neg (by omega),show (0 : Int) * st + 0 = 0 by omega,rkF_rep n]
theorem df_zero {d : Dfa'} {sy : Int} (g : DfOk d sy) : DfOk ⟨d.st,List.replicate d.nx.length 0⟩ sy := by
  have k5 := g.st
  have k6 := df_len g
  refine ⟨g.yb,g.st,by dsimp only; rw [List.length_replicate]; exact g.ln,fun x hx => ?_,?_⟩
  · rw [List.eq_of_mem_replicate hx]
    exact ⟨Int.le_refl _,by dsimp only; omega⟩
  · rw [List.getElem?_replicate,if_pos (by omega)]
theorem preB169 {p : Prop} (h : p := by first | with_reducible assumption | omega | (simp only [List.length_append,List.length_cons,List.length_nil,List.length_set,List.length_replicate,List.length_take,List.length_drop,List.length_tail,List.length_dropLast,List.length_reverse] at *; omega) | exact mem_len (by assumption) (by omega) | (with_reducible refine Int.le_trans (Int.ofNat_le.2 (trimR_len _)) ?_; simp only [List.length_cons,List.length_tail]; omega) | (exact (ruAt_ok (by assumption) (by assumption) (by assumption)).2.1) | (exact (ruAt_ok (by assumption) (by assumption) (by assumption)).2.1) | (have := vMach_bd (by assumption); omega) | (simp only [mC_ch,mC_tu]; omega) | (have := vTag_bd (by assumption); omega) | (have := (‹Gd _ _›).le; omega) | (exact tgHalts_no (by assumption)) | (exact tgHead (by assumption) (by assumption) (by assumption)) | (exact Int.le_trans (tgStep_gd (by assumption) (by assumption) (by assumption) (by assumption)).le (by decide)) | (exact vTag_r (by assumption)) | (with_reducible refine Int.le_trans (Int.ofNat_le.2 (pushL_len _ _)) ?_; simp only [List.length_dropLast]; omega) | exact ls_at (by assumption) (by omega) | exact pt_gd (by assumption) | exact lv_at (by assumption) (by omega) | exact pt_gd (lv_at (by assumption) (by omega)) | exact (ask_ok (by assumption)).1 | exact (ask_ok (by assumption)).2.1 | exact (ask_ok (by assumption)).2.2.1 | exact (ask_ok (by assumption)).2.2.2 | trivial) : p := h
theorem b10LongB_ok (l : List Int) (hx : (l.length : Int) ≤ 1048576) : Does Tryd.prog 18 [.one (shY l)] [] (.one (boo false)) [] := by
  have h := b10Long_ok l (by omega)
  rw [decide_eq_false (by omega)] at h
  exact h
theorem lawRanks (c m : List Int) (hc : (c.length : Int) ≤ 9223372036854775807) (hm : (m.length : Int) ≤ 9223372036854775807) (hcb : ∀ x ∈ c,0 ≤ x ∧ x ≤ 255) (hmb : ∀ x ∈ m,0 ≤ x ∧ x ≤ 255) : Does Tryd.prog 4 [.one (shY c),.one (shY m)] [] (.one (boo true)) [] := by
  by_cases hL : (c.length : Int) > 1048576 ∨ (m.length : Int) > 1048576
  · refine does_of (k := 0) Tryd.func4 rfl Tryd.ntmps4 rfl rfl fun w F0 S0 ρ0 => ?_
    dsimp only [argT,argH]
    repeat' first|(apply p3;(exact pu1);exact rfl)|refine cd ?_|(apply c4 0;exact callK1 (θ := []) (hD := (b10Long_ok _ preB169));exact rfl;exact rfl;exact rfl;refine dM ?_)|refine o_no rfl rfl rfl rfl ?_|(apply py3;exact rfl;exact rfl;(exact pu1);exact rfl;exact rfl)|(apply cy4 0;exact rfl;exact rfl;exact callK1 (θ := []) (hD := (b10Long_ok _ preB169));exact rfl;exact rfl;exact rfl;exact rfl;refine dM ?_)|((first|refine o_gs rfl rfl (fun hc => ?_) (fun hc => ?_)|refine g_cond rfl (fun hc => ?_) (fun hc => ?_)) <;> (try simp only [dcB] at hc) <;> (try first|contradiction|(exfalso;omega)))
    all_goals first | (exfalso; omega) | skip
    all_goals
      repeat refine cr ?_
      refine ends_id ?_
      refine endK [] (h2 := ?_) (h3 := ?_) (nd := ?_)
      all_goals (repeat' first|exact ce0|refine ce ?_|refine ce2 ?_ ?_|exact SVLe.refl|refine ceb ?_)
      all_goals first | exact (show nodupB _ = true from rfl) | exact Or.inr rfl | (rfl)
  have g : SrOk ⟨c,0,0⟩ := ⟨hc,⟨by dsimp only; omega,by dsimp only; omega⟩,hcb⟩
  have gm : SrOk ⟨m,0,0⟩ := ⟨hm,⟨by dsimp only; omega,by dsimp only; omega⟩,hmb⟩
  have gD := rkX_ok g
  have hY := rkY_bd g
  refine does_of (k := 0) Tryd.func4 rfl Tryd.ntmps4 rfl rfl fun w F0 S0 ρ0 => ?_
  dsimp only [argT,argH]
  repeat' first|(apply n3;exact a_new (gb := .bx _) rfl;exact rfl;refine dA ?_)|(apply p3;exact pu1;exact rfl)|refine cdn ?_|refine g_reg (id := 0) ?_|refine g_reg (id := 1) ?_|refine g_reg (id := 3) ?_|(apply w3;exact a_st_bx rfl rfl rfl rfl (fN rfl rfl) (Nat.le_of_ble_eq_true rfl) rfl;exact rfl;refine dS ?_)|(apply c4 0;exact callK1 (θ := []) (hD := (b10LongB_ok c (by omega)));exact rfl;exact rfl;exact rfl;refine dM ?_)|(apply c4 1;exact callK1 (θ := []) (hD := (B10Dfa_ok c g));exact rfl;exact rfl;exact rfl;refine dM ?_)|(apply py3;exact rfl;exact rfl;exact pu1;exact rfl;exact rfl)|(apply cy4 0;exact rfl;exact rfl;exact callK1 (θ := []) (hD := (b10LongB_ok m (by omega)));exact rfl;exact rfl;exact rfl;exact rfl;refine dM ?_)
  generalize rkX c = D at *
  generalize rkY c = Y at *
  refine g_turn (t_freeze (i := 0) rfl nowR) ?_
  simp only [setRow,C.frz.all,C.frz,SV.frz,tFrz,List.map_cons,List.map_nil,scC,List.set_cons_zero,List.set_cons_succ,Nat.zero_add,List.getElem?_cons_zero,List.getElem?_cons_succ,List.take_succ_cons,List.take_zero,List.drop_zero]
  first | refine g_turn (t_frzB (d := 5) (i := 1) rfl rfl rfl) ?_ | refine o_turn (t_frzB (d := 5) (i := 1) rfl rfl rfl) ?_
  have kE : ¬ eqI D.nx D.nx = false := by simp [eqI]
  obtain ⟨k6,k7,k8⟩ := df_len gD
  repeat' first|(apply p3;(exact pu1);exact rfl)|refine cdn ?_|refine g_reg (id := 4) ?_|(apply c4 0;exact callK1 (θ := []) (hD := (RankDfa_ok D Y gD));exact rfl;exact rfl;exact rfl;refine dM ?_)
  cases hr : rkF D.st D.nx 0 with
  | none =>
    simp only [Option.getD_none,Option.isSome_none,cond_false]
    repeat' first|(apply n3;exact a_new (gb := .bx _) rfl;exact rfl;refine dA ?_)|(apply p3;(exact pu1);exact rfl)|refine cdn ?_|refine g_reg (id := 5) ?_|refine g_reg (id := 6) ?_|(apply w3;exact a_st_bx rfl rfl rfl rfl (fN rfl rfl) (Nat.le_of_ble_eq_true rfl) rfl;exact rfl;refine dS ?_)|(apply c4 1;exact callK1 (θ := []) (hD := (DfaAt_ok ⟨D.st,List.replicate D.nx.length 0⟩ Y 0 (df_zero gD) (rkF_rep _)));exact rfl;exact rfl;exact rfl;refine dM ?_)|(apply c4 0;exact callK1 (θ := []) (hD := (DfaText_ok D Y gD));exact rfl;exact rfl;exact rfl;refine dM ?_)|(apply c4 1;exact callK1 (θ := []) (hD := (ReadDfa_ok D Y gD));exact rfl;exact rfl;exact rfl;refine dM ?_)
    refine g_turn (t_freeze (i := 2) rfl nowR) ?_
    refine g_turn (t_freeze (i := 4) rfl nowR) ?_
    simp only [setRow,C.frz.all,C.frz,SV.frz,tFrz,List.map_cons,List.map_nil,scC,List.set_cons_zero,List.set_cons_succ,Nat.zero_add,List.getElem?_cons_zero,List.getElem?_cons_succ,List.take_succ_cons,List.take_zero,List.drop_zero]
    first | refine g_turn (t_frzB (d := 9) (i := 3) rfl rfl rfl) ?_ | refine o_turn (t_frzB (d := 9) (i := 3) rfl rfl rfl) ?_
    first | refine g_turn (t_frzB (d := 11) (i := 5) rfl rfl rfl) ?_ | refine o_turn (t_frzB (d := 11) (i := 5) rfl rfl rfl) ?_
    repeat' first|(apply p3;(first|exact pu1|exact puC);exact rfl)|refine cdn ?_|refine g_reg (id := 7) ?_|refine g_reg (id := 8) ?_|(apply c4 0;exact callK1 (θ := []) (hD := (sRankDfa_ok D Y gD));exact rfl;exact rfl;exact rfl;refine dM ?_)
    simp only [hr,Option.getD_none,Option.isSome_none,cond_false]
    repeat' first|(apply p3;(first|exact pu1|exact puC);exact rfl)|refine cd ?_|(apply py3;exact rfl;exact rfl;(exact pu1);exact rfl;exact rfl)|(apply cy4 0;exact rfl;exact rfl;exact callK1 (θ := []) (hD := (b10Nums_ok D.nx D.nx (by omega) (by omega)));exact rfl;exact rfl;exact rfl;exact rfl;refine dM ?_)
    have kE2 : eqI D.nx D.nx = true := by simp [eqI]
    repeat refine cr ?_
    refine ends_id ?_
    refine endK [] (h2 := ?_) (h3 := ?_) (nd := ?_)
    all_goals (repeat' first|exact ce0|refine ce ?_|refine ce2 ?_ ?_|exact SVLe.refl|refine ceb ?_)
    all_goals first | exact (show nodupB _ = true from rfl) | exact Or.inr rfl | ((first | exact kE2 | (simp [eqI]; done) | rfl))
  | some v =>
    simp only [Option.getD_some,Option.isSome_some,cond_true]
    repeat' first|(apply n3;exact a_new (gb := .bx _) rfl;exact rfl;refine dA ?_)|(apply p3;(exact pu1);exact rfl)|refine cdn ?_|refine g_reg (id := 5) ?_|refine g_reg (id := 6) ?_|(apply w3;exact a_st_bx rfl rfl rfl rfl (fN rfl rfl) (Nat.le_of_ble_eq_true rfl) rfl;exact rfl;refine dS ?_)|(apply c4 1;exact callK1 (θ := []) (hD := (DfaAt_ok D Y v gD hr));exact rfl;exact rfl;exact rfl;refine dM ?_)|(apply c4 0;exact callK1 (θ := []) (hD := (DfaText_ok D Y gD));exact rfl;exact rfl;exact rfl;refine dM ?_)|(apply c4 1;exact callK1 (θ := []) (hD := (ReadDfa_ok D Y gD));exact rfl;exact rfl;exact rfl;refine dM ?_)
    refine g_turn (t_freeze (i := 2) rfl nowR) ?_
    refine g_turn (t_freeze (i := 4) rfl nowR) ?_
    simp only [setRow,C.frz.all,C.frz,SV.frz,tFrz,List.map_cons,List.map_nil,scC,List.set_cons_zero,List.set_cons_succ,Nat.zero_add,List.getElem?_cons_zero,List.getElem?_cons_succ,List.take_succ_cons,List.take_zero,List.drop_zero]
    first | refine g_turn (t_frzB (d := 9) (i := 3) rfl rfl rfl) ?_ | refine o_turn (t_frzB (d := 9) (i := 3) rfl rfl rfl) ?_
    first | refine g_turn (t_frzB (d := 11) (i := 5) rfl rfl rfl) ?_ | refine o_turn (t_frzB (d := 11) (i := 5) rfl rfl rfl) ?_
    repeat' first|(apply p3;(first|exact pu1|exact puC|exact a_ne rfl rfl);exact rfl)|refine cdn ?_|refine g_reg (id := 7) ?_|refine g_reg (id := 10) ?_|(apply py3;exact rfl;exact rfl;(first|exact pu1|exact a_ne rfl rfl);exact rfl;exact rfl)|(apply cy4 0;exact rfl;exact rfl;exact callK1 (θ := []) (hD := (b10Nums_ok D.nx D.nx (by omega) (by omega)));exact rfl;exact rfl;exact rfl;exact rfl;refine dM ?_)|((first|refine o_gs rfl rfl (fun hc => ?_) (fun hc => ?_)|refine g_cond rfl (fun hc => ?_) (fun hc => ?_)) <;> (try simp only [dcB] at hc) <;> (try first|contradiction|(exfalso;omega)))
    repeat' first|(apply n3;exact a_new (gb := .bx _) rfl;exact rfl;refine dA ?_)|(apply p3;(exact pu1);exact rfl)|refine cdn ?_|refine g_reg (id := 12) ?_|(apply w3;exact a_st_bx rfl rfl rfl rfl (fN rfl rfl) (Nat.le_of_ble_eq_true rfl) rfl;exact rfl;refine dS ?_)|(apply c4 1;exact callK1 (θ := []) (hD := (PruneDfa_ok D Y gD));exact rfl;exact rfl;exact rfl;refine dM ?_)
    have hV := ovW_bd (sy := Y) g (by dsimp only; omega) hY
    have hW := ovW_bd (sy := Y) gm (by dsimp only; omega) hY
    have hsame := pr_same gD hV.2 hW.2
    have hst := pr_st gD
    have gP := pr_val gD
    generalize prD D Y = P at *
    repeat' first|(apply p3;(exact pu1);exact rfl)|refine cdn ?_|refine g_reg (id := 13) ?_|(apply c4 1;exact callK1 (θ := []) (hD := (B10Over_ok c Y g hY));exact rfl;exact rfl;exact rfl;refine dM ?_)
    repeat' first|(apply p3;(exact pu1);exact rfl)|refine cdn ?_|refine g_reg (id := 14) ?_|(apply c4 1;exact callK1 (θ := []) (hD := (B10Over_ok m Y gm hY));exact rfl;exact rfl;exact rfl;refine dM ?_)
    generalize ovW Y ⟨c,0,0⟩ = V at *
    generalize ovW Y ⟨m,0,0⟩ = W at *
    refine g_turn (t_freeze (i := 6) rfl nowR) ?_
    refine g_turn (t_freeze (i := 8) rfl nowR) ?_
    refine g_turn (t_freeze (i := 9) rfl nowR) ?_
    simp only [setRow,C.frz.all,C.frz,SV.frz,tFrz,List.map_cons,List.map_nil,scC,List.set_cons_zero,List.set_cons_succ,Nat.zero_add,List.getElem?_cons_zero,List.getElem?_cons_succ,List.take_succ_cons,List.take_zero,List.drop_zero]
    first | refine g_turn (t_frzB (d := 15) (i := 7) rfl rfl rfl) ?_ | refine o_turn (t_frzB (d := 15) (i := 7) rfl rfl rfl) ?_
    repeat' first|(apply p3;(exact pu1);exact rfl)|refine cdn ?_|refine g_reg (id := 15) ?_|(apply c4 0;exact callK1 (θ := []) (hD := (RunDfa_ok D Y V gD (by omega) hV.2));exact rfl;exact rfl;exact rfl;refine dM ?_)
    repeat' first|(apply p3;(exact pu1);exact rfl)|refine cdn ?_|refine g_reg (id := 16) ?_|(apply c4 0;exact callK1 (θ := []) (hD := (RunDfa_ok D Y W gD (by omega) hW.2));exact rfl;exact rfl;exact rfl;refine dM ?_)
    repeat' first|(apply p3;(exact pu1);exact rfl)|refine cdn ?_|refine g_reg (id := 17) ?_|(apply c4 0;exact callK1 (θ := []) (hD := (RunDfa_ok P Y V gP (by omega) hV.2));exact rfl;exact rfl;exact rfl;refine dM ?_)
    repeat' first|(apply p3;(first|exact pu1|exact a_ne rfl rfl);exact rfl)|refine cdn ?_|refine g_reg (id := 18) ?_|refine g_reg (id := 19) ?_|(apply c4 0;exact callK1 (θ := []) (hD := (RunDfa_ok P Y W gP (by omega) hW.2));exact rfl;exact rfl;exact rfl;refine dM ?_)|(apply py3;exact rfl;exact rfl;(first|exact pu1|exact a_ne rfl rfl);exact rfl;exact rfl)
    generalize rnD D Y 0 V = a1 at *
    generalize rnD D Y 0 W = a2 at *
    generalize rnD P Y 0 V = b1 at *
    generalize rnD P Y 0 W = b2 at *
    have hbe : (decide (a1 = a2) == decide (b1 = b2)) = true := by rw [hsame]; simp
    repeat' first|(apply p3;(first|exact pu1|exact puC);exact rfl)|refine cd ?_|(apply py3;exact rfl;exact rfl;(first|exact pu1|exact puC|exact a_eqB rfl rfl (by kernel_rfl));exact rfl;exact rfl)|((refine o_gs rfl rfl (fun hc => ?_) (fun hc => ?_)) <;> (try simp only [dcB] at hc) <;> (try first|contradiction|(exfalso;omega)))
    all_goals first | (exfalso; omega) | skip
    repeat refine cr ?_
    refine ends_id ?_
    refine endK [] (h2 := ?_) (h3 := ?_) (nd := ?_)
    all_goals (repeat' first|exact ce0|refine ce ?_|refine ce2 ?_ ?_|exact SVLe.refl|refine ceb ?_)
    all_goals first | exact (show nodupB _ = true from rfl) | exact Or.inr rfl | ((first | exact hbe | rfl))
end Go.Proofs.YtbblkhjjgnpbaaaDoor
end
