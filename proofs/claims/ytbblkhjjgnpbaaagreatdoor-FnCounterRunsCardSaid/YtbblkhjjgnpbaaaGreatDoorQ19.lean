/- Parts of the proof (19 of 21). -/
import Derived.Lib.AtoiErrMem
import Derived.Test.YtbblkhjjgnpbaaaGreatDoorQ18
section
set_option linter.unusedVariables false
set_option linter.unusedSimpArgs false
set_option maxRecDepth 100000
set_option maxHeartbeats 4000000
namespace Go.Proofs.YtbblkhjjgnpbaaaGreatDoor
open Go Foot Go.RowKit
theorem TrimPrefix_ok (s p : Bs) : Does Tryz.prog 188 [.one (str s),.one (str p)] [] (.one (str (Lib.trimPrefix s p))) [] :=
  does_ext (av := [sv s,sv p]) (rv := sv (Lib.trimPrefix s p)) (fun w S ρ vs => repA_2) (fun w S ρ => ⟨rfl,rfl⟩) fun w S _ => (Tryz.strings_TrimPrefix ⟨s.toArray⟩ ⟨p.toArray⟩ w).mono fun en w' ⟨h1,h2⟩ => by
    subst h2
    exact ⟨h1,Below.refl _ _⟩
theorem repA_3 {w : World} {S : Foot} {ρ : Env} {v u t : Value} {vs : List Value} (h : RepA w S ρ [.one (.d (.sc v)),.one (.d (.sc u)),.one (.d (.sc t))] vs) : vs = [v,u,t] := by
  simp only [RepA,RepS,RepC,Rep] at h
  obtain ⟨_,_,rfl,⟨rfl,_⟩,_,_,rfl,⟨rfl,_⟩,_,_,rfl,⟨rfl,_⟩,rfl⟩ := h
  rfl
theorem ParseInt_ok (s : Bs) (n : Int) (hs : (s.length : Int) ≤ 1000000000) (h : Lib.parseIntB 64 s = .ok n) : Does Tryz.prog 187 [.one (str s),.one (int 10),.one (int 64)] [] (.tup [(false,[int n]),(false,[.d (.sc .nilIface)])]) [] :=
  does_ext (av := [sv s,.int .i64 10,.int .i64 64]) (rv := .tuple #[.int .i64 n,.nilIface]) (fun w S ρ vs => repA_3) (fun w S ρ => ⟨_,rfl,_,_,rfl,⟨_,[],rfl,⟨rfl,rfl⟩,rfl⟩,_,_,rfl,⟨_,[],rfl,⟨rfl,rfl⟩,rfl⟩,rfl⟩) fun w S _ => (Tryz.strconv_ParseInt_10_at64_ok ⟨s.toArray⟩ (by rw [sz_str]; omega) n h w).mono fun en w' ⟨h1,h2⟩ => by
    refine ⟨h1,?_⟩
    rcases h2 with rfl | ⟨t,rfl⟩
    · exact Below.refl _ _
    · exact Lib.bytesWorld_below w 5 t
theorem index_at {c : UInt8} : ∀ {a b : Bs},c ∉ a → Lib.indexByte (a ++ c :: b) c = a.length
  | [],b,_ => by simp [Lib.indexByte]
  | x :: a,b,h => by
    have ih := index_at (c := c) (a := a) (b := b) (fun q => h (by simp [q]))
    have hx : (x == c) = false := by
      rw [beq_eq_false_iff_ne]
      exact fun e => h (by simp [e])
    rw [List.cons_append,Lib.indexByte,hx,ih]
    simp only [Bool.false_eq_true,if_false]
    rw [if_neg (by rw [beq_iff_eq]; omega)]
    simp
theorem parseM {M : Nat} : ∀ {l : Bs} {acc : Nat},(∀ c ∈ l,isDg c) → l.foldl (fun a c => 10 * a + (c.toNat - 48)) acc ≤ 1000000000000000000 → 1000000000000000000 ≤ M → Lib.parseUintM M acc l = .ok (l.foldl (fun a c => 10 * a + (c.toNat - 48)) acc)
  | [],acc,_,_,_ => rfl
  | c :: l,acc,h,hv,hM => by
    have hmono : ∀ (l : Bs) (a : Nat),a ≤ l.foldl (fun a c => 10 * a + (c.toNat - 48)) a := by
      intro l
      induction l with
      | nil => intro a; exact Nat.le_refl _
      | cons x l ih =>
        intro a
        rw [List.foldl_cons]
        exact Nat.le_trans (by omega) (ih _)
    rw [List.foldl_cons] at hv ⊢
    have h1 := hmono l (10 * acc + (c.toNat - 48))
    have hd := h c (by simp)
    unfold isDg at hd
    rw [Lib.parseUintM,if_pos hd,if_neg (by omega),if_neg (by omega),show acc * 10 + (c.toNat - 48) = 10 * acc + (c.toNat - 48) by omega]
    exact parseM (fun x hx => h x (by simp [hx])) hv hM
theorem parse_dec {n : Int} (h0 : 0 ≤ n) (h1 : n ≤ 1000000000000000000) : Lib.parseIntB 64 (decT n) = .ok n := by
  rw [decT_nat h0]
  obtain ⟨d1,d2,d3⟩ := dec_val n.toNat
  cases hl : Lib.decDigits n.toNat with
  | nil => exact absurd hl d3
  | cons c r =>
    rw [hl] at d1 d2
    have hc := d2 c (by simp)
    unfold isDg at hc
    have hp : Lib.parseUintB 64 (c :: r) = .ok n.toNat := by
      unfold Lib.parseUintB
      rw [if_neg (by simp),parseM d2 (by unfold valD at d1; rw [d1]; omega) (by decide)]
      unfold valD at d1
      rw [d1]
    unfold Lib.parseIntB
    simp only
    rw [if_neg (show ¬ (c.toNat = 43 ∨ c.toNat = 45) by omega),hp]
    simp only
    rw [if_neg (by omega),if_neg (by omega),if_neg (by omega)]
    rw [show ((n.toNat : Nat) : Int) = n by omega]
end Go.Proofs.YtbblkhjjgnpbaaaGreatDoor
end
section
set_option linter.unusedVariables false
set_option linter.unusedSimpArgs false
set_option maxRecDepth 100000
set_option maxHeartbeats 4000000
namespace Go.Proofs.YtbblkhjjgnpbaaaGreatDoor
open Go Foot Go.RowKit
theorem preB116 {p : Prop} (h : p := by first | with_reducible assumption | omega | (simp only [List.length_append,List.length_cons,List.length_nil,List.length_set,List.length_replicate,List.length_take,List.length_drop,List.length_tail,List.length_dropLast,List.length_reverse] at *; omega) | exact mem_len (by assumption) (by omega) | (with_reducible refine Int.le_trans (Int.ofNat_le.2 (trimR_len _)) ?_; simp only [List.length_cons,List.length_tail]; omega) | (exact (ruAt_ok (by assumption) (by assumption) (by assumption)).2.1) | (exact (ruAt_ok (by assumption) (by assumption) (by assumption)).2.1) | (have := vMach_bd (by assumption); omega) | (simp only [mC_ch,mC_tu]; omega) | (have := vTag_bd (by assumption); omega) | (have := (‹Gd _ _›).le; omega) | (exact tgHalts_no (by assumption)) | (exact tgHead (by assumption) (by assumption) (by assumption)) | (exact Int.le_trans (tgStep_gd (by assumption) (by assumption) (by assumption) (by assumption)).le (by decide)) | (exact vTag_r (by assumption)) | (with_reducible refine Int.le_trans (Int.ofNat_le.2 (pushL_len _ _)) ?_; simp only [List.length_dropLast]; omega) | exact ls_at (by assumption) (by omega) | exact pt_gd (by assumption) | exact lv_at (by assumption) (by omega) | exact pt_gd (lv_at (by assumption) (by omega)) | exact (ask_ok (by assumption)).1 | exact (ask_ok (by assumption)).2.1 | exact (ask_ok (by assumption)).2.2.1 | exact (ask_ok (by assumption)).2.2.2 | trivial) : p := h
theorem IndexB_ok (s : Bs) (c : UInt8) : Does Tryz.prog 298 [.one (str s),.one (str [c])] [] (.one (int (Lib.indexByte s c))) [] :=
  does_ext (av := [sv s,sv [c]]) (rv := .int .i64 (Lib.indexByte s c)) (fun w S ρ vs => repA_2) (fun w S ρ => ⟨rfl,rfl⟩) fun w S _ => (Tryz.strings_Index_one ⟨s.toArray⟩ c w).mono fun en w' ⟨h1,h2⟩ => by
    subst h2
    exact ⟨h1,Below.refl _ _⟩
theorem CountB_ok (s : Bs) (c : UInt8) : Does Tryz.prog 297 [.one (str s),.one (str [c])] [] (.one (int (Lib.countByte s c))) [] :=
  does_ext (av := [sv s,sv [c]]) (rv := .int .i64 (Lib.countByte s c)) (fun w S ρ vs => repA_2) (fun w S ρ => ⟨rfl,rfl⟩) fun w S _ => (Tryz.strings_Count_one ⟨s.toArray⟩ c w).mono fun en w' ⟨h1,h2⟩ => by
    subst h2
    exact ⟨h1,Below.refl _ _⟩
def spl (c : UInt8) : Bs → List Bs
  | [] => [[]]
  | x :: s => if x = c then [] :: spl c s else match spl c s with
    | [] => [[x]]
    | p :: r => (x :: p) :: r
theorem spl_no {c : UInt8} : ∀ {s : Bs},c ∉ s → spl c s = [s]
  | [],_ => rfl
  | x :: s,h => by
    rw [spl,if_neg (fun e => h (by simp [e])),spl_no (fun q => h (by simp [q]))]
theorem spl_app {c : UInt8} {b : Bs} : ∀ {a : Bs},c ∉ a → spl c (a ++ c :: b) = a :: spl c b
  | [],_ => by simp [spl]
  | x :: a,h => by
    rw [List.cons_append,spl,if_neg (fun e => h (by simp [e])),spl_app (fun q => h (by simp [q]))]
theorem count_no {c : UInt8} : ∀ {s : Bs},c ∉ s → Lib.countByte s c = 0
  | [],_ => rfl
  | x :: s,h => by
    have hx : (x == c) = false := by rw [beq_eq_false_iff_ne]; exact fun e => h (by simp [e])
    have := count_no (c := c) (s := s) (fun q => h (by simp [q]))
    simp [Lib.countByte] at *
    simp_all
theorem index_split {c : UInt8} : ∀ {s : Bs},0 ≤ Lib.indexByte s c → ∃ a b,s = a ++ c :: b ∧ c ∉ a
  | [],h => by simp [Lib.indexByte] at h
  | x :: s,h => by
    by_cases e : x = c
    · exact ⟨[],s,by simp [e],by simp⟩
    · have hx : (x == c) = false := by rw [beq_eq_false_iff_ne]; exact e
      rw [Lib.indexByte,hx] at h
      simp only [Bool.false_eq_true,if_false] at h
      have hs : 0 ≤ Lib.indexByte s c := by
        rcases Int.lt_or_le (Lib.indexByte s c) 0 with q | q
        · have := Lib.indexByte_ge s c
          rw [show Lib.indexByte s c = -1 by omega] at h
          simp at h
        · exact q
      obtain ⟨a,b,e1,e2⟩ := index_split hs
      refine ⟨x :: a,b,by rw [e1]; rfl,fun q => ?_⟩
      rw [List.mem_cons] at q
      rcases q with q | q
      · exact e q.symm
      · exact e2 q
theorem count_app {c : UInt8} {a b : Bs} (h : c ∉ a) : Lib.countByte (a ++ c :: b) c = Lib.countByte b c + 1 := by
  have := count_no h
  unfold Lib.countByte at *
  rw [List.count_append,this,List.count_cons_self]
  omega
theorem index_nn {c : UInt8} : ∀ {s : Bs},c ∈ s → 0 ≤ Lib.indexByte s c
  | x :: s,h => by
    by_cases e : x = c
    · rw [Lib.indexByte,show (x == c) = true by simp [e]]; simp
    · have hx : (x == c) = false := by rw [beq_eq_false_iff_ne]; exact e
      rw [List.mem_cons] at h
      have ih := index_nn (c := c) (s := s) (by rcases h with q | q; exact absurd q.symm e; exact q)
      rw [Lib.indexByte,hx]
      simp only [Bool.false_eq_true,if_false]
      rw [if_neg (by rw [beq_iff_eq]; omega)]
      omega
theorem genSplit_ok (s : Bs) (c : UInt8) (hs : (s.length : Int) ≤ 1048576) : Does Tryz.prog 186 [.one (str s),.one (str [c]),.one (int 0),.one (int (-1))] [] (.one (.gv 0)) [.row 1 (rows eS (spl c s))] := by
  have hcl : Lib.countByte s c ≤ s.length := List.count_le_length
  have hone : ((([c] : Bs).length : Nat) : Int) = 1 := rfl
  refine does_of (k := 0) Tryz.func186 rfl Tryz.ntmps186 rfl rfl fun w F0 S0 ρ0 => ?_
  dsimp only [argT,argH]
  repeat' first|(apply n3;exact a_make (fE rfl) (fZ rfl) (fP rfl) (by decide) rfl rfl (by omega) rfl (by omega) (by omega) (rows_rep eS [] _);exact rfl;refine dA ?_)|(apply p3;(first|exact pu1|exact puC|exact a_eqT rfl rfl|exact a_add rfl rfl (by omega) (by omega)|exact a_lenT rfl (fT rfl)|exact a_min rfl rfl|exact a_sub rfl rfl (by omega) (by omega));exact rfl)|refine cd ?_|(apply c4 0;exact callK1 (θ := []) (hD := (CountB_ok _ _));exact rfl;exact rfl;exact rfl;refine dM ?_)
  rw [if_neg (by omega)]
  skip
  refine g_loop_id ?_
  refine loopK [1,2,3,8,9] [0] (fun y : Int × Bs × List Bs => 0 ≤ y.1 ∧ y.1 ≤ Lib.countByte s c ∧ y.2.2.length = Lib.countByte s c + 1 ∧ (Lib.countByte y.2.1 c : Int) = Lib.countByte s c - y.1 ∧ y.2.1.length ≤ s.length ∧ spl c s = y.2.2.take y.1.toNat ++ spl c y.2.1) (fun y => [(10,.one (int y.1)),(0,.one (str y.2.1))]) (fun y => [(0,.row 1 (rows eS y.2.2))]) (fun y => (Lib.countByte s c - y.1).toNat) ((0 : Int),s,List.replicate ((Lib.countByte s c : Int) + 1).toNat ([] : Bs)) [0] (hI := ?_) (hr := ?_)
  · exact ⟨by simp,by simp,by simp,by simp,by simp,by simp⟩
  · rintro ⟨i,cur,l⟩ ⟨h0,h1,h2,h3,h4,h5⟩
    dsimp only [List.cons_append,List.nil_append] at *
    skip
    repeat' first|(apply p3;(first|exact pu1|exact puC|exact a_add rfl rfl (by omega) (by omega)|exact puI);exact rfl)|refine cd ?_|(apply w3;(exact a_stE (E := eS) _ rfl rfl rfl rfl (fN rfl rfl) bnd (by exact rfl));exact rfl;refine dS ?_)|(apply c4 0;exact callK1 (θ := []) (hD := (IndexB_ok _ _));exact rfl;exact rfl;exact rfl;refine dM ?_)|(refine g_cond (c := .tmp 36) rfl (fun hc => ?_) (fun hc => ?_) <;> (try simp only [dcB] at hc) <;> (try (first|contradiction|(exfalso;omega))))
    · have hpos : 0 ≤ Lib.indexByte cur c := by
        rcases Int.lt_or_le (Lib.indexByte cur c) 0 with q | q
        · exfalso
          by_cases hm : c ∈ cur
          · obtain ⟨a,b,e⟩ := List.append_of_mem hm
            exact absurd q (by have := index_nn hm; omega)
          · have := count_no hm
            omega
        · exact q
      obtain ⟨a,b,e1,e2⟩ := index_split hpos
      subst e1
      have e3 := index_at (b := b) e2
      have e4 := count_app (b := b) e2
      rw [spl_app e2] at h5
      have e5 : (a ++ c :: b).length = a.length + b.length + 1 := by simp; omega
      have e6 : (a ++ c :: b).take ((a.length : Int) + 0).toNat = a := by simp
      have e7 : (a ++ c :: b).drop ((a.length : Int) + (([c] : Bs).length : Int)).toNat = b := by
        rw [show ((a.length : Int) + (([c] : Bs).length : Int)).toNat = a.length + 1 by simp,← List.drop_drop]
        simp
      rw [e3]
      repeat' first|(apply p3;(first|exact pu1|exact a_add rfl rfl (by omega) (by omega)|exact a_slSh rfl rfl (fT rfl) (by omega) bnd|exact a_lenT rfl (fT rfl)|exact a_slSl rfl rfl (fT rfl) (by omega) bnd|exact puI);exact rfl)|refine cd ?_|(apply w3;(exact a_stE (E := eS) _ rfl rfl rfl rfl (fN rfl rfl) bnd (by exact rfl));exact rfl;refine dS ?_)
      rw [e6,e7]
      refine q_again (i + 1,b,l.set i.toNat a) [0] (by exact stk) ?_ ?_
      · refine ⟨by dsimp only; omega,by dsimp only; omega,by simp [h2],by dsimp only; omega,by dsimp only; omega,?_⟩
        dsimp only
        rw [h5,show (i + 1).toNat = i.toNat + 1 by omega,List.take_succ_eq_append_getElem (by rw [List.length_set]; omega),List.getElem_set_self]
        simp [List.take_set_of_le]
      · omega
    · have hin : i = Lib.countByte s c := by omega
      have hno : c ∉ cur := fun q => by
        have := List.count_pos_iff.2 q
        have h6 : Lib.countByte cur c = 0 := by omega
        unfold Lib.countByte at h6
        omega
      have hset : (l.set i.toNat cur).length = l.length := List.length_set
      rw [spl_no hno] at h5
      have e : (l.set i.toNat cur) = spl c s := by
        rw [h5]
        apply List.ext_getElem
        · simp [h2]; omega
        · intro k k1 k2
          rw [List.getElem_set]
          split
          · next q => subst q; simp [List.getElem_append]; omega
          · next q =>
            rw [List.length_set] at k1
            rw [List.getElem_append_left (by simp; omega)]
            simp
      repeat' first|(apply p3;(exact pu1);exact rfl)|refine cd ?_|(apply s3;exact a_slHO rfl rfl rfl (fS rfl) (by omega) (by omega) (by exact rfl) (by decide);exact rfl;exact rfl)
      rw [List.take_of_length_le (by omega),e]
      repeat refine cr ?_
      refine ends_id ?_
      refine endK [?_] (h2 := ?_) (h3 := ?_) (nd := ?_)
      rotate_left 1
      all_goals (repeat' first|exact ce0|refine ce ?_|refine ce2 ?_ ?_|(refine Or.inr (bx_eq rfl rfl ?_);(try dsimp only [C.ren,C.ren.all]);(try exact rfl))|exact SVLe.refl|refine ceb ?_)
      all_goals first | exact (show nodupB _ = true from rfl) | exact Or.inr rfl | (rfl)
theorem Split_ok (s : Bs) (c : UInt8) (hs : (s.length : Int) ≤ 1048576) : Does Tryz.prog 82 [.one (str s),.one (str [c])] [] (.one (.gv 0)) [.row 1 (rows eS (spl c s))] := by
  refine does_of (k := 0) Tryz.func82 rfl Tryz.ntmps82 rfl rfl fun w F0 S0 ρ0 => ?_
  dsimp only [argT,argH]
  repeat' first|(apply p3;exact pu1;exact rfl)|refine cd ?_|(apply c4 1;exact callK1 (θ := []) (hD := (genSplit_ok _ _ preB116));exact rfl;exact rfl;exact rfl;refine dM ?_)
  repeat refine cr ?_
  refine ends_id ?_
  refine endK [?_] (h2 := ?_) (h3 := ?_) (nd := ?_)
  rotate_left 1
  all_goals (repeat' first|exact ce0|refine ce ?_|refine ce2 ?_ ?_|(refine Or.inr (bx_eq rfl rfl ?_);(try dsimp only [C.ren,C.ren.all]);(try exact rfl))|exact SVLe.refl|refine ceb ?_)
  all_goals first | exact (show nodupB _ = true from rfl) | exact Or.inr rfl | (rfl)
def rpl (c d : UInt8) (s : Bs) : Bs := s.map fun x => if x = c then d else x
theorem rpl_no {c d : UInt8} : ∀ {s : Bs},c ∉ s → rpl c d s = s
  | [],_ => rfl
  | x :: s,h => by
    have := rpl_no (c := c) (d := d) (s := s) (fun q => h (by simp [q]))
    unfold rpl at *
    rw [List.map_cons,if_neg (fun e => h (by simp [e])),this]
theorem rpl_app (c d : UInt8) (a b : Bs) : rpl c d (a ++ b) = rpl c d a ++ rpl c d b := by unfold rpl; rw [List.map_append]
theorem rpl_len (c d : UInt8) (a : Bs) : (rpl c d a).length = a.length := by unfold rpl; rw [List.length_map]
end Go.Proofs.YtbblkhjjgnpbaaaGreatDoor
end
section
set_option linter.unusedVariables false
set_option linter.unusedSimpArgs false
set_option maxRecDepth 100000
set_option maxHeartbeats 4000000
namespace Go.Proofs.YtbblkhjjgnpbaaaGreatDoor
open Go Foot
theorem valD_lt : ∀ (n : Nat) {l : Bs},l.length = n → (∀ c ∈ l,isDg c) → valD l < 10 ^ n
  | 0,l,h,_ => by
    have : l = [] := List.length_eq_zero_iff.1 h
    subst this
    simp [valD]
  | n + 1,l,h,hd => by
    have hne : l ≠ [] := fun e => by rw [e] at h; simp at h
    obtain ⟨a,c,rfl⟩ : ∃ a c,l = a ++ [c] := ⟨l.dropLast,l.getLast hne,(List.dropLast_concat_getLast hne).symm⟩
    have ih := valD_lt n (l := a) (by simp at h; exact h) fun x hx => hd x (by simp [hx])
    have hc := hd c (by simp)
    unfold isDg at hc
    rw [valD_snoc,Nat.pow_succ]
    omega
theorem dec_len {k u : Nat} (hk : 1 ≤ k) (h : u < 10 ^ k) : (Lib.decDigits u).length ≤ k := by
  by_cases h0 : u = 0
  · subst h0; simp [Lib.decDigits]; omega
  · rw [← drev_dec u h0,byt_len,List.length_reverse]; exact drev_le k u h
theorem len_dec {k u : Nat} (h : (Lib.decDigits u).length ≤ k) : u < 10 ^ k := by
  obtain ⟨d1,d2,d3⟩ := dec_val u
  have := valD_lt _ rfl d2
  rw [d1] at this
  exact Nat.lt_of_lt_of_le this (Nat.pow_le_pow_right (by omega) h)
def valS : Bs → Int
  | [] => 0
  | c :: r => if c = 45 then -((valD r : Nat) : Int) else ((valD (c :: r) : Nat) : Int)
@[irreducible] def numS (s : Bs) : Option Int := if decT (valS s) = s ∧ -1000000000000000000 < valS s ∧ valS s < 1000000000000000000 then some (valS s) else none
theorem decT_neg {n : Int} (h : n < 0) : decT n = 45 :: Lib.decDigits n.natAbs := by unfold decT Lib.itoa; rw [if_pos h]
theorem dg_ne {c : UInt8} (h : isDg c) : c ≠ 45 := by rintro rfl; revert h; unfold isDg; decide
theorem valS_dec (n : Int) : valS (decT n) = n := by
  by_cases h : n < 0
  · rw [decT_neg h,valS,if_pos rfl,(dec_val _).1]; omega
  · rw [decT_nat (by omega)]
    obtain ⟨d1,d2,d3⟩ := dec_val n.toNat
    cases hq : Lib.decDigits n.toNat with
    | nil => exact absurd hq d3
    | cons c r =>
      rw [hq] at d1 d2
      rw [valS,if_neg (dg_ne (d2 c (by simp))),d1]
      omega
theorem numS_some {s : Bs} {n : Int} : numS s = some n ↔ decT n = s ∧ -1000000000000000000 < n ∧ n < 1000000000000000000 := by
  unfold numS
  constructor
  · intro h
    split at h
    · next hh => cases h; exact hh
    · cases h
  · rintro ⟨rfl,h1,h2⟩
    rw [valS_dec,if_pos ⟨rfl,h1,h2⟩]
theorem parse_dec2 {n : Int} (h1 : -1000000000000000000 < n) (h2 : n < 1000000000000000000) : Lib.parseIntB 64 (decT n) = .ok n := by
  by_cases h : n < 0
  · rw [decT_neg h]
    obtain ⟨d1,d2,d3⟩ := dec_val n.natAbs
    have hp : Lib.parseUintB 64 (Lib.decDigits n.natAbs) = .ok n.natAbs := by
      unfold Lib.parseUintB
      rw [if_neg d3,parseM d2 (by unfold valD at d1; rw [d1]; omega) (by decide)]
      unfold valD at d1
      rw [d1]
    unfold Lib.parseIntB
    simp only
    rw [if_pos (.inr (by decide)),hp]
    simp only
    rw [if_neg (fun q => q.1 (by decide)),if_neg (fun q => by have := q.2; omega),if_pos (by decide)]
    congr 1
    omega
  · exact parse_dec (by omega) (by omega)
theorem parse_bd {s : Bs} {v : Int} (h : Lib.parseIntB 64 s = .ok v) : -9223372036854775808 ≤ v ∧ v ≤ 9223372036854775807 := by
  cases s with
  | nil => cases h
  | cons c r =>
    simp only [Lib.parseIntB] at h
    split at h
    · cases h
    · cases h
    · split at h
      · cases h
      · split at h
        · cases h
        · simp only [Lib.NumEnd.ok.injEq] at h
          subst h
          split <;> omega
theorem trim_dec (n : Int) : Lib.trimPrefix (decT n) [45] = Lib.decDigits n.natAbs := by
  unfold Lib.trimPrefix
  by_cases h : n < 0
  · rw [decT_neg h,if_pos (by simp [Lib.hasPrefix])]
    rfl
  · have e := decT_nat (n := n) (by omega)
    obtain ⟨_,d2,d3⟩ := dec_val n.toNat
    rw [e,show n.natAbs = n.toNat by omega,if_neg]
    intro q
    cases hq : Lib.decDigits n.toNat with
    | nil => exact d3 hq
    | cons c r =>
      rw [hq] at q d2
      simp [Lib.hasPrefix] at q
      exact dg_ne (d2 c (by simp)) q.symm
def numL : List Bs → Option (List Int)
  | [] => some []
  | p :: r => (numS p).bind fun n => (numL r).map (n :: ·)
theorem numL_len : ∀ {l : List Bs} {w : List Int},numL l = some w → w.length = l.length
  | [],w,h => by cases h; rfl
  | p :: r,w,h => by
    unfold numL at h
    cases hp : numS p with
    | none => rw [hp] at h; cases h
    | some n =>
      rw [hp,Option.bind_some] at h
      cases hr : numL r with
      | none => rw [hr] at h; cases h
      | some v =>
        rw [hr] at h
        simp only [Option.map_some,Option.some.injEq] at h
        subst h
        simp [numL_len hr]
theorem numL_snoc : ∀ (l : List Bs) (p : Bs),numL (l ++ [p]) = (numL l).bind fun w => (numS p).map (w ++ [·])
  | [],p => by
    simp only [List.nil_append,numL]
    cases numS p <;> rfl
  | q :: r,p => by
    rw [List.cons_append,numL,numL_snoc r p,numL]
    cases numS q with
    | none => rfl
    | some n =>
      cases numL r with
      | none => rfl
      | some w => cases numS p <;> rfl
theorem numL_none {l : List Bs} : ∀ {i : Nat} (h : i < l.length),numS (l[i]) = none → numL l = none := by
  induction l with
  | nil => intro i h; simp at h
  | cons p r ih =>
    intro i h e
    unfold numL
    cases i with
    | zero => rw [List.getElem_cons_zero] at e; rw [e]; rfl
    | succ i =>
      rw [List.getElem_cons_succ] at e
      rw [ih (by simpa using h) e]
      cases numS p <;> rfl
end Go.Proofs.YtbblkhjjgnpbaaaGreatDoor
end
section
set_option linter.unusedVariables false
set_option linter.unusedSimpArgs false
set_option maxRecDepth 100000
namespace Go.Proofs.YtbblkhjjgnpbaaaGreatDoor
open Go Foot Go.Shelf Go.RowKit
def frB (T : Nat) : Opq where
  p w _ us F := ∃ b,us = [.pointer (some ⟨b,0,none⟩)] ∧ w.heap[b]? = some (.cells #[.pointer none,.slice none 0 0] T (0,0)) ∧ ∀ o,F b o
  keep := by
    rintro w w' S S' F F' us ⟨b,rfl,h1,h2⟩ hF _ _ hf
    exact ⟨b,rfl,heap_agree h1 h2 hF,fun o => hf _ _ (h2 o)⟩
theorem a_allocF {P : Program} {g : Gh} {st : St} {dst : Option Tmp} {ty : TypeId} {pos : String} {after : Array Edge} {guard : Option (Nat × Bool)} {T i : Nat} (hT : zeroC P T = some [.pointer none,.slice none 0 0]) : Acts P g ⟨dst,.alloc T,ty,pos,after,guard⟩ st (.one (.gv i)) [] [(i,.opq (frB T) [i])] := by
  refine ⟨fun a w S ρ F h hn K Q hK => ?_⟩
  have hn' : ρ i = none := by simpa using hn (i,.opq (frB T) [i]) (by simp)
  clear hn
  unfold zeroC at hT
  split at hT
  case h_2 => cases hT
  rename_i inf hi
  split at hT
  case h_2 => cases hT
  rename_i zv hz
  cases hb : zv.cells.toList.all Value.oneCell' with
  | false => rw [hb] at hT; cases hT
  | true =>
    rw [hb] at hT
    simp only [cond_true,Option.some.injEq] at hT
    have hrun : (execOp a.eval ⟨dst,.alloc T,ty,pos,after,guard⟩).run P w = .ok (.value (.pointer (some ⟨w.heap.size,0,none⟩))) (w.alloc (.cells zv.cells.toList.toArray T)) := by
      simp [execOp,Instr.alloc,zeroValue,typeInfo,hi,hz,run_newRow,go_sem]
    rw [hT] at hrun
    refine oper_in (fun _ h => nomatch h) ?_
    rw [hrun,Oper.uponIn_value]
    refine hK _ _ no _ _ (Done.new (S1 := no) (u := .pointer (some ⟨w.heap.size,0,none⟩)) (G := fun b _ => b = w.heap.size) (keeps_alloc _) hn' (fun ρ' hl he => ?_) (by rintro b o rfl; simp)) ⟨by simp,rfl⟩
    exact ⟨[.pointer (some ⟨w.heap.size,0,none⟩)],by simp [he],w.heap.size,rfl,by simp [heap_alloc],fun _ => rfl⟩
theorem does_fresh {P : Program} {f : Nat} {T e : Nat} {l' : List UInt8} {ags : List SV} {av : List Value} {res : SV} {rv : Value} (ha : ∀ w S ρ vs,RepA w S ρ ags vs → vs = av) (hr : ∀ w S ρ,RepS w S ρ res rv)
    (hc : ∀ (w : World) (b : Nat),w.heap[b]? = some (.cells #[.pointer none,.slice none 0 0] T (0,0)) → Calls P f (self b :: av).toArray w fun en w' => en = .returned rv ∧ BlTo w w' T e b (.slice none 0 0) (Lib.byteCells l')) :
    Does P f (.one (.gv 0) :: ags) [.opq (frB T) [0]] res [.bld T e l'] := by
  intro vs w S ρ F hA hG
  simp only [RepA] at hA
  obtain ⟨v0,us,rfl,h0,hA⟩ := hA
  have := ha _ _ _ _ hA
  subst this
  obtain ⟨v,hv,hg⟩ := (hG.roots 0 (.opq (frB T) [0]) rfl).resolve_left (by simp)
  simp only [RepG] at hg
  obtain ⟨us,hu,b,rfl,hat,hFb⟩ := hg
  have hvb : v = .pointer (some ⟨b,0,none⟩) := by simp [hv] at hu; exact hu
  subst hvb
  have hFq : ∀ g,(Value.slice none 0 0).ownBlock = some g → ∀ o,F 0 g o := fun g hg => by simp [Value.ownBlock] at hg
  have h0' := h0.1
  rw [hv] at h0'
  cases h0'
  refine (hc w b hat).mono ?_
  rintro en w' ⟨rfl,p',v',hB,hon,hfr⟩
  have hFb' : ∀ o,upTo F 1 b o := fun o => ⟨0,by omega,hFb o⟩
  have hbl : ∀ k,k < w.heap.size → (∃ o,¬ upTo F 1 k o) → w'.heap[k]? = w.heap[k]? := fun k hk ⟨o,ho⟩ => hfr.block k hk (fun e => by subst e; exact ho (hFb' o)) (fun e => ho ⟨0,by omega,hFq k e.symm o⟩)
  have hl' : (Lib.byteCells l').length = l'.length := Lib.byteCells_length l'
  refine ⟨rv,no,ρ,fun i => if i = 0 then (fun b o => F 0 b o ∨ w.heap.size ≤ b ∧ b < w'.heap.size) else no,rfl,?_,hr _ _ _⟩
  refine ⟨⟨hfr.os,hfr.tape,hfr.output,hfr.size,fun k hk hn => hbl k hk ⟨0,hn 0⟩,fun k o hk hn => ?_⟩,no_le _,fun _ _ h => h.elim,by simp,fun i u _ h => h,hG.new,?_,fun i j hi hj hij => ?_,fun i _ => by rintro b o _ h; exact h.elim,fun i hi => ?_,fun i hi b o hb => ?_⟩
  · have e := hbl k hk ⟨o,hn⟩
    simp [World.cell?,World.frozen?,mapAt,e]
  · intro i gb hi
    match i,hi with
    | 0,hi =>
      simp at hi
      subst hi
      refine .inr ⟨_,hv,b,rfl,p',v',hB.adr,hB.at_,hl' ▸ hB.own,hB.ne,fun o => .inl (hFb o),fun g hg o => ?_⟩
      rcases hon with e | e | ⟨g',e,hg'⟩
      · rw [e] at hg; exact .inl (hFq g hg o)
      · rw [e] at hg; cases hg
      · rw [e] at hg
        cases hg
        exact .inr ⟨hg',(hB.own.lt g e).2⟩
    | i + 1,hi => simp at hi
  · simp at hi hj; omega
  · have : i = 0 := by simpa using hi
    subst this
    rintro b' o' hb
    simp only [if_true] at hb
    rcases hb with hb | ⟨hb,_⟩
    · exact .inl ⟨0,by simp,hb⟩
    · exact .inr hb
  · have : i = 0 := by simpa using hi
    subst this
    simp only [if_true] at hb
    rcases hb with hb | ⟨_,hb⟩
    · have := hG.ex 0 (by simp) b o hb
      have := hfr.size
      omega
    · exact hb
theorem alloc_set {w : World} {a : Addr} {v : Value} {o : Obj} (h : a.block < w.heap.size) : (w.setCell a v).alloc o = (w.alloc o).setCell a v := by
  unfold World.setCell World.alloc
  dsimp only
  congr 1
  apply Array.ext_getElem?
  intro i
  simp only [Array.getElem?_push,Array.getElem?_modify,Array.size_modify]
  by_cases h1 : i = w.heap.size
  · subst h1
    have hne : ¬ a.block = w.heap.size := by omega
    simp [hne]
  · simp [h1]
theorem bl_grown {T e b : Nat} {w : World} {cs : Array Value} (hbk : w.heap[b]? = some (.cells #[self b,.slice none 0 0] T (0,0))) (hm : cs.size ≤ maxLen) (hTe : T ≠ e) :
    BlTo w ((w.alloc (.cells cs e)).setCell ⟨b,1,none⟩ (.slice (some ⟨w.heap.size,0,none⟩) 0 cs.size)).drew.drew.drew T e b (.slice none 0 0) [] := by
  obtain ⟨⟨_,v,h1,h2,h3⟩,_⟩ := Lib.grown_fresh (B := 0) (Nat.zero_le b) hbk (Nat.zero_le _) hm hTe
  have hlt := heap_lt hbk
  have hb2 : (w.alloc (.cells cs e)).heap[b]? = some (.cells #[self b,.slice none 0 0] T (0,0)) := (Lib.alloc_old w _ b hlt).trans hbk
  have d1 : (w.alloc (.cells cs e)).cell? ⟨b,1,none⟩ = some (.slice none 0 0) := by rw [Lib.cell_of_heap hb2]; rfl
  have hv : v = .slice (some ⟨w.heap.size,0,none⟩) 0 cs.size := by
    have : ((w.alloc (.cells cs e)).setCell ⟨b,1,none⟩ (.slice (some ⟨w.heap.size,0,none⟩) 0 cs.size)).cell? ⟨b,1,none⟩ = some v := by
      have h1' : ((w.alloc (.cells cs e)).setCell ⟨b,1,none⟩ (.slice (some ⟨w.heap.size,0,none⟩) 0 cs.size)).heap[b]? = some (.cells #[self b,v] T (0,0)) := h1
      rw [Lib.cell_of_heap h1']; rfl
    rw [cell_set_same d1] at this
    exact (Option.some.inj this).symm
  subst hv
  refine ⟨self b,_,⟨.inr rfl,h1,World.ownsRowF_of h2,h3⟩,.inr (.inr ⟨w.heap.size,rfl,Nat.le_refl _⟩),?_⟩
  exact (((((Fr.alloc b _ w _).trans (Fr.set _ _ _ _ _) (fun _ _ e => e)).trans (Fr.drew b _ _) (fun _ _ e => e)).trans (Fr.drew b _ _) (fun _ _ e => e)).trans (Fr.drew b _ _) (fun _ _ e => e))
end Go.Proofs.YtbblkhjjgnpbaaaGreatDoor
end
section
set_option linter.unusedVariables false
set_option linter.unusedSimpArgs false
set_option maxRecDepth 1000000
namespace Go.Proofs.YtbblkhjjgnpbaaaGreatDoor
open Go Foot Go.Shelf Go.RowKit
set_option maxHeartbeats 4000000 in
theorem bs_growF {b n : Nat} {w : World} (hbk : w.heap[b]? = some (.cells #[self b,.slice none 0 0] 173 (0,0))) (hn : n ≤ 281474976710656) :
    Calls Tryz.prog 314 #[self b,.int .i64 n] w fun en w' => en = .returned (.tuple #[]) ∧ BlTo w w' 173 5 b (.slice none 0 0) [] := by
  obtain ⟨cs,hrun,hle,hmax⟩ := Lib.run_makeNoZero (P := Tryz.prog) w.drew #[3] 31 5 Tryz.underlying31 n hn
  have hw : IntKind.i64.wrap (IntKind.i64.wrap 0 + (n : Int)) = n := by
    rw [IntKind.wrap_i64,IntKind.wrap_i64]; omega
  have hcall : (callFunc 375 #[.int .i64 (IntKind.i64.wrap (IntKind.i64.wrap 0 + (n : Int)))]).run Tryz.prog w.drew = .ok (.value (.slice (some ⟨w.drew.heap.size,0,none⟩) n cs.size)) (w.drew.drew.drew.alloc (.cells cs 5)) := by
    rw [hw,run_callFunc_extern Tryz.func375 (by kernel_rfl) (by kernel_rfl) (by kernel_rfl) (e := Extern.BytealgMakeNoZero.makeNoZero #[3] #[31]) (by kernel_rfl),hrun]
    rfl
  have hlt := heap_lt hbk
  have hd : w.drew.heap[b]? = _ := hbk
  have ha : (w.alloc (.cells cs 5)).heap[b]? = _ := (Lib.alloc_old w _ b hlt).trans hbk
  have c1 : w.drew.cell? ⟨b,1,none⟩ = some (.slice none 0 0) := by rw [Lib.cell_of_heap hd]; rfl
  have c2 : (w.alloc (.cells cs 5)).cell? ⟨b,1,none⟩ = some (.slice none 0 0) := by rw [Lib.cell_of_heap ha]; rfl
  have f2 : (w.alloc (.cells cs 5)).frozen? ⟨b,1,none⟩ = false := Lib.frozen_of_heap ha 1
  have hcopy : ∀ W : World,(Builtin.copy_ #[31,31] 3 #[.slice (some ⟨w.heap.size,0,none⟩) 0 cs.size,.slice none 0 0]).run Tryz.prog W = .ok (goInt 0) W :=
    fun W => run_copy_none W _ _ _ 5 _ _ 0 cs.size 0 0 Tryz.underlying31 (by kernel_rfl) rfl
  have hfin := bl_grown (e := 5) hbk (hmax (by unfold maxLen; omega)) (by decide)
  clear hw
  have mixed : Tryz.prog.follows .mixedOrders = true := by kernel_rfl
  go_enter Tryz.func314,Tryz.ntmps314
  go_wp2
  go_region_o
  all_goals (go_wp2; go_end0; first | exact ⟨rfl,hfin⟩ | (refine ⟨rfl,?_⟩; rw [alloc_set hlt]; exact hfin))
end Go.Proofs.YtbblkhjjgnpbaaaGreatDoor
end
section
set_option linter.unusedVariables false
set_option linter.unusedSimpArgs false
set_option maxRecDepth 1000000
namespace Go.Proofs.YtbblkhjjgnpbaaaGreatDoor
open Go Foot Go.Shelf Go.RowKit
set_option maxHeartbeats 4000000 in
theorem bs_GrowF {b n : Nat} {w : World} (hbk : w.heap[b]? = some (.cells #[.pointer none,.slice none 0 0] 173 (0,0))) (hn : n ≤ 281474976710656) :
    Calls Tryz.prog 216 #[self b,.int .i64 n] w fun en w' => en = .returned (.tuple #[]) ∧ BlTo w w' 173 5 b (.slice none 0 0) [] := by
  have h : Bl w 173 5 b (.pointer none) (.slice none 0 0) [] := ⟨.inl rfl,hbk,World.ownsRowF_nil _ _ _ _,by simp [Value.ownBlock]⟩
  have e240 : ∀ args w,(callFunc 213 args).run Tryz.prog w = .ok (.enter 213 args) w := enters_of Tryz.func213 (by kernel_rfl) rfl
  have e241 : ∀ args w,(callFunc 314 args).run Tryz.prog w = .ok (.enter 314 args) w := enters_of Tryz.func314 (by kernel_rfl) rfl
  have mixed : Tryz.prog.follows .mixedOrders = true := by kernel_rfl
  go_enter Tryz.func216,Tryz.ntmps216
  go_wp2_with (go_at_fn 213; refine (bs_check h).mono ?_)
  rintro e w1 ⟨rfl,-,h1,hf1⟩
  have hbk1 := h1.at_
  have hbk2 : w1.drew.heap[b]? = some (.cells #[self b,.slice none 0 0] 173 (0,0)) := hbk1
  have hf2 : Fr b none w w1.drew := Fr.trans hf1 (Fr.drew b none w1) (fun _ _ e => e)
  have fin1 : BlTo w w1.drew 173 5 b (.slice none 0 0) [] := ⟨_,_,h1.drew,.inl rfl,hf2⟩
  have fin2 : ∀ w2,BlTo w1.drew w2 173 5 b (.slice none 0 0) [] → BlTo w w2 173 5 b (.slice none 0 0) [] := by
    rintro w2 ⟨p',v',k1,k2,k3⟩
    refine ⟨p',v',k1,?_,Fr.trans hf2 k3 (fun _ _ e => e)⟩
    rcases k2 with e | e | ⟨g,e,hg⟩
    · exact .inl e
    · exact .inr (.inl e)
    · exact .inr (.inr ⟨g,e,by have := hf2.size; omega⟩)
  clear h h1 hf1 hf2
  have c1 : w1.cell? ⟨b,1,none⟩ = some (.slice none 0 0) := by rw [Lib.cell_of_heap hbk1]; rfl
  go_wp2
  go_region_o
  go_wp2_with (go_at_fn 314; refine (bs_growF hbk2 hn).mono ?_)
  · rintro e w2 ⟨rfl,hB⟩
    go_wp2
    go_end0
    exact ⟨rfl,fin2 _ hB⟩
  · go_end0
    exact ⟨rfl,fin1⟩
section
variable {g : Gh} {st : St} {dst : Option Tmp} {ty : TypeId} {pos : String} {after : Array Edge} {guard : Option (Nat × Bool)} {i : Nat}
theorem a_newF : Acts Tryz.prog g ⟨dst,.alloc 173,ty,pos,after,guard⟩ st (.one (.gv i)) [] [(i,.opq (frB 173) [i])] := a_allocF (by kernel_rfl)
end
def erR : Opq where
  p _ _ us _ := ∃ te a,us = [.iface te (.pointer (some a))]
  keep := fun h _ _ _ _ => h
theorem does_err {P : Program} {f : Nat} {ags : List SV} {av : List Value} {m : Int} (ha : ∀ w S ρ vs,RepA w S ρ ags vs → vs = av)
    (hc : ∀ (w : World) (S : Foot),Tabs w S → Calls P f av.toArray w fun en w' => ∃ te a,en = .returned (.tuple #[.int .i64 m,.iface te (.pointer (some a))]) ∧ Below w.heap.size w w') :
    Does P f ags [] (.tup [(false,[int m]),(false,[.gv 0])]) [.opq erR [0]] := by
  intro vs w S ρ F hA hG
  have := ha _ _ _ _ hA
  subst this
  refine (hc w S hG.tab).mono ?_
  rintro en w' ⟨te,a,rfl,hb⟩
  have hn : ρ 0 = none := hG.new 0 (Nat.le_refl _)
  refine ⟨_,no,fun i => if i = 0 then some (.iface te (.pointer (some a))) else ρ i,fun _ => no,rfl,?_,⟨_,rfl,_,_,rfl,⟨_,[],rfl,⟨rfl,rfl⟩,rfl⟩,_,_,rfl,⟨.iface te (.pointer (some a)),[],rfl,⟨if_pos rfl,rfl⟩,rfl⟩,rfl⟩⟩
  refine ⟨⟨hb.os,hb.tape,hb.output,hb.size,fun k hk _ => hb.block k hk,fun k o hk _ => ?_⟩,no_le _,fun _ _ h => h.elim,by simp,fun i u hi _ => absurd hi (by simp),fun i hi => ?_,fun i gb hi => ?_,fun i j _ _ _ => fun _ _ h _ => h,fun i _ => fun _ _ h _ => h,fun i _ => no_le _,fun i _ b o h => h.elim⟩
  · have e := hb.block k hk
    simp [World.cell?,World.frozen?,mapAt,e]
  · simp only [List.length_cons,List.length_nil] at hi
    rw [if_neg (by omega)]
    exact hG.new i (Nat.zero_le _)
  · match i,hi with
    | 0,hi =>
      simp at hi
      subst hi
      exact .inr ⟨.iface te (.pointer (some a)),if_pos rfl,[.iface te (.pointer (some a))],by simp,te,a,rfl⟩
    | i + 1,hi => simp at hi
section
variable {P : Program} {g : Gh} {st : St}
variable {dst : Option Tmp} {ty : TypeId} {pos : String} {after : Array Edge} {guard : Option (Nat × Bool)} {x : Operand} {T U : TypeId} {i : Nat}
theorem a_neErr (e1 : opd st x = .one (.gv i)) (hg : lkG st.h i = .opq erR [i]) (hT : P.isIface T = true) : Acts P g ⟨dst,.binOp .neq T x (.const .nilIface) U,ty,pos,after,guard⟩ st (.one (boo true)) [] [] := by
  refine acts_of fun A w S ρ F h => ⟨.bool true,?_,rfl,rfl⟩
  have h1 := (opd_one h e1).1
  rcases h.root i with h0 | ⟨u,r1,r2⟩
  · rw [hg] at h0; cases h0
  rw [hg] at r2
  obtain ⟨us,q1,te,a,rfl⟩ := r2
  simp only [List.map_cons,List.map_nil,List.cons.injEq,and_true] at q1
  rw [q1] at h1
  simp only [Option.some.injEq] at h1
  show (do pure (.value (← (do eqGuard .neq T x (.const .nilIface) (A.eval x) (A.eval (.const .nilIface)); binOp .neq T (A.eval x) (A.eval (.const .nilIface))))) : Sem Next).run P w = _
  rw [← h1,show A.eval (.const .nilIface) = .nilIface from rfl]
  simp [eqGuard,run_neq_iface_nil w T hT]
end
end Go.Proofs.YtbblkhjjgnpbaaaGreatDoor
end
section
set_option linter.unusedVariables false
set_option linter.unusedSimpArgs false
set_option maxRecDepth 100000
set_option maxHeartbeats 4000000
namespace Go.Proofs.YtbblkhjjgnpbaaaGreatDoor
open Go Foot Go.RowKit
theorem preB122 {p : Prop} (h : p := by first | with_reducible assumption | omega | (simp only [List.length_append,List.length_cons,List.length_nil,List.length_set,List.length_replicate,List.length_take,List.length_drop,List.length_tail,List.length_dropLast,List.length_reverse] at *; omega) | exact mem_len (by assumption) (by omega) | (with_reducible refine Int.le_trans (Int.ofNat_le.2 (trimR_len _)) ?_; simp only [List.length_cons,List.length_tail]; omega) | (exact (ruAt_ok (by assumption) (by assumption) (by assumption)).2.1) | (exact (ruAt_ok (by assumption) (by assumption) (by assumption)).2.1) | (have := vMach_bd (by assumption); omega) | (simp only [mC_ch,mC_tu]; omega) | (have := vTag_bd (by assumption); omega) | (have := (‹Gd _ _›).le; omega) | (exact tgHalts_no (by assumption)) | (exact tgHead (by assumption) (by assumption) (by assumption)) | (exact Int.le_trans (tgStep_gd (by assumption) (by assumption) (by assumption) (by assumption)).le (by decide)) | (exact vTag_r (by assumption)) | (with_reducible refine Int.le_trans (Int.ofNat_le.2 (pushL_len _ _)) ?_; simp only [List.length_dropLast]; omega) | exact ls_at (by assumption) (by omega) | exact pt_gd (by assumption) | exact lv_at (by assumption) (by omega) | exact pt_gd (lv_at (by assumption) (by omega)) | exact (ask_ok (by assumption)).1 | exact (ask_ok (by assumption)).2.1 | exact (ask_ok (by assumption)).2.2.1 | exact (ask_ok (by assumption)).2.2.2 | trivial) : p := h
theorem ParseIntSyn_ok (s : Bs) (hs : (s.length : Int) ≤ 1000000000) (h : Lib.parseIntB 64 s = Lib.parseIntB 64 []) : Does Tryz.prog 187 [.one (str s),.one (int 10),.one (int 64)] [] (.tup [(false,[int 0]),(false,[.gv 0])]) [.opq erR [0]] :=
  does_err (av := [sv s,.int .i64 10,.int .i64 64]) (fun w S ρ vs => repA_3) fun w S hT => by
    obtain ⟨⟨cs,T,fr,ht,te,pe,hcs⟩,_⟩ := hT _ (List.mem_cons_of_mem _ (List.mem_cons_of_mem _ List.mem_cons_self))
    refine (Tryz.strconv_ParseInt_10_at64_syntax ⟨s.toArray⟩ (by rw [sz_str]; omega) h (.iface te pe) w ?_ (.inr ⟨te,pe,rfl⟩)).mono ?_
    · rw [Lib.cell_of_heap ht,hcs]; rfl
    · rintro en w' ⟨N,rfl,h1,h2,h3⟩
      exact ⟨_,_,rfl,h3⟩
theorem ParseIntRng_ok (s : Bs) (hs : (s.length : Int) ≤ 1000000000) (h : Lib.parseIntB 64 s = .range) : Does Tryz.prog 187 [.one (str s),.one (int 10),.one (int 64)] [] (.tup [(false,[int (Lib.intSat 64 s)]),(false,[.gv 0])]) [.opq erR [0]] :=
  does_err (av := [sv s,.int .i64 10,.int .i64 64]) (fun w S ρ vs => repA_3) fun w S hT => by
    obtain ⟨⟨cs,T,fr,ht,te,pe,hcs⟩,_⟩ := hT _ (List.mem_cons_of_mem _ List.mem_cons_self)
    refine (Tryz.strconv_ParseInt_10_at64_range ⟨s.toArray⟩ (by rw [sz_str]; omega) h (.iface te pe) w ?_ (.inr ⟨te,pe,rfl⟩)).mono ?_
    · rw [Lib.cell_of_heap ht,hcs]; rfl
    · rintro en w' ⟨N,rfl,h1,h2,h3⟩
      exact ⟨_,_,rfl,h3⟩
theorem ReadDecimalG_ok (s : Bs) (hs : (s.length : Int) ≤ 1048576) : Does Tryz.prog 85 [.one (str s)] [] (.tup [(false,[int ((numS s).getD 0)]),(false,[boo (numS s).isSome])]) [] := by
  cases hp : Lib.parseIntB 64 s
  · rename_i n
    obtain ⟨b1,b2⟩ := parse_bd hp
    have hdt : decT n = Lib.itoa n := by unfold decT; rfl
    have hlen := decT_le b1 b2
    by_cases hd : decT n = s
    · have ht : (Lib.trimPrefix s [45]) = Lib.decDigits n.natAbs := by rw [← hd,trim_dec]
      by_cases hl : (Lib.decDigits n.natAbs).length ≤ 18
      · have hn := len_dec hl
        have e : numS s = some n := numS_some.2 ⟨hd,by omega,by omega⟩
        rw [e]
        refine does_of (k := 0) Tryz.func85 rfl Tryz.ntmps85 rfl rfl fun w F0 S0 ρ0 => ?_
        dsimp only [argT,argH]
        repeat' first|(apply p3;(first|exact pu1|exact a_neNil rfl (by kernel_rfl));exact rfl)|refine cd ?_|(apply c4 0;exact callK1 (θ := []) (hD := (ParseInt_ok s n preB122 hp));exact rfl;exact rfl;exact rfl;refine dM ?_)|(apply py3;exact rfl;exact rfl;(first|exact pu1|exact a_neT rfl rfl|exact a_lenT rfl (fT rfl)|exact puC);exact rfl;exact rfl)|(apply cy4 0;exact rfl;exact rfl;exact callK1 (θ := []) (hD := (Decimal_ok _ preB122 preB122));exact rfl;exact rfl;exact rfl;exact rfl;refine dM ?_)|(apply cy4 0;exact rfl;exact rfl;exact callK1 (θ := []) (hD := (TrimPrefix_ok _ _));exact rfl;exact rfl;exact rfl;exact rfl;refine dM ?_)|(refine o_gs rfl rfl (fun hc => ?_) (fun hc => ?_) <;> (try simp only [dcB] at hc) <;> (try first|contradiction|(exfalso;omega)))
        simp only [ht]
        repeat' first|(apply p3;(exact pu1);exact rfl)|refine cd ?_|((refine g_cond rfl (fun hc => ?_) (fun hc => ?_)) <;> (try simp only [dcB] at hc) <;> (try first|contradiction|(exfalso;omega)))
        repeat refine cr ?_
        refine ends_id ?_
        refine endK [] (h2 := ?_) (h3 := ?_) (nd := ?_)
        all_goals (repeat' first|exact ce0|refine ce ?_|refine ce2 ?_ ?_|exact SVLe.refl|refine ceb ?_)
        all_goals first | exact (show nodupB _ = true from rfl) | exact Or.inr rfl | (rfl)
      · have e : numS s = none := by
          cases hq : numS s with
          | none => rfl
          | some k =>
            obtain ⟨q1,q2,q3⟩ := numS_some.1 hq
            have q4 : valS (decT k) = valS (decT n) := by rw [q1,hd]
            rw [valS_dec,valS_dec] at q4
            subst q4
            exact absurd (dec_len (k := 18) (by omega) (by omega)) hl
        rw [e]
        refine does_of (k := 0) Tryz.func85 rfl Tryz.ntmps85 rfl rfl fun w F0 S0 ρ0 => ?_
        dsimp only [argT,argH]
        repeat' first|(apply p3;(first|exact pu1|exact a_neNil rfl (by kernel_rfl));exact rfl)|refine cd ?_|(apply c4 0;exact callK1 (θ := []) (hD := (ParseInt_ok s n preB122 hp));exact rfl;exact rfl;exact rfl;refine dM ?_)|(apply py3;exact rfl;exact rfl;(first|exact pu1|exact a_neT rfl rfl|exact a_lenT rfl (fT rfl)|exact puC);exact rfl;exact rfl)|(apply cy4 0;exact rfl;exact rfl;exact callK1 (θ := []) (hD := (Decimal_ok _ preB122 preB122));exact rfl;exact rfl;exact rfl;exact rfl;refine dM ?_)|(apply cy4 0;exact rfl;exact rfl;exact callK1 (θ := []) (hD := (TrimPrefix_ok _ _));exact rfl;exact rfl;exact rfl;exact rfl;refine dM ?_)|(refine o_gs rfl rfl (fun hc => ?_) (fun hc => ?_) <;> (try simp only [dcB] at hc) <;> (try first|contradiction|(exfalso;omega)))
        simp only [ht]
        repeat' first|(apply p3;(exact pu1);exact rfl)|refine cd ?_|((refine g_cond rfl (fun hc => ?_) (fun hc => ?_)) <;> (try simp only [dcB] at hc) <;> (try first|contradiction|(exfalso;omega)))
        repeat refine cr ?_
        refine ends_id ?_
        refine endK [] (h2 := ?_) (h3 := ?_) (nd := ?_)
        all_goals (repeat' first|exact ce0|refine ce ?_|refine ce2 ?_ ?_|exact SVLe.refl|refine ceb ?_)
        all_goals first | exact (show nodupB _ = true from rfl) | exact Or.inr rfl | (rfl)
    · have e : numS s = none := by
        cases hq : numS s with
        | none => rfl
        | some k =>
          obtain ⟨q1,q2,q3⟩ := numS_some.1 hq
          rw [← q1,parse_dec2 q2 q3] at hp
          cases hp
          exact absurd q1 hd
      rw [e]
      refine does_of (k := 0) Tryz.func85 rfl Tryz.ntmps85 rfl rfl fun w F0 S0 ρ0 => ?_
      dsimp only [argT,argH]
      repeat' first|(apply p3;(first|exact pu1|exact a_neNil rfl (by kernel_rfl));exact rfl)|refine cd ?_|(apply c4 0;exact callK1 (θ := []) (hD := (ParseInt_ok s n preB122 hp));exact rfl;exact rfl;exact rfl;refine dM ?_)|refine o_no rfl rfl rfl rfl ?_|(apply py3;exact rfl;exact rfl;(first|exact pu1|exact a_neT rfl rfl);exact rfl;exact rfl)|(apply cy4 0;exact rfl;exact rfl;exact callK1 (θ := []) (hD := (Decimal_ok _ preB122 preB122));exact rfl;exact rfl;exact rfl;exact rfl;refine dM ?_)|((refine o_gs rfl rfl (fun hc => ?_) (fun hc => ?_)) <;> (try simp only [dcB] at hc) <;> (try first|contradiction|(exfalso;omega)))
      repeat refine cr ?_
      refine ends_id ?_
      refine endK [] (h2 := ?_) (h3 := ?_) (nd := ?_)
      all_goals (repeat' first|exact ce0|refine ce ?_|refine ce2 ?_ ?_|exact SVLe.refl|refine ceb ?_)
      all_goals first | exact (show nodupB _ = true from rfl) | exact Or.inr rfl | (rfl)
  · have e : numS s = none := by
      cases hq : numS s with
      | none => rfl
      | some k =>
        obtain ⟨q1,q2,q3⟩ := numS_some.1 hq
        rw [← q1,parse_dec2 q2 q3] at hp
        cases hp
    rw [e]
    refine does_of (k := 0) Tryz.func85 rfl Tryz.ntmps85 rfl rfl fun w F0 S0 ρ0 => ?_
    dsimp only [argT,argH]
    repeat' first|(apply p3;(first|exact pu1|exact a_neErr rfl rfl (by kernel_rfl));exact rfl)|refine cd ?_|(apply c4 1;exact callK0 (θ := []) (hD := (ParseIntSyn_ok s preB122 hp));exact rfl;exact rfl;exact rfl;refine dM ?_)|refine o_no rfl rfl rfl rfl ?_
    repeat refine cr ?_
    refine ends_id ?_
    refine endK [] (h2 := ?_) (h3 := ?_) (nd := ?_)
    all_goals (repeat' first|exact ce0|refine ce ?_|refine ce2 ?_ ?_|exact SVLe.refl|refine ceb ?_)
    all_goals first | exact (show nodupB _ = true from rfl) | exact Or.inr rfl | (rfl)
  · have e : numS s = none := by
      cases hq : numS s with
      | none => rfl
      | some k =>
        obtain ⟨q1,q2,q3⟩ := numS_some.1 hq
        rw [← q1,parse_dec2 q2 q3] at hp
        cases hp
    rw [e]
    refine does_of (k := 0) Tryz.func85 rfl Tryz.ntmps85 rfl rfl fun w F0 S0 ρ0 => ?_
    dsimp only [argT,argH]
    repeat' first|(apply p3;(first|exact pu1|exact a_neErr rfl rfl (by kernel_rfl));exact rfl)|refine cd ?_|(apply c4 1;exact callK0 (θ := []) (hD := (ParseIntRng_ok s preB122 hp));exact rfl;exact rfl;exact rfl;refine dM ?_)|refine o_no rfl rfl rfl rfl ?_
    repeat refine cr ?_
    refine ends_id ?_
    refine endK [] (h2 := ?_) (h3 := ?_) (nd := ?_)
    all_goals (repeat' first|exact ce0|refine ce ?_|refine ce2 ?_ ?_|exact SVLe.refl|refine ceb ?_)
    all_goals first | exact (show nodupB _ = true from rfl) | exact Or.inr rfl | (rfl)
end Go.Proofs.YtbblkhjjgnpbaaaGreatDoor
end
section
set_option linter.unusedVariables false
set_option linter.unusedSimpArgs false
set_option maxRecDepth 100000
set_option maxHeartbeats 4000000
namespace Go.Proofs.YtbblkhjjgnpbaaaGreatDoor
open Go Foot Go.RowKit
theorem preB123 {p : Prop} (h : p := by first | with_reducible assumption | omega | (simp only [List.length_append,List.length_cons,List.length_nil,List.length_set,List.length_replicate,List.length_take,List.length_drop,List.length_tail,List.length_dropLast,List.length_reverse] at *; omega) | exact mem_len (by assumption) (by omega) | (with_reducible refine Int.le_trans (Int.ofNat_le.2 (trimR_len _)) ?_; simp only [List.length_cons,List.length_tail]; omega) | (exact (ruAt_ok (by assumption) (by assumption) (by assumption)).2.1) | (exact (ruAt_ok (by assumption) (by assumption) (by assumption)).2.1) | (have := vMach_bd (by assumption); omega) | (simp only [mC_ch,mC_tu]; omega) | (have := vTag_bd (by assumption); omega) | (have := (‹Gd _ _›).le; omega) | (exact tgHalts_no (by assumption)) | (exact tgHead (by assumption) (by assumption) (by assumption)) | (exact Int.le_trans (tgStep_gd (by assumption) (by assumption) (by assumption) (by assumption)).le (by decide)) | (exact vTag_r (by assumption)) | (with_reducible refine Int.le_trans (Int.ofNat_le.2 (pushL_len _ _)) ?_; simp only [List.length_dropLast]; omega) | exact ls_at (by assumption) (by omega) | exact pt_gd (by assumption) | exact lv_at (by assumption) (by omega) | exact pt_gd (lv_at (by assumption) (by omega)) | exact (ask_ok (by assumption)).1 | exact (ask_ok (by assumption)).2.1 | exact (ask_ok (by assumption)).2.2.1 | exact (ask_ok (by assumption)).2.2.2 | trivial) : p := h
theorem GrowF_ok (n : Int) (h0 : 0 ≤ n) (h1 : n ≤ 281474976710656) : Does Tryz.prog 216 [.one (.gv 0),.one (int n)] [.opq (frB 173) [0]] (.tup []) [bldr []] :=
  does_fresh (av := [.int .i64 n]) (rv := .tuple #[]) (fun w S ρ vs => repA_1) (fun w S ρ => ⟨#[],rfl,rfl⟩) fun w b h => by
    obtain ⟨k,rfl⟩ : ∃ k : Nat,n = k := ⟨n.toNat,by omega⟩
    exact bs_GrowF h (by omega)
theorem ReplaceB_ok (s : Bs) (c d : UInt8) (hs : (s.length : Int) ≤ 1048576) (hcd : c ≠ d) : Does Tryz.prog 205 [.one (str s),.one (str [c]),.one (str [d]),.one (int (-1))] [] (.one (str (rpl c d s))) [] := by
  have hone : ((([c] : Bs).length : Nat) : Int) = 1 := rfl
  have hond : ((([d] : Bs).length : Nat) : Int) = 1 := rfl
  have hcl : Lib.countByte s c ≤ s.length := List.count_le_length
  have hne : ¬ (([c] : Bs) = [d]) := by simp [hcd]
  by_cases h0 : (Lib.countByte s c : Int) = 0
  · have hno : c ∉ s := fun q => by
      have := List.count_pos_iff.2 q
      unfold Lib.countByte at h0
      omega
    have e := rpl_no (d := d) hno
    rw [e]
    refine does_of (k := 0) Tryz.func205 rfl Tryz.ntmps205 rfl rfl fun w F0 S0 ρ0 => ?_
    dsimp only [argT,argH]
    repeat' first|(apply p3;(first|exact pu1|exact a_eqT rfl rfl|exact puC);exact rfl)|refine cd ?_|(apply c4 0;exact callK1 (θ := []) (hD := (CountB_ok _ _));exact rfl;exact rfl;exact rfl;refine dM ?_)|(apply py3;exact rfl;exact rfl;(first|exact pu1|exact puC);exact rfl;exact rfl)|((first|refine o_gs rfl rfl (fun hc => ?_) (fun hc => ?_)|refine g_cond rfl (fun hc => ?_) (fun hc => ?_)) <;> (try simp only [dcB] at hc) <;> (try first|contradiction|(exfalso;omega)))
    repeat refine cr ?_
    refine ends_id ?_
    refine endK [] (h2 := ?_) (h3 := ?_) (nd := ?_)
    all_goals (repeat' first|exact ce0|refine ce ?_|refine ce2 ?_ ?_|exact SVLe.refl|refine ceb ?_)
    all_goals first | exact (show nodupB _ = true from rfl) | exact Or.inr rfl | (rfl)
  · have hm0 : ¬ (Lib.countByte s c : Int) < 0 := by omega
    have hz : (Lib.countByte s c : Int) * (((([d] : Bs).length : Nat) : Int) - ((([c] : Bs).length : Nat) : Int)) = 0 := by rw [hone,hond]; simp
    refine does_of (k := 0) Tryz.func205 rfl Tryz.ntmps205 rfl rfl fun w F0 S0 ρ0 => ?_
    dsimp only [argT,argH]
    repeat' first|(apply n3;exact a_newF;exact rfl;refine dA ?_)|(apply p3;(first|exact pu1|exact a_eqT rfl rfl|exact puC|exact a_lenT rfl (fT rfl)|exact a_sub rfl rfl (by omega) (by omega)|exact a_mulB rfl rfl (by omega) (by omega) (by omega) (by omega)|exact a_add rfl rfl (by omega) (by omega));exact rfl)|refine cd ?_|(apply c4 0;exact callK1 (θ := []) (hD := (CountB_ok _ _));exact rfl;exact rfl;exact rfl;refine dM ?_)|(apply c4 0;exact callK1 (θ := [_]) (hD := (GrowF_ok _ preB123 preB123));exact rfl;exact rfl;exact rfl;refine dM ?_)|refine o_no rfl rfl rfl rfl ?_|(apply py3;exact rfl;exact rfl;(first|exact pu1|exact puC);exact rfl;exact rfl)|((first|refine o_gs rfl rfl (fun hc => ?_) (fun hc => ?_)|refine g_cond rfl (fun hc => ?_) (fun hc => ?_)) <;> (try simp only [dcB] at hc) <;> (try first|contradiction|(exfalso;omega)))
    refine g_loop_id ?_
    refine loopK [0,1,2,3,8,10,52] [0] (fun y : Int × Int × Bs => 0 ≤ y.1 ∧ y.1 ≤ Lib.countByte s c ∧ 0 ≤ y.2.1 ∧ y.2.1 ≤ s.length ∧ (Lib.countByte (s.drop y.2.1.toNat) c : Int) = Lib.countByte s c - y.1 ∧ (y.2.2.length : Int) = y.2.1 ∧ rpl c d s = y.2.2 ++ rpl c d (s.drop y.2.1.toNat)) (fun y => [(53,.one (int y.1)),(11,.one (int y.2.1))]) (fun y => [(0,bldr y.2.2)]) (fun y => (Lib.countByte s c - y.1).toNat) ((0 : Int),(0 : Int),([] : Bs)) [0] (hI := ?_) (hr := ?_)
    · exact ⟨by simp,by simp,by simp,by simp,by simp,by simp,by simp⟩
    · rintro ⟨i,k,acc⟩ ⟨h1,h2,h3,h4,h5,h6,h7⟩
      dsimp only [List.cons_append,List.nil_append] at *
      skip
      repeat' first|(apply p3;(first|exact pu1|exact puC|exact a_slSl rfl rfl (fT rfl) (by omega) bnd);exact rfl)|refine cdn ?_|refine g_reg (id := 13) ?_|refine g_reg (id := 28) ?_|refine g_reg (id := 29) ?_|(apply c4 0;exact callK1 (θ := [_]) (hD := (WriteString_ok _ _ preB123));exact rfl;exact rfl;exact rfl;refine dM ?_)|(apply c4 0;exact callK1 (θ := [_]) (hD := (String_ok _));exact rfl;exact rfl;exact rfl;refine dM ?_)|((refine g_cond rfl (fun hc => ?_) (fun hc => ?_)) <;> (try simp only [dcB] at hc) <;> (try first|contradiction|(exfalso;omega)))
      · have hpos : 0 ≤ Lib.indexByte (s.drop k.toNat) c := by
          rcases Int.lt_or_le (Lib.indexByte (s.drop k.toNat) c) 0 with q | q
          · exfalso
            by_cases hm : c ∈ s.drop k.toNat
            · have := index_nn hm; omega
            · have := count_no hm
              omega
          · exact q
        obtain ⟨a,b,e1,e2⟩ := index_split hpos
        have e3 := index_at (b := b) e2
        have e4 := count_app (b := b) e2
        have e5 : (s.length : Int) = k + a.length + 1 + b.length := by
          have := congrArg List.length e1
          rw [List.length_drop] at this
          simp only [List.length_append,List.length_cons] at this
          omega
        have e6 : (s.drop k.toNat).take ((k + (a.length : Int)).toNat - k.toNat) = a := by
          rw [e1,show (k + (a.length : Int)).toNat - k.toNat = a.length by omega]
          simp
        have e7 : s.drop (k + a.length + 1).toNat = b := by
          rw [show (k + (a.length : Int) + 1).toNat = k.toNat + (a.length + 1) by omega,← List.drop_drop,e1]
          simp
        rw [e1] at h5 h7
        rw [rpl_app,rpl_no e2] at h7
        have e8 : rpl c d (c :: b) = d :: rpl c d b := by unfold rpl; simp
        rw [e8] at h7
        repeat' first|(apply p3;(first|exact pu1|exact a_slSl rfl rfl (fT rfl) (by omega) bnd);exact rfl)|refine g_reg (id := 14) ?_|(apply c4 0;exact callK1 (θ := []) (hD := (IndexB_ok _ _));exact rfl;exact rfl;exact rfl;refine dM ?_)
        simp only [e1,e3]
        repeat' first|(apply p3;(first|exact pu1|exact a_add rfl rfl (by omega) (by omega)|exact a_slSm rfl rfl rfl (fT rfl) (by omega) (by omega) bnd|exact a_lenT rfl (fT rfl));exact rfl)|refine cd ?_|(apply c4 0;exact callK1 (θ := [_]) (hD := (WriteString_ok _ _ preB123));exact rfl;exact rfl;exact rfl;refine dM ?_)
        have e9 : (s.drop k.toNat).take ((k + ((a.length : Nat) : Int)).toNat - k.toNat) = a := e6
        simp only [e9]
        refine q_again (i + 1,k + a.length + 1,acc ++ a ++ [d]) [0] (by exact stk) ?_ ?_
        · refine ⟨by dsimp only; omega,by dsimp only; omega,by dsimp only; omega,by dsimp only; omega,?_,by simp; omega,?_⟩
          · dsimp only
            rw [e7]
            omega
          · dsimp only
            rw [e7,h7]
            simp
        · dsimp only; omega
      · have hno : c ∉ s.drop k.toNat := fun q => by
          have h1 := List.count_pos_iff.2 q
          have h6 : Lib.countByte (s.drop k.toNat) c = 0 := by omega
          unfold Lib.countByte at h6
          omega
        rw [rpl_no hno] at h7
        rw [h7]
        repeat refine cr ?_
        refine ends_id ?_
        refine endK [] (h2 := ?_) (h3 := ?_) (nd := ?_)
        all_goals (repeat' first|exact ce0|refine ce ?_|refine ce2 ?_ ?_|exact SVLe.refl|refine ceb ?_)
        all_goals first | exact (show nodupB _ = true from rfl) | exact Or.inr rfl | (rfl)
end Go.Proofs.YtbblkhjjgnpbaaaGreatDoor
end
section
set_option linter.unusedVariables false
set_option linter.unusedSimpArgs false
set_option maxRecDepth 100000
set_option maxHeartbeats 4000000
namespace Go.Proofs.YtbblkhjjgnpbaaaGreatDoor
open Go Foot
end Go.Proofs.YtbblkhjjgnpbaaaGreatDoor
end
section
set_option linter.unusedVariables false
set_option linter.unusedSimpArgs false
set_option maxRecDepth 100000
set_option maxHeartbeats 4000000
namespace Go.Proofs.YtbblkhjjgnpbaaaGreatDoor
open Go Foot Go.RowKit
theorem spl_len (c : UInt8) : ∀ s : Bs,(spl c s).length ≤ s.length + 1
  | [] => by simp [spl]
  | x :: s => by
    have ih := spl_len c s
    rw [spl]
    split
    · simp only [List.length_cons]; omega
    · split
      · simp
      · next p r e => rw [e] at ih; simp only [List.length_cons] at ih ⊢; omega
theorem spl_el (c : UInt8) : ∀ (s : Bs),∀ p ∈ spl c s,p.length ≤ s.length ∧ ∀ x ∈ p,x ∈ s
  | [],p,h => by simp [spl] at h; subst h; simp
  | x :: s,p,h => by
    have ih := spl_el c s
    rw [spl] at h
    split at h
    · rcases List.mem_cons.1 h with rfl | h
      · simp
      · obtain ⟨i1,i2⟩ := ih p h
        exact ⟨by simp only [List.length_cons]; omega,fun y hy => List.mem_cons_of_mem _ (i2 y hy)⟩
    · split at h
      · rcases List.mem_cons.1 h with rfl | h
        · simp
        · cases h
      · next q r e =>
        rw [e] at ih
        rcases List.mem_cons.1 h with rfl | h
        · obtain ⟨i1,i2⟩ := ih q (by simp)
          refine ⟨by simp only [List.length_cons]; omega,fun y hy => ?_⟩
          rcases List.mem_cons.1 hy with rfl | hy
          · simp
          · exact List.mem_cons_of_mem _ (i2 y hy)
        · obtain ⟨i1,i2⟩ := ih p (by simp [h])
          exact ⟨by simp only [List.length_cons]; omega,fun y hy => List.mem_cons_of_mem _ (i2 y hy)⟩
theorem ReadDecsG_ok (s : Bs) (hs : (s.length : Int) ≤ 1048576) : Does Tryz.prog 113 [.one (str s)] [] (.tup [(false,[.gv 0]),(false,[boo (numL (spl 44 s)).isSome])]) [roI ((numL (spl 44 s)).getD [])] := by
  have hpl := spl_len 44 s
  have hpe := spl_el 44 s
  refine does_of (k := 0) Tryz.func113 rfl Tryz.ntmps113 rfl rfl fun w F0 S0 ρ0 => ?_
  dsimp only [argT,argH]
  repeat' first|(apply n3;exact a_nilO eI rfl;exact rfl)|(apply n3;(exact a_litE eI [] rfl rfl rfl rfl rfl rfl rfl rfl);exact rfl;refine dA ?_)|(apply p3;(first|exact pu1|exact puN);exact rfl)|refine cd ?_|(apply c4 1;exact callK1 (θ := []) (hD := (Split_ok s 44 hs));exact rfl;exact rfl;exact rfl;refine dM ?_)
  generalize spl 44 s = ps at *
  refine g_loop_id ?_
  refine loopK [2,3,11,12] [1] (fun y : Int × List Int => 0 ≤ y.1 ∧ y.1 ≤ ps.length ∧ numL (ps.take y.1.toNat) = some y.2) (fun y => [(13,.one (int y.1)),(4,.one (.gv 1))]) (fun y => [(1,roI y.2)]) (fun y => (ps.length - y.1).toNat) ((0 : Int),([] : List Int)) [0,1,2] (hI := ?_) (hr := ?_)
  · exact ⟨by simp,by simp,by simp [numL]⟩
  · rintro ⟨i,l⟩ ⟨h0,h1,h2⟩
    dsimp only [List.cons_append,List.nil_append] at *
    skip
    repeat' first|(apply p3;(first|exact pu1|exact puC|exact a_ld_rowS rfl rfl rfl (fC rfl) bnd|exact puI);exact rfl)|refine cdn ?_|refine g_reg (id := 3) ?_|refine g_reg (id := 4) ?_|refine g_reg (id := 10) ?_|((refine g_cond rfl (fun hc => ?_) (fun hc => ?_)) <;> (try simp only [dcB] at hc) <;> (try first|contradiction|(exfalso;omega)))
    · have hi : i.toNat < ps.length := by omega
      have hx := (hpe _ (List.getElem_mem hi)).1
      have hx1 : ((ps[i.toNat]'hi).length : Int) ≤ 1048576 := by omega
      have hll := numL_len h2
      rw [List.length_take] at hll
      have hsn := numL_snoc (ps.take i.toNat) (ps[i.toNat]'hi)
      rw [← List.take_succ_eq_append_getElem hi,h2,Option.bind_some] at hsn
      simp only [List.getElem_map,Nat.mul_one]
      repeat' first|(apply p3;(exact pu1);exact rfl)|refine cdn ?_|refine g_reg (id := 5) ?_|(apply c4 0;exact callK1 (θ := []) (hD := (ReadDecimalG_ok (ps[i.toNat]'hi) hx1));exact rfl;exact rfl;exact rfl;refine dM ?_)
      cases hn : numS (ps[i.toNat]'hi) with
      | none =>
        rw [numL_none hi hn]
        simp only [Option.isSome_none,Option.getD_none]
        repeat' first|(apply n3;exact a_nilO eI rfl;exact rfl)|(apply p3;(exact pu1);exact rfl)|refine cd ?_
        repeat refine cr ?_
        refine ends_id ?_
        refine endK [?_] (h2 := ?_) (h3 := ?_) (nd := ?_)
        rotate_left 1
        all_goals (repeat' first|exact ce0|refine ce ?_|refine ce2 ?_ ?_|(refine Or.inr (bx_eq rfl rfl ?_);(try dsimp only [C.ren,C.ren.all]);(try exact rfl))|exact SVLe.refl|refine ceb ?_)
        all_goals first | exact (show nodupB _ = true from rfl) | exact Or.inr rfl | (rfl)
      | some n =>
        rw [hn,Option.map_some] at hsn
        simp only [Option.isSome_some,Option.getD_some]
        repeat' first|(apply n3;(exact a_litE eI [_] rfl rfl rfl rfl rfl rfl rfl rfl);exact rfl;refine dA ?_)|(apply p3;(first|exact pu1|exact a_add rfl rfl (by omega) (by omega));exact rfl)|refine cd ?_|(apply s3;exact a_appE (fP rfl) rfl rfl rfl rfl nowR (by (simp;omega)) (by decide) (by decide) (by exact rfl);exact rfl;exact rfl)
        refine q_again (i + 1,l ++ [n]) [0,4,2] (by exact stk) ?_ ?_
        · exact ⟨by dsimp only; omega,by dsimp only; omega,by dsimp only; rw [show (i + 1).toNat = i.toNat + 1 by omega,hsn]⟩
        · omega
    · rw [List.take_of_length_le (by omega)] at h2
      rw [h2]
      repeat refine cr ?_
      refine ends_id ?_
      refine endK [?_] (h2 := ?_) (h3 := ?_) (nd := ?_)
      rotate_left 1
      all_goals (repeat' first|exact ce0|refine ce ?_|refine ce2 ?_ ?_|(refine Or.inr (bx_eq rfl rfl ?_);(try dsimp only [C.ren,C.ren.all]);(try exact rfl))|exact SVLe.refl|refine ceb ?_)
      all_goals first | exact (show nodupB _ = true from rfl) | exact Or.inr rfl | (rfl)
theorem ReplaceAllB_ok (s : Bs) (c d : UInt8) (hs : (s.length : Int) ≤ 1048576) (hcd : c ≠ d) : Does Tryz.prog 114 [.one (str s),.one (str [c]),.one (str [d])] [] (.one (str (rpl c d s))) [] := by
  refine does_of (k := 0) Tryz.func114 rfl Tryz.ntmps114 rfl rfl fun w F0 S0 ρ0 => ?_
  dsimp only [argT,argH]
  repeat' first|(apply p3;exact pu1;exact rfl)|refine cd ?_|(apply c4 0;exact callK1 (θ := []) (hD := (ReplaceB_ok s c d hs hcd));exact rfl;exact rfl;exact rfl;refine dM ?_)
  repeat refine cr ?_
  refine ends_id ?_
  refine endK [] (h2 := ?_) (h3 := ?_) (nd := ?_)
  all_goals (repeat' first|exact ce0|refine ce ?_|refine ce2 ?_ ?_|exact SVLe.refl|refine ceb ?_)
  all_goals first | exact (show nodupB _ = true from rfl) | exact Or.inr rfl | (rfl)
theorem numL_map : ∀ {p : List Int},(∀ x ∈ p,0 ≤ x ∧ x ≤ 1000000000000) → numL (p.map decT) = some p
  | [],_ => rfl
  | n :: p,h => by
    have hn := h n (by simp)
    rw [List.map_cons,numL,numS_some.2 ⟨rfl,by omega,by omega⟩,Option.bind_some,numL_map (fun x hx => h x (by simp [hx]))]
    rfl
end Go.Proofs.YtbblkhjjgnpbaaaGreatDoor
end
section
set_option linter.unusedVariables false
set_option linter.unusedSimpArgs false
set_option maxRecDepth 100000
set_option maxHeartbeats 4000000
namespace Go.Proofs.YtbblkhjjgnpbaaaGreatDoor
open Go Foot Go.RowKit
theorem spl_joinH {c : UInt8} : ∀ {l : List Bs},l ≠ [] → (∀ p ∈ l,c ∉ p) → spl c (joinT l [c]) = l
  | [],h,_ => absurd rfl h
  | [a],_,h => by rw [join_one,spl_no (h a (by simp))]
  | a :: b :: l,_,h => by
    rw [join_cons2,List.singleton_append,spl_app (h a (by simp)),spl_joinH (by simp) (fun p hp => h p (by simp at hp ⊢; exact .inr hp))]
end Go.Proofs.YtbblkhjjgnpbaaaGreatDoor
end
section
set_option linter.unusedVariables false
set_option linter.unusedSimpArgs false
set_option maxRecDepth 100000
set_option maxHeartbeats 4000000
namespace Go.Proofs.YtbblkhjjgnpbaaaGreatDoor
open Go Foot
end Go.Proofs.YtbblkhjjgnpbaaaGreatDoor
end
section
set_option linter.unusedVariables false
set_option linter.unusedSimpArgs false
set_option maxRecDepth 100000
set_option maxHeartbeats 1000000
namespace Go.Proofs.YtbblkhjjgnpbaaaGreatDoor
open Go Foot Go.RowKit
structure Ins where
  k : Int
  r : Int
  t : Int
  e : Int
abbrev eN : Enc Ins := ⟨4,fun x => [.sc (.int .i64 x.k),.sc (.int .i64 x.r),.sc (.int .i64 x.t),.sc (.int .i64 x.e)],fun _ => rfl,by decide⟩
abbrev shN (l : List Ins) : C := .d (.sl false 4 (rows eN l))
abbrev roN (l : List Ins) : GB := .row 4 (rows eN l)
abbrev inC (x : Ins) : List C := [int x.k,int x.r,int x.t,int x.e]
@[irreducible] def okNs (n : Int) (x : Ins) : Bool := decide (0 ≤ x.r ∧ x.r ≤ 23) && decide (0 ≤ x.t ∧ x.t ≤ n) && decide ((x.k = 0 ∧ x.e = 0) ∨ (x.k = 1 ∧ 0 ≤ x.e ∧ x.e ≤ n))
theorem okNs_iff {n : Int} {x : Ins} : okNs n x = true ↔ (0 ≤ x.r ∧ x.r ≤ 23) ∧ (0 ≤ x.t ∧ x.t ≤ n) ∧ ((x.k = 0 ∧ x.e = 0) ∨ (x.k = 1 ∧ 0 ≤ x.e ∧ x.e ≤ n)) := by
  unfold okNs
  simp only [Bool.and_eq_true,decide_eq_true_eq,and_assoc]
@[irreducible] def vI1 (l : List Ins) : Bool := l.all (okNs l.length)
@[irreducible] def vI2 (l : List Ins) : Bool := vI1 l && l.all fun x => decide (x.r ≤ 1)
theorem l07Register_ok (n : Int) : Does Tryz.prog 304 [.one (int n)] [] (.one (boo (inB n 0 23))) [] := by
  refine does_of (k := 0) Tryz.func304 rfl Tryz.ntmps304 rfl rfl fun w F0 S0 ρ0 => ?_
  dsimp only [argT,argH]
  repeat' first|(apply p3;exact pu1;exact rfl)|refine cd ?_|(apply c4 0;exact callK1 (θ := []) (hD := (l00In_ok _ _ _));exact rfl;exact rfl;exact rfl;refine dM ?_)
  repeat refine cr ?_
  refine ends_id ?_
  refine endK [] (h2 := ?_) (h3 := ?_) (nd := ?_)
  all_goals (repeat' first|exact ce0|refine ce ?_|refine ce2 ?_ ?_|exact SVLe.refl|refine ceb ?_)
  all_goals first | exact (show nodupB _ = true from rfl) | exact Or.inr rfl | (rfl)
theorem l07Is_ok (l : List Ins) (hl : (l.length : Int) ≤ 400) : Does Tryz.prog 196 [.one (shN l)] [] (.one (boo (vI1 l))) [] := by
  have e0 : vI1 l = l.all (okNs l.length) := by unfold vI1; rfl
  rw [e0]
  refine does_of (k := 0) Tryz.func196 rfl Tryz.ntmps196 rfl rfl fun w F0 S0 ρ0 => ?_
  dsimp only [argT,argH]
  repeat' first|(apply p3;(first|exact pu1|exact puN);exact rfl)|refine cd ?_
  refine g_loop_id ?_
  refine loopK [0,2,3] [] (fun i : Int => 0 ≤ i ∧ i ≤ l.length ∧ (l.take i.toNat).all (okNs l.length) = true) (fun i => [(4,.one (int i))]) (fun _ => []) (fun i => (l.length - i).toNat) (0 : Int) [] (hI := ?_) (hr := ?_)
  · exact ⟨by omega,by omega,rfl⟩
  · rintro i ⟨h0,h1,h2⟩
    dsimp only [List.cons_append,List.nil_append] at *
    skip
    repeat' first|(apply n3;exact a_new (gb := .bx _) rfl;exact rfl;refine dA ?_)|(apply p3;(first|exact pu1|exact puN|exact puC|exact puI);exact rfl)|refine cdn ?_|refine g_reg (id := 3) ?_|refine g_reg (id := 5) ?_|refine g_reg (id := 10) ?_|(apply w3;(exact a_st_bx rfl rfl rfl rfl (fN rfl rfl) (Nat.le_of_ble_eq_true rfl) rfl);exact rfl;refine dS ?_)|((refine g_cond rfl (fun hc => ?_) (fun hc => ?_)) <;> (try simp only [dcB] at hc) <;> (try first|contradiction|(exfalso;omega)))
    · have hi : i.toNat < l.length := by omega
      by_cases hok : okNs l.length (l[i.toNat]'hi) = true
      · obtain ⟨a1,a2,a3⟩ := okNs_iff.1 hok
        rcases a3 with ⟨b1,b2⟩ | ⟨b1,b2,b3⟩
        · skip
          repeat' first|(apply p3;(first|exact pu1|exact a_ne rfl rfl|exact a_add rfl rfl (by omega) (by omega));exact rfl)|refine cd ?_|(apply c4 0;exact callK1 (θ := []) (hD := (l07Register_ok _));exact rfl;exact rfl;exact rfl;refine dM ?_)|refine o_no rfl rfl rfl rfl ?_|(apply py3;exact rfl;exact rfl;(first|exact pu1|exact puC|exact a_ne rfl rfl);exact rfl;exact rfl)|(apply cy4 0;exact rfl;exact rfl;exact callK1 (θ := []) (hD := (l00In_ok _ _ _));exact rfl;exact rfl;exact rfl;exact rfl;refine dM ?_)|((first|refine o_gs rfl rfl (fun hc => ?_) (fun hc => ?_)|refine g_cond rfl (fun hc => ?_) (fun hc => ?_)) <;> (try simp only [dcB] at hc) <;> (try first|contradiction|(exfalso;omega)))
          refine q_again (i + 1) [] (by exact stk) ?_ ?_
          · exact ⟨by omega,by omega,all_snocI _ _ _ h0 (by omega) h2 hok⟩
          · omega
        · skip
          repeat' first|(apply p3;(first|exact pu1|exact a_ne rfl rfl|exact a_add rfl rfl (by omega) (by omega));exact rfl)|refine cd ?_|(apply c4 0;exact callK1 (θ := []) (hD := (l07Register_ok _));exact rfl;exact rfl;exact rfl;refine dM ?_)|refine o_no rfl rfl rfl rfl ?_|(apply py3;exact rfl;exact rfl;(first|exact pu1|exact puC|exact a_ne rfl rfl);exact rfl;exact rfl)|(apply cy4 0;exact rfl;exact rfl;exact callK1 (θ := []) (hD := (l00In_ok _ _ _));exact rfl;exact rfl;exact rfl;exact rfl;refine dM ?_)|((first|refine o_gs rfl rfl (fun hc => ?_) (fun hc => ?_)|refine g_cond rfl (fun hc => ?_) (fun hc => ?_)) <;> (try simp only [dcB] at hc) <;> (try first|contradiction|(exfalso;omega)))
          refine q_again (i + 1) [] (by exact stk) ?_ ?_
          · exact ⟨by omega,by omega,all_snocI _ _ _ h0 (by omega) h2 hok⟩
          · omega
      · have hk : ¬ _ := fun q => hok (okNs_iff.2 q)
        have hno : l.all (okNs l.length) = false := all_no _ _ i.toNat hi (by simpa using hok)
        rw [hno]
        repeat' first|(apply p3;(first|exact pu1|exact a_ne rfl rfl);exact rfl)|refine cd ?_|(apply c4 0;exact callK1 (θ := []) (hD := (l07Register_ok _));exact rfl;exact rfl;exact rfl;refine dM ?_)|refine o_no rfl rfl rfl rfl ?_|(apply py3;exact rfl;exact rfl;(first|exact pu1|exact puC|exact a_ne rfl rfl);exact rfl;exact rfl)|(apply cy4 0;exact rfl;exact rfl;exact callK1 (θ := []) (hD := (l00In_ok _ _ _));exact rfl;exact rfl;exact rfl;exact rfl;refine dM ?_)|((first|refine o_gs rfl rfl (fun hc => ?_) (fun hc => ?_)|refine g_cond rfl (fun hc => ?_) (fun hc => ?_)) <;> (try simp only [dcB] at hc) <;> (try first|contradiction|(exfalso;omega)))
        all_goals first | (exfalso; omega) | skip
        all_goals
          repeat refine cr ?_
          refine ends_id ?_
          refine endK [] (h2 := ?_) (h3 := ?_) (nd := ?_)
          all_goals (repeat' first|exact ce0|refine ce ?_|refine ce2 ?_ ?_|exact SVLe.refl|refine ceb ?_)
          all_goals first | exact (show nodupB _ = true from rfl) | exact Or.inr rfl | (rfl)
    · repeat refine cr ?_
      refine ends_id ?_
      refine endK [] (h2 := ?_) (h3 := ?_) (nd := ?_)
      all_goals (repeat' first|exact ce0|refine ce ?_|refine ce2 ?_ ?_|exact SVLe.refl|refine ceb ?_)
      all_goals first | exact (show nodupB _ = true from rfl) | exact Or.inr rfl | ((rw [List.take_of_length_le (by omega)] at h2; rw [h2]; simp; omega))
theorem l08Two_ok (l : List Ins) (hl : (l.length : Int) ≤ 400) : Does Tryz.prog 101 [.one (shN l)] [] (.one (boo (vI2 l))) [] := by
  have e0 : vI2 l = (vI1 l && l.all fun x => decide (x.r ≤ 1)) := by unfold vI2; rfl
  rw [e0]
  cases hv : vI1 l with
  | false =>
    refine does_of (k := 0) Tryz.func101 rfl Tryz.ntmps101 rfl rfl fun w F0 S0 ρ0 => ?_
    dsimp only [argT,argH]
    repeat' first|(apply p3;exact pu1;exact rfl)|refine cd ?_|(apply c4 0;exact callK1 (θ := []) (hD := (l07Is_ok l hl));exact rfl;exact rfl;exact rfl;refine dM ?_)
    simp only [hv]
    repeat' first|(apply p3;(exact pu1);exact rfl)|refine cd ?_
    repeat refine cr ?_
    refine ends_id ?_
    refine endK [] (h2 := ?_) (h3 := ?_) (nd := ?_)
    all_goals (repeat' first|exact ce0|refine ce ?_|refine ce2 ?_ ?_|exact SVLe.refl|refine ceb ?_)
    all_goals first | exact (show nodupB _ = true from rfl) | exact Or.inr rfl | (rfl)
  | true =>
    refine does_of (k := 0) Tryz.func101 rfl Tryz.ntmps101 rfl rfl fun w F0 S0 ρ0 => ?_
    dsimp only [argT,argH]
    repeat' first|(apply p3;exact pu1;exact rfl)|refine cd ?_|(apply c4 0;exact callK1 (θ := []) (hD := (l07Is_ok l hl));exact rfl;exact rfl;exact rfl;refine dM ?_)
    simp only [hv]
    repeat' first|(apply p3;(exact pu1);exact rfl)|refine cd ?_
    refine g_loop_id ?_
    refine loopK [0,2] [] (fun i : Int => 0 ≤ i ∧ i ≤ l.length ∧ (l.take i.toNat).all (fun x => decide (x.r ≤ 1)) = true) (fun i => [(3,.one (int i))]) (fun _ => []) (fun i => (l.length - i).toNat) (0 : Int) [] (hI := ?_) (hr := ?_)
    · exact ⟨by omega,by omega,rfl⟩
    · rintro i ⟨h0,h1,h2⟩
      dsimp only [List.cons_append,List.nil_append] at *
      skip
      repeat' first|(apply p3;(first|exact pu1|exact puN|exact puC);exact rfl)|refine cdn ?_|refine g_reg (id := 4) ?_|refine g_reg (id := 8) ?_|((refine g_cond rfl (fun hc => ?_) (fun hc => ?_)) <;> (try simp only [dcB] at hc) <;> (try first|contradiction|(exfalso;omega)))
      · have hi : i.toNat < l.length := by omega
        repeat' first|(apply p3;(first|exact pu1|exact puC|exact a_add rfl rfl (by omega) (by omega)|exact puI);exact rfl)|refine cd ?_|((refine g_cond rfl (fun hc => ?_) (fun hc => ?_)) <;> (try simp only [dcB] at hc) <;> (try first|contradiction|(exfalso;omega)))
        · have hno : l.all (fun x => decide (x.r ≤ 1)) = false := all_no _ _ i.toNat hi (by simp; omega)
          repeat refine cr ?_
          refine ends_id ?_
          refine endK [] (h2 := ?_) (h3 := ?_) (nd := ?_)
          all_goals (repeat' first|exact ce0|refine ce ?_|refine ce2 ?_ ?_|exact SVLe.refl|refine ceb ?_)
          all_goals first | exact (show nodupB _ = true from rfl) | exact Or.inr rfl | ((rw [hno]; rfl))
        · skip
          refine q_again (i + 1) [] (by exact stk) ?_ ?_
          · exact ⟨by omega,by omega,all_snocI _ _ _ h0 (by omega) h2 (by simp; omega)⟩
          · omega
      · repeat refine cr ?_
        refine ends_id ?_
        refine endK [] (h2 := ?_) (h3 := ?_) (nd := ?_)
        all_goals (repeat' first|exact ce0|refine ce ?_|refine ce2 ?_ ?_|exact SVLe.refl|refine ceb ?_)
        all_goals first | exact (show nodupB _ = true from rfl) | exact Or.inr rfl | ((rw [List.take_of_length_le (by omega)] at h2; rw [h2]; rfl))
end Go.Proofs.YtbblkhjjgnpbaaaGreatDoor
end
section
set_option linter.unusedVariables false
set_option linter.unusedSimpArgs false
set_option maxRecDepth 100000
set_option maxHeartbeats 4000000
namespace Go.Proofs.YtbblkhjjgnpbaaaGreatDoor
open Go Foot
@[irreducible] def root (sy st : Int) : Mach := ⟨sy,st,List.replicate (st * sy).toNat noR⟩
end Go.Proofs.YtbblkhjjgnpbaaaGreatDoor
end
section
set_option linter.unusedVariables false
set_option linter.unusedSimpArgs false
set_option maxRecDepth 100000
set_option maxHeartbeats 4000000
namespace Go.Proofs.YtbblkhjjgnpbaaaGreatDoor
open Go Foot
end Go.Proofs.YtbblkhjjgnpbaaaGreatDoor
end
section
set_option linter.unusedVariables false
set_option linter.unusedSimpArgs false
set_option maxRecDepth 100000
set_option maxHeartbeats 4000000
namespace Go.Proofs.YtbblkhjjgnpbaaaGreatDoor
open Go Foot
end Go.Proofs.YtbblkhjjgnpbaaaGreatDoor
end
section
set_option linter.unusedVariables false
set_option linter.unusedSimpArgs false
set_option maxRecDepth 100000
set_option maxHeartbeats 4000000
namespace Go.Proofs.YtbblkhjjgnpbaaaGreatDoor
open Go Foot
end Go.Proofs.YtbblkhjjgnpbaaaGreatDoor
end
section
set_option linter.unusedVariables false
set_option linter.unusedSimpArgs false
set_option maxRecDepth 100000
set_option maxHeartbeats 4000000
namespace Go.Proofs.YtbblkhjjgnpbaaaGreatDoor
open Go Foot
abbrev c0 : Conf := ⟨0,[],[]⟩
end Go.Proofs.YtbblkhjjgnpbaaaGreatDoor
end
section
set_option linter.unusedVariables false
set_option linter.unusedSimpArgs false
set_option maxRecDepth 100000
set_option maxHeartbeats 4000000
namespace Go.Proofs.YtbblkhjjgnpbaaaGreatDoor
open Go Foot
end Go.Proofs.YtbblkhjjgnpbaaaGreatDoor
end
section
set_option linter.unusedVariables false
set_option linter.unusedSimpArgs false
set_option maxRecDepth 100000
set_option maxHeartbeats 4000000
namespace Go.Proofs.YtbblkhjjgnpbaaaGreatDoor
open Go Foot
end Go.Proofs.YtbblkhjjgnpbaaaGreatDoor
end
section
set_option linter.unusedVariables false
set_option linter.unusedSimpArgs false
set_option maxRecDepth 100000
set_option maxHeartbeats 4000000
namespace Go.Proofs.YtbblkhjjgnpbaaaGreatDoor
open Go Foot
end Go.Proofs.YtbblkhjjgnpbaaaGreatDoor
end
section
set_option linter.unusedVariables false
set_option linter.unusedSimpArgs false
set_option maxRecDepth 100000
namespace Go.Proofs.YtbblkhjjgnpbaaaGreatDoor
open Go Foot
section
variable {P : Program} {g : Gh} {st : St} {dst : Option Tmp} {ty : TypeId} {pos : String} {after : Array Edge} {guard : Option (Nat × Bool)} {x y : Operand} {α : Type} {E : Enc α} {l : List α} {z r k i : Nat} {c0 : C}
end
end Go.Proofs.YtbblkhjjgnpbaaaGreatDoor
end
section
set_option linter.unusedVariables false
set_option linter.unusedSimpArgs false
set_option maxRecDepth 100000
set_option maxHeartbeats 4000000
namespace Go.Proofs.YtbblkhjjgnpbaaaGreatDoor
open Go Foot
theorem l00Min_ok (a b : Int) : Does Tryz.prog 194 [.one (int a),.one (int b)] [] (.one (int (min a b))) [] := by
  refine does_of (k := 0) Tryz.func194 rfl Tryz.ntmps194 rfl rfl fun w F0 S0 ρ0 => ?_
  dsimp only [argT,argH]
  repeat' first|(apply p3;(first|exact pu1|exact puC);exact rfl)|refine cd ?_|((refine g_cond rfl (fun hc => ?_) (fun hc => ?_)) <;> (try simp only [dcB] at hc) <;> (try first|contradiction|(exfalso;omega)))
  all_goals
    repeat refine cr ?_
    refine ends_id ?_
    refine endK [] (h2 := ?_) (h3 := ?_) (nd := ?_)
    all_goals (repeat' first|exact ce0|refine ce ?_|refine ce2 ?_ ?_|exact SVLe.refl|refine ceb ?_)
    all_goals first | exact (show nodupB _ = true from rfl) | exact Or.inr rfl | (omega)
end Go.Proofs.YtbblkhjjgnpbaaaGreatDoor
end
section
set_option linter.unusedVariables false
set_option linter.unusedSimpArgs false
set_option maxRecDepth 100000
set_option maxHeartbeats 1000000
namespace Go.Proofs.YtbblkhjjgnpbaaaGreatDoor
open Go Foot Go.RowKit
@[irreducible] def dcT (n i : Int) (s : Src) : Int := if pkV (pkS (pkS (pkS s 2) 2) (n + 1)) 2 = 0 then min n (i + 1) else pkV (pkS (pkS s 2) 2) (n + 1)
@[irreducible] def dcE (n : Int) (s : Src) : Int := if pkV s 2 = 1 then pkV (pkS (pkS (pkS (pkS s 2) 2) (n + 1)) 2) (n + 1) else 0
@[irreducible] def dcI (n i : Int) (s : Src) : Ins := ⟨pkV s 2,pkV (pkS s 2) 2,dcT n i s,dcE n s⟩
@[irreducible] def dcS (n : Int) (s : Src) : Src := if pkV s 2 = 1 then pkS (pkS (pkS (pkS (pkS s 2) 2) (n + 1)) 2) (n + 1) else pkS (pkS (pkS (pkS s 2) 2) (n + 1)) 2
def dcF (n : Int) : Nat → Int → Src → List Ins → List Ins × Src
  | 0,_,s,l => (l,s)
  | k + 1,i,s,l => dcF n k (i + 1) (dcS n s) (l ++ [dcI n i s])
structure DcOk (n : Int) (s : Src) : Prop where
  g1 : SrOk (pkS s 2)
  z1 : (pkS s 2).pl ≤ s.pl + 2
  g2 : SrOk (pkS (pkS s 2) 2)
  z2 : (pkS (pkS s 2) 2).pl ≤ s.pl + 4
  g3 : SrOk (pkS (pkS (pkS s 2) 2) (n + 1))
  z3 : (pkS (pkS (pkS s 2) 2) (n + 1)).pl ≤ s.pl + 6
  g4 : SrOk (pkS (pkS (pkS (pkS s 2) 2) (n + 1)) 2)
  z4 : (pkS (pkS (pkS (pkS s 2) 2) (n + 1)) 2).pl ≤ s.pl + 8
  g : SrOk (dcS n s)
  z : s.pl ≤ (dcS n s).pl ∧ (dcS n s).pl ≤ s.pl + 10
theorem dc_ok {n : Int} {s : Src} (g : SrOk s) (h : s.pl ≤ 1000000000) : DcOk n s := by
  have a1 := pkS_pl s 2
  have b1 := sr_pick (n := 2) g (by omega)
  have a2 := pkS_pl (pkS s 2) 2
  have b2 := sr_pick (n := 2) b1 (by omega)
  have a3 := pkS_pl (pkS (pkS s 2) 2) (n + 1)
  have b3 := sr_pick (n := n + 1) b2 (by omega)
  have a4 := pkS_pl (pkS (pkS (pkS s 2) 2) (n + 1)) 2
  have b4 := sr_pick (n := 2) b3 (by omega)
  have a5 := pkS_pl (pkS (pkS (pkS (pkS s 2) 2) (n + 1)) 2) (n + 1)
  have b5 := sr_pick (n := n + 1) b4 (by omega)
  refine ⟨b1,by omega,b2,by omega,b3,by omega,b4,by omega,?_,?_⟩
  · unfold dcS; split
    · exact b5
    · exact b4
  · unfold dcS; split <;> omega
theorem dcF_ok {n : Int} : ∀ (k : Nat) (i : Int) (s : Src) (l : List Ins),SrOk s → s.pl + 10 * k ≤ 100000000 → SrOk (dcF n k i s l).2 ∧ (dcF n k i s l).2.pl ≤ s.pl + 10 * k ∧ (dcF n k i s l).1.length = l.length + k
  | 0,i,s,l,g,_ => ⟨g,by simp [dcF],rfl⟩
  | k + 1,i,s,l,g,h => by
    have d := dc_ok (n := n) g (by omega)
    have z := d.z
    have := dcF_ok (n := n) k (i + 1) (dcS n s) (l ++ [dcI n i s]) d.g (by omega)
    rw [dcF]
    refine ⟨this.1,by omega,?_⟩
    rw [this.2.2]; simp; omega
theorem among_ok (s : Src) (xs : List Int) (g : SrOk s) (h : s.pl ≤ 1000000000) (h0 : 1 ≤ (xs.length : Int)) (h1 : (xs.length : Int) ≤ 100) (hi : (pkV s xs.length).toNat < xs.length) : Does Tryz.prog 195 [.one (.gv 0),.one (shI xs)] [srB s] (.one (int (xs[(pkV s xs.length).toNat]'hi))) [srB (pkS s xs.length)] := by
  have b := pkV_bd (n := xs.length) g (by omega)
  refine does_of (k := 1) Tryz.func195 rfl Tryz.ntmps195 rfl rfl fun w F0 S0 ρ0 => ?_
  dsimp only [argT,argH]
  repeat' first|(apply p3;(first|exact pu1|exact puL|exact puN|exact a_len_str rfl (fT rfl)|exact puI);exact rfl)|refine cd ?_|(apply c4 0;exact callK0 (θ := [_]) (hD := (srcPick_ok s xs.length g (by omega) (by omega)));exact rfl;exact rfl;exact rfl;refine dM ?_)|((first|refine o_gs rfl rfl (fun hc => ?_) (fun hc => ?_)|refine g_cond rfl (fun hc => ?_) (fun hc => ?_)) <;> (try simp only [dcB] at hc) <;> (try first|contradiction|(exfalso;omega)))
  repeat refine cr ?_
  refine ends_id ?_
  refine endK [] (h2 := ?_) (h3 := ?_) (nd := ?_)
  all_goals (repeat' first|exact ce0|refine ce ?_|refine ce2 ?_ ?_|(refine Or.inr (bx_eq rfl rfl ?_);(try dsimp only [C.ren,C.ren.all]);(try exact rfl))|exact SVLe.refl|refine ceb ?_)
  all_goals first | exact (show nodupB _ = true from rfl) | exact Or.inr rfl | (rfl)
@[irreducible] def dtN (s : Src) : Int := 1 + pkV s 6
@[irreducible] def dtL (s : Src) : List Ins := (dcF (dtN s) (dtN s).toNat 0 (pkS s 6) []).1
@[irreducible] def dtS (s : Src) : Src := (dcF (dtN s) (dtN s).toNat 0 (pkS s 6) []).2
@[irreducible] def dtZ (s : Src) : Int := pkV (dtS s) 15
@[irreducible] def dtR (s : Src) : Int := [(2 : Int),-1,7].getD (pkV (pkS (dtS s) 15) 3).toNat 0
@[irreducible] def dtU (s : Src) : Int := [(-1 : Int),dtN s + 1].getD (pkV (pkS (dtS s) 15) 2).toNat 0
@[irreducible] def dtX (s : Src) : List Ins := if dtZ s = 0 then (match dtL s with | [] => [] | x :: l => ⟨x.k,dtR s,x.t,x.e⟩ :: l) else if dtZ s = 1 then (match dtL s with | [] => [] | x :: l => ⟨x.k,x.r,dtU s,x.e⟩ :: l) else dtL s
@[irreducible] def dtQ (s : Src) : Src := if dtZ s = 0 then pkS (pkS (dtS s) 15) 3 else if dtZ s = 1 then pkS (pkS (dtS s) 15) 2 else pkS (dtS s) 15
structure DtOk (s : Src) : Prop where
  g1 : SrOk (pkS s 6)
  z1 : (pkS s 6).pl ≤ s.pl + 2
  n : 1 ≤ dtN s ∧ dtN s ≤ 6
  g2 : SrOk (dtS s)
  z2 : (dtS s).pl ≤ s.pl + 70
  l : ((dtL s).length : Int) = dtN s
  g3 : SrOk (pkS (dtS s) 15)
  z3 : (pkS (dtS s) 15).pl ≤ s.pl + 72
  x : ((dtX s).length : Int) = dtN s
  gq : SrOk (dtQ s)
  zq : (dtQ s).pl ≤ s.pl + 80
theorem dt_ok {s : Src} (g : SrOk s) (h : s.pl ≤ 1000000) : DtOk s := by
  have a1 := pkS_pl s 6
  have b1 := sr_pick (n := 6) g (by omega)
  have v1 := pkV_bd (n := 6) g (by omega)
  have e1 : dtN s = 1 + pkV s 6 := by unfold dtN; rfl
  have hd := dcF_ok (n := dtN s) (dtN s).toNat 0 (pkS s 6) [] b1 (by omega)
  have e2 : (dcF (dtN s) (dtN s).toNat 0 (pkS s 6) []).1 = dtL s := by unfold dtL; rfl
  have e3 : (dcF (dtN s) (dtN s).toNat 0 (pkS s 6) []).2 = dtS s := by unfold dtS; rfl
  rw [e2,e3] at hd
  have a2 := pkS_pl (dtS s) 15
  have b2 := sr_pick (n := 15) hd.1 (by omega)
  have a3 := pkS_pl (pkS (dtS s) 15) 3
  have b3 := sr_pick (n := 3) b2 (by omega)
  have a4 := pkS_pl (pkS (dtS s) 15) 2
  have b4 := sr_pick (n := 2) b2 (by omega)
  have hl : ((dtL s).length : Int) = dtN s := by have := hd.2.2; simp only [List.length_nil] at this; omega
  refine ⟨b1,by omega,by omega,hd.1,by omega,hl,b2,by omega,?_,?_,?_⟩
  · unfold dtX
    split
    · cases hL : dtL s with
      | nil => rw [hL] at hl; exact hl
      | cons x l => rw [hL] at hl; exact hl
    · split
      · cases hL : dtL s with
        | nil => rw [hL] at hl; exact hl
        | cons x l => rw [hL] at hl; exact hl
      · exact hl
  · unfold dtQ; split
    · exact b3
    · split
      · exact b4
      · exact b2
  · unfold dtQ; split
    · omega
    · split <;> omega
end Go.Proofs.YtbblkhjjgnpbaaaGreatDoor
end
section
set_option linter.unusedVariables false
set_option linter.unusedSimpArgs false
set_option maxRecDepth 100000
set_option maxHeartbeats 1000000
namespace Go.Proofs.YtbblkhjjgnpbaaaGreatDoor
open Go Foot Go.RowKit
theorem preB172 {p : Prop} (h : p := by first | with_reducible assumption | omega | (simp only [List.length_append,List.length_cons,List.length_nil,List.length_set,List.length_replicate,List.length_take,List.length_drop,List.length_tail,List.length_dropLast,List.length_reverse] at *; omega) | exact mem_len (by assumption) (by omega) | (with_reducible refine Int.le_trans (Int.ofNat_le.2 (trimR_len _)) ?_; simp only [List.length_cons,List.length_tail]; omega) | (exact (ruAt_ok (by assumption) (by assumption) (by assumption)).2.1) | (exact (ruAt_ok (by assumption) (by assumption) (by assumption)).2.1) | (have := vMach_bd (by assumption); omega) | (simp only [mC_ch,mC_tu]; omega) | (have := vTag_bd (by assumption); omega) | (have := (‹Gd _ _›).le; omega) | (exact tgHalts_no (by assumption)) | (exact tgHead (by assumption) (by assumption) (by assumption)) | (exact Int.le_trans (tgStep_gd (by assumption) (by assumption) (by assumption) (by assumption)).le (by decide)) | (exact vTag_r (by assumption)) | (with_reducible refine Int.le_trans (Int.ofNat_le.2 (pushL_len _ _)) ?_; simp only [List.length_dropLast]; omega) | exact ls_at (by assumption) (by omega) | exact pt_gd (by assumption) | exact lv_at (by assumption) (by omega) | exact pt_gd (lv_at (by assumption) (by omega)) | exact (ask_ok (by assumption)).1 | exact (ask_ok (by assumption)).2.1 | exact (ask_ok (by assumption)).2.2.1 | exact (ask_ok (by assumption)).2.2.2 | trivial) : p := h
theorem among3_ok (s : Src) (a b c : Int) (g : SrOk s) (h : s.pl ≤ 1000000000) : Does Tryz.prog 195 [.one (.gv 0),.one (shI [a,b,c])] [srB s] (.one (int ([a,b,c].getD (pkV s 3).toNat 0))) [srB (pkS s 3)] := by
  have hb := pkV_bd (n := 3) g (by omega)
  have hi : (pkV s 3).toNat < [a,b,c].length := by show _ < 3; omega
  have q := among_ok s [a,b,c] g h (by simp) (by simp) hi
  have e : [a,b,c].getD (pkV s 3).toNat 0 = [a,b,c][(pkV s 3).toNat]'hi := by rw [List.getD_eq_getElem?_getD,List.getElem?_eq_getElem hi]; rfl
  rw [e]
  exact q
theorem among2_ok (s : Src) (a b : Int) (g : SrOk s) (h : s.pl ≤ 1000000000) : Does Tryz.prog 195 [.one (.gv 0),.one (shI [a,b])] [srB s] (.one (int ([a,b].getD (pkV s 2).toNat 0))) [srB (pkS s 2)] := by
  have hb := pkV_bd (n := 2) g (by omega)
  have hi : (pkV s 2).toNat < [a,b].length := by show _ < 2; omega
  have q := among_ok s [a,b] g h (by simp) (by simp) hi
  have e : [a,b].getD (pkV s 2).toNat 0 = [a,b][(pkV s 2).toNat]'hi := by rw [List.getD_eq_getElem?_getD,List.getElem?_eq_getElem hi]; rfl
  rw [e]
  exact q
theorem drawTwo_ok (s : Src) (g : SrOk s) (h : s.pl ≤ 1000000) : Does Tryz.prog 100 [.one (.gv 0)] [srB s] (.one (.gv 1)) [srB (dtQ s),roN (dtX s)] := by
  obtain ⟨gg1,z1,hn,gg2,z2,hl,gg3,z3,hx,hgq,hzq⟩ := dt_ok g h
  have e1 : 1 + pkV s 6 = dtN s := by unfold dtN; rfl
  refine does_of (k := 1) Tryz.func100 rfl Tryz.ntmps100 rfl rfl fun w F0 S0 ρ0 => ?_
  dsimp only [argT,argH]
  repeat' first|(apply n3;(exact a_litE eN [] rfl rfl rfl rfl rfl rfl rfl rfl);exact rfl;refine dA ?_)|(apply p3;(first|exact pu1|exact a_add rfl rfl (by omega) (by omega));exact rfl)|refine cd ?_|(apply c4 0;exact callK0 (θ := [_]) (hD := (srcPick_ok s 6 g (by omega) (by omega)));exact rfl;exact rfl;exact rfl;refine dM ?_)
  rw [e1]
  refine g_loop_id ?_
  refine loopK [0,2,3] [0,1] (fun y : Int × Src × List Ins => 0 ≤ y.1 ∧ y.1 ≤ dtN s ∧ SrOk y.2.1 ∧ y.2.1.pl ≤ (pkS s 6).pl + 10 * y.1 ∧ (y.2.2.length : Int) = y.1 ∧ dcF (dtN s) (dtN s - y.1).toNat y.1 y.2.1 y.2.2 = dcF (dtN s) (dtN s).toNat 0 (pkS s 6) []) (fun y => [(5,.one (int y.1)),(4,.one (.gv 1))]) (fun y => [(0,srB y.2.1),(1,roN y.2.2)]) (fun y => (dtN s - y.1).toNat) ((0 : Int),pkS s 6,([] : List Ins)) [0,1] (hI := ?_) (hr := ?_)
  · exact ⟨by simp,by dsimp only; omega,gg1,by simp,by simp,by simp⟩
  · rintro ⟨i,u,l⟩ ⟨k0,k00,k1,k2,k3,k4⟩
    dsimp only [List.cons_append,List.nil_append] at *
    skip
    repeat' first|(apply p3;(first|exact pu1|exact puC);exact rfl)|refine cdn ?_|refine g_reg (id := 4) ?_|((refine g_cond rfl (fun hc => ?_) (fun hc => ?_)) <;> (try simp only [dcB] at hc) <;> (try first|contradiction|(exfalso;omega)))
    · have d := dc_ok (n := dtN s) k1 (by omega)
      have y1 := d.z1
      have y2 := d.z2
      have y3 := d.z3
      have y4 := d.z4
      have y5 := d.z
      have hw1 := d.g1
      have hw2 := d.g2
      have hw3 := d.g3
      have hw4 := d.g4
      by_cases hO : pkV (pkS (pkS (pkS u 2) 2) (dtN s + 1)) 2 = 0
      · by_cases hK : pkV u 2 = 1
        · have eI : dcI (dtN s) i u = ⟨pkV u 2,pkV (pkS u 2) 2,min (dtN s) (i + 1),pkV (pkS (pkS (pkS (pkS u 2) 2) (dtN s + 1)) 2) (dtN s + 1)⟩ := by unfold dcI dcT dcE; rw [if_pos hO,if_pos hK]
          have eS : dcS (dtN s) u = pkS (pkS (pkS (pkS (pkS u 2) 2) (dtN s + 1)) 2) (dtN s + 1) := by unfold dcS; rw [if_pos hK]
          skip
          repeat' first|(apply n3;(exact a_new (gb := .bx _) rfl);exact rfl;refine dA ?_)|(apply p3;(first|exact pu1|exact puC|exact a_add rfl rfl (by omega) (by omega));exact rfl)|refine cdn ?_|refine g_reg (id := 6) ?_|refine g_reg (id := 7) ?_|refine g_reg (id := 8) ?_|refine g_reg (id := 9) ?_|refine g_reg (id := 10) ?_|(apply w3;(exact a_st_bx rfl rfl rfl rfl (fN rfl rfl) (Nat.le_of_ble_eq_true rfl) rfl);exact rfl;refine dS ?_)|(apply c4 0;exact callK0 (θ := [_]) (hD := (srcPick_ok _ _ preB172 preB172 preB172));exact rfl;exact rfl;exact rfl;refine dM ?_)|(apply c4 0;exact callK0 (θ := [_]) (hD := (srcOne_ok _ _ preB172 preB172 preB172));exact rfl;exact rfl;exact rfl;refine dM ?_)|(apply c4 0;exact callK1 (θ := []) (hD := (l00Min_ok _ _));exact rfl;exact rfl;exact rfl;refine dM ?_)|((refine g_cond rfl (fun hc => ?_) (fun hc => ?_)) <;> (try simp only [dcB] at hc) <;> (try first|contradiction|(exfalso;omega)))
          simp only [setRow,scC,List.map_cons,List.map_nil,List.set_cons_zero,List.set_cons_succ,Nat.zero_add,List.getElem?_cons_zero,List.getElem?_cons_succ,List.take_succ_cons,List.take_zero,List.drop_zero,List.cons_append,List.nil_append,List.drop_succ_cons,List.drop_nil,List.append_nil,List.append_eq]
          repeat' first|(apply n3;(exact a_litE eN [⟨_,_,_,_⟩] rfl rfl rfl rfl rfl rfl rfl rfl);exact rfl;refine dA ?_)|(apply p3;(first|exact pu1|exact a_add rfl rfl (by omega) (by omega));exact rfl)|refine cd ?_|(apply s3;exact a_appE (fP rfl) rfl rfl rfl rfl nowR (by (simp;omega)) (by decide) (by decide) (by exact rfl);exact rfl;exact rfl)
          refine q_again (i + 1,pkS (pkS (pkS (pkS (pkS u 2) 2) (dtN s + 1)) 2) (dtN s + 1),l ++ [⟨pkV u 2,pkV (pkS u 2) 2,min (dtN s) (i + 1),pkV (pkS (pkS (pkS (pkS u 2) 2) (dtN s + 1)) 2) (dtN s + 1)⟩]) [0,4] (by exact stk) ?_ ?_
          · dsimp only
            refine ⟨by omega,by omega,by rw [← eS]; exact d.g,by rw [← eS]; omega,by simp; omega,?_⟩
            rw [← k4,show (dtN s - i).toNat = (dtN s - (i + 1)).toNat + 1 by omega,dcF,eI,eS]
          · dsimp only; omega
        · have eI : dcI (dtN s) i u = ⟨pkV u 2,pkV (pkS u 2) 2,min (dtN s) (i + 1),0⟩ := by unfold dcI dcT dcE; rw [if_pos hO,if_neg hK]
          have eS : dcS (dtN s) u = pkS (pkS (pkS (pkS u 2) 2) (dtN s + 1)) 2 := by unfold dcS; rw [if_neg hK]
          repeat' first|(apply n3;(exact a_new (gb := .bx _) rfl);exact rfl;refine dA ?_)|(apply p3;(first|exact pu1|exact a_add rfl rfl (by omega) (by omega)|exact puC);exact rfl)|refine cdn ?_|refine g_reg (id := 6) ?_|refine g_reg (id := 7) ?_|refine g_reg (id := 8) ?_|refine g_reg (id := 9) ?_|(apply w3;(exact a_st_bx rfl rfl rfl rfl (fN rfl rfl) (Nat.le_of_ble_eq_true rfl) rfl);exact rfl;refine dS ?_)|(apply c4 0;exact callK0 (θ := [_]) (hD := (srcPick_ok _ _ preB172 preB172 preB172));exact rfl;exact rfl;exact rfl;refine dM ?_)|(apply c4 0;exact callK0 (θ := [_]) (hD := (srcOne_ok _ _ preB172 preB172 preB172));exact rfl;exact rfl;exact rfl;refine dM ?_)|(apply c4 0;exact callK1 (θ := []) (hD := (l00Min_ok _ _));exact rfl;exact rfl;exact rfl;refine dM ?_)|((refine g_cond rfl (fun hc => ?_) (fun hc => ?_)) <;> (try simp only [dcB] at hc) <;> (try first|contradiction|(exfalso;omega)))
          simp only [setRow,scC,List.map_cons,List.map_nil,List.set_cons_zero,List.set_cons_succ,Nat.zero_add,List.getElem?_cons_zero,List.getElem?_cons_succ,List.take_succ_cons,List.take_zero,List.drop_zero,List.cons_append,List.nil_append,List.drop_succ_cons,List.drop_nil,List.append_nil,List.append_eq]
          repeat' first|(apply n3;(exact a_litE eN [⟨_,_,_,_⟩] rfl rfl rfl rfl rfl rfl rfl rfl);exact rfl;refine dA ?_)|(apply p3;(first|exact pu1|exact a_add rfl rfl (by omega) (by omega));exact rfl)|refine cd ?_|(apply s3;exact a_appE (fP rfl) rfl rfl rfl rfl nowR (by (simp;omega)) (by decide) (by decide) (by exact rfl);exact rfl;exact rfl)
          refine q_again (i + 1,pkS (pkS (pkS (pkS u 2) 2) (dtN s + 1)) 2,l ++ [⟨pkV u 2,pkV (pkS u 2) 2,min (dtN s) (i + 1),0⟩]) [0,4] (by exact stk) ?_ ?_
          · dsimp only
            refine ⟨by omega,by omega,by rw [← eS]; exact d.g,by rw [← eS]; omega,by simp; omega,?_⟩
            rw [← k4,show (dtN s - i).toNat = (dtN s - (i + 1)).toNat + 1 by omega,dcF,eI,eS]
          · dsimp only; omega
      · by_cases hK : pkV u 2 = 1
        · have eI : dcI (dtN s) i u = ⟨pkV u 2,pkV (pkS u 2) 2,pkV (pkS (pkS u 2) 2) (dtN s + 1),pkV (pkS (pkS (pkS (pkS u 2) 2) (dtN s + 1)) 2) (dtN s + 1)⟩ := by unfold dcI dcT dcE; rw [if_neg hO,if_pos hK]
          have eS : dcS (dtN s) u = pkS (pkS (pkS (pkS (pkS u 2) 2) (dtN s + 1)) 2) (dtN s + 1) := by unfold dcS; rw [if_pos hK]
          repeat' first|(apply n3;(exact a_new (gb := .bx _) rfl);exact rfl;refine dA ?_)|(apply p3;(first|exact pu1|exact a_add rfl rfl (by omega) (by omega)|exact puC);exact rfl)|refine cdn ?_|refine g_reg (id := 6) ?_|refine g_reg (id := 7) ?_|refine g_reg (id := 9) ?_|refine g_reg (id := 10) ?_|(apply w3;(exact a_st_bx rfl rfl rfl rfl (fN rfl rfl) (Nat.le_of_ble_eq_true rfl) rfl);exact rfl;refine dS ?_)|(apply c4 0;exact callK0 (θ := [_]) (hD := (srcPick_ok _ _ preB172 preB172 preB172));exact rfl;exact rfl;exact rfl;refine dM ?_)|(apply c4 0;exact callK0 (θ := [_]) (hD := (srcOne_ok _ _ preB172 preB172 preB172));exact rfl;exact rfl;exact rfl;refine dM ?_)|((refine g_cond rfl (fun hc => ?_) (fun hc => ?_)) <;> (try simp only [dcB] at hc) <;> (try first|contradiction|(exfalso;omega)))
          simp only [setRow,scC,List.map_cons,List.map_nil,List.set_cons_zero,List.set_cons_succ,Nat.zero_add,List.getElem?_cons_zero,List.getElem?_cons_succ,List.take_succ_cons,List.take_zero,List.drop_zero,List.cons_append,List.nil_append,List.drop_succ_cons,List.drop_nil,List.append_nil,List.append_eq]
          repeat' first|(apply n3;(exact a_litE eN [⟨_,_,_,_⟩] rfl rfl rfl rfl rfl rfl rfl rfl);exact rfl;refine dA ?_)|(apply p3;(first|exact pu1|exact a_add rfl rfl (by omega) (by omega));exact rfl)|refine cd ?_|(apply s3;exact a_appE (fP rfl) rfl rfl rfl rfl nowR (by (simp;omega)) (by decide) (by decide) (by exact rfl);exact rfl;exact rfl)
          refine q_again (i + 1,pkS (pkS (pkS (pkS (pkS u 2) 2) (dtN s + 1)) 2) (dtN s + 1),l ++ [⟨pkV u 2,pkV (pkS u 2) 2,pkV (pkS (pkS u 2) 2) (dtN s + 1),pkV (pkS (pkS (pkS (pkS u 2) 2) (dtN s + 1)) 2) (dtN s + 1)⟩]) [0,4] (by exact stk) ?_ ?_
          · dsimp only
            refine ⟨by omega,by omega,by rw [← eS]; exact d.g,by rw [← eS]; omega,by simp; omega,?_⟩
            rw [← k4,show (dtN s - i).toNat = (dtN s - (i + 1)).toNat + 1 by omega,dcF,eI,eS]
          · dsimp only; omega
        · have eI : dcI (dtN s) i u = ⟨pkV u 2,pkV (pkS u 2) 2,pkV (pkS (pkS u 2) 2) (dtN s + 1),0⟩ := by unfold dcI dcT dcE; rw [if_neg hO,if_neg hK]
          have eS : dcS (dtN s) u = pkS (pkS (pkS (pkS u 2) 2) (dtN s + 1)) 2 := by unfold dcS; rw [if_neg hK]
          repeat' first|(apply n3;(exact a_new (gb := .bx _) rfl);exact rfl;refine dA ?_)|(apply p3;(first|exact pu1|exact a_add rfl rfl (by omega) (by omega)|exact puC);exact rfl)|refine cdn ?_|refine g_reg (id := 6) ?_|refine g_reg (id := 7) ?_|refine g_reg (id := 9) ?_|(apply w3;(exact a_st_bx rfl rfl rfl rfl (fN rfl rfl) (Nat.le_of_ble_eq_true rfl) rfl);exact rfl;refine dS ?_)|(apply c4 0;exact callK0 (θ := [_]) (hD := (srcPick_ok _ _ preB172 preB172 preB172));exact rfl;exact rfl;exact rfl;refine dM ?_)|(apply c4 0;exact callK0 (θ := [_]) (hD := (srcOne_ok _ _ preB172 preB172 preB172));exact rfl;exact rfl;exact rfl;refine dM ?_)|((refine g_cond rfl (fun hc => ?_) (fun hc => ?_)) <;> (try simp only [dcB] at hc) <;> (try first|contradiction|(exfalso;omega)))
          simp only [setRow,scC,List.map_cons,List.map_nil,List.set_cons_zero,List.set_cons_succ,Nat.zero_add,List.getElem?_cons_zero,List.getElem?_cons_succ,List.take_succ_cons,List.take_zero,List.drop_zero,List.cons_append,List.nil_append,List.drop_succ_cons,List.drop_nil,List.append_nil,List.append_eq]
          repeat' first|(apply n3;(exact a_litE eN [⟨_,_,_,_⟩] rfl rfl rfl rfl rfl rfl rfl rfl);exact rfl;refine dA ?_)|(apply p3;(first|exact pu1|exact a_add rfl rfl (by omega) (by omega));exact rfl)|refine cd ?_|(apply s3;exact a_appE (fP rfl) rfl rfl rfl rfl nowR (by (simp;omega)) (by decide) (by decide) (by exact rfl);exact rfl;exact rfl)
          refine q_again (i + 1,pkS (pkS (pkS (pkS u 2) 2) (dtN s + 1)) 2,l ++ [⟨pkV u 2,pkV (pkS u 2) 2,pkV (pkS (pkS u 2) 2) (dtN s + 1),0⟩]) [0,4] (by exact stk) ?_ ?_
          · dsimp only
            refine ⟨by omega,by omega,by rw [← eS]; exact d.g,by rw [← eS]; omega,by simp; omega,?_⟩
            rw [← k4,show (dtN s - i).toNat = (dtN s - (i + 1)).toNat + 1 by omega,dcF,eI,eS]
          · dsimp only; omega
    · have v0 : (dtN s - i).toNat = 0 := by omega
      rw [v0,dcF] at k4
      have x1 := congrArg Prod.fst k4
      have x2 := congrArg Prod.snd k4
      dsimp only at x1 x2
      have e3 : (dcF (dtN s) (dtN s).toNat 0 (pkS s 6) []).1 = dtL s := by unfold dtL; rfl
      have e4 : (dcF (dtN s) (dtN s).toNat 0 (pkS s 6) []).2 = dtS s := by unfold dtS; rfl
      rw [e3] at x1
      rw [e4] at x2
      subst x1
      subst x2
      repeat' first|(apply p3;(exact pu1);exact rfl)|refine cdn ?_|refine g_reg (id := 12) ?_|(apply c4 0;exact callK0 (θ := [_]) (hD := (srcPick_ok (dtS s) 15 gg2 (by omega) (by omega)));exact rfl;exact rfl;exact rfl;refine dM ?_)
      have eZ : dtZ s = pkV (dtS s) 15 := by unfold dtZ; rfl
      have hln : 0 < (dtL s).length := by omega
      cases hL : dtL s with
      | nil => rw [hL] at hln; simp at hln
      | cons x r =>
        by_cases hz0 : pkV (dtS s) 15 = 0
        · have eX : dtX s = ⟨x.k,[(2 : Int),-1,7].getD (pkV (pkS (dtS s) 15) 3).toNat 0,x.t,x.e⟩ :: r := by unfold dtX; rw [eZ,if_pos hz0,hL]; unfold dtR; rfl
          have eQ : dtQ s = pkS (pkS (dtS s) 15) 3 := by unfold dtQ; rw [eZ,if_pos hz0]
          rw [eX,eQ]
          repeat' first|(apply p3;exact a_litF (dst := some 50) eI [_,_,_] rfl rfl rfl rfl rfl rfl rfl rfl nowR;exact rfl)|(apply p3;(first|exact pu1|exact puC|exact puI);exact rfl)|refine cd ?_|(apply w3;(exact a_stF (E := eN) ⟨_,_,_,_⟩ rfl rfl rfl rfl (fN rfl rfl) (Nat.le_of_ble_eq_true rfl) (Nat.le_of_ble_eq_true rfl) (by first|exact List.getElem?_set_self bnd|exact List.getElem?_eq_getElem bnd) (by (try dsimp only [setRow,List.set_cons_succ,List.set_cons_zero]);first|done|exact rfl) rfl);exact rfl;refine dS ?_)|(apply c4 0;exact callK0 (θ := [_]) (hD := (among3_ok (pkS (dtS s) 15) 2 (-1) 7 gg3 (by omega)));exact rfl;exact rfl;exact rfl;refine dM ?_)|((refine g_cond rfl (fun hc => ?_) (fun hc => ?_)) <;> (try simp only [dcB] at hc) <;> (try first|contradiction|(exfalso;omega)))
          repeat refine cr ?_
          refine ends_id ?_
          refine endK [?_] (h2 := ?_) (h3 := ?_) (nd := ?_)
          rotate_left 1
          all_goals (repeat' first|exact ce0|refine ce ?_|refine ce2 ?_ ?_|(refine Or.inr (bx_eq rfl rfl ?_);(try dsimp only [C.ren,C.ren.all]);(try exact rfl))|exact SVLe.refl|refine ceb ?_)
          all_goals first | exact (show nodupB _ = true from rfl) | exact Or.inr rfl | (rfl)
        · by_cases hz1 : pkV (dtS s) 15 = 1
          · have eX : dtX s = ⟨x.k,x.r,[(-1 : Int),dtN s + 1].getD (pkV (pkS (dtS s) 15) 2).toNat 0,x.e⟩ :: r := by unfold dtX; rw [eZ,if_neg hz0,if_pos hz1,hL]; unfold dtU; rfl
            have eQ : dtQ s = pkS (pkS (dtS s) 15) 2 := by unfold dtQ; rw [eZ,if_neg hz0,if_pos hz1]
            rw [eX,eQ]
            repeat' first|(apply p3;exact a_litF (dst := some 60) eI [_,_] rfl rfl rfl rfl rfl rfl rfl rfl nowR;exact rfl)|(apply p3;(first|exact pu1|exact a_add rfl rfl (by omega) (by omega)|exact puC|exact puI);exact rfl)|refine cd ?_|(apply w3;(exact a_stF (E := eN) ⟨_,_,_,_⟩ rfl rfl rfl rfl (fN rfl rfl) (Nat.le_of_ble_eq_true rfl) (Nat.le_of_ble_eq_true rfl) (by first|exact List.getElem?_set_self bnd|exact List.getElem?_eq_getElem bnd) (by (try dsimp only [setRow,List.set_cons_succ,List.set_cons_zero]);first|done|exact rfl) rfl);exact rfl;refine dS ?_)|(apply c4 0;exact callK0 (θ := [_]) (hD := (among2_ok (pkS (dtS s) 15) (-1) (dtN s + 1) gg3 (by omega)));exact rfl;exact rfl;exact rfl;refine dM ?_)|((refine g_cond rfl (fun hc => ?_) (fun hc => ?_)) <;> (try simp only [dcB] at hc) <;> (try first|contradiction|(exfalso;omega)))
            repeat refine cr ?_
            refine ends_id ?_
            refine endK [?_] (h2 := ?_) (h3 := ?_) (nd := ?_)
            rotate_left 1
            all_goals (repeat' first|exact ce0|refine ce ?_|refine ce2 ?_ ?_|(refine Or.inr (bx_eq rfl rfl ?_);(try dsimp only [C.ren,C.ren.all]);(try exact rfl))|exact SVLe.refl|refine ceb ?_)
            all_goals first | exact (show nodupB _ = true from rfl) | exact Or.inr rfl | (rfl)
          · have eX : dtX s = x :: r := by unfold dtX; rw [eZ,if_neg hz0,if_neg hz1,hL]
            have eQ : dtQ s = pkS (dtS s) 15 := by unfold dtQ; rw [eZ,if_neg hz0,if_neg hz1]
            rw [eX,eQ]
            repeat' first|(apply p3;(first|exact pu1|exact puC);exact rfl)|refine cd ?_|((refine g_cond rfl (fun hc => ?_) (fun hc => ?_)) <;> (try simp only [dcB] at hc) <;> (try first|contradiction|(exfalso;omega)))
            repeat refine cr ?_
            refine ends_id ?_
            refine endK [?_] (h2 := ?_) (h3 := ?_) (nd := ?_)
            rotate_left 1
            all_goals (repeat' first|exact ce0|refine ce ?_|refine ce2 ?_ ?_|(refine Or.inr (bx_eq rfl rfl ?_);(try dsimp only [C.ren,C.ren.all]);(try exact rfl))|exact SVLe.refl|refine ceb ?_)
            all_goals first | exact (show nodupB _ = true from rfl) | exact Or.inr rfl | (rfl)
end Go.Proofs.YtbblkhjjgnpbaaaGreatDoor
end
section
set_option linter.unusedVariables false
set_option linter.unusedSimpArgs false
set_option maxRecDepth 100000
set_option maxHeartbeats 1000000
namespace Go.Proofs.YtbblkhjjgnpbaaaGreatDoor
open Go Foot Go.RowKit
structure PgOk (p : List Ins) : Prop where
  n : 1 ≤ (p.length : Int) ∧ (p.length : Int) ≤ 6
  v1 : vI1 p = true
  v2 : ∀ x ∈ p,x.r ≤ 1
theorem pg_at {p : List Ins} (g : PgOk p) {x : Ins} (h : x ∈ p) : (x.r = 0 ∨ x.r = 1) ∧ (0 ≤ x.t ∧ x.t ≤ p.length) ∧ ((x.k = 0 ∧ x.e = 0) ∨ (x.k = 1 ∧ 0 ≤ x.e ∧ x.e ≤ p.length)) := by
  have h1 := g.v1
  unfold vI1 at h1
  have h2 := okNs_iff.1 (List.all_eq_true.1 h1 x h)
  have h3 := g.v2 x h
  omega
@[irreducible] def cdP (s : Src) : List Ins := bif vI2 (dtX s) then dtX s else [⟨1,0,0,1⟩]
@[irreducible] def cdA (s : Src) : Int := pkV (dtQ s) ((cdP s).length + 1)
@[irreducible] def cdX (s : Src) : Int := pkV (pkS (dtQ s) ((cdP s).length + 1)) 5
@[irreducible] def cdY (s : Src) : Int := pkV (pkS (pkS (dtQ s) ((cdP s).length + 1)) 5) 5
theorem cdP_ok {s : Src} (g : SrOk s) (h : s.pl ≤ 1000000) : PgOk (cdP s) := by
  have d := dt_ok g h
  have dn := d.n
  have dx := d.x
  unfold cdP
  cases hv : vI2 (dtX s) with
  | true =>
    rw [cond_true]
    unfold vI2 at hv
    obtain ⟨h1,h2⟩ := Bool.and_eq_true_iff.1 hv
    exact ⟨by omega,h1,fun x hx => by have := List.all_eq_true.1 h2 x hx; simpa using this⟩
  | false =>
    rw [cond_false]
    refine ⟨by simp,?_,fun x hx => by rw [List.mem_singleton.1 hx]; decide⟩
    unfold vI1
    rw [List.all_eq_true]
    intro x hx
    rw [List.mem_singleton.1 hx]
    exact okNs_iff.2 (by simp)
structure CdOk (s : Src) : Prop where
  p : PgOk (cdP s)
  a : 0 ≤ cdA s ∧ cdA s ≤ (cdP s).length
  x : 0 ≤ cdX s ∧ cdX s ≤ 4
  y : 0 ≤ cdY s ∧ cdY s ≤ 4
theorem cd_ok {s : Src} (g : SrOk s) (h : s.pl ≤ 1000000) : CdOk s := by
  have d := dt_ok g h
  have gp := cdP_ok g h
  have n := gp.n
  have gq := d.gq
  have zq := d.zq
  have b1 := pkV_bd (n := (cdP s).length + 1) gq (by omega)
  have c1 := pkS_pl (dtQ s) ((cdP s).length + 1)
  have d1 := sr_pick (n := (cdP s).length + 1) gq (by omega)
  have b2 := pkV_bd (n := 5) d1 (by omega)
  have c2 := pkS_pl (pkS (dtQ s) ((cdP s).length + 1)) 5
  have d2 := sr_pick (n := 5) d1 (by omega)
  have b3 := pkV_bd (n := 5) d2 (by omega)
  exact ⟨gp,by unfold cdA; omega,by unfold cdX; omega,by unfold cdY; omega⟩
theorem preB173 {p : Prop} (h : p := by first | with_reducible assumption | omega | (simp only [List.length_append,List.length_cons,List.length_nil,List.length_set,List.length_replicate,List.length_take,List.length_drop,List.length_tail,List.length_dropLast,List.length_reverse] at *; omega) | exact mem_len (by assumption) (by omega) | (with_reducible refine Int.le_trans (Int.ofNat_le.2 (trimR_len _)) ?_; simp only [List.length_cons,List.length_tail]; omega) | (exact (ruAt_ok (by assumption) (by assumption) (by assumption)).2.1) | (exact (ruAt_ok (by assumption) (by assumption) (by assumption)).2.1) | (have := vMach_bd (by assumption); omega) | (simp only [mC_ch,mC_tu]; omega) | (have := vTag_bd (by assumption); omega) | (have := (‹Gd _ _›).le; omega) | (exact tgHalts_no (by assumption)) | (exact tgHead (by assumption) (by assumption) (by assumption)) | (exact Int.le_trans (tgStep_gd (by assumption) (by assumption) (by assumption) (by assumption)).le (by decide)) | (exact vTag_r (by assumption)) | (with_reducible refine Int.le_trans (Int.ofNat_le.2 (pushL_len _ _)) ?_; simp only [List.length_dropLast]; omega) | exact ls_at (by assumption) (by omega) | exact pt_gd (by assumption) | exact lv_at (by assumption) (by omega) | exact pt_gd (lv_at (by assumption) (by omega)) | exact (ask_ok (by assumption)).1 | exact (ask_ok (by assumption)).2.1 | exact (ask_ok (by assumption)).2.2.1 | exact (ask_ok (by assumption)).2.2.2 | trivial) : p := h
theorem B10Counters_ok (l : List Int) (g : SrOk ⟨l,0,0⟩) : Does Tryz.prog 27 [.one (shY l)] [] (.tup [(false,[.gv 0]),(true,[int (cdA ⟨l,0,0⟩),int (cdX ⟨l,0,0⟩),int (cdY ⟨l,0,0⟩)])]) [roN (cdP ⟨l,0,0⟩)] := by
  have d := dt_ok g (by dsimp only; omega)
  have dn := d.n
  have dx := d.x
  have gq := d.gq
  have zq := d.zq
  dsimp only at zq
  have gp := (cdP_ok g (by dsimp only; omega)).n
  have c1 := pkS_pl (dtQ ⟨l,0,0⟩) ((cdP ⟨l,0,0⟩).length + 1)
  have d1 := sr_pick (n := (cdP ⟨l,0,0⟩).length + 1) gq (by omega)
  have c2 := pkS_pl (pkS (dtQ ⟨l,0,0⟩) ((cdP ⟨l,0,0⟩).length + 1)) 5
  have d2 := sr_pick (n := 5) d1 (by omega)
  have e1 : cdA ⟨l,0,0⟩ = pkV (dtQ ⟨l,0,0⟩) ((cdP ⟨l,0,0⟩).length + 1) := by unfold cdA; rfl
  have e2 : cdX ⟨l,0,0⟩ = pkV (pkS (dtQ ⟨l,0,0⟩) ((cdP ⟨l,0,0⟩).length + 1)) 5 := by unfold cdX; rfl
  have e3 : cdY ⟨l,0,0⟩ = pkV (pkS (pkS (dtQ ⟨l,0,0⟩) ((cdP ⟨l,0,0⟩).length + 1)) 5) 5 := by unfold cdY; rfl
  rw [e1,e2,e3]
  cases hv : vI2 (dtX ⟨l,0,0⟩) with
  | true =>
    have eP : cdP ⟨l,0,0⟩ = dtX ⟨l,0,0⟩ := by unfold cdP; rw [hv]; rfl
    rw [eP] at c1 d1 c2 d2 gp ⊢
    refine does_of (k := 0) Tryz.func27 rfl Tryz.ntmps27 rfl rfl fun w F0 S0 ρ0 => ?_
    dsimp only [argT,argH]
    repeat' first|(apply n3;exact a_nilO eN rfl;exact rfl)|(apply n3;exact a_new (gb := .bx _) rfl;exact rfl;refine dA ?_)|(apply p3;exact pu1;exact rfl)|refine cd ?_|(apply c4 1;exact callK0 (θ := []) (hD := (srcFrom_ok _));exact rfl;exact rfl;exact rfl;refine dM ?_)|(apply c4 1;exact callK0 (θ := [_]) (hD := (drawTwo_ok ⟨l,0,0⟩ g (by dsimp only;omega)));exact rfl;exact rfl;exact rfl;refine dM ?_)|(apply c4 0;exact callK1 (θ := []) (hD := (l08Two_ok _ preB173));exact rfl;exact rfl;exact rfl;refine dM ?_)
    simp only [hv]
    repeat' first|(apply p3;(first|exact pu1|exact puN|exact a_add rfl rfl (by omega) (by omega));exact rfl)|refine cd ?_|(apply w3;exact a_st_bx rfl rfl rfl rfl (fN rfl rfl) (Nat.le_of_ble_eq_true rfl) rfl;exact rfl;refine dS ?_)|(apply c4 0;exact callK0 (θ := [_]) (hD := (srcPick_ok _ _ preB173 preB173 preB173));exact rfl;exact rfl;exact rfl;refine dM ?_)
    simp only [setRow,scC,List.map_cons,List.map_nil,List.set_cons_zero,List.set_cons_succ,Nat.zero_add,List.getElem?_cons_zero,List.getElem?_cons_succ,List.take_succ_cons,List.take_zero,List.drop_zero,List.cons_append,List.nil_append,List.drop_succ_cons,List.drop_nil,List.append_nil,List.append_eq]
    repeat refine cr ?_
    refine ends_id ?_
    refine endK [?_] (h2 := ?_) (h3 := ?_) (nd := ?_)
    rotate_left 1
    all_goals (repeat' first|exact ce0|refine ce ?_|refine ce2 ?_ ?_|(refine Or.inr (bx_eq rfl rfl ?_);(try dsimp only [C.ren,C.ren.all]);(try exact rfl))|exact SVLe.refl|refine ceb ?_)
    all_goals first | exact (show nodupB _ = true from rfl) | exact Or.inr rfl | (rfl)
  | false =>
    have eP : cdP ⟨l,0,0⟩ = [⟨1,0,0,1⟩] := by unfold cdP; rw [hv]; rfl
    rw [eP] at c1 d1 c2 d2 gp ⊢
    refine does_of (k := 0) Tryz.func27 rfl Tryz.ntmps27 rfl rfl fun w F0 S0 ρ0 => ?_
    dsimp only [argT,argH]
    repeat' first|(apply n3;exact a_nilO eN rfl;exact rfl)|(apply n3;exact a_new (gb := .bx _) rfl;exact rfl;refine dA ?_)|(apply p3;exact pu1;exact rfl)|refine cd ?_|(apply c4 1;exact callK0 (θ := []) (hD := (srcFrom_ok _));exact rfl;exact rfl;exact rfl;refine dM ?_)|(apply c4 1;exact callK0 (θ := [_]) (hD := (drawTwo_ok ⟨l,0,0⟩ g (by dsimp only;omega)));exact rfl;exact rfl;exact rfl;refine dM ?_)|(apply c4 0;exact callK1 (θ := []) (hD := (l08Two_ok _ preB173));exact rfl;exact rfl;exact rfl;refine dM ?_)
    simp only [hv]
    repeat' first|(apply n3;(exact a_litE eN [⟨_,_,_,_⟩] rfl rfl rfl rfl rfl rfl rfl rfl);exact rfl;refine dA ?_)|(apply p3;(first|exact pu1|exact puN|exact a_add rfl rfl (by omega) (by omega));exact rfl)|refine cd ?_|(apply w3;exact a_st_bx rfl rfl rfl rfl (fN rfl rfl) (Nat.le_of_ble_eq_true rfl) rfl;exact rfl;refine dS ?_)|(apply c4 0;exact callK0 (θ := [_]) (hD := (srcPick_ok _ _ preB173 preB173 preB173));exact rfl;exact rfl;exact rfl;refine dM ?_)
    simp only [setRow,scC,List.map_cons,List.map_nil,List.set_cons_zero,List.set_cons_succ,Nat.zero_add,List.getElem?_cons_zero,List.getElem?_cons_succ,List.take_succ_cons,List.take_zero,List.drop_zero,List.cons_append,List.nil_append,List.drop_succ_cons,List.drop_nil,List.append_nil,List.append_eq]
    repeat refine cr ?_
    refine ends_id ?_
    refine endK [?_] (h2 := ?_) (h3 := ?_) (nd := ?_)
    rotate_left 1
    all_goals (repeat' first|exact ce0|refine ce ?_|refine ce2 ?_ ?_|(refine Or.inr (bx_eq rfl rfl ?_);(try dsimp only [C.ren,C.ren.all]);(try exact rfl))|exact SVLe.refl|refine ceb ?_)
    all_goals first | exact (show nodupB _ = true from rfl) | exact Or.inr rfl | (rfl)
theorem isRegister_ok (n : Int) : Does Tryz.prog 306 [.one (int n)] [] (.one (boo (inB n 0 23))) [] := by
  refine does_of (k := 0) Tryz.func306 rfl Tryz.ntmps306 rfl rfl fun w F0 S0 ρ0 => ?_
  dsimp only [argT,argH]
  repeat' first|(apply p3;exact pu1;exact rfl)|refine cd ?_|(apply c4 0;exact callK1 (θ := []) (hD := (within_ok _ _ _));exact rfl;exact rfl;exact rfl;refine dM ?_)
  repeat refine cr ?_
  refine ends_id ?_
  refine endK [] (h2 := ?_) (h3 := ?_) (nd := ?_)
  all_goals (repeat' first|exact ce0|refine ce ?_|refine ce2 ?_ ?_|exact SVLe.refl|refine ceb ?_)
  all_goals first | exact (show nodupB _ = true from rfl) | exact Or.inr rfl | (rfl)
theorem validInstr_ok (x : Ins) (n : Int) (h0 : 0 ≤ n) (h1 : n ≤ 1000) : Does Tryz.prog 201 [.agg (inC x),.one (int n)] [] (.one (boo (okNs n x))) [] := by
  refine does_of (k := 0) Tryz.func201 rfl Tryz.ntmps201 rfl rfl fun w F0 S0 ρ0 => ?_
  dsimp only [argT,argH]
  repeat' first|(apply n3;exact a_new (gb := .bx _) rfl;exact rfl;refine dA ?_)|(apply p3;(first|exact pu1|exact puC);exact rfl)|refine cd ?_|(apply c4 0;exact callK1 (θ := []) (hD := (isRegister_ok _));exact rfl;exact rfl;exact rfl;refine dM ?_)|(apply c4 0;exact callK1 (θ := []) (hD := (within_ok _ _ _));exact rfl;exact rfl;exact rfl;refine dM ?_)|refine o_no rfl rfl rfl rfl ?_|(apply py3;exact rfl;exact rfl;(exact pu1);exact rfl;exact rfl)|(apply cy4 0;exact rfl;exact rfl;exact callK1 (θ := []) (hD := (within_ok _ _ _));exact rfl;exact rfl;exact rfl;exact rfl;refine dM ?_)|((first|refine o_gs rfl rfl (fun hc => ?_) (fun hc => ?_)|refine g_cond rfl (fun hc => ?_) (fun hc => ?_)) <;> (try simp only [dcB] at hc) <;> (try first|contradiction|(exfalso;omega)))
  all_goals
    repeat refine cr ?_
    refine ends_id ?_
    refine endK [] (h2 := ?_) (h3 := ?_) (nd := ?_)
    all_goals (repeat' first|exact ce0|refine ce ?_|refine ce2 ?_ ?_|exact SVLe.refl|refine ceb ?_)
    all_goals first | exact (show nodupB _ = true from rfl) | exact Or.inr rfl | ((unfold okNs; first | (simp [*]; done) | (rw [decide_eq_false] <;> first | rfl | omega | (simp; done)) | (rw [decide_eq_true] <;> first | rfl | omega | (simp [*]; done)) | (simp_all; done) | (simp_all; omega)))
theorem sizeN_ok (xs : List Ins) (hx : (xs.length : Int) ≤ 16777216) : Does Tryz.prog 198 [.one (shN xs)] [] (.one (int xs.length)) [] := by
  refine does_of (k := 0) Tryz.func198 rfl Tryz.ntmps198 rfl rfl fun w F0 S0 ρ0 => ?_
  dsimp only [argT,argH]
  repeat' first|(apply p3;(first|exact pu1|exact puN);exact rfl)|refine cd ?_
  repeat refine cr ?_
  refine ends_id ?_
  refine endK [] (h2 := ?_) (h3 := ?_) (nd := ?_)
  all_goals (repeat' first|exact ce0|refine ce ?_|refine ce2 ?_ ?_|exact SVLe.refl|refine ceb ?_)
  all_goals first | exact (show nodupB _ = true from rfl) | exact Or.inr rfl | (rfl)
theorem validP1_ok (p : List Ins) (x : Ins) (hp : (p.length : Int) ≤ 1000) : Does Tryz.prog 200 [.agg (inC x),.one (.d (.bx false [.sl false 4 (rows eN p)]))] [] (.one (boo (!okNs p.length x))) [] := by
  refine does_of (k := 0) Tryz.func200 rfl Tryz.ntmps200 rfl rfl fun w F0 S0 ρ0 => ?_
  dsimp only [argT,argH]
  repeat' first|(apply n3;exact a_new (gb := .bx _) rfl;exact rfl;refine dA ?_)|(apply p3;exact a_pure (sv := .one _) rfl;exact rfl)|refine cd ?_|(apply g_drN (id := 1) okM [[],[],[1],[0,1,2],[0,1,2,3],[0,1,2,3,4]] [([],[]),([],[]),([],[]),([],[]),([],[]),([],[])] 0;(focus (refine dp 0 0 [5,6] [] puL ?_;refine dp 1 0 [4] [] puL ?_;refine dp 2 1 [4] [] (callD1 (n := _) 0 (θ := []) (hD := (sizeN_ok _ preB173))) ?_;refine dp 3 7 [] [] (callD1 (n := _) 0 (θ := []) (hD := (validInstr_ok _ _ preB173 preB173))) ?_;refine dp 4 15 [] [] (a_pure (sv := .one _) rfl) ?_;refine dp 5 31 [] [] pu1 ?_;(refine d_nil ?_;refine dN ?_)));any_goals kernel_rfl)
  repeat refine cr ?_
  refine ends_id ?_
  refine endK [] (h2 := ?_) (h3 := ?_) (nd := ?_)
  all_goals (repeat' first|exact ce0|refine ce ?_|refine ce2 ?_ ?_|exact SVLe.refl|refine ceb ?_)
  all_goals first | exact (show nodupB _ = true from rfl) | exact Or.inr rfl | (rfl)
theorem twoC1_ok (x : Ins) : Does Tryz.prog 108 [.agg (inC x)] [] (.one (boo (decide (x.r > 1)))) [] := by
  refine does_of (k := 0) Tryz.func108 rfl Tryz.ntmps108 rfl rfl fun w F0 S0 ρ0 => ?_
  dsimp only [argT,argH]
  repeat' first|(apply n3;exact a_new (gb := .bx _) rfl;exact rfl;refine dA ?_)|(apply p3;(first|exact pu1|exact puC);exact rfl)|refine cd ?_
  repeat refine cr ?_
  refine ends_id ?_
  refine endK [] (h2 := ?_) (h3 := ?_) (nd := ?_)
  all_goals (repeat' first|exact ce0|refine ce ?_|refine ce2 ?_ ?_|exact SVLe.refl|refine ceb ?_)
  all_goals first | exact (show nodupB _ = true from rfl) | exact Or.inr rfl | (rfl)
theorem idxN1_ok (xs : List Ins) (k : Nat) (d : D) (p : Ins → Bool) (hx : (xs.length : Int) ≤ 16777216) (hE : entB Tryz.prog k = true) (hp : ∀ r,Does Tryz.prog k [.agg (inC r),.one (.d d)] [] (.one (boo (p r))) []) : Does Tryz.prog 202 [.one (shN xs),.one (.d (.fn (.func k) [d]))] [] (.one (int (idxF p xs))) [] := by
  refine does_of (k := 0) Tryz.func202 rfl Tryz.ntmps202 rfl rfl fun w F0 S0 ρ0 => ?_
  dsimp only [argT,argH]
  repeat' first|(apply p3;(first|exact pu1|exact puN);exact rfl)|refine cd ?_
  refine g_loop_id ?_
  refine loopK [0,1,4,7] [] (fun i : Int => 0 ≤ i ∧ i ≤ xs.length ∧ (xs.take i.toNat).all (fun x => !p x) = true) (fun i => [(8,.one (int i))]) (fun _ => []) (fun i => (xs.length - i).toNat) (0 : Int) [] (hI := ?_) (hr := ?_)
  · exact ⟨by omega,by omega,rfl⟩
  · rintro i ⟨h0,h1,h2⟩
    dsimp only [List.cons_append,List.nil_append] at *
    skip
    repeat' first|(apply p3;(first|exact pu1|exact puC|exact a_add rfl rfl (by omega) (by omega)|exact puI);exact rfl)|refine cd ?_|(apply c4 0;exact callK0 (θ := []) (hE := hE) (hD := (hp _));exact rfl;exact rfl;exact rfl;refine dM ?_)|((refine g_cond rfl (fun hc => ?_) (fun hc => ?_)) <;> (try simp only [dcB] at hc) <;> (try first|contradiction|(exfalso;omega)))
    · repeat refine cr ?_
      refine ends_id ?_
      refine endK [] (h2 := ?_) (h3 := ?_) (nd := ?_)
      all_goals (repeat' first|exact ce0|refine ce ?_|refine ce2 ?_ ?_|exact SVLe.refl|refine ceb ?_)
      all_goals first | exact (show nodupB _ = true from rfl) | exact Or.inr rfl | (exact (idxF_stop p xs i h0 (by omega) h2 hc).symm)
    · refine q_again (i + 1) [] (by exact stk) ?_ ?_
      · exact ⟨by omega,by omega,all_snocI _ _ _ h0 (by omega) h2 (by simp [hc])⟩
      · omega
    · repeat refine cr ?_
      refine ends_id ?_
      refine endK [] (h2 := ?_) (h3 := ?_) (nd := ?_)
      all_goals (repeat' first|exact ce0|refine ce ?_|refine ce2 ?_ ?_|exact SVLe.refl|refine ceb ?_)
      all_goals first | exact (show nodupB _ = true from rfl) | exact Or.inr rfl | ((rw [List.take_of_length_le (by omega)] at h2; exact (idxF_none p xs h2).symm))
theorem hasN1_ok (xs : List Ins) (k : Nat) (d : D) (p : Ins → Bool) (hx : (xs.length : Int) ≤ 16777216) (hE : entB Tryz.prog k = true) (hp : ∀ r,Does Tryz.prog k [.agg (inC r),.one (.d d)] [] (.one (boo (p r))) []) : Does Tryz.prog 107 [.one (shN xs),.one (.d (.fn (.func k) [d]))] [] (.one (boo (xs.any p))) [] := by
  refine does_of (k := 0) Tryz.func107 rfl Tryz.ntmps107 rfl rfl fun w F0 S0 ρ0 => ?_
  dsimp only [argT,argH]
  repeat' first|(apply p3;(first|exact pu1|exact puC);exact rfl)|refine cd ?_|(apply c4 0;exact callK1 (θ := []) (hD := (idxN1_ok xs k d p hx hE hp));exact rfl;exact rfl;exact rfl;refine dM ?_)
  repeat refine cr ?_
  refine ends_id ?_
  refine endK [] (h2 := ?_) (h3 := ?_) (nd := ?_)
  all_goals (repeat' first|exact ce0|refine ce ?_|refine ce2 ?_ ?_|exact SVLe.refl|refine ceb ?_)
  all_goals first | exact (show nodupB _ = true from rfl) | exact Or.inr rfl | (exact idxF_any p xs)
theorem idxN0_ok (xs : List Ins) (k : Nat) (p : Ins → Bool) (hx : (xs.length : Int) ≤ 16777216) (hE : entB Tryz.prog k = true) (hp : ∀ r,Does Tryz.prog k [.agg (inC r)] [] (.one (boo (p r))) []) : Does Tryz.prog 202 [.one (shN xs),.one (.d (.fn (.func k) []))] [] (.one (int (idxF p xs))) [] := by
  refine does_of (k := 0) Tryz.func202 rfl Tryz.ntmps202 rfl rfl fun w F0 S0 ρ0 => ?_
  dsimp only [argT,argH]
  repeat' first|(apply p3;(first|exact pu1|exact puN);exact rfl)|refine cd ?_
  refine g_loop_id ?_
  refine loopK [0,1,4,7] [] (fun i : Int => 0 ≤ i ∧ i ≤ xs.length ∧ (xs.take i.toNat).all (fun x => !p x) = true) (fun i => [(8,.one (int i))]) (fun _ => []) (fun i => (xs.length - i).toNat) (0 : Int) [] (hI := ?_) (hr := ?_)
  · exact ⟨by omega,by omega,rfl⟩
  · rintro i ⟨h0,h1,h2⟩
    dsimp only [List.cons_append,List.nil_append] at *
    skip
    repeat' first|(apply p3;(first|exact pu1|exact puC|exact a_add rfl rfl (by omega) (by omega)|exact puI);exact rfl)|refine cd ?_|(apply c4 0;exact callK0 (θ := []) (hE := hE) (hD := (hp _));exact rfl;exact rfl;exact rfl;refine dM ?_)|((refine g_cond rfl (fun hc => ?_) (fun hc => ?_)) <;> (try simp only [dcB] at hc) <;> (try first|contradiction|(exfalso;omega)))
    · repeat refine cr ?_
      refine ends_id ?_
      refine endK [] (h2 := ?_) (h3 := ?_) (nd := ?_)
      all_goals (repeat' first|exact ce0|refine ce ?_|refine ce2 ?_ ?_|exact SVLe.refl|refine ceb ?_)
      all_goals first | exact (show nodupB _ = true from rfl) | exact Or.inr rfl | (exact (idxF_stop p xs i h0 (by omega) h2 hc).symm)
    · refine q_again (i + 1) [] (by exact stk) ?_ ?_
      · exact ⟨by omega,by omega,all_snocI _ _ _ h0 (by omega) h2 (by simp [hc])⟩
      · omega
    · repeat refine cr ?_
      refine ends_id ?_
      refine endK [] (h2 := ?_) (h3 := ?_) (nd := ?_)
      all_goals (repeat' first|exact ce0|refine ce ?_|refine ce2 ?_ ?_|exact SVLe.refl|refine ceb ?_)
      all_goals first | exact (show nodupB _ = true from rfl) | exact Or.inr rfl | ((rw [List.take_of_length_le (by omega)] at h2; exact (idxF_none p xs h2).symm))
theorem hasN0_ok (xs : List Ins) (k : Nat) (p : Ins → Bool) (hx : (xs.length : Int) ≤ 16777216) (hE : entB Tryz.prog k = true) (hp : ∀ r,Does Tryz.prog k [.agg (inC r)] [] (.one (boo (p r))) []) : Does Tryz.prog 107 [.one (shN xs),.one (.d (.fn (.func k) []))] [] (.one (boo (xs.any p))) [] := by
  refine does_of (k := 0) Tryz.func107 rfl Tryz.ntmps107 rfl rfl fun w F0 S0 ρ0 => ?_
  dsimp only [argT,argH]
  repeat' first|(apply p3;(first|exact pu1|exact puC);exact rfl)|refine cd ?_|(apply c4 0;exact callK1 (θ := []) (hD := (idxN0_ok xs k p hx hE hp));exact rfl;exact rfl;exact rfl;refine dM ?_)
  repeat refine cr ?_
  refine ends_id ?_
  refine endK [] (h2 := ?_) (h3 := ?_) (nd := ?_)
  all_goals (repeat' first|exact ce0|refine ce ?_|refine ce2 ?_ ?_|exact SVLe.refl|refine ceb ?_)
  all_goals first | exact (show nodupB _ = true from rfl) | exact Or.inr rfl | (exact idxF_any p xs)
theorem hasP_ok (p : List Ins) (hp : (p.length : Int) ≤ 1000) : Does Tryz.prog 107 [.one (shN p),.one (.d (.fn (.func 200) [.bx false [.sl false 4 (rows eN p)]]))] [] (.one (boo (p.any fun x => !okNs p.length x))) [] := hasN1_ok p _ (.bx false [.sl false 4 (rows eN p)]) (fun x => !okNs p.length x) (by omega) (fQ rfl) fun r => validP1_ok p r hp
theorem hasT_ok (p : List Ins) (hp : (p.length : Int) ≤ 1000) : Does Tryz.prog 107 [.one (shN p),.one (.d (.fn (.func 108) []))] [] (.one (boo (p.any fun x => decide (x.r > 1)))) [] := hasN0_ok p _ (fun x => decide (x.r > 1)) (by omega) (fQ rfl) fun r => twoC1_ok r
theorem hasPF_ok (p : List Ins) (g : PgOk p) : Does Tryz.prog 107 [.one (shN p),.one (.d (.fn (.func 200) [.bx false [.sl false 4 (rows eN p)]]))] [] (.one (boo false)) [] := by
  have n := g.n
  have hany : p.any (fun x => !okNs p.length x) = false := by
    rw [List.any_eq_false]
    intro x hx
    have h1 := g.v1
    unfold vI1 at h1
    have := List.all_eq_true.1 h1 x hx
    simp [this]
  have h := hasP_ok p (by omega)
  rw [hany] at h
  exact h
theorem hasTF_ok (p : List Ins) (g : PgOk p) : Does Tryz.prog 107 [.one (shN p),.one (.d (.fn (.func 108) []))] [] (.one (boo false)) [] := by
  have n := g.n
  have hany : p.any (fun x => decide (x.r > 1)) = false := by
    rw [List.any_eq_false]
    intro x hx
    have := g.v2 x hx
    simp
    omega
  have h := hasT_ok p (by omega)
  rw [hany] at h
  exact h
theorem ValidProgram_ok (p : List Ins) (g : PgOk p) : Does Tryz.prog 105 [.one (shN p)] [] (.one (boo true)) [] := by
  have n := g.n
  refine does_of (k := 0) Tryz.func105 rfl Tryz.ntmps105 rfl rfl fun w F0 S0 ρ0 => ?_
  dsimp only [argT,argH]
  repeat' first|(apply n3;exact a_new (gb := .bx _) rfl;exact rfl;refine dA ?_)|(apply p3;exact a_pure (sv := .one _) rfl;exact rfl)|refine cdn ?_|refine g_reg (id := 0) ?_
  first | refine g_turn (t_frzB (d := 1) (i := 0) rfl rfl rfl) ?_ | refine o_turn (t_frzB (d := 1) (i := 0) rfl rfl rfl) ?_
  repeat' first|(apply p3;(first|exact pu1|exact puN|exact puC);exact rfl)|refine cd ?_|(apply py3;exact rfl;exact rfl;(exact pu1);exact rfl;exact rfl)|(apply cy4 0;exact rfl;exact rfl;exact callK1 (θ := []) (hD := (hasPF_ok p g));exact rfl;exact rfl;exact rfl;exact rfl;refine dM ?_)|((refine o_gs rfl rfl (fun hc => ?_) (fun hc => ?_)) <;> (try simp only [dcB] at hc) <;> (try first|contradiction|(exfalso;omega)))
  all_goals first | (exfalso; omega) | skip
  repeat refine cr ?_
  refine ends_id ?_
  refine endK [] (h2 := ?_) (h3 := ?_) (nd := ?_)
  all_goals (repeat' first|exact ce0|refine ce ?_|refine ce2 ?_ ?_|exact SVLe.refl|refine ceb ?_)
  all_goals first | exact (show nodupB _ = true from rfl) | exact Or.inr rfl | (rfl)
theorem IsTwoCounter_ok (p : List Ins) (g : PgOk p) : Does Tryz.prog 31 [.one (shN p)] [] (.one (boo true)) [] := by
  refine does_of (k := 0) Tryz.func31 rfl Tryz.ntmps31 rfl rfl fun w F0 S0 ρ0 => ?_
  dsimp only [argT,argH]
  repeat' first|(apply p3;exact pu1;exact rfl)|refine cd ?_|(apply c4 0;exact callK1 (θ := []) (hD := (ValidProgram_ok p g));exact rfl;exact rfl;exact rfl;refine dM ?_)|(apply py3;exact rfl;exact rfl;exact pu1;exact rfl;exact rfl)|(apply cy4 0;exact rfl;exact rfl;exact callK1 (θ := []) (hD := (hasTF_ok p g));exact rfl;exact rfl;exact rfl;exact rfl;refine dM ?_)
  all_goals first | contradiction | skip
  repeat refine cr ?_
  refine ends_id ?_
  refine endK [] (h2 := ?_) (h3 := ?_) (nd := ?_)
  all_goals (repeat' first|exact ce0|refine ce ?_|refine ce2 ?_ ?_|exact SVLe.refl|refine ceb ?_)
  all_goals first | exact (show nodupB _ = true from rfl) | exact Or.inr rfl | (rfl)
end Go.Proofs.YtbblkhjjgnpbaaaGreatDoor
end
section
set_option linter.unusedVariables false
set_option linter.unusedSimpArgs false
set_option maxRecDepth 100000
set_option maxHeartbeats 1000000
namespace Go.Proofs.YtbblkhjjgnpbaaaGreatDoor
open Go Foot Go.RowKit
structure Ct where
  i : Int
  a : Int
  b : Int
def stV (x : Ins) (v : Int) : Int × Int := if x.k = 0 then (v + 1,x.t) else if 0 < v then (v - 1,x.t) else (v,x.e)
@[irreducible] def stC (x : Ins) (c : Ct) : Ct := if x.r = 1 then ⟨(stV x c.b).2,c.a,(stV x c.b).1⟩ else ⟨(stV x c.a).2,(stV x c.a).1,c.b⟩
structure CtOk (p : List Ins) (m : Int) (c : Ct) : Prop where
  i : 0 ≤ c.i ∧ c.i ≤ p.length
  a : 0 ≤ c.a ∧ c.a ≤ m
  b : 0 ≤ c.b ∧ c.b ≤ m
theorem stV_bd {p : List Ins} (g : PgOk p) {x : Ins} (h : x ∈ p) {v m : Int} (h0 : 0 ≤ v) (h1 : v ≤ m) : (0 ≤ (stV x v).1 ∧ (stV x v).1 ≤ m + 1) ∧ 0 ≤ (stV x v).2 ∧ (stV x v).2 ≤ p.length := by
  have := pg_at g h
  unfold stV
  split
  · dsimp only; omega
  · split
    · dsimp only; omega
    · dsimp only; omega
theorem stC_ok {p : List Ins} (g : PgOk p) {x : Ins} (h : x ∈ p) {m : Int} {c : Ct} (q : CtOk p m c) : CtOk p (m + 1) (stC x c) := by
  obtain ⟨q1,q2,q3⟩ := q
  have ha := stV_bd g h q2.1 q2.2
  have hb := stV_bd g h q3.1 q3.2
  unfold stC
  split
  · exact ⟨hb.2,by dsimp only; omega,hb.1⟩
  · exact ⟨ha.2,ha.1,by dsimp only; omega⟩
def rcC (p : List Ins) : Nat → Ct → Ct × Nat × Bool
  | 0,c => (c,0,decide (c.i = p.length))
  | k + 1,c => if c.i = p.length then (c,0,true) else ((rcC p k (stC (p.getD c.i.toNat ⟨1,0,0,0⟩) c)).1,(rcC p k (stC (p.getD c.i.toNat ⟨1,0,0,0⟩) c)).2.1 + 1,(rcC p k (stC (p.getD c.i.toNat ⟨1,0,0,0⟩) c)).2.2)
theorem rcC_h {p : List Ins} {k : Nat} {c : Ct} (h : c.i = p.length) : rcC p k c = (c,0,true) := by
  cases k with
  | zero => rw [rcC,decide_eq_true h]
  | succ k => rw [rcC,if_pos h]
theorem rcC_0 {p : List Ins} {c : Ct} : rcC p 0 c = (c,0,decide (c.i = p.length)) := by rw [rcC]
theorem rcC_s {p : List Ins} {k : Nat} {c : Ct} (h : ¬ c.i = p.length) (hi : c.i.toNat < p.length) : rcC p (k + 1) c = ((rcC p k (stC (p[c.i.toNat]'hi) c)).1,(rcC p k (stC (p[c.i.toNat]'hi) c)).2.1 + 1,(rcC p k (stC (p[c.i.toNat]'hi) c)).2.2) := by
  have e : p.getD c.i.toNat ⟨1,0,0,0⟩ = p[c.i.toNat]'hi := by rw [List.getD_eq_getElem?_getD,List.getElem?_eq_getElem hi]; rfl
  rw [rcC,if_neg h,e]
abbrev ctC (c : Ct) : List C := [int c.i,int c.a,int c.b]
theorem preB174 {p : Prop} (h : p := by first | with_reducible assumption | omega | (simp only [List.length_append,List.length_cons,List.length_nil,List.length_set,List.length_replicate,List.length_take,List.length_drop,List.length_tail,List.length_dropLast,List.length_reverse] at *; omega) | exact mem_len (by assumption) (by omega) | (with_reducible refine Int.le_trans (Int.ofNat_le.2 (trimR_len _)) ?_; simp only [List.length_cons,List.length_tail]; omega) | (exact (ruAt_ok (by assumption) (by assumption) (by assumption)).2.1) | (exact (ruAt_ok (by assumption) (by assumption) (by assumption)).2.1) | (have := vMach_bd (by assumption); omega) | (simp only [mC_ch,mC_tu]; omega) | (have := vTag_bd (by assumption); omega) | (have := (‹Gd _ _›).le; omega) | (exact tgHalts_no (by assumption)) | (exact tgHead (by assumption) (by assumption) (by assumption)) | (exact Int.le_trans (tgStep_gd (by assumption) (by assumption) (by assumption) (by assumption)).le (by decide)) | (exact vTag_r (by assumption)) | (with_reducible refine Int.le_trans (Int.ofNat_le.2 (pushL_len _ _)) ?_; simp only [List.length_dropLast]; omega) | exact ls_at (by assumption) (by omega) | exact pt_gd (by assumption) | exact lv_at (by assumption) (by omega) | exact pt_gd (lv_at (by assumption) (by omega)) | exact (ask_ok (by assumption)).1 | exact (ask_ok (by assumption)).2.1 | exact (ask_ok (by assumption)).2.2.1 | exact (ask_ok (by assumption)).2.2.2 | trivial) : p := h
theorem ctStep_ok (p : List Ins) (i a b : Int) (g : PgOk p) (h0 : 0 ≤ i) (hi : i.toNat < p.length) (ha : 0 ≤ a ∧ a ≤ 100000) (hb : 0 ≤ b ∧ b ≤ 100000) : Does Tryz.prog 199 [.one (.gv 0),.one (shN p)] [.bx [int i,int a,int b]] (.one (boo true)) [.bx (ctC (stC (p[i.toNat]'hi) ⟨i,a,b⟩))] := by
  have n := g.n
  obtain ⟨x1,x2,x3⟩ := pg_at g (List.getElem_mem hi)
  by_cases hr : (p[i.toNat]'hi).r = 1
  · by_cases hk : (p[i.toNat]'hi).k = 0
    · have ev : stV (p[i.toNat]'hi) b = (b + 1,(p[i.toNat]'hi).t) := by unfold stV; rw [if_pos hk]
      have ec : stC (p[i.toNat]'hi) ⟨i,a,b⟩ = ⟨(p[i.toNat]'hi).t,a,b + 1⟩ := by unfold stC; rw [if_pos hr]; dsimp only; rw [ev]
      rw [ec]
      refine does_of (k := 1) Tryz.func199 rfl Tryz.ntmps199 rfl rfl fun w F0 S0 ρ0 => ?_
      dsimp only [argT,argH]
      repeat' first|(apply p3;exact a_pure (sv := .one _) rfl;exact rfl)|refine cdn ?_|refine g_reg (id := 0) ?_|(apply g_drN (id := 1) okM [[],[],[1],[1,2],[1,2,3],[0,1,2,3,4],[0,1,2,3,4,5],[],[7],[7,8],[],[0,1,2,3,4,5,6,10],[0,1,2,3,4,5,6,7,8,9,10,11]] [([],[]),([],[]),([],[]),([],[]),([],[]),([],[]),([],[]),([],[]),([],[]),([],[]),([0],[]),([],[1]),([],[])] 1;(focus (refine dp 0 0 [8,9,10,11,14,15,16,5] [(true,0)] pu1 ?_;refine dp 1 0 [7,14,15,16,5] [(true,0)] pu1 ?_;refine dp 2 1 [7,14,15,16,5] [(true,0)] (a_pure (sv := .one _) rfl) ?_;refine dp 3 3 [7,14,15,16,5] [(true,0)] (a_pure (sv := .one _) rfl) ?_;refine dp 4 7 [7,14,15,16,5] [(true,0)] puL ?_;refine dp 5 31 [14,15,16,5] [(true,0)] puI ?_;refine dp 6 63 [14,15,16,5] [(true,0)] (by exact puL) ?_;refine dp 7 0 [7,8,9,10,11,12,13,5] [(true,0),(false,1)] pu1 ?_;refine dp 8 1 [7,8,9,10,11,12,13,5] [(true,0),(false,1)] (a_pure (sv := .one _) rfl) ?_;refine dp 9 3 [7,8,9,10,11,12,13,5] [(true,0),(false,1)] (a_pure (sv := .one _) rfl) ?_;refine duE 10 0 [7,8,9,10,11,12,13,14,15,16] [] (atN 0 (fun _ => a_new (gb := .bx _) rfl)) (by exact rfl) (by exact rfl) ?_;refine duE 11 2033 [14,15,16] [] (by exact a_st_bx rfl rfl rfl rfl (fN rfl rfl) (Nat.le_of_ble_eq_true rfl) rfl) (by exact rfl) (by exact rfl) ?_;refine dp 12 4095 [] [] pu1 ?_;(refine d_nil ?_;refine dN ?_)));any_goals kernel_rfl)
      simp only [setRow,scC,List.map_cons,List.map_nil,List.set_cons_zero,List.set_cons_succ,Nat.zero_add,List.getElem?_cons_zero,List.getElem?_cons_succ,List.take_succ_cons,List.take_zero,List.drop_zero,List.cons_append,List.nil_append,List.drop_succ_cons,List.drop_nil,List.append_nil,List.append_eq]
      repeat' first|(apply p3;(first|exact pu1|exact puC|exact a_add rfl rfl (by omega) (by omega));exact rfl)|refine cd ?_|(apply w3;(exact a_st_bx rfl rfl rfl rfl (fN rfl rfl) (Nat.le_of_ble_eq_true rfl) rfl);exact rfl;refine dS ?_)|((refine g_cond rfl (fun hc => ?_) (fun hc => ?_)) <;> (try simp only [dcB] at hc) <;> (try first|contradiction|(exfalso;omega)))
      repeat refine cr ?_
      refine ends_id ?_
      refine endK [] (h2 := ?_) (h3 := ?_) (nd := ?_)
      all_goals (repeat' first|exact ce0|refine ce ?_|refine ce2 ?_ ?_|(refine Or.inr (bx_eq rfl rfl ?_);(try dsimp only [C.ren,C.ren.all]);(try exact rfl))|exact SVLe.refl|refine ceb ?_)
      all_goals first | exact (show nodupB _ = true from rfl) | exact Or.inr rfl | ((first | rfl | exact decide_eq_true (by omega)))
    · by_cases hv : 0 < b
      · have ev : stV (p[i.toNat]'hi) b = (b - 1,(p[i.toNat]'hi).t) := by unfold stV; rw [if_neg hk,if_pos hv]
        have ec : stC (p[i.toNat]'hi) ⟨i,a,b⟩ = ⟨(p[i.toNat]'hi).t,a,b - 1⟩ := by unfold stC; rw [if_pos hr]; dsimp only; rw [ev]
        rw [ec]
        refine does_of (k := 1) Tryz.func199 rfl Tryz.ntmps199 rfl rfl fun w F0 S0 ρ0 => ?_
        dsimp only [argT,argH]
        repeat' first|(apply p3;exact a_pure (sv := .one _) rfl;exact rfl)|refine cdn ?_|refine g_reg (id := 0) ?_|(apply g_drN (id := 1) okM [[],[],[1],[1,2],[1,2,3],[0,1,2,3,4],[0,1,2,3,4,5],[],[7],[7,8],[],[0,1,2,3,4,5,6,10],[0,1,2,3,4,5,6,7,8,9,10,11]] [([],[]),([],[]),([],[]),([],[]),([],[]),([],[]),([],[]),([],[]),([],[]),([],[]),([0],[]),([],[1]),([],[])] 1;(focus (refine dp 0 0 [8,9,10,11,14,15,16,5] [(true,0)] pu1 ?_;refine dp 1 0 [7,14,15,16,5] [(true,0)] pu1 ?_;refine dp 2 1 [7,14,15,16,5] [(true,0)] (a_pure (sv := .one _) rfl) ?_;refine dp 3 3 [7,14,15,16,5] [(true,0)] (a_pure (sv := .one _) rfl) ?_;refine dp 4 7 [7,14,15,16,5] [(true,0)] puL ?_;refine dp 5 31 [14,15,16,5] [(true,0)] puI ?_;refine dp 6 63 [14,15,16,5] [(true,0)] (by exact puL) ?_;refine dp 7 0 [7,8,9,10,11,12,13,5] [(true,0),(false,1)] pu1 ?_;refine dp 8 1 [7,8,9,10,11,12,13,5] [(true,0),(false,1)] (a_pure (sv := .one _) rfl) ?_;refine dp 9 3 [7,8,9,10,11,12,13,5] [(true,0),(false,1)] (a_pure (sv := .one _) rfl) ?_;refine duE 10 0 [7,8,9,10,11,12,13,14,15,16] [] (atN 0 (fun _ => a_new (gb := .bx _) rfl)) (by exact rfl) (by exact rfl) ?_;refine duE 11 2033 [14,15,16] [] (by exact a_st_bx rfl rfl rfl rfl (fN rfl rfl) (Nat.le_of_ble_eq_true rfl) rfl) (by exact rfl) (by exact rfl) ?_;refine dp 12 4095 [] [] pu1 ?_;(refine d_nil ?_;refine dN ?_)));any_goals kernel_rfl)
        simp only [setRow,scC,List.map_cons,List.map_nil,List.set_cons_zero,List.set_cons_succ,Nat.zero_add,List.getElem?_cons_zero,List.getElem?_cons_succ,List.take_succ_cons,List.take_zero,List.drop_zero,List.cons_append,List.nil_append,List.drop_succ_cons,List.drop_nil,List.append_nil,List.append_eq]
        repeat' first|(apply p3;(first|exact pu1|exact puC|exact a_sub rfl rfl (by omega) (by omega));exact rfl)|refine cd ?_|(apply w3;(exact a_st_bx rfl rfl rfl rfl (fN rfl rfl) (Nat.le_of_ble_eq_true rfl) rfl);exact rfl;refine dS ?_)|((refine g_cond rfl (fun hc => ?_) (fun hc => ?_)) <;> (try simp only [dcB] at hc) <;> (try first|contradiction|(exfalso;omega)))
        repeat refine cr ?_
        refine ends_id ?_
        refine endK [] (h2 := ?_) (h3 := ?_) (nd := ?_)
        all_goals (repeat' first|exact ce0|refine ce ?_|refine ce2 ?_ ?_|(refine Or.inr (bx_eq rfl rfl ?_);(try dsimp only [C.ren,C.ren.all]);(try exact rfl))|exact SVLe.refl|refine ceb ?_)
        all_goals first | exact (show nodupB _ = true from rfl) | exact Or.inr rfl | ((first | rfl | exact decide_eq_true (by omega)))
      · have ev : stV (p[i.toNat]'hi) b = (b,(p[i.toNat]'hi).e) := by unfold stV; rw [if_neg hk,if_neg hv]
        have ec : stC (p[i.toNat]'hi) ⟨i,a,b⟩ = ⟨(p[i.toNat]'hi).e,a,b⟩ := by unfold stC; rw [if_pos hr]; dsimp only; rw [ev]
        rw [ec]
        refine does_of (k := 1) Tryz.func199 rfl Tryz.ntmps199 rfl rfl fun w F0 S0 ρ0 => ?_
        dsimp only [argT,argH]
        repeat' first|(apply p3;exact a_pure (sv := .one _) rfl;exact rfl)|refine cdn ?_|refine g_reg (id := 0) ?_|(apply g_drN (id := 1) okM [[],[],[1],[1,2],[1,2,3],[0,1,2,3,4],[0,1,2,3,4,5],[],[7],[7,8],[],[0,1,2,3,4,5,6,10],[0,1,2,3,4,5,6,7,8,9,10,11]] [([],[]),([],[]),([],[]),([],[]),([],[]),([],[]),([],[]),([],[]),([],[]),([],[]),([0],[]),([],[1]),([],[])] 1;(focus (refine dp 0 0 [8,9,10,11,14,15,16,5] [(true,0)] pu1 ?_;refine dp 1 0 [7,14,15,16,5] [(true,0)] pu1 ?_;refine dp 2 1 [7,14,15,16,5] [(true,0)] (a_pure (sv := .one _) rfl) ?_;refine dp 3 3 [7,14,15,16,5] [(true,0)] (a_pure (sv := .one _) rfl) ?_;refine dp 4 7 [7,14,15,16,5] [(true,0)] puL ?_;refine dp 5 31 [14,15,16,5] [(true,0)] puI ?_;refine dp 6 63 [14,15,16,5] [(true,0)] (by exact puL) ?_;refine dp 7 0 [7,8,9,10,11,12,13,5] [(true,0),(false,1)] pu1 ?_;refine dp 8 1 [7,8,9,10,11,12,13,5] [(true,0),(false,1)] (a_pure (sv := .one _) rfl) ?_;refine dp 9 3 [7,8,9,10,11,12,13,5] [(true,0),(false,1)] (a_pure (sv := .one _) rfl) ?_;refine duE 10 0 [7,8,9,10,11,12,13,14,15,16] [] (atN 0 (fun _ => a_new (gb := .bx _) rfl)) (by exact rfl) (by exact rfl) ?_;refine duE 11 2033 [14,15,16] [] (by exact a_st_bx rfl rfl rfl rfl (fN rfl rfl) (Nat.le_of_ble_eq_true rfl) rfl) (by exact rfl) (by exact rfl) ?_;refine dp 12 4095 [] [] pu1 ?_;(refine d_nil ?_;refine dN ?_)));any_goals kernel_rfl)
        simp only [setRow,scC,List.map_cons,List.map_nil,List.set_cons_zero,List.set_cons_succ,Nat.zero_add,List.getElem?_cons_zero,List.getElem?_cons_succ,List.take_succ_cons,List.take_zero,List.drop_zero,List.cons_append,List.nil_append,List.drop_succ_cons,List.drop_nil,List.append_nil,List.append_eq]
        repeat' first|(apply p3;(first|exact pu1|exact puC);exact rfl)|refine cd ?_|(apply w3;(exact a_st_bx rfl rfl rfl rfl (fN rfl rfl) (Nat.le_of_ble_eq_true rfl) rfl);exact rfl;refine dS ?_)|((refine g_cond rfl (fun hc => ?_) (fun hc => ?_)) <;> (try simp only [dcB] at hc) <;> (try first|contradiction|(exfalso;omega)))
        repeat refine cr ?_
        refine ends_id ?_
        refine endK [] (h2 := ?_) (h3 := ?_) (nd := ?_)
        all_goals (repeat' first|exact ce0|refine ce ?_|refine ce2 ?_ ?_|(refine Or.inr (bx_eq rfl rfl ?_);(try dsimp only [C.ren,C.ren.all]);(try exact rfl))|exact SVLe.refl|refine ceb ?_)
        all_goals first | exact (show nodupB _ = true from rfl) | exact Or.inr rfl | ((first | rfl | exact decide_eq_true (by omega)))
  · by_cases hk : (p[i.toNat]'hi).k = 0
    · have ev : stV (p[i.toNat]'hi) a = (a + 1,(p[i.toNat]'hi).t) := by unfold stV; rw [if_pos hk]
      have ec : stC (p[i.toNat]'hi) ⟨i,a,b⟩ = ⟨(p[i.toNat]'hi).t,a + 1,b⟩ := by unfold stC; rw [if_neg hr]; dsimp only; rw [ev]
      rw [ec]
      refine does_of (k := 1) Tryz.func199 rfl Tryz.ntmps199 rfl rfl fun w F0 S0 ρ0 => ?_
      dsimp only [argT,argH]
      repeat' first|(apply p3;exact a_pure (sv := .one _) rfl;exact rfl)|refine cdn ?_|refine g_reg (id := 0) ?_|(apply g_drN (id := 1) okM [[],[],[1],[1,2],[1,2,3],[0,1,2,3,4],[0,1,2,3,4,5],[],[7],[7,8],[],[0,1,2,3,4,5,6,10],[0,1,2,3,4,5,6,7,8,9,10,11]] [([],[]),([],[]),([],[]),([],[]),([],[]),([],[]),([],[]),([],[]),([],[]),([],[]),([0],[]),([],[1]),([],[])] 1;(focus (refine dp 0 0 [8,9,10,11,14,15,16,5] [(true,0)] pu1 ?_;refine dp 1 0 [7,14,15,16,5] [(true,0)] pu1 ?_;refine dp 2 1 [7,14,15,16,5] [(true,0)] (a_pure (sv := .one _) rfl) ?_;refine dp 3 3 [7,14,15,16,5] [(true,0)] (a_pure (sv := .one _) rfl) ?_;refine dp 4 7 [7,14,15,16,5] [(true,0)] puL ?_;refine dp 5 31 [14,15,16,5] [(true,0)] puI ?_;refine dp 6 63 [14,15,16,5] [(true,0)] (by exact puL) ?_;refine dp 7 0 [7,8,9,10,11,12,13,5] [(true,0),(false,1)] pu1 ?_;refine dp 8 1 [7,8,9,10,11,12,13,5] [(true,0),(false,1)] (a_pure (sv := .one _) rfl) ?_;refine dp 9 3 [7,8,9,10,11,12,13,5] [(true,0),(false,1)] (a_pure (sv := .one _) rfl) ?_;refine duE 10 0 [7,8,9,10,11,12,13,14,15,16] [] (atN 0 (fun _ => a_new (gb := .bx _) rfl)) (by exact rfl) (by exact rfl) ?_;refine duE 11 2033 [14,15,16] [] (by exact a_st_bx rfl rfl rfl rfl (fN rfl rfl) (Nat.le_of_ble_eq_true rfl) rfl) (by exact rfl) (by exact rfl) ?_;refine dp 12 4095 [] [] pu1 ?_;(refine d_nil ?_;refine dN ?_)));any_goals kernel_rfl)
      simp only [setRow,scC,List.map_cons,List.map_nil,List.set_cons_zero,List.set_cons_succ,Nat.zero_add,List.getElem?_cons_zero,List.getElem?_cons_succ,List.take_succ_cons,List.take_zero,List.drop_zero,List.cons_append,List.nil_append,List.drop_succ_cons,List.drop_nil,List.append_nil,List.append_eq]
      repeat' first|(apply p3;(first|exact pu1|exact puC|exact a_add rfl rfl (by omega) (by omega));exact rfl)|refine cd ?_|(apply w3;(exact a_st_bx rfl rfl rfl rfl (fN rfl rfl) (Nat.le_of_ble_eq_true rfl) rfl);exact rfl;refine dS ?_)|((refine g_cond rfl (fun hc => ?_) (fun hc => ?_)) <;> (try simp only [dcB] at hc) <;> (try first|contradiction|(exfalso;omega)))
      repeat refine cr ?_
      refine ends_id ?_
      refine endK [] (h2 := ?_) (h3 := ?_) (nd := ?_)
      all_goals (repeat' first|exact ce0|refine ce ?_|refine ce2 ?_ ?_|(refine Or.inr (bx_eq rfl rfl ?_);(try dsimp only [C.ren,C.ren.all]);(try exact rfl))|exact SVLe.refl|refine ceb ?_)
      all_goals first | exact (show nodupB _ = true from rfl) | exact Or.inr rfl | ((first | rfl | exact decide_eq_true (by omega)))
    · by_cases hv : 0 < a
      · have ev : stV (p[i.toNat]'hi) a = (a - 1,(p[i.toNat]'hi).t) := by unfold stV; rw [if_neg hk,if_pos hv]
        have ec : stC (p[i.toNat]'hi) ⟨i,a,b⟩ = ⟨(p[i.toNat]'hi).t,a - 1,b⟩ := by unfold stC; rw [if_neg hr]; dsimp only; rw [ev]
        rw [ec]
        refine does_of (k := 1) Tryz.func199 rfl Tryz.ntmps199 rfl rfl fun w F0 S0 ρ0 => ?_
        dsimp only [argT,argH]
        repeat' first|(apply p3;exact a_pure (sv := .one _) rfl;exact rfl)|refine cdn ?_|refine g_reg (id := 0) ?_|(apply g_drN (id := 1) okM [[],[],[1],[1,2],[1,2,3],[0,1,2,3,4],[0,1,2,3,4,5],[],[7],[7,8],[],[0,1,2,3,4,5,6,10],[0,1,2,3,4,5,6,7,8,9,10,11]] [([],[]),([],[]),([],[]),([],[]),([],[]),([],[]),([],[]),([],[]),([],[]),([],[]),([0],[]),([],[1]),([],[])] 1;(focus (refine dp 0 0 [8,9,10,11,14,15,16,5] [(true,0)] pu1 ?_;refine dp 1 0 [7,14,15,16,5] [(true,0)] pu1 ?_;refine dp 2 1 [7,14,15,16,5] [(true,0)] (a_pure (sv := .one _) rfl) ?_;refine dp 3 3 [7,14,15,16,5] [(true,0)] (a_pure (sv := .one _) rfl) ?_;refine dp 4 7 [7,14,15,16,5] [(true,0)] puL ?_;refine dp 5 31 [14,15,16,5] [(true,0)] puI ?_;refine dp 6 63 [14,15,16,5] [(true,0)] (by exact puL) ?_;refine dp 7 0 [7,8,9,10,11,12,13,5] [(true,0),(false,1)] pu1 ?_;refine dp 8 1 [7,8,9,10,11,12,13,5] [(true,0),(false,1)] (a_pure (sv := .one _) rfl) ?_;refine dp 9 3 [7,8,9,10,11,12,13,5] [(true,0),(false,1)] (a_pure (sv := .one _) rfl) ?_;refine duE 10 0 [7,8,9,10,11,12,13,14,15,16] [] (atN 0 (fun _ => a_new (gb := .bx _) rfl)) (by exact rfl) (by exact rfl) ?_;refine duE 11 2033 [14,15,16] [] (by exact a_st_bx rfl rfl rfl rfl (fN rfl rfl) (Nat.le_of_ble_eq_true rfl) rfl) (by exact rfl) (by exact rfl) ?_;refine dp 12 4095 [] [] pu1 ?_;(refine d_nil ?_;refine dN ?_)));any_goals kernel_rfl)
        simp only [setRow,scC,List.map_cons,List.map_nil,List.set_cons_zero,List.set_cons_succ,Nat.zero_add,List.getElem?_cons_zero,List.getElem?_cons_succ,List.take_succ_cons,List.take_zero,List.drop_zero,List.cons_append,List.nil_append,List.drop_succ_cons,List.drop_nil,List.append_nil,List.append_eq]
        repeat' first|(apply p3;(first|exact pu1|exact puC|exact a_sub rfl rfl (by omega) (by omega));exact rfl)|refine cd ?_|(apply w3;(exact a_st_bx rfl rfl rfl rfl (fN rfl rfl) (Nat.le_of_ble_eq_true rfl) rfl);exact rfl;refine dS ?_)|((refine g_cond rfl (fun hc => ?_) (fun hc => ?_)) <;> (try simp only [dcB] at hc) <;> (try first|contradiction|(exfalso;omega)))
        repeat refine cr ?_
        refine ends_id ?_
        refine endK [] (h2 := ?_) (h3 := ?_) (nd := ?_)
        all_goals (repeat' first|exact ce0|refine ce ?_|refine ce2 ?_ ?_|(refine Or.inr (bx_eq rfl rfl ?_);(try dsimp only [C.ren,C.ren.all]);(try exact rfl))|exact SVLe.refl|refine ceb ?_)
        all_goals first | exact (show nodupB _ = true from rfl) | exact Or.inr rfl | ((first | rfl | exact decide_eq_true (by omega)))
      · have ev : stV (p[i.toNat]'hi) a = (a,(p[i.toNat]'hi).e) := by unfold stV; rw [if_neg hk,if_neg hv]
        have ec : stC (p[i.toNat]'hi) ⟨i,a,b⟩ = ⟨(p[i.toNat]'hi).e,a,b⟩ := by unfold stC; rw [if_neg hr]; dsimp only; rw [ev]
        rw [ec]
        refine does_of (k := 1) Tryz.func199 rfl Tryz.ntmps199 rfl rfl fun w F0 S0 ρ0 => ?_
        dsimp only [argT,argH]
        repeat' first|(apply p3;exact a_pure (sv := .one _) rfl;exact rfl)|refine cdn ?_|refine g_reg (id := 0) ?_|(apply g_drN (id := 1) okM [[],[],[1],[1,2],[1,2,3],[0,1,2,3,4],[0,1,2,3,4,5],[],[7],[7,8],[],[0,1,2,3,4,5,6,10],[0,1,2,3,4,5,6,7,8,9,10,11]] [([],[]),([],[]),([],[]),([],[]),([],[]),([],[]),([],[]),([],[]),([],[]),([],[]),([0],[]),([],[1]),([],[])] 1;(focus (refine dp 0 0 [8,9,10,11,14,15,16,5] [(true,0)] pu1 ?_;refine dp 1 0 [7,14,15,16,5] [(true,0)] pu1 ?_;refine dp 2 1 [7,14,15,16,5] [(true,0)] (a_pure (sv := .one _) rfl) ?_;refine dp 3 3 [7,14,15,16,5] [(true,0)] (a_pure (sv := .one _) rfl) ?_;refine dp 4 7 [7,14,15,16,5] [(true,0)] puL ?_;refine dp 5 31 [14,15,16,5] [(true,0)] puI ?_;refine dp 6 63 [14,15,16,5] [(true,0)] (by exact puL) ?_;refine dp 7 0 [7,8,9,10,11,12,13,5] [(true,0),(false,1)] pu1 ?_;refine dp 8 1 [7,8,9,10,11,12,13,5] [(true,0),(false,1)] (a_pure (sv := .one _) rfl) ?_;refine dp 9 3 [7,8,9,10,11,12,13,5] [(true,0),(false,1)] (a_pure (sv := .one _) rfl) ?_;refine duE 10 0 [7,8,9,10,11,12,13,14,15,16] [] (atN 0 (fun _ => a_new (gb := .bx _) rfl)) (by exact rfl) (by exact rfl) ?_;refine duE 11 2033 [14,15,16] [] (by exact a_st_bx rfl rfl rfl rfl (fN rfl rfl) (Nat.le_of_ble_eq_true rfl) rfl) (by exact rfl) (by exact rfl) ?_;refine dp 12 4095 [] [] pu1 ?_;(refine d_nil ?_;refine dN ?_)));any_goals kernel_rfl)
        simp only [setRow,scC,List.map_cons,List.map_nil,List.set_cons_zero,List.set_cons_succ,Nat.zero_add,List.getElem?_cons_zero,List.getElem?_cons_succ,List.take_succ_cons,List.take_zero,List.drop_zero,List.cons_append,List.nil_append,List.drop_succ_cons,List.drop_nil,List.append_nil,List.append_eq]
        repeat' first|(apply p3;(first|exact pu1|exact puC);exact rfl)|refine cd ?_|(apply w3;(exact a_st_bx rfl rfl rfl rfl (fN rfl rfl) (Nat.le_of_ble_eq_true rfl) rfl);exact rfl;refine dS ?_)|((refine g_cond rfl (fun hc => ?_) (fun hc => ?_)) <;> (try simp only [dcB] at hc) <;> (try first|contradiction|(exfalso;omega)))
        repeat refine cr ?_
        refine ends_id ?_
        refine endK [] (h2 := ?_) (h3 := ?_) (nd := ?_)
        all_goals (repeat' first|exact ce0|refine ce ?_|refine ce2 ?_ ?_|(refine Or.inr (bx_eq rfl rfl ?_);(try dsimp only [C.ren,C.ren.all]);(try exact rfl))|exact SVLe.refl|refine ceb ?_)
        all_goals first | exact (show nodupB _ = true from rfl) | exact Or.inr rfl | ((first | rfl | exact decide_eq_true (by omega)))
theorem visC_ok (i a b : Int) : Does Tryz.prog 104 [.agg [int i,int a,int b]] [] (.tup []) [] := by
  refine does_of (k := 0) Tryz.func104 rfl Tryz.ntmps104 rfl rfl fun w F0 S0 ρ0 => ?_
  dsimp only [argT,argH]
  repeat' first|(apply n3;exact a_new (gb := .bx _) rfl;exact rfl;refine dA ?_)|refine cd ?_
  repeat refine cr ?_
  refine ends_id ?_
  refine endK [] (h2 := ?_) (h3 := ?_) (nd := ?_)
  all_goals (repeat' first|exact ce0|refine ce ?_|refine ce2 ?_ ?_|exact SVLe.refl|refine ceb ?_)
  all_goals first | exact (show nodupB _ = true from rfl) | exact Or.inr rfl | (rfl)
theorem runC_ok (p : List Ins) (c : Ct) (B : Int) (g : PgOk p) (hc0 : CtOk p 10 c) (h1 : 0 ≤ B) (h2 : B ≤ 1000) : Does Tryz.prog 103 [.one (shN p),.one (.gv 0),.one (int B),.one (.d (.fn (.func 104) []))] [.bx (ctC c)] (.tup [(false,[int ((rcC p B.toNat c).2.1 : Nat)]),(false,[boo (rcC p B.toNat c).2.2]),(false,[int 0])]) [.bx (ctC (rcC p B.toNat c).1)] := by
  have hn := g.n
  refine does_of (k := 1) Tryz.func103 rfl Tryz.ntmps103 rfl rfl fun w F0 S0 ρ0 => ?_
  dsimp only [argT,argH]
  repeat' first|(apply p3;(exact pu1);exact rfl)|refine cd ?_
  refine g_loop_id ?_
  refine loopK [0,1,2,3,8,9,10] [0] (fun y : Int × Ct => 0 ≤ y.1 ∧ y.1 ≤ B ∧ CtOk p (10 + y.1) y.2 ∧ rcC p B.toNat c = ((rcC p (B - y.1).toNat y.2).1,y.1.toNat + (rcC p (B - y.1).toNat y.2).2.1,(rcC p (B - y.1).toNat y.2).2.2)) (fun y => [(11,.one (int y.1))]) (fun y => [(0,.bx (ctC y.2))]) (fun y => (B - y.1).toNat) ((0 : Int),c) [0] (hI := ?_) (hr := ?_)
  · exact ⟨by simp,by dsimp only; omega,by simpa using hc0,by simp⟩
  · rintro ⟨n,⟨i,a,b⟩⟩ ⟨j0,j1,j2,j3⟩
    dsimp only [List.cons_append,List.nil_append] at *
    skip
    repeat' first|refine cdn ?_
    obtain ⟨q1,q2,q3⟩ := j2
    dsimp only at q1 q2 q3
    repeat' first|(apply p3;(exact pu1);exact rfl)|refine cdn ?_|refine g_reg (id := 3) ?_|(apply c4 0;exact callK1 (θ := []) (hD := (visC_ok _ _ _));exact rfl;exact rfl;exact rfl;refine dM ?_)|(apply g_drN (id := 4) okM [[],[0],[0,1],[0,1,2],[],[4],[0,1,2,3,4,5],[0,1,2,3,4,5,6],[0,1,2,3,4,5,6,7],[0,1,2,3,4,5,6,7],[0,1,2,3,4,5,6,7,8,9],[0,1,2,3,4,5,6,7,8,9,10]] [([],[]),([],[]),([],[]),([],[]),([],[]),([],[]),([],[]),([],[]),([],[]),([],[]),([],[]),([],[])] 0;(focus (all_goals refine dp 0 0 [23,24] [] pu1 ?_;all_goals refine dp 1 1 [23,24] [] (a_pure (sv := .one _) rfl) ?_;all_goals refine dp 2 3 [23,24] [] (a_pure (sv := .one _) rfl) ?_;all_goals refine dp 3 7 [23,24] [] puL ?_;all_goals refine dp 4 0 [19,20,21,22] [] pu1 ?_;all_goals refine dp 5 1 [19,20,21,22] [] (callD1 (n := _) 0 (θ := []) (hD := (sizeN_ok _ preB174))) ?_;all_goals refine dp 6 63 [] [] (by exact puC) ?_;all_goals (refine db 7 127 [] [] pu1 ?_ ?_ <;> (intro hc;first|cases hc|(try simp only [dcB] at hc);first|contradiction|(exfalso;omega)|skip));all_goals (first|refine dn 8 255 [28] [] ?_|refine dpy 8 255 [28] [] pu1 ?_);all_goals (first|refine dn 9 510 [27] [] ?_|refine dpy 9 510 [27] [] pu1 ?_);all_goals (first|refine dn 10 1023 [] [] ?_|refine dpy 10 1023 [] [] (by first|exact puC|exact a_eqS rfl rfl rfl) ?_);all_goals refine dp 11 2047 [] [] (a_pure (sv := .one _) rfl) ?_;all_goals (refine d_nil ?_;refine dN ?_)));any_goals kernel_rfl)|(apply g_drN (id := 5) okM [[],[],[1],[1,2],[1,2,3],[],[5],[1,2,3,4,5,6],[0,5,6],[0,1,2,3,4,5,6,7,8],[0,1,2,3,4,5,6,7,8,9]] [([],[]),([],[]),([],[]),([],[]),([],[]),([],[]),([],[]),([],[]),([],[]),([],[]),([],[])] 0;(focus (refine dp 0 0 [32,33,34,35,36,37,38] [] pu1 ?_;refine dp 1 0 [31,36,37,8] [] pu1 ?_;refine dp 2 1 [31,36,37,8] [] (a_pure (sv := .one _) rfl) ?_;refine dp 3 3 [31,36,37,8] [] (a_pure (sv := .one _) rfl) ?_;refine dp 4 7 [31,36,37,8] [] puL ?_;refine dp 5 0 [31,32,33,34,35] [] pu1 ?_;refine dp 6 1 [31,32,33,34,35] [] (callD1 (n := _) 0 (θ := []) (hD := (sizeN_ok _ preB174))) ?_;refine dp 7 63 [31,8] [] (by exact puC) ?_;refine dp 8 134 [32,33,34,35,38] [] pu1 ?_;refine dp 9 511 [] [] pu1 ?_;refine dp 10 1023 [] [] (a_pure (sv := .one _) rfl) ?_;(refine d_nil ?_;refine dN ?_)));any_goals kernel_rfl)|((refine g_cond rfl (fun hc => ?_) (fun hc => ?_)) <;> (try simp only [dcB] at hc) <;> (try first|contradiction|(exfalso;omega)))
    · rw [j3,rcC_h hc,decide_eq_true hc]
      repeat refine cr ?_
      refine ends_id ?_
      refine endK [] (h2 := ?_) (h3 := ?_) (nd := ?_)
      all_goals (repeat' first|exact ce0|refine ce ?_|refine ce2 ?_ ?_|(refine Or.inr (bx_eq rfl rfl ?_);(try dsimp only [C.ren,C.ren.all]);(try exact rfl))|exact SVLe.refl|refine ceb ?_)
      all_goals first | exact (show nodupB _ = true from rfl) | exact Or.inr rfl | ((first | rfl | omega | (simp only [Nat.add_zero]; omega)))
    · rw [j3,show (B - n).toNat = 0 by omega,rcC_0]
      repeat refine cr ?_
      refine ends_id ?_
      refine endK [] (h2 := ?_) (h3 := ?_) (nd := ?_)
      all_goals (repeat' first|exact ce0|refine ce ?_|refine ce2 ?_ ?_|(refine Or.inr (bx_eq rfl rfl ?_);(try dsimp only [C.ren,C.ren.all]);(try exact rfl))|exact SVLe.refl|refine ceb ?_)
      all_goals first | exact (show nodupB _ = true from rfl) | exact Or.inr rfl | ((first | rfl | omega | (simp only [Nat.add_zero]; omega)))
    · have hi : i.toNat < p.length := by omega
      have hst := stC_ok g (List.getElem_mem hi) (c := ⟨i,a,b⟩) (m := 10 + n) ⟨q1,q2,q3⟩
      have e0 : (B - n).toNat = (B - (n + 1)).toNat + 1 := by omega
      rw [e0,rcC_s (by assumption) hi] at j3
      dsimp only at j3
      repeat' first|(apply p3;(first|exact pu1|exact a_add rfl rfl (by omega) (by omega));exact rfl)|refine cd ?_|(apply c4 0;exact callK1 (θ := [_]) (hD := (ctStep_ok p i a b g q1.1 hi (by omega) (by omega)));exact rfl;exact rfl;exact rfl;refine dM ?_)
      refine q_again (n + 1,stC (p[i.toNat]'hi) ⟨i,a,b⟩) [0] (by exact stk) ?_ ?_
      · refine ⟨by dsimp only; omega,by dsimp only; omega,?_,?_⟩
        · have e9 : 10 + (n + 1) = 10 + n + 1 := by omega
          dsimp only
          rw [e9]; exact hst
        · dsimp only
          rw [j3]
          simp only [Prod.mk.injEq,true_and,and_true]
          omega
      · dsimp only; omega
theorem validCounters_ok (p : List Ins) (i a b : Int) (g : PgOk p) (q : CtOk p 10 ⟨i,a,b⟩) : Does Tryz.prog 197 [.one (shN p),.agg [int i,int a,int b]] [] (.one (boo true)) [] := by
  have hn := g.n
  obtain ⟨q1,q2,q3⟩ := q
  dsimp only at q1 q2 q3
  have c1 : inB i 0 p.length = true := by unfold inB; rw [decide_eq_true_eq]; omega
  have c2 : inB a 0 1000000000000 = true := by unfold inB; rw [decide_eq_true_eq]; omega
  have c3 : inB b 0 1000000000000 = true := by unfold inB; rw [decide_eq_true_eq]; omega
  refine does_of (k := 0) Tryz.func197 rfl Tryz.ntmps197 rfl rfl fun w F0 S0 ρ0 => ?_
  dsimp only [argT,argH]
  repeat' first|(apply n3;exact a_new (gb := .bx _) rfl;exact rfl;refine dA ?_)|(apply p3;exact a_pure (sv := .one _) rfl;exact rfl)|refine cdn ?_|refine g_reg (id := 0) ?_
  first | refine g_turn (t_frzB (d := 3) (i := 0) rfl rfl rfl) ?_ | refine o_turn (t_frzB (d := 3) (i := 0) rfl rfl rfl) ?_
  repeat' first|refine cd ?_|(apply g_drN (id := 1) okM [[],[0],[],[2],[0,1,2,3],[0,1,2,3,4],[0,1,2,3,4,5],[0,1,2,3,4,5,6],[0,1,2,3,4,5,6,7],[0,1,2,3,4,5,6,7,8],[0,1,2,3,4,5,6,7,8,9],[0,1,2,3,4,5,6,7,8,9,10],[0,1,2,3,4,5,6,7,8,9,10,11],[0,1,2,3,4,5,6,7,8,9,10,11,12],[0,1,2,3,4,5,6,7,8,9,10,11,12,13],[0,1,2,3,4,5,6,7,8,9,10,11,12,13,14]] [([],[]),([],[]),([],[]),([],[]),([],[]),([],[]),([],[]),([],[]),([],[]),([],[]),([],[]),([],[]),([],[]),([],[]),([],[]),([],[])] 0;(focus (all_goals refine dp 0 0 [7,8] [] (a_pure (sv := .one _) rfl) ?_;all_goals refine dp 1 1 [7,8] [] puL ?_;all_goals refine dp 2 0 [5,6] [] pu1 ?_;all_goals refine dp 3 1 [5,6] [] (callD1 (n := _) 0 (θ := []) (hD := (sizeN_ok _ preB174))) ?_;all_goals refine dp 4 15 [] [] (callD1 (n := _) 0 (θ := []) (hD := (within_ok _ _ _))) ?_;all_goals (refine db 5 31 [] [] pu1 ?_ ?_ <;> (intro hc;first|cases hc|(try simp only [dcB] at hc);first|contradiction|(exfalso;omega)|skip));all_goals (refine dpy 6 63 [] [] (a_pure (sv := .one _) rfl) ?_);all_goals (refine dpy 7 127 [] [] puL ?_);all_goals (refine dpy 8 255 [] [] (callD1 (n := _) 0 (θ := []) (hD := (within_ok _ _ _))) ?_);all_goals refine dp 9 511 [] [] (a_pure (sv := .one _) rfl) ?_;all_goals (refine db 10 1023 [] [] pu1 ?_ ?_ <;> (intro hc;first|cases hc|(try simp only [dcB] at hc);first|contradiction|(exfalso;omega)|skip));all_goals (refine dpy 11 2047 [] [] (a_pure (sv := .one _) rfl) ?_);all_goals (refine dpy 12 4095 [] [] puL ?_);all_goals (refine dpy 13 8191 [] [] (callD1 (n := _) 0 (θ := []) (hD := (within_ok _ _ _))) ?_);all_goals refine dp 14 16383 [] [] (a_pure (sv := .one _) rfl) ?_;all_goals refine dp 15 32767 [] [] pu1 ?_;all_goals (refine d_nil ?_;refine dN ?_)));any_goals kernel_rfl)
  all_goals first | (exfalso; simp_all; done) | skip
  repeat refine cr ?_
  refine ends_id ?_
  refine endK [] (h2 := ?_) (h3 := ?_) (nd := ?_)
  all_goals (repeat' first|exact ce0|refine ce ?_|refine ce2 ?_ ?_|exact SVLe.refl|refine ceb ?_)
  all_goals first | exact (show nodupB _ = true from rfl) | exact Or.inr rfl | ((first | rfl | exact c3))
theorem counting_ok (p : List Ins) (i a b : Int) (g : PgOk p) (q : CtOk p 10 ⟨i,a,b⟩) : Does Tryz.prog 102 [.one (shN p),.agg [int i,int a,int b]] [] (.one (boo true)) [] := by
  refine does_of (k := 0) Tryz.func102 rfl Tryz.ntmps102 rfl rfl fun w F0 S0 ρ0 => ?_
  dsimp only [argT,argH]
  repeat' first|(apply n3;exact a_new (gb := .bx _) rfl;exact rfl;refine dA ?_)|(apply p3;(exact pu1);exact rfl)|refine cd ?_|(apply c4 0;exact callK1 (θ := []) (hD := (IsTwoCounter_ok p g));exact rfl;exact rfl;exact rfl;refine dM ?_)|(apply py3;exact rfl;exact rfl;(exact pu1);exact rfl;exact rfl)|(apply cy4 0;exact rfl;exact rfl;exact callK1 (θ := []) (hD := (validCounters_ok p i a b g q));exact rfl;exact rfl;exact rfl;exact rfl;refine dM ?_)
  all_goals first | contradiction | skip
  repeat refine cr ?_
  refine ends_id ?_
  refine endK [] (h2 := ?_) (h3 := ?_) (nd := ?_)
  all_goals (repeat' first|exact ce0|refine ce ?_|refine ce2 ?_ ?_|exact SVLe.refl|refine ceb ?_)
  all_goals first | exact (show nodupB _ = true from rfl) | exact Or.inr rfl | (rfl)
theorem RunCounters_ok (p : List Ins) (i a b : Int) (B : Int) (g : PgOk p) (q : CtOk p 10 ⟨i,a,b⟩) (h1 : 1 ≤ B) (h2 : B ≤ 1000) : Does Tryz.prog 29 [.one (shN p),.agg [int i,int a,int b],.one (int B)] [] (.tup [(true,ctC (rcC p B.toNat ⟨i,a,b⟩).1),(false,[int ((rcC p B.toNat ⟨i,a,b⟩).2.1 : Nat)]),(false,[boo (rcC p B.toNat ⟨i,a,b⟩).2.2]),(false,[int 0])]) [] := by
  have c1 : inB B 1 20000 = true := by unfold inB; rw [decide_eq_true_eq]; omega
  refine does_of (k := 0) Tryz.func29 rfl Tryz.ntmps29 rfl rfl fun w F0 S0 ρ0 => ?_
  dsimp only [argT,argH]
  repeat' first|(apply n3;exact a_new (gb := .bx _) rfl;exact rfl;refine dA ?_)|(apply p3;(first|exact pu1|exact a_ne rfl rfl);exact rfl)|refine cd ?_|(apply w3;exact a_st_bx rfl rfl rfl rfl (fN rfl rfl) (Nat.le_of_ble_eq_true rfl) rfl;exact rfl;refine dS ?_)|(apply c4 0;exact callK1 (θ := []) (hD := (counting_ok p i a b g q));exact rfl;exact rfl;exact rfl;refine dM ?_)|(apply c4 0;exact callK1 (θ := []) (hD := (budgetOk_ok _));exact rfl;exact rfl;exact rfl;refine dM ?_)|(apply c4 0;exact callK1 (θ := [_]) (hD := (runC_ok p ⟨i,a,b⟩ B g q (by omega) h2));exact rfl;exact rfl;exact rfl;refine dM ?_)|((refine g_cond rfl (fun hc => ?_) (fun hc => ?_)) <;> (try simp only [dcB] at hc) <;> (try first|contradiction|(exfalso;omega)))
  all_goals first | contradiction | (exfalso; simp_all; done) | skip
  simp only [setRow,scC,List.map_cons,List.map_nil,List.set_cons_zero,List.set_cons_succ,Nat.zero_add,List.getElem?_cons_zero,List.getElem?_cons_succ,List.take_succ_cons,List.take_zero,List.drop_zero,List.cons_append,List.nil_append,List.drop_succ_cons,List.drop_nil,List.append_nil,List.append_eq]
  repeat refine cr ?_
  refine ends_id ?_
  refine endK [] (h2 := ?_) (h3 := ?_) (nd := ?_)
  all_goals (repeat' first|exact ce0|refine ce ?_|refine ce2 ?_ ?_|exact SVLe.refl|refine ceb ?_)
  all_goals first | exact (show nodupB _ = true from rfl) | exact Or.inr rfl | (rfl)
end Go.Proofs.YtbblkhjjgnpbaaaGreatDoor
end
section
set_option linter.unusedVariables false
set_option linter.unusedSimpArgs false
set_option maxRecDepth 100000
set_option maxHeartbeats 1000000
namespace Go.Proofs.YtbblkhjjgnpbaaaGreatDoor
open Go Foot Go.RowKit
abbrev ctL (a b : Int) : List Int := [a,b,0,0,0,0,0,0,0,0,0,0,0,0,0,0,0,0,0,0,0,0,0,0]
theorem preB175 {p : Prop} (h : p := by first | with_reducible assumption | omega | (simp only [List.length_append,List.length_cons,List.length_nil,List.length_set,List.length_replicate,List.length_take,List.length_drop,List.length_tail,List.length_dropLast,List.length_reverse] at *; omega) | exact mem_len (by assumption) (by omega) | (with_reducible refine Int.le_trans (Int.ofNat_le.2 (trimR_len _)) ?_; simp only [List.length_cons,List.length_tail]; omega) | (exact (ruAt_ok (by assumption) (by assumption) (by assumption)).2.1) | (exact (ruAt_ok (by assumption) (by assumption) (by assumption)).2.1) | (have := vMach_bd (by assumption); omega) | (simp only [mC_ch,mC_tu]; omega) | (have := vTag_bd (by assumption); omega) | (have := (‹Gd _ _›).le; omega) | (exact tgHalts_no (by assumption)) | (exact tgHead (by assumption) (by assumption) (by assumption)) | (exact Int.le_trans (tgStep_gd (by assumption) (by assumption) (by assumption) (by assumption)).le (by decide)) | (exact vTag_r (by assumption)) | (with_reducible refine Int.le_trans (Int.ofNat_le.2 (pushL_len _ _)) ?_; simp only [List.length_dropLast]; omega) | exact ls_at (by assumption) (by omega) | exact pt_gd (by assumption) | exact lv_at (by assumption) (by omega) | exact pt_gd (lv_at (by assumption) (by omega)) | exact (ask_ok (by assumption)).1 | exact (ask_ok (by assumption)).2.1 | exact (ask_ok (by assumption)).2.2.1 | exact (ask_ok (by assumption)).2.2.2 | trivial) : p := h
theorem stepStore_ok (p : List Ins) (i a b : Int) (g : PgOk p) (h0 : 0 ≤ i) (hi : i.toNat < p.length) (ha : 0 ≤ a ∧ a ≤ 1000) (hb : 0 ≤ b ∧ b ≤ 1000) : Does Tryz.prog 204 [.one (shN p),.one (.gv 0)] [.bx [int i,.gv 1],roI (ctL a b)] (.one (boo true)) [.bx [int (stC (p[i.toNat]'hi) ⟨i,a,b⟩).i,.gv 1],roI (ctL (stC (p[i.toNat]'hi) ⟨i,a,b⟩).a (stC (p[i.toNat]'hi) ⟨i,a,b⟩).b)] := by
  have n := g.n
  obtain ⟨x1,x2,x3⟩ := pg_at g (List.getElem_mem hi)
  have hl24 : (ctL a b).length = 24 := rfl
  have ha0 : (ctL a b)[0]'(by simp) = a := rfl
  have hb1 : (ctL a b)[1]'(by simp) = b := rfl
  by_cases hr : (p[i.toNat]'hi).r = 1
  · by_cases hk : (p[i.toNat]'hi).k = 0
    · have ev : stV (p[i.toNat]'hi) b = (b + 1,(p[i.toNat]'hi).t) := by unfold stV; rw [if_pos hk]
      have ec : stC (p[i.toNat]'hi) ⟨i,a,b⟩ = ⟨(p[i.toNat]'hi).t,a,b + 1⟩ := by unfold stC; rw [if_pos hr]; dsimp only; rw [ev]
      rw [ec]
      skip
      refine does_of (k := 2) Tryz.func204 rfl Tryz.ntmps204 rfl rfl fun w F0 S0 ρ0 => ?_
      dsimp only [argT,argH]
      repeat' first|(apply n3;exact a_new (gb := .bx _) rfl;exact rfl;refine dA ?_)|(apply p3;(first|exact pu1|exact puI);exact rfl)|refine cdn ?_|refine g_reg (id := 0) ?_|refine g_reg (id := 1) ?_|(apply w3;(exact a_st_bx rfl rfl rfl rfl (fN rfl rfl) (Nat.le_of_ble_eq_true rfl) rfl);exact rfl;refine dS ?_)
      simp only [setRow,scC,List.map_cons,List.map_nil,List.set_cons_zero,List.set_cons_succ,Nat.zero_add,List.getElem?_cons_zero,List.getElem?_cons_succ,List.take_succ_cons,List.take_zero,List.drop_zero,List.cons_append,List.nil_append,List.drop_succ_cons,List.drop_nil,List.append_nil,List.append_eq]
      repeat' first|(apply p3;(first|exact pu1|exact puC);exact rfl)|refine cd ?_|(apply g_drN (id := 2) okM [[],[0],[0,1],[0,1,2],[],[4],[0,1,2,3,4,5],[0,1,2,3,4,5,6]] [([],[]),([],[]),([],[]),([],[]),([],[]),([],[]),([],[]),([],[])] 0;(focus (refine dp 0 0 [18,19] [] pu1 ?_;refine dp 1 1 [18,19] [] (a_pure (sv := .one _) rfl) ?_;refine dp 2 3 [18,19] [] (a_pure (sv := .one _) rfl) ?_;refine dp 3 7 [18,19] [] puL ?_;refine dp 4 0 [14,15,16,17] [] (a_pure (sv := .one _) rfl) ?_;refine dp 5 1 [14,15,16,17] [] puL ?_;refine dp 6 63 [] [] puI ?_;refine dp 7 127 [] [] pu1 ?_;(refine d_nil ?_;refine dN ?_)));any_goals kernel_rfl)
      simp only [hr,show Int.toNat 1 = 1 from rfl,show Int.toNat 0 = 0 from rfl]
      repeat' first|(apply p3;(first|exact pu1|exact puL|exact puC|exact a_add rfl rfl (by omega) (by omega));exact rfl)|refine cd ?_|(apply w3;(first|exact a_st_bx rfl rfl rfl rfl (fN rfl rfl) (Nat.le_of_ble_eq_true rfl) rfl|exact a_st_rowI rfl rfl rfl rfl (fN rfl rfl) bnd);exact rfl;refine dS ?_)|((refine g_cond rfl (fun hc => ?_) (fun hc => ?_)) <;> (try simp only [dcB] at hc) <;> (try first|contradiction|(exfalso;omega)))
      repeat refine cr ?_
      refine ends_id ?_
      refine endK [] (h2 := ?_) (h3 := ?_) (nd := ?_)
      all_goals (repeat' first|exact ce0|refine ce ?_|refine ce2 ?_ ?_|(refine Or.inr (bx_eq rfl rfl ?_);(try dsimp only [C.ren,C.ren.all]);(try exact rfl))|exact SVLe.refl|refine ceb ?_)
      all_goals first | exact (show nodupB _ = true from rfl) | exact Or.inr rfl | ((first | rfl | exact decide_eq_true (by omega) | exact (show decide (b + 1 ≤ 1000000) = true from decide_eq_true (by omega))))
    · by_cases hv : 0 < b
      · have ev : stV (p[i.toNat]'hi) b = (b - 1,(p[i.toNat]'hi).t) := by unfold stV; rw [if_neg hk,if_pos hv]
        have ec : stC (p[i.toNat]'hi) ⟨i,a,b⟩ = ⟨(p[i.toNat]'hi).t,a,b - 1⟩ := by unfold stC; rw [if_pos hr]; dsimp only; rw [ev]
        rw [ec]
        refine does_of (k := 2) Tryz.func204 rfl Tryz.ntmps204 rfl rfl fun w F0 S0 ρ0 => ?_
        dsimp only [argT,argH]
        repeat' first|(apply n3;exact a_new (gb := .bx _) rfl;exact rfl;refine dA ?_)|(apply p3;(first|exact pu1|exact puI);exact rfl)|refine cdn ?_|refine g_reg (id := 0) ?_|refine g_reg (id := 1) ?_|(apply w3;(exact a_st_bx rfl rfl rfl rfl (fN rfl rfl) (Nat.le_of_ble_eq_true rfl) rfl);exact rfl;refine dS ?_)
        simp only [setRow,scC,List.map_cons,List.map_nil,List.set_cons_zero,List.set_cons_succ,Nat.zero_add,List.getElem?_cons_zero,List.getElem?_cons_succ,List.take_succ_cons,List.take_zero,List.drop_zero,List.cons_append,List.nil_append,List.drop_succ_cons,List.drop_nil,List.append_nil,List.append_eq]
        repeat' first|(apply p3;(first|exact pu1|exact puC);exact rfl)|refine cd ?_|(apply g_drN (id := 2) okM [[],[0],[0,1],[0,1,2],[],[4],[0,1,2,3,4,5],[0,1,2,3,4,5,6]] [([],[]),([],[]),([],[]),([],[]),([],[]),([],[]),([],[]),([],[])] 0;(focus (refine dp 0 0 [18,19] [] pu1 ?_;refine dp 1 1 [18,19] [] (a_pure (sv := .one _) rfl) ?_;refine dp 2 3 [18,19] [] (a_pure (sv := .one _) rfl) ?_;refine dp 3 7 [18,19] [] puL ?_;refine dp 4 0 [14,15,16,17] [] (a_pure (sv := .one _) rfl) ?_;refine dp 5 1 [14,15,16,17] [] puL ?_;refine dp 6 63 [] [] puI ?_;refine dp 7 127 [] [] pu1 ?_;(refine d_nil ?_;refine dN ?_)));any_goals kernel_rfl)
        simp only [hr,show Int.toNat 1 = 1 from rfl,show Int.toNat 0 = 0 from rfl]
        repeat' first|(apply p3;(first|exact pu1|exact puL|exact puC|exact a_sub rfl rfl (by omega) (by omega));exact rfl)|refine cd ?_|(apply w3;(first|exact a_st_bx rfl rfl rfl rfl (fN rfl rfl) (Nat.le_of_ble_eq_true rfl) rfl|exact a_st_rowI rfl rfl rfl rfl (fN rfl rfl) bnd);exact rfl;refine dS ?_)|((refine g_cond rfl (fun hc => ?_) (fun hc => ?_)) <;> (try simp only [dcB] at hc) <;> (try first|contradiction|(exfalso;omega)))
        repeat refine cr ?_
        refine ends_id ?_
        refine endK [] (h2 := ?_) (h3 := ?_) (nd := ?_)
        all_goals (repeat' first|exact ce0|refine ce ?_|refine ce2 ?_ ?_|(refine Or.inr (bx_eq rfl rfl ?_);(try dsimp only [C.ren,C.ren.all]);(try exact rfl))|exact SVLe.refl|refine ceb ?_)
        all_goals first | exact (show nodupB _ = true from rfl) | exact Or.inr rfl | ((first | rfl | exact decide_eq_true (by omega) | exact (show decide (b - 1 ≤ 1000000) = true from decide_eq_true (by omega))))
      · have ev : stV (p[i.toNat]'hi) b = (b,(p[i.toNat]'hi).e) := by unfold stV; rw [if_neg hk,if_neg hv]
        have ec : stC (p[i.toNat]'hi) ⟨i,a,b⟩ = ⟨(p[i.toNat]'hi).e,a,b⟩ := by unfold stC; rw [if_pos hr]; dsimp only; rw [ev]
        rw [ec]
        refine does_of (k := 2) Tryz.func204 rfl Tryz.ntmps204 rfl rfl fun w F0 S0 ρ0 => ?_
        dsimp only [argT,argH]
        repeat' first|(apply n3;exact a_new (gb := .bx _) rfl;exact rfl;refine dA ?_)|(apply p3;(first|exact pu1|exact puI);exact rfl)|refine cdn ?_|refine g_reg (id := 0) ?_|refine g_reg (id := 1) ?_|(apply w3;(exact a_st_bx rfl rfl rfl rfl (fN rfl rfl) (Nat.le_of_ble_eq_true rfl) rfl);exact rfl;refine dS ?_)
        simp only [setRow,scC,List.map_cons,List.map_nil,List.set_cons_zero,List.set_cons_succ,Nat.zero_add,List.getElem?_cons_zero,List.getElem?_cons_succ,List.take_succ_cons,List.take_zero,List.drop_zero,List.cons_append,List.nil_append,List.drop_succ_cons,List.drop_nil,List.append_nil,List.append_eq]
        repeat' first|(apply p3;(first|exact pu1|exact puC);exact rfl)|refine cd ?_|(apply g_drN (id := 2) okM [[],[0],[0,1],[0,1,2],[],[4],[0,1,2,3,4,5],[0,1,2,3,4,5,6]] [([],[]),([],[]),([],[]),([],[]),([],[]),([],[]),([],[]),([],[])] 0;(focus (refine dp 0 0 [18,19] [] pu1 ?_;refine dp 1 1 [18,19] [] (a_pure (sv := .one _) rfl) ?_;refine dp 2 3 [18,19] [] (a_pure (sv := .one _) rfl) ?_;refine dp 3 7 [18,19] [] puL ?_;refine dp 4 0 [14,15,16,17] [] (a_pure (sv := .one _) rfl) ?_;refine dp 5 1 [14,15,16,17] [] puL ?_;refine dp 6 63 [] [] puI ?_;refine dp 7 127 [] [] pu1 ?_;(refine d_nil ?_;refine dN ?_)));any_goals kernel_rfl)
        simp only [hr,show Int.toNat 1 = 1 from rfl,show Int.toNat 0 = 0 from rfl]
        repeat' first|(apply p3;(first|exact pu1|exact puL|exact puC);exact rfl)|refine cd ?_|(apply w3;(exact a_st_bx rfl rfl rfl rfl (fN rfl rfl) (Nat.le_of_ble_eq_true rfl) rfl);exact rfl;refine dS ?_)|((refine g_cond rfl (fun hc => ?_) (fun hc => ?_)) <;> (try simp only [dcB] at hc) <;> (try first|contradiction|(exfalso;omega)))
        repeat refine cr ?_
        refine ends_id ?_
        refine endK [] (h2 := ?_) (h3 := ?_) (nd := ?_)
        all_goals (repeat' first|exact ce0|refine ce ?_|refine ce2 ?_ ?_|(refine Or.inr (bx_eq rfl rfl ?_);(try dsimp only [C.ren,C.ren.all]);(try exact rfl))|exact SVLe.refl|refine ceb ?_)
        all_goals first | exact (show nodupB _ = true from rfl) | exact Or.inr rfl | ((first | rfl | exact decide_eq_true (by omega) | exact (show decide (b ≤ 1000000) = true from decide_eq_true (by omega))))
  · have hr0 : (p[i.toNat]'hi).r = 0 := by omega
    by_cases hk : (p[i.toNat]'hi).k = 0
    · have ev : stV (p[i.toNat]'hi) a = (a + 1,(p[i.toNat]'hi).t) := by unfold stV; rw [if_pos hk]
      have ec : stC (p[i.toNat]'hi) ⟨i,a,b⟩ = ⟨(p[i.toNat]'hi).t,a + 1,b⟩ := by unfold stC; rw [if_neg hr]; dsimp only; rw [ev]
      rw [ec]
      refine does_of (k := 2) Tryz.func204 rfl Tryz.ntmps204 rfl rfl fun w F0 S0 ρ0 => ?_
      dsimp only [argT,argH]
      repeat' first|(apply n3;exact a_new (gb := .bx _) rfl;exact rfl;refine dA ?_)|(apply p3;(first|exact pu1|exact puI);exact rfl)|refine cdn ?_|refine g_reg (id := 0) ?_|refine g_reg (id := 1) ?_|(apply w3;(exact a_st_bx rfl rfl rfl rfl (fN rfl rfl) (Nat.le_of_ble_eq_true rfl) rfl);exact rfl;refine dS ?_)
      simp only [setRow,scC,List.map_cons,List.map_nil,List.set_cons_zero,List.set_cons_succ,Nat.zero_add,List.getElem?_cons_zero,List.getElem?_cons_succ,List.take_succ_cons,List.take_zero,List.drop_zero,List.cons_append,List.nil_append,List.drop_succ_cons,List.drop_nil,List.append_nil,List.append_eq]
      repeat' first|(apply p3;(first|exact pu1|exact puC);exact rfl)|refine cd ?_|(apply g_drN (id := 2) okM [[],[0],[0,1],[0,1,2],[],[4],[0,1,2,3,4,5],[0,1,2,3,4,5,6]] [([],[]),([],[]),([],[]),([],[]),([],[]),([],[]),([],[]),([],[])] 0;(focus (refine dp 0 0 [18,19] [] pu1 ?_;refine dp 1 1 [18,19] [] (a_pure (sv := .one _) rfl) ?_;refine dp 2 3 [18,19] [] (a_pure (sv := .one _) rfl) ?_;refine dp 3 7 [18,19] [] puL ?_;refine dp 4 0 [14,15,16,17] [] (a_pure (sv := .one _) rfl) ?_;refine dp 5 1 [14,15,16,17] [] puL ?_;refine dp 6 63 [] [] puI ?_;refine dp 7 127 [] [] pu1 ?_;(refine d_nil ?_;refine dN ?_)));any_goals kernel_rfl)
      simp only [hr0,show Int.toNat 1 = 1 from rfl,show Int.toNat 0 = 0 from rfl]
      repeat' first|(apply p3;(first|exact pu1|exact puL|exact puC|exact a_add rfl rfl (by omega) (by omega));exact rfl)|refine cd ?_|(apply w3;(first|exact a_st_bx rfl rfl rfl rfl (fN rfl rfl) (Nat.le_of_ble_eq_true rfl) rfl|exact a_st_rowI rfl rfl rfl rfl (fN rfl rfl) bnd);exact rfl;refine dS ?_)|((refine g_cond rfl (fun hc => ?_) (fun hc => ?_)) <;> (try simp only [dcB] at hc) <;> (try first|contradiction|(exfalso;omega)))
      repeat refine cr ?_
      refine ends_id ?_
      refine endK [] (h2 := ?_) (h3 := ?_) (nd := ?_)
      all_goals (repeat' first|exact ce0|refine ce ?_|refine ce2 ?_ ?_|(refine Or.inr (bx_eq rfl rfl ?_);(try dsimp only [C.ren,C.ren.all]);(try exact rfl))|exact SVLe.refl|refine ceb ?_)
      all_goals first | exact (show nodupB _ = true from rfl) | exact Or.inr rfl | ((first | rfl | exact decide_eq_true (by omega) | exact (show decide (a + 1 ≤ 1000000) = true from decide_eq_true (by omega))))
    · by_cases hv : 0 < a
      · have ev : stV (p[i.toNat]'hi) a = (a - 1,(p[i.toNat]'hi).t) := by unfold stV; rw [if_neg hk,if_pos hv]
        have ec : stC (p[i.toNat]'hi) ⟨i,a,b⟩ = ⟨(p[i.toNat]'hi).t,a - 1,b⟩ := by unfold stC; rw [if_neg hr]; dsimp only; rw [ev]
        rw [ec]
        refine does_of (k := 2) Tryz.func204 rfl Tryz.ntmps204 rfl rfl fun w F0 S0 ρ0 => ?_
        dsimp only [argT,argH]
        repeat' first|(apply n3;exact a_new (gb := .bx _) rfl;exact rfl;refine dA ?_)|(apply p3;(first|exact pu1|exact puI);exact rfl)|refine cdn ?_|refine g_reg (id := 0) ?_|refine g_reg (id := 1) ?_|(apply w3;(exact a_st_bx rfl rfl rfl rfl (fN rfl rfl) (Nat.le_of_ble_eq_true rfl) rfl);exact rfl;refine dS ?_)
        simp only [setRow,scC,List.map_cons,List.map_nil,List.set_cons_zero,List.set_cons_succ,Nat.zero_add,List.getElem?_cons_zero,List.getElem?_cons_succ,List.take_succ_cons,List.take_zero,List.drop_zero,List.cons_append,List.nil_append,List.drop_succ_cons,List.drop_nil,List.append_nil,List.append_eq]
        repeat' first|(apply p3;(first|exact pu1|exact puC);exact rfl)|refine cd ?_|(apply g_drN (id := 2) okM [[],[0],[0,1],[0,1,2],[],[4],[0,1,2,3,4,5],[0,1,2,3,4,5,6]] [([],[]),([],[]),([],[]),([],[]),([],[]),([],[]),([],[]),([],[])] 0;(focus (refine dp 0 0 [18,19] [] pu1 ?_;refine dp 1 1 [18,19] [] (a_pure (sv := .one _) rfl) ?_;refine dp 2 3 [18,19] [] (a_pure (sv := .one _) rfl) ?_;refine dp 3 7 [18,19] [] puL ?_;refine dp 4 0 [14,15,16,17] [] (a_pure (sv := .one _) rfl) ?_;refine dp 5 1 [14,15,16,17] [] puL ?_;refine dp 6 63 [] [] puI ?_;refine dp 7 127 [] [] pu1 ?_;(refine d_nil ?_;refine dN ?_)));any_goals kernel_rfl)
        simp only [hr0,show Int.toNat 1 = 1 from rfl,show Int.toNat 0 = 0 from rfl]
        repeat' first|(apply p3;(first|exact pu1|exact puL|exact puC|exact a_sub rfl rfl (by omega) (by omega));exact rfl)|refine cd ?_|(apply w3;(first|exact a_st_bx rfl rfl rfl rfl (fN rfl rfl) (Nat.le_of_ble_eq_true rfl) rfl|exact a_st_rowI rfl rfl rfl rfl (fN rfl rfl) bnd);exact rfl;refine dS ?_)|((refine g_cond rfl (fun hc => ?_) (fun hc => ?_)) <;> (try simp only [dcB] at hc) <;> (try first|contradiction|(exfalso;omega)))
        repeat refine cr ?_
        refine ends_id ?_
        refine endK [] (h2 := ?_) (h3 := ?_) (nd := ?_)
        all_goals (repeat' first|exact ce0|refine ce ?_|refine ce2 ?_ ?_|(refine Or.inr (bx_eq rfl rfl ?_);(try dsimp only [C.ren,C.ren.all]);(try exact rfl))|exact SVLe.refl|refine ceb ?_)
        all_goals first | exact (show nodupB _ = true from rfl) | exact Or.inr rfl | ((first | rfl | exact decide_eq_true (by omega) | exact (show decide (a - 1 ≤ 1000000) = true from decide_eq_true (by omega))))
      · have ev : stV (p[i.toNat]'hi) a = (a,(p[i.toNat]'hi).e) := by unfold stV; rw [if_neg hk,if_neg hv]
        have ec : stC (p[i.toNat]'hi) ⟨i,a,b⟩ = ⟨(p[i.toNat]'hi).e,a,b⟩ := by unfold stC; rw [if_neg hr]; dsimp only; rw [ev]
        rw [ec]
        refine does_of (k := 2) Tryz.func204 rfl Tryz.ntmps204 rfl rfl fun w F0 S0 ρ0 => ?_
        dsimp only [argT,argH]
        repeat' first|(apply n3;exact a_new (gb := .bx _) rfl;exact rfl;refine dA ?_)|(apply p3;(first|exact pu1|exact puI);exact rfl)|refine cdn ?_|refine g_reg (id := 0) ?_|refine g_reg (id := 1) ?_|(apply w3;(exact a_st_bx rfl rfl rfl rfl (fN rfl rfl) (Nat.le_of_ble_eq_true rfl) rfl);exact rfl;refine dS ?_)
        simp only [setRow,scC,List.map_cons,List.map_nil,List.set_cons_zero,List.set_cons_succ,Nat.zero_add,List.getElem?_cons_zero,List.getElem?_cons_succ,List.take_succ_cons,List.take_zero,List.drop_zero,List.cons_append,List.nil_append,List.drop_succ_cons,List.drop_nil,List.append_nil,List.append_eq]
        repeat' first|(apply p3;(first|exact pu1|exact puC);exact rfl)|refine cd ?_|(apply g_drN (id := 2) okM [[],[0],[0,1],[0,1,2],[],[4],[0,1,2,3,4,5],[0,1,2,3,4,5,6]] [([],[]),([],[]),([],[]),([],[]),([],[]),([],[]),([],[]),([],[])] 0;(focus (refine dp 0 0 [18,19] [] pu1 ?_;refine dp 1 1 [18,19] [] (a_pure (sv := .one _) rfl) ?_;refine dp 2 3 [18,19] [] (a_pure (sv := .one _) rfl) ?_;refine dp 3 7 [18,19] [] puL ?_;refine dp 4 0 [14,15,16,17] [] (a_pure (sv := .one _) rfl) ?_;refine dp 5 1 [14,15,16,17] [] puL ?_;refine dp 6 63 [] [] puI ?_;refine dp 7 127 [] [] pu1 ?_;(refine d_nil ?_;refine dN ?_)));any_goals kernel_rfl)
        simp only [hr0,show Int.toNat 1 = 1 from rfl,show Int.toNat 0 = 0 from rfl]
        repeat' first|(apply p3;(first|exact pu1|exact puL|exact puC);exact rfl)|refine cd ?_|(apply w3;(exact a_st_bx rfl rfl rfl rfl (fN rfl rfl) (Nat.le_of_ble_eq_true rfl) rfl);exact rfl;refine dS ?_)|((refine g_cond rfl (fun hc => ?_) (fun hc => ?_)) <;> (try simp only [dcB] at hc) <;> (try first|contradiction|(exfalso;omega)))
        repeat refine cr ?_
        refine ends_id ?_
        refine endK [] (h2 := ?_) (h3 := ?_) (nd := ?_)
        all_goals (repeat' first|exact ce0|refine ce ?_|refine ce2 ?_ ?_|(refine Or.inr (bx_eq rfl rfl ?_);(try dsimp only [C.ren,C.ren.all]);(try exact rfl))|exact SVLe.refl|refine ceb ?_)
        all_goals first | exact (show nodupB _ = true from rfl) | exact Or.inr rfl | ((first | rfl | exact decide_eq_true (by omega) | exact (show decide (a ≤ 1000000) = true from decide_eq_true (by omega))))
theorem visP_ok (i : Int) (l : List Int) : Does Tryz.prog 112 [.agg [int i,shI l]] [] (.tup []) [] := by
  refine does_of (k := 0) Tryz.func112 rfl Tryz.ntmps112 rfl rfl fun w F0 S0 ρ0 => ?_
  dsimp only [argT,argH]
  repeat' first|(apply n3;exact a_new (gb := .bx _) rfl;exact rfl;refine dA ?_)|refine cd ?_
  repeat refine cr ?_
  refine ends_id ?_
  refine endK [] (h2 := ?_) (h3 := ?_) (nd := ?_)
  all_goals (repeat' first|exact ce0|refine ce ?_|refine ce2 ?_ ?_|exact SVLe.refl|refine ceb ?_)
  all_goals first | exact (show nodupB _ = true from rfl) | exact Or.inr rfl | (rfl)
theorem runStore_ok (p : List Ins) (c : Ct) (B : Int) (g : PgOk p) (hc0 : CtOk p 10 c) (h1 : 0 ≤ B) (h2 : B ≤ 900) : Does Tryz.prog 111 [.one (shN p),.one (.gv 0),.one (int B),.one (.d (.fn (.func 112) []))] [.bx [int c.i,.gv 1],roI (ctL c.a c.b)] (.tup [(false,[int ((rcC p B.toNat c).2.1 : Nat)]),(false,[boo (rcC p B.toNat c).2.2]),(false,[int 0])]) [.bx [int (rcC p B.toNat c).1.i,.gv 1],roI (ctL (rcC p B.toNat c).1.a (rcC p B.toNat c).1.b)] := by
  have hn := g.n
  refine does_of (k := 2) Tryz.func111 rfl Tryz.ntmps111 rfl rfl fun w F0 S0 ρ0 => ?_
  dsimp only [argT,argH]
  repeat' first|(apply p3;(exact pu1);exact rfl)|refine cd ?_
  refine g_loop_id ?_
  refine loopK [0,1,2,3,8,9,10] [0,1] (fun y : Int × Ct => 0 ≤ y.1 ∧ y.1 ≤ B ∧ CtOk p (10 + y.1) y.2 ∧ rcC p B.toNat c = ((rcC p (B - y.1).toNat y.2).1,y.1.toNat + (rcC p (B - y.1).toNat y.2).2.1,(rcC p (B - y.1).toNat y.2).2.2)) (fun y => [(11,.one (int y.1))]) (fun y => [(0,.bx [int y.2.i,.gv 1]),(1,roI (ctL y.2.a y.2.b))]) (fun y => (B - y.1).toNat) ((0 : Int),c) [0,1] (hI := ?_) (hr := ?_)
  · exact ⟨by simp,by dsimp only; omega,by simpa using hc0,by simp⟩
  · rintro ⟨n,⟨i,a,b⟩⟩ ⟨j0,j1,j2,j3⟩
    dsimp only [List.cons_append,List.nil_append] at *
    skip
    repeat' first|refine cdn ?_
    obtain ⟨q1,q2,q3⟩ := j2
    dsimp only at q1 q2 q3
    repeat' first|(apply p3;(exact pu1);exact rfl)|refine cdn ?_|refine g_reg (id := 3) ?_|(apply c4 0;exact callK1 (θ := []) (hD := (visP_ok _ _));exact rfl;exact rfl;exact rfl;refine dM ?_)|(apply g_drN (id := 4) okM [[],[0],[0,1],[0,1,2],[],[4],[0,1,2,3,4,5],[0,1,2,3,4,5,6],[0,1,2,3,4,5,6,7],[0,1,2,3,4,5,6,7],[0,1,2,3,4,5,6,7,8,9],[0,1,2,3,4,5,6,7,8,9,10]] [([],[]),([],[]),([],[]),([],[]),([],[]),([],[]),([],[]),([],[]),([],[]),([],[]),([],[]),([],[])] 0;(focus (all_goals refine dp 0 0 [23,24] [] pu1 ?_;all_goals refine dp 1 1 [23,24] [] (a_pure (sv := .one _) rfl) ?_;all_goals refine dp 2 3 [23,24] [] (a_pure (sv := .one _) rfl) ?_;all_goals refine dp 3 7 [23,24] [] puL ?_;all_goals refine dp 4 0 [19,20,21,22] [] pu1 ?_;all_goals refine dp 5 1 [19,20,21,22] [] (callD1 (n := _) 0 (θ := []) (hD := (sizeN_ok _ preB175))) ?_;all_goals refine dp 6 63 [] [] (by exact puC) ?_;all_goals (refine db 7 127 [] [] pu1 ?_ ?_ <;> (intro hc;first|cases hc|(try simp only [dcB] at hc);first|contradiction|(exfalso;omega)|skip));all_goals (first|refine dn 8 255 [28] [] ?_|refine dpy 8 255 [28] [] pu1 ?_);all_goals (first|refine dn 9 510 [27] [] ?_|refine dpy 9 510 [27] [] pu1 ?_);all_goals (first|refine dn 10 1023 [] [] ?_|refine dpy 10 1023 [] [] (by first|exact puC|exact a_eqS rfl rfl rfl) ?_);all_goals refine dp 11 2047 [] [] (a_pure (sv := .one _) rfl) ?_;all_goals (refine d_nil ?_;refine dN ?_)));any_goals kernel_rfl)|(apply g_drN (id := 5) okM [[],[],[1],[1,2],[1,2,3],[],[5],[1,2,3,4,5,6],[0,5,6],[0,1,2,3,4,5,6,7,8],[0,1,2,3,4,5,6,7,8,9]] [([],[]),([],[]),([],[]),([],[]),([],[]),([],[]),([],[]),([],[]),([],[]),([],[]),([],[])] 0;(focus (refine dp 0 0 [32,33,34,35,36,37,38] [] pu1 ?_;refine dp 1 0 [31,36,37,8] [] pu1 ?_;refine dp 2 1 [31,36,37,8] [] (a_pure (sv := .one _) rfl) ?_;refine dp 3 3 [31,36,37,8] [] (a_pure (sv := .one _) rfl) ?_;refine dp 4 7 [31,36,37,8] [] puL ?_;refine dp 5 0 [31,32,33,34,35] [] pu1 ?_;refine dp 6 1 [31,32,33,34,35] [] (callD1 (n := _) 0 (θ := []) (hD := (sizeN_ok _ preB175))) ?_;refine dp 7 63 [31,8] [] (by exact puC) ?_;refine dp 8 134 [32,33,34,35,38] [] pu1 ?_;refine dp 9 511 [] [] pu1 ?_;refine dp 10 1023 [] [] (a_pure (sv := .one _) rfl) ?_;(refine d_nil ?_;refine dN ?_)));any_goals kernel_rfl)|((refine g_cond rfl (fun hc => ?_) (fun hc => ?_)) <;> (try simp only [dcB] at hc) <;> (try first|contradiction|(exfalso;omega)))
    · rw [j3,rcC_h hc,decide_eq_true hc]
      repeat refine cr ?_
      refine ends_id ?_
      refine endK [] (h2 := ?_) (h3 := ?_) (nd := ?_)
      all_goals (repeat' first|exact ce0|refine ce ?_|refine ce2 ?_ ?_|(refine Or.inr (bx_eq rfl rfl ?_);(try dsimp only [C.ren,C.ren.all]);(try exact rfl))|exact SVLe.refl|refine ceb ?_)
      all_goals first | exact (show nodupB _ = true from rfl) | exact Or.inr rfl | ((first | rfl | omega | (simp only [Nat.add_zero]; omega)))
    · rw [j3,show (B - n).toNat = 0 by omega,rcC_0]
      repeat refine cr ?_
      refine ends_id ?_
      refine endK [] (h2 := ?_) (h3 := ?_) (nd := ?_)
      all_goals (repeat' first|exact ce0|refine ce ?_|refine ce2 ?_ ?_|(refine Or.inr (bx_eq rfl rfl ?_);(try dsimp only [C.ren,C.ren.all]);(try exact rfl))|exact SVLe.refl|refine ceb ?_)
      all_goals first | exact (show nodupB _ = true from rfl) | exact Or.inr rfl | ((first | rfl | omega | (simp only [Nat.add_zero]; omega)))
    · have hi : i.toNat < p.length := by omega
      have hst := stC_ok g (List.getElem_mem hi) (c := ⟨i,a,b⟩) (m := 10 + n) ⟨q1,q2,q3⟩
      have e0 : (B - n).toNat = (B - (n + 1)).toNat + 1 := by omega
      rw [e0,rcC_s (by assumption) hi] at j3
      dsimp only at j3
      repeat' first|(apply p3;(first|exact pu1|exact a_add rfl rfl (by omega) (by omega));exact rfl)|refine cd ?_|(apply c4 0;exact callK1 (θ := [_,_]) (hD := (stepStore_ok p i a b g q1.1 hi (by omega) (by omega)));exact rfl;exact rfl;exact rfl;refine dM ?_)
      refine q_again (n + 1,stC (p[i.toNat]'hi) ⟨i,a,b⟩) [0,1] (by exact stk) ?_ ?_
      · refine ⟨by dsimp only; omega,by dsimp only; omega,?_,?_⟩
        · have e9 : 10 + (n + 1) = 10 + n + 1 := by omega
          dsimp only
          rw [e9]; exact hst
        · dsimp only
          rw [j3]
          simp only [Prod.mk.injEq,true_and,and_true]
          omega
      · dsimp only; omega
theorem ctL_in {a b : Int} (ha : 0 ≤ a ∧ a ≤ 1000) (hb : 0 ≤ b ∧ b ≤ 1000) : inAll 0 1000000 (ctL a b) = true := by
  unfold inAll
  rw [List.all_eq_true]
  intro x hx
  rw [decide_eq_true_eq]
  simp only [List.mem_cons,List.not_mem_nil,or_false] at hx
  omega
theorem storeOf_ok (p : List Ins) (i a b : Int) (g : PgOk p) (q : CtOk p 10 ⟨i,a,b⟩) : Does Tryz.prog 203 [.one (shN p),.agg [int i,shI (ctL a b)]] [] (.one (boo true)) [] := by
  have hn := g.n
  obtain ⟨q1,q2,q3⟩ := q
  dsimp only at q1 q2 q3
  have c1 : inB i 0 p.length = true := by unfold inB; rw [decide_eq_true_eq]; omega
  have c2 := ctL_in (a := a) (b := b) (by omega) (by omega)
  obtain ⟨L,eL⟩ : ∃ L,L = ctL a b := ⟨_,rfl⟩
  have hL : (L.length : Int) = 24 := by rw [eL]; rfl
  rw [← eL] at c2 ⊢
  refine does_of (k := 0) Tryz.func203 rfl Tryz.ntmps203 rfl rfl fun w F0 S0 ρ0 => ?_
  dsimp only [argT,argH]
  repeat' first|(apply n3;exact a_new (gb := .bx _) rfl;exact rfl;refine dA ?_)|(apply p3;exact a_pure (sv := .one _) rfl;exact rfl)|refine cdn ?_|refine g_reg (id := 0) ?_
  first | refine g_turn (t_frzB (d := 3) (i := 0) rfl rfl rfl) ?_ | refine o_turn (t_frzB (d := 3) (i := 0) rfl rfl rfl) ?_
  repeat' first|refine cd ?_|(apply g_drN (id := 1) okM [[],[0],[],[2],[0,1,2,3],[0,1,2,3,4],[0,1,2,3,4,5],[0,1,2,3,4,5,6],[0,1,2,3,4,5,6,7],[0,1,2,3,4,5,6,7,8],[0,1,2,3,4,5,6,7,8,9],[0,1,2,3,4,5,6,7,8,9,10],[0,1,2,3,4,5,6,7,8,9,10,11],[0,1,2,3,4,5,6,7,8,9,10,11,12],[0,1,2,3,4,5,6,7,8,9,10,11,12,13],[0,1,2,3,4,5,6,7,8,9,10,11,12,13,14],[0,1,2,3,4,5,6,7,8,9,10,11,12,13,14,15]] [([],[]),([],[]),([],[]),([],[]),([],[]),([],[]),([],[]),([],[]),([],[]),([],[]),([],[]),([],[]),([],[]),([],[]),([],[]),([],[]),([],[])] 0;(focus (all_goals refine dp 0 0 [7,8] [] (a_pure (sv := .one _) rfl) ?_;all_goals refine dp 1 1 [7,8] [] puL ?_;all_goals refine dp 2 0 [5,6] [] pu1 ?_;all_goals refine dp 3 1 [5,6] [] (callD1 (n := _) 0 (θ := []) (hD := (sizeN_ok _ preB175))) ?_;all_goals refine dp 4 15 [] [] (callD1 (n := _) 0 (θ := []) (hD := (within_ok _ _ _))) ?_;all_goals (refine db 5 31 [] [] pu1 ?_ ?_ <;> (intro hc;first|cases hc|(try simp only [dcB] at hc);first|contradiction|(exfalso;omega)|skip));all_goals (refine dpy 6 63 [] [] (a_pure (sv := .one _) rfl) ?_);all_goals (refine dpy 7 127 [] [] puL ?_);all_goals (refine dpy 8 255 [] [] (by first|exact puN|exact a_pure (sv := .one _) rfl|exact a_len_str rfl (fT rfl)) ?_);all_goals (refine dpy 9 511 [] [] (by first|exact puC|exact a_eqS rfl rfl rfl) ?_);all_goals refine dp 10 1023 [] [] (a_pure (sv := .one _) rfl) ?_;all_goals (refine db 11 2047 [] [] pu1 ?_ ?_ <;> (intro hc;first|cases hc|(try simp only [dcB] at hc);first|contradiction|(exfalso;omega)|skip));all_goals (refine dpy 12 4095 [] [] (a_pure (sv := .one _) rfl) ?_);all_goals (refine dpy 13 8191 [] [] puL ?_);all_goals (refine dpy 14 16383 [] [] (callD1 (n := _) 0 (θ := []) (hD := (allWithin_ok _ _ _ preB175))) ?_);all_goals refine dp 15 32767 [] [] (a_pure (sv := .one _) rfl) ?_;all_goals refine dp 16 65535 [] [] pu1 ?_;all_goals (refine d_nil ?_;refine dN ?_)));any_goals kernel_rfl)
  all_goals first | (exfalso; simp_all; done) | (exfalso; omega) | skip
  repeat refine cr ?_
  refine ends_id ?_
  refine endK [] (h2 := ?_) (h3 := ?_) (nd := ?_)
  all_goals (repeat' first|exact ce0|refine ce ?_|refine ce2 ?_ ?_|exact SVLe.refl|refine ceb ?_)
  all_goals first | exact (show nodupB _ = true from rfl) | exact Or.inr rfl | ((first | rfl | exact c2))
theorem ValidStore_ok (p : List Ins) (i a b : Int) (g : PgOk p) (q : CtOk p 10 ⟨i,a,b⟩) : Does Tryz.prog 109 [.one (shN p),.agg [int i,shI (ctL a b)]] [] (.one (boo true)) [] := by
  refine does_of (k := 0) Tryz.func109 rfl Tryz.ntmps109 rfl rfl fun w F0 S0 ρ0 => ?_
  dsimp only [argT,argH]
  repeat' first|(apply n3;exact a_new (gb := .bx _) rfl;exact rfl;refine dA ?_)|(apply p3;(exact pu1);exact rfl)|refine cd ?_|(apply c4 0;exact callK1 (θ := []) (hD := (ValidProgram_ok p g));exact rfl;exact rfl;exact rfl;refine dM ?_)|(apply py3;exact rfl;exact rfl;(exact pu1);exact rfl;exact rfl)|(apply cy4 0;exact rfl;exact rfl;exact callK1 (θ := []) (hD := (storeOf_ok p i a b g q));exact rfl;exact rfl;exact rfl;exact rfl;refine dM ?_)
  all_goals first | contradiction | skip
  repeat refine cr ?_
  refine ends_id ?_
  refine endK [] (h2 := ?_) (h3 := ?_) (nd := ?_)
  all_goals (repeat' first|exact ce0|refine ce ?_|refine ce2 ?_ ?_|exact SVLe.refl|refine ceb ?_)
  all_goals first | exact (show nodupB _ = true from rfl) | exact Or.inr rfl | (rfl)
theorem copyStore_ok (i : Int) (l : List Int) (hl : (l.length : Int) ≤ 1000) : Does Tryz.prog 110 [.agg [int i,shI l]] [] (.agg [int i,.gv 0]) [roI l] := by
  refine does_of (k := 0) Tryz.func110 rfl Tryz.ntmps110 rfl rfl fun w F0 S0 ρ0 => ?_
  dsimp only [argT,argH]
  repeat' first|(apply n3;exact a_new (gb := .bx _) rfl;exact rfl;refine dA ?_)|refine cdn ?_|refine g_reg (id := 0) ?_
  first | refine g_turn (t_frzB (d := 1) (i := 0) rfl rfl rfl) ?_ | refine o_turn (t_frzB (d := 1) (i := 0) rfl rfl rfl) ?_
  repeat' first|refine cd ?_|(apply g_drN (id := 1) okM [[],[0],[],[2],[2,3],[0,1,2,3,4],[0,1,2,3,4,5]] [([],[]),([],[]),([],[]),([],[]),([0],[]),([],[]),([],[1])] 1;(focus (refine dp 0 0 [5,6,7] [(true,0)] (a_pure (sv := .one _) rfl) ?_;refine dp 1 1 [5,6,7] [(true,0)] puL ?_;refine dp 2 0 [3,4] [] (a_pure (sv := .one _) rfl) ?_;refine dp 3 1 [3,4] [] puL ?_;refine duN 4 3 [3,4] [] (callD1 (n := _) 0 (θ := []) (hD := (clone_ok _ preB175))) (by exact rfl) (by exact rfl) ?_;refine dp 5 31 [] [] (a_pure (sv := .agg _) rfl) ?_;refine duE 6 63 [] [] (a_st_bx rfl rfl rfl rfl (fN rfl rfl) (Nat.le_of_ble_eq_true rfl) rfl) (by exact rfl) (by exact rfl) ?_;(refine d_nil ?_;refine dN ?_)));any_goals kernel_rfl)
  simp only [setRow,scC,List.map_cons,List.map_nil,List.set_cons_zero,List.set_cons_succ,Nat.zero_add,List.getElem?_cons_zero,List.getElem?_cons_succ,List.take_succ_cons,List.take_zero,List.drop_zero,List.cons_append,List.nil_append,List.drop_succ_cons,List.drop_nil,List.append_nil,List.append_eq]
  repeat refine cr ?_
  refine ends_id ?_
  refine endK [?_] (h2 := ?_) (h3 := ?_) (nd := ?_)
  rotate_left 1
  all_goals (repeat' first|exact ce0|refine ce ?_|refine ce2 ?_ ?_|exact SVLe.refl|refine ceb ?_)
  all_goals first | exact (show nodupB _ = true from rfl) | exact Or.inr rfl | (rfl)
theorem RunProgram_ok (p : List Ins) (i a b : Int) (B : Int) (g : PgOk p) (q : CtOk p 10 ⟨i,a,b⟩) (h1 : 1 ≤ B) (h2 : B ≤ 900) : Does Tryz.prog 32 [.one (shN p),.agg [int i,shI (ctL a b)],.one (int B)] [] (.tup [(true,[int (rcC p B.toNat ⟨i,a,b⟩).1.i,.gv 0]),(false,[int ((rcC p B.toNat ⟨i,a,b⟩).2.1 : Nat)]),(false,[boo (rcC p B.toNat ⟨i,a,b⟩).2.2]),(false,[int 0])]) [roI (ctL (rcC p B.toNat ⟨i,a,b⟩).1.a (rcC p B.toNat ⟨i,a,b⟩).1.b)] := by
  have c1 : inB B 1 20000 = true := by unfold inB; rw [decide_eq_true_eq]; omega
  have hl : ((ctL a b).length : Int) ≤ 1000 := by show (24 : Int) ≤ 1000; omega
  refine does_of (k := 0) Tryz.func32 rfl Tryz.ntmps32 rfl rfl fun w F0 S0 ρ0 => ?_
  dsimp only [argT,argH]
  repeat' first|(apply n3;exact a_new (gb := .bx _) rfl;exact rfl;refine dA ?_)|(apply p3;(exact pu1);exact rfl)|refine cdn ?_|refine g_reg (id := 0) ?_|refine g_reg (id := 1) ?_|refine g_reg (id := 3) ?_|refine g_reg (id := 5) ?_|(apply w3;exact a_st_bx rfl rfl rfl rfl (fN rfl rfl) (Nat.le_of_ble_eq_true rfl) rfl;exact rfl;refine dS ?_)|(apply c4 0;exact callK1 (θ := []) (hD := (ValidStore_ok p i a b g q));exact rfl;exact rfl;exact rfl;refine dM ?_)|(apply c4 0;exact callK1 (θ := []) (hD := (budgetOk_ok _));exact rfl;exact rfl;exact rfl;refine dM ?_)|(apply c4 1;exact callK1 (θ := []) (hD := (copyStore_ok i (ctL a b) hl));exact rfl;exact rfl;exact rfl;refine dM ?_)|((refine g_cond rfl (fun hc => ?_) (fun hc => ?_)) <;> (try simp only [dcB] at hc) <;> (try first|contradiction|(exfalso;omega)))
  simp only [setRow,scC,List.map_cons,List.map_nil,List.set_cons_zero,List.set_cons_succ,Nat.zero_add,List.getElem?_cons_zero,List.getElem?_cons_succ,List.take_succ_cons,List.take_zero,List.drop_zero,List.cons_append,List.nil_append,List.drop_succ_cons,List.drop_nil,List.append_nil,List.append_eq]
  repeat' first|(apply p3;(first|exact pu1|exact a_ne rfl rfl);exact rfl)|refine cd ?_|(apply w3;exact a_st_bx rfl rfl rfl rfl (fN rfl rfl) (Nat.le_of_ble_eq_true rfl) rfl;exact rfl;refine dS ?_)|(apply c4 0;exact callK1 (θ := [_,_]) (hD := (runStore_ok p ⟨i,a,b⟩ B g q (by omega) h2));exact rfl;exact rfl;exact rfl;refine dM ?_)
  all_goals first | contradiction | (exfalso; simp_all; done) | skip
  simp only [setRow,scC,List.map_cons,List.map_nil,List.set_cons_zero,List.set_cons_succ,Nat.zero_add,List.getElem?_cons_zero,List.getElem?_cons_succ,List.take_succ_cons,List.take_zero,List.drop_zero,List.cons_append,List.nil_append,List.drop_succ_cons,List.drop_nil,List.append_nil,List.append_eq]
  repeat refine cr ?_
  refine ends_id ?_
  refine endK [?_] (h2 := ?_) (h3 := ?_) (nd := ?_)
  rotate_left 1
  all_goals (repeat' first|exact ce0|refine ce ?_|refine ce2 ?_ ?_|(refine Or.inr (bx_eq rfl rfl ?_);(try dsimp only [C.ren,C.ren.all]);(try exact rfl))|exact SVLe.refl|refine ceb ?_)
  all_goals first | exact (show nodupB _ = true from rfl) | exact Or.inr rfl | (rfl)
theorem StartStore_ok (p : List Ins) (a b : Int) (g : PgOk p) (ha : 0 ≤ a ∧ a ≤ 1000) (hb : 0 ≤ b ∧ b ≤ 1000) : Does Tryz.prog 30 [.one (shN p),.one (shI [a,b])] [] (.tup [(true,[int 0,.gv 0]),(false,[int 0])]) [roI (ctL a b)] := by
  have c2 : inAll 0 1000000 [a,b] = true := by
    unfold inAll
    rw [List.all_eq_true]
    intro x hx
    rw [decide_eq_true_eq]
    simp only [List.mem_cons,List.not_mem_nil,or_false] at hx
    omega
  refine does_of (k := 0) Tryz.func30 rfl Tryz.ntmps30 rfl rfl fun w F0 S0 ρ0 => ?_
  dsimp only [argT,argH]
  repeat' first|(apply n3;exact a_new (gb := .bx _) rfl;exact rfl;refine dA ?_)|(apply p3;(first|exact pu1|exact puN|exact puC);exact rfl)|refine cdn ?_|refine g_reg (id := 0) ?_|refine g_reg (id := 1) ?_|refine g_reg (id := 3) ?_|refine g_reg (id := 4) ?_|(apply w3;exact a_st_bx rfl rfl rfl rfl (fN rfl rfl) (Nat.le_of_ble_eq_true rfl) rfl;exact rfl;refine dS ?_)|(apply c4 0;exact callK1 (θ := []) (hD := (ValidProgram_ok p g));exact rfl;exact rfl;exact rfl;refine dM ?_)|(apply py3;exact rfl;exact rfl;(exact pu1);exact rfl;exact rfl)|(apply cy4 0;exact rfl;exact rfl;exact callK1 (θ := []) (hD := (allWithin_ok _ _ _ preB175));exact rfl;exact rfl;exact rfl;exact rfl;refine dM ?_)|((refine g_cond rfl (fun hc => ?_) (fun hc => ?_)) <;> (try simp only [dcB] at hc) <;> (try first|contradiction|(exfalso;omega)))
  repeat' first|(apply n3;(first|exact a_new (gb := .bx _) rfl|exact a_make (fE rfl) (fZ rfl) (fP rfl) (by decide) rfl rfl (by omega) rfl (by omega) (by omega) (rows_rep eI 0 _));exact rfl;refine dA ?_)|(apply p3;(exact pu1);exact rfl)|refine cd ?_|(apply w3;exact a_st_bx rfl rfl rfl rfl (fN rfl rfl) (Nat.le_of_ble_eq_true rfl) rfl;exact rfl;refine dS ?_)|(apply c4 0;exact a_copyV rfl rfl rfl rfl (fS rfl) rfl nowR rfl (by exact rfl) (by exact rfl);exact rfl;exact rfl;exact rfl;refine dM ?_)
  all_goals first | (exfalso; simp_all; done) | skip
  simp only [setRow,scC,List.map_cons,List.map_nil,List.set_cons_zero,List.set_cons_succ,Nat.zero_add,List.getElem?_cons_zero,List.getElem?_cons_succ,List.take_succ_cons,List.take_zero,List.drop_zero,List.cons_append,List.nil_append,List.drop_succ_cons,List.drop_nil,List.append_nil,List.append_eq]
  repeat refine cr ?_
  refine ends_id ?_
  refine endK [?_] (h2 := ?_) (h3 := ?_) (nd := ?_)
  rotate_left 1
  all_goals (repeat' first|exact ce0|refine ce ?_|refine ce2 ?_ ?_|(refine Or.inr (bx_eq rfl rfl ?_);(try dsimp only [C.ren,C.ren.all]);(try exact rfl))|exact SVLe.refl|refine ceb ?_)
  all_goals first | exact (show nodupB _ = true from rfl) | exact Or.inr rfl | (rfl)
end Go.Proofs.YtbblkhjjgnpbaaaGreatDoor
end
section
set_option linter.unusedVariables false
set_option linter.unusedSimpArgs false
set_option maxRecDepth 100000
set_option maxHeartbeats 4000000
namespace Go.Proofs.YtbblkhjjgnpbaaaGreatDoor
open Go Foot
end Go.Proofs.YtbblkhjjgnpbaaaGreatDoor
end
section
set_option linter.unusedVariables false
set_option linter.unusedSimpArgs false
set_option maxRecDepth 100000
set_option maxHeartbeats 4000000
namespace Go.Proofs.YtbblkhjjgnpbaaaGreatDoor
open Go Foot Go.RowKit
theorem rpl_joinH {c d : UInt8} : ∀ {l : List Bs},(∀ p ∈ l,c ∉ p) → rpl c d (joinT l [c]) = joinT l [d]
  | [],_ => by unfold joinT; simp [Lib.join,rpl]
  | [a],h => by rw [join_one,join_one,rpl_no (h a (by simp))]
  | a :: b :: l,h => by
    rw [join_cons2,join_cons2,rpl_app,rpl_app,rpl_no (h a (by simp)),rpl_joinH (l := b :: l) fun p hp => h p (by simp at hp ⊢; exact .inr hp)]
    congr 2
    unfold rpl
    simp
end Go.Proofs.YtbblkhjjgnpbaaaGreatDoor
end
section
set_option linter.unusedVariables false
set_option linter.unusedSimpArgs false
set_option maxRecDepth 100000
set_option maxHeartbeats 1000000
namespace Go.Proofs.YtbblkhjjgnpbaaaGreatDoor
open Go Foot Go.RowKit
deriving instance DecidableEq for Ct
theorem ctr_eq1 : Tryz.prog.stoodInHeld 54 = false := by kernel_rfl
theorem ctr_eq2 : Tryz.prog.eqGuardType Tryz.prog.depth 54 = false := by kernel_rfl
theorem ctr_eq3 : Tryz.prog.underlying 54 = some (.struct (Tryz.prog.fieldsOf 54)) := by kernel_rfl
theorem ctr_equal (r s : Ct) (W : World) : (Op.equalIn 10000 54 (.agg #[.int .i64 r.i,.int .i64 r.a,.int .i64 r.b]) (.agg #[.int .i64 s.i,.int .i64 s.a,.int .i64 s.b])).run Tryz.prog W = .ok (decide (r = s)) W := by
  obtain ⟨a,b,c⟩ := r
  obtain ⟨a',b',c'⟩ := s
  rw [run_equalIn_struct W 9999 _ _ _ ctr_eq3 ctr_eq1]
  have hf : Tryz.prog.fieldsOf 54 = match Tryz.prog.underlying 54 with | some (.struct fs) => fs | _ => #[] := by kernel_rfl
  rw [hf,Tryz.underlying54]
  by_cases h1 : a = a' <;> by_cases h2 : b = b' <;> by_cases h3 : c = c' <;> simp [go_sem,Tryz.underlying2,h1,h2,h3]
theorem ctr_guard (op : BinOp) (p q : Operand) (xs ys : Array Value) (W : World) : (eqGuard op 54 p q (.agg xs) (.agg ys)).run Tryz.prog W = .ok () W := by
  unfold eqGuard
  cases op <;> simp [program,Sem.run,ctr_eq2]
section
variable {g : Gh} {st : St} {dst : Option Tmp} {ty : TypeId} {pos : String} {after : Array Edge} {guard : Option (Nat × Bool)} {x y : Operand} {U : TypeId} {r s : Ct}
theorem aggCt {w : World} {S : Foot} {ρ : Env} {r : Ct} {v : Value} (h : RepS w S ρ (.agg (ctC r)) v) : v = .agg #[.int .i64 r.i,.int .i64 r.a,.int .i64 r.b] := by
  obtain ⟨vs,rfl,h⟩ := h
  simp only [RepCs,RepC,Rep] at h
  obtain ⟨v1,u1,e1,⟨rfl,_⟩,v2,u2,rfl,⟨rfl,_⟩,v3,u3,rfl,⟨rfl,_⟩,rfl⟩ := h
  cases vs
  simp at e1
  rw [e1]
theorem a_eqCt (e1 : opd st x = .agg (ctC r)) (e2 : opd st y = .agg (ctC s)) : Acts Tryz.prog g ⟨dst,.binOp .eql 54 x y U,ty,pos,after,guard⟩ st (.one (boo (decide (r = s)))) [] [] := by
  refine acts_of fun a w S ρ F h => ⟨.bool (decide (r = s)),?_,rfl,rfl⟩
  have h1 := h.opd x
  have h2 := h.opd y
  rw [e1] at h1
  rw [e2] at h2
  show (do pure (.value (← (do eqGuard .eql 54 x y (a.eval x) (a.eval y); binOp .eql 54 (a.eval x) (a.eval y)))) : Sem Next).run _ w = _
  rw [aggCt h1,aggCt h2]
  simp [ctr_guard,run_eql_struct,ctr_equal]
end
@[irreducible] def cntT (i a b : Int) : Bs := joinT ([i,a,b].map decT) [58]
structure C3Ok (i a b : Int) : Prop where
  i : 0 ≤ i ∧ i ≤ 1000000
  a : 0 ≤ a ∧ a ≤ 1000000
  b : 0 ≤ b ∧ b ≤ 1000000
theorem c3_mem {i a b : Int} (g : C3Ok i a b) : ∀ x ∈ [i,a,b],0 ≤ x ∧ x ≤ 1000000 := by
  obtain ⟨h1,h2,h3⟩ := g
  intro x hx
  simp only [List.mem_cons,List.not_mem_nil,or_false] at hx
  omega
theorem cntT_le {i a b : Int} (g : C3Ok i a b) : ((cntT i a b).length : Int) ≤ 100 := by
  have hm := c3_mem g
  unfold cntT
  have := join_len (sep := 58) (k := 21) (l := [i,a,b].map decT) fun q hq => by
    obtain ⟨x,hx,rfl⟩ := List.mem_map.1 hq
    have hb := hm x hx
    have := dec_le (n := x) (by omega) (by omega)
    omega
  simp only [List.length_map,List.length_cons,List.length_nil] at this
  omega
theorem preB176 {p : Prop} (h : p := by first | with_reducible assumption | omega | (simp only [List.length_append,List.length_cons,List.length_nil,List.length_set,List.length_replicate,List.length_take,List.length_drop,List.length_tail,List.length_dropLast,List.length_reverse] at *; omega) | exact mem_len (by assumption) (by omega) | (with_reducible refine Int.le_trans (Int.ofNat_le.2 (trimR_len _)) ?_; simp only [List.length_cons,List.length_tail]; omega) | (exact (ruAt_ok (by assumption) (by assumption) (by assumption)).2.1) | (exact (ruAt_ok (by assumption) (by assumption) (by assumption)).2.1) | (have := vMach_bd (by assumption); omega) | (simp only [mC_ch,mC_tu]; omega) | (have := vTag_bd (by assumption); omega) | (have := (‹Gd _ _›).le; omega) | (exact tgHalts_no (by assumption)) | (exact tgHead (by assumption) (by assumption) (by assumption)) | (exact Int.le_trans (tgStep_gd (by assumption) (by assumption) (by assumption) (by assumption)).le (by decide)) | (exact vTag_r (by assumption)) | (with_reducible refine Int.le_trans (Int.ofNat_le.2 (pushL_len _ _)) ?_; simp only [List.length_dropLast]; omega) | exact ls_at (by assumption) (by omega) | exact pt_gd (by assumption) | exact lv_at (by assumption) (by omega) | exact pt_gd (lv_at (by assumption) (by omega)) | exact (ask_ok (by assumption)).1 | exact (ask_ok (by assumption)).2.1 | exact (ask_ok (by assumption)).2.2.1 | exact (ask_ok (by assumption)).2.2.2 | trivial) : p := h
theorem dec3_ok (i a b : Int) (g : C3Ok i a b) : Does Tryz.prog 115 [.one (shI [i,a,b]),.one (str [58])] [] (.one (str (cntT i a b))) [] := by
  have hm := c3_mem g
  have hle := cntT_le g
  have e : cntT i a b = joinT ([i,a,b].map decT) [58] := by unfold cntT; rfl
  rw [e] at hle ⊢
  have hb : ∀ x ∈ [i,a,b],-1000000000000 ≤ x ∧ x ≤ 1000000000000 := fun x hx => by have := hm x hx; omega
  exact decimals_ok [i,a,b] [58] (by show (3 : Int) ≤ 1048576; omega) hb (by omega)
theorem in3 {i a b : Int} (g : C3Ok i a b) : ¬ inAll 0 1000000000000 [i,a,b] = false := by
  have hm := c3_mem g
  have c2 : inAll 0 1000000000000 [i,a,b] = true := by
    unfold inAll
    rw [List.all_eq_true]
    intro x hx
    have := hm x hx
    rw [decide_eq_true_eq]
    omega
  rw [c2]
  decide
theorem CountersText_ok (i a b : Int) (g : C3Ok i a b) : Does Tryz.prog 34 [.agg [int i,int a,int b]] [] (.one (str (cntT i a b))) [] := by
  have kc := in3 g
  refine does_of (k := 0) Tryz.func34 rfl Tryz.ntmps34 rfl rfl fun w F0 S0 ρ0 => ?_
  dsimp only [argT,argH]
  repeat' first|(apply n3;(first|exact a_new (gb := .bx _) rfl|exact a_litE eI [_,_,_] rfl rfl rfl rfl rfl rfl rfl rfl);exact rfl;refine dA ?_)|(apply p3;(exact pu1);exact rfl)|refine cd ?_|(apply c4 0;exact callK1 (θ := []) (hD := (allWithin_ok _ _ _ preB176));exact rfl;exact rfl;exact rfl;refine dM ?_)|(apply c4 0;exact callK1 (θ := []) (hD := (dec3_ok i a b g));exact rfl;exact rfl;exact rfl;refine dM ?_)|((refine g_cond rfl (fun hc => ?_) (fun hc => ?_)) <;> (try simp only [dcB] at hc) <;> (try first|contradiction|(exfalso;omega)))
  all_goals first | contradiction | skip
  repeat refine cr ?_
  refine ends_id ?_
  refine endK [] (h2 := ?_) (h3 := ?_) (nd := ?_)
  all_goals (repeat' first|exact ce0|refine ce ?_|refine ce2 ?_ ?_|exact SVLe.refl|refine ceb ?_)
  all_goals first | exact (show nodupB _ = true from rfl) | exact Or.inr rfl | (rfl)
theorem readCnt_ok (i a b : Int) (g : C3Ok i a b) : Does Tryz.prog 113 [.one (str (rpl 58 44 (cntT i a b)))] [] (.tup [(false,[.gv 0]),(false,[boo true])]) [roI [i,a,b]] := by
  have hm := c3_mem g
  have hle := cntT_le g
  have h := ReadDecsG_ok (rpl 58 44 (cntT i a b)) (by rw [rpl_len]; omega)
  have hdg : ∀ p ∈ [i,a,b].map decT,∀ c ∈ p,isDg c := fun p hp c hc => by
    obtain ⟨x,hx,rfl⟩ := List.mem_map.1 hp
    exact decT_dg (hm x hx).1 c hc
  have e : numL (spl 44 (rpl 58 44 (cntT i a b))) = some [i,a,b] := by
    unfold cntT
    rw [rpl_joinH (fun p hp q => by have := hdg p hp _ q; revert this; unfold isDg; decide),spl_joinH (by simp) (fun p hp q => by have := hdg p hp _ q; revert this; unfold isDg; decide)]
    exact numL_map fun x hx => by have := hm x hx; omega
  rw [e] at h
  exact h
theorem ReadCounters_ok (i a b : Int) (g : C3Ok i a b) : Does Tryz.prog 33 [.one (str (cntT i a b))] [] (.tup [(true,[int i,int a,int b]),(false,[boo true])]) [] := by
  have hle := cntT_le g
  refine does_of (k := 0) Tryz.func33 rfl Tryz.ntmps33 rfl rfl fun w F0 S0 ρ0 => ?_
  dsimp only [argT,argH]
  repeat' first|(apply n3;exact a_new (gb := .bx _) rfl;exact rfl;refine dA ?_)|(apply p3;(exact pu1);exact rfl)|refine cdn ?_|refine g_reg (id := 0) ?_|refine g_reg (id := 1) ?_|refine g_reg (id := 2) ?_|(apply c4 0;exact callK1 (θ := []) (hD := (ReplaceAllB_ok (cntT i a b) 58 44 (by omega) (by decide)));exact rfl;exact rfl;exact rfl;refine dM ?_)|(apply c4 1;exact callK1 (θ := []) (hD := (readCnt_ok i a b g));exact rfl;exact rfl;exact rfl;refine dM ?_)|(apply py3;exact rfl;exact rfl;(first|exact pu1|exact puN|exact a_ne rfl rfl);exact rfl;exact rfl)
  first | refine g_turn (t_frzR (d := 4) (i := 1) rfl rfl shutR) ?_ | refine o_turn (t_frzR (d := 4) (i := 1) rfl rfl shutR) ?_
  repeat' first|refine cdn ?_|(apply g_drN (id := 4) okM [[],[0],[0,1],[],[3],[3,4],[],[6],[6,7],[0,1,2,3,4,5,6,7,8],[],[0,1,2,3,4,5,6,7,8,9,10]] [([],[]),([],[]),([],[]),([],[]),([],[]),([],[]),([],[]),([],[]),([],[]),([],[]),([0],[]),([],[2])] 1;(focus (refine dp 0 0 [24,25,26,27,28,29,6] [(true,0)] pu1 ?_;refine dp 1 1 [24,25,26,27,28,29,6] [(true,0)] puI ?_;refine dp 2 3 [24,25,26,27,28,29,6] [(true,0)] puL ?_;refine dp 3 0 [21,22,23,27,28,29,6] [(true,0)] pu1 ?_;refine dp 4 1 [21,22,23,27,28,29,6] [(true,0)] puI ?_;refine dp 5 3 [21,22,23,27,28,29,6] [(true,0)] puL ?_;refine dp 6 0 [21,22,23,24,25,26,6] [(true,0)] pu1 ?_;refine dp 7 1 [21,22,23,24,25,26,6] [(true,0)] puI ?_;refine dp 8 3 [21,22,23,24,25,26,6] [(true,0)] puL ?_;refine dp 9 511 [6] [(true,0)] (a_pure (sv := .agg _) rfl) ?_;refine duE 10 0 [21,22,23,24,25,26,27,28,29,30] [] (atN 0 (fun _ => a_new (gb := .bx _) rfl)) (by exact rfl) (by exact rfl) ?_;refine duE 11 2047 [] [] (a_st_bx rfl rfl rfl rfl (fN rfl rfl) (Nat.le_of_ble_eq_true rfl) rfl) (by exact rfl) (by exact rfl) ?_;(refine d_nil ?_;refine dN ?_)));any_goals kernel_rfl)
  simp only [setRow,scC,List.map_cons,List.map_nil,List.set_cons_zero,List.set_cons_succ,Nat.zero_add,List.getElem?_cons_zero,List.getElem?_cons_succ,List.take_succ_cons,List.take_zero,List.drop_zero,List.cons_append,List.nil_append,List.drop_succ_cons,List.drop_nil,List.append_nil,List.append_eq]
  simp only [show Int.toNat 0 = 0 from rfl,show Int.toNat 1 = 1 from rfl,show Int.toNat 2 = 2 from rfl,List.getElem_cons_zero,List.getElem_cons_succ]
  repeat' first|(apply p3;(first|exact pu1|exact a_neT rfl rfl);exact rfl)|refine cd ?_|(apply w3;exact a_st_bx rfl rfl rfl rfl (fN rfl rfl) (Nat.le_of_ble_eq_true rfl) rfl;exact rfl;refine dS ?_)|(apply c4 0;exact callK1 (θ := []) (hD := (CountersText_ok i a b g));exact rfl;exact rfl;exact rfl;refine dM ?_)|((refine g_cond rfl (fun hc => ?_) (fun hc => ?_)) <;> (try simp only [dcB] at hc) <;> (try first|contradiction|(exfalso;omega)))
  all_goals first | (exfalso; simp_all; done) | skip
  simp only [setRow,scC,List.map_cons,List.map_nil,List.set_cons_zero,List.set_cons_succ,Nat.zero_add,List.getElem?_cons_zero,List.getElem?_cons_succ,List.take_succ_cons,List.take_zero,List.drop_zero,List.cons_append,List.nil_append,List.drop_succ_cons,List.drop_nil,List.append_nil,List.append_eq]
  repeat refine cr ?_
  refine ends_id ?_
  refine endK [] (h2 := ?_) (h3 := ?_) (nd := ?_)
  all_goals (repeat' first|exact ce0|refine ce ?_|refine ce2 ?_ ?_|exact SVLe.refl|refine ceb ?_)
  all_goals first | exact (show nodupB _ = true from rfl) | exact Or.inr rfl | (rfl)
@[irreducible] def bwV (l : List Int) (k n : Int) : Int := if k < l.length then l.getD k.toNat 0 % n else (k * 37 + 11) % n
theorem bwV_bd (l : List Int) (k n : Int) (h : 1 ≤ n) : 0 ≤ bwV l k n ∧ bwV l k n < n := by
  unfold bwV
  split
  · exact ⟨Int.emod_nonneg _ (by omega),Int.emod_lt_of_pos _ (by omega)⟩
  · exact ⟨Int.emod_nonneg _ (by omega),Int.emod_lt_of_pos _ (by omega)⟩
theorem b10At_ok (l : List Int) (k n : Int) (hl : (l.length : Int) ≤ 1048576) (hb : ∀ x ∈ l,0 ≤ x ∧ x ≤ 255) (hk : 0 ≤ k) (hk2 : k ≤ 1000) (hn : 2 ≤ n) (hn2 : n ≤ 1000) : Does Tryz.prog 28 [.one (shY l),.one (int k),.one (int n)] [] (.one (int (bwV l k n))) [] := by
  by_cases h : k < l.length
  · have hi : k.toNat < l.length := by omega
    have e : bwV l k n = l[k.toNat]'hi % n := by unfold bwV; rw [if_pos h,List.getD_eq_getElem?_getD,List.getElem?_eq_getElem hi]; rfl
    have hx := hb _ (List.getElem_mem hi)
    rw [e]
    refine does_of (k := 0) Tryz.func28 rfl Tryz.ntmps28 rfl rfl fun w F0 S0 ρ0 => ?_
    dsimp only [argT,argH]
    repeat' first|(apply p3;(first|exact pu1|exact puC|exact puN|exact a_of8 rfl Tryz.underlying5 Tryz.underlying2 (by omega) (by first|omega|exact byte_lt _)|exact a_rem rfl rfl (by omega) (by omega) (by omega)|exact puI);exact rfl)|refine cd ?_|((refine g_cond rfl (fun hc => ?_) (fun hc => ?_)) <;> (try simp only [dcB] at hc) <;> (try first|contradiction|(exfalso;omega)))
    repeat refine cr ?_
    refine ends_id ?_
    refine endK [] (h2 := ?_) (h3 := ?_) (nd := ?_)
    all_goals (repeat' first|exact ce0|refine ce ?_|refine ce2 ?_ ?_|exact SVLe.refl|refine ceb ?_)
    all_goals first | exact (show nodupB _ = true from rfl) | exact Or.inr rfl | (rfl)
  · have e : bwV l k n = (k * 37 + 11) % n := by unfold bwV; rw [if_neg h]
    rw [e]
    refine does_of (k := 0) Tryz.func28 rfl Tryz.ntmps28 rfl rfl fun w F0 S0 ρ0 => ?_
    dsimp only [argT,argH]
    repeat' first|(apply p3;(first|exact pu1|exact puC|exact puN|exact a_rem rfl rfl (by omega) (by omega) (by omega)|exact a_mulB rfl rfl (by omega) (by omega) (by omega) (by omega)|exact a_add rfl rfl (by omega) (by omega));exact rfl)|refine cd ?_|((refine g_cond rfl (fun hc => ?_) (fun hc => ?_)) <;> (try simp only [dcB] at hc) <;> (try first|contradiction|(exfalso;omega)))
    repeat refine cr ?_
    refine ends_id ?_
    refine endK [] (h2 := ?_) (h3 := ?_) (nd := ?_)
    all_goals (repeat' first|exact ce0|refine ce ?_|refine ce2 ?_ ?_|exact SVLe.refl|refine ceb ?_)
    all_goals first | exact (show nodupB _ = true from rfl) | exact Or.inr rfl | (rfl)
theorem b10LongC_ok (l : List Int) (hx : (l.length : Int) ≤ 1048576) : Does Tryz.prog 26 [.one (shY l)] [] (.one (boo false)) [] := by
  have h := b10Long_ok l (by omega)
  rw [decide_eq_false (by omega)] at h
  exact h
theorem rcC_bd {p : List Ins} (g : PgOk p) : ∀ (k : Nat) (m : Int) (c : Ct),CtOk p m c → CtOk p (m + k) (rcC p k c).1 ∧ (rcC p k c).2.1 ≤ k
  | 0,m,c,q => by rw [rcC_0]; exact ⟨by simpa using q,Nat.le_refl _⟩
  | k + 1,m,c,q => by
    by_cases h : c.i = p.length
    · rw [rcC_h h]
      obtain ⟨q1,q2,q3⟩ := q
      exact ⟨⟨q1,by dsimp only; omega,by dsimp only; omega⟩,Nat.zero_le _⟩
    · have hi : c.i.toNat < p.length := by have := q.i; omega
      have := rcC_bd g k (m + 1) _ (stC_ok g (List.getElem_mem hi) q)
      rw [rcC_s h hi]
      dsimp only
      obtain ⟨⟨q1,q2,q3⟩,q4⟩ := this
      exact ⟨⟨q1,by omega,by omega⟩,by omega⟩
end Go.Proofs.YtbblkhjjgnpbaaaGreatDoor
end
section
set_option linter.unusedVariables false
set_option linter.unusedSimpArgs false
set_option maxRecDepth 100000
set_option maxHeartbeats 1000000
namespace Go.Proofs.YtbblkhjjgnpbaaaGreatDoor
open Go Foot Go.RowKit
theorem preB177 {p : Prop} (h : p := by first | with_reducible assumption | omega | (simp only [List.length_append,List.length_cons,List.length_nil,List.length_set,List.length_replicate,List.length_take,List.length_drop,List.length_tail,List.length_dropLast,List.length_reverse] at *; omega) | exact mem_len (by assumption) (by omega) | (with_reducible refine Int.le_trans (Int.ofNat_le.2 (trimR_len _)) ?_; simp only [List.length_cons,List.length_tail]; omega) | (exact (ruAt_ok (by assumption) (by assumption) (by assumption)).2.1) | (exact (ruAt_ok (by assumption) (by assumption) (by assumption)).2.1) | (have := vMach_bd (by assumption); omega) | (simp only [mC_ch,mC_tu]; omega) | (have := vTag_bd (by assumption); omega) | (have := (‹Gd _ _›).le; omega) | (exact tgHalts_no (by assumption)) | (exact tgHead (by assumption) (by assumption) (by assumption)) | (exact Int.le_trans (tgStep_gd (by assumption) (by assumption) (by assumption) (by assumption)).le (by decide)) | (exact vTag_r (by assumption)) | (with_reducible refine Int.le_trans (Int.ofNat_le.2 (pushL_len _ _)) ?_; simp only [List.length_dropLast]; omega) | exact ls_at (by assumption) (by omega) | exact pt_gd (by assumption) | exact lv_at (by assumption) (by omega) | exact pt_gd (lv_at (by assumption) (by omega)) | exact (ask_ok (by assumption)).1 | exact (ask_ok (by assumption)).2.1 | exact (ask_ok (by assumption)).2.2.1 | exact (ask_ok (by assumption)).2.2.2 | trivial) : p := h
theorem lawCounterRuns (c m : List Int) (hc : (c.length : Int) ≤ 9223372036854775807) (hm : (m.length : Int) ≤ 9223372036854775807) (hcb : ∀ x ∈ c,0 ≤ x ∧ x ≤ 255) (hmb : ∀ x ∈ m,0 ≤ x ∧ x ≤ 255) : Does Tryz.prog 5 [.one (shY c),.one (shY m)] [] (.one (boo true)) [] := by
  by_cases hL : (c.length : Int) > 1048576 ∨ (m.length : Int) > 1048576
  · refine does_of (k := 0) Tryz.func5 rfl Tryz.ntmps5 rfl rfl fun w F0 S0 ρ0 => ?_
    dsimp only [argT,argH]
    repeat' first|(apply p3;(exact pu1);exact rfl)|refine cd ?_|(apply c4 0;exact callK1 (θ := []) (hD := (b10Long_ok _ preB177));exact rfl;exact rfl;exact rfl;refine dM ?_)|refine o_no rfl rfl rfl rfl ?_|(apply py3;exact rfl;exact rfl;(exact pu1);exact rfl;exact rfl)|(apply cy4 0;exact rfl;exact rfl;exact callK1 (θ := []) (hD := (b10Long_ok _ preB177));exact rfl;exact rfl;exact rfl;exact rfl;refine dM ?_)|((first|refine o_gs rfl rfl (fun hc => ?_) (fun hc => ?_)|refine g_cond rfl (fun hc => ?_) (fun hc => ?_)) <;> (try simp only [dcB] at hc) <;> (try first|contradiction|(exfalso;omega)))
    all_goals first | (exfalso; omega) | skip
    all_goals
      repeat refine cr ?_
      refine ends_id ?_
      refine endK [] (h2 := ?_) (h3 := ?_) (nd := ?_)
      all_goals (repeat' first|exact ce0|refine ce ?_|refine ce2 ?_ ?_|exact SVLe.refl|refine ceb ?_)
      all_goals first | exact (show nodupB _ = true from rfl) | exact Or.inr rfl | (rfl)
  have g : SrOk ⟨c,0,0⟩ := ⟨hc,⟨by dsimp only; omega,by dsimp only; omega⟩,hcb⟩
  obtain ⟨gp,ga,gx,gy⟩ := cd_ok g (by dsimp only; omega)
  have hml : (m.length : Int) ≤ 1048576 := by omega
  have hbw := bwV_bd m 0 80 (by omega)
  refine does_of (k := 0) Tryz.func5 rfl Tryz.ntmps5 rfl rfl fun w F0 S0 ρ0 => ?_
  dsimp only [argT,argH]
  repeat' first|(apply n3;exact a_new (gb := .bx _) rfl;exact rfl;refine dA ?_)|(apply p3;exact pu1;exact rfl)|refine cdn ?_|refine g_reg (id := 0) ?_|refine g_reg (id := 1) ?_|refine g_reg (id := 3) ?_|(apply w3;exact a_st_bx rfl rfl rfl rfl (fN rfl rfl) (Nat.le_of_ble_eq_true rfl) rfl;exact rfl;refine dS ?_)|(apply c4 0;exact callK1 (θ := []) (hD := (b10LongC_ok c (by omega)));exact rfl;exact rfl;exact rfl;refine dM ?_)|(apply c4 1;exact callK1 (θ := []) (hD := (B10Counters_ok c g));exact rfl;exact rfl;exact rfl;refine dM ?_)|(apply py3;exact rfl;exact rfl;exact pu1;exact rfl;exact rfl)|(apply cy4 0;exact rfl;exact rfl;exact callK1 (θ := []) (hD := (b10LongC_ok m (by omega)));exact rfl;exact rfl;exact rfl;exact rfl;refine dM ?_)
  generalize cdP ⟨c,0,0⟩ = P at *
  generalize cdA ⟨c,0,0⟩ = I at *
  generalize cdX ⟨c,0,0⟩ = A at *
  generalize cdY ⟨c,0,0⟩ = E at *
  refine g_turn (t_freeze (i := 0) rfl nowR) ?_
  simp only [setRow,C.frz.all,C.frz,SV.frz,tFrz,List.map_cons,List.map_nil,scC,List.set_cons_zero,List.set_cons_succ,Nat.zero_add,List.getElem?_cons_zero,List.getElem?_cons_succ,List.take_succ_cons,List.take_zero,List.drop_zero]
  first | refine g_turn (t_frzB (d := 6) (i := 1) rfl rfl rfl) ?_ | refine o_turn (t_frzB (d := 6) (i := 1) rfl rfl rfl) ?_
  repeat' first|(apply p3;(first|exact pu1|exact a_add rfl rfl (by omega) (by omega));exact rfl)|refine cdn ?_|refine g_reg (id := 4) ?_|(apply c4 0;exact callK1 (θ := []) (hD := (b10At_ok m 0 80 hml hmb (by omega) (by omega) (by omega) (by omega)));exact rfl;exact rfl;exact rfl;refine dM ?_)
  generalize hN : 1 + bwV m 0 80 = N at *
  have hq : CtOk P 10 ⟨I,A,E⟩ := ⟨ga,by dsimp only; omega,by dsimp only; omega⟩
  obtain ⟨hr1,hr2⟩ := rcC_bd gp N.toNat 10 ⟨I,A,E⟩ hq
  repeat' first|(apply n3;(first|exact a_new (gb := .bx _) rfl|exact a_litE eI [_,_] rfl rfl rfl rfl rfl rfl rfl rfl);exact rfl;refine dA ?_)|(apply p3;(first|exact pu1|exact a_ne rfl rfl);exact rfl)|refine cdn ?_|refine g_reg (id := 5) ?_|refine g_reg (id := 6) ?_|refine g_reg (id := 7) ?_|(apply w3;exact a_st_bx rfl rfl rfl rfl (fN rfl rfl) (Nat.le_of_ble_eq_true rfl) rfl;exact rfl;refine dS ?_)|(apply c4 0;exact callK1 (θ := []) (hD := (RunCounters_ok P I A E N gp hq (by omega) (by omega)));exact rfl;exact rfl;exact rfl;refine dM ?_)|(apply c4 1;exact callK1 (θ := []) (hD := (StartStore_ok P A E gp (by omega) (by omega)));exact rfl;exact rfl;exact rfl;refine dM ?_)|(apply py3;exact rfl;exact rfl;(first|exact pu1|exact a_ne rfl rfl);exact rfl;exact rfl)|(apply cy4 0;exact rfl;exact rfl;exact callK1 (θ := []) (hD := (IsTwoCounter_ok P gp));exact rfl;exact rfl;exact rfl;exact rfl;refine dM ?_)
  refine g_turn (t_freeze (i := 4) rfl nowR) ?_
  simp only [setRow,C.frz.all,C.frz,SV.frz,tFrz,List.map_cons,List.map_nil,scC,List.set_cons_zero,List.set_cons_succ,Nat.zero_add,List.getElem?_cons_zero,List.getElem?_cons_succ,List.take_succ_cons,List.take_zero,List.drop_zero]
  first | refine g_turn (t_frzB (d := 8) (i := 2) rfl rfl rfl) ?_ | refine o_turn (t_frzB (d := 8) (i := 2) rfl rfl rfl) ?_
  repeat' first|(apply p3;(exact pu1);exact rfl)|refine cdn ?_|refine g_reg (id := 9) ?_|(apply w3;(exact a_st_bx rfl rfl rfl rfl (fN rfl rfl) (Nat.le_of_ble_eq_true rfl) rfl);exact rfl;refine dS ?_)
  simp only [setRow,C.frz.all,C.frz,SV.frz,tFrz,List.map_cons,List.map_nil,scC,List.set_cons_zero,List.set_cons_succ,Nat.zero_add,List.getElem?_cons_zero,List.getElem?_cons_succ,List.take_succ_cons,List.take_zero,List.drop_zero]
  first | refine g_turn (t_frzB (d := 12) (i := 5) rfl rfl rfl) ?_ | refine o_turn (t_frzB (d := 12) (i := 5) rfl rfl rfl) ?_
  repeat' first|(apply n3;(exact a_new (gb := .bx _) rfl);exact rfl;refine dA ?_)|(apply p3;(exact pu1);exact rfl)|refine cdn ?_|refine g_reg (id := 10) ?_|(apply w3;(exact a_st_bx rfl rfl rfl rfl (fN rfl rfl) (Nat.le_of_ble_eq_true rfl) rfl);exact rfl;refine dS ?_)|(apply c4 1;exact callK1 (θ := []) (hD := (RunProgram_ok P I A E N gp hq (by omega) (by omega)));exact rfl;exact rfl;exact rfl;refine dM ?_)
  have hb4 : 0 ≤ (rcC P N.toNat ⟨I,A,E⟩).2.1 := Nat.zero_le _
  obtain ⟨w1',w2',w3'⟩ := hr1
  have hPn := gp.n
  generalize rcC P N.toNat ⟨I,A,E⟩ = R at *
  obtain ⟨⟨i1,a1,e1⟩,n1,h1⟩ := R
  dsimp only at *
  have hc3 : C3Ok i1 a1 e1 := ⟨by omega,by omega,by omega⟩
  have hl24 : (ctL a1 e1).length = 24 := rfl
  have hla : (ctL a1 e1)[(0 : Int).toNat]'(by show 0 < 24; omega) = a1 := rfl
  have hle : (ctL a1 e1)[(1 : Int).toNat]'(by show 1 < 24; omega) = e1 := rfl
  refine g_turn (t_freeze (i := 6) rfl nowR) ?_
  simp only [setRow,C.frz.all,C.frz,SV.frz,tFrz,List.map_cons,List.map_nil,scC,List.set_cons_zero,List.set_cons_succ,Nat.zero_add,List.getElem?_cons_zero,List.getElem?_cons_succ,List.take_succ_cons,List.take_zero,List.drop_zero]
  first | refine g_turn (t_frzB (d := 14) (i := 7) rfl rfl rfl) ?_ | refine o_turn (t_frzB (d := 14) (i := 7) rfl rfl rfl) ?_

  repeat' first|(apply n3;(exact a_new (gb := .bx _) rfl);exact rfl;refine dA ?_)|(apply p3;(first|exact pu1|exact a_ne rfl rfl);exact rfl)|refine cdn ?_|refine g_reg (id := 11) ?_|refine g_reg (id := 13) ?_|(apply w3;(exact a_st_bx rfl rfl rfl rfl (fN rfl rfl) (Nat.le_of_ble_eq_true rfl) rfl);exact rfl;refine dS ?_)|(apply c4 0;exact callK1 (θ := []) (hD := (CountersText_ok i1 a1 e1 hc3));exact rfl;exact rfl;exact rfl;refine dM ?_)|(apply c4 0;exact callK1 (θ := []) (hD := (ReadCounters_ok i1 a1 e1 hc3));exact rfl;exact rfl;exact rfl;refine dM ?_)|(apply py3;exact rfl;exact rfl;(first|exact pu1|exact puN|exact puC);exact rfl;exact rfl)
  simp only [setRow,C.frz.all,C.frz,SV.frz,tFrz,List.map_cons,List.map_nil,scC,List.set_cons_zero,List.set_cons_succ,Nat.zero_add,List.getElem?_cons_zero,List.getElem?_cons_succ,List.take_succ_cons,List.take_zero,List.drop_zero]
  first | refine g_turn (t_frzB (d := 18) (i := 8) rfl rfl rfl) ?_ | refine o_turn (t_frzB (d := 18) (i := 8) rfl rfl rfl) ?_
  repeat' first|refine cd ?_|(apply g_drN (id := 14) okM ([] :: [0] :: [] :: [2] :: [0,1,2,3] :: [0,1,2,3,4] :: [0,1,2,3,4,5] :: [0,1,2,3,4,5,6] :: [0,1,2,3,4,5] :: [0,1,2,3,4,5,8] :: [0,1,2,3,4,5,8,9] :: [0,1,2,3,4,5,8,9,10] :: [0,1,2,3,4,5,6,7,8,9,10,11] :: [0,1,2,3,4,5,6,7,8,9,10,11,12] :: [0,1,2,3,4,5,6,7,8,9,10,11,12,13] :: [0,1,2,3,4,5,6,7,8,9,10,11,12,13,14] :: [0,1,2,3,4,5,6,7,8,9,10,11,12,13,14,15] :: [0,1,2,3,4,5,6,7,8,9,10,11,12,13,14] :: [0,1,2,3,4,5,6,7,8,9,10,11,12,13,14,17] :: [0,1,2,3,4,5,6,7,8,9,10,11,12,13,14,17,18] :: [0,1,2,3,4,5,6,7,8,9,10,11,12,13,14,17,18,19] :: [0,1,2,3,4,5,6,7,8,9,10,11,12,13,14,15,16,17,18,19,20] :: [0,1,2,3,4,5,6,7,8,9,10,11,12,13,14,15,16,17,18,19,20,21] :: [0,1,2,3,4,5,6,7,8,9,10,11,12,13,14,15,16,17,18,19,20,21,22] :: [0,1,2,3,4,5,6,7,8,9,10,11,12,13,14,15,16,17,18,19,20,21,22,23] :: [0,1,2,3,4,5,6,7,8,9,10,11,12,13,14,15,16,17,18,19,20,21,22,23] :: [0,1,2,3,4,5,6,7,8,9,10,11,12,13,14,15,16,17,18,19,20,21,22,23,24,25] :: [0,1,2,3,4,5,6,7,8,9,10,11,12,13,14,15,16,17,18,19,20,21,22,23,24,25,26] :: [0,1,2,3,4,5,6,7,8,9,10,11,12,13,14,15,16,17,18,19,20,21,22,23,24,25,26,27] :: [0,1,2,3,4,5,6,7,8,9,10,11,12,13,14,15,16,17,18,19,20,21,22,23,24,25,26,27,28] :: [0,1,2,3,4,5,6,7,8,9,10,11,12,13,14,15,16,17,18,19,20,21,22,23,24,25,26,27,28] :: (0 :: 1 :: 2 :: 3 :: 4 :: 5 :: 6 :: 7 :: 8 :: 9 :: 10 :: 11 :: 12 :: 13 :: 14 :: 15 :: 16 :: 17 :: 18 :: 19 :: 20 :: 21 :: 22 :: 23 :: 24 :: 25 :: 26 :: 27 :: 28 :: 29 :: 30 :: []) :: (0 :: 1 :: 2 :: 3 :: 4 :: 5 :: 6 :: 7 :: 8 :: 9 :: 10 :: 11 :: 12 :: 13 :: 14 :: 15 :: 16 :: 17 :: 18 :: 19 :: 20 :: 21 :: 22 :: 23 :: 24 :: 25 :: 26 :: 27 :: 28 :: 29 :: 30 :: 31 :: []) :: (0 :: 1 :: 2 :: 3 :: 4 :: 5 :: 6 :: 7 :: 8 :: 9 :: 10 :: 11 :: 12 :: 13 :: 14 :: 15 :: 16 :: 17 :: 18 :: 19 :: 20 :: 21 :: 22 :: 23 :: 24 :: 25 :: 26 :: 27 :: 28 :: 29 :: 30 :: 31 :: 32 :: []) :: (0 :: 1 :: 2 :: 3 :: 4 :: 5 :: 6 :: 7 :: 8 :: 9 :: 10 :: 11 :: 12 :: 13 :: 14 :: 15 :: 16 :: 17 :: 18 :: 19 :: 20 :: 21 :: 22 :: 23 :: 24 :: 25 :: 26 :: 27 :: 28 :: 29 :: 30 :: 31 :: 32 :: 33 :: []) :: (0 :: 1 :: 2 :: 3 :: 4 :: 5 :: 6 :: 7 :: 8 :: 9 :: 10 :: 11 :: 12 :: 13 :: 14 :: 15 :: 16 :: 17 :: 18 :: 19 :: 20 :: 21 :: 22 :: 23 :: 24 :: 25 :: 26 :: 27 :: 28 :: 29 :: 30 :: 31 :: 32 :: 33 :: 34 :: []) :: (0 :: 1 :: 2 :: 3 :: 4 :: 5 :: 6 :: 7 :: 8 :: 9 :: 10 :: 11 :: 12 :: 13 :: 14 :: 15 :: 16 :: 17 :: 18 :: 19 :: 20 :: 21 :: 22 :: 23 :: 24 :: 25 :: 26 :: 27 :: 28 :: 29 :: 30 :: 31 :: 32 :: 33 :: 34 :: 35 :: []) :: (0 :: 1 :: 2 :: 3 :: 4 :: 5 :: 6 :: 7 :: 8 :: 9 :: 10 :: 11 :: 12 :: 13 :: 14 :: 15 :: 16 :: 17 :: 18 :: 19 :: 20 :: 21 :: 22 :: 23 :: 24 :: 25 :: 26 :: 27 :: 28 :: 29 :: 30 :: 31 :: 32 :: 33 :: 34 :: 35 :: 36 :: []) :: (0 :: 1 :: 2 :: 3 :: 4 :: 5 :: 6 :: 7 :: 8 :: 9 :: 10 :: 11 :: 12 :: 13 :: 14 :: 15 :: 16 :: 17 :: 18 :: 19 :: 20 :: 21 :: 22 :: 23 :: 24 :: 25 :: 26 :: 27 :: 28 :: 29 :: 30 :: 31 :: 32 :: 33 :: 34 :: 35 :: 36 :: []) :: (0 :: 1 :: 2 :: 3 :: 4 :: 5 :: 6 :: 7 :: 8 :: 9 :: 10 :: 11 :: 12 :: 13 :: 14 :: 15 :: 16 :: 17 :: 18 :: 19 :: 20 :: 21 :: 22 :: 23 :: 24 :: 25 :: 26 :: 27 :: 28 :: 29 :: 30 :: 31 :: 32 :: 33 :: 34 :: 35 :: 36 :: 37 :: 38 :: []) :: (0 :: 1 :: 2 :: 3 :: 4 :: 5 :: 6 :: 7 :: 8 :: 9 :: 10 :: 11 :: 12 :: 13 :: 14 :: 15 :: 16 :: 17 :: 18 :: 19 :: 20 :: 21 :: 22 :: 23 :: 24 :: 25 :: 26 :: 27 :: 28 :: 29 :: 30 :: 31 :: 32 :: 33 :: 34 :: 35 :: 36 :: 37 :: 38 :: 39 :: []) :: (0 :: 1 :: 2 :: 3 :: 4 :: 5 :: 6 :: 7 :: 8 :: 9 :: 10 :: 11 :: 12 :: 13 :: 14 :: 15 :: 16 :: 17 :: 18 :: 19 :: 20 :: 21 :: 22 :: 23 :: 24 :: 25 :: 26 :: 27 :: 28 :: 29 :: 30 :: 31 :: 32 :: 33 :: 34 :: 35 :: 36 :: 37 :: 38 :: 39 :: 40 :: []) :: []) (([],[]) :: ([],[]) :: ([],[]) :: ([],[]) :: ([],[]) :: ([],[]) :: ([],[]) :: ([],[]) :: ([],[]) :: ([],[]) :: ([],[]) :: ([],[]) :: ([],[]) :: ([],[]) :: ([],[]) :: ([],[]) :: ([],[]) :: ([],[]) :: ([],[]) :: ([],[]) :: ([],[]) :: ([],[]) :: ([],[]) :: ([],[]) :: ([],[]) :: ([],[]) :: ([],[]) :: ([],[]) :: ([],[]) :: ([],[]) :: ([],[]) :: ([],[]) :: ([],[]) :: ([],[]) :: ([],[]) :: ([],[]) :: ([],[]) :: ([],[]) :: ([],[]) :: ([],[]) :: ([],[]) :: ([],[]) :: []) 0;(focus (all_goals refine dp 0 0 [92,93] [] (a_pure (sv := .one _) rfl) ?_;all_goals refine dp 1 1 [92,93] [] puL ?_;all_goals refine dp 2 0 [90,91] [] (a_pure (sv := .one _) rfl) ?_;all_goals refine dp 3 1 [90,91] [] puL ?_;all_goals refine dp 4 15 [] [] (by exact puC) ?_;all_goals (refine db 5 31 [] [] pu1 ?_ ?_ <;> (intro hc;first|cases hc|(try simp only [dcB] at hc);first|contradiction|(exfalso;omega)|skip));all_goals (refine dpy 6 63 [98,99,100,101] [] (a_pure (sv := .one _) rfl) ?_);all_goals (refine dpy 7 127 [98,99,100,101] [] puL ?_);all_goals (refine dpy 8 252 [96,97] [] (a_pure (sv := .one _) rfl) ?_);all_goals (refine dpy 9 505 [96,97] [] puL ?_);all_goals (refine dpy 10 1011 [96,97] [] puI ?_);all_goals (refine dpy 11 2023 [96,97] [] puL ?_);all_goals (refine dpy 12 4095 [] [] (by first|exact puC|exact a_eqS rfl rfl rfl) ?_);all_goals refine dp 13 8191 [] [] (a_pure (sv := .one _) rfl) ?_;all_goals (refine db 14 16383 [] [] pu1 ?_ ?_ <;> (intro hc;first|cases hc|(try simp only [dcB] at hc);first|contradiction|(exfalso;omega)|skip));all_goals (refine dpy 15 32767 [107,108,109,110] [] (a_pure (sv := .one _) rfl) ?_);all_goals (refine dpy 16 65535 [107,108,109,110] [] puL ?_);all_goals (refine dpy 17 131068 [105,106] [] (a_pure (sv := .one _) rfl) ?_);all_goals (refine dpy 18 262137 [105,106] [] puL ?_);all_goals (refine dpy 19 524275 [105,106] [] puI ?_);all_goals (refine dpy 20 1048551 [105,106] [] puL ?_);all_goals (refine dpy 21 2097151 [] [] (by first|exact puC|exact a_eqS rfl rfl rfl) ?_);all_goals refine dp 22 4194303 [] [] (a_pure (sv := .one _) rfl) ?_;all_goals (refine db 23 8388607 [] [] pu1 ?_ ?_ <;> (intro hc;first|cases hc|(try simp only [dcB] at hc);first|contradiction|(exfalso;omega)|skip));all_goals (refine dpy 24 16777215 [115] [] pu1 ?_);all_goals (refine dpy 25 33554430 [114] [] pu1 ?_);all_goals (refine dpy 26 67108863 [] [] (by first|exact puC|exact a_eqS rfl rfl rfl) ?_);all_goals refine dp 27 134217727 [] [] (a_pure (sv := .one _) rfl) ?_;all_goals (refine db 28 268435455 [] [] pu1 ?_ ?_ <;> (intro hc;first|cases hc|(try simp only [dcB] at hc);first|contradiction|(exfalso;omega)|skip));all_goals (refine dpy 29 536870911 [120] [] pu1 ?_);all_goals (refine dpy 30 1073741822 [119] [] pu1 ?_);all_goals (refine dpy 31 2147483647 [] [] (a_eqB rfl rfl (by kernel_rfl)) ?_);all_goals refine dp 32 4294967295 [] [] (a_pure (sv := .one _) rfl) ?_;all_goals (refine db 33 8589934591 [] [] pu1 ?_ ?_ <;> (intro hc;first|cases hc|(try simp only [dcB] at hc);first|contradiction|(exfalso;omega)|skip));all_goals (first|refine dn 34 17179869183 [] [] ?_|refine dpy 34 17179869183 [] [] pu1 ?_);all_goals refine dp 35 34359738367 [] [] (a_pure (sv := .one _) rfl) ?_;all_goals (refine db 36 68719476735 [] [] pu1 ?_ ?_ <;> (intro hc;first|cases hc|(try simp only [dcB] at hc);first|contradiction|(exfalso;omega)|skip));all_goals (first|refine dn 37 137438953471 [128] [] ?_|refine dpy 37 137438953471 [128] [] puL ?_);all_goals (first|refine dn 38 274877906942 [127] [] ?_|refine dpy 38 274877906942 [127] [] puL ?_);all_goals (first|refine dn 39 549755813887 [] [] ?_|refine dpy 39 549755813887 [] [] (by first|exact a_eqCt rfl rfl|exact a_eqCt (s := ⟨_,_,_⟩) rfl rfl|exact a_eqCt (r := ⟨_,_,_⟩) rfl rfl|exact a_eqCt (r := ⟨_,_,_⟩) (s := ⟨_,_,_⟩) rfl rfl) ?_);all_goals refine dp 40 1099511627775 [] [] (a_pure (sv := .one _) rfl) ?_;all_goals refine dp 41 2199023255551 [] [] pu1 ?_;all_goals (refine d_nil ?_;refine dN ?_)));any_goals kernel_rfl)
  all_goals first | (exfalso; simp at hc; done) | (exfalso; cases h1 <;> simp at hc <;> done) | skip
  repeat refine cr ?_
  refine ends_id ?_
  refine endK [] (h2 := ?_) (h3 := ?_) (nd := ?_)
  all_goals (repeat' first|exact ce0|refine ce ?_|refine ce2 ?_ ?_|exact SVLe.refl|refine ceb ?_)
  all_goals first | exact (show nodupB _ = true from rfl) | exact Or.inr rfl | ((first | exact decide_eq_true rfl | rfl))
end Go.Proofs.YtbblkhjjgnpbaaaGreatDoor
end
