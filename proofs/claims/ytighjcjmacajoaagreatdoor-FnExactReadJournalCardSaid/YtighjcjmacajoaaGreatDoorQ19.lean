/- Parts of the proof (19 of 22). -/
import Derived.Lib.AtoiErrMem
import Derived.Test.YtighjcjmacajoaaGreatDoorQ18
section
set_option linter.unusedVariables false
set_option linter.unusedSimpArgs false
set_option maxRecDepth 100000
set_option maxHeartbeats 4000000
namespace Go.Proofs.YtighjcjmacajoaaGreatDoor
open Go Foot Go.RowKit
theorem u8_back (c : UInt8) : ((c.toNat : Nat) : Int).toNat.toUInt8 = c := by simp
theorem IndexByte_ok (s : Bs) (c : UInt8) : Does Tryz.prog 226 [.one (str s),.one (u8 ((c.toNat : Nat) : Int))] [] (.one (int (Lib.indexByte s c))) [] :=
  does_ext (av := [sv s,.int .u8 (c.toNat : Nat)]) (rv := .int .i64 (Lib.indexByte s c)) (fun w S ρ vs => repA_2) (fun w S ρ => ⟨rfl,rfl⟩) fun w S _ => (Tryz.stringslite_IndexByte ⟨s.toArray⟩ ((c.toNat : Nat) : Int) w).mono fun en w' ⟨h1,h2⟩ => by
    subst h2
    rw [u8_back] at h1
    exact ⟨by rw [h1],Below.refl _ _⟩
theorem TrimPrefix_ok (s p : Bs) : Does Tryz.prog 244 [.one (str s),.one (str p)] [] (.one (str (Lib.trimPrefix s p))) [] :=
  does_ext (av := [sv s,sv p]) (rv := sv (Lib.trimPrefix s p)) (fun w S ρ vs => repA_2) (fun w S ρ => ⟨rfl,rfl⟩) fun w S _ => (Tryz.strings_TrimPrefix ⟨s.toArray⟩ ⟨p.toArray⟩ w).mono fun en w' ⟨h1,h2⟩ => by
    subst h2
    exact ⟨h1,Below.refl _ _⟩
theorem repA_3 {w : World} {S : Foot} {ρ : Env} {v u t : Value} {vs : List Value} (h : RepA w S ρ [.one (.d (.sc v)),.one (.d (.sc u)),.one (.d (.sc t))] vs) : vs = [v,u,t] := by
  simp only [RepA,RepS,RepC,Rep] at h
  obtain ⟨_,_,rfl,⟨rfl,_⟩,_,_,rfl,⟨rfl,_⟩,_,_,rfl,⟨rfl,_⟩,rfl⟩ := h
  rfl
theorem ParseInt_ok (s : Bs) (n : Int) (hs : (s.length : Int) ≤ 1000000000) (h : Lib.parseIntB 64 s = .ok n) : Does Tryz.prog 243 [.one (str s),.one (int 10),.one (int 64)] [] (.tup [(false,[int n]),(false,[.d (.sc .nilIface)])]) [] :=
  does_ext (av := [sv s,.int .i64 10,.int .i64 64]) (rv := .tuple #[.int .i64 n,.nilIface]) (fun w S ρ vs => repA_3) (fun w S ρ => ⟨_,rfl,_,_,rfl,⟨_,[],rfl,⟨rfl,rfl⟩,rfl⟩,_,_,rfl,⟨_,[],rfl,⟨rfl,rfl⟩,rfl⟩,rfl⟩) fun w S _ => (Tryz.strconv_ParseInt_10_at64_ok ⟨s.toArray⟩ (by rw [sz_str]; omega) n h w).mono fun en w' ⟨h1,h2⟩ => by
    refine ⟨h1,?_⟩
    rcases h2 with rfl | ⟨t,rfl⟩
    · exact Below.refl _ _
    · exact Lib.bytesWorld_below w 5 t
theorem index_at {c : UInt8} : ∀ {a b : Bs},c ∉ a → Lib.indexByte (a ++ c :: b) c = a.length
  | [],b,_ => by simp [Lib.indexByte]
  | x :: a,b,h => by
    have ih := index_at (c := c) (a := a) (b := b) (fun q => h (by simp [q]))
    have hx : (x == c) = false := by
      rw [beq_eq_false_iff_ne]
      exact fun e => h (by simp [e])
    rw [List.cons_append,Lib.indexByte,hx,ih]
    simp only [Bool.false_eq_true,if_false]
    rw [if_neg (by rw [beq_iff_eq]; omega)]
    simp
theorem parseM {M : Nat} : ∀ {l : Bs} {acc : Nat},(∀ c ∈ l,isDg c) → l.foldl (fun a c => 10 * a + (c.toNat - 48)) acc ≤ 1000000000000000000 → 1000000000000000000 ≤ M → Lib.parseUintM M acc l = .ok (l.foldl (fun a c => 10 * a + (c.toNat - 48)) acc)
  | [],acc,_,_,_ => rfl
  | c :: l,acc,h,hv,hM => by
    have hmono : ∀ (l : Bs) (a : Nat),a ≤ l.foldl (fun a c => 10 * a + (c.toNat - 48)) a := by
      intro l
      induction l with
      | nil => intro a; exact Nat.le_refl _
      | cons x l ih =>
        intro a
        rw [List.foldl_cons]
        exact Nat.le_trans (by omega) (ih _)
    rw [List.foldl_cons] at hv ⊢
    have h1 := hmono l (10 * acc + (c.toNat - 48))
    have hd := h c (by simp)
    unfold isDg at hd
    rw [Lib.parseUintM,if_pos hd,if_neg (by omega),if_neg (by omega),show acc * 10 + (c.toNat - 48) = 10 * acc + (c.toNat - 48) by omega]
    exact parseM (fun x hx => h x (by simp [hx])) hv hM
theorem parse_dec {n : Int} (h0 : 0 ≤ n) (h1 : n ≤ 1000000000000000000) : Lib.parseIntB 64 (decT n) = .ok n := by
  rw [decT_nat h0]
  obtain ⟨d1,d2,d3⟩ := dec_val n.toNat
  cases hl : Lib.decDigits n.toNat with
  | nil => exact absurd hl d3
  | cons c r =>
    rw [hl] at d1 d2
    have hc := d2 c (by simp)
    unfold isDg at hc
    have hp : Lib.parseUintB 64 (c :: r) = .ok n.toNat := by
      unfold Lib.parseUintB
      rw [if_neg (by simp),parseM d2 (by unfold valD at d1; rw [d1]; omega) (by decide)]
      unfold valD at d1
      rw [d1]
    unfold Lib.parseIntB
    simp only
    rw [if_neg (show ¬ (c.toNat = 43 ∨ c.toNat = 45) by omega),hp]
    simp only
    rw [if_neg (by omega),if_neg (by omega),if_neg (by omega)]
    rw [show ((n.toNat : Nat) : Int) = n by omega]
end Go.Proofs.YtighjcjmacajoaaGreatDoor
end
section
set_option linter.unusedVariables false
set_option linter.unusedSimpArgs false
set_option maxRecDepth 100000
set_option maxHeartbeats 4000000
namespace Go.Proofs.YtighjcjmacajoaaGreatDoor
open Go Foot Go.RowKit
theorem preB116 {p : Prop} (h : p := by first | with_reducible assumption | omega | (simp only [List.length_append,List.length_cons,List.length_nil,List.length_set,List.length_replicate,List.length_take,List.length_drop,List.length_tail,List.length_dropLast,List.length_reverse] at *; omega) | exact mem_len (by assumption) (by omega) | (with_reducible refine Int.le_trans (Int.ofNat_le.2 (trimR_len _)) ?_; simp only [List.length_cons,List.length_tail]; omega) | (exact (ruAt_ok (by assumption) (by assumption) (by assumption)).2.1) | (exact (ruAt_ok (by assumption) (by assumption) (by assumption)).2.1) | (have := vMach_bd (by assumption); omega) | (simp only [mC_ch,mC_tu]; omega) | (have := vTag_bd (by assumption); omega) | (have := (‹Gd _ _›).le; omega) | (exact tgHalts_no (by assumption)) | (exact tgHead (by assumption) (by assumption) (by assumption)) | (exact Int.le_trans (tgStep_gd (by assumption) (by assumption) (by assumption) (by assumption)).le (by decide)) | (exact vTag_r (by assumption)) | (with_reducible refine Int.le_trans (Int.ofNat_le.2 (pushL_len _ _)) ?_; simp only [List.length_dropLast]; omega) | exact ls_at (by assumption) (by omega) | exact pt_gd (by assumption) | exact lv_at (by assumption) (by omega) | exact pt_gd (lv_at (by assumption) (by omega)) | exact (ask_ok (by assumption)).1 | exact (ask_ok (by assumption)).2.1 | exact (ask_ok (by assumption)).2.2.1 | exact (ask_ok (by assumption)).2.2.2 | trivial) : p := h
theorem IndexB_ok (s : Bs) (c : UInt8) : Does Tryz.prog 121 [.one (str s),.one (str [c])] [] (.one (int (Lib.indexByte s c))) [] :=
  does_ext (av := [sv s,sv [c]]) (rv := .int .i64 (Lib.indexByte s c)) (fun w S ρ vs => repA_2) (fun w S ρ => ⟨rfl,rfl⟩) fun w S _ => (Tryz.strings_Index_one ⟨s.toArray⟩ c w).mono fun en w' ⟨h1,h2⟩ => by
    subst h2
    exact ⟨h1,Below.refl _ _⟩
theorem CountB_ok (s : Bs) (c : UInt8) : Does Tryz.prog 219 [.one (str s),.one (str [c])] [] (.one (int (Lib.countByte s c))) [] :=
  does_ext (av := [sv s,sv [c]]) (rv := .int .i64 (Lib.countByte s c)) (fun w S ρ vs => repA_2) (fun w S ρ => ⟨rfl,rfl⟩) fun w S _ => (Tryz.strings_Count_one ⟨s.toArray⟩ c w).mono fun en w' ⟨h1,h2⟩ => by
    subst h2
    exact ⟨h1,Below.refl _ _⟩
def spl (c : UInt8) : Bs → List Bs
  | [] => [[]]
  | x :: s => if x = c then [] :: spl c s else match spl c s with
    | [] => [[x]]
    | p :: r => (x :: p) :: r
theorem spl_ne (c : UInt8) : ∀ s,spl c s ≠ []
  | [] => by simp [spl]
  | x :: s => by
    rw [spl]
    split
    · simp
    · split <;> simp
theorem spl_no {c : UInt8} : ∀ {s : Bs},c ∉ s → spl c s = [s]
  | [],_ => rfl
  | x :: s,h => by
    rw [spl,if_neg (fun e => h (by simp [e])),spl_no (fun q => h (by simp [q]))]
theorem spl_app {c : UInt8} {b : Bs} : ∀ {a : Bs},c ∉ a → spl c (a ++ c :: b) = a :: spl c b
  | [],_ => by simp [spl]
  | x :: a,h => by
    rw [List.cons_append,spl,if_neg (fun e => h (by simp [e])),spl_app (fun q => h (by simp [q]))]
theorem count_no {c : UInt8} : ∀ {s : Bs},c ∉ s → Lib.countByte s c = 0
  | [],_ => rfl
  | x :: s,h => by
    have hx : (x == c) = false := by rw [beq_eq_false_iff_ne]; exact fun e => h (by simp [e])
    have := count_no (c := c) (s := s) (fun q => h (by simp [q]))
    simp [Lib.countByte] at *
    simp_all
theorem index_no {c : UInt8} : ∀ {s : Bs},c ∉ s → Lib.indexByte s c = -1
  | [],_ => rfl
  | x :: s,h => by
    have hx : (x == c) = false := by rw [beq_eq_false_iff_ne]; exact fun e => h (by simp [e])
    have ih := index_no (c := c) (s := s) (fun q => h (by simp [q]))
    rw [Lib.indexByte,hx,ih]
    simp
theorem index_split {c : UInt8} : ∀ {s : Bs},0 ≤ Lib.indexByte s c → ∃ a b,s = a ++ c :: b ∧ c ∉ a
  | [],h => by simp [Lib.indexByte] at h
  | x :: s,h => by
    by_cases e : x = c
    · exact ⟨[],s,by simp [e],by simp⟩
    · have hx : (x == c) = false := by rw [beq_eq_false_iff_ne]; exact e
      rw [Lib.indexByte,hx] at h
      simp only [Bool.false_eq_true,if_false] at h
      have hs : 0 ≤ Lib.indexByte s c := by
        rcases Int.lt_or_le (Lib.indexByte s c) 0 with q | q
        · have := Lib.indexByte_ge s c
          rw [show Lib.indexByte s c = -1 by omega] at h
          simp at h
        · exact q
      obtain ⟨a,b,e1,e2⟩ := index_split hs
      refine ⟨x :: a,b,by rw [e1]; rfl,fun q => ?_⟩
      rw [List.mem_cons] at q
      rcases q with q | q
      · exact e q.symm
      · exact e2 q
theorem count_app {c : UInt8} {a b : Bs} (h : c ∉ a) : Lib.countByte (a ++ c :: b) c = Lib.countByte b c + 1 := by
  have := count_no h
  unfold Lib.countByte at *
  rw [List.count_append,this,List.count_cons_self]
  omega
theorem index_nn {c : UInt8} : ∀ {s : Bs},c ∈ s → 0 ≤ Lib.indexByte s c
  | x :: s,h => by
    by_cases e : x = c
    · rw [Lib.indexByte,show (x == c) = true by simp [e]]; simp
    · have hx : (x == c) = false := by rw [beq_eq_false_iff_ne]; exact e
      rw [List.mem_cons] at h
      have ih := index_nn (c := c) (s := s) (by rcases h with q | q; exact absurd q.symm e; exact q)
      rw [Lib.indexByte,hx]
      simp only [Bool.false_eq_true,if_false]
      rw [if_neg (by rw [beq_iff_eq]; omega)]
      omega
theorem genSplit_ok (s : Bs) (c : UInt8) (hs : (s.length : Int) ≤ 1048576) : Does Tryz.prog 151 [.one (str s),.one (str [c]),.one (int 0),.one (int (-1))] [] (.one (.gv 0)) [.row 1 (rows eS (spl c s))] := by
  have hcl : Lib.countByte s c ≤ s.length := List.count_le_length
  have hone : ((([c] : Bs).length : Nat) : Int) = 1 := rfl
  refine does_of (k := 0) Tryz.func151 rfl Tryz.ntmps151 rfl rfl fun w F0 S0 ρ0 => ?_
  dsimp only [argT,argH]
  repeat' first|(apply n3;exact a_make (fE rfl) (fZ rfl) (fP rfl) (by decide) rfl rfl (by omega) rfl (by omega) (by omega) (rows_rep eS [] _);exact rfl;refine dA ?_)|(apply p3;(first|exact pu1|exact puC|exact a_eqT rfl rfl|exact a_add rfl rfl (by omega) (by omega)|exact a_lenT rfl (fT rfl)|exact a_min rfl rfl|exact a_sub rfl rfl (by omega) (by omega));exact rfl)|refine cd ?_|(apply c4 0;exact callK1 (θ := []) (hD := (CountB_ok _ _));exact rfl;exact rfl;exact rfl;refine dM ?_)
  rw [if_neg (by omega)]
  skip
  refine g_loop_id ?_
  refine loopK [1,2,3,8,9] [0] (fun y : Int × Bs × List Bs => 0 ≤ y.1 ∧ y.1 ≤ Lib.countByte s c ∧ y.2.2.length = Lib.countByte s c + 1 ∧ (Lib.countByte y.2.1 c : Int) = Lib.countByte s c - y.1 ∧ y.2.1.length ≤ s.length ∧ spl c s = y.2.2.take y.1.toNat ++ spl c y.2.1) (fun y => [(10,.one (int y.1)),(0,.one (str y.2.1))]) (fun y => [(0,.row 1 (rows eS y.2.2))]) (fun y => (Lib.countByte s c - y.1).toNat) ((0 : Int),s,List.replicate ((Lib.countByte s c : Int) + 1).toNat ([] : Bs)) [0] (hI := ?_) (hr := ?_)
  · exact ⟨by simp,by simp,by simp,by simp,by simp,by simp⟩
  · rintro ⟨i,cur,l⟩ ⟨h0,h1,h2,h3,h4,h5⟩
    dsimp only [List.cons_append,List.nil_append] at *
    skip
    repeat' first|(apply p3;(first|exact pu1|exact puC|exact a_add rfl rfl (by omega) (by omega)|exact puI);exact rfl)|refine cd ?_|(apply w3;(exact a_stE (E := eS) _ rfl rfl rfl rfl (fN rfl rfl) bnd (by exact rfl));exact rfl;refine dS ?_)|(apply c4 0;exact callK1 (θ := []) (hD := (IndexB_ok _ _));exact rfl;exact rfl;exact rfl;refine dM ?_)|(refine g_cond (c := .tmp 36) rfl (fun hc => ?_) (fun hc => ?_) <;> (try simp only [dcB] at hc) <;> (try (first|contradiction|(exfalso;omega))))
    · have hpos : 0 ≤ Lib.indexByte cur c := by
        rcases Int.lt_or_le (Lib.indexByte cur c) 0 with q | q
        · exfalso
          by_cases hm : c ∈ cur
          · obtain ⟨a,b,e⟩ := List.append_of_mem hm
            exact absurd q (by have := index_nn hm; omega)
          · have := count_no hm
            omega
        · exact q
      obtain ⟨a,b,e1,e2⟩ := index_split hpos
      subst e1
      have e3 := index_at (b := b) e2
      have e4 := count_app (b := b) e2
      rw [spl_app e2] at h5
      have e5 : (a ++ c :: b).length = a.length + b.length + 1 := by simp; omega
      have e6 : (a ++ c :: b).take ((a.length : Int) + 0).toNat = a := by simp
      have e7 : (a ++ c :: b).drop ((a.length : Int) + (([c] : Bs).length : Int)).toNat = b := by
        rw [show ((a.length : Int) + (([c] : Bs).length : Int)).toNat = a.length + 1 by simp,← List.drop_drop]
        simp
      rw [e3]
      repeat' first|(apply p3;(first|exact pu1|exact a_add rfl rfl (by omega) (by omega)|exact a_slSh rfl rfl (fT rfl) (by omega) bnd|exact a_lenT rfl (fT rfl)|exact a_slSl rfl rfl (fT rfl) (by omega) bnd|exact puI);exact rfl)|refine cd ?_|(apply w3;(exact a_stE (E := eS) _ rfl rfl rfl rfl (fN rfl rfl) bnd (by exact rfl));exact rfl;refine dS ?_)
      rw [e6,e7]
      refine q_again (i + 1,b,l.set i.toNat a) [0] (by exact stk) ?_ ?_
      · refine ⟨by dsimp only; omega,by dsimp only; omega,by simp [h2],by dsimp only; omega,by dsimp only; omega,?_⟩
        dsimp only
        rw [h5,show (i + 1).toNat = i.toNat + 1 by omega,List.take_succ_eq_append_getElem (by rw [List.length_set]; omega),List.getElem_set_self]
        simp [List.take_set_of_le]
      · omega
    · have hin : i = Lib.countByte s c := by omega
      have hno : c ∉ cur := fun q => by
        have := List.count_pos_iff.2 q
        have h6 : Lib.countByte cur c = 0 := by omega
        unfold Lib.countByte at h6
        omega
      have hset : (l.set i.toNat cur).length = l.length := List.length_set
      rw [spl_no hno] at h5
      have e : (l.set i.toNat cur) = spl c s := by
        rw [h5]
        apply List.ext_getElem
        · simp [h2]; omega
        · intro k k1 k2
          rw [List.getElem_set]
          split
          · next q => subst q; simp [List.getElem_append]; omega
          · next q =>
            rw [List.length_set] at k1
            rw [List.getElem_append_left (by simp; omega)]
            simp
      repeat' first|(apply p3;(exact pu1);exact rfl)|refine cd ?_|(apply s3;exact a_slHO rfl rfl rfl (fS rfl) (by omega) (by omega) (by exact rfl) (by decide);exact rfl;exact rfl)
      rw [List.take_of_length_le (by omega),e]
      repeat refine cr ?_
      refine ends_id ?_
      refine endK [?_] (h2 := ?_) (h3 := ?_) (nd := ?_)
      rotate_left 1
      all_goals (repeat' first|exact ce0|refine ce ?_|refine ce2 ?_ ?_|(refine Or.inr (bx_eq rfl rfl ?_);(try dsimp only [C.ren,C.ren.all]);(try exact rfl))|exact SVLe.refl|refine ceb ?_)
      all_goals first | exact (show nodupB _ = true from rfl) | exact Or.inr rfl | (rfl)
theorem Split_ok (s : Bs) (c : UInt8) (hs : (s.length : Int) ≤ 1048576) : Does Tryz.prog 87 [.one (str s),.one (str [c])] [] (.one (.gv 0)) [.row 1 (rows eS (spl c s))] := by
  refine does_of (k := 0) Tryz.func87 rfl Tryz.ntmps87 rfl rfl fun w F0 S0 ρ0 => ?_
  dsimp only [argT,argH]
  repeat' first|(apply p3;exact pu1;exact rfl)|refine cd ?_|(apply c4 1;exact callK1 (θ := []) (hD := (genSplit_ok _ _ preB116));exact rfl;exact rfl;exact rfl;refine dM ?_)
  repeat refine cr ?_
  refine ends_id ?_
  refine endK [?_] (h2 := ?_) (h3 := ?_) (nd := ?_)
  rotate_left 1
  all_goals (repeat' first|exact ce0|refine ce ?_|refine ce2 ?_ ?_|(refine Or.inr (bx_eq rfl rfl ?_);(try dsimp only [C.ren,C.ren.all]);(try exact rfl))|exact SVLe.refl|refine ceb ?_)
  all_goals first | exact (show nodupB _ = true from rfl) | exact Or.inr rfl | (rfl)
end Go.Proofs.YtighjcjmacajoaaGreatDoor
end
section
set_option linter.unusedVariables false
set_option linter.unusedSimpArgs false
set_option maxRecDepth 100000
set_option maxHeartbeats 4000000
namespace Go.Proofs.YtighjcjmacajoaaGreatDoor
open Go Foot
theorem valD_lt : ∀ (n : Nat) {l : Bs},l.length = n → (∀ c ∈ l,isDg c) → valD l < 10 ^ n
  | 0,l,h,_ => by
    have : l = [] := List.length_eq_zero_iff.1 h
    subst this
    simp [valD]
  | n + 1,l,h,hd => by
    have hne : l ≠ [] := fun e => by rw [e] at h; simp at h
    obtain ⟨a,c,rfl⟩ : ∃ a c,l = a ++ [c] := ⟨l.dropLast,l.getLast hne,(List.dropLast_concat_getLast hne).symm⟩
    have ih := valD_lt n (l := a) (by simp at h; exact h) fun x hx => hd x (by simp [hx])
    have hc := hd c (by simp)
    unfold isDg at hc
    rw [valD_snoc,Nat.pow_succ]
    omega
theorem dig_back {c : UInt8} (h : isDg c) : UInt8.ofNat (48 + (c.toNat - 48)) = c := by
  unfold isDg at h
  rw [show 48 + (c.toNat - 48) = c.toNat by omega]
  simp
theorem head_app {a b : Bs} (h : a ≠ []) : (a ++ b).head? = a.head? := by
  cases a with
  | nil => exact absurd rfl h
  | cons x a => rfl
theorem dec_of_val : ∀ (n : Nat) {l : Bs},l.length = n → l ≠ [] → (∀ c ∈ l,isDg c) → (l.head? ≠ some 48 ∨ l.length = 1) → Lib.decDigits (valD l) = l
  | 0,l,h,hne,_,_ => absurd (List.length_eq_zero_iff.1 h) hne
  | n + 1,l,h,hne,hd,hz => by
    obtain ⟨a,c,rfl⟩ : ∃ a c,l = a ++ [c] := ⟨l.dropLast,l.getLast hne,(List.dropLast_concat_getLast hne).symm⟩
    have hc := hd c (by simp)
    have hcb := dig_back hc
    have hcd : c.toNat - 48 < 10 := by unfold isDg at hc; omega
    by_cases ha : a = []
    · subst ha
      rw [valD_snoc,show valD [] = 0 from rfl,Nat.mul_zero,Nat.zero_add,Lib.decDigits,dif_pos hcd,hcb]
      rfl
    · have hh : a.head? ≠ some 48 := by
        rcases hz with hz | hz
        · rwa [head_app ha] at hz
        · cases a with
          | nil => exact absurd rfl ha
          | cons x a => simp at hz
      have ih := dec_of_val n (l := a) (by simp at h; exact h) ha (fun x hx => hd x (by simp [hx])) (.inl hh)
      have hv : valD a ≠ 0 := fun e => by
        rw [e] at ih
        rw [← ih] at hh
        exact hh (by simp [Lib.decDigits])
      rw [valD_snoc,Lib.decDigits,dif_neg (by omega),show (10 * valD a + (c.toNat - 48)) / 10 = valD a by omega,show (10 * valD a + (c.toNat - 48)) % 10 = c.toNat - 48 by omega,ih,hcb]
theorem dec_head {u : Nat} (h : u ≠ 0) : (Lib.decDigits u).head? ≠ some 48 := by
  induction u using Nat.strongRecOn with
  | _ u ih =>
    rw [Lib.decDigits]
    by_cases hu : u < 10
    · rw [dif_pos hu]
      intro e
      simp only [List.head?_cons,Option.some.injEq] at e
      have := (dg_nat hu).2
      rw [e] at this
      have h48 : (48 : UInt8).toNat = 48 := rfl
      omega
    · rw [dif_neg hu,head_app (dec_val (u / 10)).2.2]
      exact ih (u / 10) (by omega) (by omega)
theorem dec_len {k u : Nat} (hk : 1 ≤ k) (h : u < 10 ^ k) : (Lib.decDigits u).length ≤ k := by
  by_cases h0 : u = 0
  · subst h0; simp [Lib.decDigits]; omega
  · rw [← drev_dec u h0,byt_len,List.length_reverse]; exact drev_le k u h
theorem len_dec {k u : Nat} (h : (Lib.decDigits u).length ≤ k) : u < 10 ^ k := by
  obtain ⟨d1,d2,d3⟩ := dec_val u
  have := valD_lt _ rfl d2
  rw [d1] at this
  exact Nat.lt_of_lt_of_le this (Nat.pow_le_pow_right (by omega) h)
def valS : Bs → Int
  | [] => 0
  | c :: r => if c = 45 then -((valD r : Nat) : Int) else ((valD (c :: r) : Nat) : Int)
@[irreducible] def numS (s : Bs) : Option Int := if decT (valS s) = s ∧ -1000000000000000000 < valS s ∧ valS s < 1000000000000000000 then some (valS s) else none
theorem decT_neg {n : Int} (h : n < 0) : decT n = 45 :: Lib.decDigits n.natAbs := by unfold decT Lib.itoa; rw [if_pos h]
theorem dg_ne {c : UInt8} (h : isDg c) : c ≠ 45 := by rintro rfl; revert h; unfold isDg; decide
theorem valS_dec (n : Int) : valS (decT n) = n := by
  by_cases h : n < 0
  · rw [decT_neg h,valS,if_pos rfl,(dec_val _).1]; omega
  · rw [decT_nat (by omega)]
    obtain ⟨d1,d2,d3⟩ := dec_val n.toNat
    cases hq : Lib.decDigits n.toNat with
    | nil => exact absurd hq d3
    | cons c r =>
      rw [hq] at d1 d2
      rw [valS,if_neg (dg_ne (d2 c (by simp))),d1]
      omega
theorem numS_some {s : Bs} {n : Int} : numS s = some n ↔ decT n = s ∧ -1000000000000000000 < n ∧ n < 1000000000000000000 := by
  unfold numS
  constructor
  · intro h
    split at h
    · next hh => cases h; exact hh
    · cases h
  · rintro ⟨rfl,h1,h2⟩
    rw [valS_dec,if_pos ⟨rfl,h1,h2⟩]
def sgn (s : Bs) : Nat := if s.head? = some 45 then 1 else 0
structure Canon (s : Bs) : Prop where
  ne : sgn s < s.length
  le : s.length - sgn s ≤ 18
  z : ¬ (s[sgn s]? = some 48 ∧ 1 < s.length)
  d : ∀ c ∈ s.drop (sgn s),isDg c
theorem canon_dec {n : Int} (h1 : -1000000000000000000 < n) (h2 : n < 1000000000000000000) : Canon (decT n) := by
  by_cases h : n < 0
  · obtain ⟨d1,d2,d3⟩ := dec_val n.natAbs
    have dl := dec_len (k := 18) (u := n.natAbs) (by omega) (by omega)
    have dh := dec_head (u := n.natAbs) (by omega)
    have e := decT_neg h
    have es : sgn (decT n) = 1 := by rw [e]; rfl
    have hp : 0 < (Lib.decDigits n.natAbs).length := List.length_pos_iff.2 d3
    refine ⟨by rw [es,e,List.length_cons]; omega,by rw [es,e,List.length_cons]; omega,?_,?_⟩
    · rintro ⟨q,_⟩
      rw [es,e,List.getElem?_cons_succ,← List.head?_eq_getElem?] at q
      exact dh q
    · rw [es,e]; exact d2
  · obtain ⟨d1,d2,d3⟩ := dec_val n.toNat
    have dl := dec_len (k := 18) (u := n.toNat) (by omega) (by omega)
    have e := decT_nat (n := n) (by omega)
    have hp : 0 < (Lib.decDigits n.toNat).length := List.length_pos_iff.2 d3
    have es : sgn (decT n) = 0 := by
      rw [e]
      unfold sgn
      rw [if_neg]
      intro q
      exact dg_ne (d2 45 (List.mem_of_mem_head? q)) rfl
    refine ⟨by rw [es,e]; exact hp,by rw [es,e]; omega,?_,by rw [es,e]; exact d2⟩
    rintro ⟨q,q2⟩
    rw [es,e,← List.head?_eq_getElem?] at q
    by_cases h0 : n.toNat = 0
    · rw [e,h0] at q2
      simp [Lib.decDigits] at q2
    · exact dec_head h0 q
theorem canon_num {s : Bs} (h : Canon s) : numS s = some (valS s) ∧ valS s = if sgn s = 1 then -((valD (s.drop (sgn s)) : Nat) : Int) else ((valD (s.drop (sgn s)) : Nat) : Int) := by
  obtain ⟨hne,hle,hz,hd⟩ := h
  cases s with
  | nil => simp at hne
  | cons c r =>
    have hlt := valD_lt _ rfl hd
    have hpow : (10 : Nat) ^ ((c :: r).drop (sgn (c :: r))).length ≤ 10 ^ 18 := Nat.pow_le_pow_right (by omega) (by rw [List.length_drop]; exact hle)
    by_cases hc : c = 45
    · subst hc
      have es : sgn (45 :: r) = 1 := rfl
      rw [es] at hne hle hz hd hlt hpow ⊢
      simp only [List.drop_succ_cons,List.drop_zero,List.getElem?_cons_succ,List.length_cons] at hne hle hz hd hlt hpow ⊢
      have hv : valS (45 :: r) = -((valD r : Nat) : Int) := by rw [valS,if_pos rfl]
      have hrn : r ≠ [] := fun e => by subst e; simp at hne
      have hh : r.head? ≠ some 48 := fun q => hz ⟨by rw [← List.head?_eq_getElem?]; exact q,by omega⟩
      have hdd := dec_of_val _ rfl hrn hd (.inl hh)
      have h0 : valD r ≠ 0 := fun e => by
        rw [e] at hdd
        rw [← hdd] at hh
        exact hh (by simp [Lib.decDigits])
      rw [hv]
      refine ⟨numS_some.2 ⟨?_,by omega,by omega⟩,by simp⟩
      rw [decT_neg (by omega),show (-((valD r : Nat) : Int)).natAbs = valD r by omega,hdd]
    · have es : sgn (c :: r) = 0 := by
        unfold sgn
        rw [if_neg]
        intro q
        simp at q
        exact hc q
      rw [es] at hne hle hz hd hlt ⊢
      simp only [List.drop_zero] at hd hlt ⊢
      rw [es,List.drop_zero] at hpow
      have hv : valS (c :: r) = ((valD (c :: r) : Nat) : Int) := by rw [valS,if_neg hc]
      rw [hv]
      refine ⟨numS_some.2 ⟨?_,by omega,by omega⟩,by rw [if_neg (by omega)]⟩
      rw [decT_nat (by omega),show (((valD (c :: r) : Nat) : Int)).toNat = valD (c :: r) by omega]
      refine dec_of_val _ rfl (by simp) hd ?_
      by_cases q : (c :: r).length = 1
      · exact .inr q
      · refine .inl fun e => hz ⟨by rw [← List.head?_eq_getElem?]; exact e,?_⟩
        simp only [List.length_cons] at q ⊢
        omega
theorem not_canon {s : Bs} (h : ¬ Canon s) : numS s = none := by
  cases hn : numS s with
  | none => rfl
  | some n =>
    obtain ⟨rfl,h1,h2⟩ := numS_some.1 hn
    exact absurd (canon_dec h1 h2) h
theorem parse_dec2 {n : Int} (h1 : -1000000000000000000 < n) (h2 : n < 1000000000000000000) : Lib.parseIntB 64 (decT n) = .ok n := by
  by_cases h : n < 0
  · rw [decT_neg h]
    obtain ⟨d1,d2,d3⟩ := dec_val n.natAbs
    have hp : Lib.parseUintB 64 (Lib.decDigits n.natAbs) = .ok n.natAbs := by
      unfold Lib.parseUintB
      rw [if_neg d3,parseM d2 (by unfold valD at d1; rw [d1]; omega) (by decide)]
      unfold valD at d1
      rw [d1]
    unfold Lib.parseIntB
    simp only
    rw [if_pos (.inr (by decide)),hp]
    simp only
    rw [if_neg (fun q => q.1 (by decide)),if_neg (fun q => by have := q.2; omega),if_pos (by decide)]
    congr 1
    omega
  · exact parse_dec (by omega) (by omega)
theorem parse_bd {s : Bs} {v : Int} (h : Lib.parseIntB 64 s = .ok v) : -9223372036854775808 ≤ v ∧ v ≤ 9223372036854775807 := by
  cases s with
  | nil => cases h
  | cons c r =>
    simp only [Lib.parseIntB] at h
    split at h
    · cases h
    · cases h
    · split at h
      · cases h
      · split at h
        · cases h
        · simp only [Lib.NumEnd.ok.injEq] at h
          subst h
          split <;> omega
theorem trim_dec (n : Int) : Lib.trimPrefix (decT n) [45] = Lib.decDigits n.natAbs := by
  unfold Lib.trimPrefix
  by_cases h : n < 0
  · rw [decT_neg h,if_pos (by simp [Lib.hasPrefix])]
    rfl
  · have e := decT_nat (n := n) (by omega)
    obtain ⟨_,d2,d3⟩ := dec_val n.toNat
    rw [e,show n.natAbs = n.toNat by omega,if_neg]
    intro q
    cases hq : Lib.decDigits n.toNat with
    | nil => exact d3 hq
    | cons c r =>
      rw [hq] at q d2
      simp [Lib.hasPrefix] at q
      exact dg_ne (d2 c (by simp)) q.symm
def numL : List Bs → Option (List Int)
  | [] => some []
  | p :: r => (numS p).bind fun n => (numL r).map (n :: ·)
theorem numL_len : ∀ {l : List Bs} {w : List Int},numL l = some w → w.length = l.length
  | [],w,h => by cases h; rfl
  | p :: r,w,h => by
    unfold numL at h
    cases hp : numS p with
    | none => rw [hp] at h; cases h
    | some n =>
      rw [hp,Option.bind_some] at h
      cases hr : numL r with
      | none => rw [hr] at h; cases h
      | some v =>
        rw [hr] at h
        simp only [Option.map_some,Option.some.injEq] at h
        subst h
        simp [numL_len hr]
theorem numL_snoc : ∀ (l : List Bs) (p : Bs),numL (l ++ [p]) = (numL l).bind fun w => (numS p).map (w ++ [·])
  | [],p => by
    simp only [List.nil_append,numL]
    cases numS p <;> rfl
  | q :: r,p => by
    rw [List.cons_append,numL,numL_snoc r p,numL]
    cases numS q with
    | none => rfl
    | some n =>
      cases numL r with
      | none => rfl
      | some w => cases numS p <;> rfl
theorem numL_none {l : List Bs} : ∀ {i : Nat} (h : i < l.length),numS (l[i]) = none → numL l = none := by
  induction l with
  | nil => intro i h; simp at h
  | cons p r ih =>
    intro i h e
    unfold numL
    cases i with
    | zero => rw [List.getElem_cons_zero] at e; rw [e]; rfl
    | succ i =>
      rw [List.getElem_cons_succ] at e
      rw [ih (by simpa using h) e]
      cases numS p <;> rfl
end Go.Proofs.YtighjcjmacajoaaGreatDoor
end
section
set_option linter.unusedVariables false
set_option linter.unusedSimpArgs false
set_option maxRecDepth 100000
namespace Go.Proofs.YtighjcjmacajoaaGreatDoor
open Go Foot Go.Shelf Go.RowKit
end Go.Proofs.YtighjcjmacajoaaGreatDoor
end
section
set_option linter.unusedVariables false
set_option linter.unusedSimpArgs false
set_option maxRecDepth 1000000
namespace Go.Proofs.YtighjcjmacajoaaGreatDoor
open Go Foot Go.Shelf Go.RowKit
end Go.Proofs.YtighjcjmacajoaaGreatDoor
end
section
set_option linter.unusedVariables false
set_option linter.unusedSimpArgs false
set_option maxRecDepth 1000000
namespace Go.Proofs.YtighjcjmacajoaaGreatDoor
open Go Foot Go.Shelf Go.RowKit
section
variable {g : Gh} {st : St} {dst : Option Tmp} {ty : TypeId} {pos : String} {after : Array Edge} {guard : Option (Nat × Bool)} {i : Nat}
end
def erR : Opq where
  p _ _ us _ := ∃ te a,us = [.iface te (.pointer (some a))]
  keep := fun h _ _ _ _ => h
theorem does_err {P : Program} {f : Nat} {ags : List SV} {av : List Value} {m : Int} (ha : ∀ w S ρ vs,RepA w S ρ ags vs → vs = av)
    (hc : ∀ (w : World) (S : Foot),Tabs w S → Calls P f av.toArray w fun en w' => ∃ te a,en = .returned (.tuple #[.int .i64 m,.iface te (.pointer (some a))]) ∧ Below w.heap.size w w') :
    Does P f ags [] (.tup [(false,[int m]),(false,[.gv 0])]) [.opq erR [0]] := by
  intro vs w S ρ F hA hG
  have := ha _ _ _ _ hA
  subst this
  refine (hc w S hG.tab).mono ?_
  rintro en w' ⟨te,a,rfl,hb⟩
  have hn : ρ 0 = none := hG.new 0 (Nat.le_refl _)
  refine ⟨_,no,fun i => if i = 0 then some (.iface te (.pointer (some a))) else ρ i,fun _ => no,rfl,?_,⟨_,rfl,_,_,rfl,⟨_,[],rfl,⟨rfl,rfl⟩,rfl⟩,_,_,rfl,⟨.iface te (.pointer (some a)),[],rfl,⟨if_pos rfl,rfl⟩,rfl⟩,rfl⟩⟩
  refine ⟨⟨hb.os,hb.tape,hb.output,hb.size,fun k hk _ => hb.block k hk,fun k o hk _ => ?_⟩,no_le _,fun _ _ h => h.elim,by simp,fun i u hi _ => absurd hi (by simp),fun i hi => ?_,fun i gb hi => ?_,fun i j _ _ _ => fun _ _ h _ => h,fun i _ => fun _ _ h _ => h,fun i _ => no_le _,fun i _ b o h => h.elim⟩
  · have e := hb.block k hk
    simp [World.cell?,World.frozen?,mapAt,e]
  · simp only [List.length_cons,List.length_nil] at hi
    rw [if_neg (by omega)]
    exact hG.new i (Nat.zero_le _)
  · match i,hi with
    | 0,hi =>
      simp at hi
      subst hi
      exact .inr ⟨.iface te (.pointer (some a)),if_pos rfl,[.iface te (.pointer (some a))],by simp,te,a,rfl⟩
    | i + 1,hi => simp at hi
section
variable {P : Program} {g : Gh} {st : St}
variable {dst : Option Tmp} {ty : TypeId} {pos : String} {after : Array Edge} {guard : Option (Nat × Bool)} {x : Operand} {T U : TypeId} {i : Nat}
theorem a_neErr (e1 : opd st x = .one (.gv i)) (hg : lkG st.h i = .opq erR [i]) (hT : P.isIface T = true) : Acts P g ⟨dst,.binOp .neq T x (.const .nilIface) U,ty,pos,after,guard⟩ st (.one (boo true)) [] [] := by
  refine acts_of fun A w S ρ F h => ⟨.bool true,?_,rfl,rfl⟩
  have h1 := (opd_one h e1).1
  rcases h.root i with h0 | ⟨u,r1,r2⟩
  · rw [hg] at h0; cases h0
  rw [hg] at r2
  obtain ⟨us,q1,te,a,rfl⟩ := r2
  simp only [List.map_cons,List.map_nil,List.cons.injEq,and_true] at q1
  rw [q1] at h1
  simp only [Option.some.injEq] at h1
  show (do pure (.value (← (do eqGuard .neq T x (.const .nilIface) (A.eval x) (A.eval (.const .nilIface)); binOp .neq T (A.eval x) (A.eval (.const .nilIface))))) : Sem Next).run P w = _
  rw [← h1,show A.eval (.const .nilIface) = .nilIface from rfl]
  simp [eqGuard,run_neq_iface_nil w T hT]
end
end Go.Proofs.YtighjcjmacajoaaGreatDoor
end
section
set_option linter.unusedVariables false
set_option linter.unusedSimpArgs false
set_option maxRecDepth 100000
set_option maxHeartbeats 4000000
namespace Go.Proofs.YtighjcjmacajoaaGreatDoor
open Go Foot Go.RowKit
theorem preB122 {p : Prop} (h : p := by first | with_reducible assumption | omega | (simp only [List.length_append,List.length_cons,List.length_nil,List.length_set,List.length_replicate,List.length_take,List.length_drop,List.length_tail,List.length_dropLast,List.length_reverse] at *; omega) | exact mem_len (by assumption) (by omega) | (with_reducible refine Int.le_trans (Int.ofNat_le.2 (trimR_len _)) ?_; simp only [List.length_cons,List.length_tail]; omega) | (exact (ruAt_ok (by assumption) (by assumption) (by assumption)).2.1) | (exact (ruAt_ok (by assumption) (by assumption) (by assumption)).2.1) | (have := vMach_bd (by assumption); omega) | (simp only [mC_ch,mC_tu]; omega) | (have := vTag_bd (by assumption); omega) | (have := (‹Gd _ _›).le; omega) | (exact tgHalts_no (by assumption)) | (exact tgHead (by assumption) (by assumption) (by assumption)) | (exact Int.le_trans (tgStep_gd (by assumption) (by assumption) (by assumption) (by assumption)).le (by decide)) | (exact vTag_r (by assumption)) | (with_reducible refine Int.le_trans (Int.ofNat_le.2 (pushL_len _ _)) ?_; simp only [List.length_dropLast]; omega) | exact ls_at (by assumption) (by omega) | exact pt_gd (by assumption) | exact lv_at (by assumption) (by omega) | exact pt_gd (lv_at (by assumption) (by omega)) | exact (ask_ok (by assumption)).1 | exact (ask_ok (by assumption)).2.1 | exact (ask_ok (by assumption)).2.2.1 | exact (ask_ok (by assumption)).2.2.2 | trivial) : p := h
theorem ParseIntSyn_ok (s : Bs) (hs : (s.length : Int) ≤ 1000000000) (h : Lib.parseIntB 64 s = Lib.parseIntB 64 []) : Does Tryz.prog 243 [.one (str s),.one (int 10),.one (int 64)] [] (.tup [(false,[int 0]),(false,[.gv 0])]) [.opq erR [0]] :=
  does_err (av := [sv s,.int .i64 10,.int .i64 64]) (fun w S ρ vs => repA_3) fun w S hT => by
    obtain ⟨⟨cs,T,fr,ht,te,pe,hcs⟩,_⟩ := hT _ (List.mem_cons_of_mem _ (List.mem_cons_of_mem _ List.mem_cons_self))
    refine (Tryz.strconv_ParseInt_10_at64_syntax ⟨s.toArray⟩ (by rw [sz_str]; omega) h (.iface te pe) w ?_ (.inr ⟨te,pe,rfl⟩)).mono ?_
    · rw [Lib.cell_of_heap ht,hcs]; rfl
    · rintro en w' ⟨N,rfl,h1,h2,h3⟩
      exact ⟨_,_,rfl,h3⟩
theorem ParseIntRng_ok (s : Bs) (hs : (s.length : Int) ≤ 1000000000) (h : Lib.parseIntB 64 s = .range) : Does Tryz.prog 243 [.one (str s),.one (int 10),.one (int 64)] [] (.tup [(false,[int (Lib.intSat 64 s)]),(false,[.gv 0])]) [.opq erR [0]] :=
  does_err (av := [sv s,.int .i64 10,.int .i64 64]) (fun w S ρ vs => repA_3) fun w S hT => by
    obtain ⟨⟨cs,T,fr,ht,te,pe,hcs⟩,_⟩ := hT _ (List.mem_cons_of_mem _ List.mem_cons_self)
    refine (Tryz.strconv_ParseInt_10_at64_range ⟨s.toArray⟩ (by rw [sz_str]; omega) h (.iface te pe) w ?_ (.inr ⟨te,pe,rfl⟩)).mono ?_
    · rw [Lib.cell_of_heap ht,hcs]; rfl
    · rintro en w' ⟨N,rfl,h1,h2,h3⟩
      exact ⟨_,_,rfl,h3⟩
theorem ReadDecimalG_ok (s : Bs) (hs : (s.length : Int) ≤ 1048576) : Does Tryz.prog 181 [.one (str s)] [] (.tup [(false,[int ((numS s).getD 0)]),(false,[boo (numS s).isSome])]) [] := by
  cases hp : Lib.parseIntB 64 s
  · rename_i n
    obtain ⟨b1,b2⟩ := parse_bd hp
    have hdt : decT n = Lib.itoa n := by unfold decT; rfl
    have hlen := decT_le b1 b2
    by_cases hd : decT n = s
    · have ht : (Lib.trimPrefix s [45]) = Lib.decDigits n.natAbs := by rw [← hd,trim_dec]
      by_cases hl : (Lib.decDigits n.natAbs).length ≤ 18
      · have hn := len_dec hl
        have e : numS s = some n := numS_some.2 ⟨hd,by omega,by omega⟩
        rw [e]
        refine does_of (k := 0) Tryz.func181 rfl Tryz.ntmps181 rfl rfl fun w F0 S0 ρ0 => ?_
        dsimp only [argT,argH]
        repeat' first|(apply p3;(first|exact pu1|exact a_neNil rfl (by kernel_rfl));exact rfl)|refine cd ?_|(apply c4 0;exact callK1 (θ := []) (hD := (ParseInt_ok s n preB122 hp));exact rfl;exact rfl;exact rfl;refine dM ?_)|(apply py3;exact rfl;exact rfl;(first|exact pu1|exact a_neT rfl rfl|exact a_lenT rfl (fT rfl)|exact puC);exact rfl;exact rfl)|(apply cy4 0;exact rfl;exact rfl;exact callK1 (θ := []) (hD := (Decimal_ok _ preB122 preB122));exact rfl;exact rfl;exact rfl;exact rfl;refine dM ?_)|(apply cy4 0;exact rfl;exact rfl;exact callK1 (θ := []) (hD := (TrimPrefix_ok _ _));exact rfl;exact rfl;exact rfl;exact rfl;refine dM ?_)|(refine o_gs rfl rfl (fun hc => ?_) (fun hc => ?_) <;> (try simp only [dcB] at hc) <;> (try first|contradiction|(exfalso;omega)))
        simp only [ht]
        repeat' first|(apply p3;(exact pu1);exact rfl)|refine cd ?_|((refine g_cond rfl (fun hc => ?_) (fun hc => ?_)) <;> (try simp only [dcB] at hc) <;> (try first|contradiction|(exfalso;omega)))
        repeat refine cr ?_
        refine ends_id ?_
        refine endK [] (h2 := ?_) (h3 := ?_) (nd := ?_)
        all_goals (repeat' first|exact ce0|refine ce ?_|refine ce2 ?_ ?_|exact SVLe.refl|refine ceb ?_)
        all_goals first | exact (show nodupB _ = true from rfl) | exact Or.inr rfl | (rfl)
      · have e : numS s = none := by
          cases hq : numS s with
          | none => rfl
          | some k =>
            obtain ⟨q1,q2,q3⟩ := numS_some.1 hq
            have q4 : valS (decT k) = valS (decT n) := by rw [q1,hd]
            rw [valS_dec,valS_dec] at q4
            subst q4
            exact absurd (dec_len (k := 18) (by omega) (by omega)) hl
        rw [e]
        refine does_of (k := 0) Tryz.func181 rfl Tryz.ntmps181 rfl rfl fun w F0 S0 ρ0 => ?_
        dsimp only [argT,argH]
        repeat' first|(apply p3;(first|exact pu1|exact a_neNil rfl (by kernel_rfl));exact rfl)|refine cd ?_|(apply c4 0;exact callK1 (θ := []) (hD := (ParseInt_ok s n preB122 hp));exact rfl;exact rfl;exact rfl;refine dM ?_)|(apply py3;exact rfl;exact rfl;(first|exact pu1|exact a_neT rfl rfl|exact a_lenT rfl (fT rfl)|exact puC);exact rfl;exact rfl)|(apply cy4 0;exact rfl;exact rfl;exact callK1 (θ := []) (hD := (Decimal_ok _ preB122 preB122));exact rfl;exact rfl;exact rfl;exact rfl;refine dM ?_)|(apply cy4 0;exact rfl;exact rfl;exact callK1 (θ := []) (hD := (TrimPrefix_ok _ _));exact rfl;exact rfl;exact rfl;exact rfl;refine dM ?_)|(refine o_gs rfl rfl (fun hc => ?_) (fun hc => ?_) <;> (try simp only [dcB] at hc) <;> (try first|contradiction|(exfalso;omega)))
        simp only [ht]
        repeat' first|(apply p3;(exact pu1);exact rfl)|refine cd ?_|((refine g_cond rfl (fun hc => ?_) (fun hc => ?_)) <;> (try simp only [dcB] at hc) <;> (try first|contradiction|(exfalso;omega)))
        repeat refine cr ?_
        refine ends_id ?_
        refine endK [] (h2 := ?_) (h3 := ?_) (nd := ?_)
        all_goals (repeat' first|exact ce0|refine ce ?_|refine ce2 ?_ ?_|exact SVLe.refl|refine ceb ?_)
        all_goals first | exact (show nodupB _ = true from rfl) | exact Or.inr rfl | (rfl)
    · have e : numS s = none := by
        cases hq : numS s with
        | none => rfl
        | some k =>
          obtain ⟨q1,q2,q3⟩ := numS_some.1 hq
          rw [← q1,parse_dec2 q2 q3] at hp
          cases hp
          exact absurd q1 hd
      rw [e]
      refine does_of (k := 0) Tryz.func181 rfl Tryz.ntmps181 rfl rfl fun w F0 S0 ρ0 => ?_
      dsimp only [argT,argH]
      repeat' first|(apply p3;(first|exact pu1|exact a_neNil rfl (by kernel_rfl));exact rfl)|refine cd ?_|(apply c4 0;exact callK1 (θ := []) (hD := (ParseInt_ok s n preB122 hp));exact rfl;exact rfl;exact rfl;refine dM ?_)|refine o_no rfl rfl rfl rfl ?_|(apply py3;exact rfl;exact rfl;(first|exact pu1|exact a_neT rfl rfl);exact rfl;exact rfl)|(apply cy4 0;exact rfl;exact rfl;exact callK1 (θ := []) (hD := (Decimal_ok _ preB122 preB122));exact rfl;exact rfl;exact rfl;exact rfl;refine dM ?_)|((refine o_gs rfl rfl (fun hc => ?_) (fun hc => ?_)) <;> (try simp only [dcB] at hc) <;> (try first|contradiction|(exfalso;omega)))
      repeat refine cr ?_
      refine ends_id ?_
      refine endK [] (h2 := ?_) (h3 := ?_) (nd := ?_)
      all_goals (repeat' first|exact ce0|refine ce ?_|refine ce2 ?_ ?_|exact SVLe.refl|refine ceb ?_)
      all_goals first | exact (show nodupB _ = true from rfl) | exact Or.inr rfl | (rfl)
  · have e : numS s = none := by
      cases hq : numS s with
      | none => rfl
      | some k =>
        obtain ⟨q1,q2,q3⟩ := numS_some.1 hq
        rw [← q1,parse_dec2 q2 q3] at hp
        cases hp
    rw [e]
    refine does_of (k := 0) Tryz.func181 rfl Tryz.ntmps181 rfl rfl fun w F0 S0 ρ0 => ?_
    dsimp only [argT,argH]
    repeat' first|(apply p3;(first|exact pu1|exact a_neErr rfl rfl (by kernel_rfl));exact rfl)|refine cd ?_|(apply c4 1;exact callK0 (θ := []) (hD := (ParseIntSyn_ok s preB122 hp));exact rfl;exact rfl;exact rfl;refine dM ?_)|refine o_no rfl rfl rfl rfl ?_
    repeat refine cr ?_
    refine ends_id ?_
    refine endK [] (h2 := ?_) (h3 := ?_) (nd := ?_)
    all_goals (repeat' first|exact ce0|refine ce ?_|refine ce2 ?_ ?_|exact SVLe.refl|refine ceb ?_)
    all_goals first | exact (show nodupB _ = true from rfl) | exact Or.inr rfl | (rfl)
  · have e : numS s = none := by
      cases hq : numS s with
      | none => rfl
      | some k =>
        obtain ⟨q1,q2,q3⟩ := numS_some.1 hq
        rw [← q1,parse_dec2 q2 q3] at hp
        cases hp
    rw [e]
    refine does_of (k := 0) Tryz.func181 rfl Tryz.ntmps181 rfl rfl fun w F0 S0 ρ0 => ?_
    dsimp only [argT,argH]
    repeat' first|(apply p3;(first|exact pu1|exact a_neErr rfl rfl (by kernel_rfl));exact rfl)|refine cd ?_|(apply c4 1;exact callK0 (θ := []) (hD := (ParseIntRng_ok s preB122 hp));exact rfl;exact rfl;exact rfl;refine dM ?_)|refine o_no rfl rfl rfl rfl ?_
    repeat refine cr ?_
    refine ends_id ?_
    refine endK [] (h2 := ?_) (h3 := ?_) (nd := ?_)
    all_goals (repeat' first|exact ce0|refine ce ?_|refine ce2 ?_ ?_|exact SVLe.refl|refine ceb ?_)
    all_goals first | exact (show nodupB _ = true from rfl) | exact Or.inr rfl | (rfl)
end Go.Proofs.YtighjcjmacajoaaGreatDoor
end
section
set_option linter.unusedVariables false
set_option linter.unusedSimpArgs false
set_option maxRecDepth 100000
set_option maxHeartbeats 4000000
namespace Go.Proofs.YtighjcjmacajoaaGreatDoor
open Go Foot Go.RowKit
theorem drop_split {s : Bs} {f i : Nat} (hf : f ≤ i) (hi : i < s.length) : s.drop f = (s.take i).drop f ++ s[i] :: s.drop (i + 1) := by
  have e : s.take i ++ s[i] :: s.drop (i + 1) = s := by
    rw [← List.drop_eq_getElem_cons hi,List.take_append_drop]
  conv => lhs; rw [← e]
  rw [List.drop_append_of_le_length (by rw [List.length_take]; omega)]
theorem take_ext {s : Bs} {f i : Nat} (hf : f ≤ i) (hi : i < s.length) : (s.take (i + 1)).drop f = (s.take i).drop f ++ [s[i]] := by
  rw [List.take_succ_eq_append_getElem hi,List.drop_append_of_le_length (by rw [List.length_take]; omega)]
theorem l01Split_ok (s : Bs) (c : UInt8) (hs : (s.length : Int) ≤ 1048576) : Does Tryz.prog 147 [.one (str s),.one (u8 ((c.toNat : Nat) : Int))] [] (.one (.gv 0)) [.row 1 (rows eS (spl c s))] := by
  refine does_of (k := 0) Tryz.func147 rfl Tryz.ntmps147 rfl rfl fun w F0 S0 ρ0 => ?_
  dsimp only [argT,argH]
  repeat' first|(apply n3;exact a_nilO eS rfl;exact rfl)|(apply n3;(exact a_litE eS [] rfl rfl rfl rfl rfl rfl rfl rfl);exact rfl;refine dA ?_)|(apply p3;(exact pu1);exact rfl)|refine cd ?_
  refine g_loop_id ?_
  refine loopK [0,1,4] [1] (fun y : Int × Int × List Bs => 0 ≤ y.1 ∧ y.1 ≤ y.2.1 ∧ y.2.1 ≤ s.length ∧ spl c s = y.2.2 ++ spl c (s.drop y.1.toNat) ∧ c ∉ (s.take y.2.1.toNat).drop y.1.toNat ∧ (y.2.2.length : Int) ≤ y.1) (fun y => [(6,.one (int y.1)),(7,.one (int y.2.1)),(5,.one (.gv 1))]) (fun y => [(1,.row 1 (rows eS y.2.2))]) (fun y => (s.length - y.2.1).toNat) ((0 : Int),(0 : Int),([] : List Bs)) [0,1] (hI := ?_) (hr := ?_)
  · exact ⟨by simp,by simp,by simp,by simp,by simp,by simp⟩
  · rintro ⟨f,i,l⟩ ⟨h0,h1,h2,h3,h4,h5⟩
    dsimp only [List.cons_append,List.nil_append] at *
    skip
    repeat' first|(apply n3;(exact a_litE eS [_] rfl rfl rfl rfl rfl rfl rfl rfl);exact rfl;refine dA ?_)|(apply p3;(first|exact pu1|exact a_lenT rfl (fT rfl)|exact puC|exact a_idxS rfl rfl (fT rfl) (by omega) bnd|exact a_cmp8 rfl rfl rfl trivial rfl|exact a_slSm rfl rfl rfl (fT rfl) (by omega) (by omega) bnd|exact a_add rfl rfl (by omega) (by omega)|exact a_slSl rfl rfl (fT rfl) (by omega) bnd);exact rfl)|refine cd ?_|(apply s3;exact a_appE (fP rfl) rfl rfl rfl rfl nowR (by (simp;omega)) (by decide) (by decide) (by exact rfl);exact rfl;exact rfl)|((refine g_cond rfl (fun hc => ?_) (fun hc => ?_)) <;> (try simp only [dcB] at hc) <;> (try first|contradiction|(exfalso;omega)))
    · have hi : i.toNat < s.length := by omega
      have hg : s.getD i.toNat 0 = s[i.toNat]'hi := by rw [List.getD_eq_getElem?_getD,List.getElem?_eq_getElem]; rfl
      have hcc : s[i.toNat]'hi = c := by
        rw [← hg]
        apply UInt8.toNat_inj.1
        omega
      have e1 := drop_split (f := f.toNat) (i := i.toNat) (by omega) hi
      rw [hcc] at e1
      rw [e1,spl_app h4,List.drop_take] at h3
      refine q_again (i + 1,i + 1,l ++ [(s.drop f.toNat).take (i.toNat - f.toNat)]) [0,3] (by exact stk) ?_ ?_
      · refine ⟨by dsimp only; omega,by dsimp only; omega,by dsimp only; omega,?_,by simp,by simp; omega⟩
        dsimp only
        rw [show (i + 1).toNat = i.toNat + 1 by omega,h3]
        simp
      · dsimp only; omega
    · have hi : i.toNat < s.length := by omega
      have hg : s.getD i.toNat 0 = s[i.toNat]'hi := by rw [List.getD_eq_getElem?_getD,List.getElem?_eq_getElem]; rfl
      have hcc : s[i.toNat]'hi ≠ c := by
        rw [← hg]
        intro q
        rw [q] at hc
        omega
      refine q_again (f,i + 1,l) [0,1] (by exact stk) ?_ ?_
      · refine ⟨by dsimp only; omega,by dsimp only; omega,by dsimp only; omega,h3,?_,h5⟩
        dsimp only
        rw [show (i + 1).toNat = i.toNat + 1 by omega,take_ext (by omega) hi]
        intro q
        rcases List.mem_append.1 q with q | q
        · exact h4 q
        · exact hcc (List.mem_singleton.1 q).symm
      · dsimp only; omega
    · have hin : i = s.length := by omega
      rw [hin,show ((s.length : Int)).toNat = s.length by omega,List.take_length] at h4
      rw [spl_no h4] at h3
      rw [h3]
      repeat refine cr ?_
      refine ends_id ?_
      refine endK [?_] (h2 := ?_) (h3 := ?_) (nd := ?_)
      rotate_left 1
      all_goals (repeat' first|exact ce0|refine ce ?_|refine ce2 ?_ ?_|(refine Or.inr (bx_eq rfl rfl ?_);(try dsimp only [C.ren,C.ren.all]);(try exact rfl))|exact SVLe.refl|refine ceb ?_)
      all_goals first | exact (show nodupB _ = true from rfl) | exact Or.inr rfl | (rfl)
end Go.Proofs.YtighjcjmacajoaaGreatDoor
end
section
set_option linter.unusedVariables false
set_option linter.unusedSimpArgs false
set_option maxRecDepth 100000
set_option maxHeartbeats 4000000
namespace Go.Proofs.YtighjcjmacajoaaGreatDoor
open Go Foot
theorem join_cons2 (a b : Bs) (l : List Bs) (sep : Bs) : joinT (a :: b :: l) sep = a ++ (sep ++ joinT (b :: l) sep) := by
  unfold joinT
  simp [Lib.join]
theorem join_one (a sep : Bs) : joinT [a] sep = a := by
  unfold joinT
  simp [Lib.join]
end Go.Proofs.YtighjcjmacajoaaGreatDoor
end
section
set_option linter.unusedVariables false
set_option linter.unusedSimpArgs false
set_option maxRecDepth 100000
set_option maxHeartbeats 4000000
namespace Go.Proofs.YtighjcjmacajoaaGreatDoor
open Go Foot Go.RowKit
theorem spl_len (c : UInt8) : ∀ s : Bs,(spl c s).length ≤ s.length + 1
  | [] => by simp [spl]
  | x :: s => by
    have ih := spl_len c s
    rw [spl]
    split
    · simp only [List.length_cons]; omega
    · split
      · simp
      · next p r e => rw [e] at ih; simp only [List.length_cons] at ih ⊢; omega
theorem spl_el (c : UInt8) : ∀ (s : Bs),∀ p ∈ spl c s,p.length ≤ s.length ∧ ∀ x ∈ p,x ∈ s
  | [],p,h => by simp [spl] at h; subst h; simp
  | x :: s,p,h => by
    have ih := spl_el c s
    rw [spl] at h
    split at h
    · rcases List.mem_cons.1 h with rfl | h
      · simp
      · obtain ⟨i1,i2⟩ := ih p h
        exact ⟨by simp only [List.length_cons]; omega,fun y hy => List.mem_cons_of_mem _ (i2 y hy)⟩
    · split at h
      · rcases List.mem_cons.1 h with rfl | h
        · simp
        · cases h
      · next q r e =>
        rw [e] at ih
        rcases List.mem_cons.1 h with rfl | h
        · obtain ⟨i1,i2⟩ := ih q (by simp)
          refine ⟨by simp only [List.length_cons]; omega,fun y hy => ?_⟩
          rcases List.mem_cons.1 hy with rfl | hy
          · simp
          · exact List.mem_cons_of_mem _ (i2 y hy)
        · obtain ⟨i1,i2⟩ := ih p (by simp [h])
          exact ⟨by simp only [List.length_cons]; omega,fun y hy => List.mem_cons_of_mem _ (i2 y hy)⟩
theorem ReadDecsG_ok (s : Bs) (hs : (s.length : Int) ≤ 1048576) : Does Tryz.prog 119 [.one (str s)] [] (.tup [(false,[.gv 0]),(false,[boo (numL (spl 44 s)).isSome])]) [roI ((numL (spl 44 s)).getD [])] := by
  have hpl := spl_len 44 s
  have hpe := spl_el 44 s
  refine does_of (k := 0) Tryz.func119 rfl Tryz.ntmps119 rfl rfl fun w F0 S0 ρ0 => ?_
  dsimp only [argT,argH]
  repeat' first|(apply n3;exact a_nilO eI rfl;exact rfl)|(apply n3;(exact a_litE eI [] rfl rfl rfl rfl rfl rfl rfl rfl);exact rfl;refine dA ?_)|(apply p3;(first|exact pu1|exact puN);exact rfl)|refine cd ?_|(apply c4 1;exact callK1 (θ := []) (hD := (Split_ok s 44 hs));exact rfl;exact rfl;exact rfl;refine dM ?_)
  generalize spl 44 s = ps at *
  refine g_loop_id ?_
  refine loopK [2,3,11,12] [1] (fun y : Int × List Int => 0 ≤ y.1 ∧ y.1 ≤ ps.length ∧ numL (ps.take y.1.toNat) = some y.2) (fun y => [(13,.one (int y.1)),(4,.one (.gv 1))]) (fun y => [(1,roI y.2)]) (fun y => (ps.length - y.1).toNat) ((0 : Int),([] : List Int)) [0,1,2] (hI := ?_) (hr := ?_)
  · exact ⟨by simp,by simp,by simp [numL]⟩
  · rintro ⟨i,l⟩ ⟨h0,h1,h2⟩
    dsimp only [List.cons_append,List.nil_append] at *
    skip
    repeat' first|(apply p3;(first|exact pu1|exact puC|exact a_ld_rowS rfl rfl rfl (fC rfl) bnd|exact puI);exact rfl)|refine cdn ?_|refine g_reg (id := 3) ?_|refine g_reg (id := 4) ?_|refine g_reg (id := 10) ?_|((refine g_cond rfl (fun hc => ?_) (fun hc => ?_)) <;> (try simp only [dcB] at hc) <;> (try first|contradiction|(exfalso;omega)))
    · have hi : i.toNat < ps.length := by omega
      have hx := (hpe _ (List.getElem_mem hi)).1
      have hx1 : ((ps[i.toNat]'hi).length : Int) ≤ 1048576 := by omega
      have hll := numL_len h2
      rw [List.length_take] at hll
      have hsn := numL_snoc (ps.take i.toNat) (ps[i.toNat]'hi)
      rw [← List.take_succ_eq_append_getElem hi,h2,Option.bind_some] at hsn
      simp only [List.getElem_map,Nat.mul_one]
      repeat' first|(apply p3;(exact pu1);exact rfl)|refine cdn ?_|refine g_reg (id := 5) ?_|(apply c4 0;exact callK1 (θ := []) (hD := (ReadDecimalG_ok (ps[i.toNat]'hi) hx1));exact rfl;exact rfl;exact rfl;refine dM ?_)
      cases hn : numS (ps[i.toNat]'hi) with
      | none =>
        rw [numL_none hi hn]
        simp only [Option.isSome_none,Option.getD_none]
        repeat' first|(apply n3;exact a_nilO eI rfl;exact rfl)|(apply p3;(exact pu1);exact rfl)|refine cd ?_
        repeat refine cr ?_
        refine ends_id ?_
        refine endK [?_] (h2 := ?_) (h3 := ?_) (nd := ?_)
        rotate_left 1
        all_goals (repeat' first|exact ce0|refine ce ?_|refine ce2 ?_ ?_|(refine Or.inr (bx_eq rfl rfl ?_);(try dsimp only [C.ren,C.ren.all]);(try exact rfl))|exact SVLe.refl|refine ceb ?_)
        all_goals first | exact (show nodupB _ = true from rfl) | exact Or.inr rfl | (rfl)
      | some n =>
        rw [hn,Option.map_some] at hsn
        simp only [Option.isSome_some,Option.getD_some]
        repeat' first|(apply n3;(exact a_litE eI [_] rfl rfl rfl rfl rfl rfl rfl rfl);exact rfl;refine dA ?_)|(apply p3;(first|exact pu1|exact a_add rfl rfl (by omega) (by omega));exact rfl)|refine cd ?_|(apply s3;exact a_appE (fP rfl) rfl rfl rfl rfl nowR (by (simp;omega)) (by decide) (by decide) (by exact rfl);exact rfl;exact rfl)
        refine q_again (i + 1,l ++ [n]) [0,4,2] (by exact stk) ?_ ?_
        · exact ⟨by dsimp only; omega,by dsimp only; omega,by dsimp only; rw [show (i + 1).toNat = i.toNat + 1 by omega,hsn]⟩
        · omega
    · rw [List.take_of_length_le (by omega)] at h2
      rw [h2]
      repeat refine cr ?_
      refine ends_id ?_
      refine endK [?_] (h2 := ?_) (h3 := ?_) (nd := ?_)
      rotate_left 1
      all_goals (repeat' first|exact ce0|refine ce ?_|refine ce2 ?_ ?_|(refine Or.inr (bx_eq rfl rfl ?_);(try dsimp only [C.ren,C.ren.all]);(try exact rfl))|exact SVLe.refl|refine ceb ?_)
      all_goals first | exact (show nodupB _ = true from rfl) | exact Or.inr rfl | (rfl)
end Go.Proofs.YtighjcjmacajoaaGreatDoor
end
section
set_option linter.unusedVariables false
set_option linter.unusedSimpArgs false
set_option maxRecDepth 100000
set_option maxHeartbeats 4000000
namespace Go.Proofs.YtighjcjmacajoaaGreatDoor
open Go Foot Go.RowKit
@[irreducible] def isDgB (n : Int) : Bool := decide (48 ≤ n ∧ n ≤ 57)
theorem l01Digit_ok (n : Int) : Does Tryz.prog 262 [.one (u8 n)] [] (.one (boo (isDgB n))) [] := by
  by_cases h : 48 ≤ n
  · have e : isDgB n = decide (n ≤ 57) := by unfold isDgB; simp [h]
    rw [e]
    refine does_of (k := 0) Tryz.func262 rfl Tryz.ntmps262 rfl rfl fun w F0 S0 ρ0 => ?_
    dsimp only [argT,argH]
    repeat' first|(apply p3;(first|exact pu1|exact a_cmp8 rfl rfl rfl trivial rfl);exact rfl)|refine cd ?_|(apply py3;exact rfl;exact rfl;(first|exact pu1|exact a_cmp8 rfl rfl rfl trivial rfl);exact rfl;exact rfl)|((refine o_gs rfl rfl (fun hc => ?_) (fun hc => ?_)) <;> (try simp only [dcB] at hc) <;> (try first|contradiction|(exfalso;omega)))
    repeat refine cr ?_
    refine ends_id ?_
    refine endK [] (h2 := ?_) (h3 := ?_) (nd := ?_)
    all_goals (repeat' first|exact ce0|refine ce ?_|refine ce2 ?_ ?_|exact SVLe.refl|refine ceb ?_)
    all_goals first | exact (show nodupB _ = true from rfl) | exact Or.inr rfl | (rfl)
  · have e : isDgB n = false := by unfold isDgB; simp [h]
    rw [e]
    refine does_of (k := 0) Tryz.func262 rfl Tryz.ntmps262 rfl rfl fun w F0 S0 ρ0 => ?_
    dsimp only [argT,argH]
    repeat' first|(apply p3;(first|exact pu1|exact a_cmp8 rfl rfl rfl trivial rfl);exact rfl)|refine cd ?_|refine o_no rfl rfl rfl rfl ?_|((refine o_gs rfl rfl (fun hc => ?_) (fun hc => ?_)) <;> (try simp only [dcB] at hc) <;> (try first|contradiction|(exfalso;omega)))
    repeat refine cr ?_
    refine ends_id ?_
    refine endK [] (h2 := ?_) (h3 := ?_) (nd := ?_)
    all_goals (repeat' first|exact ce0|refine ce ?_|refine ce2 ?_ ?_|exact SVLe.refl|refine ceb ?_)
    all_goals first | exact (show nodupB _ = true from rfl) | exact Or.inr rfl | (rfl)
theorem isDgB_iff (c : UInt8) : isDgB ((c.toNat : Nat) : Int) = true ↔ isDg c := by
  unfold isDgB isDg
  rw [decide_eq_true_eq]
  omega
theorem sgn_le (s : Bs) (h : s ≠ []) : sgn s ≤ s.length ∧ sgn s ≤ 1 := by
  have := List.length_pos_iff.2 h
  unfold sgn
  split <;> omega
theorem getD_getElem {s : Bs} {i : Nat} (h : i < s.length) : s.getD i 0 = s[i] := by rw [List.getD_eq_getElem?_getD,List.getElem?_eq_getElem h]; rfl
structure NumAt (r : Bs) (j n : Int) : Prop where
  z : 0 ≤ j
  l : j ≤ r.length
  l18 : (r.length : Int) ≤ 18
  d : ∀ c ∈ r.take j.toNat,isDg c
  v : n = ((valD (r.take j.toNat) : Nat) : Int)
theorem NumAt.bd {r : Bs} {j n : Int} (h : NumAt r j n) : 0 ≤ n ∧ n < 1000000000000000000 ∧ (j < r.length → n < 100000000000000000) := by
  have h1 := valD_lt _ rfl h.d
  have e : (r.take j.toNat).length = j.toNat := by rw [List.length_take]; have := h.l; omega
  rw [e] at h1
  have hl := h.l
  have h18 := h.l18
  have hv := h.v
  refine ⟨by omega,?_,fun hj => ?_⟩
  · have : (10 : Nat) ^ j.toNat ≤ 10 ^ 18 := Nat.pow_le_pow_right (by omega) (by omega)
    omega
  · have : (10 : Nat) ^ j.toNat ≤ 10 ^ 17 := Nat.pow_le_pow_right (by omega) (by omega)
    omega
theorem NumAt.next {r : Bs} {j n : Int} (h : NumAt r j n) (hj : j.toNat < r.length) (hd : isDg r[j.toNat]) : NumAt r (j + 1) (10 * n + (((r[j.toNat].toNat : Nat) : Int) - 48)) := by
  have hz := h.z
  have e : r.take (j + 1).toNat = r.take j.toNat ++ [r[j.toNat]] := by rw [show (j + 1).toNat = j.toNat + 1 by omega,List.take_succ_eq_append_getElem hj]
  refine ⟨by omega,by omega,h.l18,?_,?_⟩
  · rw [e]
    intro c hc
    rcases List.mem_append.1 hc with hc | hc
    · exact h.d c hc
    · rw [List.mem_singleton.1 hc]; exact hd
  · rw [e,valD_snoc,h.v]
    unfold isDg at hd
    omega
@[irreducible] def preN (s : Bs) : Bool := decide ((sgn s : Int) ≠ s.length ∧ (s.length : Int) - sgn s ≤ 18 ∧ ¬ ((((s.getD (sgn s) 0).toNat : Nat) : Int) = 48 ∧ 1 < (s.length : Int)))
theorem preN_iff {s : Bs} (h : s ≠ []) : Canon s ↔ preN s = true ∧ ∀ c ∈ s.drop (sgn s),isDg c := by
  obtain ⟨h1,h2⟩ := sgn_le s h
  have e48 : (48 : UInt8).toNat = 48 := rfl
  unfold preN
  rw [decide_eq_true_eq]
  constructor
  · intro q
    have q1 := q.ne
    have q2 := q.le
    refine ⟨⟨by omega,by omega,fun ⟨a,b⟩ => q.z ⟨?_,by omega⟩⟩,q.d⟩
    rw [List.getElem?_eq_getElem q1]
    rw [getD_getElem q1] at a
    congr 1
    apply UInt8.toNat_inj.1
    omega
  · rintro ⟨⟨a,b,c⟩,d⟩
    have q1 : sgn s < s.length := by omega
    refine ⟨q1,by omega,fun ⟨x,y⟩ => c ⟨?_,by omega⟩,d⟩
    rw [List.getElem?_eq_getElem q1] at x
    rw [getD_getElem q1,Option.some.inj x]
    rfl
theorem num_end {s : Bs} {n : Int} (h0 : s ≠ []) (hpn : preN s = true) (K : NumAt (s.drop (sgn s)) ((s.length : Int) - sgn s) n) : numS s = some (if (sgn s : Int) = 1 then -n else n) := by
  have hs := (sgn_le s h0).1
  have hdd := K.d
  have hvv := K.v
  have hrl : ((s.drop (sgn s)).length : Int) = s.length - sgn s := by rw [List.length_drop]; omega
  rw [List.take_of_length_le (by omega)] at hdd hvv
  have hC : Canon s := (preN_iff h0).2 ⟨hpn,hdd⟩
  obtain ⟨q1,q2⟩ := canon_num hC
  rw [q1,q2,hvv]
  congr 1
  by_cases h : sgn s = 1
  · rw [if_pos h,if_pos (by omega)]
  · rw [if_neg h,if_neg (by omega)]
theorem l01Number_ok (s : Bs) (hs : (s.length : Int) ≤ 1048576) : Does Tryz.prog 263 [.one (str s)] [] (.tup [(false,[int ((numS s).getD 0)]),(false,[boo (numS s).isSome])]) [] := by
  by_cases h0 : s = []
  · have e : numS s = none := not_canon fun h => by have := h.ne; subst h0; simp at this
    rw [e]
    subst h0
    refine does_of (k := 0) Tryz.func263 rfl Tryz.ntmps263 rfl rfl fun w F0 S0 ρ0 => ?_
    dsimp only [argT,argH]
    repeat' first|(apply p3;(first|exact pu1|exact a_lenT rfl (fT rfl)|exact puC);exact rfl)|refine cd ?_|refine o_no rfl rfl rfl rfl ?_
    repeat refine cr ?_
    refine ends_id ?_
    refine endK [] (h2 := ?_) (h3 := ?_) (nd := ?_)
    all_goals (repeat' first|exact ce0|refine ce ?_|refine ce2 ?_ ?_|exact SVLe.refl|refine ceb ?_)
    all_goals first | exact (show nodupB _ = true from rfl) | exact Or.inr rfl | (rfl)
  obtain ⟨hs1,hs2⟩ := sgn_le s h0
  have hp : 0 < s.length := List.length_pos_iff.2 h0
  have hg0 : s.getD 0 0 = s[0] := getD_getElem hp
  have hh : s.head? = some s[0] := by rw [List.head?_eq_getElem?,List.getElem?_eq_getElem hp]
  have hsg : (sgn s : Int) = if (((s.getD 0 0).toNat : Nat) : Int) = 45 then 1 else 0 := by
    unfold sgn
    rw [hh,hg0]
    by_cases q : s[0] = 45
    · rw [q]; rfl
    · rw [if_neg (fun e => q (Option.some.inj e)),if_neg (fun e => q (UInt8.toNat_inj.1 (by show s[0].toNat = (45 : UInt8).toNat; have : (45 : UInt8).toNat = 45 := rfl; omega)))]; rfl
  refine does_of (k := 0) Tryz.func263 rfl Tryz.ntmps263 rfl rfl fun w F0 S0 ρ0 => ?_
  dsimp only [argT,argH]
  repeat' first|(apply p3;(first|exact pu1|exact a_lenT rfl (fT rfl)|exact puC);exact rfl)|refine cd ?_|(apply py3;exact rfl;exact rfl;(first|exact pu1|exact a_idxS rfl rfl (fT rfl) (by omega) bnd|exact a_cmp8 rfl rfl rfl trivial rfl);exact rfl;exact rfl)|(refine o_gs rfl rfl (fun hc => ?_) (fun hc => ?_) <;> (try simp only [dcB] at hc) <;> (try first|contradiction|(exfalso;omega)))
  refine cutK [0,2,3] [] (fun y : Int => y = (sgn s : Int)) (fun y => [(4,.one (int y))]) (fun _ => []) (hc := ?_) (hk := ?_)
  · repeat' first|(apply p3;exact a_pure (sv := .one _) rfl;exact rfl)|refine cd ?_|((refine g_cond rfl (fun hc => ?_) (fun hc => ?_)) <;> (try simp only [dcB] at hc) <;> (try first|contradiction|(exfalso;omega)))
    · refine q_here (1 : Int) [] (by exact stk) ?_
      rw [hsg]
      exact (if_pos hc).symm
    · refine q_here (0 : Int) [] (by exact stk) ?_
      rw [hsg]
      exact (if_neg hc).symm
  rintro _ rfl
  dsimp only [List.cons_append,List.nil_append] at *
  skip
  repeat' first|refine cdn ?_
  have hgs : s.getD ((sgn s : Nat) : Int).toNat 0 = s.getD (sgn s) 0 := by rw [show ((sgn s : Nat) : Int).toNat = sgn s by omega]
  refine cutK [0,2,3,4] [] (fun y : Bool => y = !preN s) (fun y => [(36,.one (boo y))]) (fun _ => []) (hc := ?_) (hk := ?_)
  · repeat' first|(apply p3;(first|exact pu1|exact a_lenT rfl (fT rfl)|exact puC);exact rfl)|refine cd ?_|refine o_no rfl rfl rfl rfl ?_|(apply py3;exact rfl;exact rfl;(first|exact pu1|exact a_lenT rfl (fT rfl)|exact puC|exact a_sub rfl rfl (by omega) (by omega)|exact a_idxS rfl rfl (fT rfl) (by omega) bnd|exact a_cmp8 rfl rfl rfl trivial rfl);exact rfl;exact rfl)|((refine o_gs rfl rfl (fun hc => ?_) (fun hc => ?_)) <;> (try simp only [dcB] at hc) <;> (try first|contradiction|(exfalso;omega)))
    · refine q_here _ [] (by exact stk) ?_
      unfold preN
      rw [decide_eq_false (fun q => q.1 hc.symm)]
      rfl
    · refine q_here _ [] (by exact stk) ?_
      unfold preN
      rw [decide_eq_false (fun q => by have := q.2.1; omega)]
      rfl
    · refine q_here _ [] (by exact stk) ?_
      unfold preN
      rw [hgs] at hc
      by_cases h1 : 1 < (s.length : Int)
      · rw [decide_eq_true h1,decide_eq_false (fun q => q.2.2 ⟨hc,h1⟩)]
        rfl
      · rw [decide_eq_false h1,decide_eq_true ⟨by omega,by omega,fun q => h1 q.2⟩]
        rfl
    · refine q_here _ [] (by exact stk) ?_
      unfold preN
      rw [hgs] at hc
      rw [decide_eq_true ⟨by omega,by omega,fun q => hc q.1⟩]
      rfl
  rintro y hy
  dsimp only [List.cons_append,List.nil_append] at *
  skip
  repeat' first|(apply p3;(exact pu1);exact rfl)|refine cd ?_|((refine g_cond rfl (fun hc => ?_) (fun hc => ?_)) <;> (try simp only [dcB] at hc) <;> (try first|contradiction|(exfalso;omega)))
  · have hpn : preN s = false := by rw [hc] at hy; revert hy; cases preN s <;> decide
    have e : numS s = none := not_canon fun q => by
      have := ((preN_iff h0).1 q).1
      rw [hpn] at this; cases this
    rw [e]
    repeat refine cr ?_
    refine ends_id ?_
    refine endK [] (h2 := ?_) (h3 := ?_) (nd := ?_)
    all_goals (repeat' first|exact ce0|refine ce ?_|refine ce2 ?_ ?_|exact SVLe.refl|refine ceb ?_)
    all_goals first | exact (show nodupB _ = true from rfl) | exact Or.inr rfl | (rfl)
  · have hpn : preN s = true := by rw [hc] at hy; revert hy; cases preN s <;> decide
    have hpp := hpn
    unfold preN at hpp
    rw [decide_eq_true_eq] at hpp
    have hrl : ((s.drop (sgn s)).length : Int) = s.length - sgn s := by rw [List.length_drop]; omega
    refine g_loop_id ?_
    refine loopK [0,2,3,4] [] (fun y : Int × Int => (sgn s : Int) ≤ y.1 ∧ y.1 ≤ s.length ∧ NumAt (s.drop (sgn s)) (y.1 - sgn s) y.2) (fun y => [(6,.one (int y.1)),(5,.one (int y.2))]) (fun _ => []) (fun y => (s.length - y.1).toNat) ((sgn s : Int),(0 : Int)) [] (hI := ?_) (hr := ?_)
    · refine ⟨by dsimp only; omega,by dsimp only; omega,by dsimp only; omega,by dsimp only; omega,by omega,?_,?_⟩
      · dsimp only; rw [Int.sub_self]; simp
      · dsimp only; rw [Int.sub_self]; simp [valD]
    · rintro ⟨i,n⟩ ⟨k1,k2,k3⟩
      dsimp only [List.cons_append,List.nil_append] at *
      skip
      repeat' first|(apply p3;(first|exact pu1|exact a_lenT rfl (fT rfl)|exact puC);exact rfl)|refine cdn ?_|refine g_reg (id := 8) ?_|refine g_reg (id := 13) ?_|refine g_reg (id := 14) ?_|refine g_reg (id := 15) ?_|((refine g_cond rfl (fun hc => ?_) (fun hc => ?_)) <;> (try simp only [dcB] at hc) <;> (try first|contradiction|(exfalso;omega)))
      · have hi : i.toNat < s.length := by omega
        have hg := getD_getElem hi
        have hj : (i - (sgn s : Int)).toNat < (s.drop (sgn s)).length := by omega
        have hdr : (s.drop (sgn s))[(i - (sgn s : Int)).toNat]'hj = s.getD i.toNat 0 := by
          rw [hg,List.getElem_drop]
          congr 1
          omega
        have hnb := k3.bd
        cases hd : isDgB (((s.getD i.toNat 0).toNat : Nat) : Int) with
        | false =>
          have e : numS s = none := not_canon fun q => by
            have q2 := ((preN_iff h0).1 q).2 _ (List.getElem_mem hj)
            rw [hdr,← isDgB_iff,hd] at q2
            cases q2
          rw [e]
          have hdn : ¬ isDgB (((s.getD i.toNat 0).toNat : Nat) : Int) = true := by rw [hd]; decide
          repeat' first|(apply p3;(first|exact pu1|exact a_idxS rfl rfl (fT rfl) (by omega) bnd);exact rfl)|refine cd ?_|(apply c4 0;exact callK1 (θ := []) (hD := (l01Digit_ok _));exact rfl;exact rfl;exact rfl;refine dM ?_)|((refine g_cond rfl (fun hc => ?_) (fun hc => ?_)) <;> (try simp only [dcB] at hc) <;> (try first|contradiction|(exfalso;omega)))
          repeat refine cr ?_
          refine ends_id ?_
          refine endK [] (h2 := ?_) (h3 := ?_) (nd := ?_)
          all_goals (repeat' first|exact ce0|refine ce ?_|refine ce2 ?_ ?_|exact SVLe.refl|refine ceb ?_)
          all_goals first | exact (show nodupB _ = true from rfl) | exact Or.inr rfl | (rfl)
        | true =>
          have hdd := (isDgB_iff _).1 hd
          have hdn : ¬ isDgB (((s.getD i.toNat 0).toNat : Nat) : Int) = false := by rw [hd]; decide
          have hdu := hdd
          unfold isDg at hdu
          have k4 := k3.next hj (by rw [hdr]; exact hdd)
          rw [hdr] at k4
          have hn17 := hnb.2.2 (by omega)
          have hn0 := hnb.1
          repeat' first|(apply p3;(first|exact pu1|exact a_idxS rfl rfl (fT rfl) (by omega) bnd|exact a_mul rfl rfl (by first|omega|assumption) (by first|omega|assumption)|exact a_sub8 rfl rfl (by omega) (by omega)|exact a_of8 rfl Tryz.underlying5 Tryz.underlying2 (by omega) (by first|omega|exact byte_lt _)|exact a_add rfl rfl (by omega) (by omega));exact rfl)|refine cd ?_|(apply c4 0;exact callK1 (θ := []) (hD := (l01Digit_ok _));exact rfl;exact rfl;exact rfl;refine dM ?_)|((refine g_cond rfl (fun hc => ?_) (fun hc => ?_)) <;> (try simp only [dcB] at hc) <;> (try first|contradiction|(exfalso;omega)))
          refine q_again (i + 1,10 * n + (((s.getD i.toNat 0).toNat : Nat) - 48 : Int)) [] (by exact stk) ?_ ?_
          · refine ⟨by dsimp only; omega,by dsimp only; omega,?_⟩
            dsimp only
            rw [show i + 1 - (sgn s : Int) = i - sgn s + 1 by omega]
            exact k4
          · dsimp only; omega
      · have hin : i = s.length := by omega
        rw [hin] at k3
        obtain ⟨hn0,hn1,_⟩ := k3.bd
        rw [num_end h0 hpn k3,if_pos hc]
        repeat' first|(apply p3;(first|exact pu1|exact a_neg rfl (by omega) (by omega));exact rfl)|refine cd ?_
        repeat refine cr ?_
        refine ends_id ?_
        refine endK [] (h2 := ?_) (h3 := ?_) (nd := ?_)
        all_goals (repeat' first|exact ce0|refine ce ?_|refine ce2 ?_ ?_|exact SVLe.refl|refine ceb ?_)
        all_goals first | exact (show nodupB _ = true from rfl) | exact Or.inr rfl | (rfl)
      · have hin : i = s.length := by omega
        rw [hin] at k3
        rw [num_end h0 hpn k3,if_neg hc]
        repeat refine cr ?_
        refine ends_id ?_
        refine endK [] (h2 := ?_) (h3 := ?_) (nd := ?_)
        all_goals (repeat' first|exact ce0|refine ce ?_|refine ce2 ?_ ?_|exact SVLe.refl|refine ceb ?_)
        all_goals first | exact (show nodupB _ = true from rfl) | exact Or.inr rfl | (rfl)
end Go.Proofs.YtighjcjmacajoaaGreatDoor
end
