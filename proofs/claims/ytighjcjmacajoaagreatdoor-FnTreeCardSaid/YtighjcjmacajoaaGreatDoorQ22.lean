/- Parts of the proof (22 of 24). -/
import Derived.Lib.AtoiErrMem
import Derived.Test.YtighjcjmacajoaaGreatDoorQ21
section
set_option linter.unusedVariables false
set_option linter.unusedSimpArgs false
set_option maxRecDepth 100000
set_option maxHeartbeats 4000000
namespace Go.Proofs.YtighjcjmacajoaaGreatDoor
open Go Foot Go.RowKit
theorem TrimPrefix_ok (s p : Bs) : Does Tryz.prog 244 [.one (str s),.one (str p)] [] (.one (str (Lib.trimPrefix s p))) [] :=
  does_ext (av := [sv s,sv p]) (rv := sv (Lib.trimPrefix s p)) (fun w S ρ vs => repA_2) (fun w S ρ => ⟨rfl,rfl⟩) fun w S _ => (Tryz.strings_TrimPrefix ⟨s.toArray⟩ ⟨p.toArray⟩ w).mono fun en w' ⟨h1,h2⟩ => by
    subst h2
    exact ⟨h1,Below.refl _ _⟩
theorem repA_3 {w : World} {S : Foot} {ρ : Env} {v u t : Value} {vs : List Value} (h : RepA w S ρ [.one (.d (.sc v)),.one (.d (.sc u)),.one (.d (.sc t))] vs) : vs = [v,u,t] := by
  simp only [RepA,RepS,RepC,Rep] at h
  obtain ⟨_,_,rfl,⟨rfl,_⟩,_,_,rfl,⟨rfl,_⟩,_,_,rfl,⟨rfl,_⟩,rfl⟩ := h
  rfl
theorem ParseInt_ok (s : Bs) (n : Int) (hs : (s.length : Int) ≤ 1000000000) (h : Lib.parseIntB 64 s = .ok n) : Does Tryz.prog 243 [.one (str s),.one (int 10),.one (int 64)] [] (.tup [(false,[int n]),(false,[.d (.sc .nilIface)])]) [] :=
  does_ext (av := [sv s,.int .i64 10,.int .i64 64]) (rv := .tuple #[.int .i64 n,.nilIface]) (fun w S ρ vs => repA_3) (fun w S ρ => ⟨_,rfl,_,_,rfl,⟨_,[],rfl,⟨rfl,rfl⟩,rfl⟩,_,_,rfl,⟨_,[],rfl,⟨rfl,rfl⟩,rfl⟩,rfl⟩) fun w S _ => (Tryz.strconv_ParseInt_10_at64_ok ⟨s.toArray⟩ (by rw [sz_str]; omega) n h w).mono fun en w' ⟨h1,h2⟩ => by
    refine ⟨h1,?_⟩
    rcases h2 with rfl | ⟨t,rfl⟩
    · exact Below.refl _ _
    · exact Lib.bytesWorld_below w 5 t
theorem index_at {c : UInt8} : ∀ {a b : Bs},c ∉ a → Lib.indexByte (a ++ c :: b) c = a.length
  | [],b,_ => by simp [Lib.indexByte]
  | x :: a,b,h => by
    have ih := index_at (c := c) (a := a) (b := b) (fun q => h (by simp [q]))
    have hx : (x == c) = false := by
      rw [beq_eq_false_iff_ne]
      exact fun e => h (by simp [e])
    rw [List.cons_append,Lib.indexByte,hx,ih]
    simp only [Bool.false_eq_true,if_false]
    rw [if_neg (by rw [beq_iff_eq]; omega)]
    simp
theorem parseM {M : Nat} : ∀ {l : Bs} {acc : Nat},(∀ c ∈ l,isDg c) → l.foldl (fun a c => 10 * a + (c.toNat - 48)) acc ≤ 1000000000000000000 → 1000000000000000000 ≤ M → Lib.parseUintM M acc l = .ok (l.foldl (fun a c => 10 * a + (c.toNat - 48)) acc)
  | [],acc,_,_,_ => rfl
  | c :: l,acc,h,hv,hM => by
    have hmono : ∀ (l : Bs) (a : Nat),a ≤ l.foldl (fun a c => 10 * a + (c.toNat - 48)) a := by
      intro l
      induction l with
      | nil => intro a; exact Nat.le_refl _
      | cons x l ih =>
        intro a
        rw [List.foldl_cons]
        exact Nat.le_trans (by omega) (ih _)
    rw [List.foldl_cons] at hv ⊢
    have h1 := hmono l (10 * acc + (c.toNat - 48))
    have hd := h c (by simp)
    unfold isDg at hd
    rw [Lib.parseUintM,if_pos hd,if_neg (by omega),if_neg (by omega),show acc * 10 + (c.toNat - 48) = 10 * acc + (c.toNat - 48) by omega]
    exact parseM (fun x hx => h x (by simp [hx])) hv hM
theorem parse_dec {n : Int} (h0 : 0 ≤ n) (h1 : n ≤ 1000000000000000000) : Lib.parseIntB 64 (decT n) = .ok n := by
  rw [decT_nat h0]
  obtain ⟨d1,d2,d3⟩ := dec_val n.toNat
  cases hl : Lib.decDigits n.toNat with
  | nil => exact absurd hl d3
  | cons c r =>
    rw [hl] at d1 d2
    have hc := d2 c (by simp)
    unfold isDg at hc
    have hp : Lib.parseUintB 64 (c :: r) = .ok n.toNat := by
      unfold Lib.parseUintB
      rw [if_neg (by simp),parseM d2 (by unfold valD at d1; rw [d1]; omega) (by decide)]
      unfold valD at d1
      rw [d1]
    unfold Lib.parseIntB
    simp only
    rw [if_neg (show ¬ (c.toNat = 43 ∨ c.toNat = 45) by omega),hp]
    simp only
    rw [if_neg (by omega),if_neg (by omega),if_neg (by omega)]
    rw [show ((n.toNat : Nat) : Int) = n by omega]
end Go.Proofs.YtighjcjmacajoaaGreatDoor
end
section
set_option linter.unusedVariables false
set_option linter.unusedSimpArgs false
set_option maxRecDepth 100000
set_option maxHeartbeats 4000000
namespace Go.Proofs.YtighjcjmacajoaaGreatDoor
open Go Foot Go.RowKit
theorem preB116 {p : Prop} (h : p := by first | with_reducible assumption | omega | (simp only [List.length_append,List.length_cons,List.length_nil,List.length_set,List.length_replicate,List.length_take,List.length_drop,List.length_tail,List.length_dropLast,List.length_reverse] at *; omega) | exact mem_len (by assumption) (by omega) | (with_reducible refine Int.le_trans (Int.ofNat_le.2 (trimR_len _)) ?_; simp only [List.length_cons,List.length_tail]; omega) | (exact (ruAt_ok (by assumption) (by assumption) (by assumption)).2.1) | (exact (ruAt_ok (by assumption) (by assumption) (by assumption)).2.1) | (have := vMach_bd (by assumption); omega) | (simp only [mC_ch,mC_tu]; omega) | (have := vTag_bd (by assumption); omega) | (have := (‹Gd _ _›).le; omega) | (exact tgHalts_no (by assumption)) | (exact tgHead (by assumption) (by assumption) (by assumption)) | (exact Int.le_trans (tgStep_gd (by assumption) (by assumption) (by assumption) (by assumption)).le (by decide)) | (exact vTag_r (by assumption)) | (with_reducible refine Int.le_trans (Int.ofNat_le.2 (pushL_len _ _)) ?_; simp only [List.length_dropLast]; omega) | exact ls_at (by assumption) (by omega) | exact pt_gd (by assumption) | exact lv_at (by assumption) (by omega) | exact pt_gd (lv_at (by assumption) (by omega)) | exact (ask_ok (by assumption)).1 | exact (ask_ok (by assumption)).2.1 | exact (ask_ok (by assumption)).2.2.1 | exact (ask_ok (by assumption)).2.2.2 | trivial) : p := h
theorem ContainsB_ok (s : Bs) (c : UInt8) : Does Tryz.prog 56 [.one (str s),.one (str [c])] [] (.one (boo (decide (0 ≤ Lib.indexByte s c)))) [] :=
  does_ext (av := [sv s,sv [c]]) (rv := .bool (decide (0 ≤ Lib.indexByte s c))) (fun w S ρ vs => repA_2) (fun w S ρ => ⟨rfl,rfl⟩) fun w S _ => (Tryz.strings_Contains_one ⟨s.toArray⟩ c w).mono fun en w' ⟨h1,h2⟩ => by
    subst h2
    exact ⟨h1,Below.refl _ _⟩
theorem IndexB_ok (s : Bs) (c : UInt8) : Does Tryz.prog 121 [.one (str s),.one (str [c])] [] (.one (int (Lib.indexByte s c))) [] :=
  does_ext (av := [sv s,sv [c]]) (rv := .int .i64 (Lib.indexByte s c)) (fun w S ρ vs => repA_2) (fun w S ρ => ⟨rfl,rfl⟩) fun w S _ => (Tryz.strings_Index_one ⟨s.toArray⟩ c w).mono fun en w' ⟨h1,h2⟩ => by
    subst h2
    exact ⟨h1,Below.refl _ _⟩
theorem CountB_ok (s : Bs) (c : UInt8) : Does Tryz.prog 219 [.one (str s),.one (str [c])] [] (.one (int (Lib.countByte s c))) [] :=
  does_ext (av := [sv s,sv [c]]) (rv := .int .i64 (Lib.countByte s c)) (fun w S ρ vs => repA_2) (fun w S ρ => ⟨rfl,rfl⟩) fun w S _ => (Tryz.strings_Count_one ⟨s.toArray⟩ c w).mono fun en w' ⟨h1,h2⟩ => by
    subst h2
    exact ⟨h1,Below.refl _ _⟩
def spl (c : UInt8) : Bs → List Bs
  | [] => [[]]
  | x :: s => if x = c then [] :: spl c s else match spl c s with
    | [] => [[x]]
    | p :: r => (x :: p) :: r
theorem spl_no {c : UInt8} : ∀ {s : Bs},c ∉ s → spl c s = [s]
  | [],_ => rfl
  | x :: s,h => by
    rw [spl,if_neg (fun e => h (by simp [e])),spl_no (fun q => h (by simp [q]))]
theorem spl_app {c : UInt8} {b : Bs} : ∀ {a : Bs},c ∉ a → spl c (a ++ c :: b) = a :: spl c b
  | [],_ => by simp [spl]
  | x :: a,h => by
    rw [List.cons_append,spl,if_neg (fun e => h (by simp [e])),spl_app (fun q => h (by simp [q]))]
theorem count_no {c : UInt8} : ∀ {s : Bs},c ∉ s → Lib.countByte s c = 0
  | [],_ => rfl
  | x :: s,h => by
    have hx : (x == c) = false := by rw [beq_eq_false_iff_ne]; exact fun e => h (by simp [e])
    have := count_no (c := c) (s := s) (fun q => h (by simp [q]))
    simp [Lib.countByte] at *
    simp_all
theorem index_no {c : UInt8} : ∀ {s : Bs},c ∉ s → Lib.indexByte s c = -1
  | [],_ => rfl
  | x :: s,h => by
    have hx : (x == c) = false := by rw [beq_eq_false_iff_ne]; exact fun e => h (by simp [e])
    have ih := index_no (c := c) (s := s) (fun q => h (by simp [q]))
    rw [Lib.indexByte,hx,ih]
    simp
theorem index_split {c : UInt8} : ∀ {s : Bs},0 ≤ Lib.indexByte s c → ∃ a b,s = a ++ c :: b ∧ c ∉ a
  | [],h => by simp [Lib.indexByte] at h
  | x :: s,h => by
    by_cases e : x = c
    · exact ⟨[],s,by simp [e],by simp⟩
    · have hx : (x == c) = false := by rw [beq_eq_false_iff_ne]; exact e
      rw [Lib.indexByte,hx] at h
      simp only [Bool.false_eq_true,if_false] at h
      have hs : 0 ≤ Lib.indexByte s c := by
        rcases Int.lt_or_le (Lib.indexByte s c) 0 with q | q
        · have := Lib.indexByte_ge s c
          rw [show Lib.indexByte s c = -1 by omega] at h
          simp at h
        · exact q
      obtain ⟨a,b,e1,e2⟩ := index_split hs
      refine ⟨x :: a,b,by rw [e1]; rfl,fun q => ?_⟩
      rw [List.mem_cons] at q
      rcases q with q | q
      · exact e q.symm
      · exact e2 q
theorem count_app {c : UInt8} {a b : Bs} (h : c ∉ a) : Lib.countByte (a ++ c :: b) c = Lib.countByte b c + 1 := by
  have := count_no h
  unfold Lib.countByte at *
  rw [List.count_append,this,List.count_cons_self]
  omega
theorem index_nn {c : UInt8} : ∀ {s : Bs},c ∈ s → 0 ≤ Lib.indexByte s c
  | x :: s,h => by
    by_cases e : x = c
    · rw [Lib.indexByte,show (x == c) = true by simp [e]]; simp
    · have hx : (x == c) = false := by rw [beq_eq_false_iff_ne]; exact e
      rw [List.mem_cons] at h
      have ih := index_nn (c := c) (s := s) (by rcases h with q | q; exact absurd q.symm e; exact q)
      rw [Lib.indexByte,hx]
      simp only [Bool.false_eq_true,if_false]
      rw [if_neg (by rw [beq_iff_eq]; omega)]
      omega
theorem genSplit_ok (s : Bs) (c : UInt8) (hs : (s.length : Int) ≤ 1048576) : Does Tryz.prog 151 [.one (str s),.one (str [c]),.one (int 0),.one (int (-1))] [] (.one (.gv 0)) [.row 1 (rows eS (spl c s))] := by
  have hcl : Lib.countByte s c ≤ s.length := List.count_le_length
  have hone : ((([c] : Bs).length : Nat) : Int) = 1 := rfl
  refine does_of (k := 0) Tryz.func151 rfl Tryz.ntmps151 rfl rfl fun w F0 S0 ρ0 => ?_
  dsimp only [argT,argH]
  repeat' first|(apply n3;exact a_make (fE rfl) (fZ rfl) (fP rfl) (by decide) rfl rfl (by omega) rfl (by omega) (by omega) (rows_rep eS [] _);exact rfl;refine dA ?_)|(apply p3;(first|exact pu1|exact puC|exact a_eqT rfl rfl|exact a_add rfl rfl (by omega) (by omega)|exact a_lenT rfl (fT rfl)|exact a_min rfl rfl|exact a_sub rfl rfl (by omega) (by omega));exact rfl)|refine cd ?_|(apply c4 0;exact callK1 (θ := []) (hD := (CountB_ok _ _));exact rfl;exact rfl;exact rfl;refine dM ?_)
  rw [if_neg (by omega)]
  skip
  refine g_loop_id ?_
  refine loopK [1,2,3,8,9] [0] (fun y : Int × Bs × List Bs => 0 ≤ y.1 ∧ y.1 ≤ Lib.countByte s c ∧ y.2.2.length = Lib.countByte s c + 1 ∧ (Lib.countByte y.2.1 c : Int) = Lib.countByte s c - y.1 ∧ y.2.1.length ≤ s.length ∧ spl c s = y.2.2.take y.1.toNat ++ spl c y.2.1) (fun y => [(10,.one (int y.1)),(0,.one (str y.2.1))]) (fun y => [(0,.row 1 (rows eS y.2.2))]) (fun y => (Lib.countByte s c - y.1).toNat) ((0 : Int),s,List.replicate ((Lib.countByte s c : Int) + 1).toNat ([] : Bs)) [0] (hI := ?_) (hr := ?_)
  · exact ⟨by simp,by simp,by simp,by simp,by simp,by simp⟩
  · rintro ⟨i,cur,l⟩ ⟨h0,h1,h2,h3,h4,h5⟩
    dsimp only [List.cons_append,List.nil_append] at *
    skip
    repeat' first|(apply p3;(first|exact pu1|exact puC|exact a_add rfl rfl (by omega) (by omega)|exact puI);exact rfl)|refine cd ?_|(apply w3;(exact a_stE (E := eS) _ rfl rfl rfl rfl (fN rfl rfl) bnd (by exact rfl));exact rfl;refine dS ?_)|(apply c4 0;exact callK1 (θ := []) (hD := (IndexB_ok _ _));exact rfl;exact rfl;exact rfl;refine dM ?_)|(refine g_cond (c := .tmp 36) rfl (fun hc => ?_) (fun hc => ?_) <;> (try simp only [dcB] at hc) <;> (try (first|contradiction|(exfalso;omega))))
    · have hpos : 0 ≤ Lib.indexByte cur c := by
        rcases Int.lt_or_le (Lib.indexByte cur c) 0 with q | q
        · exfalso
          by_cases hm : c ∈ cur
          · obtain ⟨a,b,e⟩ := List.append_of_mem hm
            exact absurd q (by have := index_nn hm; omega)
          · have := count_no hm
            omega
        · exact q
      obtain ⟨a,b,e1,e2⟩ := index_split hpos
      subst e1
      have e3 := index_at (b := b) e2
      have e4 := count_app (b := b) e2
      rw [spl_app e2] at h5
      have e5 : (a ++ c :: b).length = a.length + b.length + 1 := by simp; omega
      have e6 : (a ++ c :: b).take ((a.length : Int) + 0).toNat = a := by simp
      have e7 : (a ++ c :: b).drop ((a.length : Int) + (([c] : Bs).length : Int)).toNat = b := by
        rw [show ((a.length : Int) + (([c] : Bs).length : Int)).toNat = a.length + 1 by simp,← List.drop_drop]
        simp
      rw [e3]
      repeat' first|(apply p3;(first|exact pu1|exact a_add rfl rfl (by omega) (by omega)|exact a_slSh rfl rfl (fT rfl) (by omega) bnd|exact a_lenT rfl (fT rfl)|exact a_slSl rfl rfl (fT rfl) (by omega) bnd|exact puI);exact rfl)|refine cd ?_|(apply w3;(exact a_stE (E := eS) _ rfl rfl rfl rfl (fN rfl rfl) bnd (by exact rfl));exact rfl;refine dS ?_)
      rw [e6,e7]
      refine q_again (i + 1,b,l.set i.toNat a) [0] (by exact stk) ?_ ?_
      · refine ⟨by dsimp only; omega,by dsimp only; omega,by simp [h2],by dsimp only; omega,by dsimp only; omega,?_⟩
        dsimp only
        rw [h5,show (i + 1).toNat = i.toNat + 1 by omega,List.take_succ_eq_append_getElem (by rw [List.length_set]; omega),List.getElem_set_self]
        simp [List.take_set_of_le]
      · omega
    · have hin : i = Lib.countByte s c := by omega
      have hno : c ∉ cur := fun q => by
        have := List.count_pos_iff.2 q
        have h6 : Lib.countByte cur c = 0 := by omega
        unfold Lib.countByte at h6
        omega
      have hset : (l.set i.toNat cur).length = l.length := List.length_set
      rw [spl_no hno] at h5
      have e : (l.set i.toNat cur) = spl c s := by
        rw [h5]
        apply List.ext_getElem
        · simp [h2]; omega
        · intro k k1 k2
          rw [List.getElem_set]
          split
          · next q => subst q; simp [List.getElem_append]; omega
          · next q =>
            rw [List.length_set] at k1
            rw [List.getElem_append_left (by simp; omega)]
            simp
      repeat' first|(apply p3;(exact pu1);exact rfl)|refine cd ?_|(apply s3;exact a_slHO rfl rfl rfl (fS rfl) (by omega) (by omega) (by exact rfl) (by decide);exact rfl;exact rfl)
      rw [List.take_of_length_le (by omega),e]
      repeat refine cr ?_
      refine ends_id ?_
      refine endK [?_] (h2 := ?_) (h3 := ?_) (nd := ?_)
      rotate_left 1
      all_goals (repeat' first|exact ce0|refine ce ?_|refine ce2 ?_ ?_|(refine Or.inr (bx_eq rfl rfl ?_);(try dsimp only [C.ren,C.ren.all]);(try exact rfl))|exact SVLe.refl|refine ceb ?_)
      all_goals first | exact (show nodupB _ = true from rfl) | exact Or.inr rfl | (rfl)
theorem Split_ok (s : Bs) (c : UInt8) (hs : (s.length : Int) ≤ 1048576) : Does Tryz.prog 87 [.one (str s),.one (str [c])] [] (.one (.gv 0)) [.row 1 (rows eS (spl c s))] := by
  refine does_of (k := 0) Tryz.func87 rfl Tryz.ntmps87 rfl rfl fun w F0 S0 ρ0 => ?_
  dsimp only [argT,argH]
  repeat' first|(apply p3;exact pu1;exact rfl)|refine cd ?_|(apply c4 1;exact callK1 (θ := []) (hD := (genSplit_ok _ _ preB116));exact rfl;exact rfl;exact rfl;refine dM ?_)
  repeat refine cr ?_
  refine ends_id ?_
  refine endK [?_] (h2 := ?_) (h3 := ?_) (nd := ?_)
  rotate_left 1
  all_goals (repeat' first|exact ce0|refine ce ?_|refine ce2 ?_ ?_|(refine Or.inr (bx_eq rfl rfl ?_);(try dsimp only [C.ren,C.ren.all]);(try exact rfl))|exact SVLe.refl|refine ceb ?_)
  all_goals first | exact (show nodupB _ = true from rfl) | exact Or.inr rfl | (rfl)
def rpl (c d : UInt8) (s : Bs) : Bs := s.map fun x => if x = c then d else x
theorem rpl_no {c d : UInt8} : ∀ {s : Bs},c ∉ s → rpl c d s = s
  | [],_ => rfl
  | x :: s,h => by
    have := rpl_no (c := c) (d := d) (s := s) (fun q => h (by simp [q]))
    unfold rpl at *
    rw [List.map_cons,if_neg (fun e => h (by simp [e])),this]
theorem rpl_app (c d : UInt8) (a b : Bs) : rpl c d (a ++ b) = rpl c d a ++ rpl c d b := by unfold rpl; rw [List.map_append]
theorem rpl_len (c d : UInt8) (a : Bs) : (rpl c d a).length = a.length := by unfold rpl; rw [List.length_map]
end Go.Proofs.YtighjcjmacajoaaGreatDoor
end
section
set_option linter.unusedVariables false
set_option linter.unusedSimpArgs false
set_option maxRecDepth 100000
namespace Go.Proofs.YtighjcjmacajoaaGreatDoor
open Go Foot
def chkP (p : List Int) : Bool := decide (tfC 2 2 20 p = 0) && decide (pmC (tfM 2 2 20 p) 20 = 0) && decide ((pmL (tfM 2 2 20 p) 20).getD [] = p) && tnB (tfM 2 2 20 p) 20 && decide (nfC 2 2 20 2 p = 0) &&
  (if nnC 2 2 20 p = 3 then decide (nfL 2 2 20 2 p = [p]) else decide (nnC 2 2 20 p = 0) && decide (nfL 2 2 20 2 p = [p,(nnL 2 2 20 p).getD []])) && decide (p.length ≤ 3) && p.all fun x => decide (0 ≤ x) && decide (x ≤ 1000)
def allP : List (List Int) := nbL 2 2 20 3 []
theorem allP_ok : allP.all chkP = true := by decide +kernel
theorem join_ok : ([[]] ++ (wuL 2 2 20 1).flatMap fun u => nbL 2 2 20 2 u) = nbL 2 2 20 2 [] := by decide +kernel
theorem units_ok : ((wuL 2 2 20 1).all fun u => decide (nbC 2 2 20 2 u = 0)) = true := by decide +kernel
theorem codes_ok : nbC 2 2 20 2 [] = 0 ∧ sctC 2 2 20 1 = 0 ∧ sctC 2 2 20 2 = 0 := by decide +kernel
theorem sums_ok : (sctL 2 2 20 2).foldl (· + ·) 0 = ((nbL 2 2 20 2 []).length : Int) ∧ nbL 2 2 20 2 [] ≠ [] := by decide +kernel
def goP (p : List Int) : Bool := decide (3 ≤ p.length) || match pth 20 (root 2 2) p with
  | none => false
  | some m => decide (ndS m 20 ≠ 0) || (List.range (chR m).length).all fun (i : Nat) => allP.contains (p ++ [(i : Int)])
theorem goP_ok : allP.all goP = true := by decide +kernel
theorem goP_next {p : List Int} {m : Mach} {k : Int} (hp : p ∈ allP) (hl : p.length < 3) (hm : pth 20 (root 2 2) p = some m) (ho : ndS m 20 = 0) (h0 : 0 ≤ k) (h1 : k < (chR m).length) : p ++ [k] ∈ allP := by
  have h := List.all_eq_true.1 goP_ok p hp
  unfold goP at h
  rw [hm] at h
  simp only [Bool.or_eq_true,decide_eq_true_eq] at h
  rcases h with h | h | h
  · omega
  · exact absurd ho h
  · have := List.all_eq_true.1 h k.toNat (List.mem_range.2 (by omega))
    rw [show ((k.toNat : Nat) : Int) = k by omega,List.contains_iff_mem] at this
    exact this
theorem nil_all : ([] : List Int) ∈ allP := by
  have : allP.contains [] = true := by decide +kernel
  exact List.contains_iff_mem.1 this
end Go.Proofs.YtighjcjmacajoaaGreatDoor
end
section
set_option linter.unusedVariables false
set_option linter.unusedSimpArgs false
set_option maxRecDepth 100000
set_option maxHeartbeats 4000000
namespace Go.Proofs.YtighjcjmacajoaaGreatDoor
open Go Foot
theorem valD_lt : ∀ (n : Nat) {l : Bs},l.length = n → (∀ c ∈ l,isDg c) → valD l < 10 ^ n
  | 0,l,h,_ => by
    have : l = [] := List.length_eq_zero_iff.1 h
    subst this
    simp [valD]
  | n + 1,l,h,hd => by
    have hne : l ≠ [] := fun e => by rw [e] at h; simp at h
    obtain ⟨a,c,rfl⟩ : ∃ a c,l = a ++ [c] := ⟨l.dropLast,l.getLast hne,(List.dropLast_concat_getLast hne).symm⟩
    have ih := valD_lt n (l := a) (by simp at h; exact h) fun x hx => hd x (by simp [hx])
    have hc := hd c (by simp)
    unfold isDg at hc
    rw [valD_snoc,Nat.pow_succ]
    omega
theorem head_app {a b : Bs} (h : a ≠ []) : (a ++ b).head? = a.head? := by
  cases a with
  | nil => exact absurd rfl h
  | cons x a => rfl
theorem dec_head {u : Nat} (h : u ≠ 0) : (Lib.decDigits u).head? ≠ some 48 := by
  induction u using Nat.strongRecOn with
  | _ u ih =>
    rw [Lib.decDigits]
    by_cases hu : u < 10
    · rw [dif_pos hu]
      intro e
      simp only [List.head?_cons,Option.some.injEq] at e
      have := (dg_nat hu).2
      rw [e] at this
      have h48 : (48 : UInt8).toNat = 48 := rfl
      omega
    · rw [dif_neg hu,head_app (dec_val (u / 10)).2.2]
      exact ih (u / 10) (by omega) (by omega)
theorem dec_len {k u : Nat} (hk : 1 ≤ k) (h : u < 10 ^ k) : (Lib.decDigits u).length ≤ k := by
  by_cases h0 : u = 0
  · subst h0; simp [Lib.decDigits]; omega
  · rw [← drev_dec u h0,byt_len,List.length_reverse]; exact drev_le k u h
theorem len_dec {k u : Nat} (h : (Lib.decDigits u).length ≤ k) : u < 10 ^ k := by
  obtain ⟨d1,d2,d3⟩ := dec_val u
  have := valD_lt _ rfl d2
  rw [d1] at this
  exact Nat.lt_of_lt_of_le this (Nat.pow_le_pow_right (by omega) h)
def valS : Bs → Int
  | [] => 0
  | c :: r => if c = 45 then -((valD r : Nat) : Int) else ((valD (c :: r) : Nat) : Int)
@[irreducible] def numS (s : Bs) : Option Int := if decT (valS s) = s ∧ -1000000000000000000 < valS s ∧ valS s < 1000000000000000000 then some (valS s) else none
theorem decT_neg {n : Int} (h : n < 0) : decT n = 45 :: Lib.decDigits n.natAbs := by unfold decT Lib.itoa; rw [if_pos h]
theorem dg_ne {c : UInt8} (h : isDg c) : c ≠ 45 := by rintro rfl; revert h; unfold isDg; decide
theorem valS_dec (n : Int) : valS (decT n) = n := by
  by_cases h : n < 0
  · rw [decT_neg h,valS,if_pos rfl,(dec_val _).1]; omega
  · rw [decT_nat (by omega)]
    obtain ⟨d1,d2,d3⟩ := dec_val n.toNat
    cases hq : Lib.decDigits n.toNat with
    | nil => exact absurd hq d3
    | cons c r =>
      rw [hq] at d1 d2
      rw [valS,if_neg (dg_ne (d2 c (by simp))),d1]
      omega
theorem numS_some {s : Bs} {n : Int} : numS s = some n ↔ decT n = s ∧ -1000000000000000000 < n ∧ n < 1000000000000000000 := by
  unfold numS
  constructor
  · intro h
    split at h
    · next hh => cases h; exact hh
    · cases h
  · rintro ⟨rfl,h1,h2⟩
    rw [valS_dec,if_pos ⟨rfl,h1,h2⟩]
def sgn (s : Bs) : Nat := if s.head? = some 45 then 1 else 0
structure Canon (s : Bs) : Prop where
  ne : sgn s < s.length
  le : s.length - sgn s ≤ 18
  z : ¬ (s[sgn s]? = some 48 ∧ 1 < s.length)
  d : ∀ c ∈ s.drop (sgn s),isDg c
theorem canon_dec {n : Int} (h1 : -1000000000000000000 < n) (h2 : n < 1000000000000000000) : Canon (decT n) := by
  by_cases h : n < 0
  · obtain ⟨d1,d2,d3⟩ := dec_val n.natAbs
    have dl := dec_len (k := 18) (u := n.natAbs) (by omega) (by omega)
    have dh := dec_head (u := n.natAbs) (by omega)
    have e := decT_neg h
    have es : sgn (decT n) = 1 := by rw [e]; rfl
    have hp : 0 < (Lib.decDigits n.natAbs).length := List.length_pos_iff.2 d3
    refine ⟨by rw [es,e,List.length_cons]; omega,by rw [es,e,List.length_cons]; omega,?_,?_⟩
    · rintro ⟨q,_⟩
      rw [es,e,List.getElem?_cons_succ,← List.head?_eq_getElem?] at q
      exact dh q
    · rw [es,e]; exact d2
  · obtain ⟨d1,d2,d3⟩ := dec_val n.toNat
    have dl := dec_len (k := 18) (u := n.toNat) (by omega) (by omega)
    have e := decT_nat (n := n) (by omega)
    have hp : 0 < (Lib.decDigits n.toNat).length := List.length_pos_iff.2 d3
    have es : sgn (decT n) = 0 := by
      rw [e]
      unfold sgn
      rw [if_neg]
      intro q
      exact dg_ne (d2 45 (List.mem_of_mem_head? q)) rfl
    refine ⟨by rw [es,e]; exact hp,by rw [es,e]; omega,?_,by rw [es,e]; exact d2⟩
    rintro ⟨q,q2⟩
    rw [es,e,← List.head?_eq_getElem?] at q
    by_cases h0 : n.toNat = 0
    · rw [e,h0] at q2
      simp [Lib.decDigits] at q2
    · exact dec_head h0 q
theorem parse_dec2 {n : Int} (h1 : -1000000000000000000 < n) (h2 : n < 1000000000000000000) : Lib.parseIntB 64 (decT n) = .ok n := by
  by_cases h : n < 0
  · rw [decT_neg h]
    obtain ⟨d1,d2,d3⟩ := dec_val n.natAbs
    have hp : Lib.parseUintB 64 (Lib.decDigits n.natAbs) = .ok n.natAbs := by
      unfold Lib.parseUintB
      rw [if_neg d3,parseM d2 (by unfold valD at d1; rw [d1]; omega) (by decide)]
      unfold valD at d1
      rw [d1]
    unfold Lib.parseIntB
    simp only
    rw [if_pos (.inr (by decide)),hp]
    simp only
    rw [if_neg (fun q => q.1 (by decide)),if_neg (fun q => by have := q.2; omega),if_pos (by decide)]
    congr 1
    omega
  · exact parse_dec (by omega) (by omega)
theorem parse_bd {s : Bs} {v : Int} (h : Lib.parseIntB 64 s = .ok v) : -9223372036854775808 ≤ v ∧ v ≤ 9223372036854775807 := by
  cases s with
  | nil => cases h
  | cons c r =>
    simp only [Lib.parseIntB] at h
    split at h
    · cases h
    · cases h
    · split at h
      · cases h
      · split at h
        · cases h
        · simp only [Lib.NumEnd.ok.injEq] at h
          subst h
          split <;> omega
theorem trim_dec (n : Int) : Lib.trimPrefix (decT n) [45] = Lib.decDigits n.natAbs := by
  unfold Lib.trimPrefix
  by_cases h : n < 0
  · rw [decT_neg h,if_pos (by simp [Lib.hasPrefix])]
    rfl
  · have e := decT_nat (n := n) (by omega)
    obtain ⟨_,d2,d3⟩ := dec_val n.toNat
    rw [e,show n.natAbs = n.toNat by omega,if_neg]
    intro q
    cases hq : Lib.decDigits n.toNat with
    | nil => exact d3 hq
    | cons c r =>
      rw [hq] at q d2
      simp [Lib.hasPrefix] at q
      exact dg_ne (d2 c (by simp)) q.symm
def numL : List Bs → Option (List Int)
  | [] => some []
  | p :: r => (numS p).bind fun n => (numL r).map (n :: ·)
theorem numL_len : ∀ {l : List Bs} {w : List Int},numL l = some w → w.length = l.length
  | [],w,h => by cases h; rfl
  | p :: r,w,h => by
    unfold numL at h
    cases hp : numS p with
    | none => rw [hp] at h; cases h
    | some n =>
      rw [hp,Option.bind_some] at h
      cases hr : numL r with
      | none => rw [hr] at h; cases h
      | some v =>
        rw [hr] at h
        simp only [Option.map_some,Option.some.injEq] at h
        subst h
        simp [numL_len hr]
theorem numL_snoc : ∀ (l : List Bs) (p : Bs),numL (l ++ [p]) = (numL l).bind fun w => (numS p).map (w ++ [·])
  | [],p => by
    simp only [List.nil_append,numL]
    cases numS p <;> rfl
  | q :: r,p => by
    rw [List.cons_append,numL,numL_snoc r p,numL]
    cases numS q with
    | none => rfl
    | some n =>
      cases numL r with
      | none => rfl
      | some w => cases numS p <;> rfl
theorem numL_none {l : List Bs} : ∀ {i : Nat} (h : i < l.length),numS (l[i]) = none → numL l = none := by
  induction l with
  | nil => intro i h; simp at h
  | cons p r ih =>
    intro i h e
    unfold numL
    cases i with
    | zero => rw [List.getElem_cons_zero] at e; rw [e]; rfl
    | succ i =>
      rw [List.getElem_cons_succ] at e
      rw [ih (by simpa using h) e]
      cases numS p <;> rfl
end Go.Proofs.YtighjcjmacajoaaGreatDoor
end
section
set_option linter.unusedVariables false
set_option linter.unusedSimpArgs false
set_option maxRecDepth 100000
namespace Go.Proofs.YtighjcjmacajoaaGreatDoor
open Go Foot Go.Shelf Go.RowKit
def frB (T : Nat) : Opq where
  p w _ us F := ∃ b,us = [.pointer (some ⟨b,0,none⟩)] ∧ w.heap[b]? = some (.cells #[.pointer none,.slice none 0 0] T (0,0)) ∧ ∀ o,F b o
  keep := by
    rintro w w' S S' F F' us ⟨b,rfl,h1,h2⟩ hF _ _ hf
    exact ⟨b,rfl,heap_agree h1 h2 hF,fun o => hf _ _ (h2 o)⟩
theorem a_allocF {P : Program} {g : Gh} {st : St} {dst : Option Tmp} {ty : TypeId} {pos : String} {after : Array Edge} {guard : Option (Nat × Bool)} {T i : Nat} (hT : zeroC P T = some [.pointer none,.slice none 0 0]) : Acts P g ⟨dst,.alloc T,ty,pos,after,guard⟩ st (.one (.gv i)) [] [(i,.opq (frB T) [i])] := by
  refine ⟨fun a w S ρ F h hn K Q hK => ?_⟩
  have hn' : ρ i = none := by simpa using hn (i,.opq (frB T) [i]) (by simp)
  clear hn
  unfold zeroC at hT
  split at hT
  case h_2 => cases hT
  rename_i inf hi
  split at hT
  case h_2 => cases hT
  rename_i zv hz
  cases hb : zv.cells.toList.all Value.oneCell' with
  | false => rw [hb] at hT; cases hT
  | true =>
    rw [hb] at hT
    simp only [cond_true,Option.some.injEq] at hT
    have hrun : (execOp a.eval ⟨dst,.alloc T,ty,pos,after,guard⟩).run P w = .ok (.value (.pointer (some ⟨w.heap.size,0,none⟩))) (w.alloc (.cells zv.cells.toList.toArray T)) := by
      simp [execOp,Instr.alloc,zeroValue,typeInfo,hi,hz,run_newRow,go_sem]
    rw [hT] at hrun
    refine oper_in (fun _ h => nomatch h) ?_
    rw [hrun,Oper.uponIn_value]
    refine hK _ _ no _ _ (Done.new (S1 := no) (u := .pointer (some ⟨w.heap.size,0,none⟩)) (G := fun b _ => b = w.heap.size) (keeps_alloc _) hn' (fun ρ' hl he => ?_) (by rintro b o rfl; simp)) ⟨by simp,rfl⟩
    exact ⟨[.pointer (some ⟨w.heap.size,0,none⟩)],by simp [he],w.heap.size,rfl,by simp [heap_alloc],fun _ => rfl⟩
theorem does_fresh {P : Program} {f : Nat} {T e : Nat} {l' : List UInt8} {ags : List SV} {av : List Value} {res : SV} {rv : Value} (ha : ∀ w S ρ vs,RepA w S ρ ags vs → vs = av) (hr : ∀ w S ρ,RepS w S ρ res rv)
    (hc : ∀ (w : World) (b : Nat),w.heap[b]? = some (.cells #[.pointer none,.slice none 0 0] T (0,0)) → Calls P f (self b :: av).toArray w fun en w' => en = .returned rv ∧ BlTo w w' T e b (.slice none 0 0) (Lib.byteCells l')) :
    Does P f (.one (.gv 0) :: ags) [.opq (frB T) [0]] res [.bld T e l'] := by
  intro vs w S ρ F hA hG
  simp only [RepA] at hA
  obtain ⟨v0,us,rfl,h0,hA⟩ := hA
  have := ha _ _ _ _ hA
  subst this
  obtain ⟨v,hv,hg⟩ := (hG.roots 0 (.opq (frB T) [0]) rfl).resolve_left (by simp)
  simp only [RepG] at hg
  obtain ⟨us,hu,b,rfl,hat,hFb⟩ := hg
  have hvb : v = .pointer (some ⟨b,0,none⟩) := by simp [hv] at hu; exact hu
  subst hvb
  have hFq : ∀ g,(Value.slice none 0 0).ownBlock = some g → ∀ o,F 0 g o := fun g hg => by simp [Value.ownBlock] at hg
  have h0' := h0.1
  rw [hv] at h0'
  cases h0'
  refine (hc w b hat).mono ?_
  rintro en w' ⟨rfl,p',v',hB,hon,hfr⟩
  have hFb' : ∀ o,upTo F 1 b o := fun o => ⟨0,by omega,hFb o⟩
  have hbl : ∀ k,k < w.heap.size → (∃ o,¬ upTo F 1 k o) → w'.heap[k]? = w.heap[k]? := fun k hk ⟨o,ho⟩ => hfr.block k hk (fun e => by subst e; exact ho (hFb' o)) (fun e => ho ⟨0,by omega,hFq k e.symm o⟩)
  have hl' : (Lib.byteCells l').length = l'.length := Lib.byteCells_length l'
  refine ⟨rv,no,ρ,fun i => if i = 0 then (fun b o => F 0 b o ∨ w.heap.size ≤ b ∧ b < w'.heap.size) else no,rfl,?_,hr _ _ _⟩
  refine ⟨⟨hfr.os,hfr.tape,hfr.output,hfr.size,fun k hk hn => hbl k hk ⟨0,hn 0⟩,fun k o hk hn => ?_⟩,no_le _,fun _ _ h => h.elim,by simp,fun i u _ h => h,hG.new,?_,fun i j hi hj hij => ?_,fun i _ => by rintro b o _ h; exact h.elim,fun i hi => ?_,fun i hi b o hb => ?_⟩
  · have e := hbl k hk ⟨o,hn⟩
    simp [World.cell?,World.frozen?,mapAt,e]
  · intro i gb hi
    match i,hi with
    | 0,hi =>
      simp at hi
      subst hi
      refine .inr ⟨_,hv,b,rfl,p',v',hB.adr,hB.at_,hl' ▸ hB.own,hB.ne,fun o => .inl (hFb o),fun g hg o => ?_⟩
      rcases hon with e | e | ⟨g',e,hg'⟩
      · rw [e] at hg; exact .inl (hFq g hg o)
      · rw [e] at hg; cases hg
      · rw [e] at hg
        cases hg
        exact .inr ⟨hg',(hB.own.lt g e).2⟩
    | i + 1,hi => simp at hi
  · simp at hi hj; omega
  · have : i = 0 := by simpa using hi
    subst this
    rintro b' o' hb
    simp only [if_true] at hb
    rcases hb with hb | ⟨hb,_⟩
    · exact .inl ⟨0,by simp,hb⟩
    · exact .inr hb
  · have : i = 0 := by simpa using hi
    subst this
    simp only [if_true] at hb
    rcases hb with hb | ⟨_,hb⟩
    · have := hG.ex 0 (by simp) b o hb
      have := hfr.size
      omega
    · exact hb
theorem alloc_set {w : World} {a : Addr} {v : Value} {o : Obj} (h : a.block < w.heap.size) : (w.setCell a v).alloc o = (w.alloc o).setCell a v := by
  unfold World.setCell World.alloc
  dsimp only
  congr 1
  apply Array.ext_getElem?
  intro i
  simp only [Array.getElem?_push,Array.getElem?_modify,Array.size_modify]
  by_cases h1 : i = w.heap.size
  · subst h1
    have hne : ¬ a.block = w.heap.size := by omega
    simp [hne]
  · simp [h1]
theorem bl_grown {T e b : Nat} {w : World} {cs : Array Value} (hbk : w.heap[b]? = some (.cells #[self b,.slice none 0 0] T (0,0))) (hm : cs.size ≤ maxLen) (hTe : T ≠ e) :
    BlTo w ((w.alloc (.cells cs e)).setCell ⟨b,1,none⟩ (.slice (some ⟨w.heap.size,0,none⟩) 0 cs.size)).drew.drew.drew T e b (.slice none 0 0) [] := by
  obtain ⟨⟨_,v,h1,h2,h3⟩,_⟩ := Lib.grown_fresh (B := 0) (Nat.zero_le b) hbk (Nat.zero_le _) hm hTe
  have hlt := heap_lt hbk
  have hb2 : (w.alloc (.cells cs e)).heap[b]? = some (.cells #[self b,.slice none 0 0] T (0,0)) := (Lib.alloc_old w _ b hlt).trans hbk
  have d1 : (w.alloc (.cells cs e)).cell? ⟨b,1,none⟩ = some (.slice none 0 0) := by rw [Lib.cell_of_heap hb2]; rfl
  have hv : v = .slice (some ⟨w.heap.size,0,none⟩) 0 cs.size := by
    have : ((w.alloc (.cells cs e)).setCell ⟨b,1,none⟩ (.slice (some ⟨w.heap.size,0,none⟩) 0 cs.size)).cell? ⟨b,1,none⟩ = some v := by
      have h1' : ((w.alloc (.cells cs e)).setCell ⟨b,1,none⟩ (.slice (some ⟨w.heap.size,0,none⟩) 0 cs.size)).heap[b]? = some (.cells #[self b,v] T (0,0)) := h1
      rw [Lib.cell_of_heap h1']; rfl
    rw [cell_set_same d1] at this
    exact (Option.some.inj this).symm
  subst hv
  refine ⟨self b,_,⟨.inr rfl,h1,World.ownsRowF_of h2,h3⟩,.inr (.inr ⟨w.heap.size,rfl,Nat.le_refl _⟩),?_⟩
  exact (((((Fr.alloc b _ w _).trans (Fr.set _ _ _ _ _) (fun _ _ e => e)).trans (Fr.drew b _ _) (fun _ _ e => e)).trans (Fr.drew b _ _) (fun _ _ e => e)).trans (Fr.drew b _ _) (fun _ _ e => e))
end Go.Proofs.YtighjcjmacajoaaGreatDoor
end
section
set_option linter.unusedVariables false
set_option linter.unusedSimpArgs false
set_option maxRecDepth 1000000
namespace Go.Proofs.YtighjcjmacajoaaGreatDoor
open Go Foot Go.Shelf Go.RowKit
set_option maxHeartbeats 4000000 in
theorem bs_growF {b n : Nat} {w : World} (hbk : w.heap[b]? = some (.cells #[self b,.slice none 0 0] 244 (0,0))) (hn : n ≤ 281474976710656) :
    Calls Tryz.prog 256 #[self b,.int .i64 n] w fun en w' => en = .returned (.tuple #[]) ∧ BlTo w w' 244 5 b (.slice none 0 0) [] := by
  obtain ⟨cs,hrun,hle,hmax⟩ := Lib.run_makeNoZero (P := Tryz.prog) w.drew #[3] 22 5 Tryz.underlying22 n hn
  have hw : IntKind.i64.wrap (IntKind.i64.wrap 0 + (n : Int)) = n := by
    rw [IntKind.wrap_i64,IntKind.wrap_i64]; omega
  have hcall : (callFunc 299 #[.int .i64 (IntKind.i64.wrap (IntKind.i64.wrap 0 + (n : Int)))]).run Tryz.prog w.drew = .ok (.value (.slice (some ⟨w.drew.heap.size,0,none⟩) n cs.size)) (w.drew.drew.drew.alloc (.cells cs 5)) := by
    rw [hw,run_callFunc_extern Tryz.func299 (by kernel_rfl) (by kernel_rfl) (by kernel_rfl) (e := Extern.BytealgMakeNoZero.makeNoZero #[3] #[22]) (by kernel_rfl),hrun]
    rfl
  have hlt := heap_lt hbk
  have hd : w.drew.heap[b]? = _ := hbk
  have ha : (w.alloc (.cells cs 5)).heap[b]? = _ := (Lib.alloc_old w _ b hlt).trans hbk
  have c1 : w.drew.cell? ⟨b,1,none⟩ = some (.slice none 0 0) := by rw [Lib.cell_of_heap hd]; rfl
  have c2 : (w.alloc (.cells cs 5)).cell? ⟨b,1,none⟩ = some (.slice none 0 0) := by rw [Lib.cell_of_heap ha]; rfl
  have f2 : (w.alloc (.cells cs 5)).frozen? ⟨b,1,none⟩ = false := Lib.frozen_of_heap ha 1
  have hcopy : ∀ W : World,(Builtin.copy_ #[22,22] 3 #[.slice (some ⟨w.heap.size,0,none⟩) 0 cs.size,.slice none 0 0]).run Tryz.prog W = .ok (goInt 0) W :=
    fun W => run_copy_none W _ _ _ 5 _ _ 0 cs.size 0 0 Tryz.underlying22 (by kernel_rfl) rfl
  have hfin := bl_grown (e := 5) hbk (hmax (by unfold maxLen; omega)) (by decide)
  clear hw
  have mixed : Tryz.prog.follows .mixedOrders = true := by kernel_rfl
  go_enter Tryz.func256,Tryz.ntmps256
  go_wp2
  go_region_o
  all_goals (go_wp2; go_end0; first | exact ⟨rfl,hfin⟩ | (refine ⟨rfl,?_⟩; rw [alloc_set hlt]; exact hfin))
end Go.Proofs.YtighjcjmacajoaaGreatDoor
end
section
set_option linter.unusedVariables false
set_option linter.unusedSimpArgs false
set_option maxRecDepth 1000000
namespace Go.Proofs.YtighjcjmacajoaaGreatDoor
open Go Foot Go.Shelf Go.RowKit
set_option maxHeartbeats 4000000 in
theorem bs_GrowF {b n : Nat} {w : World} (hbk : w.heap[b]? = some (.cells #[.pointer none,.slice none 0 0] 244 (0,0))) (hn : n ≤ 281474976710656) :
    Calls Tryz.prog 199 #[self b,.int .i64 n] w fun en w' => en = .returned (.tuple #[]) ∧ BlTo w w' 244 5 b (.slice none 0 0) [] := by
  have h : Bl w 244 5 b (.pointer none) (.slice none 0 0) [] := ⟨.inl rfl,hbk,World.ownsRowF_nil _ _ _ _,by simp [Value.ownBlock]⟩
  have e240 : ∀ args w,(callFunc 255 args).run Tryz.prog w = .ok (.enter 255 args) w := enters_of Tryz.func255 (by kernel_rfl) rfl
  have e241 : ∀ args w,(callFunc 256 args).run Tryz.prog w = .ok (.enter 256 args) w := enters_of Tryz.func256 (by kernel_rfl) rfl
  have mixed : Tryz.prog.follows .mixedOrders = true := by kernel_rfl
  go_enter Tryz.func199,Tryz.ntmps199
  go_wp2_with (go_at_fn 255; refine (bs_check h).mono ?_)
  rintro e w1 ⟨rfl,-,h1,hf1⟩
  have hbk1 := h1.at_
  have hbk2 : w1.drew.heap[b]? = some (.cells #[self b,.slice none 0 0] 244 (0,0)) := hbk1
  have hf2 : Fr b none w w1.drew := Fr.trans hf1 (Fr.drew b none w1) (fun _ _ e => e)
  have fin1 : BlTo w w1.drew 244 5 b (.slice none 0 0) [] := ⟨_,_,h1.drew,.inl rfl,hf2⟩
  have fin2 : ∀ w2,BlTo w1.drew w2 244 5 b (.slice none 0 0) [] → BlTo w w2 244 5 b (.slice none 0 0) [] := by
    rintro w2 ⟨p',v',k1,k2,k3⟩
    refine ⟨p',v',k1,?_,Fr.trans hf2 k3 (fun _ _ e => e)⟩
    rcases k2 with e | e | ⟨g,e,hg⟩
    · exact .inl e
    · exact .inr (.inl e)
    · exact .inr (.inr ⟨g,e,by have := hf2.size; omega⟩)
  clear h h1 hf1 hf2
  have c1 : w1.cell? ⟨b,1,none⟩ = some (.slice none 0 0) := by rw [Lib.cell_of_heap hbk1]; rfl
  go_wp2
  go_region_o
  go_wp2_with (go_at_fn 256; refine (bs_growF hbk2 hn).mono ?_)
  · rintro e w2 ⟨rfl,hB⟩
    go_wp2
    go_end0
    exact ⟨rfl,fin2 _ hB⟩
  · go_end0
    exact ⟨rfl,fin1⟩
section
variable {g : Gh} {st : St} {dst : Option Tmp} {ty : TypeId} {pos : String} {after : Array Edge} {guard : Option (Nat × Bool)} {i : Nat}
theorem a_newF : Acts Tryz.prog g ⟨dst,.alloc 244,ty,pos,after,guard⟩ st (.one (.gv i)) [] [(i,.opq (frB 244) [i])] := a_allocF (by kernel_rfl)
end
def erR : Opq where
  p _ _ us _ := ∃ te a,us = [.iface te (.pointer (some a))]
  keep := fun h _ _ _ _ => h
theorem does_err {P : Program} {f : Nat} {ags : List SV} {av : List Value} {m : Int} (ha : ∀ w S ρ vs,RepA w S ρ ags vs → vs = av)
    (hc : ∀ (w : World) (S : Foot),Tabs w S → Calls P f av.toArray w fun en w' => ∃ te a,en = .returned (.tuple #[.int .i64 m,.iface te (.pointer (some a))]) ∧ Below w.heap.size w w') :
    Does P f ags [] (.tup [(false,[int m]),(false,[.gv 0])]) [.opq erR [0]] := by
  intro vs w S ρ F hA hG
  have := ha _ _ _ _ hA
  subst this
  refine (hc w S hG.tab).mono ?_
  rintro en w' ⟨te,a,rfl,hb⟩
  have hn : ρ 0 = none := hG.new 0 (Nat.le_refl _)
  refine ⟨_,no,fun i => if i = 0 then some (.iface te (.pointer (some a))) else ρ i,fun _ => no,rfl,?_,⟨_,rfl,_,_,rfl,⟨_,[],rfl,⟨rfl,rfl⟩,rfl⟩,_,_,rfl,⟨.iface te (.pointer (some a)),[],rfl,⟨if_pos rfl,rfl⟩,rfl⟩,rfl⟩⟩
  refine ⟨⟨hb.os,hb.tape,hb.output,hb.size,fun k hk _ => hb.block k hk,fun k o hk _ => ?_⟩,no_le _,fun _ _ h => h.elim,by simp,fun i u hi _ => absurd hi (by simp),fun i hi => ?_,fun i gb hi => ?_,fun i j _ _ _ => fun _ _ h _ => h,fun i _ => fun _ _ h _ => h,fun i _ => no_le _,fun i _ b o h => h.elim⟩
  · have e := hb.block k hk
    simp [World.cell?,World.frozen?,mapAt,e]
  · simp only [List.length_cons,List.length_nil] at hi
    rw [if_neg (by omega)]
    exact hG.new i (Nat.zero_le _)
  · match i,hi with
    | 0,hi =>
      simp at hi
      subst hi
      exact .inr ⟨.iface te (.pointer (some a)),if_pos rfl,[.iface te (.pointer (some a))],by simp,te,a,rfl⟩
    | i + 1,hi => simp at hi
section
variable {P : Program} {g : Gh} {st : St}
variable {dst : Option Tmp} {ty : TypeId} {pos : String} {after : Array Edge} {guard : Option (Nat × Bool)} {x : Operand} {T U : TypeId} {i : Nat}
theorem a_neErr (e1 : opd st x = .one (.gv i)) (hg : lkG st.h i = .opq erR [i]) (hT : P.isIface T = true) : Acts P g ⟨dst,.binOp .neq T x (.const .nilIface) U,ty,pos,after,guard⟩ st (.one (boo true)) [] [] := by
  refine acts_of fun A w S ρ F h => ⟨.bool true,?_,rfl,rfl⟩
  have h1 := (opd_one h e1).1
  rcases h.root i with h0 | ⟨u,r1,r2⟩
  · rw [hg] at h0; cases h0
  rw [hg] at r2
  obtain ⟨us,q1,te,a,rfl⟩ := r2
  simp only [List.map_cons,List.map_nil,List.cons.injEq,and_true] at q1
  rw [q1] at h1
  simp only [Option.some.injEq] at h1
  show (do pure (.value (← (do eqGuard .neq T x (.const .nilIface) (A.eval x) (A.eval (.const .nilIface)); binOp .neq T (A.eval x) (A.eval (.const .nilIface))))) : Sem Next).run P w = _
  rw [← h1,show A.eval (.const .nilIface) = .nilIface from rfl]
  simp [eqGuard,run_neq_iface_nil w T hT]
end
end Go.Proofs.YtighjcjmacajoaaGreatDoor
end
section
set_option linter.unusedVariables false
set_option linter.unusedSimpArgs false
set_option maxRecDepth 100000
set_option maxHeartbeats 4000000
namespace Go.Proofs.YtighjcjmacajoaaGreatDoor
open Go Foot Go.RowKit
theorem preB122 {p : Prop} (h : p := by first | with_reducible assumption | omega | (simp only [List.length_append,List.length_cons,List.length_nil,List.length_set,List.length_replicate,List.length_take,List.length_drop,List.length_tail,List.length_dropLast,List.length_reverse] at *; omega) | exact mem_len (by assumption) (by omega) | (with_reducible refine Int.le_trans (Int.ofNat_le.2 (trimR_len _)) ?_; simp only [List.length_cons,List.length_tail]; omega) | (exact (ruAt_ok (by assumption) (by assumption) (by assumption)).2.1) | (exact (ruAt_ok (by assumption) (by assumption) (by assumption)).2.1) | (have := vMach_bd (by assumption); omega) | (simp only [mC_ch,mC_tu]; omega) | (have := vTag_bd (by assumption); omega) | (have := (‹Gd _ _›).le; omega) | (exact tgHalts_no (by assumption)) | (exact tgHead (by assumption) (by assumption) (by assumption)) | (exact Int.le_trans (tgStep_gd (by assumption) (by assumption) (by assumption) (by assumption)).le (by decide)) | (exact vTag_r (by assumption)) | (with_reducible refine Int.le_trans (Int.ofNat_le.2 (pushL_len _ _)) ?_; simp only [List.length_dropLast]; omega) | exact ls_at (by assumption) (by omega) | exact pt_gd (by assumption) | exact lv_at (by assumption) (by omega) | exact pt_gd (lv_at (by assumption) (by omega)) | exact (ask_ok (by assumption)).1 | exact (ask_ok (by assumption)).2.1 | exact (ask_ok (by assumption)).2.2.1 | exact (ask_ok (by assumption)).2.2.2 | trivial) : p := h
theorem ParseIntSyn_ok (s : Bs) (hs : (s.length : Int) ≤ 1000000000) (h : Lib.parseIntB 64 s = Lib.parseIntB 64 []) : Does Tryz.prog 243 [.one (str s),.one (int 10),.one (int 64)] [] (.tup [(false,[int 0]),(false,[.gv 0])]) [.opq erR [0]] :=
  does_err (av := [sv s,.int .i64 10,.int .i64 64]) (fun w S ρ vs => repA_3) fun w S hT => by
    obtain ⟨⟨cs,T,fr,ht,te,pe,hcs⟩,_⟩ := hT _ (List.mem_cons_of_mem _ (List.mem_cons_of_mem _ List.mem_cons_self))
    refine (Tryz.strconv_ParseInt_10_at64_syntax ⟨s.toArray⟩ (by rw [sz_str]; omega) h (.iface te pe) w ?_ (.inr ⟨te,pe,rfl⟩)).mono ?_
    · rw [Lib.cell_of_heap ht,hcs]; rfl
    · rintro en w' ⟨N,rfl,h1,h2,h3⟩
      exact ⟨_,_,rfl,h3⟩
theorem ParseIntRng_ok (s : Bs) (hs : (s.length : Int) ≤ 1000000000) (h : Lib.parseIntB 64 s = .range) : Does Tryz.prog 243 [.one (str s),.one (int 10),.one (int 64)] [] (.tup [(false,[int (Lib.intSat 64 s)]),(false,[.gv 0])]) [.opq erR [0]] :=
  does_err (av := [sv s,.int .i64 10,.int .i64 64]) (fun w S ρ vs => repA_3) fun w S hT => by
    obtain ⟨⟨cs,T,fr,ht,te,pe,hcs⟩,_⟩ := hT _ (List.mem_cons_of_mem _ List.mem_cons_self)
    refine (Tryz.strconv_ParseInt_10_at64_range ⟨s.toArray⟩ (by rw [sz_str]; omega) h (.iface te pe) w ?_ (.inr ⟨te,pe,rfl⟩)).mono ?_
    · rw [Lib.cell_of_heap ht,hcs]; rfl
    · rintro en w' ⟨N,rfl,h1,h2,h3⟩
      exact ⟨_,_,rfl,h3⟩
theorem ReadDecimalG_ok (s : Bs) (hs : (s.length : Int) ≤ 1048576) : Does Tryz.prog 181 [.one (str s)] [] (.tup [(false,[int ((numS s).getD 0)]),(false,[boo (numS s).isSome])]) [] := by
  cases hp : Lib.parseIntB 64 s
  · rename_i n
    obtain ⟨b1,b2⟩ := parse_bd hp
    have hdt : decT n = Lib.itoa n := by unfold decT; rfl
    have hlen := decT_le b1 b2
    by_cases hd : decT n = s
    · have ht : (Lib.trimPrefix s [45]) = Lib.decDigits n.natAbs := by rw [← hd,trim_dec]
      by_cases hl : (Lib.decDigits n.natAbs).length ≤ 18
      · have hn := len_dec hl
        have e : numS s = some n := numS_some.2 ⟨hd,by omega,by omega⟩
        rw [e]
        refine does_of (k := 0) Tryz.func181 rfl Tryz.ntmps181 rfl rfl fun w F0 S0 ρ0 => ?_
        dsimp only [argT,argH]
        repeat' first|(apply p3;(first|exact pu1|exact a_neNil rfl (by kernel_rfl));exact rfl)|refine cd ?_|(apply c4 0;exact callK1 (θ := []) (hD := (ParseInt_ok s n preB122 hp));exact rfl;exact rfl;exact rfl;refine dM ?_)|(apply py3;exact rfl;exact rfl;(first|exact pu1|exact a_neT rfl rfl|exact a_lenT rfl (fT rfl)|exact puC);exact rfl;exact rfl)|(apply cy4 0;exact rfl;exact rfl;exact callK1 (θ := []) (hD := (Decimal_ok _ preB122 preB122));exact rfl;exact rfl;exact rfl;exact rfl;refine dM ?_)|(apply cy4 0;exact rfl;exact rfl;exact callK1 (θ := []) (hD := (TrimPrefix_ok _ _));exact rfl;exact rfl;exact rfl;exact rfl;refine dM ?_)|(refine o_gs rfl rfl (fun hc => ?_) (fun hc => ?_) <;> (try simp only [dcB] at hc) <;> (try first|contradiction|(exfalso;omega)))
        simp only [ht]
        repeat' first|(apply p3;(exact pu1);exact rfl)|refine cd ?_|((refine g_cond rfl (fun hc => ?_) (fun hc => ?_)) <;> (try simp only [dcB] at hc) <;> (try first|contradiction|(exfalso;omega)))
        repeat refine cr ?_
        refine ends_id ?_
        refine endK [] (h2 := ?_) (h3 := ?_) (nd := ?_)
        all_goals (repeat' first|exact ce0|refine ce ?_|refine ce2 ?_ ?_|exact SVLe.refl|refine ceb ?_)
        all_goals first | exact (show nodupB _ = true from rfl) | exact Or.inr rfl | (rfl)
      · have e : numS s = none := by
          cases hq : numS s with
          | none => rfl
          | some k =>
            obtain ⟨q1,q2,q3⟩ := numS_some.1 hq
            have q4 : valS (decT k) = valS (decT n) := by rw [q1,hd]
            rw [valS_dec,valS_dec] at q4
            subst q4
            exact absurd (dec_len (k := 18) (by omega) (by omega)) hl
        rw [e]
        refine does_of (k := 0) Tryz.func181 rfl Tryz.ntmps181 rfl rfl fun w F0 S0 ρ0 => ?_
        dsimp only [argT,argH]
        repeat' first|(apply p3;(first|exact pu1|exact a_neNil rfl (by kernel_rfl));exact rfl)|refine cd ?_|(apply c4 0;exact callK1 (θ := []) (hD := (ParseInt_ok s n preB122 hp));exact rfl;exact rfl;exact rfl;refine dM ?_)|(apply py3;exact rfl;exact rfl;(first|exact pu1|exact a_neT rfl rfl|exact a_lenT rfl (fT rfl)|exact puC);exact rfl;exact rfl)|(apply cy4 0;exact rfl;exact rfl;exact callK1 (θ := []) (hD := (Decimal_ok _ preB122 preB122));exact rfl;exact rfl;exact rfl;exact rfl;refine dM ?_)|(apply cy4 0;exact rfl;exact rfl;exact callK1 (θ := []) (hD := (TrimPrefix_ok _ _));exact rfl;exact rfl;exact rfl;exact rfl;refine dM ?_)|(refine o_gs rfl rfl (fun hc => ?_) (fun hc => ?_) <;> (try simp only [dcB] at hc) <;> (try first|contradiction|(exfalso;omega)))
        simp only [ht]
        repeat' first|(apply p3;(exact pu1);exact rfl)|refine cd ?_|((refine g_cond rfl (fun hc => ?_) (fun hc => ?_)) <;> (try simp only [dcB] at hc) <;> (try first|contradiction|(exfalso;omega)))
        repeat refine cr ?_
        refine ends_id ?_
        refine endK [] (h2 := ?_) (h3 := ?_) (nd := ?_)
        all_goals (repeat' first|exact ce0|refine ce ?_|refine ce2 ?_ ?_|exact SVLe.refl|refine ceb ?_)
        all_goals first | exact (show nodupB _ = true from rfl) | exact Or.inr rfl | (rfl)
    · have e : numS s = none := by
        cases hq : numS s with
        | none => rfl
        | some k =>
          obtain ⟨q1,q2,q3⟩ := numS_some.1 hq
          rw [← q1,parse_dec2 q2 q3] at hp
          cases hp
          exact absurd q1 hd
      rw [e]
      refine does_of (k := 0) Tryz.func181 rfl Tryz.ntmps181 rfl rfl fun w F0 S0 ρ0 => ?_
      dsimp only [argT,argH]
      repeat' first|(apply p3;(first|exact pu1|exact a_neNil rfl (by kernel_rfl));exact rfl)|refine cd ?_|(apply c4 0;exact callK1 (θ := []) (hD := (ParseInt_ok s n preB122 hp));exact rfl;exact rfl;exact rfl;refine dM ?_)|refine o_no rfl rfl rfl rfl ?_|(apply py3;exact rfl;exact rfl;(first|exact pu1|exact a_neT rfl rfl);exact rfl;exact rfl)|(apply cy4 0;exact rfl;exact rfl;exact callK1 (θ := []) (hD := (Decimal_ok _ preB122 preB122));exact rfl;exact rfl;exact rfl;exact rfl;refine dM ?_)|((refine o_gs rfl rfl (fun hc => ?_) (fun hc => ?_)) <;> (try simp only [dcB] at hc) <;> (try first|contradiction|(exfalso;omega)))
      repeat refine cr ?_
      refine ends_id ?_
      refine endK [] (h2 := ?_) (h3 := ?_) (nd := ?_)
      all_goals (repeat' first|exact ce0|refine ce ?_|refine ce2 ?_ ?_|exact SVLe.refl|refine ceb ?_)
      all_goals first | exact (show nodupB _ = true from rfl) | exact Or.inr rfl | (rfl)
  · have e : numS s = none := by
      cases hq : numS s with
      | none => rfl
      | some k =>
        obtain ⟨q1,q2,q3⟩ := numS_some.1 hq
        rw [← q1,parse_dec2 q2 q3] at hp
        cases hp
    rw [e]
    refine does_of (k := 0) Tryz.func181 rfl Tryz.ntmps181 rfl rfl fun w F0 S0 ρ0 => ?_
    dsimp only [argT,argH]
    repeat' first|(apply p3;(first|exact pu1|exact a_neErr rfl rfl (by kernel_rfl));exact rfl)|refine cd ?_|(apply c4 1;exact callK0 (θ := []) (hD := (ParseIntSyn_ok s preB122 hp));exact rfl;exact rfl;exact rfl;refine dM ?_)|refine o_no rfl rfl rfl rfl ?_
    repeat refine cr ?_
    refine ends_id ?_
    refine endK [] (h2 := ?_) (h3 := ?_) (nd := ?_)
    all_goals (repeat' first|exact ce0|refine ce ?_|refine ce2 ?_ ?_|exact SVLe.refl|refine ceb ?_)
    all_goals first | exact (show nodupB _ = true from rfl) | exact Or.inr rfl | (rfl)
  · have e : numS s = none := by
      cases hq : numS s with
      | none => rfl
      | some k =>
        obtain ⟨q1,q2,q3⟩ := numS_some.1 hq
        rw [← q1,parse_dec2 q2 q3] at hp
        cases hp
    rw [e]
    refine does_of (k := 0) Tryz.func181 rfl Tryz.ntmps181 rfl rfl fun w F0 S0 ρ0 => ?_
    dsimp only [argT,argH]
    repeat' first|(apply p3;(first|exact pu1|exact a_neErr rfl rfl (by kernel_rfl));exact rfl)|refine cd ?_|(apply c4 1;exact callK0 (θ := []) (hD := (ParseIntRng_ok s preB122 hp));exact rfl;exact rfl;exact rfl;refine dM ?_)|refine o_no rfl rfl rfl rfl ?_
    repeat refine cr ?_
    refine ends_id ?_
    refine endK [] (h2 := ?_) (h3 := ?_) (nd := ?_)
    all_goals (repeat' first|exact ce0|refine ce ?_|refine ce2 ?_ ?_|exact SVLe.refl|refine ceb ?_)
    all_goals first | exact (show nodupB _ = true from rfl) | exact Or.inr rfl | (rfl)
end Go.Proofs.YtighjcjmacajoaaGreatDoor
end
section
set_option linter.unusedVariables false
set_option linter.unusedSimpArgs false
set_option maxRecDepth 100000
set_option maxHeartbeats 4000000
namespace Go.Proofs.YtighjcjmacajoaaGreatDoor
open Go Foot Go.RowKit
theorem preB123 {p : Prop} (h : p := by first | with_reducible assumption | omega | (simp only [List.length_append,List.length_cons,List.length_nil,List.length_set,List.length_replicate,List.length_take,List.length_drop,List.length_tail,List.length_dropLast,List.length_reverse] at *; omega) | exact mem_len (by assumption) (by omega) | (with_reducible refine Int.le_trans (Int.ofNat_le.2 (trimR_len _)) ?_; simp only [List.length_cons,List.length_tail]; omega) | (exact (ruAt_ok (by assumption) (by assumption) (by assumption)).2.1) | (exact (ruAt_ok (by assumption) (by assumption) (by assumption)).2.1) | (have := vMach_bd (by assumption); omega) | (simp only [mC_ch,mC_tu]; omega) | (have := vTag_bd (by assumption); omega) | (have := (‹Gd _ _›).le; omega) | (exact tgHalts_no (by assumption)) | (exact tgHead (by assumption) (by assumption) (by assumption)) | (exact Int.le_trans (tgStep_gd (by assumption) (by assumption) (by assumption) (by assumption)).le (by decide)) | (exact vTag_r (by assumption)) | (with_reducible refine Int.le_trans (Int.ofNat_le.2 (pushL_len _ _)) ?_; simp only [List.length_dropLast]; omega) | exact ls_at (by assumption) (by omega) | exact pt_gd (by assumption) | exact lv_at (by assumption) (by omega) | exact pt_gd (lv_at (by assumption) (by omega)) | exact (ask_ok (by assumption)).1 | exact (ask_ok (by assumption)).2.1 | exact (ask_ok (by assumption)).2.2.1 | exact (ask_ok (by assumption)).2.2.2 | trivial) : p := h
theorem GrowF_ok (n : Int) (h0 : 0 ≤ n) (h1 : n ≤ 281474976710656) : Does Tryz.prog 199 [.one (.gv 0),.one (int n)] [.opq (frB 244) [0]] (.tup []) [bldr []] :=
  does_fresh (av := [.int .i64 n]) (rv := .tuple #[]) (fun w S ρ vs => repA_1) (fun w S ρ => ⟨#[],rfl,rfl⟩) fun w b h => by
    obtain ⟨k,rfl⟩ : ∃ k : Nat,n = k := ⟨n.toNat,by omega⟩
    exact bs_GrowF h (by omega)
theorem ReplaceB_ok (s : Bs) (c d : UInt8) (hs : (s.length : Int) ≤ 1048576) (hcd : c ≠ d) : Does Tryz.prog 182 [.one (str s),.one (str [c]),.one (str [d]),.one (int (-1))] [] (.one (str (rpl c d s))) [] := by
  have hone : ((([c] : Bs).length : Nat) : Int) = 1 := rfl
  have hond : ((([d] : Bs).length : Nat) : Int) = 1 := rfl
  have hcl : Lib.countByte s c ≤ s.length := List.count_le_length
  have hne : ¬ (([c] : Bs) = [d]) := by simp [hcd]
  by_cases h0 : (Lib.countByte s c : Int) = 0
  · have hno : c ∉ s := fun q => by
      have := List.count_pos_iff.2 q
      unfold Lib.countByte at h0
      omega
    have e := rpl_no (d := d) hno
    rw [e]
    refine does_of (k := 0) Tryz.func182 rfl Tryz.ntmps182 rfl rfl fun w F0 S0 ρ0 => ?_
    dsimp only [argT,argH]
    repeat' first|(apply p3;(first|exact pu1|exact a_eqT rfl rfl|exact puC);exact rfl)|refine cd ?_|(apply c4 0;exact callK1 (θ := []) (hD := (CountB_ok _ _));exact rfl;exact rfl;exact rfl;refine dM ?_)|(apply py3;exact rfl;exact rfl;(first|exact pu1|exact puC);exact rfl;exact rfl)|((first|refine o_gs rfl rfl (fun hc => ?_) (fun hc => ?_)|refine g_cond rfl (fun hc => ?_) (fun hc => ?_)) <;> (try simp only [dcB] at hc) <;> (try first|contradiction|(exfalso;omega)))
    repeat refine cr ?_
    refine ends_id ?_
    refine endK [] (h2 := ?_) (h3 := ?_) (nd := ?_)
    all_goals (repeat' first|exact ce0|refine ce ?_|refine ce2 ?_ ?_|exact SVLe.refl|refine ceb ?_)
    all_goals first | exact (show nodupB _ = true from rfl) | exact Or.inr rfl | (rfl)
  · have hm0 : ¬ (Lib.countByte s c : Int) < 0 := by omega
    have hz : (Lib.countByte s c : Int) * (((([d] : Bs).length : Nat) : Int) - ((([c] : Bs).length : Nat) : Int)) = 0 := by rw [hone,hond]; simp
    refine does_of (k := 0) Tryz.func182 rfl Tryz.ntmps182 rfl rfl fun w F0 S0 ρ0 => ?_
    dsimp only [argT,argH]
    repeat' first|(apply n3;exact a_newF;exact rfl;refine dA ?_)|(apply p3;(first|exact pu1|exact a_eqT rfl rfl|exact puC|exact a_lenT rfl (fT rfl)|exact a_sub rfl rfl (by omega) (by omega)|exact a_mulB rfl rfl (by omega) (by omega) (by omega) (by omega)|exact a_add rfl rfl (by omega) (by omega));exact rfl)|refine cd ?_|(apply c4 0;exact callK1 (θ := []) (hD := (CountB_ok _ _));exact rfl;exact rfl;exact rfl;refine dM ?_)|(apply c4 0;exact callK1 (θ := [_]) (hD := (GrowF_ok _ preB123 preB123));exact rfl;exact rfl;exact rfl;refine dM ?_)|refine o_no rfl rfl rfl rfl ?_|(apply py3;exact rfl;exact rfl;(first|exact pu1|exact puC);exact rfl;exact rfl)|((first|refine o_gs rfl rfl (fun hc => ?_) (fun hc => ?_)|refine g_cond rfl (fun hc => ?_) (fun hc => ?_)) <;> (try simp only [dcB] at hc) <;> (try first|contradiction|(exfalso;omega)))
    refine g_loop_id ?_
    refine loopK [0,1,2,3,8,10,52] [0] (fun y : Int × Int × Bs => 0 ≤ y.1 ∧ y.1 ≤ Lib.countByte s c ∧ 0 ≤ y.2.1 ∧ y.2.1 ≤ s.length ∧ (Lib.countByte (s.drop y.2.1.toNat) c : Int) = Lib.countByte s c - y.1 ∧ (y.2.2.length : Int) = y.2.1 ∧ rpl c d s = y.2.2 ++ rpl c d (s.drop y.2.1.toNat)) (fun y => [(53,.one (int y.1)),(11,.one (int y.2.1))]) (fun y => [(0,bldr y.2.2)]) (fun y => (Lib.countByte s c - y.1).toNat) ((0 : Int),(0 : Int),([] : Bs)) [0] (hI := ?_) (hr := ?_)
    · exact ⟨by simp,by simp,by simp,by simp,by simp,by simp,by simp⟩
    · rintro ⟨i,k,acc⟩ ⟨h1,h2,h3,h4,h5,h6,h7⟩
      dsimp only [List.cons_append,List.nil_append] at *
      skip
      repeat' first|(apply p3;(first|exact pu1|exact puC|exact a_slSl rfl rfl (fT rfl) (by omega) bnd);exact rfl)|refine cdn ?_|refine g_reg (id := 13) ?_|refine g_reg (id := 28) ?_|refine g_reg (id := 29) ?_|(apply c4 0;exact callK1 (θ := [_]) (hD := (WriteString_ok _ _ preB123));exact rfl;exact rfl;exact rfl;refine dM ?_)|(apply c4 0;exact callK1 (θ := [_]) (hD := (String_ok _));exact rfl;exact rfl;exact rfl;refine dM ?_)|((refine g_cond rfl (fun hc => ?_) (fun hc => ?_)) <;> (try simp only [dcB] at hc) <;> (try first|contradiction|(exfalso;omega)))
      · have hpos : 0 ≤ Lib.indexByte (s.drop k.toNat) c := by
          rcases Int.lt_or_le (Lib.indexByte (s.drop k.toNat) c) 0 with q | q
          · exfalso
            by_cases hm : c ∈ s.drop k.toNat
            · have := index_nn hm; omega
            · have := count_no hm
              omega
          · exact q
        obtain ⟨a,b,e1,e2⟩ := index_split hpos
        have e3 := index_at (b := b) e2
        have e4 := count_app (b := b) e2
        have e5 : (s.length : Int) = k + a.length + 1 + b.length := by
          have := congrArg List.length e1
          rw [List.length_drop] at this
          simp only [List.length_append,List.length_cons] at this
          omega
        have e6 : (s.drop k.toNat).take ((k + (a.length : Int)).toNat - k.toNat) = a := by
          rw [e1,show (k + (a.length : Int)).toNat - k.toNat = a.length by omega]
          simp
        have e7 : s.drop (k + a.length + 1).toNat = b := by
          rw [show (k + (a.length : Int) + 1).toNat = k.toNat + (a.length + 1) by omega,← List.drop_drop,e1]
          simp
        rw [e1] at h5 h7
        rw [rpl_app,rpl_no e2] at h7
        have e8 : rpl c d (c :: b) = d :: rpl c d b := by unfold rpl; simp
        rw [e8] at h7
        repeat' first|(apply p3;(first|exact pu1|exact a_slSl rfl rfl (fT rfl) (by omega) bnd);exact rfl)|refine g_reg (id := 14) ?_|(apply c4 0;exact callK1 (θ := []) (hD := (IndexB_ok _ _));exact rfl;exact rfl;exact rfl;refine dM ?_)
        simp only [e1,e3]
        repeat' first|(apply p3;(first|exact pu1|exact a_add rfl rfl (by omega) (by omega)|exact a_slSm rfl rfl rfl (fT rfl) (by omega) (by omega) bnd|exact a_lenT rfl (fT rfl));exact rfl)|refine cd ?_|(apply c4 0;exact callK1 (θ := [_]) (hD := (WriteString_ok _ _ preB123));exact rfl;exact rfl;exact rfl;refine dM ?_)
        have e9 : (s.drop k.toNat).take ((k + ((a.length : Nat) : Int)).toNat - k.toNat) = a := e6
        simp only [e9]
        refine q_again (i + 1,k + a.length + 1,acc ++ a ++ [d]) [0] (by exact stk) ?_ ?_
        · refine ⟨by dsimp only; omega,by dsimp only; omega,by dsimp only; omega,by dsimp only; omega,?_,by simp; omega,?_⟩
          · dsimp only
            rw [e7]
            omega
          · dsimp only
            rw [e7,h7]
            simp
        · dsimp only; omega
      · have hno : c ∉ s.drop k.toNat := fun q => by
          have h1 := List.count_pos_iff.2 q
          have h6 : Lib.countByte (s.drop k.toNat) c = 0 := by omega
          unfold Lib.countByte at h6
          omega
        rw [rpl_no hno] at h7
        rw [h7]
        repeat refine cr ?_
        refine ends_id ?_
        refine endK [] (h2 := ?_) (h3 := ?_) (nd := ?_)
        all_goals (repeat' first|exact ce0|refine ce ?_|refine ce2 ?_ ?_|exact SVLe.refl|refine ceb ?_)
        all_goals first | exact (show nodupB _ = true from rfl) | exact Or.inr rfl | (rfl)
end Go.Proofs.YtighjcjmacajoaaGreatDoor
end
section
set_option linter.unusedVariables false
set_option linter.unusedSimpArgs false
set_option maxRecDepth 100000
set_option maxHeartbeats 4000000
namespace Go.Proofs.YtighjcjmacajoaaGreatDoor
open Go Foot
@[irreducible] def dotT (l : List Int) : Bs := if (l.length : Int) = 0 then [45] else joinT (l.map decT) [46]
theorem join_cons2 (a b : Bs) (l : List Bs) (sep : Bs) : joinT (a :: b :: l) sep = a ++ (sep ++ joinT (b :: l) sep) := by
  unfold joinT
  simp [Lib.join]
theorem join_one (a sep : Bs) : joinT [a] sep = a := by
  unfold joinT
  simp [Lib.join]
theorem spl_join : ∀ {l : List Bs},l ≠ [] → (∀ p ∈ l,(46 : UInt8) ∉ p ∧ (44 : UInt8) ∉ p) → spl 44 (rpl 46 44 (joinT l [46])) = l
  | [],h,_ => absurd rfl h
  | [a],_,h => by
    obtain ⟨h1,h2⟩ := h a (by simp)
    rw [join_one,rpl_no h1,spl_no h2]
  | a :: b :: l,_,h => by
    obtain ⟨h1,h2⟩ := h a (by simp)
    rw [join_cons2,rpl_app,rpl_app,rpl_no h1,show rpl 46 44 [46] = [44] by decide,List.singleton_append,spl_app h2,spl_join (by simp) (fun p hp => h p (by simp at hp ⊢; exact .inr hp))]
theorem join_len {sep : UInt8} {k : Nat} : ∀ {l : List Bs},(∀ p ∈ l,p.length ≤ k) → (joinT l [sep]).length ≤ (k + 1) * l.length
  | [],_ => by unfold joinT; simp [Lib.join]
  | [a],h => by
    have := h a (by simp)
    rw [join_one]; simp only [List.length_cons,List.length_nil]; omega
  | a :: b :: l,h => by
    have h1 := h a (by simp)
    have h2 := join_len (sep := sep) (l := b :: l) fun p hp => h p (by simp at hp ⊢; exact .inr hp)
    rw [join_cons2]
    simp only [List.length_append,List.length_cons,List.length_nil,Nat.mul_add,Nat.mul_one] at h2 ⊢
    omega
theorem dec_l19 {n : Int} (h1 : -1000000000000000000 < n) (h2 : n < 1000000000000000000) : (decT n).length ≤ 19 := by
  have := canon_dec h1 h2
  have h3 := this.le
  have h4 : sgn (decT n) ≤ 1 := by unfold sgn; split <;> omega
  omega
structure PaOk (l : List Int) : Prop where
  n : (l.length : Int) ≤ 36
  b : ∀ x ∈ l,0 ≤ x ∧ x ≤ 1000000000000
  j : ((joinT (l.map decT) [46]).length : Int) ≤ 1000000
  w : inAll 0 1000000000000 l = true
theorem pa_ok {l : List Int} (hn : l.length ≤ 36) (hb : ∀ x ∈ l,0 ≤ x ∧ x ≤ 1000000000000) : PaOk l := by
  refine ⟨by omega,hb,?_,?_⟩
  · have := join_len (sep := 46) (k := 19) (l := l.map decT) fun p hp => by
      obtain ⟨x,hx,rfl⟩ := List.mem_map.1 hp
      have := hb x hx
      exact dec_l19 (by omega) (by omega)
    rw [List.length_map] at this
    omega
  · unfold inAll
    rw [List.all_eq_true]
    intro x hx
    have := hb x hx
    simp
    omega
theorem pa_iff {l : List Int} : PaOk l ↔ (l.length : Int) ≤ 36 ∧ inAll 0 1000000000000 l = true := by
  constructor
  · exact fun h => ⟨h.n,h.w⟩
  · rintro ⟨h1,h2⟩
    refine pa_ok (by omega) fun x hx => ?_
    unfold inAll at h2
    have := List.all_eq_true.1 h2 x hx
    simpa using this
theorem preB124 {p : Prop} (h : p := by first | with_reducible assumption | omega | (simp only [List.length_append,List.length_cons,List.length_nil,List.length_set,List.length_replicate,List.length_take,List.length_drop,List.length_tail,List.length_dropLast,List.length_reverse] at *; omega) | exact mem_len (by assumption) (by omega) | (with_reducible refine Int.le_trans (Int.ofNat_le.2 (trimR_len _)) ?_; simp only [List.length_cons,List.length_tail]; omega) | (exact (ruAt_ok (by assumption) (by assumption) (by assumption)).2.1) | (exact (ruAt_ok (by assumption) (by assumption) (by assumption)).2.1) | (have := vMach_bd (by assumption); omega) | (simp only [mC_ch,mC_tu]; omega) | (have := vTag_bd (by assumption); omega) | (have := (‹Gd _ _›).le; omega) | (exact tgHalts_no (by assumption)) | (exact tgHead (by assumption) (by assumption) (by assumption)) | (exact Int.le_trans (tgStep_gd (by assumption) (by assumption) (by assumption) (by assumption)).le (by decide)) | (exact vTag_r (by assumption)) | (with_reducible refine Int.le_trans (Int.ofNat_le.2 (pushL_len _ _)) ?_; simp only [List.length_dropLast]; omega) | exact ls_at (by assumption) (by omega) | exact pt_gd (by assumption) | exact lv_at (by assumption) (by omega) | exact pt_gd (lv_at (by assumption) (by omega)) | exact (ask_ok (by assumption)).1 | exact (ask_ok (by assumption)).2.1 | exact (ask_ok (by assumption)).2.2.1 | exact (ask_ok (by assumption)).2.2.2 | trivial) : p := h
theorem dotted_ok (l : List Int) (g : PaOk l) : Does Tryz.prog 58 [.one (shI l)] [] (.one (str (dotT l))) [] := by
  have hn := g.n
  have hj := g.j
  have hb : ∀ x ∈ l,-1000000000000 ≤ x ∧ x ≤ 1000000000000 := fun x hx => by have := g.b x hx; omega
  by_cases h : (l.length : Int) = 0
  · have e : dotT l = [45] := by unfold dotT; rw [if_pos h]
    rw [e]
    refine does_of (k := 0) Tryz.func58 rfl Tryz.ntmps58 rfl rfl fun w F0 S0 ρ0 => ?_
    dsimp only [argT,argH]
    repeat' first|(apply p3;(first|exact pu1|exact puN|exact puC);exact rfl)|refine cd ?_|((refine g_cond rfl (fun hc => ?_) (fun hc => ?_)) <;> (try simp only [dcB] at hc) <;> (try first|contradiction|(exfalso;omega)))
    repeat refine cr ?_
    refine ends_id ?_
    refine endK [] (h2 := ?_) (h3 := ?_) (nd := ?_)
    all_goals (repeat' first|exact ce0|refine ce ?_|refine ce2 ?_ ?_|exact SVLe.refl|refine ceb ?_)
    all_goals first | exact (show nodupB _ = true from rfl) | exact Or.inr rfl | (rfl)
  · have e : dotT l = joinT (l.map decT) [46] := by unfold dotT; rw [if_neg h]
    rw [e]
    refine does_of (k := 0) Tryz.func58 rfl Tryz.ntmps58 rfl rfl fun w F0 S0 ρ0 => ?_
    dsimp only [argT,argH]
    repeat' first|(apply p3;(first|exact pu1|exact puN|exact puC);exact rfl)|refine cd ?_|(apply c4 0;exact callK1 (θ := []) (hD := (decimals_ok _ _ preB124 preB124 preB124));exact rfl;exact rfl;exact rfl;refine dM ?_)|((refine g_cond rfl (fun hc => ?_) (fun hc => ?_)) <;> (try simp only [dcB] at hc) <;> (try first|contradiction|(exfalso;omega)))
    repeat refine cr ?_
    refine ends_id ?_
    refine endK [] (h2 := ?_) (h3 := ?_) (nd := ?_)
    all_goals (repeat' first|exact ce0|refine ce ?_|refine ce2 ?_ ?_|exact SVLe.refl|refine ceb ?_)
    all_goals first | exact (show nodupB _ = true from rfl) | exact Or.inr rfl | (rfl)
@[irreducible] def ptP (l : List Int) : Bs := if (l.length : Int) ≤ 36 ∧ inAll 0 1000000000000 l = true then dotT l else []
theorem ptP_ok {l : List Int} (g : PaOk l) : ptP l = dotT l := by unfold ptP; rw [if_pos (pa_iff.1 g)]
theorem PathText_ok (l : List Int) (hl : (l.length : Int) ≤ 16777216) : Does Tryz.prog 13 [.one (shI l)] [] (.one (str (ptP l))) [] := by
  by_cases hn : (l.length : Int) ≤ 36
  · cases hw : inAll 0 1000000000000 l with
    | true =>
      have g := pa_iff.2 ⟨hn,hw⟩
      rw [ptP_ok g]
      have kw : ¬ inAll 0 1000000000000 l = false := by simp [hw]
      refine does_of (k := 0) Tryz.func13 rfl Tryz.ntmps13 rfl rfl fun w F0 S0 ρ0 => ?_
      dsimp only [argT,argH]
      repeat' first|(apply p3;(first|exact pu1|exact puN|exact puC);exact rfl)|refine cd ?_|(apply c4 0;exact callK1 (θ := []) (hD := (dotted_ok _ preB124));exact rfl;exact rfl;exact rfl;refine dM ?_)|(apply py3;exact rfl;exact rfl;(exact pu1);exact rfl;exact rfl)|(apply cy4 0;exact rfl;exact rfl;exact callK1 (θ := []) (hD := (allWithin_ok _ _ _ preB124));exact rfl;exact rfl;exact rfl;exact rfl;refine dM ?_)|((first|refine o_gs rfl rfl (fun hc => ?_) (fun hc => ?_)|refine g_cond rfl (fun hc => ?_) (fun hc => ?_)) <;> (try simp only [dcB] at hc) <;> (try first|contradiction|(exfalso;omega)))
      repeat refine cr ?_
      refine ends_id ?_
      refine endK [] (h2 := ?_) (h3 := ?_) (nd := ?_)
      all_goals (repeat' first|exact ce0|refine ce ?_|refine ce2 ?_ ?_|exact SVLe.refl|refine ceb ?_)
      all_goals first | exact (show nodupB _ = true from rfl) | exact Or.inr rfl | (rfl)
    | false =>
      have e : ptP l = [] := by unfold ptP; rw [if_neg]; simp [hw]
      rw [e]
      have kw : ¬ inAll 0 1000000000000 l = true := by simp [hw]
      refine does_of (k := 0) Tryz.func13 rfl Tryz.ntmps13 rfl rfl fun w F0 S0 ρ0 => ?_
      dsimp only [argT,argH]
      repeat' first|(apply p3;(first|exact pu1|exact puN|exact puC);exact rfl)|refine cd ?_|(apply py3;exact rfl;exact rfl;(exact pu1);exact rfl;exact rfl)|(apply cy4 0;exact rfl;exact rfl;exact callK1 (θ := []) (hD := (allWithin_ok _ _ _ preB124));exact rfl;exact rfl;exact rfl;exact rfl;refine dM ?_)|((first|refine o_gs rfl rfl (fun hc => ?_) (fun hc => ?_)|refine g_cond rfl (fun hc => ?_) (fun hc => ?_)) <;> (try simp only [dcB] at hc) <;> (try first|contradiction|(exfalso;omega)))
      repeat refine cr ?_
      refine ends_id ?_
      refine endK [] (h2 := ?_) (h3 := ?_) (nd := ?_)
      all_goals (repeat' first|exact ce0|refine ce ?_|refine ce2 ?_ ?_|exact SVLe.refl|refine ceb ?_)
      all_goals first | exact (show nodupB _ = true from rfl) | exact Or.inr rfl | (rfl)
  · have e : ptP l = [] := by unfold ptP; rw [if_neg]; simp [hn]
    rw [e]
    refine does_of (k := 0) Tryz.func13 rfl Tryz.ntmps13 rfl rfl fun w F0 S0 ρ0 => ?_
    dsimp only [argT,argH]
    repeat' first|(apply p3;(first|exact pu1|exact puN|exact puC);exact rfl)|refine cd ?_|refine o_no rfl rfl rfl rfl ?_|((refine o_gs rfl rfl (fun hc => ?_) (fun hc => ?_)) <;> (try simp only [dcB] at hc) <;> (try first|contradiction|(exfalso;omega)))
    repeat refine cr ?_
    refine ends_id ?_
    refine endK [] (h2 := ?_) (h3 := ?_) (nd := ?_)
    all_goals (repeat' first|exact ce0|refine ce ?_|refine ce2 ?_ ?_|exact SVLe.refl|refine ceb ?_)
    all_goals first | exact (show nodupB _ = true from rfl) | exact Or.inr rfl | (rfl)
end Go.Proofs.YtighjcjmacajoaaGreatDoor
end
section
set_option linter.unusedVariables false
set_option linter.unusedSimpArgs false
set_option maxRecDepth 100000
set_option maxHeartbeats 4000000
namespace Go.Proofs.YtighjcjmacajoaaGreatDoor
open Go Foot
theorem all_pa {p : List Int} (h : p ∈ allP) : PaOk p := by
  have h1 := List.all_eq_true.1 allP_ok p h
  unfold chkP at h1
  simp only [Bool.and_eq_true,decide_eq_true_eq,List.all_eq_true] at h1
  exact pa_ok (by omega) fun x hx => by have := h1.2 x hx; omega
end Go.Proofs.YtighjcjmacajoaaGreatDoor
end
section
set_option linter.unusedVariables false
set_option linter.unusedSimpArgs false
set_option maxRecDepth 100000
set_option maxHeartbeats 4000000
namespace Go.Proofs.YtighjcjmacajoaaGreatDoor
open Go Foot
def drP : Nat → Src → List Int → Mach → List Int
  | 0,_,p,_ => p
  | k + 1,s,p,m => if ndS m 20 = 0 then drP k (pkS s (chR m).length) (p ++ [pkV s (chR m).length]) (chM m (ndA m 20) ((chR m).getD (pkV s (chR m).length).toNat noR)) else p
structure DrAt (k : Int) (s : Src) (p : List Int) (m : Mach) : Prop where
  z : 0 ≤ k
  l : k + p.length ≤ 3
  g : SrOk s
  q : s.pl ≤ 20 - 4 * k
  n : NdOk 2 2 m
  a : p ∈ allP
  t : pth 20 (root 2 2) p = some m
theorem dr_next {k : Int} {s : Src} {p : List Int} {m : Mach} (D : DrAt k s p m) (hk : 0 < k) (ho : ndS m 20 = 0) : (0 ≤ pkV s (chR m).length ∧ pkV s (chR m).length < (chR m).length) ∧ DrAt (k - 1) (pkS s (chR m).length) (p ++ [pkV s (chR m).length]) (chM m (ndA m 20) ((chR m).getD (pkV s (chR m).length).toNat noR)) := by
  have hv := D.n.v
  have hc := chR_len hv
  have hl := D.l
  have hq := D.q
  have hb := pkV_bd (n := (chR m).length) D.g hc.1
  have hp := pkS_pl s (chR m).length
  have hs : stp 20 m (pkV s (chR m).length) = some (chM m (ndA m 20) ((chR m).getD (pkV s (chR m).length).toNat noR)) := by unfold stp; rw [if_pos ⟨ho,hb.1,hb.2⟩]
  refine ⟨hb,by omega,by simp; omega,sr_pick D.g (by omega),by omega,(stp_ok D.n hs).1,goP_next D.a (by omega) D.t ho hb.1 hb.2,?_⟩
  rw [pth_app,D.t]
  simp only [Option.bind_some,pth,hs]
theorem dr_eq {k : Int} {s : Src} {p : List Int} {m : Mach} (hk : 0 < k) : drP k.toNat s p m = if ndS m 20 = 0 then drP (k - 1).toNat (pkS s (chR m).length) (p ++ [pkV s (chR m).length]) (chM m (ndA m 20) ((chR m).getD (pkV s (chR m).length).toNat noR)) else p := by
  rw [show k.toNat = (k - 1).toNat + 1 by omega,drP]
theorem dr_mem : ∀ (n : Nat) {k : Int} {s : Src} {p : List Int} {m : Mach},k.toNat = n → DrAt k s p m → drP n s p m ∈ allP
  | 0,_,_,_,_,_,D => D.a
  | n + 1,k,s,p,m,hk,D => by
    rw [drP]
    split
    · next ho => exact dr_mem n (by omega) (dr_next D (by omega) ho).2
    · exact D.a
@[irreducible] def paP (l : List Int) : List Int := drP (pkV ⟨l,0,0⟩ 4).toNat (pkS ⟨l,0,0⟩ 4) [] (root 2 2)
theorem paP_mem (l : List Int) (g : SrOk ⟨l,0,0⟩) : paP l ∈ allP := by
  have b1 := pkV_bd (n := 4) g (by omega)
  have z1 := pkS_pl ⟨l,0,0⟩ 4
  dsimp only at z1
  unfold paP
  exact dr_mem _ rfl ⟨b1.1,by simp; omega,sr_pick g (by dsimp only; omega),by omega,root_ok (by omega) (by omega) (by omega) (by omega),nil_all,rfl⟩
theorem preB119 {p : Prop} (h : p := by first | with_reducible assumption | omega | (simp only [List.length_append,List.length_cons,List.length_nil,List.length_set,List.length_replicate,List.length_take,List.length_drop,List.length_tail,List.length_dropLast,List.length_reverse] at *; omega) | exact mem_len (by assumption) (by omega) | (with_reducible refine Int.le_trans (Int.ofNat_le.2 (trimR_len _)) ?_; simp only [List.length_cons,List.length_tail]; omega) | (exact (ruAt_ok (by assumption) (by assumption) (by assumption)).2.1) | (exact (ruAt_ok (by assumption) (by assumption) (by assumption)).2.1) | (have := vMach_bd (by assumption); omega) | (simp only [mC_ch,mC_tu]; omega) | (have := vTag_bd (by assumption); omega) | (have := (‹Gd _ _›).le; omega) | (exact tgHalts_no (by assumption)) | (exact tgHead (by assumption) (by assumption) (by assumption)) | (exact Int.le_trans (tgStep_gd (by assumption) (by assumption) (by assumption) (by assumption)).le (by decide)) | (exact vTag_r (by assumption)) | (with_reducible refine Int.le_trans (Int.ofNat_le.2 (pushL_len _ _)) ?_; simp only [List.length_dropLast]; omega) | exact ls_at (by assumption) (by omega) | exact pt_gd (by assumption) | exact lv_at (by assumption) (by omega) | exact pt_gd (lv_at (by assumption) (by omega)) | exact (ask_ok (by assumption)).1 | exact (ask_ok (by assumption)).2.1 | exact (ask_ok (by assumption)).2.2.1 | exact (ask_ok (by assumption)).2.2.2 | trivial) : p := h
theorem b10Path_ok (l : List Int) (g : SrOk ⟨l,0,0⟩) : Does Tryz.prog 9 [.one (shY l)] [] (.one (.gv 0)) [roI (paP l)] := by
  unfold paP
  have b1 := pkV_bd (n := 4) g (by omega)
  have z1 := pkS_pl ⟨l,0,0⟩ 4
  dsimp only at z1
  have D0 : DrAt (pkV ⟨l,0,0⟩ 4) (pkS ⟨l,0,0⟩ 4) [] (root 2 2) := ⟨b1.1,by simp; omega,sr_pick g (by dsimp only; omega),by omega,root_ok (by omega) (by omega) (by omega) (by omega),nil_all,rfl⟩
  have zp : (⟨l,0,0⟩ : Src).pl ≤ 999999999999999998 := by dsimp only; omega
  refine does_of (k := 0) Tryz.func9 rfl Tryz.ntmps9 rfl rfl fun w F0 S0 ρ0 => ?_
  dsimp only [argT,argH]
  repeat' first|(apply n3;exact a_nilO eI rfl;exact rfl)|(apply n3;(first|exact a_litE eI [] rfl rfl rfl rfl rfl rfl rfl rfl|exact a_new (gb := .bx _) rfl);exact rfl;refine dA ?_)|(apply p3;(exact pu1);exact rfl)|refine cd ?_|(apply w3;(exact a_st_bx rfl rfl rfl rfl (fN rfl rfl) (Nat.le_of_ble_eq_true rfl) rfl);exact rfl;refine dS ?_)|(apply c4 1;exact callK0 (θ := []) (hD := (srcFrom_ok _));exact rfl;exact rfl;exact rfl;refine dM ?_)|(apply c4 0;exact callF (hD := (l30Root_ok _ _ preB119 preB119 preB119 preB119));exact rfl;exact rfl;exact rfl;refine dM ?_)|(apply c4 0;exact callK0 (θ := [1]) (hD := (srcPick_ok ⟨l,0,0⟩ 4 g zp preB119));exact rfl;exact rfl;exact rfl;refine dM ?_)
  simp only [setRow,C.frz.all,C.frz,List.map_cons,List.map_nil,scC,List.set_cons_zero,List.set_cons_succ,Nat.zero_add,List.getElem?_cons_zero,List.getElem?_cons_succ,List.take_succ_cons,List.take_zero,List.drop_zero]
  refine g_loop_id ?_
  refine loopK [2,3,5] [1,2,3] (fun y : Int × Src × List Int × Mach => DrAt y.1 y.2.1 y.2.2.1 y.2.2.2 ∧ drP y.1.toNat y.2.1 y.2.2.1 y.2.2.2 = drP (pkV ⟨l,0,0⟩ 4).toNat (pkS ⟨l,0,0⟩ 4) [] (root 2 2)) (fun y => [(6,.one (int y.1)),(4,.one (.gv 2))]) (fun y => [(1,srB y.2.1),(2,roI y.2.2.1),(3,.bx (maC y.2.2.2))]) (fun y => y.1.toNat) (pkV ⟨l,0,0⟩ 4,pkS ⟨l,0,0⟩ 4,([] : List Int),root 2 2) [0,1,2,3] (hI := ?_) (hr := ?_)
  · exact ⟨D0,rfl⟩
  · rintro ⟨k,s,p,m⟩ ⟨D,hE⟩
    dsimp only [List.cons_append,List.nil_append] at *
    skip
    repeat' first|(apply p3;(first|exact pu1|exact puC);exact rfl)|refine cdn ?_|refine g_reg (id := 5) ?_|refine g_reg (id := 13) ?_|((refine g_cond rfl (fun hc => ?_) (fun hc => ?_)) <;> (try simp only [dcB] at hc) <;> (try first|contradiction|(exfalso;omega)))
    · have hv := D.n.v
      have hq := D.q
      have hl := D.l
      have hg := D.g
      have hz := D.z
      have hch := chR_len hv
      have hA := ndA_bd (B := 20) hv
      have hS := ndS_bd m 20
      have hpl : s.pl ≤ 999999999999999998 := by omega
      rw [dr_eq hc] at hE
      by_cases ho : ndS m 20 = 0
      · obtain ⟨hb,D2⟩ := dr_next D hc ho
        rw [if_pos ho] at hE
        have hlm : ((chR m).map (chM m (ndA m 20))).length = (chR m).length := List.length_map _
        have hlb : (((chR m).map (chM m (ndA m 20))).length : Int) ≤ 1000000 := by omega
        repeat' first|(apply p3;(first|exact pu1|exact a_ne rfl rfl|exact puN);exact rfl)|refine cdn ?_|refine g_reg (id := 7) ?_|refine g_reg (id := 8) ?_|refine g_reg (id := 9) ?_|refine g_reg (id := 10) ?_|(apply c4 0;exact callK1 (θ := []) (hD := (l30Status_ok m 20 hv preB119 preB119));exact rfl;exact rfl;exact rfl;refine dM ?_)|(apply c4 1;exact callK0 (θ := [3]) (hD := (l30Children_ok m (ndA m 20) hv preB119 preB119));exact rfl;exact rfl;exact rfl;refine dM ?_)|(apply c4 0;exact callK0 (θ := [1]) (hD := (srcPick_ok s ((chR m).map (chM m (ndA m 20))).length hg hpl hlb));exact rfl;exact rfl;exact rfl;refine dM ?_)|((refine g_cond rfl (fun hc => ?_) (fun hc => ?_)) <;> (try simp only [dcB] at hc) <;> (try first|contradiction|(exfalso;omega)))
        simp only [hlm]
        have hx : (pkV s (chR m).length).toNat < (chR m).length := by omega
        have hgx : (chR m).getD (pkV s (chR m).length).toNat noR = (chR m)[(pkV s (chR m).length).toNat]'hx := by rw [List.getD_eq_getElem?_getD,List.getElem?_eq_getElem hx]; rfl
        rw [hgx] at hE D2
        repeat' first|(apply n3;(exact a_litE eI [_] rfl rfl rfl rfl rfl rfl rfl rfl);exact rfl;refine dA ?_)|(apply p3;(first|exact pu1|exact a_ldsE (E := eMa) 0 rfl rfl rfl (fA rfl) rfl rfl (Nat.le_of_ble_eq_true rfl) (Nat.le_of_ble_eq_true rfl) bnd rfl (by repeat (first|exact trivial|exact rfl|refine And.intro ?_ ?_)) rfl|exact a_sub rfl rfl (by omega) (by omega)|exact puI);exact rfl)|refine cd ?_|(apply s3;exact a_appE (fP rfl) rfl rfl rfl rfl nowR (by (simp;omega)) (by decide) (by decide) (by exact rfl);exact rfl;exact rfl)|(apply w3;(exact a_st_bx rfl rfl rfl rfl (fN rfl rfl) (Nat.le_of_ble_eq_true rfl) rfl);exact rfl;refine dS ?_)
        try simp only [List.getElem_map,Nat.mul_one]
        refine q_again (k - 1,pkS s (chR m).length,p ++ [pkV s (chR m).length],chM m (ndA m 20) ((chR m)[(pkV s (chR m).length).toNat]'hx)) [0,1,6,3] (by exact stk) ?_ ?_
        · exact ⟨D2,hE⟩
        · omega
      · rw [if_neg ho] at hE
        repeat' first|(apply p3;(first|exact pu1|exact a_ne rfl rfl);exact rfl)|refine cd ?_|(apply c4 0;exact callK1 (θ := []) (hD := (l30Status_ok m 20 hv preB119 preB119));exact rfl;exact rfl;exact rfl;refine dM ?_)|((refine g_cond rfl (fun hc => ?_) (fun hc => ?_)) <;> (try simp only [dcB] at hc) <;> (try first|contradiction|(exfalso;omega)))
        rw [← hE]
        repeat refine cr ?_
        refine ends_id ?_
        refine endK [?_] (h2 := ?_) (h3 := ?_) (nd := ?_)
        rotate_left 1
        all_goals (repeat' first|exact ce0|refine ce ?_|refine ce2 ?_ ?_|(refine Or.inr (bx_eq rfl rfl ?_);(try dsimp only [C.ren,C.ren.all]);(try exact rfl))|exact SVLe.refl|refine ceb ?_)
        all_goals first | exact (show nodupB _ = true from rfl) | exact Or.inr rfl | (rfl)
    · have e : drP k.toNat s p m = p := by rw [show k.toNat = 0 by omega]; rfl
      rw [← hE,e]
      repeat refine cr ?_
      refine ends_id ?_
      refine endK [?_] (h2 := ?_) (h3 := ?_) (nd := ?_)
      rotate_left 1
      all_goals (repeat' first|exact ce0|refine ce ?_|refine ce2 ?_ ?_|(refine Or.inr (bx_eq rfl rfl ?_);(try dsimp only [C.ren,C.ren.all]);(try exact rfl))|exact SVLe.refl|refine ceb ?_)
      all_goals first | exact (show nodupB _ = true from rfl) | exact Or.inr rfl | (rfl)
end Go.Proofs.YtighjcjmacajoaaGreatDoor
end
section
set_option linter.unusedVariables false
set_option linter.unusedSimpArgs false
set_option maxRecDepth 100000
set_option maxHeartbeats 4000000
namespace Go.Proofs.YtighjcjmacajoaaGreatDoor
open Go Foot
theorem b10Sum_ok (xs : List Int) (hx : (xs.length : Int) ≤ 1000000) (hb : ∀ x ∈ xs,0 ≤ x ∧ x ≤ 1000000) : Does Tryz.prog 19 [.one (shI xs)] [] (.one (int (xs.foldl (· + ·) 0))) [] := by
  refine does_of (k := 0) Tryz.func19 rfl Tryz.ntmps19 rfl rfl fun w F0 S0 ρ0 => ?_
  dsimp only [argT,argH]
  repeat' first|(apply p3;(exact pu1);exact rfl)|refine cd ?_
  refine g_loop_id ?_
  refine loopK [0,2] [] (fun y : Int × Int => 0 ≤ y.1 ∧ y.1 ≤ xs.length ∧ 0 ≤ y.2 ∧ y.2 ≤ 1000000 * y.1 ∧ y.2 = (xs.take y.1.toNat).foldl (· + ·) 0) (fun y => [(4,.one (int y.1)),(3,.one (int y.2))]) (fun _ => []) (fun y => (xs.length - y.1).toNat) ((0 : Int),(0 : Int)) [] (hI := ?_) (hr := ?_)
  · exact ⟨by simp,by simp,by simp,by simp,by simp⟩
  · rintro ⟨i,a⟩ ⟨h0,h1,h2,h3,h4⟩
    dsimp only [List.cons_append,List.nil_append] at *
    skip
    repeat' first|(apply p3;(first|exact pu1|exact puN|exact puC);exact rfl)|refine cdn ?_|refine g_reg (id := 3) ?_|refine g_reg (id := 6) ?_|((refine g_cond rfl (fun hc => ?_) (fun hc => ?_)) <;> (try simp only [dcB] at hc) <;> (try first|contradiction|(exfalso;omega)))
    · have hi : i.toNat < xs.length := by omega
      have hv := hb _ (List.getElem_mem hi)
      have hw : (xs.take (i + 1).toNat).foldl (· + ·) 0 = a + xs[i.toNat]'hi := by
        rw [show (i + 1).toNat = i.toNat + 1 by omega,List.take_succ_eq_append_getElem hi,List.foldl_append,← h4]
        rfl
      repeat' first|(apply p3;(first|exact pu1|exact a_add rfl rfl (by omega) (by omega)|exact puI);exact rfl)|refine cd ?_
      refine q_again (i + 1,a + xs[i.toNat]'hi) [] (by exact stk) ?_ ?_
      · exact ⟨by dsimp only; omega,by dsimp only; omega,by dsimp only; omega,by dsimp only; omega,hw.symm⟩
      · omega
    · have e : xs.foldl (· + ·) 0 = a := by rw [h4,List.take_of_length_le (by omega)]
      rw [e]
      repeat refine cr ?_
      refine ends_id ?_
      refine endK [] (h2 := ?_) (h3 := ?_) (nd := ?_)
      all_goals (repeat' first|exact ce0|refine ce ?_|refine ce2 ?_ ?_|exact SVLe.refl|refine ceb ?_)
      all_goals first | exact (show nodupB _ = true from rfl) | exact Or.inr rfl | (rfl)
theorem b10Rows_ok (xs : List (List Int)) (hx : (xs.length : Int) ≤ 16777216) (hl : ∀ x ∈ xs,(x.length : Int) ≤ 16777216) : Does Tryz.prog 20 [.one (shW xs),.one (shW xs)] [] (.one (boo true)) [] := by
  have hs : ∀ x : List Int,eqI x x = true := fun x => by simp [eqI]
  refine does_of (k := 0) Tryz.func20 rfl Tryz.ntmps20 rfl rfl fun w F0 S0 ρ0 => ?_
  dsimp only [argT,argH]
  repeat' first|(apply p3;(first|exact pu1|exact puN|exact a_ne rfl rfl);exact rfl)|refine cd ?_|((refine g_cond rfl (fun hc => ?_) (fun hc => ?_)) <;> (try simp only [dcB] at hc) <;> (try first|contradiction|(exfalso;omega)))
  refine g_loop_id ?_
  refine loopK [0,1,4] [] (fun i : Int => 0 ≤ i ∧ i ≤ xs.length) (fun i => [(5,.one (int i))]) (fun _ => []) (fun i => (xs.length - i).toNat) (0 : Int) [] (hI := ?_) (hr := ?_)
  · exact ⟨by simp,by simp⟩
  · rintro i ⟨h0,h1⟩
    dsimp only [List.cons_append,List.nil_append] at *
    skip
    repeat' first|(apply p3;(first|exact pu1|exact puN|exact puC);exact rfl)|refine cdn ?_|refine g_reg (id := 4) ?_|refine g_reg (id := 8) ?_|((refine g_cond rfl (fun hc => ?_) (fun hc => ?_)) <;> (try simp only [dcB] at hc) <;> (try first|contradiction|(exfalso;omega)))
    · have hi : i.toNat < xs.length := by omega
      have hv := hl _ (List.getElem_mem hi)
      repeat' first|refine cd ?_|(apply g_drN (id := 6) okM [[],[],[0,1],[0,1,2],[],[],[4,5],[4,5,6],[0,1,2,3,4,5,6,7],[0,1,2,3,4,5,6,7,8]] [([],[]),([],[]),([],[]),([],[]),([],[]),([],[]),([],[]),([],[]),([],[]),([],[])] 0;(focus (refine dp 0 0 [18,21,22,23,24] [] pu1 ?_;refine dp 1 0 [17,21,22,23,24] [] pu1 ?_;refine dp 2 3 [21,22,23,24] [] puI ?_;refine dp 3 7 [21,22,23,24] [] (by exact puL) ?_;refine dp 4 0 [17,18,19,20,22] [] pu1 ?_;refine dp 5 0 [17,18,19,20,21] [] pu1 ?_;refine dp 6 3 [17,18,19,20] [] puI ?_;refine dp 7 7 [17,18,19,20] [] (by exact puL) ?_;refine dp 8 255 [] [] (callD1 (n := _) 0 (θ := []) (hD := (b10Nums_ok (xs[i.toNat]'hi) (xs[i.toNat]'hi) hv hv))) ?_;refine dp 9 511 [] [] (a_pure (sv := .one _) rfl) ?_;(refine d_nil ?_;refine dN ?_)));any_goals kernel_rfl)
      simp only [hs,Bool.not_true]
      repeat' first|(apply p3;(first|exact pu1|exact a_add rfl rfl (by omega) (by omega));exact rfl)|refine cd ?_
      refine q_again (i + 1) [] (by exact stk) ?_ ?_
      · exact ⟨by omega,by omega⟩
      · omega
    · repeat refine cr ?_
      refine ends_id ?_
      refine endK [] (h2 := ?_) (h3 := ?_) (nd := ?_)
      all_goals (repeat' first|exact ce0|refine ce ?_|refine ce2 ?_ ?_|exact SVLe.refl|refine ceb ?_)
      all_goals first | exact (show nodupB _ = true from rfl) | exact Or.inr rfl | (rfl)
end Go.Proofs.YtighjcjmacajoaaGreatDoor
end
section
set_option linter.unusedVariables false
set_option linter.unusedSimpArgs false
set_option maxRecDepth 100000
set_option maxHeartbeats 4000000
namespace Go.Proofs.YtighjcjmacajoaaGreatDoor
open Go Foot Go.RowKit
theorem spl_len (c : UInt8) : ∀ s : Bs,(spl c s).length ≤ s.length + 1
  | [] => by simp [spl]
  | x :: s => by
    have ih := spl_len c s
    rw [spl]
    split
    · simp only [List.length_cons]; omega
    · split
      · simp
      · next p r e => rw [e] at ih; simp only [List.length_cons] at ih ⊢; omega
theorem spl_el (c : UInt8) : ∀ (s : Bs),∀ p ∈ spl c s,p.length ≤ s.length ∧ ∀ x ∈ p,x ∈ s
  | [],p,h => by simp [spl] at h; subst h; simp
  | x :: s,p,h => by
    have ih := spl_el c s
    rw [spl] at h
    split at h
    · rcases List.mem_cons.1 h with rfl | h
      · simp
      · obtain ⟨i1,i2⟩ := ih p h
        exact ⟨by simp only [List.length_cons]; omega,fun y hy => List.mem_cons_of_mem _ (i2 y hy)⟩
    · split at h
      · rcases List.mem_cons.1 h with rfl | h
        · simp
        · cases h
      · next q r e =>
        rw [e] at ih
        rcases List.mem_cons.1 h with rfl | h
        · obtain ⟨i1,i2⟩ := ih q (by simp)
          refine ⟨by simp only [List.length_cons]; omega,fun y hy => ?_⟩
          rcases List.mem_cons.1 hy with rfl | hy
          · simp
          · exact List.mem_cons_of_mem _ (i2 y hy)
        · obtain ⟨i1,i2⟩ := ih p (by simp [h])
          exact ⟨by simp only [List.length_cons]; omega,fun y hy => List.mem_cons_of_mem _ (i2 y hy)⟩
theorem preB125 {p : Prop} (h : p := by first | with_reducible assumption | omega | (simp only [List.length_append,List.length_cons,List.length_nil,List.length_set,List.length_replicate,List.length_take,List.length_drop,List.length_tail,List.length_dropLast,List.length_reverse] at *; omega) | exact mem_len (by assumption) (by omega) | (with_reducible refine Int.le_trans (Int.ofNat_le.2 (trimR_len _)) ?_; simp only [List.length_cons,List.length_tail]; omega) | (exact (ruAt_ok (by assumption) (by assumption) (by assumption)).2.1) | (exact (ruAt_ok (by assumption) (by assumption) (by assumption)).2.1) | (have := vMach_bd (by assumption); omega) | (simp only [mC_ch,mC_tu]; omega) | (have := vTag_bd (by assumption); omega) | (have := (‹Gd _ _›).le; omega) | (exact tgHalts_no (by assumption)) | (exact tgHead (by assumption) (by assumption) (by assumption)) | (exact Int.le_trans (tgStep_gd (by assumption) (by assumption) (by assumption) (by assumption)).le (by decide)) | (exact vTag_r (by assumption)) | (with_reducible refine Int.le_trans (Int.ofNat_le.2 (pushL_len _ _)) ?_; simp only [List.length_dropLast]; omega) | exact ls_at (by assumption) (by omega) | exact pt_gd (by assumption) | exact lv_at (by assumption) (by omega) | exact pt_gd (lv_at (by assumption) (by omega)) | exact (ask_ok (by assumption)).1 | exact (ask_ok (by assumption)).2.1 | exact (ask_ok (by assumption)).2.2.1 | exact (ask_ok (by assumption)).2.2.2 | trivial) : p := h
theorem ReadDecsG_ok (s : Bs) (hs : (s.length : Int) ≤ 1048576) : Does Tryz.prog 119 [.one (str s)] [] (.tup [(false,[.gv 0]),(false,[boo (numL (spl 44 s)).isSome])]) [roI ((numL (spl 44 s)).getD [])] := by
  have hpl := spl_len 44 s
  have hpe := spl_el 44 s
  refine does_of (k := 0) Tryz.func119 rfl Tryz.ntmps119 rfl rfl fun w F0 S0 ρ0 => ?_
  dsimp only [argT,argH]
  repeat' first|(apply n3;exact a_nilO eI rfl;exact rfl)|(apply n3;(exact a_litE eI [] rfl rfl rfl rfl rfl rfl rfl rfl);exact rfl;refine dA ?_)|(apply p3;(first|exact pu1|exact puN);exact rfl)|refine cd ?_|(apply c4 1;exact callK1 (θ := []) (hD := (Split_ok s 44 hs));exact rfl;exact rfl;exact rfl;refine dM ?_)
  generalize spl 44 s = ps at *
  refine g_loop_id ?_
  refine loopK [2,3,11,12] [1] (fun y : Int × List Int => 0 ≤ y.1 ∧ y.1 ≤ ps.length ∧ numL (ps.take y.1.toNat) = some y.2) (fun y => [(13,.one (int y.1)),(4,.one (.gv 1))]) (fun y => [(1,roI y.2)]) (fun y => (ps.length - y.1).toNat) ((0 : Int),([] : List Int)) [0,1,2] (hI := ?_) (hr := ?_)
  · exact ⟨by simp,by simp,by simp [numL]⟩
  · rintro ⟨i,l⟩ ⟨h0,h1,h2⟩
    dsimp only [List.cons_append,List.nil_append] at *
    skip
    repeat' first|(apply p3;(first|exact pu1|exact puC|exact a_ld_rowS rfl rfl rfl (fC rfl) bnd|exact puI);exact rfl)|refine cdn ?_|refine g_reg (id := 3) ?_|refine g_reg (id := 4) ?_|refine g_reg (id := 10) ?_|((refine g_cond rfl (fun hc => ?_) (fun hc => ?_)) <;> (try simp only [dcB] at hc) <;> (try first|contradiction|(exfalso;omega)))
    · have hi : i.toNat < ps.length := by omega
      have hx := (hpe _ (List.getElem_mem hi)).1
      have hx1 : ((ps[i.toNat]'hi).length : Int) ≤ 1048576 := by omega
      have hll := numL_len h2
      rw [List.length_take] at hll
      have hsn := numL_snoc (ps.take i.toNat) (ps[i.toNat]'hi)
      rw [← List.take_succ_eq_append_getElem hi,h2,Option.bind_some] at hsn
      simp only [List.getElem_map,Nat.mul_one]
      repeat' first|(apply p3;(exact pu1);exact rfl)|refine cdn ?_|refine g_reg (id := 5) ?_|(apply c4 0;exact callK1 (θ := []) (hD := (ReadDecimalG_ok (ps[i.toNat]'hi) hx1));exact rfl;exact rfl;exact rfl;refine dM ?_)
      cases hn : numS (ps[i.toNat]'hi) with
      | none =>
        rw [numL_none hi hn]
        simp only [Option.isSome_none,Option.getD_none]
        repeat' first|(apply n3;exact a_nilO eI rfl;exact rfl)|(apply p3;(exact pu1);exact rfl)|refine cd ?_
        repeat refine cr ?_
        refine ends_id ?_
        refine endK [?_] (h2 := ?_) (h3 := ?_) (nd := ?_)
        rotate_left 1
        all_goals (repeat' first|exact ce0|refine ce ?_|refine ce2 ?_ ?_|(refine Or.inr (bx_eq rfl rfl ?_);(try dsimp only [C.ren,C.ren.all]);(try exact rfl))|exact SVLe.refl|refine ceb ?_)
        all_goals first | exact (show nodupB _ = true from rfl) | exact Or.inr rfl | (rfl)
      | some n =>
        rw [hn,Option.map_some] at hsn
        simp only [Option.isSome_some,Option.getD_some]
        repeat' first|(apply n3;(exact a_litE eI [_] rfl rfl rfl rfl rfl rfl rfl rfl);exact rfl;refine dA ?_)|(apply p3;(first|exact pu1|exact a_add rfl rfl (by omega) (by omega));exact rfl)|refine cd ?_|(apply s3;exact a_appE (fP rfl) rfl rfl rfl rfl nowR (by (simp;omega)) (by decide) (by decide) (by exact rfl);exact rfl;exact rfl)
        refine q_again (i + 1,l ++ [n]) [0,4,2] (by exact stk) ?_ ?_
        · exact ⟨by dsimp only; omega,by dsimp only; omega,by dsimp only; rw [show (i + 1).toNat = i.toNat + 1 by omega,hsn]⟩
        · omega
    · rw [List.take_of_length_le (by omega)] at h2
      rw [h2]
      repeat refine cr ?_
      refine ends_id ?_
      refine endK [?_] (h2 := ?_) (h3 := ?_) (nd := ?_)
      rotate_left 1
      all_goals (repeat' first|exact ce0|refine ce ?_|refine ce2 ?_ ?_|(refine Or.inr (bx_eq rfl rfl ?_);(try dsimp only [C.ren,C.ren.all]);(try exact rfl))|exact SVLe.refl|refine ceb ?_)
      all_goals first | exact (show nodupB _ = true from rfl) | exact Or.inr rfl | (rfl)
theorem ReplaceAllB_ok (s : Bs) (c d : UInt8) (hs : (s.length : Int) ≤ 1048576) (hcd : c ≠ d) : Does Tryz.prog 120 [.one (str s),.one (str [c]),.one (str [d])] [] (.one (str (rpl c d s))) [] := by
  refine does_of (k := 0) Tryz.func120 rfl Tryz.ntmps120 rfl rfl fun w F0 S0 ρ0 => ?_
  dsimp only [argT,argH]
  repeat' first|(apply p3;exact pu1;exact rfl)|refine cd ?_|(apply c4 0;exact callK1 (θ := []) (hD := (ReplaceB_ok s c d hs hcd));exact rfl;exact rfl;exact rfl;refine dM ?_)
  repeat refine cr ?_
  refine ends_id ?_
  refine endK [] (h2 := ?_) (h3 := ?_) (nd := ?_)
  all_goals (repeat' first|exact ce0|refine ce ?_|refine ce2 ?_ ?_|exact SVLe.refl|refine ceb ?_)
  all_goals first | exact (show nodupB _ = true from rfl) | exact Or.inr rfl | (rfl)
@[irreducible] def dotS (s : Bs) : List Int := if s = [45] then [] else (numL (spl 44 (rpl 46 44 s))).getD [-1]
theorem readDotted_ok (s : Bs) (hs : (s.length : Int) ≤ 1048576) : Does Tryz.prog 55 [.one (str s)] [] (.one (.gv 0)) [roI (dotS s)] := by
  by_cases h : s = [45]
  · have e : dotS s = [] := by unfold dotS; rw [if_pos h]
    rw [e]
    subst h
    refine does_of (k := 0) Tryz.func55 rfl Tryz.ntmps55 rfl rfl fun w F0 S0 ρ0 => ?_
    dsimp only [argT,argH]
    repeat' first|(apply n3;exact a_nilO eI rfl;exact rfl)|(apply p3;(first|exact pu1|exact a_eqT rfl rfl);exact rfl)|refine cd ?_
    repeat refine cr ?_
    refine ends_id ?_
    refine endK [?_] (h2 := ?_) (h3 := ?_) (nd := ?_)
    rotate_left 1
    all_goals (repeat' first|exact ce0|refine ce ?_|refine ce2 ?_ ?_|(refine Or.inr (bx_eq rfl rfl ?_);(try dsimp only [C.ren,C.ren.all]);(try exact rfl))|exact SVLe.refl|refine ceb ?_)
    all_goals first | exact (show nodupB _ = true from rfl) | exact Or.inr rfl | (rfl)
  · have e : dotS s = (numL (spl 44 (rpl 46 44 s))).getD [-1] := by unfold dotS; rw [if_neg h]
    have hr : ((rpl 46 44 s).length : Int) ≤ 1048576 := by rw [rpl_len]; exact hs
    rw [e]
    refine does_of (k := 0) Tryz.func55 rfl Tryz.ntmps55 rfl rfl fun w F0 S0 ρ0 => ?_
    dsimp only [argT,argH]
    repeat' first|(apply n3;exact a_nilO eI rfl;exact rfl)|(apply p3;(first|exact pu1|exact a_eqT rfl rfl);exact rfl)|refine cdn ?_|refine g_reg (id := 0) ?_|refine g_reg (id := 1) ?_|refine g_reg (id := 3) ?_|(apply c4 0;exact callK1 (θ := []) (hD := (ReplaceAllB_ok s 46 44 hs (by decide)));exact rfl;exact rfl;exact rfl;refine dM ?_)|(apply c4 1;exact callK1 (θ := []) (hD := (ReadDecsG_ok (rpl 46 44 s) hr));exact rfl;exact rfl;exact rfl;refine dM ?_)|((refine g_cond rfl (fun hc => ?_) (fun hc => ?_)) <;> (try simp only [dcB] at hc) <;> (try first|contradiction|(exfalso;omega)))
    cases hn : numL (spl 44 (rpl 46 44 s)) with
    | none =>
      simp only [Option.isSome_none,Option.getD_none]
      repeat' first|(apply n3;exact a_litE eI [_] rfl rfl rfl rfl rfl rfl rfl rfl;exact rfl;refine dA ?_)|(apply p3;(exact pu1);exact rfl)|refine cd ?_
      repeat refine cr ?_
      refine ends_id ?_
      refine endK [?_] (h2 := ?_) (h3 := ?_) (nd := ?_)
      rotate_left 1
      all_goals (repeat' first|exact ce0|refine ce ?_|refine ce2 ?_ ?_|(refine Or.inr (bx_eq rfl rfl ?_);(try dsimp only [C.ren,C.ren.all]);(try exact rfl))|exact SVLe.refl|refine ceb ?_)
      all_goals first | exact (show nodupB _ = true from rfl) | exact Or.inr rfl | (rfl)
    | some w =>
      simp only [Option.isSome_some,Option.getD_some]
      repeat' first|(apply p3;(exact pu1);exact rfl)|refine cd ?_
      repeat refine cr ?_
      refine ends_id ?_
      refine endK [?_] (h2 := ?_) (h3 := ?_) (nd := ?_)
      rotate_left 1
      all_goals (repeat' first|exact ce0|refine ce ?_|refine ce2 ?_ ?_|(refine Or.inr (bx_eq rfl rfl ?_);(try dsimp only [C.ren,C.ren.all]);(try exact rfl))|exact SVLe.refl|refine ceb ?_)
      all_goals first | exact (show nodupB _ = true from rfl) | exact Or.inr rfl | (rfl)
@[irreducible] def rdP (s : Bs) : Option (List Int) := if s = [] ∨ 0 ≤ Lib.indexByte s 44 ∨ ptP (dotS s) ≠ s then none else some (dotS s)
theorem dotS_len (s : Bs) (hs : (s.length : Int) ≤ 1048576) : ((dotS s).length : Int) ≤ 16777216 := by
  unfold dotS
  split
  · simp
  · cases hn : numL (spl 44 (rpl 46 44 s)) with
    | none => simp
    | some w =>
      have h1 := numL_len hn
      have h2 := spl_len 44 (rpl 46 44 s)
      rw [rpl_len] at h2
      simp only [Option.getD_some]
      omega
theorem ReadPath_ok (s : Bs) (hs : (s.length : Int) ≤ 1048576) : Does Tryz.prog 12 [.one (str s)] [] (.tup [(false,[.gv 0]),(false,[boo (rdP s).isSome])]) [roI ((rdP s).getD [])] := by
  have hd := dotS_len s hs
  by_cases hA : s = []
  · have e : rdP s = none := by unfold rdP; rw [if_pos (.inl hA)]
    rw [e]
    refine does_of (k := 0) Tryz.func12 rfl Tryz.ntmps12 rfl rfl fun w F0 S0 ρ0 => ?_
    dsimp only [argT,argH]
    repeat' first|(apply n3;exact a_nilO eI rfl;exact rfl)|(apply p3;(first|exact pu1|exact a_eqT rfl rfl);exact rfl)|refine cd ?_|(apply c4 1;exact callK1 (θ := []) (hD := (readDotted_ok _ preB125));exact rfl;exact rfl;exact rfl;refine dM ?_)|refine o_no rfl rfl rfl rfl ?_|((refine o_gs rfl rfl (fun hc => ?_) (fun hc => ?_)) <;> (try simp only [dcB] at hc) <;> (try first|contradiction|(exfalso;omega)))
    repeat refine cr ?_
    refine ends_id ?_
    refine endK [?_] (h2 := ?_) (h3 := ?_) (nd := ?_)
    rotate_left 1
    all_goals (repeat' first|exact ce0|refine ce ?_|refine ce2 ?_ ?_|(refine Or.inr (bx_eq rfl rfl ?_);(try dsimp only [C.ren,C.ren.all]);(try exact rfl))|exact SVLe.refl|refine ceb ?_)
    all_goals first | exact (show nodupB _ = true from rfl) | exact Or.inr rfl | (rfl)
  by_cases hB : 0 ≤ Lib.indexByte s 44
  · have e : rdP s = none := by unfold rdP; rw [if_pos (.inr (.inl hB))]
    rw [e]
    refine does_of (k := 0) Tryz.func12 rfl Tryz.ntmps12 rfl rfl fun w F0 S0 ρ0 => ?_
    dsimp only [argT,argH]
    repeat' first|(apply n3;exact a_nilO eI rfl;exact rfl)|(apply p3;(first|exact pu1|exact a_eqT rfl rfl);exact rfl)|refine cd ?_|(apply c4 1;exact callK1 (θ := []) (hD := (readDotted_ok _ preB125));exact rfl;exact rfl;exact rfl;refine dM ?_)|refine o_no rfl rfl rfl rfl ?_|(apply py3;exact rfl;exact rfl;(exact pu1);exact rfl;exact rfl)|(apply cy4 0;exact rfl;exact rfl;exact callK1 (θ := []) (hD := (ContainsB_ok _ _));exact rfl;exact rfl;exact rfl;exact rfl;refine dM ?_)|((refine o_gs rfl rfl (fun hc => ?_) (fun hc => ?_)) <;> (try simp only [dcB] at hc) <;> (try first|contradiction|(exfalso;omega)))
    repeat refine cr ?_
    refine ends_id ?_
    refine endK [?_] (h2 := ?_) (h3 := ?_) (nd := ?_)
    rotate_left 1
    all_goals (repeat' first|exact ce0|refine ce ?_|refine ce2 ?_ ?_|(refine Or.inr (bx_eq rfl rfl ?_);(try dsimp only [C.ren,C.ren.all]);(try exact rfl))|exact SVLe.refl|refine ceb ?_)
    all_goals first | exact (show nodupB _ = true from rfl) | exact Or.inr rfl | (rfl)
  by_cases hC : ptP (dotS s) = s
  · have e : rdP s = some (dotS s) := by unfold rdP; rw [if_neg]; rintro (q | q | q); exact hA q; exact hB q; exact q hC
    rw [e]
    refine does_of (k := 0) Tryz.func12 rfl Tryz.ntmps12 rfl rfl fun w F0 S0 ρ0 => ?_
    dsimp only [argT,argH]
    repeat' first|(apply n3;exact a_nilO eI rfl;exact rfl)|(apply p3;(first|exact pu1|exact a_eqT rfl rfl);exact rfl)|refine cd ?_|(apply c4 1;exact callK1 (θ := []) (hD := (readDotted_ok _ preB125));exact rfl;exact rfl;exact rfl;refine dM ?_)|(apply py3;exact rfl;exact rfl;(first|exact pu1|exact a_neT rfl rfl);exact rfl;exact rfl)|(apply cy4 0;exact rfl;exact rfl;exact callK1 (θ := []) (hD := (ContainsB_ok _ _));exact rfl;exact rfl;exact rfl;exact rfl;refine dM ?_)|(apply cy4 0;exact rfl;exact rfl;exact callK1 (θ := []) (hD := (PathText_ok _ preB125));exact rfl;exact rfl;exact rfl;exact rfl;refine dM ?_)|((first|refine o_gs rfl rfl (fun hc => ?_) (fun hc => ?_)|refine g_cond rfl (fun hc => ?_) (fun hc => ?_)) <;> (try simp only [dcB] at hc) <;> (try first|contradiction|(exfalso;omega)))
    repeat refine cr ?_
    refine ends_id ?_
    refine endK [?_] (h2 := ?_) (h3 := ?_) (nd := ?_)
    rotate_left 1
    all_goals (repeat' first|exact ce0|refine ce ?_|refine ce2 ?_ ?_|(refine Or.inr (bx_eq rfl rfl ?_);(try dsimp only [C.ren,C.ren.all]);(try exact rfl))|exact SVLe.refl|refine ceb ?_)
    all_goals first | exact (show nodupB _ = true from rfl) | exact Or.inr rfl | (rfl)
  · have e : rdP s = none := by unfold rdP; rw [if_pos (.inr (.inr hC))]
    rw [e]
    refine does_of (k := 0) Tryz.func12 rfl Tryz.ntmps12 rfl rfl fun w F0 S0 ρ0 => ?_
    dsimp only [argT,argH]
    repeat' first|(apply n3;exact a_nilO eI rfl;exact rfl)|(apply p3;(first|exact pu1|exact a_eqT rfl rfl);exact rfl)|refine cd ?_|(apply c4 1;exact callK1 (θ := []) (hD := (readDotted_ok _ preB125));exact rfl;exact rfl;exact rfl;refine dM ?_)|(apply py3;exact rfl;exact rfl;(first|exact pu1|exact a_neT rfl rfl);exact rfl;exact rfl)|(apply cy4 0;exact rfl;exact rfl;exact callK1 (θ := []) (hD := (ContainsB_ok _ _));exact rfl;exact rfl;exact rfl;exact rfl;refine dM ?_)|(apply cy4 0;exact rfl;exact rfl;exact callK1 (θ := []) (hD := (PathText_ok _ preB125));exact rfl;exact rfl;exact rfl;exact rfl;refine dM ?_)|((first|refine o_gs rfl rfl (fun hc => ?_) (fun hc => ?_)|refine g_cond rfl (fun hc => ?_) (fun hc => ?_)) <;> (try simp only [dcB] at hc) <;> (try first|contradiction|(exfalso;omega)))
    repeat refine cr ?_
    refine ends_id ?_
    refine endK [?_] (h2 := ?_) (h3 := ?_) (nd := ?_)
    rotate_left 1
    all_goals (repeat' first|exact ce0|refine ce ?_|refine ce2 ?_ ?_|(refine Or.inr (bx_eq rfl rfl ?_);(try dsimp only [C.ren,C.ren.all]);(try exact rfl))|exact SVLe.refl|refine ceb ?_)
    all_goals first | exact (show nodupB _ = true from rfl) | exact Or.inr rfl | (rfl)
theorem numL_map : ∀ {p : List Int},(∀ x ∈ p,0 ≤ x ∧ x ≤ 1000000000000) → numL (p.map decT) = some p
  | [],_ => rfl
  | n :: p,h => by
    have hn := h n (by simp)
    rw [List.map_cons,numL,numS_some.2 ⟨rfl,by omega,by omega⟩,Option.bind_some,numL_map (fun x hx => h x (by simp [hx]))]
    rfl
theorem join_mem {x : UInt8} : ∀ {l : List Bs},x ∈ joinT l [46] → x = 46 ∨ ∃ p ∈ l,x ∈ p
  | [],h => by unfold joinT at h; simp [Lib.join] at h
  | [a],h => by rw [join_one] at h; exact .inr ⟨a,by simp,h⟩
  | a :: b :: l,h => by
    rw [join_cons2,List.mem_append,List.mem_append] at h
    rcases h with h | h | h
    · exact .inr ⟨a,by simp,h⟩
    · exact .inl (by simpa using h)
    · rcases join_mem h with h | ⟨p,hp,h⟩
      · exact .inl h
      · exact .inr ⟨p,by simp only [List.mem_cons] at hp ⊢; exact .inr hp,h⟩
theorem rdP_dot {p : List Int} (g : PaOk p) : rdP (dotT p) = some p := by
  have hb := g.b
  by_cases h0 : p = []
  · subst h0
    have e : dotT [] = [45] := by unfold dotT; rfl
    have e2 : dotS [45] = [] := by unfold dotS; rfl
    have e3 : ptP [] = [45] := by rw [ptP_ok g,e]
    unfold rdP
    rw [e,e2,e3,if_neg (by decide)]
  · have hl : ¬ ((p.length : Int) = 0) := fun q => h0 (List.length_eq_zero_iff.1 (by omega))
    have e : dotT p = joinT (p.map decT) [46] := by unfold dotT; rw [if_neg hl]
    have hdg : ∀ q ∈ p.map decT,∀ c ∈ q,isDg c := fun q hq c hc => by
      obtain ⟨x,hx,rfl⟩ := List.mem_map.1 hq
      exact decT_dg (hb x hx).1 c hc
    have hno : ∀ q ∈ p.map decT,(46 : UInt8) ∉ q ∧ (44 : UInt8) ∉ q := fun q hq => by
      refine ⟨fun hc => ?_,fun hc => ?_⟩ <;> (have := hdg q hq _ hc; revert this; unfold isDg; decide)
    have hs := spl_join (l := p.map decT) (by simp [h0]) hno
    rw [← e] at hs
    have h45 : dotT p ≠ [45] := fun q => by
      rw [q] at hs
      have : (p.map decT) = [[45]] := by rw [← hs]; decide
      have := hdg [45] (by rw [this]; simp) 45 (by simp)
      revert this; unfold isDg; decide
    have hnil : dotT p ≠ [] := fun q => by
      rw [q] at hs
      have h2 : (p.map decT) = [[]] := by rw [← hs]; decide
      cases p with
      | nil => exact h0 rfl
      | cons x r =>
        simp only [List.map_cons,List.cons.injEq] at h2
        have := (canon_dec (n := x) (by have := hb x (by simp); omega) (by have := hb x (by simp); omega)).ne
        rw [h2.1] at this
        simp at this
    have h44 : Lib.indexByte (dotT p) 44 = -1 := index_no fun hc => by
      rw [e] at hc
      rcases join_mem hc with q | ⟨q,hq,hc⟩
      · revert q; decide
      · exact (hno q hq).2 hc
    have e2 : dotS (dotT p) = p := by
      unfold dotS
      rw [if_neg h45,hs,numL_map hb]
      rfl
    unfold rdP
    rw [e2,ptP_ok g,h44,if_neg]
    rintro (q | q | q)
    · exact hnil q
    · omega
    · exact q rfl
theorem dot_le {p : List Int} (g : PaOk p) : ((dotT p).length : Int) ≤ 1000000 := by
  unfold dotT
  split
  · simp
  · exact g.j
theorem ReadPathT_ok (p : List Int) (g : PaOk p) : Does Tryz.prog 12 [.one (str (dotT p))] [] (.tup [(false,[.gv 0]),(false,[boo true])]) [roI p] := by
  have h := ReadPath_ok (dotT p) (by have := dot_le g; omega)
  rw [rdP_dot g] at h
  exact h
theorem PathTextT_ok (p : List Int) (g : PaOk p) : Does Tryz.prog 13 [.one (shI p)] [] (.one (str (dotT p))) [] := by
  have h := PathText_ok p (by have := g.n; omega)
  rw [ptP_ok g] at h
  exact h
end Go.Proofs.YtighjcjmacajoaaGreatDoor
end
section
set_option linter.unusedVariables false
set_option linter.unusedSimpArgs false
set_option maxRecDepth 100000
set_option maxHeartbeats 4000000
namespace Go.Proofs.YtighjcjmacajoaaGreatDoor
open Go Foot
@[irreducible] def marks (k : Int) (n : Nat) : List Int := (List.range n).map fun (i : Nat) => k + (i : Int)
theorem marks_len (k : Int) (n : Nat) : (marks k n).length = n := by unfold marks; simp
@[irreducible] def held (k : Int) (xs : List Int) : Int := if xs = marks k xs.length then k + xs.length else -1
end Go.Proofs.YtighjcjmacajoaaGreatDoor
end
section
set_option linter.unusedVariables false
set_option linter.unusedSimpArgs false
set_option maxRecDepth 100000
set_option maxHeartbeats 4000000
namespace Go.Proofs.YtighjcjmacajoaaGreatDoor
open Go Foot
@[irreducible] def marksR (k : Int) (n : Nat) : List Rule' := (List.range n).map fun (i : Nat) => ⟨k + 3 * (i : Int),k + 3 * (i : Int) + 1,k + 3 * (i : Int) + 2⟩
theorem marksR_len (k : Int) (n : Nat) : (marksR k n).length = n := by unfold marksR; simp
end Go.Proofs.YtighjcjmacajoaaGreatDoor
end
