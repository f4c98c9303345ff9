/- Parts of the proof (16 of 21). -/
import Derived.Lib.Join
import Derived.Test.YtnkeamihfiobdaaGreatDoorQ15
section
set_option linter.unusedVariables false
set_option linter.unusedSimpArgs false
set_option maxRecDepth 100000
set_option maxHeartbeats 4000000
namespace Go.Proofs.YtnkeamihfiobdaaGreatDoor
open Go Foot Go.Shelf Go.RowKit
theorem WriteRune_ok (l : Bs) (r : Int) (h0 : 0 ≤ r) (h1 : r ≤ 127) (h : (l.length : Int) + 1 ≤ 140737488355328) : Does Tryz.prog 183 [.one (.gv 0),.one (c32 r)] [bldr l] (.tup [(false,[int 1]),(false,[nlC])]) [bldr (l ++ byt [r])] :=
  does_bld (av := [.int .i32 r]) (rv := .tuple #[.int .i64 1,.nilIface]) (fun w S ρ vs => repA_1) (fun w S ρ => ⟨_,rfl,_,_,rfl,⟨_,_,rfl,⟨rfl,rfl⟩,rfl⟩,_,_,rfl,⟨_,_,rfl,⟨rfl,rfl⟩,rfl⟩,rfl⟩) fun w b p v hB => by
    have := bs_WriteRune hB h0 h1 (by rw [Lib.byteCells_length]; omega)
    rw [cells_byt l r h0 h1] at this
    exact this
theorem String_ok (l : Bs) : Does Tryz.prog 93 [.one (.gv 0)] [bldr l] (.one (str l)) [bldr l] :=
  does_bld (av := []) (rv := sv l) (fun w S ρ vs h => h) (fun w S ρ => ⟨rfl,rfl⟩) fun w b p v hB => bl_String Tryz.lays169 Tryz.Builder_Extra_169 hB
theorem FormatInt_ok (n : Int) (h0 : -9223372036854775808 ≤ n) (h1 : n ≤ 9223372036854775807) : Does Tryz.prog 161 [.one (int n),.one (int 10)] [] (.one (str (Lib.itoa n))) [] :=
  does_ext (av := [.int .i64 n,.int .i64 10]) (rv := sv (Lib.itoa n)) (fun w S ρ vs => repA_2) (fun w S ρ => ⟨rfl,rfl⟩) fun w S hT => by
    obtain ⟨⟨cs,T,fr,ht,hcs⟩,_⟩ := hT _ List.mem_cons_self
    dsimp only at hcs
    subst hcs
    refine (Any.strconv_FormatInt_10 Tryz.laysM173 n h0 h1 w ?_).mono ?_
    · dsimp only at ht
      exact Option.bind_eq_some_iff.2 ⟨_,by kernel_rfl,by rw [ht]; simp [Lib.pow10Tab]⟩
    · rintro en w' ⟨rfl,k,os,rfl⟩
      exact ⟨rfl,Lib.below_grow _ w (Nat.le_refl _) k os⟩
end Go.Proofs.YtnkeamihfiobdaaGreatDoor
end
section
set_option linter.unusedVariables false
set_option linter.unusedSimpArgs false
set_option maxRecDepth 100000
set_option maxHeartbeats 4000000
namespace Go.Proofs.YtnkeamihfiobdaaGreatDoor
open Go Foot
def drev (u : Nat) : List Int := if h : u = 0 then [] else (48 + (u % 10 : Nat) : Int) :: drev (u / 10)
termination_by u
decreasing_by omega
theorem drev_0 : drev 0 = [] := by rw [drev]; simp
theorem drev_s {u : Nat} (h : u ≠ 0) : drev u = (48 + (u % 10 : Nat) : Int) :: drev (u / 10) := by rw [drev]; simp [h]
theorem drev_le : ∀ (k u : Nat),u < 10 ^ k → (drev u).length ≤ k := by
  intro k
  induction k with
  | zero =>
    intro u h
    have : u = 0 := by simpa using h
    subst this
    simp [drev_0]
  | succ k ih =>
    intro u h
    by_cases h0 : u = 0
    · subst h0; simp [drev_0]
    · rw [drev_s h0,List.length_cons]
      have := ih (u / 10) (by rw [Nat.pow_succ] at h; omega)
      omega
theorem byt_app (a b : List Int) : byt (a ++ b) = byt a ++ byt b := by unfold byt; simp
theorem byt_len (a : List Int) : (byt a).length = a.length := by unfold byt; simp
theorem byt_1 (n : Int) : byt [n] = [UInt8.ofNat n.toNat] := by unfold byt; rfl
theorem byt_0 : byt [] = [] := by unfold byt; rfl
theorem drev_dec : ∀ (u : Nat),u ≠ 0 → byt (drev u).reverse = Lib.decDigits u := by
  intro u
  induction u using Nat.strongRecOn with
  | _ u ih =>
    intro h0
    rw [drev_s h0,List.reverse_cons,byt_app,byt_1,Lib.decDigits]
    by_cases h : u < 10
    · rw [dif_pos h,show u / 10 = 0 by omega,drev_0]
      simp only [List.reverse_nil,byt_0,List.nil_append]
      congr 2
      omega
    · rw [dif_neg h,ih (u / 10) (by omega) (by omega)]
      rfl
@[irreducible] def decT (n : Int) : Bs := Lib.itoa n
theorem decT_0 : decT 0 = [48] := by unfold decT Lib.itoa; simp [Lib.decDigits]
theorem decT_n {n : Int} (h : n ≠ 0) : decT n = byt ((drev n.natAbs ++ (if n < 0 then [45] else [])).reverse) := by
  unfold decT Lib.itoa
  split
  · rw [List.reverse_append,byt_app,drev_dec _ (by omega)]; simp [byt_1]
  · rw [List.append_nil,drev_dec _ (by omega),show n.natAbs = n.toNat by omega]
theorem decT_le {n : Int} (h0 : -9223372036854775808 ≤ n) (h1 : n ≤ 9223372036854775807) : (decT n).length ≤ 21 := by
  by_cases h : n = 0
  · subst h; rw [decT_0]; decide
  · rw [decT_n h,byt_len,List.length_reverse,List.length_append]
    have h2 := drev_le 20 n.natAbs (by omega)
    split <;> simp only [List.length_cons,List.length_nil] <;> omega
theorem preB49 {p : Prop} (h : p := by first | with_reducible assumption | omega | (simp only [List.length_append,List.length_cons,List.length_nil,List.length_set,List.length_replicate,List.length_take,List.length_drop,List.length_tail,List.length_dropLast,List.length_reverse] at *; omega) | exact mem_len (by assumption) (by omega) | (with_reducible refine Int.le_trans (Int.ofNat_le.2 (trimR_len _)) ?_; simp only [List.length_cons,List.length_tail]; omega) | (exact (ruAt_ok (by assumption) (by assumption) (by assumption)).2.1) | (exact (ruAt_ok (by assumption) (by assumption) (by assumption)).2.1) | (have := vMach_bd (by assumption); omega) | (simp only [mC_ch,mC_tu]; omega) | (have := vTag_bd (by assumption); omega) | (have := (‹Gd _ _›).le; omega) | (exact tgHalts_no (by assumption)) | (exact tgHead (by assumption) (by assumption) (by assumption)) | (exact Int.le_trans (tgStep_gd (by assumption) (by assumption) (by assumption) (by assumption)).le (by decide)) | (exact vTag_r (by assumption)) | (with_reducible refine Int.le_trans (Int.ofNat_le.2 (pushL_len _ _)) ?_; simp only [List.length_dropLast]; omega) | exact (ask_ok (by assumption)).1 | exact (ask_ok (by assumption)).2.1 | exact (ask_ok (by assumption)).2.2.1 | exact (ask_ok (by assumption)).2.2.2 | trivial) : p := h
@[irreducible] def digT (w : List Int) : Bs := byt (w.map fun x => 48 + x)
theorem digT_snoc (w : List Int) (i : Int) (h0 : 0 ≤ i) (h : i < w.length) : digT (w.take i.toNat) ++ byt [48 + w[i.toNat]'(by omega)] = digT (w.take (i + 1).toNat) := by
  unfold digT
  rw [show (i + 1).toNat = i.toNat + 1 by omega,List.take_succ_eq_append_getElem (by omega),List.map_append,byt_app]
  rfl
theorem digT_len (w : List Int) : (digT w).length = w.length := by unfold digT; rw [byt_len,List.length_map]
theorem digitsText_ok (u : List Int) (hx : (u.length : Int) ≤ 1048576) (hd : ∀ x ∈ u,0 ≤ x ∧ x ≤ 9) : Does Tryz.prog 106 [.one (shI u)] [] (.one (str (digT u))) [] := by
  have hg : ∀ (i : Nat) (h : i < u.length),0 ≤ u[i] ∧ u[i] ≤ 9 := fun i h => hd _ (List.getElem_mem h)
  refine does_of (k := 0) Tryz.func106 rfl Tryz.ntmps106 rfl rfl fun w F0 S0 ρ0 => ?_
  dsimp only [argT,argH]
  repeat' first|(apply n3;exact a_newB;exact rfl;refine dA ?_)|(apply p3;(first|exact pu1|exact puN);exact rfl)|refine cd ?_|fail
  refine g_loop_id ?_
  refine loopK [2,3,6,7] [0] (fun x : Int × Bs => 0 ≤ x.1 ∧ x.1 ≤ u.length ∧ x.2 = digT (u.take x.1.toNat)) (fun x => [(8,.one (int x.1))]) (fun x => [(0,bldr x.2)]) (fun x => (u.length - x.1).toNat) ((0 : Int),[]) [0] (hI := ?_) (hr := ?_)
  · exact ⟨by simp,by simp,by simp [digT,byt]⟩
  · rintro ⟨i,out⟩ ⟨j0,j1,j2⟩
    dsimp only [List.cons_append,List.nil_append] at *
    skip
    have jl : (out.length : Int) ≤ 1048576 := by rw [j2,digT_len,List.length_take]; omega
    repeat' first|(apply p3;(first|exact pu1|exact puC|exact puI);exact rfl)|refine cdn ?_|refine g_reg (id := 3) ?_|refine g_reg (id := 4) ?_|refine g_reg (id := 7) ?_|(apply c4 0;exact callK1 (θ := [_]) (hD := (String_ok _));exact rfl;exact rfl;exact rfl;refine dM ?_)|((refine g_cond rfl (fun hc => ?_) (fun hc => ?_)) <;> (try simp only [dcB] at hc) <;> (try first|contradiction|(exfalso;omega)))|fail
    · have := hg i.toNat (by omega)
      repeat' first|(apply p3;(first|exact pu1|exact a_to32 rfl Tryz.underlying2 Tryz.underlying21 (by omega) (by omega)|exact a_add32 rfl rfl (by omega) (by omega)|exact a_add rfl rfl (by omega) (by omega));exact rfl)|refine cd ?_|(apply c4 0;exact callK1 (θ := [_]) (hD := (WriteRune_ok _ _ preB49 preB49 preB49));exact rfl;exact rfl;exact rfl;refine dM ?_)|fail
      refine q_again (i + 1,_) [0] (by exact stk) ?_ ?_
      · dsimp only
        refine ⟨by omega,by omega,?_⟩
        rw [j2,← digT_snoc u i j0 hc]
      · dsimp only; omega
    · have e2 : out = digT u := by rw [j2,List.take_of_length_le (by omega)]
      rw [e2]
      skip
      repeat refine cr ?_
      refine ends_id ?_
      refine endK [] (h2 := ?_) (h3 := ?_) (nd := ?_)
      all_goals (repeat' first|exact ce0|refine ce ?_|refine ce2 ?_ ?_|exact SVLe.refl|refine ceb ?_)
      all_goals first | exact (show nodupB _ = true from rfl) | exact Or.inr rfl | (rfl)
theorem Decimal_ok (n : Int) (h0 : -9223372036854775808 ≤ n) (h1 : n ≤ 9223372036854775807) : Does Tryz.prog 90 [.one (int n)] [] (.one (str (decT n))) [] := by
  have e : decT n = Lib.itoa n := by unfold decT; rfl
  rw [e]
  refine does_of (k := 0) Tryz.func90 rfl Tryz.ntmps90 rfl rfl fun w F0 S0 ρ0 => ?_
  dsimp only [argT,argH]
  repeat' first|(apply p3;exact pu1;exact rfl)|refine cd ?_|(apply c4 0;exact callK1 (θ := []) (hD := (FormatInt_ok _ preB49 preB49));exact rfl;exact rfl;exact rfl;refine dM ?_)|fail
  repeat refine cr ?_
  refine ends_id ?_
  refine endK [] (h2 := ?_) (h3 := ?_) (nd := ?_)
  all_goals (repeat' first|exact ce0|refine ce ?_|refine ce2 ?_ ?_|exact SVLe.refl|refine ceb ?_)
  all_goals first | exact (show nodupB _ = true from rfl) | exact Or.inr rfl | (rfl)
end Go.Proofs.YtnkeamihfiobdaaGreatDoor
end
section
set_option linter.unusedVariables false
set_option linter.unusedSimpArgs false
set_option maxRecDepth 100000
set_option maxHeartbeats 4000000
namespace Go.Proofs.YtnkeamihfiobdaaGreatDoor
open Go Foot
end Go.Proofs.YtnkeamihfiobdaaGreatDoor
end
section
set_option linter.unusedVariables false
set_option linter.unusedSimpArgs false
set_option maxRecDepth 100000
set_option maxHeartbeats 4000000
namespace Go.Proofs.YtnkeamihfiobdaaGreatDoor
open Go Foot
structure Rule' where
  w : Int
  m : Int
  n : Int
  deriving DecidableEq
abbrev eR : Enc Rule' := ⟨3,fun r => [.sc (.int .i64 r.w),.sc (.int .i64 r.m),.sc (.int .i64 r.n)],fun _ => rfl,by decide⟩
abbrev shR (l : List Rule') : C := .d (.sl false 3 (rows eR l))
abbrev ruC (r : Rule') : List C := [int r.w,int r.m,int r.n]
structure Mach where
  sy : Int
  st : Int
  ru : List Rule'
abbrev maC (m : Mach) : List C := [int m.sy,int m.st,shR m.ru]
structure Conf where
  st : Int
  le : List Int
  ri : List Int
abbrev coC (c : Conf) : List C := [int c.st,shI c.le,shI c.ri]
end Go.Proofs.YtnkeamihfiobdaaGreatDoor
end
section
set_option linter.unusedVariables false
set_option linter.unusedSimpArgs false
set_option maxRecDepth 100000
set_option maxHeartbeats 4000000
namespace Go.Proofs.YtnkeamihfiobdaaGreatDoor
open Go Foot
theorem rule_eq1 : Tryz.prog.stoodInHeld 79 = false := by kernel_rfl
theorem rule_eq2 : Tryz.prog.eqGuardType Tryz.prog.depth 79 = false := by kernel_rfl
theorem rule_eq3 : Tryz.prog.underlying 79 = some (.struct (Tryz.prog.fieldsOf 79)) := by kernel_rfl
theorem rule_equal (r s : Rule') (W : World) : (Op.equalIn 10000 79 (.agg #[.int .i64 r.w,.int .i64 r.m,.int .i64 r.n]) (.agg #[.int .i64 s.w,.int .i64 s.m,.int .i64 s.n])).run Tryz.prog W = .ok (decide (r = s)) W := by
  obtain ⟨a,b,c⟩ := r
  obtain ⟨a',b',c'⟩ := s
  rw [run_equalIn_struct W 9999 _ _ _ rule_eq3 rule_eq1]
  have hf : Tryz.prog.fieldsOf 79 = match Tryz.prog.underlying 79 with | some (.struct fs) => fs | _ => #[] := by kernel_rfl
  rw [hf,Tryz.underlying79]
  by_cases h1 : a = a' <;> by_cases h2 : b = b' <;> by_cases h3 : c = c' <;> simp [go_sem,Tryz.underlying2,h1,h2,h3]
theorem rule_guard (op : BinOp) (p q : Operand) (xs ys : Array Value) (W : World) : (eqGuard op 79 p q (.agg xs) (.agg ys)).run Tryz.prog W = .ok () W := by
  unfold eqGuard
  cases op <;> simp [program,Sem.run,rule_eq2]
section
variable {g : Gh} {st : St} {dst : Option Tmp} {ty : TypeId} {pos : String} {after : Array Edge} {guard : Option (Nat × Bool)} {x y : Operand} {U : TypeId} {r s : Rule'}
theorem agg3 {w : World} {S : Foot} {ρ : Env} {r : Rule'} {v : Value} (h : RepS w S ρ (.agg (ruC r)) v) : v = .agg #[.int .i64 r.w,.int .i64 r.m,.int .i64 r.n] := by
  obtain ⟨vs,rfl,h⟩ := h
  simp only [RepCs,RepC,Rep] at h
  obtain ⟨v1,u1,e1,⟨rfl,_⟩,v2,u2,rfl,⟨rfl,_⟩,v3,u3,rfl,⟨rfl,_⟩,rfl⟩ := h
  cases vs
  simp at e1
  rw [e1]
theorem a_eqRule (e1 : opd st x = .agg (ruC r)) (e2 : opd st y = .agg (ruC s)) : Acts Tryz.prog g ⟨dst,.binOp .eql 79 x y U,ty,pos,after,guard⟩ st (.one (boo (decide (r = s)))) [] [] := by
  refine acts_of fun a w S ρ F h => ⟨.bool (decide (r = s)),?_,rfl,rfl⟩
  have h1 := h.opd x
  have h2 := h.opd y
  rw [e1] at h1
  rw [e2] at h2
  show (do pure (.value (← (do eqGuard .eql 79 x y (a.eval x) (a.eval y); binOp .eql 79 (a.eval x) (a.eval y)))) : Sem Next).run _ w = _
  rw [agg3 h1,agg3 h2]
  simp [rule_guard,run_eql_struct,rule_equal]
theorem a_neRule (e1 : opd st x = .agg (ruC r)) (e2 : opd st y = .agg (ruC s)) : Acts Tryz.prog g ⟨dst,.binOp .neq 79 x y U,ty,pos,after,guard⟩ st (.one (boo (!decide (r = s)))) [] [] := by
  refine acts_of fun a w S ρ F h => ⟨.bool (!decide (r = s)),?_,rfl,rfl⟩
  have h1 := h.opd x
  have h2 := h.opd y
  rw [e1] at h1
  rw [e2] at h2
  show (do pure (.value (← (do eqGuard .neq 79 x y (a.eval x) (a.eval y); binOp .neq 79 (a.eval x) (a.eval y)))) : Sem Next).run _ w = _
  rw [agg3 h1,agg3 h2]
  simp [rule_guard,run_neq_struct,rule_equal]
end
@[irreducible] def trimR (l : List Int) : List Int := (l.reverse.dropWhile (· == 0)).reverse
theorem trimR_len (l : List Int) : (trimR l).length ≤ l.length := by
  unfold trimR
  rw [List.length_reverse]
  have := (List.dropWhile_sublist (· == (0 : Int)) (l := l.reverse)).length_le
  rwa [List.length_reverse] at this
theorem l05None_ok : Does Tryz.prog 98 [] [] (.agg [int 0,int 0,int (-1)]) [] := by
  refine does_of (k := 0) Tryz.func98 rfl Tryz.ntmps98 rfl rfl fun w F0 S0 ρ0 => ?_
  dsimp only [argT,argH]
  repeat' first|(apply n3;exact a_new (gb := .bx _) rfl;exact rfl;refine dA ?_)|(apply p3;exact a_pure (sv := .agg _) rfl;exact rfl)|refine cd ?_|(apply w3;(exact a_st_bx rfl rfl rfl rfl (fN rfl rfl) (Nat.le_of_ble_eq_true rfl) rfl);exact rfl;refine dS ?_)|fail
  repeat refine cr ?_
  refine ends_id ?_
  refine endK [] (h2 := ?_) (h3 := ?_) (nd := ?_)
  all_goals (repeat' first|exact ce0|refine ce ?_|refine ce2 ?_ ?_|exact SVLe.refl|refine ceb ?_)
  all_goals first | exact (show nodupB _ = true from rfl) | exact Or.inr rfl | (rfl)
@[irreducible] def okRule (sy st : Int) (r : Rule') : Bool := decide (r = ⟨0,0,-1⟩ ∨ (0 ≤ r.w ∧ r.w ≤ sy - 1) ∧ (r.m = 1 ∨ r.m = -1) ∧ 0 ≤ r.n ∧ r.n ≤ st - 1)
theorem l05Rule_ok (r : Rule') (sy st : Int) (h1 : -1000 ≤ sy) (h2 : sy ≤ 1000) (h3 : -1000 ≤ st) (h4 : st ≤ 1000) : Does Tryz.prog 176 [.agg (ruC r),.one (int sy),.one (int st)] [] (.one (boo (okRule sy st r))) [] := by
  refine does_of (k := 0) Tryz.func176 rfl Tryz.ntmps176 rfl rfl fun w F0 S0 ρ0 => ?_
  dsimp only [argT,argH]
  repeat' first|(apply n3;exact a_new (gb := .bx _) rfl;exact rfl;refine dA ?_)|(apply p3;(first|exact pu1|exact a_sub rfl rfl (by omega) (by omega));exact rfl)|refine cd ?_|(apply c4 0;exact callK1 (θ := []) (hD := (l00In_ok _ _ _));exact rfl;exact rfl;exact rfl;refine dM ?_)|refine o_no rfl rfl rfl rfl ?_|(apply py3;exact rfl;exact rfl;(first|exact pu1|exact a_sub rfl rfl (by omega) (by omega)|exact puC);exact rfl;exact rfl)|(apply cy4 0;exact rfl;exact rfl;exact callK1 (θ := []) (hD := (l00In_ok _ _ _));exact rfl;exact rfl;exact rfl;exact rfl;refine dM ?_)|(apply g_drN (id := 1) okM [[],[],[0,1]] [([],[]),([],[]),([],[])] 0;(focus (refine dp 0 0 [8] [] puL ?_;refine dp 1 0 [7] [] (callD1 (n := _) 0 (θ := []) (hD := l05None_ok)) ?_;refine dp 2 3 [] [] (by exact a_eqRule (s := ⟨_,_,_⟩) rfl rfl) ?_;(refine d_nil ?_;refine dN ?_)));any_goals kernel_rfl)|((first|refine o_gs rfl rfl (fun hc => ?_) (fun hc => ?_)|refine g_cond rfl (fun hc => ?_) (fun hc => ?_)) <;> (try simp only [dcB] at hc) <;> (try first|contradiction|(exfalso;omega)))|fail
  all_goals
    repeat refine cr ?_
    refine ends_id ?_
    refine endK [] (h2 := ?_) (h3 := ?_) (nd := ?_)
    all_goals (repeat' first|exact ce0|refine ce ?_|refine ce2 ?_ ?_|exact SVLe.refl|refine ceb ?_)
    all_goals first | exact (show nodupB _ = true from rfl) | exact Or.inr rfl | ((unfold okRule; simp_all <;> omega))
@[irreducible] def stepS (r : Rule') (c : Conf) : Conf := if 0 < r.m then ⟨r.n,trimR (r.w :: c.le),c.ri.tail⟩ else ⟨r.n,c.le.tail,trimR (c.le.headD 0 :: trimR (r.w :: c.ri.tail))⟩
@[irreducible] def roomS (c : Conf) : Bool := decide (c.le.length ≤ 200 ∧ c.ri.length ≤ 200)
end Go.Proofs.YtnkeamihfiobdaaGreatDoor
end
section
set_option linter.unusedVariables false
set_option linter.unusedSimpArgs false
set_option maxRecDepth 100000
set_option maxHeartbeats 4000000
namespace Go.Proofs.YtnkeamihfiobdaaGreatDoor
open Go Foot
abbrev maB (m : Mach) : C := .d (.bx false [.sc (.int .i64 m.sy),.sc (.int .i64 m.st),.sl false 3 (rows eR m.ru)])
@[irreducible] def vMach (m : Mach) : Bool := decide ((2 ≤ m.sy ∧ m.sy ≤ 6) ∧ (1 ≤ m.st ∧ m.st ≤ 1000) ∧ (m.ru.length : Int) = m.sy * m.st) && m.ru.all (okRule m.sy m.st)
theorem vMach_bd {m : Mach} (h : vMach m = true) : (2 ≤ m.sy ∧ m.sy ≤ 6) ∧ (1 ≤ m.st ∧ m.st ≤ 1000) ∧ (m.ru.length : Int) = m.sy * m.st := by
  unfold vMach at h
  simp only [Bool.and_eq_true,decide_eq_true_eq] at h
  exact h.1
theorem preB2 {p : Prop} (h : p := by first | with_reducible assumption | omega | (simp only [List.length_append,List.length_cons,List.length_nil,List.length_set,List.length_replicate,List.length_take,List.length_drop,List.length_tail,List.length_dropLast,List.length_reverse] at *; omega) | exact mem_len (by assumption) (by omega) | (with_reducible refine Int.le_trans (Int.ofNat_le.2 (trimR_len _)) ?_; simp only [List.length_cons,List.length_tail]; omega) | (have := vMach_bd (by assumption); omega) | trivial) : p := h
theorem l05Is_ok (m : Mach) (hm : (m.ru.length : Int) ≤ 16777216) : Does Tryz.prog 102 [.one (maB m)] [] (.one (boo (vMach m))) [] := by
  refine does_of (k := 0) Tryz.func102 rfl Tryz.ntmps102 rfl rfl fun w F0 S0 ρ0 => ?_
  dsimp only [argT,argH]
  repeat' first|(apply p3;(exact pu1);exact rfl)|refine cd ?_|(apply g_drN (id := 1) okM ([] :: [0] :: [0,1] :: [0,1,2] :: [0,1,2,3] :: [0,1,2,3,4] :: [0,1,2,3,4,5] :: [0,1,2,3,4,5,6] :: [0,1,2,3,4,5,6,7] :: [0,1,2,3,4,5,6,7,8] :: [0,1,2,3,4,5,6,7,8,9] :: [0,1,2,3,4,5,6,7,8,9,10] :: [0,1,2,3,4,5,6,7,8,9,10,11] :: [0,1,2,3,4,5,6,7,8,9,10,11,12] :: [0,1,2,3,4,5,6,7,8,9,10,11,12,13] :: [0,1,2,3,4,5,6,7,8,9,10,11,12,13,14] :: [0,1,2,3,4,5,6,7,8,9,10,11,12,13,14,15] :: [0,1,2,3,4,5,6,7,8,9,10,11,12,13,14,15,16] :: [0,1,2,3,4,5,6,7,8,9,10,11,12,13,14,15,16,17] :: [0,1,2,3,4,5,6,7,8,9,10,11,12,13,14,15,16,17,18] :: [0,1,2,3,4,5,6,7,8,9,10,11,12,13,14] :: [0,1,2,3,4,5,6,7,8,9,10,11,12,13,14,20] :: [0,1,2,3,4,5,6,7,8,9,10,11,12,13,14,20,21] :: [0,1,2,3,4,5,6,7,8,9,10,11,12,13,14,20,21,22] :: [0,1,2,3,4,5,6,7,8,9,10,11,12,13,14] :: [0,1,2,3,4,5,6,7,8,9,10,11,12,13,14,24] :: [0,1,2,3,4,5,6,7,8,9,10,11,12,13,14,24,25] :: [0,1,2,3,4,5,6,7,8,9,10,11,12,13,14,24,25,26] :: [0,1,2,3,4,5,6,7,8,9,10,11,12,13,14,20,21,22,23,24,25,26,27] :: [0,1,2,3,4,5,6,7,8,9,10,11,12,13,14,15,16,17,18,19,20,21,22,23,24,25,26,27,28] :: [0,1,2,3,4,5,6,7,8,9,10,11,12,13,14,15,16,17,18,19,20,21,22,23,24,25,26,27,28,29] :: []) (([],[]) :: ([],[]) :: ([],[]) :: ([],[]) :: ([],[]) :: ([],[]) :: ([],[]) :: ([],[]) :: ([],[]) :: ([],[]) :: ([],[]) :: ([],[]) :: ([],[]) :: ([],[]) :: ([],[]) :: ([],[]) :: ([],[]) :: ([],[]) :: ([],[]) :: ([],[]) :: ([],[]) :: ([],[]) :: ([],[]) :: ([],[]) :: ([],[]) :: ([],[]) :: ([],[]) :: ([],[]) :: ([],[]) :: ([],[]) :: ([],[]) :: []) 0;(focus (all_goals refine dp 0 0 [] [] pu1 ?_;all_goals refine dp 1 1 [] [] (a_pure (sv := .one _) rfl) ?_;all_goals refine dp 2 3 [] [] (a_pure (sv := .one _) rfl) ?_;all_goals refine dp 3 7 [] [] puL ?_;all_goals refine dp 4 15 [] [] (callD1 (n := _) 0 (θ := []) (hD := (l00In_ok _ _ _))) ?_;all_goals refine dp 5 31 [] [] (a_pure (sv := .one _) rfl) ?_;all_goals (refine db 6 63 [] [] pu1 ?_ ?_ <;> (intro hc;first|cases hc|(try simp only [dcB] at hc);first|contradiction|(exfalso;omega)|skip));all_goals (first|refine dn 7 127 [] [] ?_|refine dpy 7 127 [] [] pu1 ?_);all_goals (first|refine dn 8 255 [] [] ?_|refine dpy 8 255 [] [] (a_pure (sv := .one _) rfl) ?_);all_goals (first|refine dn 9 511 [] [] ?_|refine dpy 9 511 [] [] (a_pure (sv := .one _) rfl) ?_);all_goals (first|refine dn 10 1023 [] [] ?_|refine dpy 10 1023 [] [] puL ?_);all_goals (first|refine dn 11 2047 [] [] ?_|refine dpy 11 2047 [] [] (callD1 (n := _) 0 (θ := []) (hD := (l00In_ok _ _ _))) ?_);all_goals (first|refine dn 12 4095 [] [] ?_|refine dpy 12 4095 [] [] (a_pure (sv := .one _) rfl) ?_);all_goals refine dp 13 8191 [] [] (a_pure (sv := .one _) rfl) ?_;all_goals (refine db 14 16383 [] [] pu1 ?_ ?_ <;> (intro hc;first|cases hc|(try simp only [dcB] at hc);first|contradiction|(exfalso;omega)|skip));all_goals (first|refine dn 15 32767 [24,25,26,27,28,29,30,31,32] [] ?_|refine dpy 15 32767 [24,25,26,27,28,29,30,31,32] [] pu1 ?_);all_goals (first|refine dn 16 65535 [24,25,26,27,28,29,30,31,32] [] ?_|refine dpy 16 65535 [24,25,26,27,28,29,30,31,32] [] (a_pure (sv := .one _) rfl) ?_);all_goals (first|refine dn 17 131071 [24,25,26,27,28,29,30,31,32] [] ?_|refine dpy 17 131071 [24,25,26,27,28,29,30,31,32] [] (a_pure (sv := .one _) rfl) ?_);all_goals (first|refine dn 18 262143 [24,25,26,27,28,29,30,31,32] [] ?_|refine dpy 18 262143 [24,25,26,27,28,29,30,31,32] [] puL ?_);all_goals (first|refine dn 19 524287 [24,25,26,27,28,29,30,31,32] [] ?_|refine dpy 19 524287 [24,25,26,27,28,29,30,31,32] [] (by first|exact puN|exact a_pure (sv := .one _) rfl|exact a_len_str rfl (fT rfl)) ?_);all_goals (first|refine dn 20 1048544 [19,20,21,22,23,28,29,30,31] [] ?_|refine dpy 20 1048544 [19,20,21,22,23,28,29,30,31] [] pu1 ?_);all_goals (first|refine dn 21 2097089 [19,20,21,22,23,28,29,30,31] [] ?_|refine dpy 21 2097089 [19,20,21,22,23,28,29,30,31] [] (a_pure (sv := .one _) rfl) ?_);all_goals (first|refine dn 22 4194179 [19,20,21,22,23,28,29,30,31] [] ?_|refine dpy 22 4194179 [19,20,21,22,23,28,29,30,31] [] (a_pure (sv := .one _) rfl) ?_);all_goals (first|refine dn 23 8388359 [19,20,21,22,23,28,29,30,31] [] ?_|refine dpy 23 8388359 [19,20,21,22,23,28,29,30,31] [] puL ?_);all_goals (first|refine dn 24 16776704 [19,20,21,22,23,24,25,26,27] [] ?_|refine dpy 24 16776704 [19,20,21,22,23,24,25,26,27] [] pu1 ?_);all_goals (first|refine dn 25 33553409 [19,20,21,22,23,24,25,26,27] [] ?_|refine dpy 25 33553409 [19,20,21,22,23,24,25,26,27] [] (a_pure (sv := .one _) rfl) ?_);all_goals (first|refine dn 26 67106819 [19,20,21,22,23,24,25,26,27] [] ?_|refine dpy 26 67106819 [19,20,21,22,23,24,25,26,27] [] (a_pure (sv := .one _) rfl) ?_);all_goals (first|refine dn 27 134213639 [19,20,21,22,23,24,25,26,27] [] ?_|refine dpy 27 134213639 [19,20,21,22,23,24,25,26,27] [] puL ?_);all_goals (first|refine dn 28 268427519 [19,20,21,22,23] [] ?_|refine dpy 28 268427519 [19,20,21,22,23] [] (by first|exact a_mulB rfl rfl (by omega) (by omega) (by omega) (by omega)|exact a_mul rfl rfl (by first|omega|assumption) (by first|omega|assumption)) ?_);all_goals (first|refine dn 29 536870911 [] [] ?_|refine dpy 29 536870911 [] [] (by first|exact a_ne rfl rfl|exact a_neS rfl rfl rfl) ?_);all_goals refine dp 30 1073741823 [] [] (a_pure (sv := .one _) rfl) ?_;all_goals (refine d_nil ?_;refine dN ?_)));any_goals kernel_rfl)|((refine g_cond rfl (fun hc => ?_) (fun hc => ?_)) <;> (try simp only [dcB] at hc) <;> (try first|contradiction|(exfalso;omega)))|fail
  · repeat refine cr ?_
    refine ends_id ?_
    refine endK [] (h2 := ?_) (h3 := ?_) (nd := ?_)
    all_goals (repeat' first|exact ce0|refine ce ?_|refine ce2 ?_ ?_|exact SVLe.refl|refine ceb ?_)
    all_goals first | exact (show nodupB _ = true from rfl) | exact Or.inr rfl | ((unfold vMach; first | (simp [*]; done) | (rw [decide_eq_false] <;> first | rfl | omega | (simp; done)) | (rw [decide_eq_true] <;> first | rfl | omega | (simp [*]; done)) | (simp_all; done) | (simp_all; omega)))
  · repeat refine cr ?_
    refine ends_id ?_
    refine endK [] (h2 := ?_) (h3 := ?_) (nd := ?_)
    all_goals (repeat' first|exact ce0|refine ce ?_|refine ce2 ?_ ?_|exact SVLe.refl|refine ceb ?_)
    all_goals first | exact (show nodupB _ = true from rfl) | exact Or.inr rfl | ((unfold vMach; first | (simp [*]; done) | (rw [decide_eq_false] <;> first | rfl | omega | (simp; done)) | (rw [decide_eq_true] <;> first | rfl | omega | (simp [*]; done)) | (simp_all; done) | (simp_all; omega)))
  · repeat refine cr ?_
    refine ends_id ?_
    refine endK [] (h2 := ?_) (h3 := ?_) (nd := ?_)
    all_goals (repeat' first|exact ce0|refine ce ?_|refine ce2 ?_ ?_|exact SVLe.refl|refine ceb ?_)
    all_goals first | exact (show nodupB _ = true from rfl) | exact Or.inr rfl | ((unfold vMach; first | (simp [*]; done) | (rw [decide_eq_false] <;> first | rfl | omega | (simp; done)) | (rw [decide_eq_true] <;> first | rfl | omega | (simp [*]; done)) | (simp_all; done) | (simp_all; omega)))
  refine g_loop_id ?_
  refine loopK [0] [] (fun i : Int => 0 ≤ i ∧ i ≤ m.ru.length ∧ (m.ru.take i.toNat).all (okRule m.sy m.st) = true) (fun i => [(3,.one (int i))]) (fun _ => []) (fun i => (m.ru.length - i).toNat) (0 : Int) [] (hI := ?_) (hr := ?_)
  · exact ⟨by omega,by omega,rfl⟩
  · rintro i ⟨h0,h1,h2⟩
    dsimp only [List.cons_append,List.nil_append] at *
    skip
    repeat' first|(apply p3;(first|exact pu1|exact puN|exact puC|exact a_add rfl rfl (by omega) (by omega));exact rfl)|refine cd ?_|(apply g_drN (id := 6) okM [[],[0],[0,1],[0,1,2],[],[0,1,2,3,4],[0,1,2,3,4,5],[],[7],[7,8],[7,8,9],[],[11],[11,12],[11,12,13],[0,1,2,3,4,5,6,7,8,9,10,11,12,13,14],[0,1,2,3,4,5,6,7,8,9,10,11,12,13,14,15]] [([],[]),([],[]),([],[]),([],[]),([],[]),([],[]),([],[]),([],[]),([],[]),([],[]),([],[]),([],[]),([],[]),([],[]),([],[]),([],[]),([],[])] 0;(focus (refine dp 0 0 [48,51,52,53,54,55,56,57,58] [] pu1 ?_;refine dp 1 1 [48,51,52,53,54,55,56,57,58] [] (a_pure (sv := .one _) rfl) ?_;refine dp 2 3 [48,51,52,53,54,55,56,57,58] [] (a_pure (sv := .one _) rfl) ?_;refine dp 3 7 [48,51,52,53,54,55,56,57,58] [] puL ?_;refine dp 4 0 [44,45,46,47,51,52,53,54,55,56,57,58] [] pu1 ?_;refine dp 5 31 [51,52,53,54,55,56,57,58] [] puI ?_;refine dp 6 63 [51,52,53,54,55,56,57,58] [] puL ?_;refine dp 7 0 [44,45,46,47,48,49,50,55,56,57,58] [] pu1 ?_;refine dp 8 1 [44,45,46,47,48,49,50,55,56,57,58] [] (a_pure (sv := .one _) rfl) ?_;refine dp 9 3 [44,45,46,47,48,49,50,55,56,57,58] [] (a_pure (sv := .one _) rfl) ?_;refine dp 10 7 [44,45,46,47,48,49,50,55,56,57,58] [] puL ?_;refine dp 11 0 [44,45,46,47,48,49,50,51,52,53,54] [] pu1 ?_;refine dp 12 1 [44,45,46,47,48,49,50,51,52,53,54] [] (a_pure (sv := .one _) rfl) ?_;refine dp 13 3 [44,45,46,47,48,49,50,51,52,53,54] [] (a_pure (sv := .one _) rfl) ?_;refine dp 14 7 [44,45,46,47,48,49,50,51,52,53,54] [] puL ?_;refine dp 15 32767 [] [] (callD1 (n := _) 0 (θ := []) (hD := (l05Rule_ok _ _ _ preB2 preB2 preB2 preB2))) ?_;refine dp 16 65535 [] [] (a_pure (sv := .one _) rfl) ?_;(refine d_nil ?_;refine dN ?_)));any_goals kernel_rfl)|((refine g_cond rfl (fun hc => ?_) (fun hc => ?_)) <;> (try simp only [dcB] at hc) <;> (try first|contradiction|(exfalso;omega)))|fail
    · repeat refine cr ?_
      refine ends_id ?_
      refine endK [] (h2 := ?_) (h3 := ?_) (nd := ?_)
      all_goals (repeat' first|exact ce0|refine ce ?_|refine ce2 ?_ ?_|exact SVLe.refl|refine ceb ?_)
      all_goals first | exact (show nodupB _ = true from rfl) | exact Or.inr rfl | ((unfold vMach; rw [all_no _ _ i.toNat (by omega) (by rw [hc]; simp)]; simp))
    · refine q_again (i + 1) [] (by exact stk) ?_ ?_
      · exact ⟨by omega,by omega,all_snocI _ _ _ h0 (by omega) h2 hc⟩
      · omega
    · repeat refine cr ?_
      refine ends_id ?_
      refine endK [] (h2 := ?_) (h3 := ?_) (nd := ?_)
      all_goals (repeat' first|exact ce0|refine ce ?_|refine ce2 ?_ ?_|exact SVLe.refl|refine ceb ?_)
      all_goals first | exact (show nodupB _ = true from rfl) | exact Or.inr rfl | ((unfold vMach; rw [List.take_of_length_le (by omega)] at h2; simp_all))
@[irreducible] def vSide (sy : Int) (l : List Int) : Bool := l.all (fun x => decide (0 ≤ x ∧ x ≤ sy - 1)) && decide ((l.length : Int) ≤ 200 ∧ l.getLastD 1 ≠ 0)
@[irreducible] def vConf (m : Mach) (c : Conf) : Bool := decide (0 ≤ c.st ∧ c.st ≤ m.st - 1) && vSide m.sy c.le && vSide m.sy c.ri
end Go.Proofs.YtnkeamihfiobdaaGreatDoor
end
section
set_option linter.unusedVariables false
set_option linter.unusedSimpArgs false
set_option maxRecDepth 100000
set_option maxHeartbeats 4000000
namespace Go.Proofs.YtnkeamihfiobdaaGreatDoor
open Go Foot
theorem preB3 {p : Prop} (h : p := by first | with_reducible assumption | omega | (simp only [List.length_append,List.length_cons,List.length_nil,List.length_set,List.length_replicate,List.length_take,List.length_drop,List.length_tail,List.length_dropLast,List.length_reverse] at *; omega) | exact mem_len (by assumption) (by omega) | (with_reducible refine Int.le_trans (Int.ofNat_le.2 (trimR_len _)) ?_; simp only [List.length_cons,List.length_tail]; omega) | (have := vMach_bd (by assumption); omega) | trivial) : p := h
theorem sizeR_ok (xs : List Rule') (hx : (xs.length : Int) ≤ 16777216) : Does Tryz.prog 177 [.one (shR xs)] [] (.one (int xs.length)) [] := by
  refine does_of (k := 0) Tryz.func177 rfl Tryz.ntmps177 rfl rfl fun w F0 S0 ρ0 => ?_
  dsimp only [argT,argH]
  repeat' first|(apply p3;(first|exact pu1|exact puN);exact rfl)|refine cd ?_|fail
  repeat refine cr ?_
  refine ends_id ?_
  refine endK [] (h2 := ?_) (h3 := ?_) (nd := ?_)
  all_goals (repeat' first|exact ce0|refine ce ?_|refine ce2 ?_ ?_|exact SVLe.refl|refine ceb ?_)
  all_goals first | exact (show nodupB _ = true from rfl) | exact Or.inr rfl | (rfl)
theorem noRule_ok : Does Tryz.prog 110 [] [] (.agg [int 0,int 0,int (-1)]) [] := by
  refine does_of (k := 0) Tryz.func110 rfl Tryz.ntmps110 rfl rfl fun w F0 S0 ρ0 => ?_
  dsimp only [argT,argH]
  repeat' first|(apply n3;exact a_new (gb := .bx _) rfl;exact rfl;refine dA ?_)|(apply p3;exact a_pure (sv := .agg _) rfl;exact rfl)|refine cd ?_|(apply w3;(exact a_st_bx rfl rfl rfl rfl (fN rfl rfl) (Nat.le_of_ble_eq_true rfl) rfl);exact rfl;refine dS ?_)|fail
  repeat refine cr ?_
  refine ends_id ?_
  refine endK [] (h2 := ?_) (h3 := ?_) (nd := ?_)
  all_goals (repeat' first|exact ce0|refine ce ?_|refine ce2 ?_ ?_|exact SVLe.refl|refine ceb ?_)
  all_goals first | exact (show nodupB _ = true from rfl) | exact Or.inr rfl | (rfl)
theorem isRule_ok (r : Rule') : Does Tryz.prog 48 [.agg (ruC r)] [] (.one (boo (!decide (r = ⟨0,0,-1⟩)))) [] := by
  refine does_of (k := 0) Tryz.func48 rfl Tryz.ntmps48 rfl rfl fun w F0 S0 ρ0 => ?_
  dsimp only [argT,argH]
  repeat' first|(apply n3;exact a_new (gb := .bx _) rfl;exact rfl;refine dA ?_)|(apply p3;exact a_pure (sv := .one _) rfl;exact rfl)|refine cd ?_|(apply g_drN (id := 1) okM [[],[],[0,1],[0,1,2]] [([],[]),([],[]),([],[]),([],[])] 0;(focus (refine dp 0 0 [4] [] puL ?_;refine dp 1 0 [3] [] (callD1 (n := _) 0 (θ := []) (hD := noRule_ok)) ?_;refine dp 2 3 [] [] (by exact a_neRule (s := ⟨_,_,_⟩) rfl rfl) ?_;refine dp 3 7 [] [] pu1 ?_;(refine d_nil ?_;refine dN ?_)));any_goals kernel_rfl)|fail
  repeat refine cr ?_
  refine ends_id ?_
  refine endK [] (h2 := ?_) (h3 := ?_) (nd := ?_)
  all_goals (repeat' first|exact ce0|refine ce ?_|refine ce2 ?_ ?_|exact SVLe.refl|refine ceb ?_)
  all_goals first | exact (show nodupB _ = true from rfl) | exact Or.inr rfl | (rfl)
theorem validRule_ok (m : Mach) (r : Rule') (h1 : -1000 ≤ m.sy) (h2 : m.sy ≤ 1000) (h3 : -1000 ≤ m.st) (h4 : m.st ≤ 1000) : Does Tryz.prog 180 [.agg (maC m),.agg (ruC r)] [] (.one (boo (okRule m.sy m.st r))) [] := by
  refine does_of (k := 0) Tryz.func180 rfl Tryz.ntmps180 rfl rfl fun w F0 S0 ρ0 => ?_
  dsimp only [argT,argH]
  repeat' first|(apply n3;exact a_new (gb := .bx _) rfl;exact rfl;refine dA ?_)|(apply p3;(first|exact pu1|exact a_sub rfl rfl (by omega) (by omega));exact rfl)|refine cd ?_|(apply c4 0;exact callK1 (θ := []) (hD := (isRule_ok _));exact rfl;exact rfl;exact rfl;refine dM ?_)|(apply c4 0;exact callK1 (θ := []) (hD := (within_ok _ _ _));exact rfl;exact rfl;exact rfl;refine dM ?_)|refine o_no rfl rfl rfl rfl ?_|(apply py3;exact rfl;exact rfl;(first|exact pu1|exact a_sub rfl rfl (by omega) (by omega)|exact puC);exact rfl;exact rfl)|(apply cy4 0;exact rfl;exact rfl;exact callK1 (θ := []) (hD := (within_ok _ _ _));exact rfl;exact rfl;exact rfl;exact rfl;refine dM ?_)|((first|refine o_gs rfl rfl (fun hc => ?_) (fun hc => ?_)|refine g_cond rfl (fun hc => ?_) (fun hc => ?_)) <;> (try simp only [dcB] at hc) <;> (try first|contradiction|(exfalso;omega)))|fail
  all_goals
    repeat refine cr ?_
    refine ends_id ?_
    refine endK [] (h2 := ?_) (h3 := ?_) (nd := ?_)
    all_goals (repeat' first|exact ce0|refine ce ?_|refine ce2 ?_ ?_|exact SVLe.refl|refine ceb ?_)
    all_goals first | exact (show nodupB _ = true from rfl) | exact Or.inr rfl | ((unfold okRule; first | (simp [*]; done) | (rw [decide_eq_false] <;> first | rfl | omega | (simp; done)) | (rw [decide_eq_true] <;> first | rfl | omega | (simp [*]; done)) | (simp_all; done) | (simp_all; omega)))
theorem validM1_ok (m : Mach) (r : Rule') (h1 : -1000 ≤ m.sy) (h2 : m.sy ≤ 1000) (h3 : -1000 ≤ m.st) (h4 : m.st ≤ 1000) : Does Tryz.prog 179 [.agg (ruC r),.one (maB m)] [] (.one (boo (!okRule m.sy m.st r))) [] := by
  refine does_of (k := 0) Tryz.func179 rfl Tryz.ntmps179 rfl rfl fun w F0 S0 ρ0 => ?_
  dsimp only [argT,argH]
  repeat' first|(apply n3;exact a_new (gb := .bx _) rfl;exact rfl;refine dA ?_)|(apply p3;(exact pu1);exact rfl)|refine cd ?_|(apply c4 0;exact callK1 (θ := []) (hD := (validRule_ok _ _ preB3 preB3 preB3 preB3));exact rfl;exact rfl;exact rfl;refine dM ?_)|fail
  repeat refine cr ?_
  refine ends_id ?_
  refine endK [] (h2 := ?_) (h3 := ?_) (nd := ?_)
  all_goals (repeat' first|exact ce0|refine ce ?_|refine ce2 ?_ ?_|exact SVLe.refl|refine ceb ?_)
  all_goals first | exact (show nodupB _ = true from rfl) | exact Or.inr rfl | (rfl)
theorem idxR_ok (xs : List Rule') (k : Nat) (d : D) (p : Rule' → Bool) (hx : (xs.length : Int) ≤ 16777216) (hE : entB Tryz.prog k = true) (hp : ∀ r,Does Tryz.prog k [.agg (ruC r),.one (.d d)] [] (.one (boo (p r))) []) : Does Tryz.prog 238 [.one (shR xs),.one (.d (.fn (.func k) [d]))] [] (.one (int (idxF p xs))) [] := by
  refine does_of (k := 0) Tryz.func238 rfl Tryz.ntmps238 rfl rfl fun w F0 S0 ρ0 => ?_
  dsimp only [argT,argH]
  repeat' first|(apply p3;(first|exact pu1|exact puN);exact rfl)|refine cd ?_|fail
  refine g_loop_id ?_
  refine loopK [0,1,4,7] [] (fun i : Int => 0 ≤ i ∧ i ≤ xs.length ∧ (xs.take i.toNat).all (fun x => !p x) = true) (fun i => [(8,.one (int i))]) (fun _ => []) (fun i => (xs.length - i).toNat) (0 : Int) [] (hI := ?_) (hr := ?_)
  · exact ⟨by omega,by omega,rfl⟩
  · rintro i ⟨h0,h1,h2⟩
    dsimp only [List.cons_append,List.nil_append] at *
    skip
    repeat' first|(apply p3;(first|exact pu1|exact puC|exact a_add rfl rfl (by omega) (by omega)|exact puI);exact rfl)|refine cd ?_|(apply c4 0;exact callK0 (θ := []) (hE := hE) (hD := (hp _));exact rfl;exact rfl;exact rfl;refine dM ?_)|((refine g_cond rfl (fun hc => ?_) (fun hc => ?_)) <;> (try simp only [dcB] at hc) <;> (try first|contradiction|(exfalso;omega)))|fail
    · repeat refine cr ?_
      refine ends_id ?_
      refine endK [] (h2 := ?_) (h3 := ?_) (nd := ?_)
      all_goals (repeat' first|exact ce0|refine ce ?_|refine ce2 ?_ ?_|exact SVLe.refl|refine ceb ?_)
      all_goals first | exact (show nodupB _ = true from rfl) | exact Or.inr rfl | (exact (idxF_stop p xs i h0 (by omega) h2 hc).symm)
    · refine q_again (i + 1) [] (by exact stk) ?_ ?_
      · exact ⟨by omega,by omega,all_snocI _ _ _ h0 (by omega) h2 (by simp [hc])⟩
      · omega
    · repeat refine cr ?_
      refine ends_id ?_
      refine endK [] (h2 := ?_) (h3 := ?_) (nd := ?_)
      all_goals (repeat' first|exact ce0|refine ce ?_|refine ce2 ?_ ?_|exact SVLe.refl|refine ceb ?_)
      all_goals first | exact (show nodupB _ = true from rfl) | exact Or.inr rfl | ((rw [List.take_of_length_le (by omega)] at h2; exact (idxF_none p xs h2).symm))
theorem hasR_ok (xs : List Rule') (k : Nat) (d : D) (p : Rule' → Bool) (hx : (xs.length : Int) ≤ 16777216) (hE : entB Tryz.prog k = true) (hp : ∀ r,Does Tryz.prog k [.agg (ruC r),.one (.d d)] [] (.one (boo (p r))) []) : Does Tryz.prog 178 [.one (shR xs),.one (.d (.fn (.func k) [d]))] [] (.one (boo (xs.any p))) [] := by
  refine does_of (k := 0) Tryz.func178 rfl Tryz.ntmps178 rfl rfl fun w F0 S0 ρ0 => ?_
  dsimp only [argT,argH]
  repeat' first|(apply p3;(first|exact pu1|exact puC);exact rfl)|refine cd ?_|(apply c4 0;exact callK1 (θ := []) (hD := (idxR_ok _ _ _ _ preB3 preB3 preB3));exact rfl;exact rfl;exact rfl;refine dM ?_)|fail
  repeat refine cr ?_
  refine ends_id ?_
  refine endK [] (h2 := ?_) (h3 := ?_) (nd := ?_)
  all_goals (repeat' first|exact ce0|refine ce ?_|refine ce2 ?_ ?_|exact SVLe.refl|refine ceb ?_)
  all_goals first | exact (show nodupB _ = true from rfl) | exact Or.inr rfl | (exact idxF_any p xs)
abbrev maD (m : Mach) : D := .bx false [.sc (.int .i64 m.sy),.sc (.int .i64 m.st),.sl false 3 (rows eR m.ru)]
theorem hasM_ok (m : Mach) (xs : List Rule') (hx : (xs.length : Int) ≤ 16777216) (h1 : -1000 ≤ m.sy) (h2 : m.sy ≤ 1000) (h3 : -1000 ≤ m.st) (h4 : m.st ≤ 1000) : Does Tryz.prog 178 [.one (shR xs),.one (.d (.fn (.func 179) [maD m]))] [] (.one (boo (xs.any fun r => !okRule m.sy m.st r))) [] := hasR_ok xs _ (maD m) _ hx (fQ rfl) fun r => validM1_ok m r h1 h2 h3 h4
theorem ValidMachine_ok (m : Mach) (hm : (m.ru.length : Int) ≤ 16777216) : Does Tryz.prog 103 [.agg (maC m)] [] (.one (boo (vMach m))) [] := by
  refine does_of (k := 0) Tryz.func103 rfl Tryz.ntmps103 rfl rfl fun w F0 S0 ρ0 => ?_
  dsimp only [argT,argH]
  repeat' first|(apply n3;exact a_new (gb := .bx _) rfl;exact rfl;refine dA ?_)|(apply p3;(exact pu1);exact rfl)|refine cd ?_|(apply c4 0;exact callK1 (θ := []) (hD := (hasM_ok _ _ preB3 preB3 preB3 preB3 preB3));exact rfl;exact rfl;exact rfl;refine dM ?_)|(apply g_drN (id := 1) okM [[],[0],[0,1],[0,1,2],[0,1,2,3],[0,1,2,3,4],[0,1,2,3,4,5],[0,1,2,3,4,5,6],[0,1,2,3,4,5,6,7],[0,1,2,3,4,5,6,7,8],[0,1,2,3,4,5,6,7,8,9],[0,1,2,3,4,5,6,7,8,9,10],[0,1,2,3,4,5,6,7,8,9,10,11],[0,1,2,3,4,5,6,7,8,9,10,11,12],[0,1,2,3,4,5,6,7,8,9,10],[0,1,2,3,4,5,6,7,8,9,10,14],[0,1,2,3,4,5,6,7,8,9,10],[0,1,2,3,4,5,6,7,8,9,10,16],[0,1,2,3,4,5,6,7,8,9,10,14,15,16,17],[0,1,2,3,4,5,6,7,8,9,10,11,12,13,14,15,16,17,18],[0,1,2,3,4,5,6,7,8,9,10,11,12,13,14,15,16,17,18,19]] [([],[]),([],[]),([],[]),([],[]),([],[]),([],[]),([],[]),([],[]),([],[]),([],[]),([],[]),([],[]),([],[]),([],[]),([],[]),([],[]),([],[]),([],[]),([],[]),([],[]),([],[])] 0;(focus (all_goals refine dp 0 0 [] [] (a_pure (sv := .one _) rfl) ?_;all_goals refine dp 1 1 [] [] puL ?_;all_goals refine dp 2 3 [] [] (callD1 (n := _) 0 (θ := []) (hD := (within_ok _ _ _))) ?_;all_goals refine dp 3 7 [] [] (a_pure (sv := .one _) rfl) ?_;all_goals (refine db 4 15 [] [] pu1 ?_ ?_ <;> (intro hc;first|cases hc|(try simp only [dcB] at hc);first|contradiction|(exfalso;omega)|skip));all_goals (first|refine dn 5 31 [] [] ?_|refine dpy 5 31 [] [] (a_pure (sv := .one _) rfl) ?_);all_goals (first|refine dn 6 63 [] [] ?_|refine dpy 6 63 [] [] puL ?_);all_goals (first|refine dn 7 127 [] [] ?_|refine dpy 7 127 [] [] (callD1 (n := _) 0 (θ := []) (hD := (within_ok _ _ _))) ?_);all_goals (first|refine dn 8 255 [] [] ?_|refine dpy 8 255 [] [] (a_pure (sv := .one _) rfl) ?_);all_goals refine dp 9 511 [] [] (a_pure (sv := .one _) rfl) ?_;all_goals (refine db 10 1023 [] [] pu1 ?_ ?_ <;> (intro hc;first|cases hc|(try simp only [dcB] at hc);first|contradiction|(exfalso;omega)|skip));all_goals (first|refine dn 11 2047 [17,18,19,20,21] [] ?_|refine dpy 11 2047 [17,18,19,20,21] [] (a_pure (sv := .one _) rfl) ?_);all_goals (first|refine dn 12 4095 [17,18,19,20,21] [] ?_|refine dpy 12 4095 [17,18,19,20,21] [] puL ?_);all_goals (first|refine dn 13 8191 [17,18,19,20,21] [] ?_|refine dpy 13 8191 [17,18,19,20,21] [] (callD1 (n := _) 0 (θ := []) (hD := (sizeR_ok _ preB3))) ?_);all_goals (first|refine dn 14 16376 [14,15,16,19,20] [] ?_|refine dpy 14 16376 [14,15,16,19,20] [] (a_pure (sv := .one _) rfl) ?_);all_goals (first|refine dn 15 32753 [14,15,16,19,20] [] ?_|refine dpy 15 32753 [14,15,16,19,20] [] puL ?_);all_goals (first|refine dn 16 65504 [14,15,16,17,18] [] ?_|refine dpy 16 65504 [14,15,16,17,18] [] (a_pure (sv := .one _) rfl) ?_);all_goals (first|refine dn 17 131009 [14,15,16,17,18] [] ?_|refine dpy 17 131009 [14,15,16,17,18] [] puL ?_);all_goals (first|refine dn 18 262031 [14,15,16] [] ?_|refine dpy 18 262031 [14,15,16] [] (by first|exact a_mulB rfl rfl (by omega) (by omega) (by omega) (by omega)|exact a_mul rfl rfl (by first|omega|assumption) (by first|omega|assumption)) ?_);all_goals (first|refine dn 19 524287 [] [] ?_|refine dpy 19 524287 [] [] (by first|exact a_ne rfl rfl|exact a_neS rfl rfl rfl) ?_);all_goals refine dp 20 1048575 [] [] (a_pure (sv := .one _) rfl) ?_;all_goals (refine d_nil ?_;refine dN ?_)));any_goals kernel_rfl)|((refine g_cond rfl (fun hc => ?_) (fun hc => ?_)) <;> (try simp only [dcB] at hc) <;> (try first|contradiction|(exfalso;omega)))|fail
  · repeat refine cr ?_
    refine ends_id ?_
    refine endK [] (h2 := ?_) (h3 := ?_) (nd := ?_)
    all_goals (repeat' first|exact ce0|refine ce ?_|refine ce2 ?_ ?_|exact SVLe.refl|refine ceb ?_)
    all_goals first | exact (show nodupB _ = true from rfl) | exact Or.inr rfl | ((unfold vMach; first | (simp [*]; done) | (rw [decide_eq_false] <;> first | rfl | omega | (simp; done)) | (rw [decide_eq_true] <;> first | rfl | omega | (simp [*]; done)) | (simp_all; done) | (simp_all; omega)))
  · repeat refine cr ?_
    refine ends_id ?_
    refine endK [] (h2 := ?_) (h3 := ?_) (nd := ?_)
    all_goals (repeat' first|exact ce0|refine ce ?_|refine ce2 ?_ ?_|exact SVLe.refl|refine ceb ?_)
    all_goals first | exact (show nodupB _ = true from rfl) | exact Or.inr rfl | ((unfold vMach; first | (simp [*]; done) | (rw [decide_eq_false] <;> first | rfl | omega | (simp; done)) | (rw [decide_eq_true] <;> first | rfl | omega | (simp [*]; done)) | (simp_all; done) | (simp_all; omega)))
  · repeat refine cr ?_
    refine ends_id ?_
    refine endK [] (h2 := ?_) (h3 := ?_) (nd := ?_)
    all_goals (repeat' first|exact ce0|refine ce ?_|refine ce2 ?_ ?_|exact SVLe.refl|refine ceb ?_)
    all_goals first | exact (show nodupB _ = true from rfl) | exact Or.inr rfl | ((rw [Int.mul_comm] at hc; unfold vMach; rw [decide_eq_false] <;> first | rfl | omega))
  · repeat refine cr ?_
    refine ends_id ?_
    refine endK [] (h2 := ?_) (h3 := ?_) (nd := ?_)
    all_goals (repeat' first|exact ce0|refine ce ?_|refine ce2 ?_ ?_|exact SVLe.refl|refine ceb ?_)
    all_goals first | exact (show nodupB _ = true from rfl) | exact Or.inr rfl | ((rw [Int.mul_comm] at hc; rw [not_any_not]; unfold vMach; rw [decide_eq_true] <;> first | rfl | omega))
theorem validSide_ok (xs : List Int) (sy : Int) (hx : (xs.length : Int) ≤ 16777216) (h1 : -1000 ≤ sy) (h2 : sy ≤ 1000) : Does Tryz.prog 181 [.one (shI xs),.one (int sy),.one (int 200)] [] (.one (boo (vSide sy xs))) [] := by
  refine does_of (k := 0) Tryz.func181 rfl Tryz.ntmps181 rfl rfl fun w F0 S0 ρ0 => ?_
  dsimp only [argT,argH]
  repeat' first|(apply p3;(first|exact pu1|exact puC);exact rfl)|refine cd ?_|(apply c4 0;exact callK1 (θ := []) (hD := (sizeI_ok _ preB3));exact rfl;exact rfl;exact rfl;refine dM ?_)|refine o_no rfl rfl rfl rfl ?_|(apply py3;exact rfl;exact rfl;(first|exact pu1|exact puC|exact a_sub rfl rfl (by omega) (by omega)|exact puN|exact a_ne rfl rfl|exact puI);exact rfl;exact rfl)|(apply cy4 0;exact rfl;exact rfl;exact callK1 (θ := []) (hD := (allWithin_ok _ _ _ preB3));exact rfl;exact rfl;exact rfl;exact rfl;refine dM ?_)|((refine o_gs rfl rfl (fun hc => ?_) (fun hc => ?_)) <;> (try simp only [dcB] at hc) <;> (try first|contradiction|(exfalso;omega)))|fail
  · repeat refine cr ?_
    refine ends_id ?_
    refine endK [] (h2 := ?_) (h3 := ?_) (nd := ?_)
    all_goals (repeat' first|exact ce0|refine ce ?_|refine ce2 ?_ ?_|exact SVLe.refl|refine ceb ?_)
    all_goals first | exact (show nodupB _ = true from rfl) | exact Or.inr rfl | ((have : xs = [] := List.eq_nil_of_length_eq_zero (by omega); subst this; unfold vSide; rfl))
  · repeat refine cr ?_
    refine ends_id ?_
    refine endK [] (h2 := ?_) (h3 := ?_) (nd := ?_)
    all_goals (repeat' first|exact ce0|refine ce ?_|refine ce2 ?_ ?_|exact SVLe.refl|refine ceb ?_)
    all_goals first | exact (show nodupB _ = true from rfl) | exact Or.inr rfl | ((unfold vSide; unfold inAll at *; rw [getLastD_at xs 1 (by omega)]; simp_all))
  · repeat refine cr ?_
    refine ends_id ?_
    refine endK [] (h2 := ?_) (h3 := ?_) (nd := ?_)
    all_goals (repeat' first|exact ce0|refine ce ?_|refine ce2 ?_ ?_|exact SVLe.refl|refine ceb ?_)
    all_goals first | exact (show nodupB _ = true from rfl) | exact Or.inr rfl | ((unfold vSide; unfold inAll at hc; rw [hc]; rfl))
  · repeat refine cr ?_
    refine ends_id ?_
    refine endK [] (h2 := ?_) (h3 := ?_) (nd := ?_)
    all_goals (repeat' first|exact ce0|refine ce ?_|refine ce2 ?_ ?_|exact SVLe.refl|refine ceb ?_)
    all_goals first | exact (show nodupB _ = true from rfl) | exact Or.inr rfl | ((unfold vSide; rw [decide_eq_false] <;> first | omega | simp))
theorem configOf_ok (m : Mach) (c : Conf) (hx : (c.le.length : Int) ≤ 16777216) (hy : (c.ri.length : Int) ≤ 16777216) (h1 : -1000 ≤ m.sy) (h2 : m.sy ≤ 1000) (h3 : -1000 ≤ m.st) (h4 : m.st ≤ 1000) : Does Tryz.prog 104 [.agg (maC m),.agg (coC c)] [] (.one (boo (vConf m c))) [] := by
  refine does_of (k := 0) Tryz.func104 rfl Tryz.ntmps104 rfl rfl fun w F0 S0 ρ0 => ?_
  dsimp only [argT,argH]
  repeat' first|(apply n3;exact a_new (gb := .bx _) rfl;exact rfl;refine dA ?_)|(apply p3;(first|exact pu1|exact a_sub rfl rfl (by omega) (by omega));exact rfl)|refine cd ?_|(apply c4 0;exact callK1 (θ := []) (hD := (within_ok _ _ _));exact rfl;exact rfl;exact rfl;refine dM ?_)|refine o_no rfl rfl rfl rfl ?_|(apply py3;exact rfl;exact rfl;(exact pu1);exact rfl;exact rfl)|(apply cy4 0;exact rfl;exact rfl;exact callK1 (θ := []) (hD := (validSide_ok _ _ preB3 preB3 preB3));exact rfl;exact rfl;exact rfl;exact rfl;refine dM ?_)|((refine o_gs rfl rfl (fun hc => ?_) (fun hc => ?_)) <;> (try simp only [dcB] at hc) <;> (try first|contradiction|(exfalso;omega)))|fail
  all_goals
    repeat refine cr ?_
    refine ends_id ?_
    refine endK [] (h2 := ?_) (h3 := ?_) (nd := ?_)
    all_goals (repeat' first|exact ce0|refine ce ?_|refine ce2 ?_ ?_|exact SVLe.refl|refine ceb ?_)
    all_goals first | exact (show nodupB _ = true from rfl) | exact Or.inr rfl | ((unfold vConf; first | (simp [*]; done) | (rw [decide_eq_false] <;> first | rfl | omega | (simp; done)) | (rw [decide_eq_true] <;> first | rfl | omega | (simp [*]; done)) | (simp_all; done) | (simp_all; omega)))
theorem ValidConfig_ok (m : Mach) (c : Conf) (hm : (m.ru.length : Int) ≤ 16777216) (hx : (c.le.length : Int) ≤ 16777216) (hy : (c.ri.length : Int) ≤ 16777216) : Does Tryz.prog 41 [.agg (maC m),.agg (coC c)] [] (.one (boo (vMach m && vConf m c))) [] := by
  refine does_of (k := 0) Tryz.func41 rfl Tryz.ntmps41 rfl rfl fun w F0 S0 ρ0 => ?_
  dsimp only [argT,argH]
  repeat' first|(apply n3;exact a_new (gb := .bx _) rfl;exact rfl;refine dA ?_)|(apply p3;(exact pu1);exact rfl)|refine cd ?_|(apply c4 0;exact callK1 (θ := []) (hD := (ValidMachine_ok _ preB3));exact rfl;exact rfl;exact rfl;refine dM ?_)|refine o_no rfl rfl rfl rfl ?_|(apply py3;exact rfl;exact rfl;(exact pu1);exact rfl;exact rfl)|(apply cy4 0;exact rfl;exact rfl;exact callK1 (θ := []) (hD := (configOf_ok _ _ preB3 preB3 preB3 preB3 preB3 preB3));exact rfl;exact rfl;exact rfl;exact rfl;refine dM ?_)|((refine o_gs rfl rfl (fun hc => ?_) (fun hc => ?_)) <;> (try simp only [dcB] at hc) <;> (try first|contradiction|(exfalso;omega)))|fail
  all_goals
    repeat refine cr ?_
    refine ends_id ?_
    refine endK [] (h2 := ?_) (h3 := ?_) (nd := ?_)
    all_goals (repeat' first|exact ce0|refine ce ?_|refine ce2 ?_ ?_|exact SVLe.refl|refine ceb ?_)
    all_goals first | exact (show nodupB _ = true from rfl) | exact Or.inr rfl | ((simp [*]))
@[irreducible] def askC (m : Mach) (c : Conf) (b : Int) : Int := if vMach m = true ∧ vConf m c = true then if 1 ≤ b ∧ b ≤ 20000 then 0 else 2 else 1
end Go.Proofs.YtnkeamihfiobdaaGreatDoor
end
section
set_option linter.unusedVariables false
set_option linter.unusedSimpArgs false
set_option maxRecDepth 100000
set_option maxHeartbeats 4000000
namespace Go.Proofs.YtnkeamihfiobdaaGreatDoor
open Go Foot
abbrev ruBx (m : Mach) (s : Int) (a b : Nat) : GB := .bx [int m.sy,int m.st,shR m.ru,int s,.gv a,.gv b]
theorem preB4 {p : Prop} (h : p := by first | with_reducible assumption | omega | (simp only [List.length_append,List.length_cons,List.length_nil,List.length_set,List.length_replicate,List.length_take,List.length_drop,List.length_tail,List.length_dropLast,List.length_reverse] at *; omega) | exact mem_len (by assumption) (by omega) | (with_reducible refine Int.le_trans (Int.ofNat_le.2 (trimR_len _)) ?_; simp only [List.length_cons,List.length_tail]; omega) | (have := vMach_bd (by assumption); omega) | trivial) : p := h
theorem runnerOf_ok (m : Mach) (c : Conf) (hx : (c.le.length : Int) ≤ 16777216) (hy : (c.ri.length : Int) ≤ 16777216) : Does Tryz.prog 49 [.agg (maC m),.agg (coC c)] [] (.one (.gv 0)) [ruBx m c.st 1 2,roI c.le.reverse,roI c.ri.reverse] := by
  refine does_of (k := 0) Tryz.func49 rfl Tryz.ntmps49 rfl rfl fun w F0 S0 ρ0 => ?_
  dsimp only [argT,argH]
  repeat' first|(apply n3;exact a_new (gb := .bx _) rfl;exact rfl;refine dA ?_)|(apply p3;exact pu1;exact rfl)|refine cd ?_|(apply g_drN (id := 1) okM [[],[],[1],[],[3],[3,4],[],[6],[3,4,5,6,7],[0,1,2,3,4,5,6,7,8],[0,1,2,3,4,5,6,7,8,9],[0,1,2,3,4,5,6,7,8,9,10]] [([],[]),([],[]),([],[]),([],[]),([],[]),([0],[]),([],[]),([],[]),([1],[]),([],[]),([2],[]),([],[])] 3;(focus (refine dp 0 0 [6,7,8,9,10,11,12,13] [(true,0),(true,1)] puL ?_;refine dp 1 0 [5,8,9,10,11,12,13] [(true,0),(true,1)] (a_pure (sv := .one _) rfl) ?_;refine dp 2 1 [5,8,9,10,11,12,13] [(true,0),(true,1)] puL ?_;refine dp 3 0 [5,6,7,11,12] [] (a_pure (sv := .one _) rfl) ?_;refine dp 4 1 [5,6,7,11,12] [] puL ?_;refine duN 5 3 [5,6,7,11,12] [] (callD1 (n := _) 0 (θ := []) (hD := (reversed_ok _ preB4))) (by exact rfl) (by exact rfl) ?_;refine dp 6 0 [5,6,7,8,9,10] [(true,0)] (a_pure (sv := .one _) rfl) ?_;refine dp 7 1 [5,6,7,8,9,10] [(true,0)] puL ?_;refine duN 8 31 [5,6,7] [] (callD1 (n := _) 1 (θ := []) (hD := (reversed_ok _ preB4))) (by exact rfl) (by exact rfl) ?_;refine dp 9 511 [] [] (a_pure (sv := .agg _) rfl) ?_;refine duE 10 1023 [] [] (atN 2 (fun _ => a_new (gb := .bx _) rfl)) (by exact rfl) (by exact rfl) ?_;refine dp 11 2047 [] [] pu1 ?_;(refine d_nil ?_;refine dN ?_)));any_goals kernel_rfl)|fail
  repeat refine cr ?_
  refine ends_id ?_
  refine endK [?_,?_,?_] (h2 := ?_) (h3 := ?_) (nd := ?_)
  rotate_left 3
  all_goals (repeat' first|exact ce0|refine ce ?_|refine ce2 ?_ ?_|(refine Or.inr (bx_eq rfl rfl ?_);(try dsimp only [C.ren,C.ren.all]);(try exact rfl))|exact SVLe.refl|refine ceb ?_)
  all_goals first | exact (show nodupB _ = true from rfl) | exact Or.inr rfl | (rfl)
theorem nearest_ok (l : List Int) (hx : (l.length : Int) ≤ 16777216) : Does Tryz.prog 114 [.one (shI l)] [] (.one (int (l.getLastD 0))) [] := by
  refine does_of (k := 0) Tryz.func114 rfl Tryz.ntmps114 rfl rfl fun w F0 S0 ρ0 => ?_
  dsimp only [argT,argH]
  repeat' first|(apply p3;(first|exact pu1|exact puN|exact puC|exact a_sub rfl rfl (by omega) (by omega)|exact puI);exact rfl)|refine cd ?_|((refine g_cond rfl (fun hc => ?_) (fun hc => ?_)) <;> (try simp only [dcB] at hc) <;> (try first|contradiction|(exfalso;omega)))|fail
  · repeat refine cr ?_
    refine ends_id ?_
    refine endK [] (h2 := ?_) (h3 := ?_) (nd := ?_)
    all_goals (repeat' first|exact ce0|refine ce ?_|refine ce2 ?_ ?_|exact SVLe.refl|refine ceb ?_)
    all_goals first | exact (show nodupB _ = true from rfl) | exact Or.inr rfl | ((have : l = [] := List.eq_nil_of_length_eq_zero (by omega); subst this; rfl))
  · repeat refine cr ?_
    refine ends_id ?_
    refine endK [] (h2 := ?_) (h3 := ?_) (nd := ?_)
    all_goals (repeat' first|exact ce0|refine ce ?_|refine ce2 ?_ ?_|exact SVLe.refl|refine ceb ?_)
    all_goals first | exact (show nodupB _ = true from rfl) | exact Or.inr rfl | (exact (getLastD_at l 0 (by omega)).symm)
theorem pop_ok (l : List Int) (hx : (l.length : Int) ≤ 16777216) : Does Tryz.prog 112 [.one (.gv 0)] [roI l] (.one (.gv 1)) [.dead,roI l.dropLast] := by
  refine does_of (k := 1) Tryz.func112 rfl Tryz.ntmps112 rfl rfl fun w F0 S0 ρ0 => ?_
  dsimp only [argT,argH]
  repeat' first|(apply n3;exact a_nilO eI rfl;exact rfl)|(apply p3;(first|exact pu1|exact puN|exact a_sub rfl rfl (by omega) (by omega)|exact a_max rfl rfl);exact rfl)|refine cd ?_|(apply s3;exact a_slHO rfl rfl rfl (fS rfl) (by omega) (by omega) (by exact rfl) (by decide);exact rfl;exact rfl)|fail
  repeat refine cr ?_
  refine ends_id ?_
  refine endK [?_] (h2 := ?_) (h3 := ?_) (nd := ?_)
  rotate_left 1
  all_goals (repeat' first|exact ce0|refine ce ?_|refine ce2 ?_ ?_|exact SVLe.refl|refine ceb ?_)
  all_goals first | exact (show nodupB _ = true from rfl) | exact Or.inr rfl | ((rw [List.dropLast_eq_take]; congr 1; split <;> omega))
@[irreducible] def pushL (l : List Int) (x : Int) : List Int := if x = 0 ∧ l = [] then l else l ++ [x]
theorem push_ok (l : List Int) (x : Int) (hx : (l.length : Int) ≤ 16777216) : Does Tryz.prog 113 [.one (.gv 0),.one (int x)] [roI l] (.one (.gv 1)) [.dead,roI (pushL l x)] := by
  refine does_of (k := 1) Tryz.func113 rfl Tryz.ntmps113 rfl rfl fun w F0 S0 ρ0 => ?_
  dsimp only [argT,argH]
  repeat' first|(apply n3;(exact a_litE eI [_] rfl rfl rfl rfl rfl rfl rfl rfl);exact rfl;refine dA ?_)|(apply p3;(first|exact pu1|exact puC);exact rfl)|refine cd ?_|(apply s3;exact a_appE (fP rfl) rfl rfl rfl rfl nowR (by (simp <;> omega)) (by decide) (by decide) (by exact rfl);exact rfl;exact rfl)|refine o_no rfl rfl rfl rfl ?_|(apply py3;exact rfl;exact rfl;(first|exact pu1|exact puC|exact puN);exact rfl;exact rfl)|((first|refine o_gs rfl rfl (fun hc => ?_) (fun hc => ?_)|refine g_cond rfl (fun hc => ?_) (fun hc => ?_)) <;> (try simp only [dcB] at hc) <;> (try first|contradiction|(exfalso;omega)))|fail
  · repeat refine cr ?_
    refine ends_id ?_
    refine endK [?_] (h2 := ?_) (h3 := ?_) (nd := ?_)
    rotate_left 1
    all_goals (repeat' first|exact ce0|refine ce ?_|refine ce2 ?_ ?_|(refine Or.inr (bx_eq rfl rfl ?_);(try dsimp only [C.ren,C.ren.all]);(try exact rfl))|exact SVLe.refl|refine ceb ?_)
    all_goals first | exact (show nodupB _ = true from rfl) | exact Or.inr rfl | ((have : l = [] := List.eq_nil_of_length_eq_zero (by omega); subst this; unfold pushL; simp [*]))
  · repeat refine cr ?_
    refine ends_id ?_
    refine endK [?_] (h2 := ?_) (h3 := ?_) (nd := ?_)
    rotate_left 1
    all_goals (repeat' first|exact ce0|refine ce ?_|refine ce2 ?_ ?_|(refine Or.inr (bx_eq rfl rfl ?_);(try dsimp only [C.ren,C.ren.all]);(try exact rfl))|exact SVLe.refl|refine ceb ?_)
    all_goals first | exact (show nodupB _ = true from rfl) | exact Or.inr rfl | ((unfold pushL; rw [if_neg]; rintro ⟨_,rfl⟩; simp at hc))
  · repeat refine cr ?_
    refine ends_id ?_
    refine endK [?_] (h2 := ?_) (h3 := ?_) (nd := ?_)
    rotate_left 1
    all_goals (repeat' first|exact ce0|refine ce ?_|refine ce2 ?_ ?_|(refine Or.inr (bx_eq rfl rfl ?_);(try dsimp only [C.ren,C.ren.all]);(try exact rfl))|exact SVLe.refl|refine ceb ?_)
    all_goals first | exact (show nodupB _ = true from rfl) | exact Or.inr rfl | ((unfold pushL; rw [if_neg]; rintro ⟨h,_⟩; exact hc h))
abbrev ruD (m : Mach) (s : Int) (l r : List Int) : C := .d (.bx false [.sc (.int .i64 m.sy),.sc (.int .i64 m.st),.sl false 3 (rows eR m.ru),.sc (.int .i64 s),.sl false 1 (rows eI l),.sl false 1 (rows eI r)])
theorem symbol_ok (m : Mach) (s : Int) (l r : List Int) (hx : (r.length : Int) ≤ 16777216) : Does Tryz.prog 242 [.one (ruD m s l r)] [] (.one (int (r.getLastD 0))) [] := by
  refine does_of (k := 0) Tryz.func242 rfl Tryz.ntmps242 rfl rfl fun w F0 S0 ρ0 => ?_
  dsimp only [argT,argH]
  repeat' first|(apply p3;(exact pu1);exact rfl)|refine cd ?_|(apply c4 0;exact callK1 (θ := []) (hD := (nearest_ok _ preB4));exact rfl;exact rfl;exact rfl;refine dM ?_)|fail
  repeat refine cr ?_
  refine ends_id ?_
  refine endK [] (h2 := ?_) (h3 := ?_) (nd := ?_)
  all_goals (repeat' first|exact ce0|refine ce ?_|refine ce2 ?_ ?_|exact SVLe.refl|refine ceb ?_)
  all_goals first | exact (show nodupB _ = true from rfl) | exact Or.inr rfl | (rfl)
theorem at_ok (m : Mach) (s : Int) (l r : List Int) (hx : (r.length : Int) ≤ 16777216) (h1 : -9223372036854775808 ≤ s * m.sy) (h2 : s * m.sy < 9223372036854775808) (h3 : -9223372036854775808 ≤ s * m.sy + r.getLastD 0) (h4 : s * m.sy + r.getLastD 0 < 9223372036854775808) : Does Tryz.prog 188 [.one (ruD m s l r)] [] (.one (int (s * m.sy + r.getLastD 0))) [] := by
  refine does_of (k := 0) Tryz.func188 rfl Tryz.ntmps188 rfl rfl fun w F0 S0 ρ0 => ?_
  dsimp only [argT,argH]
  repeat' first|(apply p3;exact a_pure (sv := .one _) rfl;exact rfl)|refine cd ?_|(apply g_drN (id := 1) okM [[],[0],[0,1],[0,1,2],[],[4],[4,5],[4,5,6],[4,5,6,7],[0,1,2,3,4,5,6,7,8],[],[10],[0,1,2,3,4,5,6,7,8,9,10,11],[0,1,2,3,4,5,6,7,8,9,10,11,12]] [([],[]),([],[]),([],[]),([],[]),([],[]),([],[]),([],[]),([],[]),([],[]),([],[]),([],[]),([],[]),([],[]),([],[])] 0;(focus (refine dp 0 0 [7,8,9,10,11,13,14] [] pu1 ?_;refine dp 1 1 [7,8,9,10,11,13,14] [] (a_pure (sv := .one _) rfl) ?_;refine dp 2 3 [7,8,9,10,11,13,14] [] (a_pure (sv := .one _) rfl) ?_;refine dp 3 7 [7,8,9,10,11,13,14] [] puL ?_;refine dp 4 0 [3,4,5,6,13,14] [] pu1 ?_;refine dp 5 1 [3,4,5,6,13,14] [] (a_pure (sv := .one _) rfl) ?_;refine dp 6 3 [3,4,5,6,13,14] [] (a_pure (sv := .one _) rfl) ?_;refine dp 7 7 [3,4,5,6,13,14] [] (a_pure (sv := .one _) rfl) ?_;refine dp 8 15 [3,4,5,6,13,14] [] puL ?_;refine dp 9 511 [13,14] [] (by exact a_mul rfl rfl (by first|omega|assumption) (by first|omega|assumption)) ?_;refine dp 10 0 [3,4,5,6,7,8,9,10,11,12] [] pu1 ?_;refine dp 11 1 [3,4,5,6,7,8,9,10,11,12] [] (callD1 (n := _) 0 (θ := []) (hD := (symbol_ok _ _ _ _ preB4))) ?_;refine dp 12 4095 [] [] (a_add rfl rfl (by omega) (by omega)) ?_;refine dp 13 8191 [] [] pu1 ?_;(refine d_nil ?_;refine dN ?_)));any_goals kernel_rfl)|fail
  repeat refine cr ?_
  refine ends_id ?_
  refine endK [] (h2 := ?_) (h3 := ?_) (nd := ?_)
  all_goals (repeat' first|exact ce0|refine ce ?_|refine ce2 ?_ ?_|exact SVLe.refl|refine ceb ?_)
  all_goals first | exact (show nodupB _ = true from rfl) | exact Or.inr rfl | (rfl)
theorem rule_ok (m : Mach) (s : Int) (l r : List Int) (hx : (r.length : Int) ≤ 16777216) (h1 : 0 ≤ s * m.sy) (h2 : s * m.sy < 9223372036854775) (h3 : 0 ≤ r.getLastD 0) (h4 : r.getLastD 0 < 9223372036854775) (h5 : s * m.sy + r.getLastD 0 < m.ru.length) : Does Tryz.prog 111 [.one (ruD m s l r)] [] (.agg (ruC (m.ru[(s * m.sy + r.getLastD 0).toNat]'(by omega)))) [] := by
  refine does_of (k := 0) Tryz.func111 rfl Tryz.ntmps111 rfl rfl fun w F0 S0 ρ0 => ?_
  dsimp only [argT,argH]
  repeat' first|(apply n3;exact a_new (gb := .bx _) rfl;exact rfl;refine dA ?_)|refine cd ?_|(apply g_drN (id := 1) okM [[],[0],[0,1],[0,1,2],[0,1,2,3],[],[5],[0,1,2,3,4,5,6],[0,1,2,3,4,5,6,7],[0,1,2,3,4,5,6,7,8]] [([],[]),([],[]),([],[]),([],[]),([],[]),([],[]),([],[]),([],[]),([],[]),([],[0])] 0;(focus (refine dp 0 0 [8,9] [] pu1 ?_;refine dp 1 1 [8,9] [] (a_pure (sv := .one _) rfl) ?_;refine dp 2 3 [8,9] [] (a_pure (sv := .one _) rfl) ?_;refine dp 3 7 [8,9] [] (a_pure (sv := .one _) rfl) ?_;refine dp 4 15 [8,9] [] puL ?_;refine dp 5 0 [3,4,5,6,7] [] pu1 ?_;refine dp 6 1 [3,4,5,6,7] [] (callD1 (n := _) 0 (θ := []) (hD := (at_ok _ _ _ _ preB4 preB4 preB4 preB4 preB4))) ?_;refine dp 7 127 [] [] puI ?_;refine dp 8 255 [] [] puL ?_;refine duE 9 511 [] [] (by exact a_st_bx rfl rfl rfl rfl (fN rfl rfl) (Nat.le_of_ble_eq_true rfl) rfl) (by exact rfl) (by exact rfl) ?_;(refine d_nil ?_;refine dN ?_)));any_goals kernel_rfl)|fail
  repeat refine cr ?_
  refine ends_id ?_
  refine endK [] (h2 := ?_) (h3 := ?_) (nd := ?_)
  all_goals (repeat' first|exact ce0|refine ce ?_|refine ce2 ?_ ?_|exact SVLe.refl|refine ceb ?_)
  all_goals first | exact (show nodupB _ = true from rfl) | exact Or.inr rfl | (rfl)
theorem halts_ok (m : Mach) (s : Int) (l r : List Int) (hx : (r.length : Int) ≤ 16777216) (h1 : 0 ≤ s * m.sy) (h2 : s * m.sy < 9223372036854775) (h3 : 0 ≤ r.getLastD 0) (h4 : r.getLastD 0 < 9223372036854775) (h5 : s * m.sy + r.getLastD 0 < m.ru.length) : Does Tryz.prog 50 [.one (ruD m s l r)] [] (.one (boo (decide (m.ru[(s * m.sy + r.getLastD 0).toNat]'(by omega) = ⟨0,0,-1⟩)))) [] := by
  refine does_of (k := 0) Tryz.func50 rfl Tryz.ntmps50 rfl rfl fun w F0 S0 ρ0 => ?_
  dsimp only [argT,argH]
  repeat' first|(apply p3;exact pu1;exact rfl)|refine cd ?_|(apply c4 0;exact callK1 (θ := []) (hD := (rule_ok _ _ _ _ preB4 preB4 preB4 preB4 preB4 preB4));exact rfl;exact rfl;exact rfl;refine dM ?_)|(apply c4 0;exact callK1 (θ := []) (hD := (isRule_ok _));exact rfl;exact rfl;exact rfl;refine dM ?_)|fail
  repeat refine cr ?_
  refine ends_id ?_
  refine endK [] (h2 := ?_) (h3 := ?_) (nd := ?_)
  all_goals (repeat' first|exact ce0|refine ce ?_|refine ce2 ?_ ?_|exact SVLe.refl|refine ceb ?_)
  all_goals first | exact (show nodupB _ = true from rfl) | exact Or.inr rfl | (simp)
end Go.Proofs.YtnkeamihfiobdaaGreatDoor
end
section
set_option linter.unusedVariables false
set_option linter.unusedSimpArgs false
set_option maxRecDepth 100000
set_option maxHeartbeats 4000000
namespace Go.Proofs.YtnkeamihfiobdaaGreatDoor
open Go Foot
@[irreducible] def stepL (u : Rule') (l r : List Int) : List Int := if 0 < u.m then pushL l u.w else l.dropLast
@[irreducible] def stepR (u : Rule') (l r : List Int) : List Int := if 0 < u.m then r.dropLast else pushL (pushL r.dropLast u.w) (l.getLastD 0)
theorem pushL_len (l : List Int) (x : Int) : (pushL l x).length ≤ l.length + 1 := by unfold pushL; split <;> simp
theorem preB5 {p : Prop} (h : p := by first | with_reducible assumption | omega | (simp only [List.length_append,List.length_cons,List.length_nil,List.length_set,List.length_replicate,List.length_take,List.length_drop,List.length_tail,List.length_dropLast,List.length_reverse] at *; omega) | exact mem_len (by assumption) (by omega) | (with_reducible refine Int.le_trans (Int.ofNat_le.2 (trimR_len _)) ?_; simp only [List.length_cons,List.length_tail]; omega) | (have := vMach_bd (by assumption); omega) | (with_reducible refine Int.le_trans (Int.ofNat_le.2 (pushL_len _ _)) ?_; simp only [List.length_dropLast]; omega) | trivial) : p := h
theorem step_ok (m : Mach) (s : Int) (l r : List Int) (u : Rule') (hx : (r.length : Int) ≤ 1000) (hy : (l.length : Int) ≤ 1000) (h1 : 0 ≤ s * m.sy) (h2 : s * m.sy < 9223372036854775) (h3 : 0 ≤ r.getLastD 0) (h4 : r.getLastD 0 < 9223372036854775) (h5 : s * m.sy + r.getLastD 0 < m.ru.length) (h6 : m.ru[(s * m.sy + r.getLastD 0).toNat]? = some u) : Does Tryz.prog 51 [.one (.gv 0)] [ruBx m s 1 2,roI l,roI r] (.one (boo (decide ((stepL u l r).length ≤ 200 ∧ (stepR u l r).length ≤ 200)))) [ruBx m u.n 3 4,.dead,.dead,roI (stepL u l r),roI (stepR u l r)] := by
  have h6' := (List.getElem?_eq_some_iff.1 h6).2
  refine does_of (k := 3) Tryz.func51 rfl Tryz.ntmps51 rfl rfl fun w F0 S0 ρ0 => ?_
  dsimp only [argT,argH]
  repeat' first|(apply n3;exact a_new (gb := .bx _) rfl;exact rfl;refine dA ?_)|(apply p3;(first|exact pu1|exact puC|exact puN);exact rfl)|refine cd ?_|(apply w3;(exact a_st_bx rfl rfl rfl rfl (fN rfl rfl) (Nat.le_of_ble_eq_true rfl) rfl);exact rfl;refine dS ?_)|(apply c4 0;exact callK1 (θ := []) (hD := (rule_ok _ _ _ _ preB5 preB5 preB5 preB5 preB5 preB5));exact rfl;exact rfl;exact rfl;refine dM ?_)|(apply c4 1;exact callK1 (θ := [_]) (hD := (pop_ok _ preB5));exact rfl;exact rfl;exact rfl;refine dM ?_)|refine o_no rfl rfl rfl rfl ?_|(apply py3;exact rfl;exact rfl;(first|exact pu1|exact puC|exact puN);exact rfl;exact rfl)|(apply g_drN (id := 4) okM [[],[],[1],[1,2],[1,2,3],[],[5],[1,2,3,4,5,6],[0,1,2,3,4,5,6,7],[0,1,2,3,4,5,6,7,8],[0,1,2,3,4,5,6,7,8,9]] [([],[]),([],[]),([],[]),([],[]),([],[]),([],[]),([],[]),([0],[1]),([],[]),([],[]),([],[0])] 1;(focus (refine dp 0 0 [18,19,20,21,22,23,24] [(true,0),(false,1)] pu1 ?_;refine dp 1 0 [17,22,23] [] pu1 ?_;refine dp 2 1 [17,22,23] [] (a_pure (sv := .one _) rfl) ?_;refine dp 3 3 [17,22,23] [] (a_pure (sv := .one _) rfl) ?_;refine dp 4 7 [17,22,23] [] puL ?_;refine dp 5 0 [17,18,19,20,21] [] (a_pure (sv := .one _) rfl) ?_;refine dp 6 1 [17,18,19,20,21] [] puL ?_;refine duN 7 63 [17] [] (callD1 (n := _) 0 (θ := [_]) (hD := (push_ok _ _ preB5))) (by exact rfl) (by exact rfl) ?_;refine dp 8 255 [] [] (a_pure (sv := .one _) rfl) ?_;refine dp 9 511 [] [] (a_pure (sv := .one _) rfl) ?_;refine duE 10 1023 [] [] (by exact a_st_bx rfl rfl rfl rfl (fN rfl rfl) (Nat.le_of_ble_eq_true rfl) rfl) (by exact rfl) (by exact rfl) ?_;(refine d_nil ?_;refine dN ?_)));any_goals kernel_rfl)|(apply g_drN (id := 5) okM [[],[],[1],[1,2],[1,2,3],[],[5],[1,2,3,4,5,6],[],[8],[8,9],[8,9,10],[1,2,3,4,5,6,7,8,9,10,11],[1,2,3,4,5,6,7,8,9,10,11,12],[0,1,2,3,4,5,6,7,8,9,10,11,12,13],[0,1,2,3,4,5,6,7,8,9,10,11,12,13,14],[0,1,2,3,4,5,6,7,8,9,10,11,12,13,14,15]] [([],[]),([],[]),([],[]),([],[]),([],[]),([],[]),([],[]),([0],[4]),([],[]),([],[]),([],[]),([],[]),([],[]),([1],[5]),([],[]),([],[]),([],[0])] 2;(focus (refine dp 0 0 [28,29,30,31,32,33,34,35,36,37,38,39,40] [(true,0),(false,4),(true,1),(false,5)] pu1 ?_;refine dp 1 0 [27,32,33,35,36,37,38] [] pu1 ?_;refine dp 2 1 [27,32,33,35,36,37,38] [] (a_pure (sv := .one _) rfl) ?_;refine dp 3 3 [27,32,33,35,36,37,38] [] (a_pure (sv := .one _) rfl) ?_;refine dp 4 7 [27,32,33,35,36,37,38] [] puL ?_;refine dp 5 0 [27,28,29,30,31,35,36,37,38] [] (a_pure (sv := .one _) rfl) ?_;refine dp 6 1 [27,28,29,30,31,35,36,37,38] [] puL ?_;refine duN 7 63 [27,35,36,37,38] [] (callD1 (n := _) 0 (θ := [_]) (hD := (push_ok _ _ preB5))) (by exact rfl) (by exact rfl) ?_;refine dp 8 0 [27,28,29,30,31,32,33,34] [(true,0),(false,4)] pu1 ?_;refine dp 9 1 [27,28,29,30,31,32,33,34] [(true,0),(false,4)] (a_pure (sv := .one _) rfl) ?_;refine dp 10 3 [27,28,29,30,31,32,33,34] [(true,0),(false,4)] (a_pure (sv := .one _) rfl) ?_;refine dp 11 7 [27,28,29,30,31,32,33,34] [(true,0),(false,4)] puL ?_;refine dp 12 2047 [27] [] (callD1 (n := _) 1 (θ := []) (hD := (nearest_ok _ preB5))) ?_;refine duN 13 4095 [27] [] (callD1 (n := _) 1 (θ := [_]) (hD := (push_ok _ _ preB5))) (by exact rfl) (by exact rfl) ?_;refine dp 14 16383 [] [] (a_pure (sv := .one _) rfl) ?_;refine dp 15 32767 [] [] (a_pure (sv := .one _) rfl) ?_;refine duE 16 65535 [] [] (by exact a_st_bx rfl rfl rfl rfl (fN rfl rfl) (Nat.le_of_ble_eq_true rfl) rfl) (by exact rfl) (by exact rfl) ?_;(refine d_nil ?_;refine dN ?_)));any_goals kernel_rfl)|((first|refine o_gs rfl rfl (fun hc => ?_) (fun hc => ?_)|refine g_cond rfl (fun hc => ?_) (fun hc => ?_)) <;> (try simp only [dcB] at hc) <;> (try first|contradiction|(exfalso;omega)))|fail
  all_goals (simp only [h6'] at *)
  all_goals
    repeat refine cr ?_
    refine ends_id ?_
    refine endK [?_,?_] (h2 := ?_) (h3 := ?_) (nd := ?_)
    rotate_left 2
    all_goals (repeat' first|exact ce0|refine ce ?_|refine ce2 ?_ ?_|(refine Or.inr (bx_eq rfl rfl ?_);(try dsimp only [C.ren,C.ren.all]);(try exact rfl))|exact SVLe.refl|refine ceb ?_)
    all_goals first | exact (show nodupB _ = true from rfl) | exact Or.inr rfl | (((first | rw [decide_eq_decide] | (symm; rw [decide_eq_false_iff_not]) | skip); simp only [stepL,stepR,if_true,if_false, *]; try omega))
theorem config_ok (m : Mach) (s : Int) (l r : List Int) (hx : (r.length : Int) ≤ 16777216) (hy : (l.length : Int) ≤ 16777216) : Does Tryz.prog 52 [.one (ruD m s l r)] [] (.agg [int s,.gv 0,.gv 1]) [roI l.reverse,roI r.reverse] := by
  refine does_of (k := 0) Tryz.func52 rfl Tryz.ntmps52 rfl rfl fun w F0 S0 ρ0 => ?_
  dsimp only [argT,argH]
  repeat' first|(apply n3;exact a_new (gb := .bx _) rfl;exact rfl;refine dA ?_)|refine cd ?_|(apply g_drN (id := 1) okM [[],[0],[0,1],[0,1,2],[],[4],[4,5],[4,5,6],[4,5,6,7],[],[9],[9,10],[9,10,11],[4,5,6,7,8,9,10,11,12],[0,1,2,3,4,5,6,7,8,9,10,11,12,13],[0,1,2,3,4,5,6,7,8,9,10,11,12,13,14]] [([],[]),([],[]),([],[]),([],[]),([],[]),([],[]),([],[]),([],[]),([0],[]),([],[]),([],[]),([],[]),([],[]),([1],[]),([],[]),([],[0])] 2;(focus (refine dp 0 0 [7,8,9,10,11,12,13,14,15,16] [(true,0),(true,1)] pu1 ?_;refine dp 1 1 [7,8,9,10,11,12,13,14,15,16] [(true,0),(true,1)] (a_pure (sv := .one _) rfl) ?_;refine dp 2 3 [7,8,9,10,11,12,13,14,15,16] [(true,0),(true,1)] (a_pure (sv := .one _) rfl) ?_;refine dp 3 7 [7,8,9,10,11,12,13,14,15,16] [(true,0),(true,1)] puL ?_;refine dp 4 0 [3,4,5,6,12,13,14,15] [] pu1 ?_;refine dp 5 1 [3,4,5,6,12,13,14,15] [] (a_pure (sv := .one _) rfl) ?_;refine dp 6 3 [3,4,5,6,12,13,14,15] [] (a_pure (sv := .one _) rfl) ?_;refine dp 7 7 [3,4,5,6,12,13,14,15] [] puL ?_;refine duN 8 15 [3,4,5,6,12,13,14,15] [] (callD1 (n := _) 0 (θ := []) (hD := (reversed_ok _ preB5))) (by exact rfl) (by exact rfl) ?_;refine dp 9 0 [3,4,5,6,7,8,9,10,11] [(true,0)] pu1 ?_;refine dp 10 1 [3,4,5,6,7,8,9,10,11] [(true,0)] (a_pure (sv := .one _) rfl) ?_;refine dp 11 3 [3,4,5,6,7,8,9,10,11] [(true,0)] (a_pure (sv := .one _) rfl) ?_;refine dp 12 7 [3,4,5,6,7,8,9,10,11] [(true,0)] puL ?_;refine duN 13 511 [3,4,5,6] [] (callD1 (n := _) 1 (θ := []) (hD := (reversed_ok _ preB5))) (by exact rfl) (by exact rfl) ?_;refine dp 14 16383 [] [] (a_pure (sv := .agg _) rfl) ?_;refine duE 15 32767 [] [] (by exact a_st_bx rfl rfl rfl rfl (fN rfl rfl) (Nat.le_of_ble_eq_true rfl) rfl) (by exact rfl) (by exact rfl) ?_;(refine d_nil ?_;refine dN ?_)));any_goals kernel_rfl)|fail
  repeat refine cr ?_
  refine ends_id ?_
  refine endK [?_,?_] (h2 := ?_) (h3 := ?_) (nd := ?_)
  rotate_left 2
  all_goals (repeat' first|exact ce0|refine ce ?_|refine ce2 ?_ ?_|exact SVLe.refl|refine ceb ?_)
  all_goals first | exact (show nodupB _ = true from rfl) | exact Or.inr rfl | (rfl)
theorem count_snoc (xs : List Int) (x i : Int) (h0 : 0 ≤ i) (h : i < xs.length) : (xs.take (i + 1).toNat).count x = (xs.take i.toNat).count x + if xs[i.toNat]'(by omega) = x then 1 else 0 := by
  rw [show (i + 1).toNat = i.toNat + 1 by omega,List.take_succ_eq_append_getElem (by omega),List.count_append,List.count_singleton]
  simp
theorem countOf_ok (xs : List Int) (x : Int) (hx : (xs.length : Int) ≤ 16777216) : Does Tryz.prog 122 [.one (shI xs),.one (int x)] [] (.one (int (xs.count x))) [] := by
  refine does_of (k := 0) Tryz.func122 rfl Tryz.ntmps122 rfl rfl fun w F0 S0 ρ0 => ?_
  dsimp only [argT,argH]
  repeat' first|(apply p3;(first|exact pu1|exact puN);exact rfl)|refine cd ?_|fail
  refine g_loop_id ?_
  refine loopK [1,4,8,9] [] (fun y : Int × Int => 0 ≤ y.1 ∧ y.1 ≤ xs.length ∧ y.2 = ((xs.take y.1.toNat).count x : Nat) ∧ y.2 ≤ y.1) (fun y => [(10,.one (int y.1)),(5,.one (int y.2))]) (fun _ => []) (fun y => (xs.length - y.1).toNat) ((0 : Int),(0 : Int)) [] (hI := ?_) (hr := ?_)
  · exact ⟨by simp,by simp,by simp,by simp⟩
  · rintro ⟨i,k⟩ ⟨h0,h1,h2,h3⟩
    dsimp only [List.cons_append,List.nil_append] at *
    skip
    repeat' first|(apply p3;(first|exact pu1|exact puC|exact a_add rfl rfl (by omega) (by omega)|exact puI);exact rfl)|refine cd ?_|((refine g_cond rfl (fun hc => ?_) (fun hc => ?_)) <;> (try simp only [dcB] at hc) <;> (try first|contradiction|(exfalso;omega)))|fail
    · refine q_again (i + 1,k + 1) [] (by exact stk) ?_ ?_
      · exact ⟨by dsimp only; omega,by dsimp only; omega,by dsimp only; rw [count_snoc xs x i h0 (by omega),if_pos hc,h2]; rfl,by dsimp only; omega⟩
      · dsimp only; omega
    · refine q_again (i + 1,k) [] (by exact stk) ?_ ?_
      · exact ⟨by dsimp only; omega,by dsimp only; omega,by dsimp only; rw [count_snoc xs x i h0 (by omega),if_neg hc,h2]; rfl,by dsimp only; omega⟩
      · dsimp only; omega
    · repeat refine cr ?_
      refine ends_id ?_
      refine endK [] (h2 := ?_) (h3 := ?_) (nd := ?_)
      all_goals (repeat' first|exact ce0|refine ce ?_|refine ce2 ?_ ?_|exact SVLe.refl|refine ceb ?_)
      all_goals first | exact (show nodupB _ = true from rfl) | exact Or.inr rfl | ((rw [h2,List.take_of_length_le (by omega)]))
end Go.Proofs.YtnkeamihfiobdaaGreatDoor
end
section
set_option linter.unusedVariables false
set_option linter.unusedSimpArgs false
set_option maxRecDepth 100000
set_option maxHeartbeats 4000000
namespace Go.Proofs.YtnkeamihfiobdaaGreatDoor
open Go Foot
theorem vSide_bd {sy : Int} {l : List Int} (h : vSide sy l = true) : (l.length : Int) ≤ 200 ∧ (∀ x ∈ l,0 ≤ x ∧ x ≤ sy - 1) ∧ l.getLastD 1 ≠ 0 := by
  unfold vSide at h
  simp only [Bool.and_eq_true,List.all_eq_true,decide_eq_true_eq] at h
  exact ⟨h.2.1,h.1,h.2.2⟩
theorem vSide_mk {sy : Int} {l : List Int} (h1 : (l.length : Int) ≤ 200) (h2 : ∀ x ∈ l,0 ≤ x ∧ x ≤ sy - 1) (h3 : l.getLastD 1 ≠ 0) : vSide sy l = true := by
  unfold vSide
  simp only [Bool.and_eq_true,List.all_eq_true,decide_eq_true_eq]
  exact ⟨h2,h1,h3⟩
theorem vConf_bd {m : Mach} {c : Conf} (h : vConf m c = true) : (0 ≤ c.st ∧ c.st ≤ m.st - 1) ∧ vSide m.sy c.le = true ∧ vSide m.sy c.ri = true := by
  unfold vConf at h
  simp only [Bool.and_eq_true,decide_eq_true_eq] at h
  exact ⟨h.1.1,h.1.2,h.2⟩
theorem vConf_mk {m : Mach} {c : Conf} (h : (0 ≤ c.st ∧ c.st ≤ m.st - 1) ∧ vSide m.sy c.le = true ∧ vSide m.sy c.ri = true) : vConf m c = true := by
  unfold vConf
  simp only [Bool.and_eq_true,decide_eq_true_eq]
  exact ⟨⟨h.1,h.2.1⟩,h.2.2⟩
abbrev noR : Rule' := ⟨0,0,-1⟩
@[irreducible] def ruAt (m : Mach) (c : Conf) : Rule' := m.ru.getD (c.st * m.sy + c.ri.headD 0).toNat noR
theorem headD_bd {sy : Int} {l : List Int} (hs : 2 ≤ sy) (h : vSide sy l = true) : 0 ≤ l.headD 0 ∧ l.headD 0 ≤ sy - 1 := by
  have := (vSide_bd h).2.1
  cases l with
  | nil => simp; omega
  | cons a l => exact this a (by simp)
theorem at_bd {m : Mach} {c : Conf} (hm : vMach m = true) (hc : vConf m c = true) : 0 ≤ c.st * m.sy ∧ 0 ≤ c.ri.headD 0 ∧ c.ri.headD 0 ≤ 5 ∧ c.st * m.sy + c.ri.headD 0 < m.ru.length ∧ (m.ru.length : Int) ≤ 6000 ∧ c.st ≤ 999 ∧ 0 ≤ c.st ∧ (c.le.length : Int) ≤ 200 ∧ (c.ri.length : Int) ≤ 200 := by
  obtain ⟨⟨h1,h2⟩,⟨h3,h4⟩,h5⟩ := vMach_bd hm
  obtain ⟨⟨h6,h7⟩,h8,h9⟩ := vConf_bd hc
  obtain ⟨h10,h11⟩ := headD_bd h1 h9
  have a1 : c.st * m.sy ≤ (m.st - 1) * m.sy := Int.mul_le_mul_of_nonneg_right h7 (by omega)
  have a2 : (m.st - 1) * m.sy = m.sy * m.st - m.sy := by rw [Int.sub_mul,Int.mul_comm]; omega
  have a3 : m.sy * m.st ≤ 6 * m.st := Int.mul_le_mul_of_nonneg_right h2 (by omega)
  exact ⟨Int.mul_nonneg h6 (by omega),h10,by omega,by omega,by omega,by omega,h6,(vSide_bd h8).1,(vSide_bd h9).1⟩
theorem ruAt_get {m : Mach} {c : Conf} (hm : vMach m = true) (hc : vConf m c = true) : m.ru[(c.st * m.sy + c.ri.headD 0).toNat]? = some (ruAt m c) := by
  have h := at_bd hm hc
  rw [ruAt,List.getD_eq_getElem?_getD,List.getElem?_eq_getElem (by omega)]
  rfl
theorem ruAt_ge {m : Mach} {c : Conf} (hm : vMach m = true) (hc : vConf m c = true) (h : (c.st * m.sy + c.ri.headD 0).toNat < m.ru.length) : m.ru[(c.st * m.sy + c.ri.headD 0).toNat] = ruAt m c :=
  (List.getElem?_eq_some_iff.1 (ruAt_get hm hc)).2
theorem ruAt_ok {m : Mach} {c : Conf} (hm : vMach m = true) (hc : vConf m c = true) (hn : ruAt m c ≠ noR) : (0 ≤ (ruAt m c).w ∧ (ruAt m c).w ≤ m.sy - 1) ∧ ((ruAt m c).m = 1 ∨ (ruAt m c).m = -1) ∧ 0 ≤ (ruAt m c).n ∧ (ruAt m c).n ≤ m.st - 1 := by
  have hg := ruAt_get hm hc
  have := hm
  unfold vMach at this
  rw [Bool.and_eq_true,List.all_eq_true] at this
  have := this.2 _ (List.mem_of_getElem? hg)
  unfold okRule at this
  rw [decide_eq_true_eq] at this
  exact this.resolve_left hn
theorem trimR_id {l : List Int} (h : l.getLastD 1 ≠ 0) : trimR l = l := by
  unfold trimR
  cases hl : l.reverse with
  | nil => rw [List.reverse_eq_nil_iff] at hl; subst hl; rfl
  | cons a r =>
    have : l = r.reverse ++ [a] := by rw [← List.reverse_reverse l,hl,List.reverse_cons]
    subst this
    rw [List.getLastD_concat] at h
    rw [List.dropWhile_cons_of_neg (by simpa using h)]
    simp
theorem trimR_norm (l : List Int) : (trimR l).getLastD 1 ≠ 0 := by
  unfold trimR
  rw [List.getLastD_eq_getLast?,List.getLast?_reverse]
  cases h : l.reverse.dropWhile (· == 0) with
  | nil => decide
  | cons a r =>
    have := List.head?_dropWhile_not (· == (0 : Int)) l.reverse
    rw [h] at this
    simp at this
    simpa using this
theorem trimR_mem {l : List Int} {x : Int} (h : x ∈ trimR l) : x ∈ l := by
  unfold trimR at h
  rw [List.mem_reverse] at h
  exact List.mem_reverse.1 ((List.dropWhile_sublist _).mem h)
theorem trimR_cons {x : Int} {l : List Int} (h : l.getLastD 1 ≠ 0) : trimR (x :: l) = if x = 0 ∧ l = [] then [] else x :: l := by
  split
  · rename_i e
    obtain ⟨rfl,rfl⟩ := e
    decide +kernel
  · rename_i hn
    apply trimR_id
    cases l with
    | nil => simpa using hn
    | cons a l => simpa using h
theorem norm_tail {l : List Int} (h : l.getLastD 1 ≠ 0) : l.tail.getLastD 1 ≠ 0 := by
  cases l with
  | nil => simp
  | cons a l =>
    cases l with
    | nil => simp
    | cons b l => simpa using h
theorem pushL_rev {x : Int} {l : List Int} (h : l.getLastD 1 ≠ 0) : pushL l.reverse x = (trimR (x :: l)).reverse := by
  rw [trimR_cons h]
  unfold pushL
  split
  · rename_i e
    rw [List.reverse_eq_nil_iff] at e
    rw [if_pos e,e.2]
  · rename_i e
    rw [List.reverse_eq_nil_iff] at e
    rw [if_neg e,List.reverse_cons]
theorem getLastD_rev (l : List Int) (d : Int) : l.reverse.getLastD d = l.headD d := by
  rw [List.getLastD_eq_getLast?,List.getLast?_reverse]
  cases l <;> rfl
theorem dropLast_rev (l : List Int) : l.reverse.dropLast = l.tail.reverse := List.dropLast_reverse
theorem stepL_rev {m : Mach} {c : Conf} (hc : vConf m c = true) (u : Rule') : stepL u c.le.reverse c.ri.reverse = (stepS u c).le.reverse := by
  obtain ⟨_,h1,h2⟩ := vConf_bd hc
  unfold stepL stepS
  split
  · exact pushL_rev (vSide_bd h1).2.2
  · exact dropLast_rev _
theorem stepR_rev {m : Mach} {c : Conf} (hc : vConf m c = true) (u : Rule') : stepR u c.le.reverse c.ri.reverse = (stepS u c).ri.reverse := by
  obtain ⟨_,h1,h2⟩ := vConf_bd hc
  unfold stepR stepS
  split
  · exact dropLast_rev _
  · rw [dropLast_rev,pushL_rev (norm_tail (vSide_bd h2).2.2),pushL_rev (trimR_norm _),getLastD_rev]
theorem stepS_n (u : Rule') (c : Conf) : (stepS u c).st = u.n := by unfold stepS; split <;> rfl
theorem stepS_ok {m : Mach} {c : Conf} (hm : vMach m = true) (hc : vConf m c = true) (hn : ruAt m c ≠ noR) (hr : roomS (stepS (ruAt m c) c) = true) : vConf m (stepS (ruAt m c) c) = true := by
  obtain ⟨hw,hmv,hst⟩ := ruAt_ok hm hc hn
  obtain ⟨_,h1,h2⟩ := vConf_bd hc
  have hb := (vMach_bd hm).1
  obtain ⟨a1,a2,a3⟩ := vSide_bd h1
  obtain ⟨b1,b2,b3⟩ := vSide_bd h2
  unfold roomS at hr
  rw [decide_eq_true_eq] at hr
  apply vConf_mk
  rw [stepS_n]
  refine ⟨hst,vSide_mk (by omega) ?_ ?_,vSide_mk (by omega) ?_ ?_⟩
  · unfold stepS
    split
    · intro x hx
      rcases List.mem_cons.1 (trimR_mem hx) with rfl | hx
      · exact hw
      · exact a2 x hx
    · intro x hx
      exact a2 x (List.mem_of_mem_tail hx)
  · unfold stepS
    split
    · exact trimR_norm _
    · exact norm_tail a3
  · unfold stepS
    split
    · intro x hx
      exact b2 x (List.mem_of_mem_tail hx)
    · intro x hx
      rcases List.mem_cons.1 (trimR_mem hx) with rfl | hx
      · exact headD_bd hb.1 h1
      · rcases List.mem_cons.1 (trimR_mem hx) with rfl | hx
        · exact hw
        · exact b2 x (List.mem_of_mem_tail hx)
  · unfold stepS
    split
    · exact norm_tail b3
    · exact trimR_norm _
theorem stepC_ok (m : Mach) (c : Conf) (hm : vMach m = true) (hc : vConf m c = true) : Does Tryz.prog 51 [.one (.gv 0)] [ruBx m c.st 1 2,roI c.le.reverse,roI c.ri.reverse] (.one (boo (roomS (stepS (ruAt m c) c)))) [ruBx m (stepS (ruAt m c) c).st 3 4,.dead,.dead,roI (stepS (ruAt m c) c).le.reverse,roI (stepS (ruAt m c) c).ri.reverse] := by
  have hb := at_bd hm hc
  have := step_ok m c.st c.le.reverse c.ri.reverse (ruAt m c) (by simp; omega) (by simp; omega) (by omega) (by omega) (by rw [getLastD_rev]; omega) (by rw [getLastD_rev]; omega) (by rw [getLastD_rev]; omega) (by rw [getLastD_rev]; exact ruAt_get hm hc)
  rw [stepL_rev hc,stepR_rev hc,List.length_reverse,List.length_reverse,← stepS_n (ruAt m c) c] at this
  unfold roomS
  exact this
theorem haltsC_ok (m : Mach) (c : Conf) (hm : vMach m = true) (hc : vConf m c = true) : Does Tryz.prog 50 [.one (ruD m c.st c.le.reverse c.ri.reverse)] [] (.one (boo (decide (ruAt m c = noR)))) [] := by
  have hb := at_bd hm hc
  have := halts_ok m c.st c.le.reverse c.ri.reverse (by simp; omega) (by omega) (by omega) (by rw [getLastD_rev]; omega) (by rw [getLastD_rev]; omega) (by rw [getLastD_rev]; omega)
  simp only [getLastD_rev,ruAt_ge hm hc] at this
  exact this
theorem configC_ok (m : Mach) (c : Conf) (hx : (c.le.length : Int) ≤ 16777216) (hy : (c.ri.length : Int) ≤ 16777216) : Does Tryz.prog 52 [.one (ruD m c.st c.le.reverse c.ri.reverse)] [] (.agg [int c.st,.gv 0,.gv 1]) [roI c.le,roI c.ri] := by
  have := config_ok m c.st c.le.reverse c.ri.reverse (by simpa using hy) (by simpa using hx)
  rw [List.reverse_reverse,List.reverse_reverse] at this
  exact this
end Go.Proofs.YtnkeamihfiobdaaGreatDoor
end
section
set_option linter.unusedVariables false
set_option linter.unusedSimpArgs false
set_option maxRecDepth 100000
set_option maxHeartbeats 4000000
namespace Go.Proofs.YtnkeamihfiobdaaGreatDoor
open Go Foot
structure Out (σ : Type) where
  x : σ
  n : Int
  c : Conf
  hd : Int
  halts : Bool
  full : Bool
section
variable {σ : Type} {m : Mach} {fc : Conf → Int → σ → σ} {fs : Conf → Int → Rule' → σ → σ} {b n hd : Int} {c : Conf} {x : σ} {O : Out σ}
end
theorem ask_ok {m : Mach} {c : Conf} {b : Int} (h : askC m c b = 0) : vMach m = true ∧ vConf m c = true ∧ 1 ≤ b ∧ b ≤ 20000 := by
  unfold askC at h
  split at h
  · rename_i h1
    split at h
    · rename_i h2; exact ⟨h1.1,h1.2,h2.1,h2.2⟩
    · cases h
  · cases h
end Go.Proofs.YtnkeamihfiobdaaGreatDoor
end
section
set_option linter.unusedVariables false
set_option linter.unusedSimpArgs false
set_option maxRecDepth 100000
set_option maxHeartbeats 4000000
namespace Go.Proofs.YtnkeamihfiobdaaGreatDoor
open Go Foot
structure Prf where
  k : Int
  nu : List Int
  wo : List (List Int)
end Go.Proofs.YtnkeamihfiobdaaGreatDoor
end
section
set_option linter.unusedVariables false
set_option linter.unusedSimpArgs false
set_option maxRecDepth 100000
set_option maxHeartbeats 4000000
namespace Go.Proofs.YtnkeamihfiobdaaGreatDoor
open Go Foot
end Go.Proofs.YtnkeamihfiobdaaGreatDoor
end
section
set_option linter.unusedVariables false
set_option linter.unusedSimpArgs false
set_option maxRecDepth 100000
set_option maxHeartbeats 4000000
namespace Go.Proofs.YtnkeamihfiobdaaGreatDoor
open Go Foot
end Go.Proofs.YtnkeamihfiobdaaGreatDoor
end
section
set_option linter.unusedVariables false
set_option linter.unusedSimpArgs false
set_option maxRecDepth 100000
namespace Go.Proofs.YtnkeamihfiobdaaGreatDoor
open Go Foot
section
variable {P : Program} {g : Gh} {dst : Option Tmp} {ty : TypeId} {pos : String} {after : Array Edge} {guard : Option (Nat × Bool)} {st : St} {x y : Operand}
end
end Go.Proofs.YtnkeamihfiobdaaGreatDoor
end
section
set_option linter.unusedVariables false
set_option linter.unusedSimpArgs false
set_option maxRecDepth 100000
set_option maxHeartbeats 4000000
namespace Go.Proofs.YtnkeamihfiobdaaGreatDoor
open Go Foot
end Go.Proofs.YtnkeamihfiobdaaGreatDoor
end
section
set_option linter.unusedVariables false
set_option linter.unusedSimpArgs false
set_option maxRecDepth 100000
set_option maxHeartbeats 4000000
namespace Go.Proofs.YtnkeamihfiobdaaGreatDoor
open Go Foot
end Go.Proofs.YtnkeamihfiobdaaGreatDoor
end
section
set_option linter.unusedVariables false
set_option linter.unusedSimpArgs false
set_option maxRecDepth 100000
set_option maxHeartbeats 4000000
namespace Go.Proofs.YtnkeamihfiobdaaGreatDoor
open Go Foot
end Go.Proofs.YtnkeamihfiobdaaGreatDoor
end
section
set_option linter.unusedVariables false
set_option linter.unusedSimpArgs false
set_option maxRecDepth 100000
set_option maxHeartbeats 4000000
namespace Go.Proofs.YtnkeamihfiobdaaGreatDoor
open Go Foot
end Go.Proofs.YtnkeamihfiobdaaGreatDoor
end
section
set_option linter.unusedVariables false
set_option linter.unusedSimpArgs false
set_option maxRecDepth 100000
set_option maxHeartbeats 4000000
namespace Go.Proofs.YtnkeamihfiobdaaGreatDoor
open Go Foot Go.RowKit
end Go.Proofs.YtnkeamihfiobdaaGreatDoor
end
section
set_option linter.unusedVariables false
set_option linter.unusedSimpArgs false
set_option maxRecDepth 100000
set_option maxHeartbeats 4000000
namespace Go.Proofs.YtnkeamihfiobdaaGreatDoor
open Go Foot
theorem preB14 {p : Prop} (h : p := by first | with_reducible assumption | omega | (simp only [List.length_append,List.length_cons,List.length_nil,List.length_set,List.length_replicate,List.length_take,List.length_drop,List.length_tail,List.length_dropLast,List.length_reverse] at *; omega) | exact mem_len (by assumption) (by omega) | (with_reducible refine Int.le_trans (Int.ofNat_le.2 (trimR_len _)) ?_; simp only [List.length_cons,List.length_tail]; omega) | (exact (ruAt_ok (by assumption) (by assumption) (by assumption)).2.1) | (have := vMach_bd (by assumption); omega) | (with_reducible refine Int.le_trans (Int.ofNat_le.2 (pushL_len _ _)) ?_; simp only [List.length_dropLast]; omega) | exact (ask_ok (by assumption)).1 | exact (ask_ok (by assumption)).2.1 | exact (ask_ok (by assumption)).2.2.1 | exact (ask_ok (by assumption)).2.2.2 | trivial) : p := h
theorem mul64_ok (x y : Int) (h1 : 0 ≤ x) (h2 : x ≤ 16777216) (h3 : 0 ≤ y) (h4 : y ≤ 16777216) (h5 : 0 ≤ x * y) (h6 : x * y ≤ 4294967295) : Does Tryz.prog 234 [.one (u64 x),.one (u64 y)] [] (.tup [(false,[u64 0]),(false,[u64 (x * y)])]) [] := by
  have h7 : x * y < 18446744073709551616 := by omega
  refine does_of (k := 0) Tryz.func234 rfl Tryz.ntmps234 rfl rfl fun w F0 S0 ρ0 => ?_
  dsimp only [argT,argH]
  repeat' first|(apply p3;(first|exact pu1|exact u_and rfl rfl (by omega) (by omega)|exact u_shr rfl rfl (by omega) (by omega)|exact u_mul rfl rfl (by first|omega|assumption) (by first|omega|assumption)|exact u_add rfl rfl (by first|omega|assumption) (by first|omega|assumption));exact rfl)|refine cd ?_|fail
  repeat refine cr ?_
  refine ends_id ?_
  refine endK [] (h2 := ?_) (h3 := ?_) (nd := ?_)
  all_goals (repeat' first|exact ce0|refine ce ?_|refine ce2 ?_ ?_|exact SVLe.refl|refine ceb ?_)
  all_goals first | exact (show nodupB _ = true from rfl) | exact Or.inr rfl | (simp)
theorem mulU_ok (x y : Int) (h1 : 0 ≤ x) (h2 : x ≤ 16777216) (h3 : 0 ≤ y) (h4 : y ≤ 16777216) (h5 : 0 ≤ x * y) (h6 : x * y ≤ 4294967295) : Does Tryz.prog 163 [.one (u64 x),.one (u64 y)] [] (.tup [(false,[u64 0]),(false,[u64 (x * y)])]) [] := by
  refine does_of (k := 0) Tryz.func163 rfl Tryz.ntmps163 rfl rfl fun w F0 S0 ρ0 => ?_
  dsimp only [argT,argH]
  repeat' first|(apply p3;(exact pu1);exact rfl)|refine cd ?_|(apply c4 0;exact callK1 (θ := []) (hD := (mul64_ok _ _ preB14 preB14 preB14 preB14 preB14 preB14));exact rfl;exact rfl;exact rfl;refine dM ?_)|fail
  repeat refine cr ?_
  refine ends_id ?_
  refine endK [] (h2 := ?_) (h3 := ?_) (nd := ?_)
  all_goals (repeat' first|exact ce0|refine ce ?_|refine ce2 ?_ ?_|exact SVLe.refl|refine ceb ?_)
  all_goals first | exact (show nodupB _ = true from rfl) | exact Or.inr rfl | (rfl)
end Go.Proofs.YtnkeamihfiobdaaGreatDoor
end
section
set_option linter.unusedVariables false
set_option linter.unusedSimpArgs false
set_option maxRecDepth 100000
set_option maxHeartbeats 1000000
namespace Go.Proofs.YtnkeamihfiobdaaGreatDoor
open Go Foot Go.RowKit
def ixT (x : Bs) : List Bs → Int
  | [] => -1
  | y :: l => if x = y then 0 else if ixT x l < 0 then -1 else ixT x l + 1
theorem ixT_ge (x : Bs) : ∀ l : List Bs,-1 ≤ ixT x l
  | [] => by rw [ixT]; omega
  | y :: l => by have := ixT_ge x l; rw [ixT]; split; omega; split <;> omega
theorem ixT_lt (x : Bs) : ∀ l : List Bs,ixT x l < l.length
  | [] => by rw [ixT]; simp
  | y :: l => by have := ixT_lt x l; rw [ixT,List.length_cons]; split; omega; split <;> omega
theorem ixT_app {x : Bs} : ∀ {a b : List Bs},x ∉ a → ixT x (a ++ b) = if ixT x b < 0 then -1 else a.length + ixT x b
  | [],b,_ => by
    rw [List.nil_append]
    have := ixT_ge x b
    split
    · omega
    · simp
  | y :: a,b,h => by
    have ih := ixT_app (x := x) (a := a) (b := b) (fun q => h (by simp [q]))
    have hne : ¬ x = y := fun e => h (by simp [e])
    rw [List.cons_append,ixT,if_neg hne,ih]
    by_cases q : ixT x b < 0
    · rw [if_pos q,if_pos q,if_pos (by omega)]
    · rw [if_neg q,if_neg q,if_neg (by omega)]
      simp only [List.length_cons]
      omega
theorem ixT_no {x : Bs} {l : List Bs} (h : x ∉ l) : ixT x l = -1 := by
  have := ixT_app (x := x) (a := l) (b := []) h
  rw [List.append_nil] at this
  rw [this]
  rfl
theorem ixT_at {x : Bs} {l : List Bs} {i : Nat} (h : i < l.length) (h1 : x ∉ l.take i) (h2 : x = l[i]) : ixT x l = i := by
  have e := List.take_append_drop i l
  rw [List.drop_eq_getElem_cons h] at e
  rw [← e,ixT_app h1]
  have : ixT x (l[i] :: l.drop (i + 1)) = 0 := by rw [ixT,if_pos h2]
  rw [this,List.length_take]
  omega
def nmL : List Bs := [[65],[97],[66],[98],[65,49],[97,49],[66,49],[98,49],[80,49],[80,48],[112,49],[112,48],[81,49],[81,48],[114,49],[114,48],[69],[101],[70,49],[70,48],[102,49],[102,48],[72,49],[72,48],[104,49],[104,48],[74,49],[74,48],[106,49],[106,48]]
abbrev xN : Bs := [120]
@[irreducible] def ltN (s : Bs) (q : Int) : Int := 1 + 30 * q + ixT s nmL
theorem ltN_i {s : Bs} (k : Int) (h : ixT s nmL = k) (q : Int) : ltN s q = 1 + 30 * q + k := by unfold ltN; rw [h]
theorem ltN_bd (s : Bs) (q : Int) : 30 * q ≤ ltN s q ∧ ltN s q ≤ 30 * q + 30 := by
  unfold ltN
  have h1 := ixT_ge s nmL
  have h2 := ixT_lt s nmL
  have : nmL.length = 30 := rfl
  omega
@[irreducible] def wdN (ns : List Bs) (q : Int) : List Int := ns.map fun s => if s = xN then 0 else ltN s q
theorem wdN_snoc (ns : List Bs) (s : Bs) (q : Int) : wdN (ns ++ [s]) q = wdN ns q ++ [if s = xN then 0 else ltN s q] := by unfold wdN; rw [List.map_append]; rfl
theorem wdN_nil (q : Int) : wdN [] q = [] := by unfold wdN; rfl
theorem wdN_len (ns : List Bs) (q : Int) : (wdN ns q).length = ns.length := by unfold wdN; rw [List.length_map]
theorem wdN_bd {ns : List Bs} {q y : Int} (hq : 0 ≤ q) (h : y ∈ wdN ns q) : 0 ≤ y ∧ y ≤ 30 * q + 30 := by
  unfold wdN at h
  obtain ⟨s,hs,e⟩ := List.mem_map.1 h
  subst e
  split
  · omega
  · have := ltN_bd s q
    omega
@[irreducible] def fixN (s : Bs) : List Bs :=
  if s = [65] then [[65,49],xN] else if s = [97] then [[97,49],xN] else if s = [66] then [[66,49]] else if s = [98] then [[98,49]]
  else if s = [65,49] then [[80,49],[80,48]] else if s = [97,49] then [[112,49],[112,48]] else if s = [66,49] then [[81,49],[81,48]] else if s = [98,49] then [[114,49],[114,48]]
  else if s = [69] then [[72,49],[72,48]] else if s = [101] then [[104,49],[104,48]]
  else if s = [70,49] then [[74,49],[74,48],[106,49],[106,48]] else if s = [70,48] then [[74,49],[74,48]]
  else if s = [102,49] then [[106,49],[106,48]] else if s = [102,48] then [[106,49],[106,48]]
  else if s = [72,49] then [[65],xN] else if s = [72,48] then [xN,[65],xN] else if s = [104,49] then [[97],xN] else if s = [104,48] then [[97],xN]
  else if s = [74,49] then [[66],xN] else if s = [74,48] then [[66],xN] else [[98],xN]
@[irreducible] def rlN (r : Rule') (s : Int) : List (List Bs) :=
  if 0 < r.m then [(if s = 0 then [xN] else []) ++ [[65],xN] ++ (if r.w = 1 then [[97],xN] else []),[[97],xN,[97],xN],[[66],xN],[[98],xN]]
  else [(if s = 0 then [xN] else []) ++ [[69]],[[101]],[[70,49],[70,48]] ++ (if r.w = 1 then [[102,49],[102,48],[102,49],[102,48]] else []),[[102,49],[102,48],[102,49],[102,48],[102,49],[102,48],[102,49],[102,48]]]
@[irreducible] def rwN (r : Rule') (s : Int) (i : Nat) : List Int := if r = noR then [] else wdN ((rlN r s).getD i []) r.n
theorem rwN_no (s : Int) (i : Nat) : rwN noR s i = [] := by unfold rwN; rw [if_pos rfl]
@[irreducible] def fxN (q : Int) (i : Nat) : List Int := wdN (fixN (nmL.getD i [])) q
def blkN (q : Int) (a b : Nat → List Int) : List (List Int) := [fxN q 0,fxN q 1,fxN q 2,fxN q 3,fxN q 4,fxN q 5,fxN q 6,fxN q 7,b 0,a 0,b 1,a 1,b 2,a 2,b 3,a 3,fxN q 16,fxN q 17,fxN q 18,fxN q 19,fxN q 20,fxN q 21,fxN q 22,fxN q 23,fxN q 24,fxN q 25,fxN q 26,fxN q 27,fxN q 28,fxN q 29]
theorem blkN_len (q : Int) (a b : Nat → List Int) : (blkN q a b).length = 30 := rfl
@[irreducible] def ruN (m : Mach) (q : Nat) (s : Nat) : Rule' := m.ru.getD (2 * q + s) noR
def tmW (m : Mach) : Nat → List (List Int)
  | 0 => [[]]
  | q + 1 => tmW m q ++ blkN q (rwN (ruN m q 0) 0) (rwN (ruN m q 1) 1)
def tmH (m : Mach) : Nat → List Int
  | 0 => []
  | q + 1 => tmH m q ++ ((if ruN m q 1 = noR then [1 + 30 * (q : Int) + 8] else []) ++ (if ruN m q 0 = noR then [1 + 30 * (q : Int) + 9] else []))
def tmU (m : Mach) : Nat → List Int
  | 0 => []
  | q + 1 => tmU m q ++ ((if ruN m q 0 = noR then [1 + 30 * (q : Int) + 9] else []) ++ (if ruN m q 1 = noR then [1 + 30 * (q : Int) + 8] else []))
abbrev tmT (m : Mach) : Tg := ⟨2,tmW m m.st.toNat,tmH m m.st.toNat⟩
theorem tmW_len (m : Mach) : ∀ q : Nat,(tmW m q).length = 1 + 30 * q
  | 0 => rfl
  | q + 1 => by rw [tmW,List.length_append,tmW_len m q,blkN_len]; omega
theorem tmU_perm (m : Mach) : ∀ q : Nat,(tmU m q).Perm (tmH m q)
  | 0 => List.Perm.refl _
  | q + 1 => by rw [tmU,tmH]; exact (tmU_perm m q).append List.perm_append_comm
theorem tmH_mem (m : Mach) : ∀ (q : Nat) {x : Int},x ∈ tmH m q → 1 ≤ x ∧ x ≤ 30 * q
  | 0,x,h => by simp [tmH] at h
  | q + 1,x,h => by
    rw [tmH] at h
    rcases List.mem_append.1 h with h | h
    · have := tmH_mem m q h; omega
    · rcases List.mem_append.1 h with h | h
      · split at h
        · simp at h; omega
        · simp at h
      · split at h
        · simp at h; omega
        · simp at h
theorem tmH_asc (m : Mach) : ∀ q : Nat,(tmH m q).Pairwise (· < ·)
  | 0 => by simp [tmH]
  | q + 1 => by
    rw [tmH,List.pairwise_append]
    refine ⟨tmH_asc m q,?_,?_⟩
    · split <;> split <;> simp <;> omega
    · intro x hx y hy
      have := (tmH_mem m q hx).2
      rcases List.mem_append.1 hy with h | h
      · split at h
        · simp at h; omega
        · simp at h
      · split at h
        · simp at h; omega
        · simp at h
theorem tmH_len (m : Mach) : ∀ q : Nat,(tmH m q).length ≤ 2 * q
  | 0 => by simp [tmH]
  | q + 1 => by
    have := tmH_len m q
    rw [tmH,List.length_append,List.length_append]
    split <;> split <;> simp <;> omega
theorem tmU_len (m : Mach) (q : Nat) : (tmU m q).length ≤ 2 * q := by rw [(tmU_perm m q).length_eq]; exact tmH_len m q
theorem ite_len {c : Prop} [Decidable c] {a b : List Bs} (ha : a.length ≤ 8) (hb : b.length ≤ 8) : (if c then a else b).length ≤ 8 := by
  by_cases h : c
  · rw [if_pos h]; exact ha
  · rw [if_neg h]; exact hb
theorem fixN_len (s : Bs) : (fixN s).length ≤ 8 := by
  unfold fixN
  repeat (refine ite_len (by decide) ?_)
  decide
theorem rlN_le {r : Rule'} {s : Int} : ∀ x ∈ rlN r s,x.length ≤ 8 := by
  unfold rlN
  split <;> (repeat (any_goals split)) <;> simp
theorem fxN_gd {q : Int} (hq : 0 ≤ q) (i : Nat) : (fxN q i).length ≤ 8 ∧ ∀ y ∈ fxN q i,0 ≤ y ∧ y ≤ 30 * q + 30 := by
  unfold fxN
  exact ⟨by rw [wdN_len]; exact fixN_len _,fun y h => wdN_bd hq h⟩
theorem rwN_gd {r : Rule'} {s : Int} (hr : r = noR ∨ 0 ≤ r.n) (i : Nat) : (rwN r s i).length ≤ 8 ∧ ∀ y ∈ rwN r s i,0 ≤ y ∧ (y ≤ 30 * r.n + 30 ∧ r ≠ noR) := by
  unfold rwN
  by_cases h : r = noR
  · rw [if_pos h]; simp
  · rw [if_neg h]
    have hr' : 0 ≤ r.n := by rcases hr with e | e; exact absurd e h; exact e
    refine ⟨?_,fun y hy => ⟨(wdN_bd hr' hy).1,(wdN_bd hr' hy).2,h⟩⟩
    rw [wdN_len,List.getD_eq_getElem?_getD]
    cases e : (rlN r s)[i]? with
    | none => simp
    | some x => exact rlN_le x (List.mem_of_getElem? e)
structure TmOk (m : Mach) : Prop where
  v : vMach m = true
  y : m.sy = 2
  s : m.st ≤ 6
theorem tm_ru {m : Mach} (g : TmOk m) {q s : Nat} (hq : q < m.st.toNat) (hs : s < 2) : ruN m q s = noR ∨ (((ruN m q s).w = 0 ∨ (ruN m q s).w = 1) ∧ ((ruN m q s).m = 1 ∨ (ruN m q s).m = -1) ∧ 0 ≤ (ruN m q s).n ∧ (ruN m q s).n ≤ m.st - 1) := by
  have hb := vMach_bd g.v
  have hy := g.y
  have hv := g.v
  rw [hy] at hb
  have hl : 2 * q + s < m.ru.length := by omega
  unfold vMach at hv
  rw [Bool.and_eq_true,List.all_eq_true] at hv
  have := hv.2 _ (List.getElem_mem hl)
  unfold okRule at this
  rw [decide_eq_true_eq,get_getD _ noR,hy] at this
  unfold ruN
  rcases this with h | ⟨h1,h2,h3⟩
  · exact .inl h
  · exact .inr ⟨by omega,h2,h3⟩
theorem tmW_gd {m : Mach} (g : TmOk m) : ∀ (k : Nat),k ≤ m.st.toNat → ∀ x ∈ tmW m k,x.length ≤ 8 ∧ ∀ y ∈ x,0 ≤ y ∧ y ≤ 30 * m.st
  | 0,_,x,h => by simp [tmW] at h; subst h; simp
  | k + 1,hk,x,h => by
    rw [tmW] at h
    rcases List.mem_append.1 h with h | h
    · exact tmW_gd g k (by omega) x h
    · have r0 := tm_ru g (q := k) (s := 0) (by omega) (by omega)
      have r1 := tm_ru g (q := k) (s := 1) (by omega) (by omega)
      have f : ∀ i,(fxN (k : Int) i).length ≤ 8 ∧ ∀ y ∈ fxN (k : Int) i,0 ≤ y ∧ y ≤ 30 * m.st := fun i => by
        have := fxN_gd (q := (k : Int)) (by omega) i
        exact ⟨this.1,fun y hy => by have := this.2 y hy; omega⟩
      have f0 : ∀ i,(rwN (ruN m k 0) 0 i).length ≤ 8 ∧ ∀ y ∈ rwN (ruN m k 0) 0 i,0 ≤ y ∧ y ≤ 30 * m.st := fun i => by
        have := rwN_gd (r := ruN m k 0) (s := 0) (by rcases r0 with h | h; exact .inl h; exact .inr h.2.2.1) i
        refine ⟨this.1,fun y hy => ?_⟩
        have h5 := this.2 y hy
        rcases r0 with h | h
        · exact absurd h h5.2.2
        · omega
      have f1 : ∀ i,(rwN (ruN m k 1) 1 i).length ≤ 8 ∧ ∀ y ∈ rwN (ruN m k 1) 1 i,0 ≤ y ∧ y ≤ 30 * m.st := fun i => by
        have := rwN_gd (r := ruN m k 1) (s := 1) (by rcases r1 with h | h; exact .inl h; exact .inr h.2.2.1) i
        refine ⟨this.1,fun y hy => ?_⟩
        have h5 := this.2 y hy
        rcases r1 with h | h
        · exact absurd h h5.2.2
        · omega
      simp only [blkN,List.mem_cons,List.not_mem_nil,or_false] at h
      repeat (first | exact f _ | exact f0 _ | exact f1 _ | (rcases h with h | h; · (subst h; first | exact f _ | exact f0 _ | exact f1 _)) | subst h)
theorem asc_rises {l : List Int} (h : l.Pairwise (· < ·)) : risesL l = true := by
  unfold risesL
  rw [List.all_eq_true]
  intro i hi
  rw [List.mem_range] at hi
  rw [decide_eq_true_eq,← get_getD l 0 _ (by omega),← get_getD l 0 _ (by omega)]
  exact List.pairwise_iff_getElem.1 h i (i + 1) (by omega) (by omega) (by omega)
theorem tmT_v {m : Mach} (g : TmOk m) : vTag (tmT m) = true := by
  have hb := vMach_bd g.v
  have hs := g.s
  have hl := tmW_len m m.st.toNat
  have hl' : ((tmT m).wo.length : Int) = 1 + 30 * m.st := by show ((tmW m m.st.toNat).length : Int) = _; omega
  unfold vTag
  rw [hl']
  simp only [Bool.and_eq_true,decide_eq_true_eq,List.all_eq_true]
  refine ⟨⟨⟨by decide,by omega,by omega⟩,asc_rises (tmH_asc m _),?_⟩,fun x hx => ?_⟩
  · unfold inAll
    rw [List.all_eq_true]
    intro x hx
    have := tmH_mem m _ hx
    rw [decide_eq_true_eq]
    omega
  · have := tmW_gd g _ (Nat.le_refl _) x hx
    unfold tgWord inAll
    rw [Bool.and_eq_true,List.all_eq_true,decide_eq_true_eq]
    refine ⟨fun y hy => ?_,by omega⟩
    have := this.2 y hy
    rw [decide_eq_true_eq]
    omega
end Go.Proofs.YtnkeamihfiobdaaGreatDoor
end
section
set_option linter.unusedVariables false
set_option linter.unusedSimpArgs false
set_option maxRecDepth 100000
set_option maxHeartbeats 1000000
namespace Go.Proofs.YtnkeamihfiobdaaGreatDoor
open Go Foot Go.RowKit
abbrev noN : Nat → List Int := fun _ => []
def tbgN : List (List Bs) := [[[65],[65,49],xN],[[97],[97,49],xN],[[66],[66,49]],[[98],[98,49]],[[65,49],[80,49],[80,48]],[[97,49],[112,49],[112,48]],[[66,49],[81,49],[81,48]],[[98,49],[114,49],[114,48]],[[69],[72,49],[72,48]],[[101],[104,49],[104,48]],[[70,49],[74,49],[74,48],[106,49],[106,48]],[[70,48],[74,49],[74,48]],[[102,49],[106,49],[106,48]],[[102,48],[106,49],[106,48]],[[72,49],[65],xN],[[72,48],xN,[65],xN],[[104,49],[97],xN],[[104,48],[97],xN],[[74,49],[66],xN],[[74,48],[66],xN],[[106,49],[98],xN],[[106,48],[98],xN]]
@[irreducible] def seN (q p : Int) (ws : List (List Int)) (s : Bs) (ns : List Bs) : List (List Int) := ws.set (ltN s q).toNat (wdN ns p)
theorem seN_len (q p : Int) (ws : List (List Int)) (s : Bs) (ns : List Bs) : (seN q p ws s ns).length = ws.length := by unfold seN; simp
def stN (q : Int) (ws : List (List Int)) (l : List (List Bs)) : List (List Int) := l.foldl (fun ws r => seN q q ws (r.headD []) r.tail) ws
theorem stN_snoc (q : Int) (ws : List (List Int)) (l : List (List Bs)) (r : List Bs) : stN q ws (l ++ [r]) = seN q q (stN q ws l) (r.headD []) r.tail := by
  unfold stN
  rw [List.foldl_append]
  rfl
theorem stN_len (q : Int) : ∀ (l : List (List Bs)) (ws : List (List Int)),(stN q ws l).length = ws.length
  | [],ws => rfl
  | r :: l,ws => by
    show (stN q (seN q q ws (r.headD []) r.tail) l).length = _
    rw [stN_len q l,seN_len]
theorem set_mdl {pre l post : List (List Int)} {k : Nat} {x : List Int} (h : k < l.length) : (pre ++ l ++ post).set (pre.length + k) x = pre ++ l.set k x ++ post := by
  rw [List.append_assoc,List.set_append_right _ _ (by omega),Nat.add_sub_cancel_left,List.set_append_left _ _ h,List.append_assoc]
theorem ltN_at {s : Bs} {q : Nat} {pre : List (List Int)} (hp : pre.length = 1 + 30 * q) (h : 0 ≤ ixT s nmL) : (ltN s (q : Int)).toNat = pre.length + (ixT s nmL).toNat := by
  unfold ltN
  omega
theorem stN_mid {q : Nat} {pre post : List (List Int)} (hp : pre.length = 1 + 30 * q) : ∀ (l : List (List Bs)) (b : List (List Int)),b.length = 30 → (∀ r ∈ l,0 ≤ ixT (r.headD []) nmL) → stN q (pre ++ b ++ post) l = pre ++ l.foldl (fun b r => b.set (ixT (r.headD []) nmL).toNat (wdN r.tail q)) b ++ post
  | [],b,_,_ => rfl
  | r :: l,b,hb,h => by
    have h0 := h r (by simp)
    have h1 := ixT_lt (r.headD []) nmL
    have h2 : nmL.length = 30 := rfl
    show stN q (seN q q (pre ++ b ++ post) (r.headD []) r.tail) l = _
    rw [seN,ltN_at hp h0,set_mdl (by omega),stN_mid hp l _ (by rw [List.length_set]; exact hb) (fun r hr => h r (by simp [hr]))]
    rfl
def tbgK : List (Nat × List Bs) := [(0,[[65,49],xN]),(1,[[97,49],xN]),(2,[[66,49]]),(3,[[98,49]]),(4,[[80,49],[80,48]]),(5,[[112,49],[112,48]]),(6,[[81,49],[81,48]]),(7,[[114,49],[114,48]]),(16,[[72,49],[72,48]]),(17,[[104,49],[104,48]]),(18,[[74,49],[74,48],[106,49],[106,48]]),(19,[[74,49],[74,48]]),(20,[[106,49],[106,48]]),(21,[[106,49],[106,48]]),(22,[[65],xN]),(23,[xN,[65],xN]),(24,[[97],xN]),(25,[[97],xN]),(26,[[66],xN]),(27,[[66],xN]),(28,[[98],xN]),(29,[[98],xN])]
theorem tbg_K : tbgN.map (fun r => ((ixT (r.headD []) nmL).toNat,r.tail)) = tbgK := by decide
theorem tbg_fold (q : Int) : ∀ (l : List (List Bs)) (b : List (List Int)),l.foldl (fun b r => b.set (ixT (r.headD []) nmL).toNat (wdN r.tail q)) b = (l.map (fun r => ((ixT (r.headD []) nmL).toNat,r.tail))).foldl (fun b e => b.set e.1 (wdN e.2 q)) b
  | [],b => rfl
  | r :: l,b => by
    rw [List.foldl_cons,List.map_cons,List.foldl_cons,tbg_fold q l]
theorem fx_0 (q : Int) : fxN q 0 = wdN [[65,49],xN] q := by unfold fxN; rw [show fixN (nmL.getD 0 []) = [[65,49],xN] by unfold fixN; decide]
theorem fx_1 (q : Int) : fxN q 1 = wdN [[97,49],xN] q := by unfold fxN; rw [show fixN (nmL.getD 1 []) = [[97,49],xN] by unfold fixN; decide]
theorem fx_2 (q : Int) : fxN q 2 = wdN [[66,49]] q := by unfold fxN; rw [show fixN (nmL.getD 2 []) = [[66,49]] by unfold fixN; decide]
theorem fx_3 (q : Int) : fxN q 3 = wdN [[98,49]] q := by unfold fxN; rw [show fixN (nmL.getD 3 []) = [[98,49]] by unfold fixN; decide]
theorem fx_4 (q : Int) : fxN q 4 = wdN [[80,49],[80,48]] q := by unfold fxN; rw [show fixN (nmL.getD 4 []) = [[80,49],[80,48]] by unfold fixN; decide]
theorem fx_5 (q : Int) : fxN q 5 = wdN [[112,49],[112,48]] q := by unfold fxN; rw [show fixN (nmL.getD 5 []) = [[112,49],[112,48]] by unfold fixN; decide]
theorem fx_6 (q : Int) : fxN q 6 = wdN [[81,49],[81,48]] q := by unfold fxN; rw [show fixN (nmL.getD 6 []) = [[81,49],[81,48]] by unfold fixN; decide]
theorem fx_7 (q : Int) : fxN q 7 = wdN [[114,49],[114,48]] q := by unfold fxN; rw [show fixN (nmL.getD 7 []) = [[114,49],[114,48]] by unfold fixN; decide]
theorem fx_16 (q : Int) : fxN q 16 = wdN [[72,49],[72,48]] q := by unfold fxN; rw [show fixN (nmL.getD 16 []) = [[72,49],[72,48]] by unfold fixN; decide]
theorem fx_17 (q : Int) : fxN q 17 = wdN [[104,49],[104,48]] q := by unfold fxN; rw [show fixN (nmL.getD 17 []) = [[104,49],[104,48]] by unfold fixN; decide]
theorem fx_18 (q : Int) : fxN q 18 = wdN [[74,49],[74,48],[106,49],[106,48]] q := by unfold fxN; rw [show fixN (nmL.getD 18 []) = [[74,49],[74,48],[106,49],[106,48]] by unfold fixN; decide]
theorem fx_19 (q : Int) : fxN q 19 = wdN [[74,49],[74,48]] q := by unfold fxN; rw [show fixN (nmL.getD 19 []) = [[74,49],[74,48]] by unfold fixN; decide]
theorem fx_20 (q : Int) : fxN q 20 = wdN [[106,49],[106,48]] q := by unfold fxN; rw [show fixN (nmL.getD 20 []) = [[106,49],[106,48]] by unfold fixN; decide]
theorem fx_21 (q : Int) : fxN q 21 = wdN [[106,49],[106,48]] q := by unfold fxN; rw [show fixN (nmL.getD 21 []) = [[106,49],[106,48]] by unfold fixN; decide]
theorem fx_22 (q : Int) : fxN q 22 = wdN [[65],xN] q := by unfold fxN; rw [show fixN (nmL.getD 22 []) = [[65],xN] by unfold fixN; decide]
theorem fx_23 (q : Int) : fxN q 23 = wdN [xN,[65],xN] q := by unfold fxN; rw [show fixN (nmL.getD 23 []) = [xN,[65],xN] by unfold fixN; decide]
theorem fx_24 (q : Int) : fxN q 24 = wdN [[97],xN] q := by unfold fxN; rw [show fixN (nmL.getD 24 []) = [[97],xN] by unfold fixN; decide]
theorem fx_25 (q : Int) : fxN q 25 = wdN [[97],xN] q := by unfold fxN; rw [show fixN (nmL.getD 25 []) = [[97],xN] by unfold fixN; decide]
theorem fx_26 (q : Int) : fxN q 26 = wdN [[66],xN] q := by unfold fxN; rw [show fixN (nmL.getD 26 []) = [[66],xN] by unfold fixN; decide]
theorem fx_27 (q : Int) : fxN q 27 = wdN [[66],xN] q := by unfold fxN; rw [show fixN (nmL.getD 27 []) = [[66],xN] by unfold fixN; decide]
theorem fx_28 (q : Int) : fxN q 28 = wdN [[98],xN] q := by unfold fxN; rw [show fixN (nmL.getD 28 []) = [[98],xN] by unfold fixN; decide]
theorem fx_29 (q : Int) : fxN q 29 = wdN [[98],xN] q := by unfold fxN; rw [show fixN (nmL.getD 29 []) = [[98],xN] by unfold fixN; decide]
theorem tbg_blk (q : Int) : tbgN.foldl (fun b r => b.set (ixT (r.headD []) nmL).toNat (wdN r.tail q)) (List.replicate 30 []) = blkN q noN noN := by
  rw [tbg_fold,tbg_K]
  unfold blkN
  rw [fx_0,fx_1,fx_2,fx_3,fx_4,fx_5,fx_6,fx_7,fx_16,fx_17,fx_18,fx_19,fx_20,fx_21,fx_22,fx_23,fx_24,fx_25,fx_26,fx_27,fx_28,fx_29]
  simp only [tbgK,List.foldl_cons,List.foldl_nil,List.replicate,List.set_cons_succ,List.set_cons_zero]
theorem tbg_ix : ∀ r ∈ tbgN,0 ≤ ixT (r.headD []) nmL := by decide
theorem stN_blk {q : Nat} {pre post : List (List Int)} (hp : pre.length = 1 + 30 * q) : stN q (pre ++ List.replicate 30 [] ++ post) tbgN = pre ++ blkN q noN noN ++ post := by
  rw [stN_mid hp tbgN _ rfl tbg_ix,tbg_blk]
def stI (ws : List (List Int)) (k : Nat) (f : Nat → List Int) : Nat → List (List Int)
  | 0 => ws
  | i + 1 => (stI ws k f i).set (k + 2 * i) (f i)
theorem stI_len (ws : List (List Int)) (k : Nat) (f : Nat → List Int) : ∀ i,(stI ws k f i).length = ws.length
  | 0 => rfl
  | i + 1 => by rw [stI,List.length_set,stI_len ws k f i]
theorem stI_mid {pre post : List (List Int)} {k : Nat} {f : Nat → List Int} : ∀ {n : Nat} {b : List (List Int)},k + 2 * n ≤ b.length + 1 → stI (pre ++ b ++ post) (pre.length + k) f n = pre ++ stI b k f n ++ post
  | 0,b,h => rfl
  | n + 1,b,h => by
    rw [stI,stI_mid (by omega),Nat.add_assoc,set_mdl (by rw [stI_len]; omega)]
    rfl
def ruS (q : Nat) (s : Nat) (r : Rule') (ws : List (List Int)) : List (List Int) := stI ws (1 + 30 * q + (9 - s)) (rwN r s) 4
theorem ruS_1 {q : Nat} {pre post : List (List Int)} (hp : pre.length = 1 + 30 * q) (r : Rule') (a b : Nat → List Int) : ruS q 1 r (pre ++ blkN q a b ++ post) = pre ++ blkN q a (rwN r 1) ++ post := by
  unfold ruS
  rw [← hp,stI_mid (by rw [blkN_len]; omega)]
  rfl
theorem ruS_0 {q : Nat} {pre post : List (List Int)} (hp : pre.length = 1 + 30 * q) (r : Rule') (a b : Nat → List Int) : ruS q 0 r (pre ++ blkN q a b ++ post) = pre ++ blkN q (rwN r 0) b ++ post := by
  unfold ruS
  rw [← hp,stI_mid (by rw [blkN_len]; omega)]
  rfl
theorem rwN_noN (s : Int) : rwN noR s = noN := funext fun i => rwN_no s i
theorem rwN_get {r : Rule'} {s : Int} {i : Nat} (hr : r ≠ noR) : rwN r s i = wdN ((rlN r s).getD i []) r.n := by unfold rwN; rw [if_neg hr]
@[irreducible] def miiS (m : Mach) (q : Nat) (v : Nat) : List (List Int) := tmW m q ++ blkN q (if 0 < v then rwN (ruN m q 0) 0 else noN) (if 1 < v then rwN (ruN m q 1) 1 else noN) ++ List.replicate (30 * (m.st.toNat - (q + 1))) []
@[irreducible] def miiU (m : Mach) (q : Nat) (v : Nat) : List Int := tmU m q ++ ((if 0 < v ∧ ruN m q 0 = noR then [1 + 30 * (q : Int) + 9] else []) ++ (if 1 < v ∧ ruN m q 1 = noR then [1 + 30 * (q : Int) + 8] else []))
@[irreducible] def aheS (m : Mach) (q : Nat) : List (List Int) := tmW m q ++ List.replicate (30 * (m.st.toNat - q)) []
theorem aheS_0 (m : Mach) (h : 1 ≤ m.st) : aheS m 0 = List.replicate (1 + 30 * m.st).toNat [] := by
  unfold aheS
  rw [tmW,show (1 + 30 * m.st).toNat = 30 * (m.st.toNat - 0) + 1 by omega,List.replicate_succ]
  rfl
theorem aheS_e (m : Mach) : aheS m m.st.toNat = tmW m m.st.toNat := by unfold aheS; rw [Nat.sub_self]; simp
theorem aheS_len {m : Mach} {q : Nat} (h : q ≤ m.st.toNat) : (aheS m q).length = 1 + 30 * m.st.toNat := by unfold aheS; rw [List.length_append,tmW_len,List.length_replicate]; omega
theorem miiS_0 {m : Mach} {q : Nat} (h : q < m.st.toNat) : stN q (aheS m q) tbgN = miiS m q 0 := by
  unfold aheS miiS
  rw [show 30 * (m.st.toNat - q) = 30 + 30 * (m.st.toNat - (q + 1)) by omega,← List.replicate_append_replicate,← List.append_assoc,stN_blk (tmW_len m q)]
  rfl
theorem miiS_e {m : Mach} {q : Nat} : miiS m q 2 = aheS m (q + 1) := by unfold miiS aheS; rw [tmW]; rfl
theorem miiU_0 (m : Mach) (q : Nat) : miiU m q 0 = tmU m q := by unfold miiU; simp
theorem miiU_e (m : Mach) (q : Nat) : miiU m q 2 = tmU m (q + 1) := by unfold miiU; rw [tmU]; simp
theorem miiS_len {m : Mach} {q v : Nat} (h : q < m.st.toNat) : (miiS m q v).length = 1 + 30 * m.st.toNat := by unfold miiS; rw [List.length_append,List.length_append,tmW_len,blkN_len,List.length_replicate]; omega
theorem miiS_ru {m : Mach} {q v : Nat} (hv : v < 2) : miiS m q (v + 1) = ruS q v (ruN m q v) (miiS m q v) := by
  have h01 : v = 0 ∨ v = 1 := by omega
  have hp := tmW_len m q
  rcases h01 with e | e
  · subst e
    unfold miiS
    exact (ruS_0 hp (ruN m q 0) noN noN).symm
  · subst e
    unfold miiS
    exact (ruS_1 hp (ruN m q 1) (rwN (ruN m q 0) 0) noN).symm
theorem miiS_no {m : Mach} {q v : Nat} (hv : v < 2) (h : ruN m q v = noR) : miiS m q (v + 1) = miiS m q v := by
  have h01 : v = 0 ∨ v = 1 := by omega
  unfold miiS
  rcases h01 with e | e
  · subst e; rw [h,rwN_noN]; rfl
  · subst e; rw [h,rwN_noN]; rfl
theorem miiU_ru {m : Mach} {q v : Nat} (hv : v < 2) (h : ruN m q v ≠ noR) : miiU m q (v + 1) = miiU m q v := by
  have h01 : v = 0 ∨ v = 1 := by omega
  unfold miiU
  rcases h01 with e | e
  · subst e; simp [h]
  · subst e; simp [h]
theorem miiU_no {m : Mach} {q v : Nat} (hv : v < 2) (h : ruN m q v = noR) : miiU m q (v + 1) = miiU m q v ++ [1 + 30 * (q : Int) + 8 + (1 - v)] := by
  have h01 : v = 0 ∨ v = 1 := by omega
  unfold miiU
  rcases h01 with e | e
  · subst e
    simp [h]
    omega
  · subst e
    simp [h]
theorem miiU_len (m : Mach) (q v : Nat) : (miiU m q v).length ≤ 2 * q + 2 := by
  have := tmU_len m q
  unfold miiU
  rw [List.length_append,List.length_append]
  split <;> split <;> simp <;> omega
@[irreducible] def srtL (l : List Int) : List Int := l.mergeSort (fun a b => decide (a ≤ b))
theorem srtL_eq {l y : List Int} (hp : y.Perm l) (hs : y.Pairwise (· ≤ ·)) : srtL l = y := by
  unfold srtL
  have h1 : (l.mergeSort (fun a b => decide (a ≤ b))).Pairwise (fun a b => decide (a ≤ b) = true) := List.pairwise_mergeSort (fun a b c h1 h2 => by simp only [decide_eq_true_eq] at *; omega) (fun a b => by simp only [Bool.or_eq_true,decide_eq_true_eq]; omega) l
  have h2 : (l.mergeSort (fun a b => decide (a ≤ b))).Pairwise (· ≤ ·) := h1.imp (fun h => of_decide_eq_true h)
  exact List.Perm.eq_of_pairwise (le := (· ≤ ·)) (fun a b _ _ h1 h2 => by omega) h2 hs ((List.mergeSort_perm l _).trans hp.symm)
theorem srt_tm (m : Mach) (q : Nat) : srtL (tmU m q) = tmH m q := srtL_eq (tmU_perm m q).symm ((tmH_asc m q).imp (fun h => Int.le_of_lt h))
end Go.Proofs.YtnkeamihfiobdaaGreatDoor
end
section
set_option linter.unusedVariables false
set_option linter.unusedSimpArgs false
set_option maxRecDepth 100000
set_option maxHeartbeats 1000000
namespace Go.Proofs.YtnkeamihfiobdaaGreatDoor
open Go Foot Go.RowKit
def repW {α : Type} (l : List α) : Nat → List α
  | 0 => []
  | n + 1 => l ++ repW l n
theorem repW_len {α : Type} (l : List α) : ∀ n,(repW l n).length = n * l.length
  | 0 => by simp [repW]
  | n + 1 => by rw [repW,List.length_append,repW_len l n,Nat.succ_mul,Nat.add_comm]
theorem repW_mem {α : Type} {l : List α} {x : α} : ∀ {n : Nat},x ∈ repW l n → x ∈ l
  | 0,h => by simp [repW] at h
  | n + 1,h => by
    rw [repW] at h
    rcases List.mem_append.1 h with h | h
    · exact h
    · exact repW_mem h
theorem repW_count (l : List Int) (x : Int) : ∀ n,(repW l n).count x = n * l.count x
  | 0 => by simp [repW]
  | n + 1 => by rw [repW,List.count_append,repW_count l x n,Nat.succ_mul,Nat.add_comm]
def shF (f p u z : List Int) (a b : Nat) : List Int := f ++ repW p a ++ u ++ repW z b
def btF : Nat → Int → List Int
  | 0,_ => []
  | k + 1,n => if 0 < n then n % 2 :: btF k (n / 2) else []
@[irreducible] def btS (n : Int) : List Int := btF n.toNat n
theorem btF_fu : ∀ (k j : Nat) (n : Int),n.toNat ≤ k → n.toNat ≤ j → btF k n = btF j n
  | 0,0,n,_,_ => rfl
  | 0,j + 1,n,h1,h2 => by rw [btF,btF,if_neg (by omega)]
  | k + 1,0,n,h1,h2 => by rw [btF,btF,if_neg (by omega)]
  | k + 1,j + 1,n,h1,h2 => by
    rw [btF,btF]
    by_cases h : 0 < n
    · rw [if_pos h,if_pos h,btF_fu k j (n / 2) (by omega) (by omega)]
    · rw [if_neg h,if_neg h]
theorem btS_s {n : Int} (h : 0 < n) : btS n = n % 2 :: btS (n / 2) := by
  unfold btS
  obtain ⟨k,hk⟩ : ∃ k,n.toNat = k + 1 := ⟨n.toNat - 1,by omega⟩
  rw [hk,btF,if_pos h,btF_fu k (n / 2).toNat (n / 2) (by omega) (by omega)]
theorem btS_n {n : Int} (h : ¬ 0 < n) : btS n = [] := by
  unfold btS
  rw [show n.toNat = 0 by omega,btF]
theorem btF_len : ∀ (k : Nat) (n : Int),((btF k n).length : Int) ≤ k
  | 0,n => by simp [btF]
  | k + 1,n => by
    rw [btF]
    have := btF_len k (n / 2)
    split
    · rw [List.length_cons]; omega
    · simp; omega
theorem btF_bit : ∀ (k : Nat) (n : Int),∀ x ∈ btF k n,0 ≤ x ∧ x ≤ 1
  | 0,n,x,h => by simp [btF] at h
  | k + 1,n,x,h => by
    rw [btF] at h
    split at h
    · rcases List.mem_cons.1 h with h | h
      · subst h; omega
      · exact btF_bit k _ x h
    · simp at h
theorem btS_bit {n x : Int} (h : x ∈ btS n) : 0 ≤ x ∧ x ≤ 1 := by unfold btS at h; exact btF_bit _ _ x h
theorem btS_len (n : Int) : ((btS n).length : Int) ≤ n.toNat := by unfold btS; exact btF_len _ _
@[irreducible] def shA (q : Int) (a b : Nat) : List Int := shF (wdN [[65],xN] q) (wdN [[97],xN] q) (wdN [[66],xN] q) (wdN [[98],xN] q) a b
@[irreducible] def shB (q : Int) (v : Nat) (a b : Nat) : List Int := shF (wdN (if v = 1 then [[80,49],[80,48]] else [[80,48]]) q) (wdN [[112,49],[112,48]] q) (wdN [[81,49],[81,48]] q) (wdN [[114,49],[114,48]] q) a b
theorem w2_A (q : Int) : wdN [[65],xN] q = [1 + 30 * q,0] ∧ wdN [[97],xN] q = [2 + 30 * q,0] ∧ wdN [[66],xN] q = [3 + 30 * q,0] ∧ wdN [[98],xN] q = [4 + 30 * q,0] := by
  unfold wdN
  have e1 := ltN_i (s := [65]) 0 (by decide) q
  have e2 := ltN_i (s := [97]) 1 (by decide) q
  have e3 := ltN_i (s := [66]) 2 (by decide) q
  have e4 := ltN_i (s := [98]) 3 (by decide) q
  simp [e1,e2,e3,e4]
  try omega
theorem w2_B (q : Int) : wdN [[80,49],[80,48]] q = [9 + 30 * q,10 + 30 * q] ∧ wdN [[80,48]] q = [10 + 30 * q] ∧ wdN [[112,49],[112,48]] q = [11 + 30 * q,12 + 30 * q] ∧ wdN [[81,49],[81,48]] q = [13 + 30 * q,14 + 30 * q] ∧ wdN [[114,49],[114,48]] q = [15 + 30 * q,16 + 30 * q] := by
  unfold wdN
  have e1 := ltN_i (s := [80,49]) 8 (by decide) q
  have e2 := ltN_i (s := [80,48]) 9 (by decide) q
  have e3 := ltN_i (s := [112,49]) 10 (by decide) q
  have e4 := ltN_i (s := [112,48]) 11 (by decide) q
  have e5 := ltN_i (s := [81,49]) 12 (by decide) q
  have e6 := ltN_i (s := [81,48]) 13 (by decide) q
  have e7 := ltN_i (s := [114,49]) 14 (by decide) q
  have e8 := ltN_i (s := [114,48]) 15 (by decide) q
  simp [e1,e2,e3,e4,e5,e6,e7,e8]
  try omega
theorem shA_hd {q : Int} {a b : Nat} : (shA q a b).headD 0 = 1 + 30 * q := by
  unfold shA shF
  rw [(w2_A q).1]
  rfl
theorem shB_hd {q : Int} {v : Nat} {a b : Nat} : (shB q v a b).headD 0 = if v = 1 then 9 + 30 * q else 10 + 30 * q := by
  unfold shB shF
  by_cases h : v = 1
  · rw [if_pos h,if_pos h,(w2_B q).1]; rfl
  · rw [if_neg h,if_neg h,(w2_B q).2.1]; rfl
theorem shA_ca {q : Int} (hq : 0 ≤ q) {a b : Nat} : (shA q a b).count (2 + 30 * q) = a ∧ (shA q a b).count (4 + 30 * q) = b := by
  unfold shA shF
  obtain ⟨e1,e2,e3,e4⟩ := w2_A q
  rw [e1,e2,e3,e4]
  simp only [List.count_append,repW_count,List.count_cons,List.count_nil,beq_iff_eq,if_true]
  constructor
  · (repeat rw [if_neg (by omega)]); omega
  · (repeat rw [if_neg (by omega)]); omega
end Go.Proofs.YtnkeamihfiobdaaGreatDoor
end
section
set_option linter.unusedVariables false
set_option linter.unusedSimpArgs false
set_option maxRecDepth 100000
set_option maxHeartbeats 1000000
namespace Go.Proofs.YtnkeamihfiobdaaGreatDoor
open Go Foot Go.RowKit
theorem preB192 {p : Prop} (h : p := by first | with_reducible assumption | omega | (simp only [List.length_append,List.length_cons,List.length_nil,List.length_set,List.length_replicate,List.length_take,List.length_drop,List.length_tail,List.length_dropLast,List.length_reverse] at *; omega) | exact mem_len (by assumption) (by omega) | (with_reducible refine Int.le_trans (Int.ofNat_le.2 (trimR_len _)) ?_; simp only [List.length_cons,List.length_tail]; omega) | (exact (ruAt_ok (by assumption) (by assumption) (by assumption)).2.1) | (exact (ruAt_ok (by assumption) (by assumption) (by assumption)).2.1) | (have := vMach_bd (by assumption); omega) | (simp only [mC_ch,mC_tu]; omega) | (have := vTag_bd (by assumption); omega) | (have := (‹Gd _ _›).le; omega) | (exact tgHalts_no (by assumption)) | (exact tgHead (by assumption) (by assumption) (by assumption)) | (exact Int.le_trans (tgStep_gd (by assumption) (by assumption) (by assumption) (by assumption)).le (by decide)) | (exact vTag_r (by assumption)) | (with_reducible refine Int.le_trans (Int.ofNat_le.2 (pushL_len _ _)) ?_; simp only [List.length_dropLast]; omega) | exact ls_at (by assumption) (by omega) | exact pt_gd (by assumption) | exact lv_at (by assumption) (by omega) | exact pt_gd (lv_at (by assumption) (by omega)) | exact (ask_ok (by assumption)).1 | exact (ask_ok (by assumption)).2.1 | exact (ask_ok (by assumption)).2.2.1 | exact (ask_ok (by assumption)).2.2.2 | trivial) : p := h
theorem IndexT_ok (l : List Bs) (x : Bs) (hl : (l.length : Int) ≤ 16777216) : Does Tryz.prog 191 [.one (shS l),.one (str x)] [] (.one (int (ixT x l))) [] := by
  refine does_of (k := 0) Tryz.func191 rfl Tryz.ntmps191 rfl rfl fun w F0 S0 ρ0 => ?_
  dsimp only [argT,argH]
  repeat' first|(apply p3;(first|exact pu1|exact puN);exact rfl)|refine cd ?_|fail
  refine g_loop_id ?_
  refine loopK [0,1,4,7] [] (fun i : Int => 0 ≤ i ∧ i ≤ l.length ∧ x ∉ l.take i.toNat) (fun i => [(8,.one (int i))]) (fun _ => []) (fun i => (l.length - i).toNat) (0 : Int) [] (hI := ?_) (hr := ?_)
  · exact ⟨by simp,by simp,by simp⟩
  · rintro i ⟨h0,h1,h2⟩
    dsimp only [List.cons_append,List.nil_append] at *
    skip
    repeat' first|(apply p3;(first|exact pu1|exact puC|exact a_eqT rfl rfl|exact a_add rfl rfl (by omega) (by omega)|exact puI);exact rfl)|refine cd ?_|((refine g_cond rfl (fun hc => ?_) (fun hc => ?_)) <;> (try simp only [dcB] at hc) <;> (try first|contradiction|(exfalso;omega)))|fail
    · have e : ixT x l = i := by
        rw [ixT_at (i := i.toNat) (by omega) h2 hc]
        omega
      rw [e]
      repeat refine cr ?_
      refine ends_id ?_
      refine endK [] (h2 := ?_) (h3 := ?_) (nd := ?_)
      all_goals (repeat' first|exact ce0|refine ce ?_|refine ce2 ?_ ?_|exact SVLe.refl|refine ceb ?_)
      all_goals first | exact (show nodupB _ = true from rfl) | exact Or.inr rfl | (rfl)
    · refine q_again (i + 1) [] (by exact stk) ?_ ?_
      · refine ⟨by omega,by omega,?_⟩
        rw [show (i + 1).toNat = i.toNat + 1 by omega,List.take_succ_eq_append_getElem (by omega)]
        intro q
        rcases List.mem_append.1 q with q | q
        · exact h2 q
        · exact hc (List.mem_singleton.1 q)
      · omega
    · have e : ixT x l = -1 := ixT_no (by rw [List.take_of_length_le (by omega)] at h2; exact h2)
      rw [e]
      repeat refine cr ?_
      refine ends_id ?_
      refine endK [] (h2 := ?_) (h3 := ?_) (nd := ?_)
      all_goals (repeat' first|exact ce0|refine ce ?_|refine ce2 ?_ ?_|exact SVLe.refl|refine ceb ?_)
      all_goals first | exact (show nodupB _ = true from rfl) | exact Or.inr rfl | (rfl)
theorem kindNames_ok : Does Tryz.prog 192 [] [] (.one (.gv 0)) [.row 1 (rows eS nmL)] := by
  refine does_of (k := 0) Tryz.func192 rfl Tryz.ntmps192 rfl rfl fun w F0 S0 ρ0 => ?_
  dsimp only [argT,argH]
  repeat' first|(apply n3;exact a_nilO eS rfl;exact rfl)|(apply n3;exact a_litE eS [_,_,_,_,_,_,_,_,_,_,_,_,_,_,_,_,_,_,_,_,_,_,_,_,_,_,_,_,_,_] rfl rfl rfl rfl rfl rfl rfl rfl;exact rfl;refine dA ?_)|(apply p3;exact pu1;exact rfl)|refine cd ?_|fail
  repeat refine cr ?_
  refine ends_id ?_
  refine endK [?_] (h2 := ?_) (h3 := ?_) (nd := ?_)
  rotate_left 1
  all_goals (repeat' first|exact ce0|refine ce ?_|refine ce2 ?_ ?_|(refine Or.inr (bx_eq rfl rfl ?_);(try dsimp only [C.ren,C.ren.all]);(try exact rfl))|exact SVLe.refl|refine ceb ?_)
  all_goals first | exact (show nodupB _ = true from rfl) | exact Or.inr rfl | (rfl)
theorem letterOf_ok (s : Bs) (q : Int) (h0 : -1000 ≤ q) (h1 : q ≤ 1000000) : Does Tryz.prog 117 [.one (str s),.one (int q)] [] (.one (int (ltN s q))) [] := by
  have e : ltN s q = 1 + 30 * q + ixT s nmL := by unfold ltN; rfl
  have b1 := ixT_ge s nmL
  have b2 := ixT_lt s nmL
  have b3 : nmL.length = 30 := rfl
  rw [e]
  refine does_of (k := 0) Tryz.func117 rfl Tryz.ntmps117 rfl rfl fun w F0 S0 ρ0 => ?_
  dsimp only [argT,argH]
  repeat' first|(apply p3;(first|exact pu1|exact a_mulB rfl rfl (by omega) (by omega) (by omega) (by omega)|exact a_add rfl rfl (by omega) (by omega));exact rfl)|refine cd ?_|(apply c4 1;exact callK1 (θ := []) (hD := kindNames_ok);exact rfl;exact rfl;exact rfl;refine dM ?_)|(apply c4 0;exact callK1 (θ := []) (hD := (IndexT_ok _ _ preB192));exact rfl;exact rfl;exact rfl;refine dM ?_)|fail
  repeat refine cr ?_
  refine ends_id ?_
  refine endK [] (h2 := ?_) (h3 := ?_) (nd := ?_)
  all_goals (repeat' first|exact ce0|refine ce ?_|refine ce2 ?_ ?_|exact SVLe.refl|refine ceb ?_)
  all_goals first | exact (show nodupB _ = true from rfl) | exact Or.inr rfl | (rfl)
theorem wdN_take {ns : List Bs} {q i : Int} (h0 : 0 ≤ i) (h : i.toNat < ns.length) : wdN (ns.take (i + 1).toNat) q = wdN (ns.take i.toNat) q ++ [if ns[i.toNat] = xN then 0 else ltN ns[i.toNat] q] := by
  rw [show (i + 1).toNat = i.toNat + 1 by omega,List.take_succ_eq_append_getElem h,wdN_snoc]
end Go.Proofs.YtnkeamihfiobdaaGreatDoor
end
section
set_option linter.unusedVariables false
set_option linter.unusedSimpArgs false
set_option maxRecDepth 100000
set_option maxHeartbeats 1000000
namespace Go.Proofs.YtnkeamihfiobdaaGreatDoor
open Go Foot Go.RowKit
theorem repW_app {α : Type} (l : List α) : ∀ (a b : Nat),repW l (a + b) = repW l a ++ repW l b
  | 0,b => by rw [Nat.zero_add,repW,List.nil_append]
  | a + 1,b => by rw [Nat.add_right_comm,repW,repW,repW_app l a b,List.append_assoc]
theorem rep_grw {α : Type} {l a : List α} {N t k m : Nat} (hl : l.length = 2) (ha : a.length = N * 2) (hk : k = t * 2) (h1 : k + m ≤ N * 2) (h2 : m ≤ k) (h3 : a.take k = (repW l N).take k) : (a.take k ++ (a.drop 0).take m ++ a.drop (k + m)).take (k + m) = (repW l N).take (k + m) ∧ (a.take k ++ (a.drop 0).take m ++ a.drop (k + m)).length = a.length := by
  have hr : (repW l N).length = N * 2 := by rw [repW_len,hl]
  have h4 : a.take m = (repW l N).take m := by
    have := congrArg (List.take m) h3
    rwa [List.take_take,List.take_take,Nat.min_eq_left h2] at this
  have hlen : (a.take k ++ (a.drop 0).take m).length = k + m := by rw [List.length_append,List.length_take,List.length_take,List.drop_zero]; omega
  constructor
  · rw [List.take_append_of_le_length (by omega),List.take_of_length_le (by omega),List.drop_zero,h3,h4]
    have ht : t ≤ N := by omega
    have e1 : repW l N = repW l t ++ repW l (N - t) := by rw [← repW_app,show t + (N - t) = N by omega]
    have e2 : repW l N = repW l (N - t) ++ repW l t := by rw [← repW_app,show N - t + t = N by omega]
    have lt : (repW l t).length = k := by rw [repW_len,hl,hk]
    have lN : (repW l (N - t)).length = (N - t) * 2 := by rw [repW_len,hl]
    have a1 : (repW l N).take k = repW l t := by rw [e1,List.take_append_of_le_length (by omega),List.take_of_length_le (by omega)]
    have a2 : (repW l N).take m = (repW l (N - t)).take m := by rw [e2,List.take_append_of_le_length (by omega)]
    have a3 : (repW l N).take (k + m) = repW l t ++ (repW l (N - t)).take m := by rw [e1,List.take_append,List.take_of_length_le (by omega),lt,Nat.add_sub_cancel_left]
    rw [a1,a2,a3]
  · rw [List.length_append,hlen,List.length_drop]; omega
theorem preB195 {p : Prop} (h : p := by first | with_reducible assumption | omega | (simp only [List.length_append,List.length_cons,List.length_nil,List.length_set,List.length_replicate,List.length_take,List.length_drop,List.length_tail,List.length_dropLast,List.length_reverse] at *; omega) | exact mem_len (by assumption) (by omega) | (with_reducible refine Int.le_trans (Int.ofNat_le.2 (trimR_len _)) ?_; simp only [List.length_cons,List.length_tail]; omega) | (exact (ruAt_ok (by assumption) (by assumption) (by assumption)).2.1) | (exact (ruAt_ok (by assumption) (by assumption) (by assumption)).2.1) | (have := vMach_bd (by assumption); omega) | (simp only [mC_ch,mC_tu]; omega) | (have := vTag_bd (by assumption); omega) | (have := (‹Gd _ _›).le; omega) | (exact tgHalts_no (by assumption)) | (exact tgHead (by assumption) (by assumption) (by assumption)) | (exact Int.le_trans (tgStep_gd (by assumption) (by assumption) (by assumption) (by assumption)).le (by decide)) | (exact vTag_r (by assumption)) | (with_reducible refine Int.le_trans (Int.ofNat_le.2 (pushL_len _ _)) ?_; simp only [List.length_dropLast]; omega) | exact ls_at (by assumption) (by omega) | exact pt_gd (by assumption) | exact lv_at (by assumption) (by omega) | exact pt_gd (lv_at (by assumption) (by omega)) | exact (ask_ok (by assumption)).1 | exact (ask_ok (by assumption)).2.1 | exact (ask_ok (by assumption)).2.2.1 | exact (ask_ok (by assumption)).2.2.2 | trivial) : p := h
theorem repeatI_ok (l : List Int) (n : Int) (h0 : 0 ≤ n) (h1 : n ≤ 1000) (hl : l.length = 2) : Does Tryz.prog 187 [.one (shI l),.one (int n)] [] (.one (.gv 0)) [.row 1 (rows eI (repW l n.toNat))] := by
  have hln : ((l.length : Nat) : Int) * n = 2 * n := by rw [hl]; rfl
  have h5 : 0 ≤ ((l.length : Nat) : Int) * n := by omega
  have h6 : ((l.length : Nat) : Int) * n ≤ 2000 := by omega
  have hT : (repW l n.toNat).length = n.toNat * 2 := by rw [repW_len,hl]
  skip
  refine does_of (k := 0) Tryz.func187 rfl Tryz.ntmps187 rfl rfl fun w F0 S0 ρ0 => ?_
  dsimp only [argT,argH]
  repeat' first|(apply n3;exact a_make (fE rfl) (fZ rfl) (fP rfl) (by decide) rfl rfl (by omega) rfl (by omega) (by omega) (rows_rep eI 0 _);exact rfl;refine dA ?_)|(apply p3;(first|exact pu1|exact puC|exact puN|exact u_conv rfl Tryz.underlying3 Tryz.underlying203 bnd bnd|exact u_gtr rfl rfl|exact u_vnoc rfl Tryz.underlying203 Tryz.underlying3 bnd bnd);exact rfl)|refine cd ?_|(apply c4 0;exact callK1 (θ := []) (hD := (mulU_ok _ _ preB195 preB195 preB195 preB195 preB195 preB195));exact rfl;exact rfl;exact rfl;refine dM ?_)|(apply c4 0;exact a_copyV rfl rfl rfl rfl (fS rfl) rfl nowR rfl (by exact rfl) (by exact rfl);exact rfl;exact rfl;exact rfl;refine dM ?_)|(apply py3;exact rfl;exact rfl;(first|exact pu1|exact u_gtr rfl rfl);exact rfl;exact rfl)|((refine g_cond rfl (fun hc => ?_) (fun hc => ?_)) <;> (try simp only [dcB] at hc) <;> (try first|contradiction|(exfalso;omega)))|fail
  generalize e0 : (l.length.min (List.replicate (((l.length : Nat) : Int) * n).toNat (0 : Int)).length) = k0
  generalize e1 : (List.take k0 l ++ List.drop k0 (List.replicate (((l.length : Nat) : Int) * n).toNat (0 : Int))) = l0
  have hk0 : (k0 : Int) = min 2 (2 * n) := by
    rw [← e0,hln,List.length_replicate,hl]
    show ((min 2 (2 * n).toNat : Nat) : Int) = _
    omega
  have hl0 : l0.length = n.toNat * 2 ∧ l0.take k0 = (repW l n.toNat).take k0 := by
    by_cases hn : n = 0
    · have hz : k0 = 0 := by omega
      subst hn
      rw [← e1,hz]
      simp
    · have hk : k0 = 2 := by omega
      have t2 : l.take 2 = l := List.take_of_length_le (by omega)
      rw [← e1,hk,t2]
      constructor
      · rw [List.length_append,List.length_drop,List.length_replicate,hln,hl]; omega
      · rw [List.take_append_of_le_length (by omega),t2]
        obtain ⟨j,hj⟩ : ∃ j,n.toNat = j + 1 := ⟨n.toNat - 1,by omega⟩
        rw [hj,repW,List.take_append_of_le_length (by omega),t2]
  clear e0 e1
  refine g_loop_id ?_
  refine loopK [4,7] [0] (fun y : Int × List Int => 0 ≤ y.1 ∧ y.1 ≤ 2 * n ∧ (0 < n → 0 < y.1) ∧ y.2.length = n.toNat * 2 ∧ y.2.take y.1.toNat = (repW l n.toNat).take y.1.toNat ∧ (y.1 = 2 * n ∨ y.1 % 2 = 0)) (fun y => [(8,.one (int y.1))]) (fun y => [(0,.row 1 (rows eI y.2))]) (fun y => (2 * n - y.1).toNat) ((k0 : Int),l0) [0] (hI := ?_) (hr := ?_)
  · exact ⟨by simp,by dsimp only; omega,fun _ => by dsimp only; omega,hl0.1,by dsimp only; rw [Int.toNat_natCast]; exact hl0.2,by dsimp only; omega⟩
  · rintro ⟨k,a⟩ ⟨k1,k2,k3,k4,k5,k6⟩
    dsimp only [List.cons_append,List.nil_append] at *
    skip
    have hm : (k.toNat - 0).min (a.length - k.toNat) = min (k.toNat - 0) (a.length - k.toNat) := rfl
    repeat' first|(apply p3;(first|exact pu1|exact puN|exact puC);exact rfl)|refine cd ?_|(apply g_drN (id := 9) okM [[],[],[],[1,2],[],[],[4,5],[1,2,3,4,5,6],[0,1,2,3,4,5,6,7],[0,1,2,3,4,5,6,7,8]] [([],[]),([],[]),([],[]),([],[]),([],[]),([],[]),([],[]),([],[0]),([],[]),([],[])] 0;(focus (refine dp 0 0 [39,40,41,42,43,44,45] [(false,0)] pu1 ?_;refine dp 1 0 [38,40,42,43,44] [] pu1 ?_;refine dp 2 0 [38,39,42,43,44] [] pu1 ?_;refine dp 3 3 [38,42,43,44] [] (a_slTG rfl rfl rfl (fS rfl) (by omega) (by omega) (by exact rfl)) ?_;refine dp 4 0 [38,39,40,41,43] [] pu1 ?_;refine dp 5 0 [38,39,40,41,42] [] pu1 ?_;refine dp 6 3 [38,39,40,41] [] (a_slHG rfl rfl rfl (fS rfl) (by omega) (by omega) (by exact rfl)) ?_;refine duN 7 63 [38] [] (by exact a_copyG rfl rfl rfl (fS rfl) rfl nowR bnd bnd rfl (by exact rfl) (by exact rfl)) (by exact rfl) (by exact rfl) ?_;refine dp 8 255 [] [] (a_add rfl rfl (by omega) (by omega)) ?_;refine dp 9 511 [] [] pu1 ?_;(refine d_nil ?_;refine dN ?_)));any_goals kernel_rfl)|((refine g_cond rfl (fun hc => ?_) (fun hc => ?_)) <;> (try simp only [dcB] at hc) <;> (try first|contradiction|(exfalso;omega)))|fail
    · have hg := rep_grw (l := l) (N := n.toNat) (t := (k / 2).toNat) (m := (k.toNat - 0).min (a.length - k.toNat)) hl k4 (by omega) (by omega) (by omega) k5
      have hk : (k + (((k.toNat - 0).min (a.length - k.toNat) : Nat) : Int)).toNat = k.toNat + (k.toNat - 0).min (a.length - k.toNat) := by omega
      refine q_again (k + (((k.toNat - 0).min (a.length - k.toNat) : Nat) : Int),a.take k.toNat ++ (a.drop 0).take ((k.toNat - 0).min (a.length - k.toNat)) ++ a.drop (k.toNat + (k.toNat - 0).min (a.length - k.toNat))) [0] (by exact stk) ?_ ?_
      · exact ⟨by dsimp only; omega,by dsimp only; omega,fun _ => by dsimp only; omega,hg.2.trans k4,by dsimp only; rw [hk]; exact hg.1,by dsimp only; omega⟩
      · dsimp only; omega
    · have e : k.toNat = n.toNat * 2 := by omega
      rw [e,List.take_of_length_le (by omega),List.take_of_length_le (by omega)] at k5
      repeat refine cr ?_
      refine ends_id ?_
      refine endK [?_] (h2 := ?_) (h3 := ?_) (nd := ?_)
      rotate_left 1
      all_goals (repeat' first|exact ce0|refine ce ?_|refine ce2 ?_ ?_|(refine Or.inr (bx_eq rfl rfl ?_);(try dsimp only [C.ren,C.ren.all]);(try exact rfl))|exact SVLe.refl|refine ceb ?_)
      all_goals first | exact (show nodupB _ = true from rfl) | exact Or.inr rfl | (exact k5)
theorem repeatS_ok (l : List Bs) (n : Int) (h0 : 0 ≤ n) (h1 : n ≤ 1000) (hl : l.length = 2) : Does Tryz.prog 243 [.one (shS l),.one (int n)] [] (.one (.gv 0)) [.row 1 (rows eS (repW l n.toNat))] := by
  have hln : ((l.length : Nat) : Int) * n = 2 * n := by rw [hl]; rfl
  have h5 : 0 ≤ ((l.length : Nat) : Int) * n := by omega
  have h6 : ((l.length : Nat) : Int) * n ≤ 2000 := by omega
  have hT : (repW l n.toNat).length = n.toNat * 2 := by rw [repW_len,hl]
  refine does_of (k := 0) Tryz.func243 rfl Tryz.ntmps243 rfl rfl fun w F0 S0 ρ0 => ?_
  dsimp only [argT,argH]
  repeat' first|(apply n3;exact a_make (fE rfl) (fZ rfl) (fP rfl) (by decide) rfl rfl (by omega) rfl (by omega) (by omega) (rows_rep eS ([] : Bs) _);exact rfl;refine dA ?_)|(apply p3;(first|exact pu1|exact puC|exact puN|exact u_conv rfl Tryz.underlying3 Tryz.underlying203 bnd bnd|exact u_gtr rfl rfl|exact u_vnoc rfl Tryz.underlying203 Tryz.underlying3 bnd bnd);exact rfl)|refine cd ?_|(apply c4 0;exact callK1 (θ := []) (hD := (mulU_ok _ _ preB195 preB195 preB195 preB195 preB195 preB195));exact rfl;exact rfl;exact rfl;refine dM ?_)|(apply c4 0;exact a_copyV rfl rfl rfl rfl (fS rfl) rfl nowR rfl (by exact rfl) (by exact rfl);exact rfl;exact rfl;exact rfl;refine dM ?_)|(apply py3;exact rfl;exact rfl;(first|exact pu1|exact u_gtr rfl rfl);exact rfl;exact rfl)|((refine g_cond rfl (fun hc => ?_) (fun hc => ?_)) <;> (try simp only [dcB] at hc) <;> (try first|contradiction|(exfalso;omega)))|fail
  generalize e0 : (l.length.min (List.replicate (((l.length : Nat) : Int) * n).toNat ([] : Bs)).length) = k0
  generalize e1 : (List.take k0 l ++ List.drop k0 (List.replicate (((l.length : Nat) : Int) * n).toNat ([] : Bs))) = l0
  have hk0 : (k0 : Int) = min 2 (2 * n) := by
    rw [← e0,hln,List.length_replicate,hl]
    show ((min 2 (2 * n).toNat : Nat) : Int) = _
    omega
  have hl0 : l0.length = n.toNat * 2 ∧ l0.take k0 = (repW l n.toNat).take k0 := by
    by_cases hn : n = 0
    · have hz : k0 = 0 := by omega
      subst hn
      rw [← e1,hz]
      simp
    · have hk : k0 = 2 := by omega
      have t2 : l.take 2 = l := List.take_of_length_le (by omega)
      rw [← e1,hk,t2]
      constructor
      · rw [List.length_append,List.length_drop,List.length_replicate,hln,hl]; omega
      · rw [List.take_append_of_le_length (by omega),t2]
        obtain ⟨j,hj⟩ : ∃ j,n.toNat = j + 1 := ⟨n.toNat - 1,by omega⟩
        rw [hj,repW,List.take_append_of_le_length (by omega),t2]
  clear e0 e1
  refine g_loop_id ?_
  refine loopK [4,7] [0] (fun y : Int × List Bs => 0 ≤ y.1 ∧ y.1 ≤ 2 * n ∧ (0 < n → 0 < y.1) ∧ y.2.length = n.toNat * 2 ∧ y.2.take y.1.toNat = (repW l n.toNat).take y.1.toNat ∧ (y.1 = 2 * n ∨ y.1 % 2 = 0)) (fun y => [(8,.one (int y.1))]) (fun y => [(0,.row 1 (rows eS y.2))]) (fun y => (2 * n - y.1).toNat) ((k0 : Int),l0) [0] (hI := ?_) (hr := ?_)
  · exact ⟨by simp,by dsimp only; omega,fun _ => by dsimp only; omega,hl0.1,by dsimp only; rw [Int.toNat_natCast]; exact hl0.2,by dsimp only; omega⟩
  · rintro ⟨k,a⟩ ⟨k1,k2,k3,k4,k5,k6⟩
    dsimp only [List.cons_append,List.nil_append] at *
    skip
    have hm : (k.toNat - 0).min (a.length - k.toNat) = min (k.toNat - 0) (a.length - k.toNat) := rfl
    repeat' first|(apply p3;(first|exact pu1|exact puN|exact puC);exact rfl)|refine cd ?_|(apply g_drN (id := 9) okM [[],[],[],[1,2],[],[],[4,5],[1,2,3,4,5,6],[0,1,2,3,4,5,6,7],[0,1,2,3,4,5,6,7,8]] [([],[]),([],[]),([],[]),([],[]),([],[]),([],[]),([],[]),([],[0]),([],[]),([],[])] 0;(focus (refine dp 0 0 [39,40,41,42,43,44,45] [(false,0)] pu1 ?_;refine dp 1 0 [38,40,42,43,44] [] pu1 ?_;refine dp 2 0 [38,39,42,43,44] [] pu1 ?_;refine dp 3 3 [38,42,43,44] [] (a_slTG rfl rfl rfl (fS rfl) (by omega) (by omega) (by exact rfl)) ?_;refine dp 4 0 [38,39,40,41,43] [] pu1 ?_;refine dp 5 0 [38,39,40,41,42] [] pu1 ?_;refine dp 6 3 [38,39,40,41] [] (a_slHG rfl rfl rfl (fS rfl) (by omega) (by omega) (by exact rfl)) ?_;refine duN 7 63 [38] [] (by exact a_copyG rfl rfl rfl (fS rfl) rfl nowR bnd bnd rfl (by exact rfl) (by exact rfl)) (by exact rfl) (by exact rfl) ?_;refine dp 8 255 [] [] (a_add rfl rfl (by omega) (by omega)) ?_;refine dp 9 511 [] [] pu1 ?_;(refine d_nil ?_;refine dN ?_)));any_goals kernel_rfl)|((refine g_cond rfl (fun hc => ?_) (fun hc => ?_)) <;> (try simp only [dcB] at hc) <;> (try first|contradiction|(exfalso;omega)))|fail
    · have hg := rep_grw (l := l) (N := n.toNat) (t := (k / 2).toNat) (m := (k.toNat - 0).min (a.length - k.toNat)) hl k4 (by omega) (by omega) (by omega) k5
      have hk : (k + (((k.toNat - 0).min (a.length - k.toNat) : Nat) : Int)).toNat = k.toNat + (k.toNat - 0).min (a.length - k.toNat) := by omega
      refine q_again (k + (((k.toNat - 0).min (a.length - k.toNat) : Nat) : Int),a.take k.toNat ++ (a.drop 0).take ((k.toNat - 0).min (a.length - k.toNat)) ++ a.drop (k.toNat + (k.toNat - 0).min (a.length - k.toNat))) [0] (by exact stk) ?_ ?_
      · exact ⟨by dsimp only; omega,by dsimp only; omega,fun _ => by dsimp only; omega,hg.2.trans k4,by dsimp only; rw [hk]; exact hg.1,by dsimp only; omega⟩
      · dsimp only; omega
    · have e : k.toNat = n.toNat * 2 := by omega
      rw [e,List.take_of_length_le (by omega),List.take_of_length_le (by omega)] at k5
      repeat refine cr ?_
      refine ends_id ?_
      refine endK [?_] (h2 := ?_) (h3 := ?_) (nd := ?_)
      rotate_left 1
      all_goals (repeat' first|exact ce0|refine ce ?_|refine ce2 ?_ ?_|(refine Or.inr (bx_eq rfl rfl ?_);(try dsimp only [C.ren,C.ren.all]);(try exact rfl))|exact SVLe.refl|refine ceb ?_)
      all_goals first | exact (show nodupB _ = true from rfl) | exact Or.inr rfl | (exact k5)
theorem repeated_ok (l : List Bs) (n : Int) (h0 : 0 ≤ n) (h1 : n ≤ 1000) (hl : l.length = 2) : Does Tryz.prog 190 [.one (int n),.one (shS l)] [] (.one (.gv 0)) [.row 1 (rows eS (repW l n.toNat))] := by
  refine does_of (k := 0) Tryz.func190 rfl Tryz.ntmps190 rfl rfl fun w F0 S0 ρ0 => ?_
  dsimp only [argT,argH]
  repeat' first|(apply p3;exact pu1;exact rfl)|refine cd ?_|(apply c4 1;exact callK1 (θ := []) (hD := (repeatS_ok _ _ preB195 preB195 preB195));exact rfl;exact rfl;exact rfl;refine dM ?_)|fail
  repeat refine cr ?_
  refine ends_id ?_
  refine endK [?_] (h2 := ?_) (h3 := ?_) (nd := ?_)
  rotate_left 1
  all_goals (repeat' first|exact ce0|refine ce ?_|refine ce2 ?_ ?_|(refine Or.inr (bx_eq rfl rfl ?_);(try dsimp only [C.ren,C.ren.all]);(try exact rfl))|exact SVLe.refl|refine ceb ?_)
  all_goals first | exact (show nodupB _ = true from rfl) | exact Or.inr rfl | (rfl)
end Go.Proofs.YtnkeamihfiobdaaGreatDoor
end
section
set_option linter.unusedVariables false
set_option linter.unusedSimpArgs false
set_option maxRecDepth 100000
set_option maxHeartbeats 4000000
namespace Go.Proofs.YtnkeamihfiobdaaGreatDoor
open Go Foot
structure Verd where
  m : Mach
  p : Prf
structure VeGd (v : Verd) : Prop where
  a : (v.m.ru.length : Int) ≤ 16777216
  b : (v.p.nu.length : Int) ≤ 16777216
  c : (v.p.wo.length : Int) ≤ 16777216
  d : ∀ x ∈ v.p.wo,(x.length : Int) ≤ 16777216
end Go.Proofs.YtnkeamihfiobdaaGreatDoor
end
section
set_option linter.unusedVariables false
set_option linter.unusedSimpArgs false
set_option maxRecDepth 100000
set_option maxHeartbeats 4000000
namespace Go.Proofs.YtnkeamihfiobdaaGreatDoor
open Go Foot
structure LsGd (l : List Verd) : Prop where
  n : (l.length : Int) ≤ 16777216
  a : ∀ v ∈ l,VeGd v
theorem ls_at {l : List Verd} (g : LsGd l) {i : Nat} (h : i < l.length) : VeGd l[i] := g.a _ (List.getElem_mem h)
end Go.Proofs.YtnkeamihfiobdaaGreatDoor
end
section
set_option linter.unusedVariables false
set_option linter.unusedSimpArgs false
set_option maxRecDepth 100000
set_option maxHeartbeats 4000000
namespace Go.Proofs.YtnkeamihfiobdaaGreatDoor
open Go Foot
end Go.Proofs.YtnkeamihfiobdaaGreatDoor
end
section
set_option linter.unusedVariables false
set_option linter.unusedSimpArgs false
set_option maxRecDepth 100000
set_option maxHeartbeats 4000000
namespace Go.Proofs.YtnkeamihfiobdaaGreatDoor
open Go Foot
section
variable {m : Mach} {d n a b : Int} {c : Conf} {O : Option (Conf × Int × Int)}
end
end Go.Proofs.YtnkeamihfiobdaaGreatDoor
end
section
set_option linter.unusedVariables false
set_option linter.unusedSimpArgs false
set_option maxRecDepth 100000
set_option maxHeartbeats 4000000
namespace Go.Proofs.YtnkeamihfiobdaaGreatDoor
open Go Foot
end Go.Proofs.YtnkeamihfiobdaaGreatDoor
end
section
set_option linter.unusedVariables false
set_option linter.unusedSimpArgs false
set_option maxRecDepth 100000
set_option maxHeartbeats 4000000
namespace Go.Proofs.YtnkeamihfiobdaaGreatDoor
open Go Foot
structure ItOut (X : Type) where
  x : X
  j : Option Code
  c : Conf
def itSteps {X : Type} (m : Mach) (bd : X → Conf × Int × Bool → X × Option Code) : Nat → Int → Conf → X → ItOut X
  | k,n,c,x =>
    if (bd x (c,n,true)).2.isSome then ⟨(bd x (c,n,true)).1,(bd x (c,n,true)).2,c⟩ else
    if ruAt m c = noR then ⟨(bd x (c,n,true)).1,none,c⟩ else
    match k with
    | 0 => ⟨(bd x (c,n,true)).1,none,c⟩
    | k + 1 =>
      if roomS (stepS (ruAt m c) c) then itSteps m bd k (n + 1) (stepS (ruAt m c) c) (bd x (c,n,true)).1
      else ⟨(bd (bd x (c,n,true)).1 (stepS (ruAt m c) c,n + 1,false)).1,(bd (bd x (c,n,true)).1 (stepS (ruAt m c) c,n + 1,false)).2,stepS (ruAt m c) c⟩
section
variable {X : Type} {m : Mach} {bd : X → Conf × Int × Bool → X × Option Code} {b n : Int} {c : Conf} {x : X} {O : ItOut X} {k : Nat}
theorem it_out (h : (bd x (c,n,true)).2.isNone = false) (hO : itSteps m bd k n c x = O) : O = ⟨(bd x (c,n,true)).1,(bd x (c,n,true)).2,c⟩ := by
  rw [← hO]; unfold itSteps; rw [if_pos (by cases hh : (bd x (c,n,true)).2 <;> simp_all)]
theorem it_halt (h : (bd x (c,n,true)).2 = none) (hr : ruAt m c = noR) (hO : itSteps m bd k n c x = O) : O = ⟨(bd x (c,n,true)).1,none,c⟩ := by
  rw [← hO]; unfold itSteps; rw [if_neg (by simp [h]),if_pos hr]
theorem it_end (h : (bd x (c,n,true)).2 = none) (hn : ¬ n < b) (hO : itSteps m bd (b - n).toNat n c x = O) : O = ⟨(bd x (c,n,true)).1,none,c⟩ := by
  rw [← hO,show (b - n).toNat = 0 by omega]; unfold itSteps; rw [if_neg (by simp [h])]
  split <;> rfl
theorem it_full (h : (bd x (c,n,true)).2 = none) (hr : ¬ ruAt m c = noR) (hn : n < b) (hf : roomS (stepS (ruAt m c) c) = false) (hO : itSteps m bd (b - n).toNat n c x = O) :
    O = ⟨(bd (bd x (c,n,true)).1 (stepS (ruAt m c) c,n + 1,false)).1,(bd (bd x (c,n,true)).1 (stepS (ruAt m c) c,n + 1,false)).2,stepS (ruAt m c) c⟩ := by
  rw [← hO,show (b - n).toNat = (b - (n + 1)).toNat + 1 by omega]; unfold itSteps; rw [if_neg (by simp [h]),if_neg hr]; simp [hf]
theorem it_next (h : (bd x (c,n,true)).2 = none) (hr : ¬ ruAt m c = noR) (hn : n < b) (hf : roomS (stepS (ruAt m c) c) = true) (hO : itSteps m bd (b - n).toNat n c x = O) : itSteps m bd (b - (n + 1)).toNat (n + 1) (stepS (ruAt m c) c) (bd x (c,n,true)).1 = O := by
  rw [← hO,show (b - n).toNat = (b - (n + 1)).toNat + 1 by omega]; conv => rhs; unfold itSteps
  rw [if_neg (by simp [h]),if_neg hr]; simp [hf]
end
theorem preB30 {p : Prop} (h : p := by first | with_reducible assumption | omega | (simp only [List.length_append,List.length_cons,List.length_nil,List.length_set,List.length_replicate,List.length_take,List.length_drop,List.length_tail,List.length_dropLast,List.length_reverse] at *; omega) | exact mem_len (by assumption) (by omega) | (with_reducible refine Int.le_trans (Int.ofNat_le.2 (trimR_len _)) ?_; simp only [List.length_cons,List.length_tail]; omega) | (exact (ruAt_ok (by assumption) (by assumption) (by assumption)).2.1) | (exact (ruAt_ok (by assumption) (by assumption) (by assumption)).2.1) | (have := vMach_bd (by assumption); omega) | (simp only [mC_ch,mC_tu]; omega) | (with_reducible refine Int.le_trans (Int.ofNat_le.2 (pushL_len _ _)) ?_; simp only [List.length_dropLast]; omega) | exact (ask_ok (by assumption)).1 | exact (ask_ok (by assumption)).2.1 | exact (ask_ok (by assumption)).2.2.1 | exact (ask_ok (by assumption)).2.2.2 | trivial) : p := h
theorem steps_ok (m : Mach) (c : Conf) (b : Int) : Does Tryz.prog 105 [.one (.gv 0),.one (int b)] [ruBx m c.st 1 2,roI c.le.reverse,roI c.ri.reverse] (.one (.fn (.func 182) [.gv 4,.gv 3])) [ruBx m c.st 1 2,roI c.le.reverse,roI c.ri.reverse,.bx [.gv 0],.bx [int b]] := by
  refine does_of (k := 3) Tryz.func105 rfl Tryz.ntmps105 rfl rfl fun w F0 S0 ρ0 => ?_
  dsimp only [argT,argH]
  repeat' first|(apply n3;exact a_new (gb := .bx _) rfl;exact rfl;refine dA ?_)|(apply p3;exact pu1;exact rfl)|refine cd ?_|fail
  repeat refine cr ?_
  refine ends_id ?_
  refine endK [?_,?_] (h2 := ?_) (h3 := ?_) (nd := ?_)
  rotate_left 2
  all_goals (repeat' first|exact ce0|refine ce ?_|refine ce2 ?_ ?_|(refine Or.inr (bx_eq rfl rfl ?_);(try dsimp only [C.ren,C.ren.all]);(try exact rfl))|exact SVLe.refl|refine ceb ?_)
  all_goals first | exact (show nodupB _ = true from rfl) | exact Or.inr rfl | (rfl)
theorem stepsIt_ok (m : Mach) (c : Conf) (b : Int) {X : Type} (l : Nat) (R : X → Option Code → Opq) (bd : X → Conf × Int × Bool → X × Option Code) (Pre : X → Conf × Int × Bool → Prop) (x0 : X) (hm : vMach m = true) (hc : vConf m c = true) (h0 : Pre x0 (c,0,true)) (hb : b ≤ 9223372036854775807) (hst : ∀ x c n,Pre x (c,n,true) → vConf m c = true → (bd x (c,n,true)).2 = none → ruAt m c ≠ noR → n < b → Pre (bd x (c,n,true)).1 (stepS (ruAt m c) c,n + 1,roomS (stepS (ruAt m c) c))) (hY : ∀ x c n room,Pre x (c,n,room) → DoesW (YC Tryz.prog l) [.one (int n),.one (boo room)] [.opq (R x none) [1],ruBx m c.st 2 3,roI c.le.reverse,roI c.ri.reverse] (.one (boo (bd x (c,n,room)).2.isNone)) [.opq (R (bd x (c,n,room)).1 (bd x (c,n,room)).2) [1],ruBx m c.st 2 3,roI c.le.reverse,roI c.ri.reverse]) : Does Tryz.prog 182 [.one (.d (.fn (.yield l) [])),.one (.gv 1),.one (.gv 2)] [.opq (R x0 none) [3],.bx [int b],.bx [.gv 3],ruBx m c.st 4 5,roI c.le.reverse,roI c.ri.reverse] (.tup []) [.opq (R (itSteps m bd b.toNat 0 c x0).x (itSteps m bd b.toNat 0 c x0).j) [3],.bx [int b],.bx [.gv 3],ruBx m (itSteps m bd b.toNat 0 c x0).c.st 6 7,.dead,.dead,roI (itSteps m bd b.toNat 0 c x0).c.le.reverse,roI (itSteps m bd b.toNat 0 c x0).c.ri.reverse]:= by
  generalize hO : itSteps m bd b.toNat 0 c x0 = O
  refine does_of (k := 6) Tryz.func182 rfl Tryz.ntmps182 rfl rfl fun w F0 S0 ρ0 => ?_
  dsimp only [argT,argH]
  repeat' first|(apply p3;(exact pu1);exact rfl)|refine cd ?_|fail
  refine g_conv (t_mvB (i := 4) (j := 3) (k := 4) rfl rfl rfl rfl rfl rfl) ?_
  try dsimp only [setRow,List.map_cons,List.map_nil,scC,List.set_cons_zero,List.set_cons_succ]
  refine g_conv (t_mvB (i := 5) (j := 3) (k := 5) rfl rfl rfl rfl rfl rfl) ?_
  try dsimp only [setRow,List.map_cons,List.map_nil,scC,List.set_cons_zero,List.set_cons_succ]
  refine g_loop_id ?_
  refine loopK [0,1,2] [0,3,6,7] (fun y : X × Conf × Int => Pre y.1 (y.2.1,y.2.2,true) ∧ vConf m y.2.1 = true ∧ 0 ≤ y.2.2 ∧ (y.2.2 ≤ b ∨ y.2.2 = 0) ∧ itSteps m bd (b - y.2.2).toNat y.2.2 y.2.1 y.1 = O) (fun y => [(4,.one (int y.2.2))]) (fun y => [(0,.opq (R y.1 none) [3]),(3,ruBx m y.2.1.st 6 7),(6,roI y.2.1.le.reverse),(7,roI y.2.1.ri.reverse)]) (fun y => (b - y.2.2).toNat) (x0,c,(0 : Int)) [0,1,2,3,4,5,6,7] (hI := ?_) (hr := ?_)
  · exact ⟨h0,hc,by simp,.inr rfl,by rw [Int.sub_zero]; exact hO⟩
  · rintro ⟨x,c,n⟩ ⟨k1,k2,k3,k4,k5⟩
    dsimp only [List.cons_append,List.nil_append] at *
    skip
    repeat' first|(apply p3;(exact pu1);exact rfl)|refine cdn ?_|refine g_reg (id := 1) ?_|(apply c4 0;exact callY (θ := [0,3,6,7]) (hD := (hY _ _ _ _ (by assumption)));exact rfl;exact rfl;exact rfl;refine dM ?_)|refine o_no rfl rfl rfl rfl ?_|(apply py3;exact rfl;exact rfl;(first|exact pu1|exact puC);exact rfl;exact rfl)|(apply cy4 0;exact rfl;exact rfl;exact callK1 (θ := []) (hD := (haltsC_ok _ _ preB30 preB30));exact rfl;exact rfl;exact rfl;exact rfl;refine dM ?_)|((first|refine o_gs rfl rfl (fun hc => ?_) (fun hc => ?_)|refine g_cond rfl (fun hc => ?_) (fun hc => ?_)) <;> (try simp only [dcB] at hc) <;> (try first|contradiction|(exfalso;omega)))|fail
    · have e : (bd x (c,n,true)).2 = none := by cases hh : (bd x (c,n,true)).2 <;> simp_all
      have hnr : ¬ ruAt m c = noR := hc
      have hcn : n < b := by assumption
      have hp := hst x c n k1 k2 e hc hcn
      simp only [e]
      repeat' first|(apply p3;(first|exact pu1|exact a_add rfl rfl (by omega) (by omega));exact rfl)|refine cd ?_|(apply c4 2;exact callK0 (θ := [_,_,_]) (hD := (stepC_ok _ _ preB30 preB30));exact rfl;exact rfl;exact rfl;refine dM ?_)|((refine g_cond rfl (fun hc => ?_) (fun hc => ?_)) <;> (try simp only [dcB] at hc) <;> (try first|contradiction|(exfalso;omega)))|fail
      · have hf : roomS (stepS (ruAt m c) c) = false := by assumption
        rw [hf] at hp
        have hE := it_full e hnr hcn hf k5
        repeat' first|refine cd ?_|(apply c4 0;exact callY (θ := [0,3,8,9]) (hD := (hY _ _ _ _ (by assumption)));exact rfl;exact rfl;exact rfl;refine dM ?_)|fail
        subst hE
        repeat refine cr ?_
        refine ends_id ?_
        refine endK [?_,?_] (h2 := ?_) (h3 := ?_) (nd := ?_)
        rotate_left 2
        all_goals (repeat' first|exact ce0|refine ce ?_|refine ce2 ?_ ?_|(refine Or.inr (bx_eq rfl rfl ?_);(try dsimp only [C.ren,C.ren.all]);(try exact rfl))|exact SVLe.refl|refine ceb ?_)
        all_goals first | exact (show nodupB _ = true from rfl) | exact Or.inr rfl | (rfl)
      · have hf : roomS (stepS (ruAt m c) c) = true := by assumption
        rw [hf] at hp
        have hE := it_next e hnr hcn hf k5
        have hk := stepS_ok hm k2 hnr hf
        skip
        refine q_again ((bd x (c,n,true)).1,stepS (ruAt m c) c,n + 1) [0,1,2,3,4,5,8,9] (by exact stk) ?_ ?_
        · exact ⟨hp,hk,by dsimp only; omega,by dsimp only; omega,hE⟩
        · dsimp only; omega
    · have e : (bd x (c,n,true)).2 = none := by cases hh : (bd x (c,n,true)).2 <;> simp_all
      have hE := it_halt e hc k5
      simp only [e]
      subst hE
      repeat refine cr ?_
      refine ends_id ?_
      refine endK [?_,?_] (h2 := ?_) (h3 := ?_) (nd := ?_)
      rotate_left 2
      all_goals (repeat' first|exact ce0|refine ce ?_|refine ce2 ?_ ?_|(refine Or.inr (bx_eq rfl rfl ?_);(try dsimp only [C.ren,C.ren.all]);(try exact rfl))|exact SVLe.refl|refine ceb ?_)
      all_goals first | exact (show nodupB _ = true from rfl) | exact Or.inr rfl | (rfl)
    · have e : (bd x (c,n,true)).2 = none := by cases hh : (bd x (c,n,true)).2 <;> simp_all
      have hE := it_end e hc k5
      simp only [e]
      subst hE
      repeat refine cr ?_
      refine ends_id ?_
      refine endK [?_,?_] (h2 := ?_) (h3 := ?_) (nd := ?_)
      rotate_left 2
      all_goals (repeat' first|exact ce0|refine ce ?_|refine ce2 ?_ ?_|(refine Or.inr (bx_eq rfl rfl ?_);(try dsimp only [C.ren,C.ren.all]);(try exact rfl))|exact SVLe.refl|refine ceb ?_)
      all_goals first | exact (show nodupB _ = true from rfl) | exact Or.inr rfl | (rfl)
    · have hE := it_out hc k5
      subst hE
      repeat refine cr ?_
      refine ends_id ?_
      refine endK [?_,?_] (h2 := ?_) (h3 := ?_) (nd := ?_)
      rotate_left 2
      all_goals (repeat' first|exact ce0|refine ce ?_|refine ce2 ?_ ?_|(refine Or.inr (bx_eq rfl rfl ?_);(try dsimp only [C.ren,C.ren.all]);(try exact rfl))|exact SVLe.refl|refine ceb ?_)
      all_goals first | exact (show nodupB _ = true from rfl) | exact Or.inr rfl | (rfl)
end Go.Proofs.YtnkeamihfiobdaaGreatDoor
end
section
set_option linter.unusedVariables false
set_option linter.unusedSimpArgs false
set_option maxRecDepth 100000
set_option maxHeartbeats 4000000
namespace Go.Proofs.YtnkeamihfiobdaaGreatDoor
open Go Foot
end Go.Proofs.YtnkeamihfiobdaaGreatDoor
end
section
set_option linter.unusedVariables false
set_option linter.unusedSimpArgs false
set_option maxRecDepth 100000
set_option maxHeartbeats 4000000
namespace Go.Proofs.YtnkeamihfiobdaaGreatDoor
open Go Foot
end Go.Proofs.YtnkeamihfiobdaaGreatDoor
end
section
set_option linter.unusedVariables false
set_option linter.unusedSimpArgs false
set_option maxRecDepth 100000
set_option maxHeartbeats 4000000
namespace Go.Proofs.YtnkeamihfiobdaaGreatDoor
open Go Foot
section
variable {m : Mach}
end
end Go.Proofs.YtnkeamihfiobdaaGreatDoor
end
section
set_option linter.unusedVariables false
set_option linter.unusedSimpArgs false
set_option maxRecDepth 100000
set_option maxHeartbeats 4000000
namespace Go.Proofs.YtnkeamihfiobdaaGreatDoor
open Go Foot
end Go.Proofs.YtnkeamihfiobdaaGreatDoor
end
