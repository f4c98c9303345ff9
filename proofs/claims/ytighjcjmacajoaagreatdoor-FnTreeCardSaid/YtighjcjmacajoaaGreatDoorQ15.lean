/- Parts of the proof (15 of 24). -/
import Derived.Lib.AppendIntMem
import Derived.Test.YtighjcjmacajoaaGreatDoorQ14
section
set_option linter.unusedVariables false
set_option linter.unusedSimpArgs false
set_option maxRecDepth 100000
namespace Go.Proofs.YtighjcjmacajoaaGreatDoor
open Go Foot Go.Shelf Go.RowKit
abbrev nlC : C := .d (.sc .nilIface)
abbrev bldr (l : Bs) : GB := .bld 244 5 l
theorem cells_str (l s : Bs) : Lib.byteCells l ++ Lib.strCells ⟨s.toArray⟩ = Lib.byteCells (l ++ s) := by
  unfold Lib.byteCells Lib.strCells
  simp
theorem repA_1 {w : World} {S : Foot} {ρ : Env} {v : Value} {vs : List Value} (h : RepA w S ρ [.one (.d (.sc v))] vs) : vs = [v] := by
  simp only [RepA,RepS,RepC,Rep] at h
  obtain ⟨_,_,rfl,⟨rfl,_⟩,rfl⟩ := h
  rfl
theorem repA_2 {w : World} {S : Foot} {ρ : Env} {v u : Value} {vs : List Value} (h : RepA w S ρ [.one (.d (.sc v)),.one (.d (.sc u))] vs) : vs = [v,u] := by
  simp only [RepA,RepS,RepC,Rep] at h
  obtain ⟨_,_,rfl,⟨rfl,_⟩,_,_,rfl,⟨rfl,_⟩,rfl⟩ := h
  rfl
theorem does_ext {P : Program} {f : Nat} {ags : List SV} {av : List Value} {res : SV} {rv : Value} (ha : ∀ w S ρ vs,RepA w S ρ ags vs → vs = av) (hr : ∀ w S ρ,RepS w S ρ res rv)
    (hc : ∀ (w : World) (S : Foot),Tabs w S → Calls P f av.toArray w fun en w' => en = .returned rv ∧ Below w.heap.size w w') : Does P f ags [] res [] := by
  intro vs w S ρ F hA hG
  have := ha _ _ _ _ hA
  subst this
  refine (hc w S hG.tab).mono ?_
  rintro en w' ⟨rfl,hb⟩
  refine ⟨rv,no,ρ,F,rfl,?_,hr _ _ _⟩
  refine ⟨⟨hb.os,hb.tape,hb.output,hb.size,fun k hk _ => hb.block k hk,fun k o hk _ => ?_⟩,no_le _,fun _ _ h => h.elim,by simp,fun i u _ h => h,hG.new,fun i gb hi => by simp at hi,fun i j hi => by simp at hi,fun i hi => by simp at hi,fun i hi => by simp at hi,fun i hi => by simp at hi⟩
  have e := hb.block k hk
  simp [World.cell?,World.frozen?,mapAt,e]
section
variable {g : Gh} {st : St} {dst : Option Tmp} {ty : TypeId} {pos : String} {after : Array Edge} {guard : Option (Nat × Bool)} {i : Nat}
end
end Go.Proofs.YtighjcjmacajoaaGreatDoor
end
section
set_option linter.unusedVariables false
set_option linter.unusedSimpArgs false
set_option maxRecDepth 100000
set_option maxHeartbeats 4000000
namespace Go.Proofs.YtighjcjmacajoaaGreatDoor
open Go Foot Go.Shelf Go.RowKit
theorem WriteString_ok (l s : Bs) (h : (l.length : Int) + s.length ≤ 140737488355328) : Does Tryz.prog 200 [.one (.gv 0),.one (str s)] [bldr l] (.tup [(false,[int s.length]),(false,[nlC])]) [bldr (l ++ s)] :=
  does_bld (av := [sv s]) (rv := .tuple #[.int .i64 s.length,.nilIface]) (fun w S ρ vs => repA_1) (fun w S ρ => ⟨_,rfl,_,_,rfl,⟨_,_,rfl,⟨rfl,rfl⟩,rfl⟩,_,_,rfl,⟨_,_,rfl,⟨rfl,rfl⟩,rfl⟩,rfl⟩) fun w b p v hB => by
    have := bs_WriteString hB ⟨s.toArray⟩ (by rw [Lib.byteCells_length,sz_str]; omega)
    rw [cells_str,sz_str] at this
    exact this
theorem String_ok (l : Bs) : Does Tryz.prog 201 [.one (.gv 0)] [bldr l] (.one (str l)) [bldr l] :=
  does_bld (av := []) (rv := sv l) (fun w S ρ vs h => h) (fun w S ρ => ⟨rfl,rfl⟩) fun w b p v hB => bl_String Tryz.lays169 Tryz.Builder_Extra_169 hB
theorem FormatInt_ok (n : Int) (h0 : -9223372036854775808 ≤ n) (h1 : n ≤ 9223372036854775807) : Does Tryz.prog 249 [.one (int n),.one (int 10)] [] (.one (str (Lib.itoa n))) [] :=
  does_ext (av := [.int .i64 n,.int .i64 10]) (rv := sv (Lib.itoa n)) (fun w S ρ vs => repA_2) (fun w S ρ => ⟨rfl,rfl⟩) fun w S hT => by
    obtain ⟨⟨cs,T,fr,ht,hcs⟩,_⟩ := hT _ List.mem_cons_self
    dsimp only at hcs
    subst hcs
    refine (Any.strconv_FormatInt_10 Tryz.laysM173 n h0 h1 w ?_).mono ?_
    · dsimp only at ht
      exact Option.bind_eq_some_iff.2 ⟨_,by kernel_rfl,by rw [ht]; simp [Lib.pow10Tab]⟩
    · rintro en w' ⟨rfl,k,os,rfl⟩
      exact ⟨rfl,Lib.below_grow _ w (Nat.le_refl _) k os⟩
theorem reps_S {w : World} {S F : Foot} : ∀ {l : List Bs} {us : List Value},Reps w S (rows eS l) us F → us = l.map fun b => sv b
  | [],us,h => by simpa [rows,Reps] using h
  | n :: l,us,h => by
    have e : rows eS (n :: l) = .sc (sv n) :: rows eS l := rfl
    rw [e] at h
    simp only [Reps] at h
    obtain ⟨v,us',F1,F2,rfl,_,_,_,h1,h2⟩ := h
    simp only [Rep] at h1
    rw [h1.1,reps_S h2,List.map_cons]
@[irreducible] def joinT (l : List Bs) (sep : Bs) : Bs := Lib.join l sep
theorem Join_ok (l : List Bs) (sep : Bs) (hl : (l.length : Int) ≤ 1048576) (hj : ((joinT l sep).length : Int) ≤ 140737488355328) : Does Tryz.prog 142 [.one (shS l),.one (str sep)] [] (.one (str (joinT l sep))) [] := by
  intro vs w S ρ F hA hG
  simp only [RepA,RepS,RepC] at hA
  obtain ⟨v0,_,rfl,h0,v1,_,rfl,h1,rfl⟩ := hA
  simp only [Rep] at h1
  obtain ⟨rfl,_⟩ := h1
  simp only [Rep] at h0
  obtain ⟨a,len,cap,rfl,hlen,_,hcap,hc⟩ := h0
  rw [rows_len] at hlen
  have hlen' : l.length = len := by simpa using hlen
  have key : Calls Tryz.prog 142 #[.slice a len cap,sv sep] w fun e w' => e = .returned (sv (joinT l sep)) ∧ Below w.heap.size w w' := by
    rcases hc with ⟨rfl,_⟩ | ⟨b,off,us,G,rfl,hli,hr,ho⟩
    · have h0 : len = 0 := by omega
      have hl0 : l = [] := List.eq_nil_of_length_eq_zero (by omega)
      subst h0 hl0
      refine (Any.strings_Join_none Tryz.lays156 Tryz.Builder_Extra_156 a 0 ⟨sep.toArray⟩ w).mono ?_
      rintro e w' ⟨rfl,rfl⟩
      exact ⟨by unfold joinT; rfl,Below.refl _ _⟩
    · have hus := reps_S hr
      subst hus
      have hjj : joinT l sep = Lib.join ((l.map fun b => (⟨b.toArray⟩ : ByteArray)).map (·.data.toList)) (⟨sep.toArray⟩ : ByteArray).data.toList := by
        unfold joinT
        rw [List.map_map]
        congr 1
        exact (List.map_id l).symm
      have hbk : b < w.heap.size ∨ l = [] := by
        cases l with
        | nil => exact .inr rfl
        | cons x l =>
          have := hli 0 (sv x) rfl
          refine .inl ?_
          unfold World.cell? at this
          rcases Nat.lt_or_ge b w.heap.size with h | h
          · exact h
          · simp [Array.getElem?_eq_none h] at this
      rcases hbk with hbk | hl0
      · have hx := Any.strings_Join Tryz.lays156 Tryz.Builder_Extra_156 b off cap (l.map fun b => (⟨b.toArray⟩ : ByteArray)) ⟨sep.toArray⟩ w (fun j x hj => by
          rw [List.getElem?_map] at hj
          cases hg : l[j]? with
          | none => rw [hg] at hj; cases hj
          | some y =>
            rw [hg] at hj
            cases hj
            exact hli j (sv y) (by rw [List.getElem?_map,hg]; rfl)) hbk (by rw [List.length_map]; omega) (by rw [List.length_map]; omega) (by rw [← hjj]; omega)
        rw [List.length_map,hlen',← hjj] at hx
        exact hx
      · subst hl0
        simp at hlen'
        subst hlen'
        refine (Any.strings_Join_none Tryz.lays156 Tryz.Builder_Extra_156 (some ⟨b,off,none⟩) cap ⟨sep.toArray⟩ w).mono ?_
        rintro e w' ⟨rfl,rfl⟩
        exact ⟨by unfold joinT; rfl,Below.refl _ _⟩
  refine key.mono ?_
  rintro en w' ⟨rfl,hb⟩
  refine ⟨_,no,ρ,F,rfl,?_,⟨rfl,rfl⟩⟩
  refine ⟨⟨hb.os,hb.tape,hb.output,hb.size,fun k hk _ => hb.block k hk,fun k o hk _ => ?_⟩,no_le _,fun _ _ h => h.elim,by simp,fun i u _ h => h,hG.new,fun i gb hi => by simp at hi,fun i j hi => by simp at hi,fun i hi => by simp at hi,fun i hi => by simp at hi,fun i hi => by simp at hi⟩
  have e := hb.block k hk
  simp [World.cell?,World.frozen?,mapAt,e]
end Go.Proofs.YtighjcjmacajoaaGreatDoor
end
section
set_option linter.unusedVariables false
set_option linter.unusedSimpArgs false
set_option maxRecDepth 100000
set_option maxHeartbeats 4000000
namespace Go.Proofs.YtighjcjmacajoaaGreatDoor
open Go Foot
def drev (u : Nat) : List Int := if h : u = 0 then [] else (48 + (u % 10 : Nat) : Int) :: drev (u / 10)
termination_by u
decreasing_by omega
theorem drev_0 : drev 0 = [] := by rw [drev]; simp
theorem drev_s {u : Nat} (h : u ≠ 0) : drev u = (48 + (u % 10 : Nat) : Int) :: drev (u / 10) := by rw [drev]; simp [h]
theorem drev_le : ∀ (k u : Nat),u < 10 ^ k → (drev u).length ≤ k := by
  intro k
  induction k with
  | zero =>
    intro u h
    have : u = 0 := by simpa using h
    subst this
    simp [drev_0]
  | succ k ih =>
    intro u h
    by_cases h0 : u = 0
    · subst h0; simp [drev_0]
    · rw [drev_s h0,List.length_cons]
      have := ih (u / 10) (by rw [Nat.pow_succ] at h; omega)
      omega
theorem byt_app (a b : List Int) : byt (a ++ b) = byt a ++ byt b := by unfold byt; simp
theorem byt_len (a : List Int) : (byt a).length = a.length := by unfold byt; simp
theorem byt_1 (n : Int) : byt [n] = [UInt8.ofNat n.toNat] := by unfold byt; rfl
theorem byt_0 : byt [] = [] := by unfold byt; rfl
theorem drev_dec : ∀ (u : Nat),u ≠ 0 → byt (drev u).reverse = Lib.decDigits u := by
  intro u
  induction u using Nat.strongRecOn with
  | _ u ih =>
    intro h0
    rw [drev_s h0,List.reverse_cons,byt_app,byt_1,Lib.decDigits]
    by_cases h : u < 10
    · rw [dif_pos h,show u / 10 = 0 by omega,drev_0]
      simp only [List.reverse_nil,byt_0,List.nil_append]
      congr 2
      omega
    · rw [dif_neg h,ih (u / 10) (by omega) (by omega)]
      rfl
@[irreducible] def decT (n : Int) : Bs := Lib.itoa n
theorem decT_0 : decT 0 = [48] := by unfold decT Lib.itoa; simp [Lib.decDigits]
theorem decT_n {n : Int} (h : n ≠ 0) : decT n = byt ((drev n.natAbs ++ (if n < 0 then [45] else [])).reverse) := by
  unfold decT Lib.itoa
  split
  · rw [List.reverse_append,byt_app,drev_dec _ (by omega)]; simp [byt_1]
  · rw [List.append_nil,drev_dec _ (by omega),show n.natAbs = n.toNat by omega]
theorem decT_le {n : Int} (h0 : -9223372036854775808 ≤ n) (h1 : n ≤ 9223372036854775807) : (decT n).length ≤ 21 := by
  by_cases h : n = 0
  · subst h; rw [decT_0]; decide
  · rw [decT_n h,byt_len,List.length_reverse,List.length_append]
    have h2 := drev_le 20 n.natAbs (by omega)
    split <;> simp only [List.length_cons,List.length_nil] <;> omega
theorem preB49 {p : Prop} (h : p := by first | with_reducible assumption | omega | (simp only [List.length_append,List.length_cons,List.length_nil,List.length_set,List.length_replicate,List.length_take,List.length_drop,List.length_tail,List.length_dropLast,List.length_reverse] at *; omega) | exact mem_len (by assumption) (by omega) | (with_reducible refine Int.le_trans (Int.ofNat_le.2 (trimR_len _)) ?_; simp only [List.length_cons,List.length_tail]; omega) | (exact (ruAt_ok (by assumption) (by assumption) (by assumption)).2.1) | (exact (ruAt_ok (by assumption) (by assumption) (by assumption)).2.1) | (have := vMach_bd (by assumption); omega) | (simp only [mC_ch,mC_tu]; omega) | (have := vTag_bd (by assumption); omega) | (have := (‹Gd _ _›).le; omega) | (exact tgHalts_no (by assumption)) | (exact tgHead (by assumption) (by assumption) (by assumption)) | (exact Int.le_trans (tgStep_gd (by assumption) (by assumption) (by assumption) (by assumption)).le (by decide)) | (exact vTag_r (by assumption)) | (with_reducible refine Int.le_trans (Int.ofNat_le.2 (pushL_len _ _)) ?_; simp only [List.length_dropLast]; omega) | exact (ask_ok (by assumption)).1 | exact (ask_ok (by assumption)).2.1 | exact (ask_ok (by assumption)).2.2.1 | exact (ask_ok (by assumption)).2.2.2 | trivial) : p := h
theorem Decimal_ok (n : Int) (h0 : -9223372036854775808 ≤ n) (h1 : n ≤ 9223372036854775807) : Does Tryz.prog 184 [.one (int n)] [] (.one (str (decT n))) [] := by
  have e : decT n = Lib.itoa n := by unfold decT; rfl
  rw [e]
  refine does_of (k := 0) Tryz.func184 rfl Tryz.ntmps184 rfl rfl fun w F0 S0 ρ0 => ?_
  dsimp only [argT,argH]
  repeat' first|(apply p3;exact pu1;exact rfl)|refine cd ?_|(apply c4 0;exact callK1 (θ := []) (hD := (FormatInt_ok _ preB49 preB49));exact rfl;exact rfl;exact rfl;refine dM ?_)
  repeat refine cr ?_
  refine ends_id ?_
  refine endK [] (h2 := ?_) (h3 := ?_) (nd := ?_)
  all_goals (repeat' first|exact ce0|refine ce ?_|refine ce2 ?_ ?_|exact SVLe.refl|refine ceb ?_)
  all_goals first | exact (show nodupB _ = true from rfl) | exact Or.inr rfl | (rfl)
end Go.Proofs.YtighjcjmacajoaaGreatDoor
end
section
set_option linter.unusedVariables false
set_option linter.unusedSimpArgs false
set_option maxRecDepth 100000
set_option maxHeartbeats 4000000
namespace Go.Proofs.YtighjcjmacajoaaGreatDoor
open Go Foot
end Go.Proofs.YtighjcjmacajoaaGreatDoor
end
section
set_option linter.unusedVariables false
set_option linter.unusedSimpArgs false
set_option maxRecDepth 100000
set_option maxHeartbeats 4000000
namespace Go.Proofs.YtighjcjmacajoaaGreatDoor
open Go Foot
structure Rule' where
  w : Int
  m : Int
  n : Int
  deriving DecidableEq
abbrev eR : Enc Rule' := ⟨3,fun r => [.sc (.int .i64 r.w),.sc (.int .i64 r.m),.sc (.int .i64 r.n)],fun _ => rfl,by decide⟩
abbrev shR (l : List Rule') : C := .d (.sl false 3 (rows eR l))
abbrev ruC (r : Rule') : List C := [int r.w,int r.m,int r.n]
structure Mach where
  sy : Int
  st : Int
  ru : List Rule'
abbrev maC (m : Mach) : List C := [int m.sy,int m.st,shR m.ru]
structure Conf where
  st : Int
  le : List Int
  ri : List Int
abbrev coC (c : Conf) : List C := [int c.st,shI c.le,shI c.ri]
end Go.Proofs.YtighjcjmacajoaaGreatDoor
end
section
set_option linter.unusedVariables false
set_option linter.unusedSimpArgs false
set_option maxRecDepth 100000
set_option maxHeartbeats 4000000
namespace Go.Proofs.YtighjcjmacajoaaGreatDoor
open Go Foot
theorem rule_eq1 : Tryz.prog.stoodInHeld 91 = false := by kernel_rfl
theorem rule_eq2 : Tryz.prog.eqGuardType Tryz.prog.depth 91 = false := by kernel_rfl
theorem rule_eq3 : Tryz.prog.underlying 91 = some (.struct (Tryz.prog.fieldsOf 91)) := by kernel_rfl
theorem rule_equal (r s : Rule') (W : World) : (Op.equalIn 10000 91 (.agg #[.int .i64 r.w,.int .i64 r.m,.int .i64 r.n]) (.agg #[.int .i64 s.w,.int .i64 s.m,.int .i64 s.n])).run Tryz.prog W = .ok (decide (r = s)) W := by
  obtain ⟨a,b,c⟩ := r
  obtain ⟨a',b',c'⟩ := s
  rw [run_equalIn_struct W 9999 _ _ _ rule_eq3 rule_eq1]
  have hf : Tryz.prog.fieldsOf 91 = match Tryz.prog.underlying 91 with | some (.struct fs) => fs | _ => #[] := by kernel_rfl
  rw [hf,Tryz.underlying91]
  by_cases h1 : a = a' <;> by_cases h2 : b = b' <;> by_cases h3 : c = c' <;> simp [go_sem,Tryz.underlying2,h1,h2,h3]
theorem rule_guard (op : BinOp) (p q : Operand) (xs ys : Array Value) (W : World) : (eqGuard op 91 p q (.agg xs) (.agg ys)).run Tryz.prog W = .ok () W := by
  unfold eqGuard
  cases op <;> simp [program,Sem.run,rule_eq2]
section
variable {g : Gh} {st : St} {dst : Option Tmp} {ty : TypeId} {pos : String} {after : Array Edge} {guard : Option (Nat × Bool)} {x y : Operand} {U : TypeId} {r s : Rule'}
theorem agg3 {w : World} {S : Foot} {ρ : Env} {r : Rule'} {v : Value} (h : RepS w S ρ (.agg (ruC r)) v) : v = .agg #[.int .i64 r.w,.int .i64 r.m,.int .i64 r.n] := by
  obtain ⟨vs,rfl,h⟩ := h
  simp only [RepCs,RepC,Rep] at h
  obtain ⟨v1,u1,e1,⟨rfl,_⟩,v2,u2,rfl,⟨rfl,_⟩,v3,u3,rfl,⟨rfl,_⟩,rfl⟩ := h
  cases vs
  simp at e1
  rw [e1]
theorem a_eqRule (e1 : opd st x = .agg (ruC r)) (e2 : opd st y = .agg (ruC s)) : Acts Tryz.prog g ⟨dst,.binOp .eql 91 x y U,ty,pos,after,guard⟩ st (.one (boo (decide (r = s)))) [] [] := by
  refine acts_of fun a w S ρ F h => ⟨.bool (decide (r = s)),?_,rfl,rfl⟩
  have h1 := h.opd x
  have h2 := h.opd y
  rw [e1] at h1
  rw [e2] at h2
  show (do pure (.value (← (do eqGuard .eql 91 x y (a.eval x) (a.eval y); binOp .eql 91 (a.eval x) (a.eval y)))) : Sem Next).run _ w = _
  rw [agg3 h1,agg3 h2]
  simp [rule_guard,run_eql_struct,rule_equal]
theorem a_neRule (e1 : opd st x = .agg (ruC r)) (e2 : opd st y = .agg (ruC s)) : Acts Tryz.prog g ⟨dst,.binOp .neq 91 x y U,ty,pos,after,guard⟩ st (.one (boo (!decide (r = s)))) [] [] := by
  refine acts_of fun a w S ρ F h => ⟨.bool (!decide (r = s)),?_,rfl,rfl⟩
  have h1 := h.opd x
  have h2 := h.opd y
  rw [e1] at h1
  rw [e2] at h2
  show (do pure (.value (← (do eqGuard .neq 91 x y (a.eval x) (a.eval y); binOp .neq 91 (a.eval x) (a.eval y)))) : Sem Next).run _ w = _
  rw [agg3 h1,agg3 h2]
  simp [rule_guard,run_neq_struct,rule_equal]
end
@[irreducible] def trimR (l : List Int) : List Int := (l.reverse.dropWhile (· == 0)).reverse
theorem trimR_nil : trimR [] = [] := by unfold trimR; rfl
theorem trimR_len (l : List Int) : (trimR l).length ≤ l.length := by
  unfold trimR
  rw [List.length_reverse]
  have := (List.dropWhile_sublist (· == (0 : Int)) (l := l.reverse)).length_le
  rwa [List.length_reverse] at this
theorem trimR_take (xs : List Int) (n : Nat) (hn : n < xs.length) (h0 : xs[n] = 0) : trimR (xs.take (n + 1)) = trimR (xs.take n) := by
  unfold trimR
  rw [List.take_succ_eq_append_getElem hn,List.reverse_append,List.reverse_singleton,h0]
  simp
theorem trimR_stop (xs : List Int) (n : Nat) (hn : n < xs.length) (h0 : xs[n] ≠ 0) : trimR (xs.take (n + 1)) = xs.take (n + 1) := by
  unfold trimR
  rw [List.take_succ_eq_append_getElem hn,List.reverse_append,List.reverse_singleton]
  simp [h0]
theorem preB1 {p : Prop} (h : p := by first | with_reducible assumption | omega | (simp only [List.length_append,List.length_cons,List.length_nil,List.length_set,List.length_replicate,List.length_take,List.length_drop,List.length_tail,List.length_dropLast,List.length_reverse] at *; omega) | exact mem_len (by assumption) (by omega) | (with_reducible refine Int.le_trans (Int.ofNat_le.2 (trimR_len _)) ?_; simp only [List.length_cons,List.length_tail]; omega) | trivial) : p := h
theorem l05None_ok : Does Tryz.prog 99 [] [] (.agg [int 0,int 0,int (-1)]) [] := by
  refine does_of (k := 0) Tryz.func99 rfl Tryz.ntmps99 rfl rfl fun w F0 S0 ρ0 => ?_
  dsimp only [argT,argH]
  repeat' first|(apply n3;exact a_new (gb := .bx _) rfl;exact rfl;refine dA ?_)|(apply p3;exact a_pure (sv := .agg _) rfl;exact rfl)|refine cd ?_|(apply w3;(exact a_st_bx rfl rfl rfl rfl (fN rfl rfl) (Nat.le_of_ble_eq_true rfl) rfl);exact rfl;refine dS ?_)
  repeat refine cr ?_
  refine ends_id ?_
  refine endK [] (h2 := ?_) (h3 := ?_) (nd := ?_)
  all_goals (repeat' first|exact ce0|refine ce ?_|refine ce2 ?_ ?_|exact SVLe.refl|refine ceb ?_)
  all_goals first | exact (show nodupB _ = true from rfl) | exact Or.inr rfl | (rfl)
theorem l05Head_ok (c : Conf) (hc : (c.ri.length : Int) ≤ 16777216) : Does Tryz.prog 169 [.one (.d (.bx false [.sc (.int .i64 c.st),.sl false 1 (rows eI c.le),.sl false 1 (rows eI c.ri)]))] [] (.one (int (c.ri.headD 0))) [] := by
  refine does_of (k := 0) Tryz.func169 rfl Tryz.ntmps169 rfl rfl fun w F0 S0 ρ0 => ?_
  dsimp only [argT,argH]
  repeat' first|(apply p3;(first|exact pu1|exact puN|exact puC|exact puI);exact rfl)|refine cd ?_|((refine g_cond rfl (fun hc => ?_) (fun hc => ?_)) <;> (try simp only [dcB] at hc) <;> (try first|contradiction|(exfalso;omega)))
  · repeat refine cr ?_
    refine ends_id ?_
    refine endK [] (h2 := ?_) (h3 := ?_) (nd := ?_)
    all_goals (repeat' first|exact ce0|refine ce ?_|refine ce2 ?_ ?_|exact SVLe.refl|refine ceb ?_)
    all_goals first | exact (show nodupB _ = true from rfl) | exact Or.inr rfl | ((cases h : c.ri <;> (try rw [h] at hc) <;> simp_all <;> omega))
  · repeat refine cr ?_
    refine ends_id ?_
    refine endK [] (h2 := ?_) (h3 := ?_) (nd := ?_)
    all_goals (repeat' first|exact ce0|refine ce ?_|refine ce2 ?_ ?_|exact SVLe.refl|refine ceb ?_)
    all_goals first | exact (show nodupB _ = true from rfl) | exact Or.inr rfl | (exact get0_headD _)
theorem l05Rest_ok (xs : List Int) (hx : (xs.length : Int) ≤ 16777216) : Does Tryz.prog 227 [.one (shI xs)] [] (.one (.gv 0)) [.row 1 (rows eI xs.tail)] := by
  refine does_of (k := 0) Tryz.func227 rfl Tryz.ntmps227 rfl rfl fun w F0 S0 ρ0 => ?_
  dsimp only [argT,argH]
  repeat' first|(apply n3;exact a_nilO eI rfl;exact rfl)|(apply n3;exact a_litE eI [] rfl rfl rfl rfl rfl rfl rfl rfl;exact rfl;refine dA ?_)|(apply p3;(first|exact pu1|exact puN|exact puC|exact a_slT rfl rfl rfl (fS rfl) (by omega) (by omega) (by exact rfl));exact rfl)|refine cd ?_|(apply c4 1;exact callK1 (θ := []) (hD := (l00Own_ok _ preB1));exact rfl;exact rfl;exact rfl;refine dM ?_)|((refine g_cond rfl (fun hc => ?_) (fun hc => ?_)) <;> (try simp only [dcB] at hc) <;> (try first|contradiction|(exfalso;omega)))
  all_goals
    repeat refine cr ?_
    refine ends_id ?_
    refine endK [?_] (h2 := ?_) (h3 := ?_) (nd := ?_)
    rotate_left 1
    all_goals (repeat' first|exact ce0|refine ce ?_|refine ce2 ?_ ?_|(refine Or.inr (bx_eq rfl rfl ?_);(try dsimp only [C.ren,C.ren.all]);(try exact rfl))|exact SVLe.refl|refine ceb ?_)
    all_goals first | exact (show nodupB _ = true from rfl) | exact Or.inr rfl | ((cases xs <;> simp_all <;> omega))
theorem l05Trim_ok (xs : List Int) (hx : (xs.length : Int) ≤ 16777216) : Does Tryz.prog 278 [.one (shI xs)] [] (.one (.gv 0)) [.row 1 (rows eI (trimR xs))] := by
  refine does_of (k := 0) Tryz.func278 rfl Tryz.ntmps278 rfl rfl fun w F0 S0 ρ0 => ?_
  dsimp only [argT,argH]
  repeat' first|(apply n3;exact a_nilO eI rfl;exact rfl)|(apply p3;(first|exact pu1|exact puN);exact rfl)|refine cd ?_
  refine g_loop_id ?_
  refine loopK [0] [] (fun n : Int => 0 ≤ n ∧ n ≤ xs.length ∧ trimR (xs.take n.toNat) = trimR xs) (fun n => [(3,.one (int n))]) (fun _ => []) (fun n => n.toNat) (xs.length : Int) [0] (hI := ?_) (hr := ?_)
  · exact ⟨by omega,by omega,by simp⟩
  · rintro n ⟨h0,h1,h2⟩
    dsimp only [List.cons_append,List.nil_append]
    repeat' first|(apply p3;(first|exact pu1|exact puC|exact a_sub rfl rfl (by omega) (by omega)|exact a_slH rfl rfl rfl (fS rfl) (by omega) (by omega) (by exact rfl));exact rfl)|refine cd ?_|(apply c4 1;exact callK1 (θ := []) (hD := (l00Own_ok _ preB1));exact rfl;exact rfl;exact rfl;refine dM ?_)|refine o_no rfl rfl rfl rfl ?_|(apply py3;exact rfl;exact rfl;(first|exact pu1|exact puC|exact a_sub rfl rfl (by omega) (by omega)|exact puI);exact rfl;exact rfl)|((first|refine o_gs rfl rfl (fun hc => ?_) (fun hc => ?_)|refine g_cond rfl (fun hc => ?_) (fun hc => ?_)) <;> (try simp only [dcB] at hc) <;> (try first|contradiction|(exfalso;omega)))
    · refine q_again (n - 1) [0] (by exact stk) ?_ ?_
      · refine ⟨by omega,by omega,?_⟩
        rw [← h2,show n.toNat = (n - 1).toNat + 1 by omega]
        exact (trimR_take _ _ (by omega) hc).symm
      · omega
    · repeat refine cr ?_
      refine ends_id ?_
      refine endK [?_] (h2 := ?_) (h3 := ?_) (nd := ?_)
      rotate_left 1
      all_goals (repeat' first|exact ce0|refine ce ?_|refine ce2 ?_ ?_|(refine Or.inr (bx_eq rfl rfl ?_);(try dsimp only [C.ren,C.ren.all]);(try exact rfl))|exact SVLe.refl|refine ceb ?_)
      all_goals first | exact (show nodupB _ = true from rfl) | exact Or.inr rfl | ((rw [← h2,show n.toNat = (n - 1).toNat + 1 by omega]; exact (trimR_stop _ _ (by omega) hc).symm))
    · repeat refine cr ?_
      refine ends_id ?_
      refine endK [?_] (h2 := ?_) (h3 := ?_) (nd := ?_)
      rotate_left 1
      all_goals (repeat' first|exact ce0|refine ce ?_|refine ce2 ?_ ?_|(refine Or.inr (bx_eq rfl rfl ?_);(try dsimp only [C.ren,C.ren.all]);(try exact rfl))|exact SVLe.refl|refine ceb ?_)
      all_goals first | exact (show nodupB _ = true from rfl) | exact Or.inr rfl | ((rw [← h2,show n.toNat = 0 by omega,List.take_zero,trimR_nil]))
theorem l05Push_ok (x : Int) (xs : List Int) (hx : (xs.length : Int) ≤ 16777210) : Does Tryz.prog 228 [.one (int x),.one (shI xs)] [] (.one (.gv 0)) [.row 1 (rows eI (trimR (x :: xs)))] := by
  refine does_of (k := 0) Tryz.func228 rfl Tryz.ntmps228 rfl rfl fun w F0 S0 ρ0 => ?_
  dsimp only [argT,argH]
  repeat' first|(apply n3;exact a_nilO eI rfl;exact rfl)|(apply n3;(exact a_litE eI [_] rfl rfl rfl rfl rfl rfl rfl rfl);exact rfl;refine dA ?_)|(apply p3;exact pu1;exact rfl)|refine cd ?_|(apply s3;exact a_appE (fP rfl) rfl rfl rfl rfl nowR (by (simp;omega)) (by decide) (by decide) (by exact rfl);exact rfl;exact rfl)|(apply c4 1;exact callK1 (θ := []) (hD := (l05Trim_ok _ preB1));exact rfl;exact rfl;exact rfl;refine dM ?_)
  repeat refine cr ?_
  refine ends_id ?_
  refine endK [?_] (h2 := ?_) (h3 := ?_) (nd := ?_)
  rotate_left 1
  all_goals (repeat' first|exact ce0|refine ce ?_|refine ce2 ?_ ?_|(refine Or.inr (bx_eq rfl rfl ?_);(try dsimp only [C.ren,C.ren.all]);(try exact rfl))|exact SVLe.refl|refine ceb ?_)
  all_goals first | exact (show nodupB _ = true from rfl) | exact Or.inr rfl | (rfl)
theorem l05At_ok (m : Mach) (c : Conf) (hc : (c.ri.length : Int) ≤ 16777216) (h1 : -9223372036854775808 ≤ c.st * m.sy) (h2 : c.st * m.sy < 9223372036854775808) (h3 : -9223372036854775808 ≤ c.st * m.sy + c.ri.headD 0) (h4 : c.st * m.sy + c.ri.headD 0 < 9223372036854775808) : Does Tryz.prog 103 [.one (.d (.bx false [.sc (.int .i64 m.sy),.sc (.int .i64 m.st),.sl false 3 (rows eR m.ru)])),.one (.d (.bx false [.sc (.int .i64 c.st),.sl false 1 (rows eI c.le),.sl false 1 (rows eI c.ri)]))] [] (.one (int (c.st * m.sy + c.ri.headD 0))) [] := by
  refine does_of (k := 0) Tryz.func103 rfl Tryz.ntmps103 rfl rfl fun w F0 S0 ρ0 => ?_
  dsimp only [argT,argH]
  repeat' first|(apply p3;exact a_pure (sv := .one _) rfl;exact rfl)|refine cd ?_|(apply g_drN (id := 1) okM [[],[0],[0,1],[0,1,2],[],[4],[4,5],[4,5,6],[0,1,2,3,4,5,6,7],[],[9],[0,1,2,3,4,5,6,7,8,9,10],[0,1,2,3,4,5,6,7,8,9,10,11]] [([],[]),([],[]),([],[]),([],[]),([],[]),([],[]),([],[]),([],[]),([],[]),([],[]),([],[]),([],[]),([],[])] 0;(focus (refine dp 0 0 [9,10,11,12,14,15] [] pu1 ?_;refine dp 1 1 [9,10,11,12,14,15] [] (a_pure (sv := .one _) rfl) ?_;refine dp 2 3 [9,10,11,12,14,15] [] (a_pure (sv := .one _) rfl) ?_;refine dp 3 7 [9,10,11,12,14,15] [] puL ?_;refine dp 4 0 [5,6,7,8,14,15] [] pu1 ?_;refine dp 5 1 [5,6,7,8,14,15] [] (a_pure (sv := .one _) rfl) ?_;refine dp 6 3 [5,6,7,8,14,15] [] (a_pure (sv := .one _) rfl) ?_;refine dp 7 7 [5,6,7,8,14,15] [] puL ?_;refine dp 8 255 [14,15] [] (by exact a_mul rfl rfl (by first|omega|assumption) (by first|omega|assumption)) ?_;refine dp 9 0 [5,6,7,8,9,10,11,12,13] [] pu1 ?_;refine dp 10 1 [5,6,7,8,9,10,11,12,13] [] (callD1 (n := _) 0 (θ := []) (hD := (l05Head_ok _ preB1))) ?_;refine dp 11 2047 [] [] (a_add rfl rfl (by omega) (by omega)) ?_;refine dp 12 4095 [] [] pu1 ?_;(refine d_nil ?_;refine dN ?_)));any_goals kernel_rfl)
  repeat refine cr ?_
  refine ends_id ?_
  refine endK [] (h2 := ?_) (h3 := ?_) (nd := ?_)
  all_goals (repeat' first|exact ce0|refine ce ?_|refine ce2 ?_ ?_|exact SVLe.refl|refine ceb ?_)
  all_goals first | exact (show nodupB _ = true from rfl) | exact Or.inr rfl | (rfl)
@[irreducible] def okRule (sy st : Int) (r : Rule') : Bool := decide (r = ⟨0,0,-1⟩ ∨ (0 ≤ r.w ∧ r.w ≤ sy - 1) ∧ (r.m = 1 ∨ r.m = -1) ∧ 0 ≤ r.n ∧ r.n ≤ st - 1)
@[irreducible] def stepS (r : Rule') (c : Conf) : Conf := if 0 < r.m then ⟨r.n,trimR (r.w :: c.le),c.ri.tail⟩ else ⟨r.n,c.le.tail,trimR (c.le.headD 0 :: trimR (r.w :: c.ri.tail))⟩
@[irreducible] def roomS (c : Conf) : Bool := decide (c.le.length ≤ 200 ∧ c.ri.length ≤ 200)
theorem l05Step_ok (m : Mach) (c : Conf) (r : Rule') (hc : (c.ri.length : Int) ≤ 200) (hd : (c.le.length : Int) ≤ 200) (h1 : 0 ≤ c.st * m.sy) (h2 : c.st * m.sy < 9223372036854775) (h3 : 0 ≤ c.ri.headD 0) (h4 : c.ri.headD 0 < 9223372036854775) (h5 : c.st * m.sy + c.ri.headD 0 < m.ru.length) (h6 : m.ru[(c.st * m.sy + c.ri.headD 0).toNat]? = some r) : Does Tryz.prog 167 [.one (.d (.bx false [.sc (.int .i64 m.sy),.sc (.int .i64 m.st),.sl false 3 (rows eR m.ru)])),.one (.d (.bx false [.sc (.int .i64 c.st),.sl false 1 (rows eI c.le),.sl false 1 (rows eI c.ri)]))] [] (.tup [(true,[int (stepS r c).st,.gv 0,.gv 1]),(false,[boo (roomS (stepS r c))])]) [.row 1 (rows eI (stepS r c).le),.row 1 (rows eI (stepS r c).ri)] := by
  have h6' := (List.getElem?_eq_some_iff.1 h6).2
  refine does_of (k := 0) Tryz.func167 rfl Tryz.ntmps167 rfl rfl fun w F0 S0 ρ0 => ?_
  dsimp only [argT,argH]
  repeat' first|(apply n3;exact a_new (gb := .bx _) rfl;exact rfl;refine dA ?_)|(apply p3;(first|exact pu1|exact puC|exact puN|exact puI);exact rfl)|refine cd ?_|(apply w3;(exact a_st_bx rfl rfl rfl rfl (fN rfl rfl) (Nat.le_of_ble_eq_true rfl) rfl);exact rfl;refine dS ?_)|(apply c4 1;exact callK1 (θ := []) (hD := (l05Rest_ok _ preB1));exact rfl;exact rfl;exact rfl;refine dM ?_)|(apply c4 1;exact callK1 (θ := []) (hD := (l05Push_ok _ _ preB1));exact rfl;exact rfl;exact rfl;refine dM ?_)|(apply g_drN (id := 1) okM [[],[0],[0,1],[0,1,2],[],[],[4,5],[0,1,2,3,4,5,6],[0,1,2,3,4,5,6,7],[],[0,1,2,3,4,5,6,7,8,9]] [([],[]),([],[]),([],[]),([],[]),([],[]),([],[]),([],[]),([],[]),([],[]),([0],[]),([],[1])] 1;(focus (refine dp 0 0 [14,15,16,6] [(true,0)] pu1 ?_;refine dp 1 1 [14,15,16,6] [(true,0)] (a_pure (sv := .one _) rfl) ?_;refine dp 2 3 [14,15,16,6] [(true,0)] (a_pure (sv := .one _) rfl) ?_;refine dp 3 7 [14,15,16,6] [(true,0)] puL ?_;refine dp 4 0 [10,11,12,13,15,6] [(true,0)] pu1 ?_;refine dp 5 0 [10,11,12,13,14,6] [(true,0)] pu1 ?_;refine dp 6 3 [10,11,12,13,6] [(true,0)] (callD1 (n := _) 0 (θ := []) (hD := (l05At_ok _ _ preB1 preB1 preB1 preB1 preB1))) ?_;refine dp 7 127 [6] [(true,0)] puI ?_;refine dp 8 255 [6] [(true,0)] puL ?_;refine duE 9 0 [10,11,12,13,14,15,16,17,18] [] (atN 0 (fun _ => a_new (gb := .bx _) rfl)) (by exact rfl) (by exact rfl) ?_;refine duE 10 1023 [] [] (by exact a_st_bx rfl rfl rfl rfl (fN rfl rfl) (Nat.le_of_ble_eq_true rfl) rfl) (by exact rfl) (by exact rfl) ?_;(refine d_nil ?_;refine dN ?_)));any_goals kernel_rfl)|(apply g_drN (id := 5) okM [[],[0],[],[2],[2,3],[2,3,4],[0,1,2,3,4,5],[0,1,2,3,4,5,6],[0,1,2,3,4,5,6,7]] [([],[]),([],[]),([],[]),([],[]),([],[]),([],[]),([0],[]),([],[]),([],[2])] 1;(focus (refine dp 0 0 [32,33,34,35] [] (a_pure (sv := .one _) rfl) ?_;refine dp 1 1 [32,33,34,35] [] puL ?_;refine dp 2 0 [30,31] [] pu1 ?_;refine dp 3 1 [30,31] [] (a_pure (sv := .one _) rfl) ?_;refine dp 4 3 [30,31] [] (a_pure (sv := .one _) rfl) ?_;refine dp 5 7 [30,31] [] puL ?_;refine duN 6 63 [] [] (callD1 (n := _) 0 (θ := []) (hD := (l05Push_ok _ _ preB1))) (by exact rfl) (by exact rfl) ?_;refine dp 7 127 [] [] (a_pure (sv := .one _) rfl) ?_;refine duE 8 255 [] [] (by exact a_st_bx rfl rfl rfl rfl (fN rfl rfl) (Nat.le_of_ble_eq_true rfl) rfl) (by exact rfl) (by exact rfl) ?_;(refine d_nil ?_;refine dN ?_)));any_goals kernel_rfl)|(apply g_drN (id := 12) okM [[],[],[1],[1,2],[1,2,3],[1,2,3,4],[1,2,3,4,5],[1,2,3,4,5,6],[1,2,3,4,5,6,7],[1,2,3,4,5,6,7,8],[1,2,3,4,5,6,7,8,9],[0,1,2,3,4,5],[0,1,2,3,4,5,6,7,8,9,10,11]] [([],[]),([],[]),([],[]),([],[]),([],[]),([],[]),([],[]),([],[]),([],[]),([],[]),([],[]),([],[0]),([],[])] 0;(focus (all_goals refine dp 0 0 [66,67,68,69,70,71,72,73,74,75] [] puL ?_;all_goals refine dp 1 0 [65] [] (a_pure (sv := .one _) rfl) ?_;all_goals refine dp 2 1 [65] [] puL ?_;all_goals refine dp 3 3 [65] [] (by exact puN) ?_;all_goals refine dp 4 7 [65] [] puC ?_;all_goals (refine db 5 15 [65] [] pu1 ?_ ?_ <;> (intro hc;first|cases hc|(try simp only [dcB] at hc);first|contradiction|(exfalso;omega)|skip));all_goals (first|refine dn 6 31 [65] [(false,0)] ?_|refine dpy 6 31 [65] [(false,0)] (a_pure (sv := .one _) rfl) ?_);all_goals (first|refine dn 7 63 [65] [(false,0)] ?_|refine dpy 7 63 [65] [(false,0)] puL ?_);all_goals (first|refine dn 8 127 [65] [(false,0)] ?_|refine dpy 8 127 [65] [(false,0)] (by first|exact puN|exact a_pure (sv := .one _) rfl|exact a_len_str rfl (fT rfl)) ?_);all_goals (first|refine dn 9 255 [65] [(false,0)] ?_|refine dpy 9 255 [65] [(false,0)] puC ?_);all_goals refine dp 10 511 [65] [(false,0)] (a_pure (sv := .one _) rfl) ?_;all_goals refine duE 11 2016 [71,72,73,74,75] [] (by exact a_st_bx rfl rfl rfl rfl (fN rfl rfl) (Nat.le_of_ble_eq_true rfl) rfl) (by exact rfl) (by exact rfl) ?_;all_goals refine dp 12 4095 [] [] pu1 ?_;all_goals (refine d_nil ?_;refine dN ?_)));any_goals kernel_rfl)|((refine g_cond rfl (fun hc => ?_) (fun hc => ?_)) <;> (try simp only [dcB] at hc) <;> (try first|contradiction|(exfalso;omega)))
  all_goals (simp only [h6',get0_headD] at *)
  all_goals
    repeat refine cr ?_
    refine ends_id ?_
    refine endK [?_,?_] (h2 := ?_) (h3 := ?_) (nd := ?_)
    rotate_left 2
    all_goals (repeat' first|exact ce0|refine ce ?_|refine ce2 ?_ ?_|(refine Or.inr (bx_eq rfl rfl ?_);(try dsimp only [C.ren,C.ren.all]);(try exact rfl))|exact SVLe.refl|refine ceb ?_)
    all_goals first | exact (show nodupB _ = true from rfl) | exact Or.inr rfl | (((try simp only [roomS]); (try rw [decide_eq_decide]); simp only [stepS]; split <;> first | (exfalso; omega) | rfl | omega | (cases hle : c.le <;> simp_all; done) | (cases hle : c.le <;> simp_all <;> omega)))
end Go.Proofs.YtighjcjmacajoaaGreatDoor
end
section
set_option linter.unusedVariables false
set_option linter.unusedSimpArgs false
set_option maxRecDepth 100000
set_option maxHeartbeats 4000000
namespace Go.Proofs.YtighjcjmacajoaaGreatDoor
open Go Foot
abbrev maB (m : Mach) : C := .d (.bx false [.sc (.int .i64 m.sy),.sc (.int .i64 m.st),.sl false 3 (rows eR m.ru)])
abbrev coB (c : Conf) : C := .d (.bx false [.sc (.int .i64 c.st),.sl false 1 (rows eI c.le),.sl false 1 (rows eI c.ri)])
@[irreducible] def vMach (m : Mach) : Bool := decide ((2 ≤ m.sy ∧ m.sy ≤ 6) ∧ (1 ≤ m.st ∧ m.st ≤ 1000) ∧ (m.ru.length : Int) = m.sy * m.st) && m.ru.all (okRule m.sy m.st)
theorem vMach_bd {m : Mach} (h : vMach m = true) : (2 ≤ m.sy ∧ m.sy ≤ 6) ∧ (1 ≤ m.st ∧ m.st ≤ 1000) ∧ (m.ru.length : Int) = m.sy * m.st := by
  unfold vMach at h
  simp only [Bool.and_eq_true,decide_eq_true_eq] at h
  exact h.1
@[irreducible] def vSide (sy : Int) (l : List Int) : Bool := l.all (fun x => decide (0 ≤ x ∧ x ≤ sy - 1)) && decide ((l.length : Int) ≤ 200 ∧ l.getLastD 1 ≠ 0)
@[irreducible] def vConf (m : Mach) (c : Conf) : Bool := decide (0 ≤ c.st ∧ c.st ≤ m.st - 1) && vSide m.sy c.le && vSide m.sy c.ri
end Go.Proofs.YtighjcjmacajoaaGreatDoor
end
section
set_option linter.unusedVariables false
set_option linter.unusedSimpArgs false
set_option maxRecDepth 100000
set_option maxHeartbeats 4000000
namespace Go.Proofs.YtighjcjmacajoaaGreatDoor
open Go Foot
theorem preB3 {p : Prop} (h : p := by first | with_reducible assumption | omega | (simp only [List.length_append,List.length_cons,List.length_nil,List.length_set,List.length_replicate,List.length_take,List.length_drop,List.length_tail,List.length_dropLast,List.length_reverse] at *; omega) | exact mem_len (by assumption) (by omega) | (with_reducible refine Int.le_trans (Int.ofNat_le.2 (trimR_len _)) ?_; simp only [List.length_cons,List.length_tail]; omega) | (have := vMach_bd (by assumption); omega) | trivial) : p := h
theorem sizeR_ok (xs : List Rule') (hx : (xs.length : Int) ≤ 16777216) : Does Tryz.prog 107 [.one (shR xs)] [] (.one (int xs.length)) [] := by
  refine does_of (k := 0) Tryz.func107 rfl Tryz.ntmps107 rfl rfl fun w F0 S0 ρ0 => ?_
  dsimp only [argT,argH]
  repeat' first|(apply p3;(first|exact pu1|exact puN);exact rfl)|refine cd ?_
  repeat refine cr ?_
  refine ends_id ?_
  refine endK [] (h2 := ?_) (h3 := ?_) (nd := ?_)
  all_goals (repeat' first|exact ce0|refine ce ?_|refine ce2 ?_ ?_|exact SVLe.refl|refine ceb ?_)
  all_goals first | exact (show nodupB _ = true from rfl) | exact Or.inr rfl | (rfl)
theorem noRule_ok : Does Tryz.prog 115 [] [] (.agg [int 0,int 0,int (-1)]) [] := by
  refine does_of (k := 0) Tryz.func115 rfl Tryz.ntmps115 rfl rfl fun w F0 S0 ρ0 => ?_
  dsimp only [argT,argH]
  repeat' first|(apply n3;exact a_new (gb := .bx _) rfl;exact rfl;refine dA ?_)|(apply p3;exact a_pure (sv := .agg _) rfl;exact rfl)|refine cd ?_|(apply w3;(exact a_st_bx rfl rfl rfl rfl (fN rfl rfl) (Nat.le_of_ble_eq_true rfl) rfl);exact rfl;refine dS ?_)
  repeat refine cr ?_
  refine ends_id ?_
  refine endK [] (h2 := ?_) (h3 := ?_) (nd := ?_)
  all_goals (repeat' first|exact ce0|refine ce ?_|refine ce2 ?_ ?_|exact SVLe.refl|refine ceb ?_)
  all_goals first | exact (show nodupB _ = true from rfl) | exact Or.inr rfl | (rfl)
theorem isRule_ok (r : Rule') : Does Tryz.prog 171 [.agg (ruC r)] [] (.one (boo (!decide (r = ⟨0,0,-1⟩)))) [] := by
  refine does_of (k := 0) Tryz.func171 rfl Tryz.ntmps171 rfl rfl fun w F0 S0 ρ0 => ?_
  dsimp only [argT,argH]
  repeat' first|(apply n3;exact a_new (gb := .bx _) rfl;exact rfl;refine dA ?_)|(apply p3;exact a_pure (sv := .one _) rfl;exact rfl)|refine cd ?_|(apply g_drN (id := 1) okM [[],[],[0,1],[0,1,2]] [([],[]),([],[]),([],[]),([],[])] 0;(focus (refine dp 0 0 [4] [] puL ?_;refine dp 1 0 [3] [] (callD1 (n := _) 0 (θ := []) (hD := noRule_ok)) ?_;refine dp 2 3 [] [] (by exact a_neRule (s := ⟨_,_,_⟩) rfl rfl) ?_;refine dp 3 7 [] [] pu1 ?_;(refine d_nil ?_;refine dN ?_)));any_goals kernel_rfl)
  repeat refine cr ?_
  refine ends_id ?_
  refine endK [] (h2 := ?_) (h3 := ?_) (nd := ?_)
  all_goals (repeat' first|exact ce0|refine ce ?_|refine ce2 ?_ ?_|exact SVLe.refl|refine ceb ?_)
  all_goals first | exact (show nodupB _ = true from rfl) | exact Or.inr rfl | (rfl)
theorem validRule_ok (m : Mach) (r : Rule') (h1 : -1000 ≤ m.sy) (h2 : m.sy ≤ 1000) (h3 : -1000 ≤ m.st) (h4 : m.st ≤ 1000) : Does Tryz.prog 110 [.agg (maC m),.agg (ruC r)] [] (.one (boo (okRule m.sy m.st r))) [] := by
  refine does_of (k := 0) Tryz.func110 rfl Tryz.ntmps110 rfl rfl fun w F0 S0 ρ0 => ?_
  dsimp only [argT,argH]
  repeat' first|(apply n3;exact a_new (gb := .bx _) rfl;exact rfl;refine dA ?_)|(apply p3;(first|exact pu1|exact a_sub rfl rfl (by omega) (by omega));exact rfl)|refine cd ?_|(apply c4 0;exact callK1 (θ := []) (hD := (isRule_ok _));exact rfl;exact rfl;exact rfl;refine dM ?_)|(apply c4 0;exact callK1 (θ := []) (hD := (within_ok _ _ _));exact rfl;exact rfl;exact rfl;refine dM ?_)|refine o_no rfl rfl rfl rfl ?_|(apply py3;exact rfl;exact rfl;(first|exact pu1|exact a_sub rfl rfl (by omega) (by omega)|exact puC);exact rfl;exact rfl)|(apply cy4 0;exact rfl;exact rfl;exact callK1 (θ := []) (hD := (within_ok _ _ _));exact rfl;exact rfl;exact rfl;exact rfl;refine dM ?_)|((first|refine o_gs rfl rfl (fun hc => ?_) (fun hc => ?_)|refine g_cond rfl (fun hc => ?_) (fun hc => ?_)) <;> (try simp only [dcB] at hc) <;> (try first|contradiction|(exfalso;omega)))
  all_goals
    repeat refine cr ?_
    refine ends_id ?_
    refine endK [] (h2 := ?_) (h3 := ?_) (nd := ?_)
    all_goals (repeat' first|exact ce0|refine ce ?_|refine ce2 ?_ ?_|exact SVLe.refl|refine ceb ?_)
    all_goals first | exact (show nodupB _ = true from rfl) | exact Or.inr rfl | ((unfold okRule; first | (simp [*]; done) | (rw [decide_eq_false] <;> first | rfl | omega | (simp; done)) | (rw [decide_eq_true] <;> first | rfl | omega | (simp [*]; done)) | (simp_all; done) | (simp_all; omega)))
theorem validM1_ok (m : Mach) (r : Rule') (h1 : -1000 ≤ m.sy) (h2 : m.sy ≤ 1000) (h3 : -1000 ≤ m.st) (h4 : m.st ≤ 1000) : Does Tryz.prog 109 [.agg (ruC r),.one (maB m)] [] (.one (boo (!okRule m.sy m.st r))) [] := by
  refine does_of (k := 0) Tryz.func109 rfl Tryz.ntmps109 rfl rfl fun w F0 S0 ρ0 => ?_
  dsimp only [argT,argH]
  repeat' first|(apply n3;exact a_new (gb := .bx _) rfl;exact rfl;refine dA ?_)|(apply p3;(exact pu1);exact rfl)|refine cd ?_|(apply c4 0;exact callK1 (θ := []) (hD := (validRule_ok _ _ preB3 preB3 preB3 preB3));exact rfl;exact rfl;exact rfl;refine dM ?_)
  repeat refine cr ?_
  refine ends_id ?_
  refine endK [] (h2 := ?_) (h3 := ?_) (nd := ?_)
  all_goals (repeat' first|exact ce0|refine ce ?_|refine ce2 ?_ ?_|exact SVLe.refl|refine ceb ?_)
  all_goals first | exact (show nodupB _ = true from rfl) | exact Or.inr rfl | (rfl)
theorem idxR_ok (xs : List Rule') (k : Nat) (d : D) (p : Rule' → Bool) (hx : (xs.length : Int) ≤ 16777216) (hE : entB Tryz.prog k = true) (hp : ∀ r,Does Tryz.prog k [.agg (ruC r),.one (.d d)] [] (.one (boo (p r))) []) : Does Tryz.prog 170 [.one (shR xs),.one (.d (.fn (.func k) [d]))] [] (.one (int (idxF p xs))) [] := by
  refine does_of (k := 0) Tryz.func170 rfl Tryz.ntmps170 rfl rfl fun w F0 S0 ρ0 => ?_
  dsimp only [argT,argH]
  repeat' first|(apply p3;(first|exact pu1|exact puN);exact rfl)|refine cd ?_
  refine g_loop_id ?_
  refine loopK [0,1,4,7] [] (fun i : Int => 0 ≤ i ∧ i ≤ xs.length ∧ (xs.take i.toNat).all (fun x => !p x) = true) (fun i => [(8,.one (int i))]) (fun _ => []) (fun i => (xs.length - i).toNat) (0 : Int) [] (hI := ?_) (hr := ?_)
  · exact ⟨by omega,by omega,rfl⟩
  · rintro i ⟨h0,h1,h2⟩
    dsimp only [List.cons_append,List.nil_append] at *
    skip
    repeat' first|(apply p3;(first|exact pu1|exact puC|exact a_add rfl rfl (by omega) (by omega)|exact puI);exact rfl)|refine cd ?_|(apply c4 0;exact callK0 (θ := []) (hE := hE) (hD := (hp _));exact rfl;exact rfl;exact rfl;refine dM ?_)|((refine g_cond rfl (fun hc => ?_) (fun hc => ?_)) <;> (try simp only [dcB] at hc) <;> (try first|contradiction|(exfalso;omega)))
    · repeat refine cr ?_
      refine ends_id ?_
      refine endK [] (h2 := ?_) (h3 := ?_) (nd := ?_)
      all_goals (repeat' first|exact ce0|refine ce ?_|refine ce2 ?_ ?_|exact SVLe.refl|refine ceb ?_)
      all_goals first | exact (show nodupB _ = true from rfl) | exact Or.inr rfl | (exact (idxF_stop p xs i h0 (by omega) h2 hc).symm)
    · refine q_again (i + 1) [] (by exact stk) ?_ ?_
      · exact ⟨by omega,by omega,all_snocI _ _ _ h0 (by omega) h2 (by simp [hc])⟩
      · omega
    · repeat refine cr ?_
      refine ends_id ?_
      refine endK [] (h2 := ?_) (h3 := ?_) (nd := ?_)
      all_goals (repeat' first|exact ce0|refine ce ?_|refine ce2 ?_ ?_|exact SVLe.refl|refine ceb ?_)
      all_goals first | exact (show nodupB _ = true from rfl) | exact Or.inr rfl | ((rw [List.take_of_length_le (by omega)] at h2; exact (idxF_none p xs h2).symm))
theorem hasR_ok (xs : List Rule') (k : Nat) (d : D) (p : Rule' → Bool) (hx : (xs.length : Int) ≤ 16777216) (hE : entB Tryz.prog k = true) (hp : ∀ r,Does Tryz.prog k [.agg (ruC r),.one (.d d)] [] (.one (boo (p r))) []) : Does Tryz.prog 108 [.one (shR xs),.one (.d (.fn (.func k) [d]))] [] (.one (boo (xs.any p))) [] := by
  refine does_of (k := 0) Tryz.func108 rfl Tryz.ntmps108 rfl rfl fun w F0 S0 ρ0 => ?_
  dsimp only [argT,argH]
  repeat' first|(apply p3;(first|exact pu1|exact puC);exact rfl)|refine cd ?_|(apply c4 0;exact callK1 (θ := []) (hD := (idxR_ok _ _ _ _ preB3 preB3 preB3));exact rfl;exact rfl;exact rfl;refine dM ?_)
  repeat refine cr ?_
  refine ends_id ?_
  refine endK [] (h2 := ?_) (h3 := ?_) (nd := ?_)
  all_goals (repeat' first|exact ce0|refine ce ?_|refine ce2 ?_ ?_|exact SVLe.refl|refine ceb ?_)
  all_goals first | exact (show nodupB _ = true from rfl) | exact Or.inr rfl | (exact idxF_any p xs)
abbrev maD (m : Mach) : D := .bx false [.sc (.int .i64 m.sy),.sc (.int .i64 m.st),.sl false 3 (rows eR m.ru)]
theorem hasM_ok (m : Mach) (xs : List Rule') (hx : (xs.length : Int) ≤ 16777216) (h1 : -1000 ≤ m.sy) (h2 : m.sy ≤ 1000) (h3 : -1000 ≤ m.st) (h4 : m.st ≤ 1000) : Does Tryz.prog 108 [.one (shR xs),.one (.d (.fn (.func 109) [maD m]))] [] (.one (boo (xs.any fun r => !okRule m.sy m.st r))) [] := hasR_ok xs _ (maD m) _ hx (fQ rfl) fun r => validM1_ok m r h1 h2 h3 h4
theorem ValidMachine_ok (m : Mach) (hm : (m.ru.length : Int) ≤ 16777216) : Does Tryz.prog 47 [.agg (maC m)] [] (.one (boo (vMach m))) [] := by
  refine does_of (k := 0) Tryz.func47 rfl Tryz.ntmps47 rfl rfl fun w F0 S0 ρ0 => ?_
  dsimp only [argT,argH]
  repeat' first|(apply n3;exact a_new (gb := .bx _) rfl;exact rfl;refine dA ?_)|(apply p3;(exact pu1);exact rfl)|refine cd ?_|(apply c4 0;exact callK1 (θ := []) (hD := (hasM_ok _ _ preB3 preB3 preB3 preB3 preB3));exact rfl;exact rfl;exact rfl;refine dM ?_)|(apply g_drN (id := 1) okM [[],[0],[0,1],[0,1,2],[0,1,2,3],[0,1,2,3,4],[0,1,2,3,4,5],[0,1,2,3,4,5,6],[0,1,2,3,4,5,6,7],[0,1,2,3,4,5,6,7,8],[0,1,2,3,4,5,6,7,8,9],[0,1,2,3,4,5,6,7,8,9,10],[0,1,2,3,4,5,6,7,8,9,10,11],[0,1,2,3,4,5,6,7,8,9,10,11,12],[0,1,2,3,4,5,6,7,8,9,10],[0,1,2,3,4,5,6,7,8,9,10,14],[0,1,2,3,4,5,6,7,8,9,10],[0,1,2,3,4,5,6,7,8,9,10,16],[0,1,2,3,4,5,6,7,8,9,10,14,15,16,17],[0,1,2,3,4,5,6,7,8,9,10,11,12,13,14,15,16,17,18],[0,1,2,3,4,5,6,7,8,9,10,11,12,13,14,15,16,17,18,19]] [([],[]),([],[]),([],[]),([],[]),([],[]),([],[]),([],[]),([],[]),([],[]),([],[]),([],[]),([],[]),([],[]),([],[]),([],[]),([],[]),([],[]),([],[]),([],[]),([],[]),([],[])] 0;(focus (all_goals refine dp 0 0 [] [] (a_pure (sv := .one _) rfl) ?_;all_goals refine dp 1 1 [] [] puL ?_;all_goals refine dp 2 3 [] [] (callD1 (n := _) 0 (θ := []) (hD := (within_ok _ _ _))) ?_;all_goals refine dp 3 7 [] [] (a_pure (sv := .one _) rfl) ?_;all_goals (refine db 4 15 [] [] pu1 ?_ ?_ <;> (intro hc;first|cases hc|(try simp only [dcB] at hc);first|contradiction|(exfalso;omega)|skip));all_goals (first|refine dn 5 31 [] [] ?_|refine dpy 5 31 [] [] (a_pure (sv := .one _) rfl) ?_);all_goals (first|refine dn 6 63 [] [] ?_|refine dpy 6 63 [] [] puL ?_);all_goals (first|refine dn 7 127 [] [] ?_|refine dpy 7 127 [] [] (callD1 (n := _) 0 (θ := []) (hD := (within_ok _ _ _))) ?_);all_goals (first|refine dn 8 255 [] [] ?_|refine dpy 8 255 [] [] (a_pure (sv := .one _) rfl) ?_);all_goals refine dp 9 511 [] [] (a_pure (sv := .one _) rfl) ?_;all_goals (refine db 10 1023 [] [] pu1 ?_ ?_ <;> (intro hc;first|cases hc|(try simp only [dcB] at hc);first|contradiction|(exfalso;omega)|skip));all_goals (first|refine dn 11 2047 [17,18,19,20,21] [] ?_|refine dpy 11 2047 [17,18,19,20,21] [] (a_pure (sv := .one _) rfl) ?_);all_goals (first|refine dn 12 4095 [17,18,19,20,21] [] ?_|refine dpy 12 4095 [17,18,19,20,21] [] puL ?_);all_goals (first|refine dn 13 8191 [17,18,19,20,21] [] ?_|refine dpy 13 8191 [17,18,19,20,21] [] (callD1 (n := _) 0 (θ := []) (hD := (sizeR_ok _ preB3))) ?_);all_goals (first|refine dn 14 16376 [14,15,16,19,20] [] ?_|refine dpy 14 16376 [14,15,16,19,20] [] (a_pure (sv := .one _) rfl) ?_);all_goals (first|refine dn 15 32753 [14,15,16,19,20] [] ?_|refine dpy 15 32753 [14,15,16,19,20] [] puL ?_);all_goals (first|refine dn 16 65504 [14,15,16,17,18] [] ?_|refine dpy 16 65504 [14,15,16,17,18] [] (a_pure (sv := .one _) rfl) ?_);all_goals (first|refine dn 17 131009 [14,15,16,17,18] [] ?_|refine dpy 17 131009 [14,15,16,17,18] [] puL ?_);all_goals (first|refine dn 18 262031 [14,15,16] [] ?_|refine dpy 18 262031 [14,15,16] [] (by first|exact a_mulB rfl rfl (by omega) (by omega) (by omega) (by omega)|exact a_mul rfl rfl (by first|omega|assumption) (by first|omega|assumption)) ?_);all_goals (first|refine dn 19 524287 [] [] ?_|refine dpy 19 524287 [] [] (by first|exact a_ne rfl rfl|exact a_neS rfl rfl rfl) ?_);all_goals refine dp 20 1048575 [] [] (a_pure (sv := .one _) rfl) ?_;all_goals (refine d_nil ?_;refine dN ?_)));any_goals kernel_rfl)|((refine g_cond rfl (fun hc => ?_) (fun hc => ?_)) <;> (try simp only [dcB] at hc) <;> (try first|contradiction|(exfalso;omega)))
  · repeat refine cr ?_
    refine ends_id ?_
    refine endK [] (h2 := ?_) (h3 := ?_) (nd := ?_)
    all_goals (repeat' first|exact ce0|refine ce ?_|refine ce2 ?_ ?_|exact SVLe.refl|refine ceb ?_)
    all_goals first | exact (show nodupB _ = true from rfl) | exact Or.inr rfl | ((unfold vMach; first | (simp [*]; done) | (rw [decide_eq_false] <;> first | rfl | omega | (simp; done)) | (rw [decide_eq_true] <;> first | rfl | omega | (simp [*]; done)) | (simp_all; done) | (simp_all; omega)))
  · repeat refine cr ?_
    refine ends_id ?_
    refine endK [] (h2 := ?_) (h3 := ?_) (nd := ?_)
    all_goals (repeat' first|exact ce0|refine ce ?_|refine ce2 ?_ ?_|exact SVLe.refl|refine ceb ?_)
    all_goals first | exact (show nodupB _ = true from rfl) | exact Or.inr rfl | ((unfold vMach; first | (simp [*]; done) | (rw [decide_eq_false] <;> first | rfl | omega | (simp; done)) | (rw [decide_eq_true] <;> first | rfl | omega | (simp [*]; done)) | (simp_all; done) | (simp_all; omega)))
  · repeat refine cr ?_
    refine ends_id ?_
    refine endK [] (h2 := ?_) (h3 := ?_) (nd := ?_)
    all_goals (repeat' first|exact ce0|refine ce ?_|refine ce2 ?_ ?_|exact SVLe.refl|refine ceb ?_)
    all_goals first | exact (show nodupB _ = true from rfl) | exact Or.inr rfl | ((rw [Int.mul_comm] at hc; unfold vMach; rw [decide_eq_false] <;> first | rfl | omega))
  · repeat refine cr ?_
    refine ends_id ?_
    refine endK [] (h2 := ?_) (h3 := ?_) (nd := ?_)
    all_goals (repeat' first|exact ce0|refine ce ?_|refine ce2 ?_ ?_|exact SVLe.refl|refine ceb ?_)
    all_goals first | exact (show nodupB _ = true from rfl) | exact Or.inr rfl | ((rw [Int.mul_comm] at hc; rw [not_any_not]; unfold vMach; rw [decide_eq_true] <;> first | rfl | omega))
@[irreducible] def askC (m : Mach) (c : Conf) (b : Int) : Int := if vMach m = true ∧ vConf m c = true then if 1 ≤ b ∧ b ≤ 20000 then 0 else 2 else 1
end Go.Proofs.YtighjcjmacajoaaGreatDoor
end
section
set_option linter.unusedVariables false
set_option linter.unusedSimpArgs false
set_option maxRecDepth 100000
set_option maxHeartbeats 4000000
namespace Go.Proofs.YtighjcjmacajoaaGreatDoor
open Go Foot
abbrev ruBx (m : Mach) (s : Int) (a b : Nat) : GB := .bx [int m.sy,int m.st,shR m.ru,int s,.gv a,.gv b]
theorem preB4 {p : Prop} (h : p := by first | with_reducible assumption | omega | (simp only [List.length_append,List.length_cons,List.length_nil,List.length_set,List.length_replicate,List.length_take,List.length_drop,List.length_tail,List.length_dropLast,List.length_reverse] at *; omega) | exact mem_len (by assumption) (by omega) | (with_reducible refine Int.le_trans (Int.ofNat_le.2 (trimR_len _)) ?_; simp only [List.length_cons,List.length_tail]; omega) | (have := vMach_bd (by assumption); omega) | trivial) : p := h
theorem runnerOf_ok (m : Mach) (c : Conf) (hx : (c.le.length : Int) ≤ 16777216) (hy : (c.ri.length : Int) ≤ 16777216) : Does Tryz.prog 237 [.agg (maC m),.agg (coC c)] [] (.one (.gv 0)) [ruBx m c.st 1 2,roI c.le.reverse,roI c.ri.reverse] := by
  refine does_of (k := 0) Tryz.func237 rfl Tryz.ntmps237 rfl rfl fun w F0 S0 ρ0 => ?_
  dsimp only [argT,argH]
  repeat' first|(apply n3;exact a_new (gb := .bx _) rfl;exact rfl;refine dA ?_)|(apply p3;exact pu1;exact rfl)|refine cd ?_|(apply g_drN (id := 1) okM [[],[],[1],[],[3],[3,4],[],[6],[3,4,5,6,7],[0,1,2,3,4,5,6,7,8],[0,1,2,3,4,5,6,7,8,9],[0,1,2,3,4,5,6,7,8,9,10]] [([],[]),([],[]),([],[]),([],[]),([],[]),([0],[]),([],[]),([],[]),([1],[]),([],[]),([2],[]),([],[])] 3;(focus (refine dp 0 0 [6,7,8,9,10,11,12,13] [(true,0),(true,1)] puL ?_;refine dp 1 0 [5,8,9,10,11,12,13] [(true,0),(true,1)] (a_pure (sv := .one _) rfl) ?_;refine dp 2 1 [5,8,9,10,11,12,13] [(true,0),(true,1)] puL ?_;refine dp 3 0 [5,6,7,11,12] [] (a_pure (sv := .one _) rfl) ?_;refine dp 4 1 [5,6,7,11,12] [] puL ?_;refine duN 5 3 [5,6,7,11,12] [] (callD1 (n := _) 0 (θ := []) (hD := (reversed_ok _ preB4))) (by exact rfl) (by exact rfl) ?_;refine dp 6 0 [5,6,7,8,9,10] [(true,0)] (a_pure (sv := .one _) rfl) ?_;refine dp 7 1 [5,6,7,8,9,10] [(true,0)] puL ?_;refine duN 8 31 [5,6,7] [] (callD1 (n := _) 1 (θ := []) (hD := (reversed_ok _ preB4))) (by exact rfl) (by exact rfl) ?_;refine dp 9 511 [] [] (a_pure (sv := .agg _) rfl) ?_;refine duE 10 1023 [] [] (atN 2 (fun _ => a_new (gb := .bx _) rfl)) (by exact rfl) (by exact rfl) ?_;refine dp 11 2047 [] [] pu1 ?_;(refine d_nil ?_;refine dN ?_)));any_goals kernel_rfl)
  repeat refine cr ?_
  refine ends_id ?_
  refine endK [?_,?_,?_] (h2 := ?_) (h3 := ?_) (nd := ?_)
  rotate_left 3
  all_goals (repeat' first|exact ce0|refine ce ?_|refine ce2 ?_ ?_|(refine Or.inr (bx_eq rfl rfl ?_);(try dsimp only [C.ren,C.ren.all]);(try exact rfl))|exact SVLe.refl|refine ceb ?_)
  all_goals first | exact (show nodupB _ = true from rfl) | exact Or.inr rfl | (rfl)
theorem nearest_ok (l : List Int) (hx : (l.length : Int) ≤ 16777216) : Does Tryz.prog 290 [.one (shI l)] [] (.one (int (l.getLastD 0))) [] := by
  refine does_of (k := 0) Tryz.func290 rfl Tryz.ntmps290 rfl rfl fun w F0 S0 ρ0 => ?_
  dsimp only [argT,argH]
  repeat' first|(apply p3;(first|exact pu1|exact puN|exact puC|exact a_sub rfl rfl (by omega) (by omega)|exact puI);exact rfl)|refine cd ?_|((refine g_cond rfl (fun hc => ?_) (fun hc => ?_)) <;> (try simp only [dcB] at hc) <;> (try first|contradiction|(exfalso;omega)))
  · repeat refine cr ?_
    refine ends_id ?_
    refine endK [] (h2 := ?_) (h3 := ?_) (nd := ?_)
    all_goals (repeat' first|exact ce0|refine ce ?_|refine ce2 ?_ ?_|exact SVLe.refl|refine ceb ?_)
    all_goals first | exact (show nodupB _ = true from rfl) | exact Or.inr rfl | ((have : l = [] := List.eq_nil_of_length_eq_zero (by omega); subst this; rfl))
  · repeat refine cr ?_
    refine ends_id ?_
    refine endK [] (h2 := ?_) (h3 := ?_) (nd := ?_)
    all_goals (repeat' first|exact ce0|refine ce ?_|refine ce2 ?_ ?_|exact SVLe.refl|refine ceb ?_)
    all_goals first | exact (show nodupB _ = true from rfl) | exact Or.inr rfl | (exact (getLastD_at l 0 (by omega)).symm)
theorem pop_ok (l : List Int) (hx : (l.length : Int) ≤ 16777216) : Does Tryz.prog 305 [.one (.gv 0)] [roI l] (.one (.gv 1)) [.dead,roI l.dropLast] := by
  refine does_of (k := 1) Tryz.func305 rfl Tryz.ntmps305 rfl rfl fun w F0 S0 ρ0 => ?_
  dsimp only [argT,argH]
  repeat' first|(apply n3;exact a_nilO eI rfl;exact rfl)|(apply p3;(first|exact pu1|exact puN|exact a_sub rfl rfl (by omega) (by omega)|exact a_max rfl rfl);exact rfl)|refine cd ?_|(apply s3;exact a_slHO rfl rfl rfl (fS rfl) (by omega) (by omega) (by exact rfl) (by decide);exact rfl;exact rfl)
  repeat refine cr ?_
  refine ends_id ?_
  refine endK [?_] (h2 := ?_) (h3 := ?_) (nd := ?_)
  rotate_left 1
  all_goals (repeat' first|exact ce0|refine ce ?_|refine ce2 ?_ ?_|exact SVLe.refl|refine ceb ?_)
  all_goals first | exact (show nodupB _ = true from rfl) | exact Or.inr rfl | ((rw [List.dropLast_eq_take]; congr 1; split <;> omega))
@[irreducible] def pushL (l : List Int) (x : Int) : List Int := if x = 0 ∧ l = [] then l else l ++ [x]
theorem push_ok (l : List Int) (x : Int) (hx : (l.length : Int) ≤ 16777216) : Does Tryz.prog 306 [.one (.gv 0),.one (int x)] [roI l] (.one (.gv 1)) [.dead,roI (pushL l x)] := by
  refine does_of (k := 1) Tryz.func306 rfl Tryz.ntmps306 rfl rfl fun w F0 S0 ρ0 => ?_
  dsimp only [argT,argH]
  repeat' first|(apply n3;(exact a_litE eI [_] rfl rfl rfl rfl rfl rfl rfl rfl);exact rfl;refine dA ?_)|(apply p3;(first|exact pu1|exact puC);exact rfl)|refine cd ?_|(apply s3;exact a_appE (fP rfl) rfl rfl rfl rfl nowR (by (simp;omega)) (by decide) (by decide) (by exact rfl);exact rfl;exact rfl)|refine o_no rfl rfl rfl rfl ?_|(apply py3;exact rfl;exact rfl;(first|exact pu1|exact puC|exact puN);exact rfl;exact rfl)|((first|refine o_gs rfl rfl (fun hc => ?_) (fun hc => ?_)|refine g_cond rfl (fun hc => ?_) (fun hc => ?_)) <;> (try simp only [dcB] at hc) <;> (try first|contradiction|(exfalso;omega)))
  · repeat refine cr ?_
    refine ends_id ?_
    refine endK [?_] (h2 := ?_) (h3 := ?_) (nd := ?_)
    rotate_left 1
    all_goals (repeat' first|exact ce0|refine ce ?_|refine ce2 ?_ ?_|(refine Or.inr (bx_eq rfl rfl ?_);(try dsimp only [C.ren,C.ren.all]);(try exact rfl))|exact SVLe.refl|refine ceb ?_)
    all_goals first | exact (show nodupB _ = true from rfl) | exact Or.inr rfl | ((have : l = [] := List.eq_nil_of_length_eq_zero (by omega); subst this; unfold pushL; simp [*]))
  · repeat refine cr ?_
    refine ends_id ?_
    refine endK [?_] (h2 := ?_) (h3 := ?_) (nd := ?_)
    rotate_left 1
    all_goals (repeat' first|exact ce0|refine ce ?_|refine ce2 ?_ ?_|(refine Or.inr (bx_eq rfl rfl ?_);(try dsimp only [C.ren,C.ren.all]);(try exact rfl))|exact SVLe.refl|refine ceb ?_)
    all_goals first | exact (show nodupB _ = true from rfl) | exact Or.inr rfl | ((unfold pushL; rw [if_neg]; rintro ⟨_,rfl⟩; simp at hc))
  · repeat refine cr ?_
    refine ends_id ?_
    refine endK [?_] (h2 := ?_) (h3 := ?_) (nd := ?_)
    rotate_left 1
    all_goals (repeat' first|exact ce0|refine ce ?_|refine ce2 ?_ ?_|(refine Or.inr (bx_eq rfl rfl ?_);(try dsimp only [C.ren,C.ren.all]);(try exact rfl))|exact SVLe.refl|refine ceb ?_)
    all_goals first | exact (show nodupB _ = true from rfl) | exact Or.inr rfl | ((unfold pushL; rw [if_neg]; rintro ⟨h,_⟩; exact hc h))
abbrev ruD (m : Mach) (s : Int) (l r : List Int) : C := .d (.bx false [.sc (.int .i64 m.sy),.sc (.int .i64 m.st),.sl false 3 (rows eR m.ru),.sc (.int .i64 s),.sl false 1 (rows eI l),.sl false 1 (rows eI r)])
theorem symbol_ok (m : Mach) (s : Int) (l r : List Int) (hx : (r.length : Int) ≤ 16777216) : Does Tryz.prog 240 [.one (ruD m s l r)] [] (.one (int (r.getLastD 0))) [] := by
  refine does_of (k := 0) Tryz.func240 rfl Tryz.ntmps240 rfl rfl fun w F0 S0 ρ0 => ?_
  dsimp only [argT,argH]
  repeat' first|(apply p3;(exact pu1);exact rfl)|refine cd ?_|(apply c4 0;exact callK1 (θ := []) (hD := (nearest_ok _ preB4));exact rfl;exact rfl;exact rfl;refine dM ?_)
  repeat refine cr ?_
  refine ends_id ?_
  refine endK [] (h2 := ?_) (h3 := ?_) (nd := ?_)
  all_goals (repeat' first|exact ce0|refine ce ?_|refine ce2 ?_ ?_|exact SVLe.refl|refine ceb ?_)
  all_goals first | exact (show nodupB _ = true from rfl) | exact Or.inr rfl | (rfl)
theorem at_ok (m : Mach) (s : Int) (l r : List Int) (hx : (r.length : Int) ≤ 16777216) (h1 : -9223372036854775808 ≤ s * m.sy) (h2 : s * m.sy < 9223372036854775808) (h3 : -9223372036854775808 ≤ s * m.sy + r.getLastD 0) (h4 : s * m.sy + r.getLastD 0 < 9223372036854775808) : Does Tryz.prog 177 [.one (ruD m s l r)] [] (.one (int (s * m.sy + r.getLastD 0))) [] := by
  refine does_of (k := 0) Tryz.func177 rfl Tryz.ntmps177 rfl rfl fun w F0 S0 ρ0 => ?_
  dsimp only [argT,argH]
  repeat' first|(apply p3;exact a_pure (sv := .one _) rfl;exact rfl)|refine cd ?_|(apply g_drN (id := 1) okM [[],[0],[0,1],[0,1,2],[],[4],[4,5],[4,5,6],[4,5,6,7],[0,1,2,3,4,5,6,7,8],[],[10],[0,1,2,3,4,5,6,7,8,9,10,11],[0,1,2,3,4,5,6,7,8,9,10,11,12]] [([],[]),([],[]),([],[]),([],[]),([],[]),([],[]),([],[]),([],[]),([],[]),([],[]),([],[]),([],[]),([],[]),([],[])] 0;(focus (refine dp 0 0 [7,8,9,10,11,13,14] [] pu1 ?_;refine dp 1 1 [7,8,9,10,11,13,14] [] (a_pure (sv := .one _) rfl) ?_;refine dp 2 3 [7,8,9,10,11,13,14] [] (a_pure (sv := .one _) rfl) ?_;refine dp 3 7 [7,8,9,10,11,13,14] [] puL ?_;refine dp 4 0 [3,4,5,6,13,14] [] pu1 ?_;refine dp 5 1 [3,4,5,6,13,14] [] (a_pure (sv := .one _) rfl) ?_;refine dp 6 3 [3,4,5,6,13,14] [] (a_pure (sv := .one _) rfl) ?_;refine dp 7 7 [3,4,5,6,13,14] [] (a_pure (sv := .one _) rfl) ?_;refine dp 8 15 [3,4,5,6,13,14] [] puL ?_;refine dp 9 511 [13,14] [] (by exact a_mul rfl rfl (by first|omega|assumption) (by first|omega|assumption)) ?_;refine dp 10 0 [3,4,5,6,7,8,9,10,11,12] [] pu1 ?_;refine dp 11 1 [3,4,5,6,7,8,9,10,11,12] [] (callD1 (n := _) 0 (θ := []) (hD := (symbol_ok _ _ _ _ preB4))) ?_;refine dp 12 4095 [] [] (a_add rfl rfl (by omega) (by omega)) ?_;refine dp 13 8191 [] [] pu1 ?_;(refine d_nil ?_;refine dN ?_)));any_goals kernel_rfl)
  repeat refine cr ?_
  refine ends_id ?_
  refine endK [] (h2 := ?_) (h3 := ?_) (nd := ?_)
  all_goals (repeat' first|exact ce0|refine ce ?_|refine ce2 ?_ ?_|exact SVLe.refl|refine ceb ?_)
  all_goals first | exact (show nodupB _ = true from rfl) | exact Or.inr rfl | (rfl)
theorem rule_ok (m : Mach) (s : Int) (l r : List Int) (hx : (r.length : Int) ≤ 16777216) (h1 : 0 ≤ s * m.sy) (h2 : s * m.sy < 9223372036854775) (h3 : 0 ≤ r.getLastD 0) (h4 : r.getLastD 0 < 9223372036854775) (h5 : s * m.sy + r.getLastD 0 < m.ru.length) : Does Tryz.prog 289 [.one (ruD m s l r)] [] (.agg (ruC (m.ru[(s * m.sy + r.getLastD 0).toNat]'(by omega)))) [] := by
  refine does_of (k := 0) Tryz.func289 rfl Tryz.ntmps289 rfl rfl fun w F0 S0 ρ0 => ?_
  dsimp only [argT,argH]
  repeat' first|(apply n3;exact a_new (gb := .bx _) rfl;exact rfl;refine dA ?_)|refine cd ?_|(apply g_drN (id := 1) okM [[],[0],[0,1],[0,1,2],[0,1,2,3],[],[5],[0,1,2,3,4,5,6],[0,1,2,3,4,5,6,7],[0,1,2,3,4,5,6,7,8]] [([],[]),([],[]),([],[]),([],[]),([],[]),([],[]),([],[]),([],[]),([],[]),([],[0])] 0;(focus (refine dp 0 0 [8,9] [] pu1 ?_;refine dp 1 1 [8,9] [] (a_pure (sv := .one _) rfl) ?_;refine dp 2 3 [8,9] [] (a_pure (sv := .one _) rfl) ?_;refine dp 3 7 [8,9] [] (a_pure (sv := .one _) rfl) ?_;refine dp 4 15 [8,9] [] puL ?_;refine dp 5 0 [3,4,5,6,7] [] pu1 ?_;refine dp 6 1 [3,4,5,6,7] [] (callD1 (n := _) 0 (θ := []) (hD := (at_ok _ _ _ _ preB4 preB4 preB4 preB4 preB4))) ?_;refine dp 7 127 [] [] puI ?_;refine dp 8 255 [] [] puL ?_;refine duE 9 511 [] [] (by exact a_st_bx rfl rfl rfl rfl (fN rfl rfl) (Nat.le_of_ble_eq_true rfl) rfl) (by exact rfl) (by exact rfl) ?_;(refine d_nil ?_;refine dN ?_)));any_goals kernel_rfl)
  repeat refine cr ?_
  refine ends_id ?_
  refine endK [] (h2 := ?_) (h3 := ?_) (nd := ?_)
  all_goals (repeat' first|exact ce0|refine ce ?_|refine ce2 ?_ ?_|exact SVLe.refl|refine ceb ?_)
  all_goals first | exact (show nodupB _ = true from rfl) | exact Or.inr rfl | (rfl)
theorem halts_ok (m : Mach) (s : Int) (l r : List Int) (hx : (r.length : Int) ≤ 16777216) (h1 : 0 ≤ s * m.sy) (h2 : s * m.sy < 9223372036854775) (h3 : 0 ≤ r.getLastD 0) (h4 : r.getLastD 0 < 9223372036854775) (h5 : s * m.sy + r.getLastD 0 < m.ru.length) : Does Tryz.prog 239 [.one (ruD m s l r)] [] (.one (boo (decide (m.ru[(s * m.sy + r.getLastD 0).toNat]'(by omega) = ⟨0,0,-1⟩)))) [] := by
  refine does_of (k := 0) Tryz.func239 rfl Tryz.ntmps239 rfl rfl fun w F0 S0 ρ0 => ?_
  dsimp only [argT,argH]
  repeat' first|(apply p3;exact pu1;exact rfl)|refine cd ?_|(apply c4 0;exact callK1 (θ := []) (hD := (rule_ok _ _ _ _ preB4 preB4 preB4 preB4 preB4 preB4));exact rfl;exact rfl;exact rfl;refine dM ?_)|(apply c4 0;exact callK1 (θ := []) (hD := (isRule_ok _));exact rfl;exact rfl;exact rfl;refine dM ?_)
  repeat refine cr ?_
  refine ends_id ?_
  refine endK [] (h2 := ?_) (h3 := ?_) (nd := ?_)
  all_goals (repeat' first|exact ce0|refine ce ?_|refine ce2 ?_ ?_|exact SVLe.refl|refine ceb ?_)
  all_goals first | exact (show nodupB _ = true from rfl) | exact Or.inr rfl | (simp)
end Go.Proofs.YtighjcjmacajoaaGreatDoor
end
section
set_option linter.unusedVariables false
set_option linter.unusedSimpArgs false
set_option maxRecDepth 100000
set_option maxHeartbeats 4000000
namespace Go.Proofs.YtighjcjmacajoaaGreatDoor
open Go Foot
@[irreducible] def stepL (u : Rule') (l r : List Int) : List Int := if 0 < u.m then pushL l u.w else l.dropLast
@[irreducible] def stepR (u : Rule') (l r : List Int) : List Int := if 0 < u.m then r.dropLast else pushL (pushL r.dropLast u.w) (l.getLastD 0)
theorem pushL_len (l : List Int) (x : Int) : (pushL l x).length ≤ l.length + 1 := by unfold pushL; split <;> simp
theorem preB5 {p : Prop} (h : p := by first | with_reducible assumption | omega | (simp only [List.length_append,List.length_cons,List.length_nil,List.length_set,List.length_replicate,List.length_take,List.length_drop,List.length_tail,List.length_dropLast,List.length_reverse] at *; omega) | exact mem_len (by assumption) (by omega) | (with_reducible refine Int.le_trans (Int.ofNat_le.2 (trimR_len _)) ?_; simp only [List.length_cons,List.length_tail]; omega) | (have := vMach_bd (by assumption); omega) | (with_reducible refine Int.le_trans (Int.ofNat_le.2 (pushL_len _ _)) ?_; simp only [List.length_dropLast]; omega) | trivial) : p := h
theorem step_ok (m : Mach) (s : Int) (l r : List Int) (u : Rule') (hx : (r.length : Int) ≤ 1000) (hy : (l.length : Int) ≤ 1000) (h1 : 0 ≤ s * m.sy) (h2 : s * m.sy < 9223372036854775) (h3 : 0 ≤ r.getLastD 0) (h4 : r.getLastD 0 < 9223372036854775) (h5 : s * m.sy + r.getLastD 0 < m.ru.length) (h6 : m.ru[(s * m.sy + r.getLastD 0).toNat]? = some u) : Does Tryz.prog 288 [.one (.gv 0)] [ruBx m s 1 2,roI l,roI r] (.one (boo (decide ((stepL u l r).length ≤ 200 ∧ (stepR u l r).length ≤ 200)))) [ruBx m u.n 3 4,.dead,.dead,roI (stepL u l r),roI (stepR u l r)] := by
  have h6' := (List.getElem?_eq_some_iff.1 h6).2
  refine does_of (k := 3) Tryz.func288 rfl Tryz.ntmps288 rfl rfl fun w F0 S0 ρ0 => ?_
  dsimp only [argT,argH]
  repeat' first|(apply n3;exact a_new (gb := .bx _) rfl;exact rfl;refine dA ?_)|(apply p3;(first|exact pu1|exact puC|exact puN);exact rfl)|refine cd ?_|(apply w3;(exact a_st_bx rfl rfl rfl rfl (fN rfl rfl) (Nat.le_of_ble_eq_true rfl) rfl);exact rfl;refine dS ?_)|(apply c4 0;exact callK1 (θ := []) (hD := (rule_ok _ _ _ _ preB5 preB5 preB5 preB5 preB5 preB5));exact rfl;exact rfl;exact rfl;refine dM ?_)|(apply c4 1;exact callK1 (θ := [_]) (hD := (pop_ok _ preB5));exact rfl;exact rfl;exact rfl;refine dM ?_)|refine o_no rfl rfl rfl rfl ?_|(apply py3;exact rfl;exact rfl;(first|exact pu1|exact puC|exact puN);exact rfl;exact rfl)|(apply g_drN (id := 4) okM [[],[],[1],[1,2],[1,2,3],[],[5],[1,2,3,4,5,6],[0,1,2,3,4,5,6,7],[0,1,2,3,4,5,6,7,8],[0,1,2,3,4,5,6,7,8,9]] [([],[]),([],[]),([],[]),([],[]),([],[]),([],[]),([],[]),([0],[1]),([],[]),([],[]),([],[0])] 1;(focus (refine dp 0 0 [18,19,20,21,22,23,24] [(true,0),(false,1)] pu1 ?_;refine dp 1 0 [17,22,23] [] pu1 ?_;refine dp 2 1 [17,22,23] [] (a_pure (sv := .one _) rfl) ?_;refine dp 3 3 [17,22,23] [] (a_pure (sv := .one _) rfl) ?_;refine dp 4 7 [17,22,23] [] puL ?_;refine dp 5 0 [17,18,19,20,21] [] (a_pure (sv := .one _) rfl) ?_;refine dp 6 1 [17,18,19,20,21] [] puL ?_;refine duN 7 63 [17] [] (callD1 (n := _) 0 (θ := [_]) (hD := (push_ok _ _ preB5))) (by exact rfl) (by exact rfl) ?_;refine dp 8 255 [] [] (a_pure (sv := .one _) rfl) ?_;refine dp 9 511 [] [] (a_pure (sv := .one _) rfl) ?_;refine duE 10 1023 [] [] (by exact a_st_bx rfl rfl rfl rfl (fN rfl rfl) (Nat.le_of_ble_eq_true rfl) rfl) (by exact rfl) (by exact rfl) ?_;(refine d_nil ?_;refine dN ?_)));any_goals kernel_rfl)|(apply g_drN (id := 5) okM [[],[],[1],[1,2],[1,2,3],[],[5],[1,2,3,4,5,6],[],[8],[8,9],[8,9,10],[1,2,3,4,5,6,7,8,9,10,11],[1,2,3,4,5,6,7,8,9,10,11,12],[0,1,2,3,4,5,6,7,8,9,10,11,12,13],[0,1,2,3,4,5,6,7,8,9,10,11,12,13,14],[0,1,2,3,4,5,6,7,8,9,10,11,12,13,14,15]] [([],[]),([],[]),([],[]),([],[]),([],[]),([],[]),([],[]),([0],[4]),([],[]),([],[]),([],[]),([],[]),([],[]),([1],[5]),([],[]),([],[]),([],[0])] 2;(focus (refine dp 0 0 [28,29,30,31,32,33,34,35,36,37,38,39,40] [(true,0),(false,4),(true,1),(false,5)] pu1 ?_;refine dp 1 0 [27,32,33,35,36,37,38] [] pu1 ?_;refine dp 2 1 [27,32,33,35,36,37,38] [] (a_pure (sv := .one _) rfl) ?_;refine dp 3 3 [27,32,33,35,36,37,38] [] (a_pure (sv := .one _) rfl) ?_;refine dp 4 7 [27,32,33,35,36,37,38] [] puL ?_;refine dp 5 0 [27,28,29,30,31,35,36,37,38] [] (a_pure (sv := .one _) rfl) ?_;refine dp 6 1 [27,28,29,30,31,35,36,37,38] [] puL ?_;refine duN 7 63 [27,35,36,37,38] [] (callD1 (n := _) 0 (θ := [_]) (hD := (push_ok _ _ preB5))) (by exact rfl) (by exact rfl) ?_;refine dp 8 0 [27,28,29,30,31,32,33,34] [(true,0),(false,4)] pu1 ?_;refine dp 9 1 [27,28,29,30,31,32,33,34] [(true,0),(false,4)] (a_pure (sv := .one _) rfl) ?_;refine dp 10 3 [27,28,29,30,31,32,33,34] [(true,0),(false,4)] (a_pure (sv := .one _) rfl) ?_;refine dp 11 7 [27,28,29,30,31,32,33,34] [(true,0),(false,4)] puL ?_;refine dp 12 2047 [27] [] (callD1 (n := _) 1 (θ := []) (hD := (nearest_ok _ preB5))) ?_;refine duN 13 4095 [27] [] (callD1 (n := _) 1 (θ := [_]) (hD := (push_ok _ _ preB5))) (by exact rfl) (by exact rfl) ?_;refine dp 14 16383 [] [] (a_pure (sv := .one _) rfl) ?_;refine dp 15 32767 [] [] (a_pure (sv := .one _) rfl) ?_;refine duE 16 65535 [] [] (by exact a_st_bx rfl rfl rfl rfl (fN rfl rfl) (Nat.le_of_ble_eq_true rfl) rfl) (by exact rfl) (by exact rfl) ?_;(refine d_nil ?_;refine dN ?_)));any_goals kernel_rfl)|((first|refine o_gs rfl rfl (fun hc => ?_) (fun hc => ?_)|refine g_cond rfl (fun hc => ?_) (fun hc => ?_)) <;> (try simp only [dcB] at hc) <;> (try first|contradiction|(exfalso;omega)))
  all_goals (simp only [h6'] at *)
  all_goals
    repeat refine cr ?_
    refine ends_id ?_
    refine endK [?_,?_] (h2 := ?_) (h3 := ?_) (nd := ?_)
    rotate_left 2
    all_goals (repeat' first|exact ce0|refine ce ?_|refine ce2 ?_ ?_|(refine Or.inr (bx_eq rfl rfl ?_);(try dsimp only [C.ren,C.ren.all]);(try exact rfl))|exact SVLe.refl|refine ceb ?_)
    all_goals first | exact (show nodupB _ = true from rfl) | exact Or.inr rfl | (((first | rw [decide_eq_decide] | (symm; rw [decide_eq_false_iff_not]) | skip); simp only [stepL,stepR,if_true,if_false, *]; try omega))
theorem l05Halts_ok (m : Mach) (c : Conf) (hc : (c.ri.length : Int) ≤ 16777216) (h1 : 0 ≤ c.st * m.sy) (h2 : c.st * m.sy < 9223372036854775) (h3 : 0 ≤ c.ri.headD 0) (h4 : c.ri.headD 0 < 9223372036854775) (h5 : c.st * m.sy + c.ri.headD 0 < m.ru.length) : Does Tryz.prog 166 [.one (maB m),.one (coB c)] [] (.one (boo (decide (m.ru[(c.st * m.sy + c.ri.headD 0).toNat]'(by omega) = ⟨0,0,-1⟩)))) [] := by
  refine does_of (k := 0) Tryz.func166 rfl Tryz.ntmps166 rfl rfl fun w F0 S0 ρ0 => ?_
  dsimp only [argT,argH]
  repeat' first|(apply p3;exact a_pure (sv := .one _) rfl;exact rfl)|refine cd ?_|(apply g_drN (id := 1) okM [[],[0],[0,1],[0,1,2],[],[],[4,5],[0,1,2,3,4,5,6],[0,1,2,3,4,5,6,7],[4,5,6],[0,1,2,3,4,5,6,7,8,9],[0,1,2,3,4,5,6,7,8,9,10]] [([],[]),([],[]),([],[]),([],[]),([],[]),([],[]),([],[]),([],[]),([],[]),([],[]),([],[]),([],[])] 0;(focus (refine dp 0 0 [9,10,11,14] [] pu1 ?_;refine dp 1 1 [9,10,11,14] [] (a_pure (sv := .one _) rfl) ?_;refine dp 2 3 [9,10,11,14] [] (a_pure (sv := .one _) rfl) ?_;refine dp 3 7 [9,10,11,14] [] puL ?_;refine dp 4 0 [5,6,7,8,10] [] pu1 ?_;refine dp 5 0 [5,6,7,8,9] [] pu1 ?_;refine dp 6 3 [5,6,7,8] [] (callD1 (n := _) 0 (θ := []) (hD := (l05At_ok _ _ preB5 preB5 preB5 preB5 preB5))) ?_;refine dp 7 127 [14] [] puI ?_;refine dp 8 255 [14] [] puL ?_;refine dp 9 28 [5,6,7,8,12,13] [] (callD1 (n := _) 0 (θ := []) (hD := l05None_ok)) ?_;refine dp 10 1023 [] [] (by exact a_eqRule (s := ⟨_,_,_⟩) rfl rfl) ?_;refine dp 11 2047 [] [] pu1 ?_;(refine d_nil ?_;refine dN ?_)));any_goals kernel_rfl)
  repeat refine cr ?_
  refine ends_id ?_
  refine endK [] (h2 := ?_) (h3 := ?_) (nd := ?_)
  all_goals (repeat' first|exact ce0|refine ce ?_|refine ce2 ?_ ?_|exact SVLe.refl|refine ceb ?_)
  all_goals first | exact (show nodupB _ = true from rfl) | exact Or.inr rfl | (rfl)
theorem l05OwnConfig_ok (c : Conf) (hx : (c.le.length : Int) ≤ 16777216) (hy : (c.ri.length : Int) ≤ 16777216) : Does Tryz.prog 165 [.one (coB c)] [] (.agg [int c.st,.gv 0,.gv 1]) [roI c.le,roI c.ri] := by
  refine does_of (k := 0) Tryz.func165 rfl Tryz.ntmps165 rfl rfl fun w F0 S0 ρ0 => ?_
  dsimp only [argT,argH]
  repeat' first|(apply n3;exact a_new (gb := .bx _) rfl;exact rfl;refine dA ?_)|refine cd ?_|(apply g_drN (id := 1) okM [[],[0],[0,1],[0,1,2],[],[4],[4,5],[4,5,6],[4,5,6,7],[],[9],[9,10],[9,10,11],[4,5,6,7,8,9,10,11,12],[0,1,2,3,4,5,6,7,8,9,10,11,12,13],[0,1,2,3,4,5,6,7,8,9,10,11,12,13,14]] [([],[]),([],[]),([],[]),([],[]),([],[]),([],[]),([],[]),([],[]),([0],[]),([],[]),([],[]),([],[]),([],[]),([1],[]),([],[]),([],[0])] 2;(focus (refine dp 0 0 [7,8,9,10,11,12,13,14,15,16] [(true,0),(true,1)] pu1 ?_;refine dp 1 1 [7,8,9,10,11,12,13,14,15,16] [(true,0),(true,1)] (a_pure (sv := .one _) rfl) ?_;refine dp 2 3 [7,8,9,10,11,12,13,14,15,16] [(true,0),(true,1)] (a_pure (sv := .one _) rfl) ?_;refine dp 3 7 [7,8,9,10,11,12,13,14,15,16] [(true,0),(true,1)] puL ?_;refine dp 4 0 [3,4,5,6,12,13,14,15] [] pu1 ?_;refine dp 5 1 [3,4,5,6,12,13,14,15] [] (a_pure (sv := .one _) rfl) ?_;refine dp 6 3 [3,4,5,6,12,13,14,15] [] (a_pure (sv := .one _) rfl) ?_;refine dp 7 7 [3,4,5,6,12,13,14,15] [] puL ?_;refine duN 8 15 [3,4,5,6,12,13,14,15] [] (callD1 (n := _) 0 (θ := []) (hD := (l00Own_ok _ preB5))) (by exact rfl) (by exact rfl) ?_;refine dp 9 0 [3,4,5,6,7,8,9,10,11] [(true,0)] pu1 ?_;refine dp 10 1 [3,4,5,6,7,8,9,10,11] [(true,0)] (a_pure (sv := .one _) rfl) ?_;refine dp 11 3 [3,4,5,6,7,8,9,10,11] [(true,0)] (a_pure (sv := .one _) rfl) ?_;refine dp 12 7 [3,4,5,6,7,8,9,10,11] [(true,0)] puL ?_;refine duN 13 511 [3,4,5,6] [] (callD1 (n := _) 1 (θ := []) (hD := (l00Own_ok _ preB5))) (by exact rfl) (by exact rfl) ?_;refine dp 14 16383 [] [] (a_pure (sv := .agg _) rfl) ?_;refine duE 15 32767 [] [] (by exact a_st_bx rfl rfl rfl rfl (fN rfl rfl) (Nat.le_of_ble_eq_true rfl) rfl) (by exact rfl) (by exact rfl) ?_;(refine d_nil ?_;refine dN ?_)));any_goals kernel_rfl)
  repeat refine cr ?_
  refine ends_id ?_
  refine endK [?_,?_] (h2 := ?_) (h3 := ?_) (nd := ?_)
  rotate_left 2
  all_goals (repeat' first|exact ce0|refine ce ?_|refine ce2 ?_ ?_|exact SVLe.refl|refine ceb ?_)
  all_goals first | exact (show nodupB _ = true from rfl) | exact Or.inr rfl | (rfl)
end Go.Proofs.YtighjcjmacajoaaGreatDoor
end
section
set_option linter.unusedVariables false
set_option linter.unusedSimpArgs false
set_option maxRecDepth 100000
set_option maxHeartbeats 4000000
namespace Go.Proofs.YtighjcjmacajoaaGreatDoor
open Go Foot
theorem vSide_bd {sy : Int} {l : List Int} (h : vSide sy l = true) : (l.length : Int) ≤ 200 ∧ (∀ x ∈ l,0 ≤ x ∧ x ≤ sy - 1) ∧ l.getLastD 1 ≠ 0 := by
  unfold vSide at h
  simp only [Bool.and_eq_true,List.all_eq_true,decide_eq_true_eq] at h
  exact ⟨h.2.1,h.1,h.2.2⟩
theorem vSide_mk {sy : Int} {l : List Int} (h1 : (l.length : Int) ≤ 200) (h2 : ∀ x ∈ l,0 ≤ x ∧ x ≤ sy - 1) (h3 : l.getLastD 1 ≠ 0) : vSide sy l = true := by
  unfold vSide
  simp only [Bool.and_eq_true,List.all_eq_true,decide_eq_true_eq]
  exact ⟨h2,h1,h3⟩
theorem vConf_bd {m : Mach} {c : Conf} (h : vConf m c = true) : (0 ≤ c.st ∧ c.st ≤ m.st - 1) ∧ vSide m.sy c.le = true ∧ vSide m.sy c.ri = true := by
  unfold vConf at h
  simp only [Bool.and_eq_true,decide_eq_true_eq] at h
  exact ⟨h.1.1,h.1.2,h.2⟩
theorem vConf_mk {m : Mach} {c : Conf} (h : (0 ≤ c.st ∧ c.st ≤ m.st - 1) ∧ vSide m.sy c.le = true ∧ vSide m.sy c.ri = true) : vConf m c = true := by
  unfold vConf
  simp only [Bool.and_eq_true,decide_eq_true_eq]
  exact ⟨⟨h.1,h.2.1⟩,h.2.2⟩
abbrev noR : Rule' := ⟨0,0,-1⟩
@[irreducible] def ruAt (m : Mach) (c : Conf) : Rule' := m.ru.getD (c.st * m.sy + c.ri.headD 0).toNat noR
theorem headD_bd {sy : Int} {l : List Int} (hs : 2 ≤ sy) (h : vSide sy l = true) : 0 ≤ l.headD 0 ∧ l.headD 0 ≤ sy - 1 := by
  have := (vSide_bd h).2.1
  cases l with
  | nil => simp; omega
  | cons a l => exact this a (by simp)
theorem at_bd {m : Mach} {c : Conf} (hm : vMach m = true) (hc : vConf m c = true) : 0 ≤ c.st * m.sy ∧ 0 ≤ c.ri.headD 0 ∧ c.ri.headD 0 ≤ 5 ∧ c.st * m.sy + c.ri.headD 0 < m.ru.length ∧ (m.ru.length : Int) ≤ 6000 ∧ c.st ≤ 999 ∧ 0 ≤ c.st ∧ (c.le.length : Int) ≤ 200 ∧ (c.ri.length : Int) ≤ 200 := by
  obtain ⟨⟨h1,h2⟩,⟨h3,h4⟩,h5⟩ := vMach_bd hm
  obtain ⟨⟨h6,h7⟩,h8,h9⟩ := vConf_bd hc
  obtain ⟨h10,h11⟩ := headD_bd h1 h9
  have a1 : c.st * m.sy ≤ (m.st - 1) * m.sy := Int.mul_le_mul_of_nonneg_right h7 (by omega)
  have a2 : (m.st - 1) * m.sy = m.sy * m.st - m.sy := by rw [Int.sub_mul,Int.mul_comm]; omega
  have a3 : m.sy * m.st ≤ 6 * m.st := Int.mul_le_mul_of_nonneg_right h2 (by omega)
  exact ⟨Int.mul_nonneg h6 (by omega),h10,by omega,by omega,by omega,by omega,h6,(vSide_bd h8).1,(vSide_bd h9).1⟩
theorem ruAt_get {m : Mach} {c : Conf} (hm : vMach m = true) (hc : vConf m c = true) : m.ru[(c.st * m.sy + c.ri.headD 0).toNat]? = some (ruAt m c) := by
  have h := at_bd hm hc
  rw [ruAt,List.getD_eq_getElem?_getD,List.getElem?_eq_getElem (by omega)]
  rfl
theorem ruAt_ge {m : Mach} {c : Conf} (hm : vMach m = true) (hc : vConf m c = true) (h : (c.st * m.sy + c.ri.headD 0).toNat < m.ru.length) : m.ru[(c.st * m.sy + c.ri.headD 0).toNat] = ruAt m c :=
  (List.getElem?_eq_some_iff.1 (ruAt_get hm hc)).2
theorem ruAt_ok {m : Mach} {c : Conf} (hm : vMach m = true) (hc : vConf m c = true) (hn : ruAt m c ≠ noR) : (0 ≤ (ruAt m c).w ∧ (ruAt m c).w ≤ m.sy - 1) ∧ ((ruAt m c).m = 1 ∨ (ruAt m c).m = -1) ∧ 0 ≤ (ruAt m c).n ∧ (ruAt m c).n ≤ m.st - 1 := by
  have hg := ruAt_get hm hc
  have := hm
  unfold vMach at this
  rw [Bool.and_eq_true,List.all_eq_true] at this
  have := this.2 _ (List.mem_of_getElem? hg)
  unfold okRule at this
  rw [decide_eq_true_eq] at this
  exact this.resolve_left hn
theorem trimR_id {l : List Int} (h : l.getLastD 1 ≠ 0) : trimR l = l := by
  unfold trimR
  cases hl : l.reverse with
  | nil => rw [List.reverse_eq_nil_iff] at hl; subst hl; rfl
  | cons a r =>
    have : l = r.reverse ++ [a] := by rw [← List.reverse_reverse l,hl,List.reverse_cons]
    subst this
    rw [List.getLastD_concat] at h
    rw [List.dropWhile_cons_of_neg (by simpa using h)]
    simp
theorem trimR_norm (l : List Int) : (trimR l).getLastD 1 ≠ 0 := by
  unfold trimR
  rw [List.getLastD_eq_getLast?,List.getLast?_reverse]
  cases h : l.reverse.dropWhile (· == 0) with
  | nil => decide
  | cons a r =>
    have := List.head?_dropWhile_not (· == (0 : Int)) l.reverse
    rw [h] at this
    simp at this
    simpa using this
theorem trimR_mem {l : List Int} {x : Int} (h : x ∈ trimR l) : x ∈ l := by
  unfold trimR at h
  rw [List.mem_reverse] at h
  exact List.mem_reverse.1 ((List.dropWhile_sublist _).mem h)
theorem trimR_cons {x : Int} {l : List Int} (h : l.getLastD 1 ≠ 0) : trimR (x :: l) = if x = 0 ∧ l = [] then [] else x :: l := by
  split
  · rename_i e
    obtain ⟨rfl,rfl⟩ := e
    decide +kernel
  · rename_i hn
    apply trimR_id
    cases l with
    | nil => simpa using hn
    | cons a l => simpa using h
theorem norm_tail {l : List Int} (h : l.getLastD 1 ≠ 0) : l.tail.getLastD 1 ≠ 0 := by
  cases l with
  | nil => simp
  | cons a l =>
    cases l with
    | nil => simp
    | cons b l => simpa using h
theorem pushL_rev {x : Int} {l : List Int} (h : l.getLastD 1 ≠ 0) : pushL l.reverse x = (trimR (x :: l)).reverse := by
  rw [trimR_cons h]
  unfold pushL
  split
  · rename_i e
    rw [List.reverse_eq_nil_iff] at e
    rw [if_pos e,e.2]
  · rename_i e
    rw [List.reverse_eq_nil_iff] at e
    rw [if_neg e,List.reverse_cons]
theorem getLastD_rev (l : List Int) (d : Int) : l.reverse.getLastD d = l.headD d := by
  rw [List.getLastD_eq_getLast?,List.getLast?_reverse]
  cases l <;> rfl
theorem dropLast_rev (l : List Int) : l.reverse.dropLast = l.tail.reverse := List.dropLast_reverse
theorem stepL_rev {m : Mach} {c : Conf} (hc : vConf m c = true) (u : Rule') : stepL u c.le.reverse c.ri.reverse = (stepS u c).le.reverse := by
  obtain ⟨_,h1,h2⟩ := vConf_bd hc
  unfold stepL stepS
  split
  · exact pushL_rev (vSide_bd h1).2.2
  · exact dropLast_rev _
theorem stepR_rev {m : Mach} {c : Conf} (hc : vConf m c = true) (u : Rule') : stepR u c.le.reverse c.ri.reverse = (stepS u c).ri.reverse := by
  obtain ⟨_,h1,h2⟩ := vConf_bd hc
  unfold stepR stepS
  split
  · exact dropLast_rev _
  · rw [dropLast_rev,pushL_rev (norm_tail (vSide_bd h2).2.2),pushL_rev (trimR_norm _),getLastD_rev]
theorem stepS_n (u : Rule') (c : Conf) : (stepS u c).st = u.n := by unfold stepS; split <;> rfl
theorem stepS_ok {m : Mach} {c : Conf} (hm : vMach m = true) (hc : vConf m c = true) (hn : ruAt m c ≠ noR) (hr : roomS (stepS (ruAt m c) c) = true) : vConf m (stepS (ruAt m c) c) = true := by
  obtain ⟨hw,hmv,hst⟩ := ruAt_ok hm hc hn
  obtain ⟨_,h1,h2⟩ := vConf_bd hc
  have hb := (vMach_bd hm).1
  obtain ⟨a1,a2,a3⟩ := vSide_bd h1
  obtain ⟨b1,b2,b3⟩ := vSide_bd h2
  unfold roomS at hr
  rw [decide_eq_true_eq] at hr
  apply vConf_mk
  rw [stepS_n]
  refine ⟨hst,vSide_mk (by omega) ?_ ?_,vSide_mk (by omega) ?_ ?_⟩
  · unfold stepS
    split
    · intro x hx
      rcases List.mem_cons.1 (trimR_mem hx) with rfl | hx
      · exact hw
      · exact a2 x hx
    · intro x hx
      exact a2 x (List.mem_of_mem_tail hx)
  · unfold stepS
    split
    · exact trimR_norm _
    · exact norm_tail a3
  · unfold stepS
    split
    · intro x hx
      exact b2 x (List.mem_of_mem_tail hx)
    · intro x hx
      rcases List.mem_cons.1 (trimR_mem hx) with rfl | hx
      · exact headD_bd hb.1 h1
      · rcases List.mem_cons.1 (trimR_mem hx) with rfl | hx
        · exact hw
        · exact b2 x (List.mem_of_mem_tail hx)
  · unfold stepS
    split
    · exact norm_tail b3
    · exact trimR_norm _
theorem stepC_ok (m : Mach) (c : Conf) (hm : vMach m = true) (hc : vConf m c = true) : Does Tryz.prog 288 [.one (.gv 0)] [ruBx m c.st 1 2,roI c.le.reverse,roI c.ri.reverse] (.one (boo (roomS (stepS (ruAt m c) c)))) [ruBx m (stepS (ruAt m c) c).st 3 4,.dead,.dead,roI (stepS (ruAt m c) c).le.reverse,roI (stepS (ruAt m c) c).ri.reverse] := by
  have hb := at_bd hm hc
  have := step_ok m c.st c.le.reverse c.ri.reverse (ruAt m c) (by simp; omega) (by simp; omega) (by omega) (by omega) (by rw [getLastD_rev]; omega) (by rw [getLastD_rev]; omega) (by rw [getLastD_rev]; omega) (by rw [getLastD_rev]; exact ruAt_get hm hc)
  rw [stepL_rev hc,stepR_rev hc,List.length_reverse,List.length_reverse,← stepS_n (ruAt m c) c] at this
  unfold roomS
  exact this
theorem haltsC_ok (m : Mach) (c : Conf) (hm : vMach m = true) (hc : vConf m c = true) : Does Tryz.prog 239 [.one (ruD m c.st c.le.reverse c.ri.reverse)] [] (.one (boo (decide (ruAt m c = noR)))) [] := by
  have hb := at_bd hm hc
  have := halts_ok m c.st c.le.reverse c.ri.reverse (by simp; omega) (by omega) (by omega) (by rw [getLastD_rev]; omega) (by rw [getLastD_rev]; omega) (by rw [getLastD_rev]; omega)
  simp only [getLastD_rev,ruAt_ge hm hc] at this
  exact this
theorem atC_ok (m : Mach) (c : Conf) (hm : vMach m = true) (hc : vConf m c = true) : Does Tryz.prog 177 [.one (ruD m c.st c.le.reverse c.ri.reverse)] [] (.one (int (c.st * m.sy + c.ri.headD 0))) [] := by
  have hb := at_bd hm hc
  have := at_ok m c.st c.le.reverse c.ri.reverse (by simp; omega) (by omega) (by omega) (by rw [getLastD_rev]; omega) (by rw [getLastD_rev]; omega)
  simp only [getLastD_rev] at this
  exact this
theorem l05HaltsC_ok (m : Mach) (c : Conf) (hm : vMach m = true) (hc : vConf m c = true) : Does Tryz.prog 166 [.one (maB m),.one (coB c)] [] (.one (boo (decide (ruAt m c = noR)))) [] := by
  have hb := at_bd hm hc
  have := l05Halts_ok m c (by omega) (by omega) (by omega) (by omega) (by omega) (by omega)
  simp only [ruAt_ge hm hc] at this
  exact this
theorem l05AtC_ok (m : Mach) (c : Conf) (hm : vMach m = true) (hc : vConf m c = true) : Does Tryz.prog 103 [.one (maB m),.one (coB c)] [] (.one (int (c.st * m.sy + c.ri.headD 0))) [] := by
  have hb := at_bd hm hc
  exact l05At_ok m c (by omega) (by omega) (by omega) (by omega) (by omega)
theorem l05StepC_ok (m : Mach) (c : Conf) (hm : vMach m = true) (hc : vConf m c = true) : Does Tryz.prog 167 [.one (maB m),.one (coB c)] [] (.tup [(true,[int (stepS (ruAt m c) c).st,.gv 0,.gv 1]),(false,[boo (roomS (stepS (ruAt m c) c))])]) [roI (stepS (ruAt m c) c).le,roI (stepS (ruAt m c) c).ri] := by
  have hb := at_bd hm hc
  exact l05Step_ok m c (ruAt m c) (by omega) (by omega) (by omega) (by omega) (by omega) (by omega) (by omega) (ruAt_get hm hc)
end Go.Proofs.YtighjcjmacajoaaGreatDoor
end
section
set_option linter.unusedVariables false
set_option linter.unusedSimpArgs false
set_option maxRecDepth 100000
set_option maxHeartbeats 4000000
namespace Go.Proofs.YtighjcjmacajoaaGreatDoor
open Go Foot
structure Out (σ : Type) where
  x : σ
  n : Int
  c : Conf
  hd : Int
  halts : Bool
  full : Bool
section
variable {σ : Type} {m : Mach} {fc : Conf → Int → σ → σ} {fs : Conf → Int → Rule' → σ → σ} {b n hd : Int} {c : Conf} {x : σ} {O : Out σ}
end
theorem ask_ok {m : Mach} {c : Conf} {b : Int} (h : askC m c b = 0) : vMach m = true ∧ vConf m c = true ∧ 1 ≤ b ∧ b ≤ 20000 := by
  unfold askC at h
  split at h
  · rename_i h1
    split at h
    · rename_i h2; exact ⟨h1.1,h1.2,h2.1,h2.2⟩
    · cases h
  · cases h
end Go.Proofs.YtighjcjmacajoaaGreatDoor
end
section
set_option linter.unusedVariables false
set_option linter.unusedSimpArgs false
set_option maxRecDepth 100000
set_option maxHeartbeats 4000000
namespace Go.Proofs.YtighjcjmacajoaaGreatDoor
open Go Foot
structure Prf where
  k : Int
  nu : List Int
  wo : List (List Int)
end Go.Proofs.YtighjcjmacajoaaGreatDoor
end
section
set_option linter.unusedVariables false
set_option linter.unusedSimpArgs false
set_option maxRecDepth 100000
set_option maxHeartbeats 4000000
namespace Go.Proofs.YtighjcjmacajoaaGreatDoor
open Go Foot
end Go.Proofs.YtighjcjmacajoaaGreatDoor
end
section
set_option linter.unusedVariables false
set_option linter.unusedSimpArgs false
set_option maxRecDepth 100000
set_option maxHeartbeats 4000000
namespace Go.Proofs.YtighjcjmacajoaaGreatDoor
open Go Foot
@[irreducible] def rulT (r : Rule') : Bs := if r = ⟨0,0,-1⟩ then [45,45,45] else decT r.w ++ (if r.m < 0 then [76] else [82]) ++ decT r.n
def RuBd (r : Rule') : Prop := (-1000000 ≤ r.w ∧ r.w ≤ 1000000) ∧ (-1000000 ≤ r.m ∧ r.m ≤ 1000000) ∧ (-1000000 ≤ r.n ∧ r.n ≤ 1000000)
theorem dec_le {n : Int} (h0 : -1000000000000000000 ≤ n) (h1 : n ≤ 1000000000000000000) : ((decT n).length : Int) ≤ 21 := by have := decT_le (n := n) (by omega) (by omega); omega
theorem rulT_le {r : Rule'} (h : RuBd r) : ((rulT r).length : Int) ≤ 43 := by
  unfold rulT
  split
  · simp
  · have := dec_le (n := r.w) (by have := h.1; omega) (by have := h.1; omega)
    have := dec_le (n := r.n) (by have := h.2.2; omega) (by have := h.2.2; omega)
    simp only [List.length_append]
    split <;> simp only [List.length_cons,List.length_nil] <;> omega
theorem preB51 {p : Prop} (h : p := by first | with_reducible assumption | omega | (simp only [List.length_append,List.length_cons,List.length_nil,List.length_set,List.length_replicate,List.length_take,List.length_drop,List.length_tail,List.length_dropLast,List.length_reverse] at *; omega) | exact mem_len (by assumption) (by omega) | (with_reducible refine Int.le_trans (Int.ofNat_le.2 (trimR_len _)) ?_; simp only [List.length_cons,List.length_tail]; omega) | (exact (ruAt_ok (by assumption) (by assumption) (by assumption)).2.1) | (exact (ruAt_ok (by assumption) (by assumption) (by assumption)).2.1) | (have := vMach_bd (by assumption); omega) | (simp only [mC_ch,mC_tu]; omega) | (have := vTag_bd (by assumption); omega) | (have := (‹Gd _ _›).le; omega) | (exact tgHalts_no (by assumption)) | (exact tgHead (by assumption) (by assumption) (by assumption)) | (exact Int.le_trans (tgStep_gd (by assumption) (by assumption) (by assumption) (by assumption)).le (by decide)) | (exact vTag_r (by assumption)) | (with_reducible refine Int.le_trans (Int.ofNat_le.2 (pushL_len _ _)) ?_; simp only [List.length_dropLast]; omega) | exact (ask_ok (by assumption)).1 | exact (ask_ok (by assumption)).2.1 | exact (ask_ok (by assumption)).2.2.1 | exact (ask_ok (by assumption)).2.2.2 | trivial) : p := h
theorem ruleText_ok (r : Rule') (h : -1000000 ≤ r.w ∧ r.w ≤ 1000000) (h2 : -1000000 ≤ r.n ∧ r.n ≤ 1000000) : Does Tryz.prog 141 [.agg (ruC r)] [] (.one (str (rulT r))) [] := by
  have d1 := dec_le (n := r.w) (by omega) (by omega)
  have d2 := dec_le (n := r.n) (by omega) (by omega)
  have e1 : ((decT r.w ++ [76]).length : Int) = (decT r.w).length + 1 := by simp
  have e2 : ((decT r.w ++ [82]).length : Int) = (decT r.w).length + 1 := by simp
  by_cases hr : r = ⟨0,0,-1⟩
  · have e : rulT r = [45,45,45] := by unfold rulT; rw [if_pos hr]
    rw [e]
    refine does_of (k := 0) Tryz.func141 rfl Tryz.ntmps141 rfl rfl fun w F0 S0 ρ0 => ?_
    dsimp only [argT,argH]
    repeat' first|(apply n3;exact a_new (gb := .bx _) rfl;exact rfl;refine dA ?_)|(apply p3;(exact pu1);exact rfl)|refine cd ?_|(apply c4 0;exact callK1 (θ := []) (hD := (isRule_ok _));exact rfl;exact rfl;exact rfl;refine dM ?_)|((refine g_cond rfl (fun hc => ?_) (fun hc => ?_)) <;> (try simp only [dcB] at hc) <;> (try first|contradiction|(exfalso;omega)))
    repeat refine cr ?_
    refine ends_id ?_
    refine endK [] (h2 := ?_) (h3 := ?_) (nd := ?_)
    all_goals (repeat' first|exact ce0|refine ce ?_|refine ce2 ?_ ?_|exact SVLe.refl|refine ceb ?_)
    all_goals first | exact (show nodupB _ = true from rfl) | exact Or.inr rfl | (rfl)
  by_cases hm : r.m < 0
  · have e : rulT r = decT r.w ++ [76] ++ decT r.n := by unfold rulT; rw [if_neg hr,if_pos hm]
    rw [e]
    refine does_of (k := 0) Tryz.func141 rfl Tryz.ntmps141 rfl rfl fun w F0 S0 ρ0 => ?_
    dsimp only [argT,argH]
    repeat' first|(apply n3;exact a_new (gb := .bx _) rfl;exact rfl;refine dA ?_)|(apply p3;(first|exact pu1|exact puC);exact rfl)|refine cd ?_|(apply c4 0;exact callK1 (θ := []) (hD := (isRule_ok _));exact rfl;exact rfl;exact rfl;refine dM ?_)|(apply g_drN (id := 6) okM [[],[0],[0,1],[],[0,1,2,3],[],[5],[0,1,2,5,6],[0,1,2,3,4,5,6,7],[0,1,2,3,4,5,6,7,8]] [([],[]),([],[]),([],[]),([],[]),([],[]),([],[]),([],[]),([],[]),([],[]),([],[])] 0;(focus (refine dp 0 0 [13,15,16] [] (a_pure (sv := .one _) rfl) ?_;refine dp 1 1 [13,15,16] [] puL ?_;refine dp 2 3 [13,15,16] [] (callD1 (n := _) 0 (θ := []) (hD := (Decimal_ok _ preB51 preB51))) ?_;refine dp 3 0 [10,11,12,15,16,17] [] pu1 ?_;refine dp 4 15 [15,16,17] [] (a_addS rfl rfl (by (simp only [List.length_append,List.length_cons,List.length_nil];omega))) ?_;refine dp 5 0 [10,11,12,13,14] [] (a_pure (sv := .one _) rfl) ?_;refine dp 6 1 [10,11,12,13,14] [] puL ?_;refine dp 7 115 [13,14] [] (callD1 (n := _) 0 (θ := []) (hD := (Decimal_ok _ preB51 preB51))) ?_;refine dp 8 255 [] [] (a_addS rfl rfl (by omega)) ?_;refine dp 9 511 [] [] pu1 ?_;(refine d_nil ?_;refine dN ?_)));any_goals kernel_rfl)|((refine g_cond rfl (fun hc => ?_) (fun hc => ?_)) <;> (try simp only [dcB] at hc) <;> (try first|contradiction|(exfalso;omega)))
    repeat refine cr ?_
    refine ends_id ?_
    refine endK [] (h2 := ?_) (h3 := ?_) (nd := ?_)
    all_goals (repeat' first|exact ce0|refine ce ?_|refine ce2 ?_ ?_|exact SVLe.refl|refine ceb ?_)
    all_goals first | exact (show nodupB _ = true from rfl) | exact Or.inr rfl | (rfl)
  · have e : rulT r = decT r.w ++ [82] ++ decT r.n := by unfold rulT; rw [if_neg hr,if_neg hm]
    rw [e]
    refine does_of (k := 0) Tryz.func141 rfl Tryz.ntmps141 rfl rfl fun w F0 S0 ρ0 => ?_
    dsimp only [argT,argH]
    repeat' first|(apply n3;exact a_new (gb := .bx _) rfl;exact rfl;refine dA ?_)|(apply p3;(first|exact pu1|exact puC);exact rfl)|refine cd ?_|(apply c4 0;exact callK1 (θ := []) (hD := (isRule_ok _));exact rfl;exact rfl;exact rfl;refine dM ?_)|(apply g_drN (id := 6) okM [[],[0],[0,1],[],[0,1,2,3],[],[5],[0,1,2,5,6],[0,1,2,3,4,5,6,7],[0,1,2,3,4,5,6,7,8]] [([],[]),([],[]),([],[]),([],[]),([],[]),([],[]),([],[]),([],[]),([],[]),([],[])] 0;(focus (refine dp 0 0 [13,15,16] [] (a_pure (sv := .one _) rfl) ?_;refine dp 1 1 [13,15,16] [] puL ?_;refine dp 2 3 [13,15,16] [] (callD1 (n := _) 0 (θ := []) (hD := (Decimal_ok _ preB51 preB51))) ?_;refine dp 3 0 [10,11,12,15,16,17] [] pu1 ?_;refine dp 4 15 [15,16,17] [] (a_addS rfl rfl (by (simp only [List.length_append,List.length_cons,List.length_nil];omega))) ?_;refine dp 5 0 [10,11,12,13,14] [] (a_pure (sv := .one _) rfl) ?_;refine dp 6 1 [10,11,12,13,14] [] puL ?_;refine dp 7 115 [13,14] [] (callD1 (n := _) 0 (θ := []) (hD := (Decimal_ok _ preB51 preB51))) ?_;refine dp 8 255 [] [] (a_addS rfl rfl (by omega)) ?_;refine dp 9 511 [] [] pu1 ?_;(refine d_nil ?_;refine dN ?_)));any_goals kernel_rfl)|((refine g_cond rfl (fun hc => ?_) (fun hc => ?_)) <;> (try simp only [dcB] at hc) <;> (try first|contradiction|(exfalso;omega)))
    repeat refine cr ?_
    refine ends_id ?_
    refine endK [] (h2 := ?_) (h3 := ?_) (nd := ?_)
    all_goals (repeat' first|exact ce0|refine ce ?_|refine ce2 ?_ ?_|exact SVLe.refl|refine ceb ?_)
    all_goals first | exact (show nodupB _ = true from rfl) | exact Or.inr rfl | (rfl)
@[irreducible] def sepT (sy i : Int) : Bs := if i = 0 then [] else if i % sy = 0 then [59] else [44]
theorem sepT_le (sy i : Int) : ((sepT sy i).length : Int) ≤ 1 := by unfold sepT; split <;> (try split) <;> simp
def macF (sy : Int) : Nat → List Rule' → Bs
  | _,[] => []
  | i,r :: rs => sepT sy i ++ (rulT r ++ macF sy (i + 1) rs)
@[irreducible] def macT (m : Mach) : Bs := macF m.sy 0 m.ru
theorem vMach_ru {m : Mach} (h : vMach m = true) : ∀ (i : Nat) (hi : i < m.ru.length),(-1000000 ≤ (m.ru[i]).w ∧ (m.ru[i]).w ≤ 1000000) ∧ (-1000000 ≤ (m.ru[i]).m ∧ (m.ru[i]).m ≤ 1000000) ∧ (-1000000 ≤ (m.ru[i]).n ∧ (m.ru[i]).n ≤ 1000000) := by
  intro i hi
  have hb := vMach_bd h
  unfold vMach at h
  simp only [Bool.and_eq_true,List.all_eq_true] at h
  have := h.2 _ (List.getElem_mem hi)
  unfold okRule at this
  simp only [decide_eq_true_eq] at this
  rcases this with e | e
  · rw [e]; exact ⟨⟨by decide,by decide⟩,⟨by decide,by decide⟩,⟨by decide,by decide⟩⟩
  · omega
theorem macF_le (sy : Int) : ∀ (rs : List Rule') (i : Nat),(∀ r ∈ rs,RuBd r) → ((macF sy i rs).length : Int) ≤ 64 * rs.length
  | [],i,_ => by simp [macF]
  | r :: rs,i,h => by
    have h1 := sepT_le sy i
    have h2 := rulT_le (h r (by simp))
    have h3 := macF_le sy rs (i + 1) fun x hx => h x (by simp [hx])
    simp only [macF,List.length_append,List.length_cons]
    omega
theorem vMach_rb {m : Mach} (h : vMach m = true) : ∀ r ∈ m.ru,RuBd r := by
  intro r hr
  obtain ⟨i,hi,rfl⟩ := List.getElem_of_mem hr
  exact vMach_ru h i hi
theorem macT_le {m : Mach} (h : vMach m = true) : ((macT m).length : Int) ≤ 384000 := by
  have h1 := macF_le m.sy m.ru 0 (vMach_rb h)
  have h2 := vMach_bd h
  have h3 : m.sy * m.st ≤ 6 * 1000 := Int.mul_le_mul (by omega) (by omega) (by omega) (by omega)
  unfold macT
  omega
end Go.Proofs.YtighjcjmacajoaaGreatDoor
end
section
set_option linter.unusedVariables false
set_option linter.unusedSimpArgs false
set_option maxRecDepth 100000
namespace Go.Proofs.YtighjcjmacajoaaGreatDoor
open Go Foot
section
variable {P : Program} {g : Gh} {dst : Option Tmp} {ty : TypeId} {pos : String} {after : Array Edge} {guard : Option (Nat × Bool)} {st : St} {x y : Operand}
theorem run_slice3 {w : World} {T z len cap l u : Nat} {ad : Option Addr} {lo hi mx : Value} (hT : sliceB P T z = true) (hlo : ∃ k,lo = .int k l) (hhi : ∃ k,hi = .int k u) (hmx : ∃ k,mx = .int k u) (h1 : l ≤ u) (h2 : u ≤ len) (h3 : len ≤ cap) :
    (Instr.sliceAt T (.slice ad len cap) (some lo) (some hi) (some mx)).run P w = .ok (.slice (if u = l then ad else ad.map (·.add (l * z))) (u - l) (u - l)) w := by
  unfold sliceB at hT
  split at hT
  · rename_i e hu
    split at hT
    · rename_i i hi'
      have hs := Nat.eq_of_beq_eq_true hT
      subst hs
      have a1 : (u : Int) ≤ cap := by omega
      have a2 : (l : Int) ≤ u := by omega
      have b1 : u ≤ cap := by omega
      obtain ⟨k,rfl⟩ := hlo
      obtain ⟨k',rfl⟩ := hhi
      obtain ⟨k'',rfl⟩ := hmx
      simp [Instr.sliceAt,run_underlying hu,Instr.slice,Instr.sliceBounds,Instr.sliceBound,asIntOf,sizeOf,typeInfo,hi',a1,a2,b1,h1]
    · cases hT
  · cases hT
theorem a_slice_imm3 {T zz l u : Nat} {c : C} {row es : List D} {lo hi mx : Operand} (hc : opd st x = .one c) (hs : shv st c = some (zz,row)) (hlo : bndOk st 0 (some lo) l) (hhi : bndOk st (cnt zz row) (some hi) u) (hmx : bndOk st (cnt zz row) (some mx) u) (hT : sliceB P T zz = true) (h1 : l ≤ u) (h2 : u ≤ cnt zz row) (he : (row.drop (l * zz)).take ((u - l) * zz) = es) :
    Acts P g ⟨dst,.slice T x (some lo) (some hi) (some mx),ty,pos,after,guard⟩ st (.one (.d (.sl false zz es))) [] [] := by
  subst he
  refine acts_of fun a w S ρ F h => ?_
  have hx1 := h.shv (opd_one h hc) hs
  obtain ⟨ad,len,cap,hv,hlr,hz,hlc,hcn⟩ := sl_len hx1
  simp only [RepS,RepC,Rep,Bool.false_eq_true,if_false] at hx1 ⊢
  obtain ⟨ad',len',cap',he,hlr',hz',hlc',h2'⟩ := hx1
  rw [hv] at he
  simp only [Value.slice.injEq] at he
  obtain ⟨e1,e2,e3⟩ := he
  subst e1 e2 e3
  rw [hcn] at hhi hmx h2
  have hm : (u - l) * zz + l * zz = u * zz := by rw [← Nat.add_mul]; congr 1; omega
  have hm2 : u * zz ≤ row.length := by rw [hlr]; exact Nat.mul_le_mul_right _ h2
  have ev : ∀ {d n : Nat} {z : Operand},bndOk st d (some z) n → ∃ k,a.eval z = .int k n := fun {d n z} hb => by
    rcases bnd_eval h hb with ⟨e,_⟩ | ⟨k,e⟩
    · cases e
    · exact ⟨k,by simpa using e⟩
  refine ⟨.slice (if u = l then ad else ad.map (·.add (l * zz))) (u - l) (u - l),?_,⟨_,u - l,u - l,rfl,?_,hz,by omega,?_⟩⟩
  · show (do pure (.value (← Instr.sliceAt T (a.eval x) ((some lo).map a.eval) ((some hi).map a.eval) ((some mx).map a.eval))) : Sem Next).run P w = _
    rw [hv]
    have := run_slice3 (P := P) (w := w) (ad := ad) (cap := cap) hT (ev hlo) (ev hhi) (ev hmx) h1 h2 hlc
    simp only [Option.map_some,Sem.run_bind,this]
    rfl
  · simp only [List.length_take,List.length_drop]; omega
  · rcases h2' with ⟨rfl,_⟩ | ⟨b,of0,vs,G,rfl,hl,hrs,hle,rfl⟩
    · exact .inl ⟨by omega,fun h => by cases h⟩
    · refine .inr ?_
      split
      · rename_i hcl
        have hul : u - l = 0 := by omega
        refine ⟨b,of0,[],no,rfl,fun i v hv => by simp at hv,?_,?_,rfl⟩
        · rw [hul]; simp [Reps]
        · rw [hul]; simp only [Nat.zero_mul,List.take_zero,List.length_nil]; rintro b' o' ⟨_,e1,e2⟩; omega
      · refine ⟨b,of0 + l * zz,(vs.drop (l * zz)).take ((u - l) * zz),no,by simp [addr_add],(hl.drop _).take _,(hrs.drop _).take _,?_,rfl⟩
        rintro b' o' ⟨rfl,e1,e2⟩
        simp only [List.length_take,List.length_drop] at e2
        exact hle _ _ ⟨rfl,by omega,by omega⟩
theorem a_slX {α : Type} {E : Enc α} {l : List α} {lo hi mx : Operand} {T zz : Nat} {c : C} {a b : Int} (hc : opd st x = .one c) (hs : shv st c = some (zz,rows E l)) (hlo : opd st lo = .one (int a)) (hhi : opd st hi = .one (int b)) (hmx : opd st mx = .one (int b)) (hT : sliceB P T zz = true) (h0 : 0 ≤ a) (h1 : a ≤ b) (h2 : b ≤ l.length) (hz : E.z = zz) :
    Acts P g ⟨dst,.slice T x (some lo) (some hi) (some mx),ty,pos,after,guard⟩ st (.one (.d (.sl false zz (rows E ((l.drop a.toNat).take (b.toNat - a.toNat)))))) [] [] := by
  subst hz
  exact a_slice_imm3 hc hs (bnd_i hlo h0) (bnd_i hhi (by omega)) (bnd_i hmx (by omega)) hT (by omega) (by rw [cnt_rows']; omega) (sl_mid E l _ _)
end
end Go.Proofs.YtighjcjmacajoaaGreatDoor
end
section
set_option linter.unusedVariables false
set_option linter.unusedSimpArgs false
set_option maxRecDepth 100000
set_option maxHeartbeats 4000000
namespace Go.Proofs.YtighjcjmacajoaaGreatDoor
open Go Foot
def jf (sep : Bs) : Nat → List Bs → Bs
  | _,[] => []
  | i,b :: r => (if i = 0 then [] else sep) ++ (b ++ jf sep (i + 1) r)
theorem jf_s (sep : Bs) : ∀ (l : List Bs) (i : Nat),jf sep (i + 1) l = Lib.joinTail sep l
  | [],i => by simp [jf,Lib.joinTail]
  | b :: r,i => by
    have := jf_s sep r (i + 1)
    simp only [Lib.joinTail,List.map_cons,List.flatten_cons,jf] at this ⊢
    rw [this,if_neg (by omega)]
    simp
theorem jf_0 (sep : Bs) (l : List Bs) : jf sep 0 l = joinT l sep := by
  unfold joinT
  cases l with
  | nil => rfl
  | cons b r => rw [Lib.join_cons,jf,jf_s]; simp
theorem jt_le {sep : Bs} {k : Nat} : ∀ {l : List Bs},(∀ b ∈ l,b.length ≤ k) → (Lib.joinTail sep l).length ≤ (k + sep.length) * l.length
  | [],_ => by simp [Lib.joinTail]
  | b :: r,h => by
    have h1 := jt_le (sep := sep) (k := k) (l := r) fun x hx => h x (by simp [hx])
    have h2 := h b (by simp)
    simp only [Lib.joinTail,List.map_cons,List.flatten_cons,List.length_append,List.length_cons] at h1 ⊢
    rw [Nat.mul_succ]
    omega
theorem joinT_le {sep : Bs} {k : Nat} {l : List Bs} (h : ∀ b ∈ l,b.length ≤ k) : (joinT l sep).length ≤ (k + sep.length) * l.length := by
  unfold joinT
  cases l with
  | nil => simp [Lib.join_nil]
  | cons b r =>
    rw [Lib.join_cons,List.length_append,List.length_cons,Nat.mul_succ]
    have h1 := jt_le (sep := sep) (k := k) (l := r) fun x hx => h x (by simp [hx])
    have h2 := h b (by simp)
    omega
def chs {α : Type} (n : Nat) (l : List α) : List (List α) := if h : l.length = 0 ∨ n = 0 then [] else l.take n :: chs n (l.drop n)
termination_by l.length
decreasing_by rw [List.length_drop]; omega
theorem chs_0 {α : Type} (n : Nat) {l : List α} (h : l.length = 0) : chs n l = [] := by rw [chs]; simp [h]
theorem chs_s {α : Type} {n : Nat} {l : List α} (hn : n ≠ 0) (h : l.length ≠ 0) : chs n l = l.take n :: chs n (l.drop n) := by rw [chs]; simp [h,hn]
@[irreducible] def chT (a : List Rule') : Bs := joinT (a.map rulT) [44]
theorem mac_chunk {sy : Nat} : ∀ (c rest : List Rule') (q j : Nat),0 < j → j + c.length ≤ sy → macF sy (q * sy + j) (c ++ rest) = Lib.joinTail [44] (c.map rulT) ++ macF sy (q * sy + j + c.length) rest
  | [],rest,q,j,h0,h => by simp [Lib.joinTail]
  | r :: c,rest,q,j,h0,h => by
    simp only [List.length_cons] at h
    have e : sepT sy ((q * sy + j : Nat) : Int) = [44] := by
      have h2 : (q * sy + j) % sy = j := by have := Nat.mul_add_mod sy q j; rw [Nat.mul_comm,this]; exact Nat.mod_eq_of_lt (by omega)
      unfold sepT
      have h3 : ((q * sy + j : Nat) : Int) ≠ 0 := by omega
      have h4 : ((q * sy + j : Nat) : Int) % (sy : Int) ≠ 0 := by rw [← Int.natCast_emod,h2]; omega
      rw [if_neg h3,if_neg h4]
    have := mac_chunk (sy := sy) c rest q (j + 1) (by omega) (by omega)
    rw [List.cons_append,macF,e,Nat.add_assoc (q * sy) j 1,this,List.length_cons,show q * sy + j + (c.length + 1) = q * sy + (j + 1) + c.length by omega]
    simp [Lib.joinTail]
theorem chs_mac {sy : Nat} (hs : sy ≠ 0) (n : Nat) : ∀ (l : List Rule') (q : Nat),l.length ≤ n → macF sy (q * sy) l = jf [59] q ((chs sy l).map chT) := by
  induction n with
  | zero =>
    intro l q h
    have : l = [] := List.eq_nil_of_length_eq_zero (by omega)
    subst this
    rw [chs_0 _ rfl]; rfl
  | succ n ih =>
    intro l q h
    cases l with
    | nil => rw [chs_0 _ rfl]; rfl
    | cons r rs =>
      obtain ⟨k,rfl⟩ : ∃ k,sy = k + 1 := ⟨sy - 1,by omega⟩
      rw [chs_s hs (by simp),List.take_succ_cons,List.drop_succ_cons,List.map_cons,jf,macF]
      have h1 := mac_chunk (sy := k + 1) (rs.take k) (rs.drop k) q 1 (by omega) (by rw [List.length_take]; omega)
      rw [List.take_append_drop] at h1
      rw [h1]
      have e1 : sepT ((k + 1 : Nat) : Int) ((q * (k + 1) : Nat) : Int) = if q = 0 then [] else [59] := by
        unfold sepT
        by_cases hq : q = 0
        · subst hq; simp
        · rw [if_neg hq,if_neg,if_pos]
          · rw [← Int.natCast_emod,Nat.mul_mod_left]; rfl
          · have : 0 < q * (k + 1) := Nat.mul_pos (by omega) (by omega)
            omega
      have e2 : chT (r :: rs.take k) = rulT r ++ Lib.joinTail [44] ((rs.take k).map rulT) := by
        unfold chT joinT
        rw [List.map_cons,Lib.join_cons]
      have e3 : macF ((k + 1 : Nat) : Int) (q * (k + 1) + 1 + (rs.take k).length) (rs.drop k) = jf [59] (q + 1) ((chs (k + 1) (rs.drop k)).map chT) := by
        by_cases hr : rs.length ≤ k
        · rw [List.drop_eq_nil_of_le hr,chs_0 _ rfl]; rfl
        · rw [show q * (k + 1) + 1 + (rs.take k).length = (q + 1) * (k + 1) by rw [List.length_take,Nat.min_eq_left (by omega),Nat.succ_mul]; omega]
          exact ih _ _ (by rw [List.length_drop]; simp only [List.length_cons] at h; omega)
      rw [e1,e2,e3]
      simp only [List.append_assoc]
theorem macT_eq {m : Mach} (h : 1 ≤ m.sy) : macT m = joinT ((chs m.sy.toNat m.ru).map chT) [59] := by
  have := chs_mac (sy := m.sy.toNat) (by omega) m.ru.length m.ru 0 (Nat.le_refl _)
  rw [jf_0,Nat.zero_mul,show ((m.sy.toNat : Nat) : Int) = m.sy by omega] at this
  unfold macT
  exact this
theorem chT_le {a : List Rule'} (h : ∀ r ∈ a,RuBd r) : ((chT a).length : Int) ≤ 44 * a.length := by
  unfold chT
  have := joinT_le (sep := [44]) (k := 43) (l := a.map rulT) fun b hb => by
    obtain ⟨r,hr,rfl⟩ := List.mem_map.1 hb
    have := rulT_le (h r hr)
    omega
  simp only [List.length_map,List.length_cons,List.length_nil] at this
  omega
end Go.Proofs.YtighjcjmacajoaaGreatDoor
end
section
set_option linter.unusedVariables false
set_option linter.unusedSimpArgs false
set_option maxRecDepth 100000
set_option maxHeartbeats 4000000
namespace Go.Proofs.YtighjcjmacajoaaGreatDoor
open Go Foot
theorem preB53 {p : Prop} (h : p := by first | with_reducible assumption | omega | (simp only [List.length_append,List.length_cons,List.length_nil,List.length_set,List.length_replicate,List.length_take,List.length_drop,List.length_tail,List.length_dropLast,List.length_reverse] at *; omega) | exact mem_len (by assumption) (by omega) | (with_reducible refine Int.le_trans (Int.ofNat_le.2 (trimR_len _)) ?_; simp only [List.length_cons,List.length_tail]; omega) | (exact (ruAt_ok (by assumption) (by assumption) (by assumption)).2.1) | (exact (ruAt_ok (by assumption) (by assumption) (by assumption)).2.1) | (have := vMach_bd (by assumption); omega) | (simp only [mC_ch,mC_tu]; omega) | (have := vTag_bd (by assumption); omega) | (have := (‹Gd _ _›).le; omega) | (exact tgHalts_no (by assumption)) | (exact tgHead (by assumption) (by assumption) (by assumption)) | (exact Int.le_trans (tgStep_gd (by assumption) (by assumption) (by assumption) (by assumption)).le (by decide)) | (exact vTag_r (by assumption)) | (with_reducible refine Int.le_trans (Int.ofNat_le.2 (pushL_len _ _)) ?_; simp only [List.length_dropLast]; omega) | exact (ask_ok (by assumption)).1 | exact (ask_ok (by assumption)).2.1 | exact (ask_ok (by assumption)).2.2.1 | exact (ask_ok (by assumption)).2.2.2 | trivial) : p := h
theorem chunk_ok (ru : List Rule') (n : Int) (h1 : 1 ≤ n) : Does Tryz.prog 140 [.one (shR ru),.one (int n)] [] (.one (.fn (.func 198) [.gv 0,.gv 1])) [.bx [shR ru],.bx [int n]] := by
  refine does_of (k := 0) Tryz.func140 rfl Tryz.ntmps140 rfl rfl fun w F0 S0 ρ0 => ?_
  dsimp only [argT,argH]
  repeat' first|(apply n3;exact a_new (gb := .bx _) rfl;exact rfl;refine dA ?_)|(apply p3;(first|exact pu1|exact puC);exact rfl)|refine cd ?_|((refine g_cond rfl (fun hc => ?_) (fun hc => ?_)) <;> (try simp only [dcB] at hc) <;> (try first|contradiction|(exfalso;omega)))
  repeat refine cr ?_
  refine ends_id ?_
  refine endK [?_,?_] (h2 := ?_) (h3 := ?_) (nd := ?_)
  rotate_left 2
  all_goals (repeat' first|exact ce0|refine ce ?_|refine ce2 ?_ ?_|(refine Or.inr (bx_eq rfl rfl ?_);(try dsimp only [C.ren,C.ren.all]);(try exact rfl))|exact SVLe.refl|refine ceb ?_)
  all_goals first | exact (show nodupB _ = true from rfl) | exact Or.inr rfl | (rfl)
structure ChPre (x : List Bs) (a : List Rule') : Prop where
  xl : (x.length : Int) ≤ 6000
  al : (a.length : Int) ≤ 6000
  ab : ∀ r ∈ a,RuBd r
@[irreducible] def chX (n : Int) (ru : List Rule') : List Bs := (chs n.toNat ru).map chT
theorem chX_0 {n : Int} {ru : List Rule'} {i : Int} (h : ¬ i < ru.length) : chX n (ru.drop i.toNat) = [] := by
  unfold chX
  rw [chs_0 _ (by rw [List.length_drop]; omega)]; rfl
theorem chX_s {n i : Int} {ru : List Rule'} (h1 : 1 ≤ n) (h0 : 0 ≤ i) (h : i < ru.length) : chX n (ru.drop i.toNat) = chT ((ru.drop i.toNat).take n.toNat) :: chX n (ru.drop (i + n).toNat) := by
  unfold chX
  rw [chs_s (by omega) (by rw [List.length_drop]; omega),List.map_cons,List.drop_drop,show i.toNat + n.toNat = (i + n).toNat by omega]
theorem map_take_s {α β : Type} (f : α → β) {l : List α} {i : Int} (h0 : 0 ≤ i) (h : i < l.length) : (l.take i.toNat).map f ++ [f (l[i.toNat]'(by omega))] = (l.take (i + 1).toNat).map f := by
  rw [show (i + 1).toNat = i.toNat + 1 by omega,List.take_succ_eq_append_getElem (by omega),List.map_append]
  rfl
theorem chX_le {n : Int} (h1 : 1 ≤ n) : ∀ (k : Nat) (ru : List Rule'),ru.length ≤ k → (chX n ru).length ≤ ru.length
  | 0,ru,h => by
    unfold chX
    rw [chs_0 _ (by omega)]; simp
  | k + 1,ru,h => by
    by_cases h0 : ru.length = 0
    · unfold chX
      rw [chs_0 _ h0]; simp
    · have := chX_le h1 k (ru.drop n.toNat) (by rw [List.length_drop]; omega)
      unfold chX at this ⊢
      rw [chs_s (by omega) h0,List.map_cons,List.length_cons]
      rw [List.length_drop] at this
      omega
theorem ch_take {n i : Int} {ru : List Rule'} (h1 : 1 ≤ n) (h0 : 0 ≤ i) (h : i < ru.length) : ∃ z : Int,(if ((ru.drop i.toNat).length : Int) < n then ((ru.drop i.toNat).length : Int) else n) = z ∧ 0 ≤ z ∧ z ≤ n ∧ i + z ≤ ru.length ∧ (ru.drop i.toNat).take ((i + z).toNat - i.toNat) = (ru.drop i.toNat).take n.toNat := by
  have hl : (ru.drop i.toNat).length = ru.length - i.toNat := List.length_drop
  by_cases hn : ((ru.drop i.toNat).length : Int) < n
  · refine ⟨_,if_pos hn,by omega,by omega,by omega,?_⟩
    rw [List.take_of_length_le (by omega),List.take_of_length_le (by omega)]
  · refine ⟨_,if_neg hn,by omega,by omega,by omega,?_⟩
    congr 1; omega
theorem chunkIt_ok (ru : List Rule') (n : Int) (l : Nat) (R : List Bs → Option Code → Opq) (h1 : 1 ≤ n) (hn : n ≤ 1000) (hl : (ru.length : Int) ≤ 6000) (hR : ∀ r ∈ ru,RuBd r) (hY : ∀ x a,ChPre x a → DoesW (YC Tryz.prog l) [.one (shR a)] [.opq (R x none) []] (.one (boo true)) [.opq (R (x ++ [chT a]) none) []]) : Does Tryz.prog 198 [.one (.d (.fn (.yield l) [])),.one (.gv 1),.one (.gv 2)] [.opq (R [] none) [],.bx [shR ru],.bx [int n]] (.tup []) [.opq (R (chX n ru) none) [],.bx [shR ru],.bx [int n]] := by
  refine does_of (k := 3) Tryz.func198 rfl Tryz.ntmps198 rfl rfl fun w F0 S0 ρ0 => ?_
  dsimp only [argT,argH]
  repeat' first|(apply p3;(exact pu1);exact rfl)|refine cd ?_
  refine g_loop_id ?_
  refine loopK [0,1,2] [0] (fun y : List Bs × Int => 0 ≤ y.2 ∧ (y.1.length : Int) ≤ y.2 ∧ (y.1.length : Int) ≤ 6000 ∧ y.1 ++ chX n (ru.drop y.2.toNat) = chX n ru) (fun y => [(4,.one (int y.2))]) (fun y => [(0,.opq (R y.1 none) [])]) (fun y => (ru.length - y.2).toNat) ([],(0 : Int)) [0,1,2] (hI := ?_) (hr := ?_)
  · exact ⟨by simp,by simp,by simp,by simp⟩
  · rintro ⟨x,i⟩ ⟨k1,k2,k3,k4⟩
    dsimp only [List.cons_append,List.nil_append] at *
    skip
    repeat' first|(apply p3;(first|exact pu1|exact puN|exact puC);exact rfl)|refine cdn ?_|refine g_reg (id := 1) ?_|(apply g_drN (id := 3) okM [[],[],[],[1,2],[1,2,3],[0,1,2,3,4],[0,1,2,3,4,5]] [([],[]),([],[]),([],[]),([],[]),([],[]),([],[]),([],[])] 0;(focus (refine dp 0 0 [14,15,16,17] [] puL ?_;refine dp 1 0 [13,15] [] puL ?_;refine dp 2 0 [13,14] [] pu1 ?_;refine dp 3 3 [13] [] (by exact a_slT rfl rfl rfl (fS rfl) (by omega) (by omega) (by exact rfl)) ?_;refine dp 4 7 [13] [] (by exact puN) ?_;refine dp 5 31 [] [] (a_min rfl rfl) ?_;refine dp 6 63 [] [] pu1 ?_;(refine d_nil ?_;refine dN ?_)));any_goals kernel_rfl)|((refine g_cond rfl (fun hc => ?_) (fun hc => ?_)) <;> (try simp only [dcB] at hc) <;> (try first|contradiction|(exfalso;omega)))
    · obtain ⟨z,ez,z0,z1,z2,e⟩ := ch_take (n := n) h1 k1 hc
      have hp : ChPre x ((ru.drop i.toNat).take ((i + z).toNat - i.toNat)) := ⟨k3,by rw [List.length_take,List.length_drop]; omega,fun r hr => hR r (List.mem_of_mem_drop (List.mem_of_mem_take hr))⟩
      rw [ez]
      repeat' first|(apply p3;(first|exact pu1|exact a_add rfl rfl (by omega) (by omega)|exact a_slX rfl rfl rfl rfl rfl (fS rfl) (by omega) bnd bnd (by exact rfl));exact rfl)|refine cd ?_|(apply c4 0;exact callY (θ := [0]) (hD := (hY _ _ (by assumption)));exact rfl;exact rfl;exact rfl;refine dM ?_)
      rw [e]
      refine q_again (x ++ [chT ((ru.drop i.toNat).take n.toNat)],i + n) [0,1,2] (by exact stk) ?_ ?_
      · dsimp only
        refine ⟨by omega,?_,?_,?_⟩
        · rw [List.length_append,List.length_cons,List.length_nil]; omega
        · rw [List.length_append,List.length_cons,List.length_nil]; omega
        · rw [← k4,chX_s h1 k1 hc]; simp
      · dsimp only; omega
    · have e : x = chX n ru := by rw [← k4,chX_0 hc,List.append_nil]
      rw [← e]
      repeat refine cr ?_
      refine ends_id ?_
      refine endK [] (h2 := ?_) (h3 := ?_) (nd := ?_)
      all_goals (repeat' first|exact ce0|refine ce ?_|refine ce2 ?_ ?_|(refine Or.inr (bx_eq rfl rfl ?_);(try dsimp only [C.ren,C.ren.all]);(try exact rfl))|exact SVLe.refl|refine ceb ?_)
      all_goals first | exact (show nodupB _ = true from rfl) | exact Or.inr rfl | (rfl)
theorem MachineText_ok (m : Mach) (hm : vMach m = true) : Does Tryz.prog 74 [.agg (maC m)] [] (.one (str (macT m))) [] := by
  have hb := vMach_bd hm
  have hR := vMach_rb hm
  have h3 : m.sy * m.st ≤ 6 * 1000 := Int.mul_le_mul (by omega) (by omega) (by omega) (by omega)
  have hl : (m.ru.length : Int) ≤ 6000 := by omega
  have hT := macT_eq (m := m) (by omega)
  have hX : (chs m.sy.toNat m.ru).map chT = chX m.sy m.ru := by unfold chX; rfl
  rw [hX] at hT
  have hj := macT_le hm
  have hx := chX_le (n := m.sy) (by omega) m.ru.length m.ru (Nat.le_refl _)
  rw [hT] at hj ⊢
  refine does_of (k := 0) Tryz.func74 rfl Tryz.ntmps74 rfl rfl fun w F0 S0 ρ0 => ?_
  dsimp only [argT,argH]
  repeat' first|(apply n3;(first|exact a_new (gb := .bx _) rfl|exact a_litE eS [] rfl rfl rfl rfl rfl rfl rfl rfl);exact rfl;refine dA ?_)|(apply p3;(exact pu1);exact rfl)|refine cd ?_|(apply w3;(exact a_st_bx rfl rfl rfl rfl (fN rfl rfl) (Nat.le_of_ble_eq_true rfl) rfl);exact rfl;refine dS ?_)|(apply c4 0;exact callK1 (θ := []) (hD := (ValidMachine_ok _ preB53));exact rfl;exact rfl;exact rfl;refine dM ?_)|(apply c4 2;exact callK0 (θ := []) (hD := (chunk_ok _ _ preB53));exact rfl;exact rfl;exact rfl;refine dM ?_)|((refine g_cond rfl (fun hc => ?_) (fun hc => ?_)) <;> (try simp only [dcB] at hc) <;> (try first|contradiction|(exfalso;omega)))
  · rw [hm] at hc; cases hc
  refine g_conv (t_mvB (i := 1) (j := 2) (k := 0) rfl rfl rfl rfl rfl rfl) ?_
  try dsimp only [setRow,List.map_cons,List.map_nil,scC,List.set_cons_zero,List.set_cons_succ]
  refine rangeK [2,3,16] [2,5] (fun x : List Bs => [(5,.row 1 (rows eS x)),(2,.bx [.gv 5])]) [0,1,2,3,4,5] 5 5 [3,4] [] [] [] [] (fun a : List Rule' => [.one (shR a)]) (fun _ => []) (fun x a => (x ++ [chT a],none)) ChPre [] (n1 := 6) (hD := fun l R hY => chunkIt_ok m.ru m.sy l R (by omega) (by omega) hl hR hY) (hr := ?_) (hn := ?_) (hs := ?_)
  · rintro x a ⟨k0,k1,k2⟩ lp0 w0 F0 S0 ρ0 rc0
    dsimp only [parT,upOf,deadR,thN,List.map_cons,List.map_nil,SV.ren,List.cons_append,List.nil_append,GB.ren,C.ren,C.ren.all,Nat.reduceAdd] at *
    repeat' first|refine g_reg ?_|(apply p3;(exact a_pure (sv := .one _) rfl);exact rfl)|refine o_nil ?_|refine qAsg.go rfl ?_
    dsimp only
    repeat' first|(apply n3;(exact a_litE eS [] rfl rfl rfl rfl rfl rfl rfl rfl);exact rfl;refine dA ?_)|(apply p3;(first|exact pu1|exact puN);exact rfl)|refine cd ?_
    refine g_loop_id ?_
    refine loopK [2,3,5,19,20] [7] (fun y : Int × List Bs => 0 ≤ y.1 ∧ y.1 ≤ a.length ∧ y.2 = (a.take y.1.toNat).map rulT) (fun y => [(21,.one (int y.1))]) (fun y => [(7,.row 1 (rows eS y.2))]) (fun y => (a.length - y.1).toNat) ((0 : Int),[]) [0,1,2,3,4,5,6,7] (hI := ?_) (hr := ?_)
    · exact ⟨by simp,by simp,by simp⟩
    · rintro ⟨i,ts⟩ ⟨j0,j1,j2⟩
      dsimp only [List.cons_append,List.nil_append] at *
      skip
      have jl : (ts.length : Int) ≤ 6000 := by rw [j2,List.length_map,List.length_take]; omega
      repeat' first|(apply n3;exact a_new (gb := .bx _) rfl;exact rfl;refine dA ?_)|(apply p3;(first|exact pu1|exact puC|exact puI);exact rfl)|refine cdn ?_|refine g_reg (id := 8) ?_|refine g_reg (id := 9) ?_|(apply w3;(exact a_st_bx rfl rfl rfl rfl (fN rfl rfl) (Nat.le_of_ble_eq_true rfl) rfl);exact rfl;refine dS ?_)|((refine g_cond rfl (fun hc => ?_) (fun hc => ?_)) <;> (try simp only [dcB] at hc) <;> (try first|contradiction|(exfalso;omega)))
      · obtain ⟨w1,w2,w3⟩ : RuBd (a[i.toNat]'(by omega)) := k2 _ (List.getElem_mem _)
        repeat' first|(apply n3;(exact a_litE eS [_] rfl rfl rfl rfl rfl rfl rfl rfl);exact rfl;refine dA ?_)|(apply p3;(first|exact pu1|exact a_add rfl rfl (by omega) (by omega));exact rfl)|refine cd ?_|(apply s3;exact a_appE (fP rfl) rfl rfl rfl rfl nowR (by (simp;omega)) (by decide) (by decide) (by exact rfl);exact rfl;exact rfl)|(apply c4 0;exact callK1 (θ := []) (hD := (ruleText_ok _ preB53 preB53));exact rfl;exact rfl;exact rfl;refine dM ?_)
        refine q_again (i + 1,_) [0,1,2,3,4,5,6,10] (by exact stk) ?_ ?_
        · dsimp only
          exact ⟨by omega,by omega,by rw [j2,map_take_s rulT j0 hc]⟩
        · dsimp only; omega
      · have e : ts = a.map rulT := by rw [j2,List.take_of_length_le (by omega)]
        have e2 : joinT (a.map rulT) [44] = chT a := by unfold chT; rfl
        have e3 := chT_le k2
        rw [← e2,← e] at e3
        repeat' first|refine cd ?_|(apply g_drN (id := 12) okM [[],[],[1],[1,2],[0,1,2,3],[0,1,2,3,4]] [([],[]),([],[]),([],[]),([0],[]),([1],[5]),([],[2])] 2;(focus (refine dp 0 0 [32,33,34] [(true,0)] puL ?_;refine dp 1 0 [31] [] pu1 ?_;refine dp 2 1 [31] [] (callD1 (n := _) 0 (θ := []) (hD := (Join_ok _ _ preB53 preB53))) ?_;refine duE 3 3 [31] [] (atN 0 (fun _ => a_litE eS [_] rfl rfl rfl rfl rfl rfl rfl rfl)) (by exact rfl) (by exact rfl) ?_;refine duE 4 15 [] [] (atS 1 (fun _ hj => a_appE (fP rfl) rfl rfl rfl rfl nowR (by (simp;omega)) (by decide) hj (by exact rfl)) (by decide)) (by exact rfl) (by exact rfl) ?_;refine duE 5 31 [] [] (by exact a_st_bx rfl rfl rfl rfl (fN rfl rfl) (Nat.le_of_ble_eq_true rfl) rfl) (by exact rfl) (by exact rfl) ?_;(refine d_nil ?_;refine dN ?_)));any_goals kernel_rfl)
        rw [e,e2]
        refine q_next (x ++ [chT a]) [0,1,2,3,4,9,6] (by exact stk) ?_
        rfl
  · rintro hj2
    dsimp only [upOf,deadR,calF,List.cons_append,List.nil_append,GB.ren,C.ren,C.ren.all,List.length_cons,List.length_nil,Nat.reduceAdd,Nat.reduceSub] at *
    skip
    repeat' first|(apply p3;(exact pu1);exact rfl)|refine cd ?_|(apply c4 0;exact callK1 (θ := []) (hD := (Join_ok _ _ preB53 preB53));exact rfl;exact rfl;exact rfl;refine dM ?_)
    skip
    repeat refine cr ?_
    refine ends_id ?_
    refine endK [] (h2 := ?_) (h3 := ?_) (nd := ?_)
    all_goals (repeat' first|exact ce0|refine ce ?_|refine ce2 ?_ ?_|exact SVLe.refl|refine ceb ?_)
    all_goals first | exact (show nodupB _ = true from rfl) | exact Or.inr rfl | (rfl)
  · intro _ h; cases h
end Go.Proofs.YtighjcjmacajoaaGreatDoor
end
section
set_option linter.unusedVariables false
set_option linter.unusedSimpArgs false
set_option maxRecDepth 100000
set_option maxHeartbeats 4000000
namespace Go.Proofs.YtighjcjmacajoaaGreatDoor
open Go Foot
theorem preB54 {p : Prop} (h : p := by first | with_reducible assumption | omega | (simp only [List.length_append,List.length_cons,List.length_nil,List.length_set,List.length_replicate,List.length_take,List.length_drop,List.length_tail,List.length_dropLast,List.length_reverse] at *; omega) | exact mem_len (by assumption) (by omega) | (with_reducible refine Int.le_trans (Int.ofNat_le.2 (trimR_len _)) ?_; simp only [List.length_cons,List.length_tail]; omega) | (exact (ruAt_ok (by assumption) (by assumption) (by assumption)).2.1) | (exact (ruAt_ok (by assumption) (by assumption) (by assumption)).2.1) | (have := vMach_bd (by assumption); omega) | (simp only [mC_ch,mC_tu]; omega) | (have := vTag_bd (by assumption); omega) | (have := (‹Gd _ _›).le; omega) | (exact tgHalts_no (by assumption)) | (exact tgHead (by assumption) (by assumption) (by assumption)) | (exact Int.le_trans (tgStep_gd (by assumption) (by assumption) (by assumption) (by assumption)).le (by decide)) | (exact vTag_r (by assumption)) | (with_reducible refine Int.le_trans (Int.ofNat_le.2 (pushL_len _ _)) ?_; simp only [List.length_dropLast]; omega) | exact (ask_ok (by assumption)).1 | exact (ask_ok (by assumption)).2.1 | exact (ask_ok (by assumption)).2.2.1 | exact (ask_ok (by assumption)).2.2.2 | trivial) : p := h
theorem decimals_ok (l : List Int) (s : Bs) (hl : (l.length : Int) ≤ 1048576) (hb : ∀ x ∈ l,-1000000000000 ≤ x ∧ x ≤ 1000000000000) (hj : ((joinT (l.map decT) s).length : Int) ≤ 140737488355328) : Does Tryz.prog 122 [.one (shI l),.one (str s)] [] (.one (str (joinT (l.map decT) s))) [] := by
  have hg : ∀ (i : Nat) (h : i < l.length),-1000000000000 ≤ l[i] ∧ l[i] ≤ 1000000000000 := fun i h => hb _ (List.getElem_mem h)
  refine does_of (k := 0) Tryz.func122 rfl Tryz.ntmps122 rfl rfl fun w F0 S0 ρ0 => ?_
  dsimp only [argT,argH]
  repeat' first|(apply n3;(exact a_litE eS [] rfl rfl rfl rfl rfl rfl rfl rfl);exact rfl;refine dA ?_)|(apply p3;(first|exact pu1|exact puN);exact rfl)|refine cd ?_
  refine g_loop_id ?_
  refine loopK [1,4,5,9,10] [0] (fun y : Int × List Bs => 0 ≤ y.1 ∧ y.1 ≤ l.length ∧ y.2 = (l.take y.1.toNat).map decT) (fun y => [(11,.one (int y.1))]) (fun y => [(0,.row 1 (rows eS y.2))]) (fun y => (l.length - y.1).toNat) ((0 : Int),[]) [0] (hI := ?_) (hr := ?_)
  · exact ⟨by simp,by simp,by simp⟩
  · rintro ⟨i,ts⟩ ⟨j0,j1,j2⟩
    dsimp only [List.cons_append,List.nil_append] at *
    skip
    have jl : (ts.length : Int) ≤ 1048576 := by rw [j2,List.length_map,List.length_take]; omega
    repeat' first|(apply p3;(first|exact pu1|exact puC|exact puI);exact rfl)|refine cdn ?_|refine g_reg (id := 3) ?_|refine g_reg (id := 4) ?_|((refine g_cond rfl (fun hc => ?_) (fun hc => ?_)) <;> (try simp only [dcB] at hc) <;> (try first|contradiction|(exfalso;omega)))
    · have := hg i.toNat (by omega)
      repeat' first|(apply n3;(exact a_litE eS [_] rfl rfl rfl rfl rfl rfl rfl rfl);exact rfl;refine dA ?_)|(apply p3;(first|exact pu1|exact a_add rfl rfl (by omega) (by omega));exact rfl)|refine cd ?_|(apply s3;exact a_appE (fP rfl) rfl rfl rfl rfl nowR (by (simp;omega)) (by decide) (by decide) (by exact rfl);exact rfl;exact rfl)|(apply c4 0;exact callK1 (θ := []) (hD := (Decimal_ok _ preB54 preB54));exact rfl;exact rfl;exact rfl;refine dM ?_)
      refine q_again (i + 1,_) [2] (by exact stk) ?_ ?_
      · dsimp only
        exact ⟨by omega,by omega,by rw [j2,map_take_s decT j0 hc]⟩
      · dsimp only; omega
    · have e : ts = l.map decT := by rw [j2,List.take_of_length_le (by omega)]
      rw [← e] at hj ⊢
      repeat' first|(apply p3;(exact pu1);exact rfl)|refine cd ?_|(apply c4 0;exact callK1 (θ := []) (hD := (Join_ok _ _ preB54 preB54));exact rfl;exact rfl;exact rfl;refine dM ?_)
      repeat refine cr ?_
      refine ends_id ?_
      refine endK [] (h2 := ?_) (h3 := ?_) (nd := ?_)
      all_goals (repeat' first|exact ce0|refine ce ?_|refine ce2 ?_ ?_|exact SVLe.refl|refine ceb ?_)
      all_goals first | exact (show nodupB _ = true from rfl) | exact Or.inr rfl | (rfl)
end Go.Proofs.YtighjcjmacajoaaGreatDoor
end
section
set_option linter.unusedVariables false
set_option linter.unusedSimpArgs false
set_option maxRecDepth 100000
set_option maxHeartbeats 4000000
namespace Go.Proofs.YtighjcjmacajoaaGreatDoor
open Go Foot
structure Verd where
  m : Mach
  p : Prf
structure VeGd (v : Verd) : Prop where
  a : (v.m.ru.length : Int) ≤ 16777216
  b : (v.p.nu.length : Int) ≤ 16777216
  c : (v.p.wo.length : Int) ≤ 16777216
  d : ∀ x ∈ v.p.wo,(x.length : Int) ≤ 16777216
end Go.Proofs.YtighjcjmacajoaaGreatDoor
end
section
set_option linter.unusedVariables false
set_option linter.unusedSimpArgs false
set_option maxRecDepth 100000
set_option maxHeartbeats 4000000
namespace Go.Proofs.YtighjcjmacajoaaGreatDoor
open Go Foot
structure LsGd (l : List Verd) : Prop where
  n : (l.length : Int) ≤ 16777216
  a : ∀ v ∈ l,VeGd v
theorem ls_at {l : List Verd} (g : LsGd l) {i : Nat} (h : i < l.length) : VeGd l[i] := g.a _ (List.getElem_mem h)
end Go.Proofs.YtighjcjmacajoaaGreatDoor
end
section
set_option linter.unusedVariables false
set_option linter.unusedSimpArgs false
set_option maxRecDepth 100000
set_option maxHeartbeats 4000000
namespace Go.Proofs.YtighjcjmacajoaaGreatDoor
open Go Foot
end Go.Proofs.YtighjcjmacajoaaGreatDoor
end
section
set_option linter.unusedVariables false
set_option linter.unusedSimpArgs false
set_option maxRecDepth 100000
set_option maxHeartbeats 4000000
namespace Go.Proofs.YtighjcjmacajoaaGreatDoor
open Go Foot
section
variable {m : Mach} {d n a b : Int} {c : Conf} {O : Option (Conf × Int × Int)}
end
end Go.Proofs.YtighjcjmacajoaaGreatDoor
end
section
set_option linter.unusedVariables false
set_option linter.unusedSimpArgs false
set_option maxRecDepth 100000
set_option maxHeartbeats 4000000
namespace Go.Proofs.YtighjcjmacajoaaGreatDoor
open Go Foot
theorem vBlank {m : Mach} (hm : vMach m = true) : vConf m ⟨0,[],[]⟩ = true := by
  have := vMach_bd hm
  exact vConf_mk ⟨⟨by simp,by dsimp only; omega⟩,vSide_mk (by simp) (by simp) (by simp),vSide_mk (by simp) (by simp) (by simp)⟩
end Go.Proofs.YtighjcjmacajoaaGreatDoor
end
section
set_option linter.unusedVariables false
set_option linter.unusedSimpArgs false
set_option maxRecDepth 100000
set_option maxHeartbeats 4000000
namespace Go.Proofs.YtighjcjmacajoaaGreatDoor
open Go Foot
structure ItOut (X : Type) where
  x : X
  j : Option Code
  c : Conf
def itSteps {X : Type} (m : Mach) (bd : X → Conf × Int × Bool → X × Option Code) : Nat → Int → Conf → X → ItOut X
  | k,n,c,x =>
    if (bd x (c,n,true)).2.isSome then ⟨(bd x (c,n,true)).1,(bd x (c,n,true)).2,c⟩ else
    if ruAt m c = noR then ⟨(bd x (c,n,true)).1,none,c⟩ else
    match k with
    | 0 => ⟨(bd x (c,n,true)).1,none,c⟩
    | k + 1 =>
      if roomS (stepS (ruAt m c) c) then itSteps m bd k (n + 1) (stepS (ruAt m c) c) (bd x (c,n,true)).1
      else ⟨(bd (bd x (c,n,true)).1 (stepS (ruAt m c) c,n + 1,false)).1,(bd (bd x (c,n,true)).1 (stepS (ruAt m c) c,n + 1,false)).2,stepS (ruAt m c) c⟩
section
variable {X : Type} {m : Mach} {bd : X → Conf × Int × Bool → X × Option Code} {b n : Int} {c : Conf} {x : X} {O : ItOut X} {k : Nat}
theorem it_out (h : (bd x (c,n,true)).2.isNone = false) (hO : itSteps m bd k n c x = O) : O = ⟨(bd x (c,n,true)).1,(bd x (c,n,true)).2,c⟩ := by
  rw [← hO]; unfold itSteps; rw [if_pos (by cases hh : (bd x (c,n,true)).2 <;> simp_all)]
theorem it_halt (h : (bd x (c,n,true)).2 = none) (hr : ruAt m c = noR) (hO : itSteps m bd k n c x = O) : O = ⟨(bd x (c,n,true)).1,none,c⟩ := by
  rw [← hO]; unfold itSteps; rw [if_neg (by simp [h]),if_pos hr]
theorem it_end (h : (bd x (c,n,true)).2 = none) (hn : ¬ n < b) (hO : itSteps m bd (b - n).toNat n c x = O) : O = ⟨(bd x (c,n,true)).1,none,c⟩ := by
  rw [← hO,show (b - n).toNat = 0 by omega]; unfold itSteps; rw [if_neg (by simp [h])]
  split <;> rfl
theorem it_full (h : (bd x (c,n,true)).2 = none) (hr : ¬ ruAt m c = noR) (hn : n < b) (hf : roomS (stepS (ruAt m c) c) = false) (hO : itSteps m bd (b - n).toNat n c x = O) :
    O = ⟨(bd (bd x (c,n,true)).1 (stepS (ruAt m c) c,n + 1,false)).1,(bd (bd x (c,n,true)).1 (stepS (ruAt m c) c,n + 1,false)).2,stepS (ruAt m c) c⟩ := by
  rw [← hO,show (b - n).toNat = (b - (n + 1)).toNat + 1 by omega]; unfold itSteps; rw [if_neg (by simp [h]),if_neg hr]; simp [hf]
theorem it_next (h : (bd x (c,n,true)).2 = none) (hr : ¬ ruAt m c = noR) (hn : n < b) (hf : roomS (stepS (ruAt m c) c) = true) (hO : itSteps m bd (b - n).toNat n c x = O) : itSteps m bd (b - (n + 1)).toNat (n + 1) (stepS (ruAt m c) c) (bd x (c,n,true)).1 = O := by
  rw [← hO,show (b - n).toNat = (b - (n + 1)).toNat + 1 by omega]; conv => rhs; unfold itSteps
  rw [if_neg (by simp [h]),if_neg hr]; simp [hf]
end
theorem preB30 {p : Prop} (h : p := by first | with_reducible assumption | omega | (simp only [List.length_append,List.length_cons,List.length_nil,List.length_set,List.length_replicate,List.length_take,List.length_drop,List.length_tail,List.length_dropLast,List.length_reverse] at *; omega) | exact mem_len (by assumption) (by omega) | (with_reducible refine Int.le_trans (Int.ofNat_le.2 (trimR_len _)) ?_; simp only [List.length_cons,List.length_tail]; omega) | (exact (ruAt_ok (by assumption) (by assumption) (by assumption)).2.1) | (exact (ruAt_ok (by assumption) (by assumption) (by assumption)).2.1) | (have := vMach_bd (by assumption); omega) | (simp only [mC_ch,mC_tu]; omega) | (with_reducible refine Int.le_trans (Int.ofNat_le.2 (pushL_len _ _)) ?_; simp only [List.length_dropLast]; omega) | exact (ask_ok (by assumption)).1 | exact (ask_ok (by assumption)).2.1 | exact (ask_ok (by assumption)).2.2.1 | exact (ask_ok (by assumption)).2.2.2 | trivial) : p := h
theorem steps_ok (m : Mach) (c : Conf) (b : Int) : Does Tryz.prog 238 [.one (.gv 0),.one (int b)] [ruBx m c.st 1 2,roI c.le.reverse,roI c.ri.reverse] (.one (.fn (.func 287) [.gv 4,.gv 3])) [ruBx m c.st 1 2,roI c.le.reverse,roI c.ri.reverse,.bx [.gv 0],.bx [int b]] := by
  refine does_of (k := 3) Tryz.func238 rfl Tryz.ntmps238 rfl rfl fun w F0 S0 ρ0 => ?_
  dsimp only [argT,argH]
  repeat' first|(apply n3;exact a_new (gb := .bx _) rfl;exact rfl;refine dA ?_)|(apply p3;exact pu1;exact rfl)|refine cd ?_
  repeat refine cr ?_
  refine ends_id ?_
  refine endK [?_,?_] (h2 := ?_) (h3 := ?_) (nd := ?_)
  rotate_left 2
  all_goals (repeat' first|exact ce0|refine ce ?_|refine ce2 ?_ ?_|(refine Or.inr (bx_eq rfl rfl ?_);(try dsimp only [C.ren,C.ren.all]);(try exact rfl))|exact SVLe.refl|refine ceb ?_)
  all_goals first | exact (show nodupB _ = true from rfl) | exact Or.inr rfl | (rfl)
theorem stepsIt_ok (m : Mach) (c : Conf) (b : Int) {X : Type} (l : Nat) (R : X → Option Code → Opq) (bd : X → Conf × Int × Bool → X × Option Code) (Pre : X → Conf × Int × Bool → Prop) (x0 : X) (hm : vMach m = true) (hc : vConf m c = true) (h0 : Pre x0 (c,0,true)) (hb : b ≤ 9223372036854775807) (hst : ∀ x c n,Pre x (c,n,true) → vConf m c = true → (bd x (c,n,true)).2 = none → ruAt m c ≠ noR → n < b → Pre (bd x (c,n,true)).1 (stepS (ruAt m c) c,n + 1,roomS (stepS (ruAt m c) c))) (hY : ∀ x c n room,Pre x (c,n,room) → DoesW (YC Tryz.prog l) [.one (int n),.one (boo room)] [.opq (R x none) [1],ruBx m c.st 2 3,roI c.le.reverse,roI c.ri.reverse] (.one (boo (bd x (c,n,room)).2.isNone)) [.opq (R (bd x (c,n,room)).1 (bd x (c,n,room)).2) [1],ruBx m c.st 2 3,roI c.le.reverse,roI c.ri.reverse]) : Does Tryz.prog 287 [.one (.d (.fn (.yield l) [])),.one (.gv 1),.one (.gv 2)] [.opq (R x0 none) [3],.bx [int b],.bx [.gv 3],ruBx m c.st 4 5,roI c.le.reverse,roI c.ri.reverse] (.tup []) [.opq (R (itSteps m bd b.toNat 0 c x0).x (itSteps m bd b.toNat 0 c x0).j) [3],.bx [int b],.bx [.gv 3],ruBx m (itSteps m bd b.toNat 0 c x0).c.st 6 7,.dead,.dead,roI (itSteps m bd b.toNat 0 c x0).c.le.reverse,roI (itSteps m bd b.toNat 0 c x0).c.ri.reverse]:= by
  generalize hO : itSteps m bd b.toNat 0 c x0 = O
  refine does_of (k := 6) Tryz.func287 rfl Tryz.ntmps287 rfl rfl fun w F0 S0 ρ0 => ?_
  dsimp only [argT,argH]
  repeat' first|(apply p3;(exact pu1);exact rfl)|refine cd ?_
  refine g_conv (t_mvB (i := 4) (j := 3) (k := 4) rfl rfl rfl rfl rfl rfl) ?_
  try dsimp only [setRow,List.map_cons,List.map_nil,scC,List.set_cons_zero,List.set_cons_succ]
  refine g_conv (t_mvB (i := 5) (j := 3) (k := 5) rfl rfl rfl rfl rfl rfl) ?_
  try dsimp only [setRow,List.map_cons,List.map_nil,scC,List.set_cons_zero,List.set_cons_succ]
  refine g_loop_id ?_
  refine loopK [0,1,2] [0,3,6,7] (fun y : X × Conf × Int => Pre y.1 (y.2.1,y.2.2,true) ∧ vConf m y.2.1 = true ∧ 0 ≤ y.2.2 ∧ (y.2.2 ≤ b ∨ y.2.2 = 0) ∧ itSteps m bd (b - y.2.2).toNat y.2.2 y.2.1 y.1 = O) (fun y => [(4,.one (int y.2.2))]) (fun y => [(0,.opq (R y.1 none) [3]),(3,ruBx m y.2.1.st 6 7),(6,roI y.2.1.le.reverse),(7,roI y.2.1.ri.reverse)]) (fun y => (b - y.2.2).toNat) (x0,c,(0 : Int)) [0,1,2,3,4,5,6,7] (hI := ?_) (hr := ?_)
  · exact ⟨h0,hc,by simp,.inr rfl,by rw [Int.sub_zero]; exact hO⟩
  · rintro ⟨x,c,n⟩ ⟨k1,k2,k3,k4,k5⟩
    dsimp only [List.cons_append,List.nil_append] at *
    skip
    repeat' first|(apply p3;(exact pu1);exact rfl)|refine cdn ?_|refine g_reg (id := 1) ?_|(apply c4 0;exact callY (θ := [0,3,6,7]) (hD := (hY _ _ _ _ (by assumption)));exact rfl;exact rfl;exact rfl;refine dM ?_)|refine o_no rfl rfl rfl rfl ?_|(apply py3;exact rfl;exact rfl;(first|exact pu1|exact puC);exact rfl;exact rfl)|(apply cy4 0;exact rfl;exact rfl;exact callK1 (θ := []) (hD := (haltsC_ok _ _ preB30 preB30));exact rfl;exact rfl;exact rfl;exact rfl;refine dM ?_)|((first|refine o_gs rfl rfl (fun hc => ?_) (fun hc => ?_)|refine g_cond rfl (fun hc => ?_) (fun hc => ?_)) <;> (try simp only [dcB] at hc) <;> (try first|contradiction|(exfalso;omega)))
    · have e : (bd x (c,n,true)).2 = none := by cases hh : (bd x (c,n,true)).2 <;> simp_all
      have hnr : ¬ ruAt m c = noR := hc
      have hcn : n < b := by assumption
      have hp := hst x c n k1 k2 e hc hcn
      simp only [e]
      repeat' first|(apply p3;(first|exact pu1|exact a_add rfl rfl (by omega) (by omega));exact rfl)|refine cd ?_|(apply c4 2;exact callK0 (θ := [_,_,_]) (hD := (stepC_ok _ _ preB30 preB30));exact rfl;exact rfl;exact rfl;refine dM ?_)|((refine g_cond rfl (fun hc => ?_) (fun hc => ?_)) <;> (try simp only [dcB] at hc) <;> (try first|contradiction|(exfalso;omega)))
      · have hf : roomS (stepS (ruAt m c) c) = false := by assumption
        rw [hf] at hp
        have hE := it_full e hnr hcn hf k5
        repeat' first|refine cd ?_|(apply c4 0;exact callY (θ := [0,3,8,9]) (hD := (hY _ _ _ _ (by assumption)));exact rfl;exact rfl;exact rfl;refine dM ?_)
        subst hE
        repeat refine cr ?_
        refine ends_id ?_
        refine endK [?_,?_] (h2 := ?_) (h3 := ?_) (nd := ?_)
        rotate_left 2
        all_goals (repeat' first|exact ce0|refine ce ?_|refine ce2 ?_ ?_|(refine Or.inr (bx_eq rfl rfl ?_);(try dsimp only [C.ren,C.ren.all]);(try exact rfl))|exact SVLe.refl|refine ceb ?_)
        all_goals first | exact (show nodupB _ = true from rfl) | exact Or.inr rfl | (rfl)
      · have hf : roomS (stepS (ruAt m c) c) = true := by assumption
        rw [hf] at hp
        have hE := it_next e hnr hcn hf k5
        have hk := stepS_ok hm k2 hnr hf
        skip
        refine q_again ((bd x (c,n,true)).1,stepS (ruAt m c) c,n + 1) [0,1,2,3,4,5,8,9] (by exact stk) ?_ ?_
        · exact ⟨hp,hk,by dsimp only; omega,by dsimp only; omega,hE⟩
        · dsimp only; omega
    · have e : (bd x (c,n,true)).2 = none := by cases hh : (bd x (c,n,true)).2 <;> simp_all
      have hE := it_halt e hc k5
      simp only [e]
      subst hE
      repeat refine cr ?_
      refine ends_id ?_
      refine endK [?_,?_] (h2 := ?_) (h3 := ?_) (nd := ?_)
      rotate_left 2
      all_goals (repeat' first|exact ce0|refine ce ?_|refine ce2 ?_ ?_|(refine Or.inr (bx_eq rfl rfl ?_);(try dsimp only [C.ren,C.ren.all]);(try exact rfl))|exact SVLe.refl|refine ceb ?_)
      all_goals first | exact (show nodupB _ = true from rfl) | exact Or.inr rfl | (rfl)
    · have e : (bd x (c,n,true)).2 = none := by cases hh : (bd x (c,n,true)).2 <;> simp_all
      have hE := it_end e hc k5
      simp only [e]
      subst hE
      repeat refine cr ?_
      refine ends_id ?_
      refine endK [?_,?_] (h2 := ?_) (h3 := ?_) (nd := ?_)
      rotate_left 2
      all_goals (repeat' first|exact ce0|refine ce ?_|refine ce2 ?_ ?_|(refine Or.inr (bx_eq rfl rfl ?_);(try dsimp only [C.ren,C.ren.all]);(try exact rfl))|exact SVLe.refl|refine ceb ?_)
      all_goals first | exact (show nodupB _ = true from rfl) | exact Or.inr rfl | (rfl)
    · have hE := it_out hc k5
      subst hE
      repeat refine cr ?_
      refine ends_id ?_
      refine endK [?_,?_] (h2 := ?_) (h3 := ?_) (nd := ?_)
      rotate_left 2
      all_goals (repeat' first|exact ce0|refine ce ?_|refine ce2 ?_ ?_|(refine Or.inr (bx_eq rfl rfl ?_);(try dsimp only [C.ren,C.ren.all]);(try exact rfl))|exact SVLe.refl|refine ceb ?_)
      all_goals first | exact (show nodupB _ = true from rfl) | exact Or.inr rfl | (rfl)
end Go.Proofs.YtighjcjmacajoaaGreatDoor
end
section
set_option linter.unusedVariables false
set_option linter.unusedSimpArgs false
set_option maxRecDepth 100000
set_option maxHeartbeats 4000000
namespace Go.Proofs.YtighjcjmacajoaaGreatDoor
open Go Foot
def bdRun (x : Int × Bool) (a : Conf × Int × Bool) : (Int × Bool) × Option Code := if a.2.2 then ((a.2.1,x.2),none) else ((x.1,true),some .ret)
@[irreducible] def runIt (m : Mach) (b : Int) (c : Conf) : ItOut (Int × Bool) := itSteps m bdRun b.toNat 0 c (0,false)
@[irreducible] def runMade (O : ItOut (Int × Bool)) : Int := if O.j = none then O.x.1 else 0
@[irreducible] def runHalts (m : Mach) (O : ItOut (Int × Bool)) : Bool := if O.j = none then decide (ruAt m O.c = noR) else false
@[irreducible] def runCode (O : ItOut (Int × Bool)) : Int := if O.j = none then 0 else 5
theorem run_inv {m : Mach} (hm : vMach m = true) : ∀ (k : Nat) (n : Int) (c : Conf) (x : Int × Bool),vConf m c = true → x.2 = false →
    ((itSteps m bdRun k n c x).j = none → vConf m (itSteps m bdRun k n c x).c = true ∧ (itSteps m bdRun k n c x).x.2 = false) ∧ ∀ e,(itSteps m bdRun k n c x).j = some e → e = .ret ∧ (itSteps m bdRun k n c x).x.2 = true
  | k,n,c,x,hc,hx => by
    unfold itSteps
    have e1 : bdRun x (c,n,true) = ((n,x.2),none) := by simp [bdRun]
    rw [e1,hx]
    rw [if_neg (by simp)]
    by_cases hr : ruAt m c = noR
    · rw [if_pos hr]; exact ⟨fun _ => ⟨hc,rfl⟩,fun e h => by cases h⟩
    · rw [if_neg hr]
      cases k with
      | zero => exact ⟨fun _ => ⟨hc,rfl⟩,fun e h => by cases h⟩
      | succ k =>
        simp only
        split
        · rename_i hf
          exact run_inv hm k _ _ _ (stepS_ok hm hc hr hf) rfl
        · refine ⟨fun h => ?_,fun e h => ?_⟩
          · simp [bdRun] at h
          · simp [bdRun] at h ⊢; exact h.symm
theorem preB31 {p : Prop} (h : p := by first | with_reducible assumption | omega | (simp only [List.length_append,List.length_cons,List.length_nil,List.length_set,List.length_replicate,List.length_take,List.length_drop,List.length_tail,List.length_dropLast,List.length_reverse] at *; omega) | exact mem_len (by assumption) (by omega) | (with_reducible refine Int.le_trans (Int.ofNat_le.2 (trimR_len _)) ?_; simp only [List.length_cons,List.length_tail]; omega) | (exact (ruAt_ok (by assumption) (by assumption) (by assumption)).2.1) | (exact (ruAt_ok (by assumption) (by assumption) (by assumption)).2.1) | (have := vMach_bd (by assumption); omega) | (simp only [mC_ch,mC_tu]; omega) | (with_reducible refine Int.le_trans (Int.ofNat_le.2 (pushL_len _ _)) ?_; simp only [List.length_dropLast]; omega) | exact (ask_ok (by assumption)).1 | exact (ask_ok (by assumption)).2.1 | exact (ask_ok (by assumption)).2.2.1 | exact (ask_ok (by assumption)).2.2.2 | trivial) : p := h
theorem run_ok (m : Mach) (c : Conf) (b : Int) (hm : vMach m = true) (hc : vConf m c = true) (hb : b ≤ 9223372036854775807) : Does Tryz.prog 175 [.one (.gv 0),.one (int b)] [ruBx m c.st 1 2,roI c.le.reverse,roI c.ri.reverse] (.tup [(false,[int (runMade (runIt m b c))]),(false,[boo (runHalts m (runIt m b c))]),(false,[int (runCode (runIt m b c))])]) [ruBx m (runIt m b c).c.st 3 4,.dead,.dead,roI (runIt m b c).c.le.reverse,roI (runIt m b c).c.ri.reverse] := by
  have hO : itSteps m bdRun b.toNat 0 c (0,false) = runIt m b c := by unfold runIt; rfl
  generalize runIt m b c = O at *
  refine does_of (k := 3) Tryz.func175 rfl Tryz.ntmps175 rfl rfl fun w F0 S0 ρ0 => ?_
  dsimp only [argT,argH]
  repeat' first|(apply n3;exact a_new (gb := .bx _) rfl;exact rfl;refine dA ?_)|(apply p3;exact pu1;exact rfl)|refine cd ?_|(apply w3;(exact a_st_bx rfl rfl rfl rfl (fN rfl rfl) (Nat.le_of_ble_eq_true rfl) rfl);exact rfl;refine dS ?_)|(apply c4 2;exact callK0 (θ := [_,_,_]) (hD := (steps_ok _ _ _));exact rfl;exact rfl;exact rfl;refine dM ?_)
  refine rangeK [0,4,5,6,7,12] [3,4,5,6] (fun x : Int × Bool => [(3,.bx [int 0]),(4,.bx [boo false]),(5,.bx [int (if x.2 then 5 else 0)]),(6,.bx [int x.1])]) [0,1,2,3,4,5,6,7,8,900,901] 9 11 [8,7,0,1,2] [0] [9,10] [3] [1] (fun a : Conf × Int × Bool => [.one (int a.2.1),.one (boo a.2.2)]) (fun a => [ruBx m a.1.st 2 3,roI a.1.le.reverse,roI a.1.ri.reverse]) bdRun (fun _ _ => True) ((0 : Int),false) (n1 := 11) (hD := fun l R hY => stepsIt_ok m c b l R bdRun (fun _ _ => True) _ hm hc trivial hb (fun _ _ _ _ _ _ _ _ => trivial) (fun x c n room h => hY x (c,n,room) h)) (hr := ?_) (hn := ?_) (hs := ?_)
  · rintro ⟨made,fu⟩ ⟨c,n,room⟩ - lp0 w0 F0 S0 ρ0 rc0
    dsimp only [parT,upOf,deadR,thN,List.map_cons,List.map_nil,SV.ren,List.cons_append,List.nil_append,GB.ren,C.ren,C.ren.all,Nat.reduceAdd] at *
    repeat' first|refine g_seq ?_|refine g_reg ?_|(apply p3;(exact a_pure (sv := .one _) rfl);exact rfl)|refine o_nil ?_|refine q_s ?_|refine qAsg.go rfl ?_
    dsimp only
    repeat' first|(apply p3;exact pu1;exact rfl)|refine cd ?_|(apply w3;(exact a_st_bx rfl rfl rfl rfl (fN rfl rfl) (Nat.le_of_ble_eq_true rfl) rfl);exact rfl;refine dS ?_)|((refine g_cond rfl (fun hc => ?_) (fun hc => ?_)) <;> (try simp only [dcB] at hc) <;> (try first|contradiction|(exfalso;omega)))
    · repeat (first | refine g_ret ?_ | refine q_sr ?_ | refine q_br ?_ | refine g_exit ?_ | refine q_se ?_ | refine q_be rfl ?_ | refine q_bn rfl ?_)
      first | refine q_next (made,true) [0,1,2,3,4,5,6,7,8,9,10,11] (by exact stk) ?_ | refine q_ret (made,true) [0,1,2,3,4,5,6,7,8,9,10,11] (by exact stk) ?_ | refine q_exit (made,true) [0,1,2,3,4,5,6,7,8,9,10,11] (by exact stk) ?_
      simp [bdRun,hc]
    · refine q_next (n,fu) [0,1,2,3,4,5,6,7,8,9,10,11] (by exact stk) ?_
      simp [bdRun,hc]
  · rintro hj
    dsimp only [upOf,deadR,calF,List.cons_append,List.nil_append,GB.ren,C.ren,C.ren.all,List.length_cons,List.length_nil,Nat.reduceAdd,Nat.reduceSub] at *
    skip
    repeat' first|refine cd ?_
    simp only [hO] at hj ⊢
    obtain ⟨h1,h2⟩ := (hO ▸ run_inv hm b.toNat 0 c (0,false) hc rfl).1 hj
    have e1 : runMade O = O.x.1 := by unfold runMade; rw [if_pos hj]
    have e2 : runHalts m O = decide (ruAt m O.c = noR) := by unfold runHalts; rw [if_pos hj]
    have e3 : runCode O = 0 := by unfold runCode; rw [if_pos hj]
    repeat' first|refine cd ?_|(apply g_drN (id := 8) okM [[],[],[1],[0,1,2],[0,1,2,3],[0,1,2,3,4]] [([],[]),([],[]),([],[]),([],[3]),([],[4]),([],[5])] 0;(focus (refine dp 0 0 [19,20] [] puL ?_;refine dp 1 0 [18] [] pu1 ?_;refine dp 2 1 [18] [] (callD1 (n := _) 0 (θ := []) (hD := (haltsC_ok _ _ preB31 preB31))) ?_;refine duE 3 7 [] [] (by exact a_st_bx rfl rfl rfl rfl (fN rfl rfl) (Nat.le_of_ble_eq_true rfl) rfl) (by exact rfl) (by exact rfl) ?_;refine duE 4 15 [] [] (a_st_bx rfl rfl rfl rfl (fN rfl rfl) (Nat.le_of_ble_eq_true rfl) rfl) (by exact rfl) (by exact rfl) ?_;refine duE 5 31 [] [] (by exact a_st_bx rfl rfl rfl rfl (fN rfl rfl) (Nat.le_of_ble_eq_true rfl) rfl) (by exact rfl) (by exact rfl) ?_;(refine d_nil ?_;refine dN ?_)));any_goals kernel_rfl)
    rw [e1,e2,e3]
    repeat refine cr ?_
    refine ends_id ?_
    refine endK [?_,?_] (h2 := ?_) (h3 := ?_) (nd := ?_)
    rotate_left 2
    all_goals (repeat' first|exact ce0|refine ce ?_|refine ce2 ?_ ?_|(refine Or.inr (bx_eq rfl rfl ?_);(try dsimp only [C.ren,C.ren.all]);(try exact rfl))|exact SVLe.refl|refine ceb ?_)
    all_goals first | exact (show nodupB _ = true from rfl) | exact Or.inr rfl | (rfl)
  · rintro c hj
    dsimp only [upOf,deadR,calF,List.cons_append,List.nil_append,GB.ren,C.ren,C.ren.all,List.length_cons,List.length_nil,Nat.reduceAdd,Nat.reduceSub] at *
    skip
    skip
    simp only [hO] at hj ⊢
    obtain ⟨rfl,h2⟩ := (hO ▸ run_inv hm b.toNat 0 _ (0,false) hc rfl).2 _ hj
    have e0 : ¬ O.j = none := by simp [hj]
    have e1 : runMade O = 0 := by unfold runMade; rw [if_neg e0]
    have e2 : runHalts m O = false := by unfold runHalts; rw [if_neg e0]
    have e3 : runCode O = 5 := by unfold runCode; rw [if_neg e0]
    rw [h2,e1,e2,e3]
    skip
    repeat refine cr ?_
    refine ends_id ?_
    refine endK [?_,?_] (h2 := ?_) (h3 := ?_) (nd := ?_)
    rotate_left 2
    all_goals (repeat' first|exact ce0|refine ce ?_|refine ce2 ?_ ?_|(refine Or.inr (bx_eq rfl rfl ?_);(try dsimp only [C.ren,C.ren.all]);(try exact rfl))|exact SVLe.refl|refine ceb ?_)
    all_goals first | exact (show nodupB _ = true from rfl) | exact Or.inr rfl | (rfl)
end Go.Proofs.YtighjcjmacajoaaGreatDoor
end
section
set_option linter.unusedVariables false
set_option linter.unusedSimpArgs false
set_option maxRecDepth 100000
set_option maxHeartbeats 4000000
namespace Go.Proofs.YtighjcjmacajoaaGreatDoor
open Go Foot
theorem blankRun_ok (m : Mach) : Does Tryz.prog 174 [.agg (maC m)] [] (.one (.gv 0)) [ruBx m 0 1 2,roI [],roI []] := by
  refine does_of (k := 0) Tryz.func174 rfl Tryz.ntmps174 rfl rfl fun w F0 S0 ρ0 => ?_
  dsimp only [argT,argH]
  repeat' first|(apply n3;exact a_new (gb := .bx _) rfl;exact rfl;refine dA ?_)|(apply p3;(exact pu1);exact rfl)|refine cd ?_|(apply c4 3;exact callK0 (θ := []) (hD := (runnerOf_ok m ⟨0,[],[]⟩ (by simp) (by simp)));exact rfl;exact rfl;exact rfl;refine dM ?_)
  repeat refine cr ?_
  refine ends_id ?_
  refine endK [?_,?_,?_] (h2 := ?_) (h3 := ?_) (nd := ?_)
  rotate_left 3
  all_goals (repeat' first|exact ce0|refine ce ?_|refine ce2 ?_ ?_|(refine Or.inr (bx_eq rfl rfl ?_);(try dsimp only [C.ren,C.ren.all]);(try exact rfl))|exact SVLe.refl|refine ceb ?_)
  all_goals first | exact (show nodupB _ = true from rfl) | exact Or.inr rfl | (rfl)
end Go.Proofs.YtighjcjmacajoaaGreatDoor
end
section
set_option linter.unusedVariables false
set_option linter.unusedSimpArgs false
set_option maxRecDepth 100000
set_option maxHeartbeats 4000000
namespace Go.Proofs.YtighjcjmacajoaaGreatDoor
open Go Foot
section
variable {m : Mach}
end
abbrev blank : Conf := ⟨0,[],[]⟩
end Go.Proofs.YtighjcjmacajoaaGreatDoor
end
section
set_option linter.unusedVariables false
set_option linter.unusedSimpArgs false
set_option maxRecDepth 100000
set_option maxHeartbeats 4000000
namespace Go.Proofs.YtighjcjmacajoaaGreatDoor
open Go Foot
structure Part where
  st : Int
  pl : Int
  ce : List Int
  deriving DecidableEq
structure PtGd (x : Part) : Prop where
  a : 0 ≤ x.pl
  b : x.pl < x.ce.length
  c : (x.ce.length : Int) ≤ 1000
@[irreducible] def ruI (m : Mach) (i : Int) : Rule' := m.ru.getD i.toNat noR
theorem ruI_get {m : Mach} {i : Int} (h : i.toNat < m.ru.length) : m.ru[i.toNat] = ruI m i := by
  unfold ruI
  rw [List.getD_eq_getElem?_getD,List.getElem?_eq_getElem h]
  rfl
end Go.Proofs.YtighjcjmacajoaaGreatDoor
end
