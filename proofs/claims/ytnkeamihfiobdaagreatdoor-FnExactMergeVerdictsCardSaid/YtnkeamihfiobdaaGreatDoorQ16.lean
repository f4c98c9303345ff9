/- Parts of the proof (16 of 23). -/
import Derived.Lib.Join
import Derived.Test.YtnkeamihfiobdaaGreatDoorQ15
section
set_option linter.unusedVariables false
set_option linter.unusedSimpArgs false
set_option maxRecDepth 100000
set_option maxHeartbeats 4000000
namespace Go.Proofs.YtnkeamihfiobdaaGreatDoor
open Go Foot Go.Shelf Go.RowKit
theorem WriteRune_ok (l : Bs) (r : Int) (h0 : 0 ≤ r) (h1 : r ≤ 127) (h : (l.length : Int) + 1 ≤ 140737488355328) : Does Tryz.prog 183 [.one (.gv 0),.one (c32 r)] [bldr l] (.tup [(false,[int 1]),(false,[nlC])]) [bldr (l ++ byt [r])] :=
  does_bld (av := [.int .i32 r]) (rv := .tuple #[.int .i64 1,.nilIface]) (fun w S ρ vs => repA_1) (fun w S ρ => ⟨_,rfl,_,_,rfl,⟨_,_,rfl,⟨rfl,rfl⟩,rfl⟩,_,_,rfl,⟨_,_,rfl,⟨rfl,rfl⟩,rfl⟩,rfl⟩) fun w b p v hB => by
    have := bs_WriteRune hB h0 h1 (by rw [Lib.byteCells_length]; omega)
    rw [cells_byt l r h0 h1] at this
    exact this
theorem String_ok (l : Bs) : Does Tryz.prog 93 [.one (.gv 0)] [bldr l] (.one (str l)) [bldr l] :=
  does_bld (av := []) (rv := sv l) (fun w S ρ vs h => h) (fun w S ρ => ⟨rfl,rfl⟩) fun w b p v hB => bl_String Tryz.lays169 Tryz.Builder_Extra_169 hB
theorem FormatInt_ok (n : Int) (h0 : -9223372036854775808 ≤ n) (h1 : n ≤ 9223372036854775807) : Does Tryz.prog 161 [.one (int n),.one (int 10)] [] (.one (str (Lib.itoa n))) [] :=
  does_ext (av := [.int .i64 n,.int .i64 10]) (rv := sv (Lib.itoa n)) (fun w S ρ vs => repA_2) (fun w S ρ => ⟨rfl,rfl⟩) fun w S hT => by
    obtain ⟨⟨cs,T,fr,ht,hcs⟩,_⟩ := hT _ List.mem_cons_self
    dsimp only at hcs
    subst hcs
    refine (Any.strconv_FormatInt_10 Tryz.laysM173 n h0 h1 w ?_).mono ?_
    · dsimp only at ht
      exact Option.bind_eq_some_iff.2 ⟨_,by kernel_rfl,by rw [ht]; simp [Lib.pow10Tab]⟩
    · rintro en w' ⟨rfl,k,os,rfl⟩
      exact ⟨rfl,Lib.below_grow _ w (Nat.le_refl _) k os⟩
theorem reps_S {w : World} {S F : Foot} : ∀ {l : List Bs} {us : List Value},Reps w S (rows eS l) us F → us = l.map fun b => sv b
  | [],us,h => by simpa [rows,Reps] using h
  | n :: l,us,h => by
    have e : rows eS (n :: l) = .sc (sv n) :: rows eS l := rfl
    rw [e] at h
    simp only [Reps] at h
    obtain ⟨v,us',F1,F2,rfl,_,_,_,h1,h2⟩ := h
    simp only [Rep] at h1
    rw [h1.1,reps_S h2,List.map_cons]
@[irreducible] def joinT (l : List Bs) (sep : Bs) : Bs := Lib.join l sep
theorem Join_ok (l : List Bs) (sep : Bs) (hl : (l.length : Int) ≤ 1048576) (hj : ((joinT l sep).length : Int) ≤ 140737488355328) : Does Tryz.prog 143 [.one (shS l),.one (str sep)] [] (.one (str (joinT l sep))) [] := by
  intro vs w S ρ F hA hG
  simp only [RepA,RepS,RepC] at hA
  obtain ⟨v0,_,rfl,h0,v1,_,rfl,h1,rfl⟩ := hA
  simp only [Rep] at h1
  obtain ⟨rfl,_⟩ := h1
  simp only [Rep] at h0
  obtain ⟨a,len,cap,rfl,hlen,_,hcap,hc⟩ := h0
  rw [rows_len] at hlen
  have hlen' : l.length = len := by simpa using hlen
  have key : Calls Tryz.prog 143 #[.slice a len cap,sv sep] w fun e w' => e = .returned (sv (joinT l sep)) ∧ Below w.heap.size w w' := by
    rcases hc with ⟨rfl,_⟩ | ⟨b,off,us,G,rfl,hli,hr,ho⟩
    · have h0 : len = 0 := by omega
      have hl0 : l = [] := List.eq_nil_of_length_eq_zero (by omega)
      subst h0 hl0
      refine (Any.strings_Join_none Tryz.lays156 Tryz.Builder_Extra_156 a 0 ⟨sep.toArray⟩ w).mono ?_
      rintro e w' ⟨rfl,rfl⟩
      exact ⟨by unfold joinT; rfl,Below.refl _ _⟩
    · have hus := reps_S hr
      subst hus
      have hjj : joinT l sep = Lib.join ((l.map fun b => (⟨b.toArray⟩ : ByteArray)).map (·.data.toList)) (⟨sep.toArray⟩ : ByteArray).data.toList := by
        unfold joinT
        rw [List.map_map]
        congr 1
        exact (List.map_id l).symm
      have hbk : b < w.heap.size ∨ l = [] := by
        cases l with
        | nil => exact .inr rfl
        | cons x l =>
          have := hli 0 (sv x) rfl
          refine .inl ?_
          unfold World.cell? at this
          rcases Nat.lt_or_ge b w.heap.size with h | h
          · exact h
          · simp [Array.getElem?_eq_none h] at this
      rcases hbk with hbk | hl0
      · have hx := Any.strings_Join Tryz.lays156 Tryz.Builder_Extra_156 b off cap (l.map fun b => (⟨b.toArray⟩ : ByteArray)) ⟨sep.toArray⟩ w (fun j x hj => by
          rw [List.getElem?_map] at hj
          cases hg : l[j]? with
          | none => rw [hg] at hj; cases hj
          | some y =>
            rw [hg] at hj
            cases hj
            exact hli j (sv y) (by rw [List.getElem?_map,hg]; rfl)) hbk (by rw [List.length_map]; omega) (by rw [List.length_map]; omega) (by rw [← hjj]; omega)
        rw [List.length_map,hlen',← hjj] at hx
        exact hx
      · subst hl0
        simp at hlen'
        subst hlen'
        refine (Any.strings_Join_none Tryz.lays156 Tryz.Builder_Extra_156 (some ⟨b,off,none⟩) cap ⟨sep.toArray⟩ w).mono ?_
        rintro e w' ⟨rfl,rfl⟩
        exact ⟨by unfold joinT; rfl,Below.refl _ _⟩
  refine key.mono ?_
  rintro en w' ⟨rfl,hb⟩
  refine ⟨_,no,ρ,F,rfl,?_,⟨rfl,rfl⟩⟩
  refine ⟨⟨hb.os,hb.tape,hb.output,hb.size,fun k hk _ => hb.block k hk,fun k o hk _ => ?_⟩,no_le _,fun _ _ h => h.elim,by simp,fun i u _ h => h,hG.new,fun i gb hi => by simp at hi,fun i j hi => by simp at hi,fun i hi => by simp at hi,fun i hi => by simp at hi,fun i hi => by simp at hi⟩
  have e := hb.block k hk
  simp [World.cell?,World.frozen?,mapAt,e]
end Go.Proofs.YtnkeamihfiobdaaGreatDoor
end
section
set_option linter.unusedVariables false
set_option linter.unusedSimpArgs false
set_option maxRecDepth 100000
set_option maxHeartbeats 4000000
namespace Go.Proofs.YtnkeamihfiobdaaGreatDoor
open Go Foot
def drev (u : Nat) : List Int := if h : u = 0 then [] else (48 + (u % 10 : Nat) : Int) :: drev (u / 10)
termination_by u
decreasing_by omega
theorem drev_0 : drev 0 = [] := by rw [drev]; simp
theorem drev_s {u : Nat} (h : u ≠ 0) : drev u = (48 + (u % 10 : Nat) : Int) :: drev (u / 10) := by rw [drev]; simp [h]
theorem drev_le : ∀ (k u : Nat),u < 10 ^ k → (drev u).length ≤ k := by
  intro k
  induction k with
  | zero =>
    intro u h
    have : u = 0 := by simpa using h
    subst this
    simp [drev_0]
  | succ k ih =>
    intro u h
    by_cases h0 : u = 0
    · subst h0; simp [drev_0]
    · rw [drev_s h0,List.length_cons]
      have := ih (u / 10) (by rw [Nat.pow_succ] at h; omega)
      omega
theorem byt_app (a b : List Int) : byt (a ++ b) = byt a ++ byt b := by unfold byt; simp
theorem byt_len (a : List Int) : (byt a).length = a.length := by unfold byt; simp
theorem byt_1 (n : Int) : byt [n] = [UInt8.ofNat n.toNat] := by unfold byt; rfl
theorem byt_0 : byt [] = [] := by unfold byt; rfl
theorem drev_dec : ∀ (u : Nat),u ≠ 0 → byt (drev u).reverse = Lib.decDigits u := by
  intro u
  induction u using Nat.strongRecOn with
  | _ u ih =>
    intro h0
    rw [drev_s h0,List.reverse_cons,byt_app,byt_1,Lib.decDigits]
    by_cases h : u < 10
    · rw [dif_pos h,show u / 10 = 0 by omega,drev_0]
      simp only [List.reverse_nil,byt_0,List.nil_append]
      congr 2
      omega
    · rw [dif_neg h,ih (u / 10) (by omega) (by omega)]
      rfl
@[irreducible] def decT (n : Int) : Bs := Lib.itoa n
theorem decT_0 : decT 0 = [48] := by unfold decT Lib.itoa; simp [Lib.decDigits]
theorem decT_n {n : Int} (h : n ≠ 0) : decT n = byt ((drev n.natAbs ++ (if n < 0 then [45] else [])).reverse) := by
  unfold decT Lib.itoa
  split
  · rw [List.reverse_append,byt_app,drev_dec _ (by omega)]; simp [byt_1]
  · rw [List.append_nil,drev_dec _ (by omega),show n.natAbs = n.toNat by omega]
theorem decT_le {n : Int} (h0 : -9223372036854775808 ≤ n) (h1 : n ≤ 9223372036854775807) : (decT n).length ≤ 21 := by
  by_cases h : n = 0
  · subst h; rw [decT_0]; decide
  · rw [decT_n h,byt_len,List.length_reverse,List.length_append]
    have h2 := drev_le 20 n.natAbs (by omega)
    split <;> simp only [List.length_cons,List.length_nil] <;> omega
theorem preB49 {p : Prop} (h : p := by first | with_reducible assumption | omega | (simp only [List.length_append,List.length_cons,List.length_nil,List.length_set,List.length_replicate,List.length_take,List.length_drop,List.length_tail,List.length_dropLast,List.length_reverse] at *; omega) | exact mem_len (by assumption) (by omega) | (with_reducible refine Int.le_trans (Int.ofNat_le.2 (trimR_len _)) ?_; simp only [List.length_cons,List.length_tail]; omega) | (exact (ruAt_ok (by assumption) (by assumption) (by assumption)).2.1) | (exact (ruAt_ok (by assumption) (by assumption) (by assumption)).2.1) | (have := vMach_bd (by assumption); omega) | (simp only [mC_ch,mC_tu]; omega) | (have := vTag_bd (by assumption); omega) | (have := (‹Gd _ _›).le; omega) | (exact tgHalts_no (by assumption)) | (exact tgHead (by assumption) (by assumption) (by assumption)) | (exact Int.le_trans (tgStep_gd (by assumption) (by assumption) (by assumption) (by assumption)).le (by decide)) | (exact vTag_r (by assumption)) | (with_reducible refine Int.le_trans (Int.ofNat_le.2 (pushL_len _ _)) ?_; simp only [List.length_dropLast]; omega) | exact (ask_ok (by assumption)).1 | exact (ask_ok (by assumption)).2.1 | exact (ask_ok (by assumption)).2.2.1 | exact (ask_ok (by assumption)).2.2.2 | trivial) : p := h
theorem l01Dec_ok (n : Int) (h0 : -9223372036854775807 ≤ n) (h1 : n ≤ 9223372036854775807) : Does Tryz.prog 201 [.one (int n)] [] (.one (str (decT n))) [] := by
  by_cases hn : n = 0
  · subst hn
    rw [decT_0]
    refine does_of (k := 0) Tryz.func201 rfl Tryz.ntmps201 rfl rfl fun w F0 S0 ρ0 => ?_
    dsimp only [argT,argH]
    repeat' first|(apply p3;(first|exact pu1|exact puC);exact rfl)|refine cd ?_|fail
    repeat refine cr ?_
    refine ends_id ?_
    refine endK [] (h2 := ?_) (h3 := ?_) (nd := ?_)
    all_goals (repeat' first|exact ce0|refine ce ?_|refine ce2 ?_ ?_|exact SVLe.refl|refine ceb ?_)
    all_goals first | exact (show nodupB _ = true from rfl) | exact Or.inr rfl | (rfl)
  have hT := decT_n hn
  have hl := drev_le 20 n.natAbs (by omega)
  refine does_of (k := 0) Tryz.func201 rfl Tryz.ntmps201 rfl rfl fun w F0 S0 ρ0 => ?_
  dsimp only [argT,argH]
  repeat' first|(apply n3;(exact a_litE eY [] rfl rfl rfl rfl rfl rfl rfl rfl);exact rfl;refine dA ?_)|(apply p3;(first|exact pu1|exact puC);exact rfl)|refine cd ?_|((refine g_cond rfl (fun hc => ?_) (fun hc => ?_)) <;> (try simp only [dcB] at hc) <;> (try first|contradiction|(exfalso;omega)))|fail
  refine g_loop_id ?_
  refine loopK [0,2,3] [0] (fun x : Int × List Int => x.2 ++ drev x.1.natAbs = drev n.natAbs ∧ x.1.natAbs ≤ n.natAbs ∧ (x.2.length : Int) ≤ 20) (fun x => [(4,.one (int x.1))]) (fun x => [(0,.row 1 (rows eY x.2))]) (fun x => x.1.natAbs) (n,[]) [0] (hI := ?_) (hr := ?_)
  · exact ⟨by simp,by simp,by simp⟩
  · rintro ⟨m,xs⟩ ⟨k0,k1,k2⟩
    dsimp only [List.cons_append,List.nil_append] at *
    skip
    have t1 := Int.natAbs_tmod m 10; have t2 := Int.natAbs_tdiv m 10; have t3 : m.natAbs.div (10 : Int).natAbs = m.natAbs / 10 := rfl; have t4 : (10 : Int).natAbs = 10 := rfl; rw [t3] at t2; rw [t4] at t1; have t5 : ((xs ++ [45]).length : Int) = xs.length + 1 := by simp
    repeat' first|(apply n3;(first|exact a_litE eY [_] rfl rfl rfl rfl rfl rfl rfl rfl|exact a_litE eY [] rfl rfl rfl rfl rfl rfl rfl rfl);exact rfl;refine dA ?_)|(apply p3;(first|exact pu1|exact a_ne rfl rfl|exact a_remT rfl rfl (by omega)|exact puC|exact a_neg rfl (by omega) (by omega)|exact a_add rfl rfl (by omega) (by omega)|exact a_to8 rfl Tryz.underlying2 Tryz.underlying5 (by omega) (by omega)|exact a_quoT rfl rfl (by omega) (by omega) (by omega)|exact puN|exact a_sub rfl rfl (by omega) (by omega));exact rfl)|refine cd ?_|(apply s3;exact a_appE (fP rfl) rfl rfl rfl rfl nowR (by (simp <;> omega)) (by decide) (by decide) (by exact rfl);exact rfl;exact rfl)|((refine g_cond rfl (fun hc => ?_) (fun hc => ?_)) <;> (try simp only [dcB] at hc) <;> (try first|contradiction|(exfalso;omega)))|fail
    · refine q_again (m.tdiv 10,_) [2] (by exact stk) ?_ ?_
      · dsimp only
        refine ⟨?_,by omega,?_⟩
        · rw [← k0,drev_s (by omega : m.natAbs ≠ 0),t2,List.append_assoc]
          congr 1
          rw [List.singleton_append]
          congr 1
          omega
        · have h1 := congrArg List.length k0
          rw [drev_s (by omega : m.natAbs ≠ 0)] at h1
          simp only [List.length_append,List.length_cons,List.length_nil] at h1 ⊢
          omega
      · dsimp only; omega
    · refine q_again (m.tdiv 10,_) [2] (by exact stk) ?_ ?_
      · dsimp only
        refine ⟨?_,by omega,?_⟩
        · rw [← k0,drev_s (by omega : m.natAbs ≠ 0),t2,List.append_assoc]
          congr 1
          rw [List.singleton_append]
          congr 1
          omega
        · have h1 := congrArg List.length k0
          rw [drev_s (by omega : m.natAbs ≠ 0)] at h1
          simp only [List.length_append,List.length_cons,List.length_nil] at h1 ⊢
          omega
      · dsimp only; omega
    · have ex : xs = drev n.natAbs := by rw [← k0,show m.natAbs = 0 by omega,drev_0,List.append_nil]
      rw [if_pos (by assumption),← ex] at hT
      obtain ⟨ys,hys⟩ : ∃ ys,ys = xs ++ [45] := ⟨_,rfl⟩
      rw [← hys] at hT t5 ⊢
      refine g_loop_id ?_
      refine loopK [2,3,6] [3] (fun x : Int × List Int => -1 ≤ x.1 ∧ x.1 < ys.length ∧ x.2 = (ys.drop (x.1 + 1).toNat).reverse) (fun x => [(7,.one (int x.1))]) (fun x => [(3,.row 1 (rows eY x.2))]) (fun x => (x.1 + 1).toNat) ((ys.length : Int) - 1,[]) [0,1,2,3] (hI := ?_) (hr := ?_)
      · dsimp only
        refine ⟨by omega,by omega,?_⟩
        rw [List.drop_eq_nil_of_le (by omega)]
        rfl
      · rintro ⟨i,out⟩ ⟨j0,j1,j2⟩
        dsimp only [List.cons_append,List.nil_append] at *
        skip
        have jl : (out.length : Int) ≤ 1000 := by rw [j2,List.length_reverse,List.length_drop]; omega
        repeat' first|(apply n3;(exact a_litE eY [_] rfl rfl rfl rfl rfl rfl rfl rfl);exact rfl;refine dA ?_)|(apply p3;(first|exact pu1|exact puC|exact a_ld_rowY rfl rfl rfl (fC rfl) bnd|exact a_sub rfl rfl (by omega) (by omega)|exact a_toStr rfl (by exact rfl) Tryz.underlying22 Tryz.underlying5 Tryz.underlying9|exact puI);exact rfl)|refine cd ?_|(apply s3;exact a_appE (fP rfl) rfl rfl rfl rfl nowR (by (simp <;> omega)) (by decide) (by decide) (by exact rfl);exact rfl;exact rfl)|((refine g_cond rfl (fun hc => ?_) (fun hc => ?_)) <;> (try simp only [dcB] at hc) <;> (try first|contradiction|(exfalso;omega)))|fail
        · refine q_again (i - 1,_) [0,1,2,5] (by exact stk) ?_ ?_
          · dsimp only
            refine ⟨by omega,by omega,?_⟩
            rw [j2,show (i - 1 + 1).toNat = i.toNat by omega,List.drop_eq_getElem_cons (show i.toNat < ys.length by omega),List.reverse_cons,show i.toNat + 1 = (i + 1).toNat by omega]
            simp only [Nat.mul_one]
          · dsimp only; omega
        · have e : out = ys.reverse := by rw [j2,show (i + 1).toNat = 0 by omega]; rfl
          rw [hT,e]
          repeat refine cr ?_
          refine ends_id ?_
          refine endK [] (h2 := ?_) (h3 := ?_) (nd := ?_)
          all_goals (repeat' first|exact ce0|refine ce ?_|refine ce2 ?_ ?_|exact SVLe.refl|refine ceb ?_)
          all_goals first | exact (show nodupB _ = true from rfl) | exact Or.inr rfl | (rfl)
    · have ex : xs = drev n.natAbs := by rw [← k0,show m.natAbs = 0 by omega,drev_0,List.append_nil]
      rw [if_neg (by assumption),← ex,List.append_nil] at hT
      obtain ⟨ys,hys⟩ : ∃ ys,ys = xs := ⟨_,rfl⟩
      rw [← hys] at hT k2 ⊢
      refine g_loop_id ?_
      refine loopK [2,3,6] [1] (fun x : Int × List Int => -1 ≤ x.1 ∧ x.1 < ys.length ∧ x.2 = (ys.drop (x.1 + 1).toNat).reverse) (fun x => [(7,.one (int x.1))]) (fun x => [(1,.row 1 (rows eY x.2))]) (fun x => (x.1 + 1).toNat) ((ys.length : Int) - 1,[]) [0,1] (hI := ?_) (hr := ?_)
      · dsimp only
        refine ⟨by omega,by omega,?_⟩
        rw [List.drop_eq_nil_of_le (by omega)]
        rfl
      · rintro ⟨i,out⟩ ⟨j0,j1,j2⟩
        dsimp only [List.cons_append,List.nil_append] at *
        skip
        have jl : (out.length : Int) ≤ 1000 := by rw [j2,List.length_reverse,List.length_drop]; omega
        repeat' first|(apply n3;(exact a_litE eY [_] rfl rfl rfl rfl rfl rfl rfl rfl);exact rfl;refine dA ?_)|(apply p3;(first|exact pu1|exact puC|exact a_ld_rowY rfl rfl rfl (fC rfl) bnd|exact a_sub rfl rfl (by omega) (by omega)|exact a_toStr rfl (by exact rfl) Tryz.underlying22 Tryz.underlying5 Tryz.underlying9|exact puI);exact rfl)|refine cd ?_|(apply s3;exact a_appE (fP rfl) rfl rfl rfl rfl nowR (by (simp <;> omega)) (by decide) (by decide) (by exact rfl);exact rfl;exact rfl)|((refine g_cond rfl (fun hc => ?_) (fun hc => ?_)) <;> (try simp only [dcB] at hc) <;> (try first|contradiction|(exfalso;omega)))|fail
        · refine q_again (i - 1,_) [0,3] (by exact stk) ?_ ?_
          · dsimp only
            refine ⟨by omega,by omega,?_⟩
            rw [j2,show (i - 1 + 1).toNat = i.toNat by omega,List.drop_eq_getElem_cons (show i.toNat < ys.length by omega),List.reverse_cons,show i.toNat + 1 = (i + 1).toNat by omega]
            simp only [Nat.mul_one]
          · dsimp only; omega
        · have e : out = ys.reverse := by rw [j2,show (i + 1).toNat = 0 by omega]; rfl
          rw [hT,e]
          repeat refine cr ?_
          refine ends_id ?_
          refine endK [] (h2 := ?_) (h3 := ?_) (nd := ?_)
          all_goals (repeat' first|exact ce0|refine ce ?_|refine ce2 ?_ ?_|exact SVLe.refl|refine ceb ?_)
          all_goals first | exact (show nodupB _ = true from rfl) | exact Or.inr rfl | (rfl)
@[irreducible] def digT (w : List Int) : Bs := byt (w.map fun x => 48 + x)
@[irreducible] def wdT (w : List Int) : Bs := if w = [] then [45] else digT w
theorem digT_snoc (w : List Int) (i : Int) (h0 : 0 ≤ i) (h : i < w.length) : digT (w.take i.toNat) ++ byt [48 + w[i.toNat]'(by omega)] = digT (w.take (i + 1).toNat) := by
  unfold digT
  rw [show (i + 1).toNat = i.toNat + 1 by omega,List.take_succ_eq_append_getElem (by omega),List.map_append,byt_app]
  rfl
theorem digT_len (w : List Int) : (digT w).length = w.length := by unfold digT; rw [byt_len,List.length_map]
theorem wdT_le (w : List Int) : (wdT w).length ≤ w.length + 1 := by unfold wdT; split <;> simp [digT_len]
theorem map_snoc (w : List Int) (i : Int) (h0 : 0 ≤ i) (h : i < w.length) : (w.take i.toNat).map (fun x => 48 + x) ++ [48 + w[i.toNat]'(by omega)] = (w.take (i + 1).toNat).map (fun x => 48 + x) := by
  rw [show (i + 1).toNat = i.toNat + 1 by omega,List.take_succ_eq_append_getElem (by omega),List.map_append]
  rfl
theorem l03Text_ok (u : List Int) (hx : (u.length : Int) ≤ 1048576) (hd : ∀ x ∈ u,0 ≤ x ∧ x ≤ 9) : Does Tryz.prog 286 [.one (shI u)] [] (.one (str (wdT u))) [] := by
  have hg : ∀ (i : Nat) (h : i < u.length),0 ≤ u[i] ∧ u[i] ≤ 9 := fun i h => hd _ (List.getElem_mem h)
  by_cases h0 : (u.length : Int) = 0
  · have e : wdT u = [45] := by unfold wdT; rw [if_pos (List.eq_nil_of_length_eq_zero (by omega))]
    rw [e]
    refine does_of (k := 0) Tryz.func286 rfl Tryz.ntmps286 rfl rfl fun w F0 S0 ρ0 => ?_
    dsimp only [argT,argH]
    repeat' first|(apply p3;(first|exact pu1|exact puN|exact puC);exact rfl)|refine cd ?_|((refine g_cond rfl (fun hc => ?_) (fun hc => ?_)) <;> (try simp only [dcB] at hc) <;> (try first|contradiction|(exfalso;omega)))|fail
    repeat refine cr ?_
    refine ends_id ?_
    refine endK [] (h2 := ?_) (h3 := ?_) (nd := ?_)
    all_goals (repeat' first|exact ce0|refine ce ?_|refine ce2 ?_ ?_|exact SVLe.refl|refine ceb ?_)
    all_goals first | exact (show nodupB _ = true from rfl) | exact Or.inr rfl | (rfl)
  have e : wdT u = byt (u.map fun x => 48 + x) := by unfold wdT; rw [if_neg (fun h => h0 (by rw [h]; rfl))]; unfold digT; rfl
  rw [e]
  refine does_of (k := 0) Tryz.func286 rfl Tryz.ntmps286 rfl rfl fun w F0 S0 ρ0 => ?_
  dsimp only [argT,argH]
  repeat' first|(apply n3;(exact a_litE eY [] rfl rfl rfl rfl rfl rfl rfl rfl);exact rfl;refine dA ?_)|(apply p3;(first|exact pu1|exact puN|exact puC);exact rfl)|refine cd ?_|((refine g_cond rfl (fun hc => ?_) (fun hc => ?_)) <;> (try simp only [dcB] at hc) <;> (try first|contradiction|(exfalso;omega)))|fail
  refine g_loop_id ?_
  refine loopK [0,2,3] [0] (fun x : Int × List Int => 0 ≤ x.1 ∧ x.1 ≤ u.length ∧ x.2 = (u.take x.1.toNat).map (fun x => 48 + x)) (fun x => [(4,.one (int x.1))]) (fun x => [(0,.row 1 (rows eY x.2))]) (fun x => (u.length - x.1).toNat) ((0 : Int),[]) [0] (hI := ?_) (hr := ?_)
  · exact ⟨by simp,by simp,by simp⟩
  · rintro ⟨i,out⟩ ⟨j0,j1,j2⟩
    dsimp only [List.cons_append,List.nil_append] at *
    skip
    have jl : (out.length : Int) ≤ 1048576 := by rw [j2,List.length_map,List.length_take]; omega
    repeat' first|(apply p3;(first|exact pu1|exact puN|exact puC);exact rfl)|refine cdn ?_|refine g_reg (id := 5) ?_|((refine g_cond rfl (fun hc => ?_) (fun hc => ?_)) <;> (try simp only [dcB] at hc) <;> (try first|contradiction|(exfalso;omega)))|fail
    · have := hg i.toNat (by omega)
      repeat' first|(apply n3;(exact a_litE eY [_] rfl rfl rfl rfl rfl rfl rfl rfl);exact rfl;refine dA ?_)|(apply p3;(first|exact pu1|exact a_add rfl rfl (by omega) (by omega)|exact a_to8 rfl Tryz.underlying2 Tryz.underlying5 (by omega) (by omega)|exact puI);exact rfl)|refine cd ?_|(apply s3;exact a_appE (fP rfl) rfl rfl rfl rfl nowR (by (simp <;> omega)) (by decide) (by decide) (by exact rfl);exact rfl;exact rfl)|fail
      refine q_again (i + 1,_) [2] (by exact stk) ?_ ?_
      · dsimp only
        refine ⟨by omega,by omega,?_⟩
        rw [j2,← map_snoc u i j0 hc]
      · dsimp only; omega
    · have e2 : out = u.map fun x => 48 + x := by rw [j2,List.take_of_length_le (by omega)]
      rw [e2]
      repeat' first|(apply p3;(first|exact pu1|exact a_toStr rfl (by exact rfl) Tryz.underlying22 Tryz.underlying5 Tryz.underlying9);exact rfl)|refine cd ?_|fail
      repeat refine cr ?_
      refine ends_id ?_
      refine endK [] (h2 := ?_) (h3 := ?_) (nd := ?_)
      all_goals (repeat' first|exact ce0|refine ce ?_|refine ce2 ?_ ?_|exact SVLe.refl|refine ceb ?_)
      all_goals first | exact (show nodupB _ = true from rfl) | exact Or.inr rfl | (rfl)
theorem digitsText_ok (u : List Int) (hx : (u.length : Int) ≤ 1048576) (hd : ∀ x ∈ u,0 ≤ x ∧ x ≤ 9) : Does Tryz.prog 106 [.one (shI u)] [] (.one (str (digT u))) [] := by
  have hg : ∀ (i : Nat) (h : i < u.length),0 ≤ u[i] ∧ u[i] ≤ 9 := fun i h => hd _ (List.getElem_mem h)
  refine does_of (k := 0) Tryz.func106 rfl Tryz.ntmps106 rfl rfl fun w F0 S0 ρ0 => ?_
  dsimp only [argT,argH]
  repeat' first|(apply n3;exact a_newB;exact rfl;refine dA ?_)|(apply p3;(first|exact pu1|exact puN);exact rfl)|refine cd ?_|fail
  refine g_loop_id ?_
  refine loopK [2,3,6,7] [0] (fun x : Int × Bs => 0 ≤ x.1 ∧ x.1 ≤ u.length ∧ x.2 = digT (u.take x.1.toNat)) (fun x => [(8,.one (int x.1))]) (fun x => [(0,bldr x.2)]) (fun x => (u.length - x.1).toNat) ((0 : Int),[]) [0] (hI := ?_) (hr := ?_)
  · exact ⟨by simp,by simp,by simp [digT,byt]⟩
  · rintro ⟨i,out⟩ ⟨j0,j1,j2⟩
    dsimp only [List.cons_append,List.nil_append] at *
    skip
    have jl : (out.length : Int) ≤ 1048576 := by rw [j2,digT_len,List.length_take]; omega
    repeat' first|(apply p3;(first|exact pu1|exact puC|exact puI);exact rfl)|refine cdn ?_|refine g_reg (id := 3) ?_|refine g_reg (id := 4) ?_|refine g_reg (id := 7) ?_|(apply c4 0;exact callK1 (θ := [_]) (hD := (String_ok _));exact rfl;exact rfl;exact rfl;refine dM ?_)|((refine g_cond rfl (fun hc => ?_) (fun hc => ?_)) <;> (try simp only [dcB] at hc) <;> (try first|contradiction|(exfalso;omega)))|fail
    · have := hg i.toNat (by omega)
      repeat' first|(apply p3;(first|exact pu1|exact a_to32 rfl Tryz.underlying2 Tryz.underlying21 (by omega) (by omega)|exact a_add32 rfl rfl (by omega) (by omega)|exact a_add rfl rfl (by omega) (by omega));exact rfl)|refine cd ?_|(apply c4 0;exact callK1 (θ := [_]) (hD := (WriteRune_ok _ _ preB49 preB49 preB49));exact rfl;exact rfl;exact rfl;refine dM ?_)|fail
      refine q_again (i + 1,_) [0] (by exact stk) ?_ ?_
      · dsimp only
        refine ⟨by omega,by omega,?_⟩
        rw [j2,← digT_snoc u i j0 hc]
      · dsimp only; omega
    · have e2 : out = digT u := by rw [j2,List.take_of_length_le (by omega)]
      rw [e2]
      skip
      repeat refine cr ?_
      refine ends_id ?_
      refine endK [] (h2 := ?_) (h3 := ?_) (nd := ?_)
      all_goals (repeat' first|exact ce0|refine ce ?_|refine ce2 ?_ ?_|exact SVLe.refl|refine ceb ?_)
      all_goals first | exact (show nodupB _ = true from rfl) | exact Or.inr rfl | (rfl)
theorem wordText_ok (u : List Int) (hx : (u.length : Int) ≤ 1048576) (hd : ∀ x ∈ u,0 ≤ x ∧ x ≤ 9) : Does Tryz.prog 307 [.one (shI u)] [] (.one (str (wdT u))) [] := by
  by_cases h0 : (u.length : Int) = 0
  · have e : wdT u = [45] := by unfold wdT; rw [if_pos (List.eq_nil_of_length_eq_zero (by omega))]
    rw [e]
    refine does_of (k := 0) Tryz.func307 rfl Tryz.ntmps307 rfl rfl fun w F0 S0 ρ0 => ?_
    dsimp only [argT,argH]
    repeat' first|(apply p3;(first|exact pu1|exact puN|exact puC);exact rfl)|refine cd ?_|((refine g_cond rfl (fun hc => ?_) (fun hc => ?_)) <;> (try simp only [dcB] at hc) <;> (try first|contradiction|(exfalso;omega)))|fail
    repeat refine cr ?_
    refine ends_id ?_
    refine endK [] (h2 := ?_) (h3 := ?_) (nd := ?_)
    all_goals (repeat' first|exact ce0|refine ce ?_|refine ce2 ?_ ?_|exact SVLe.refl|refine ceb ?_)
    all_goals first | exact (show nodupB _ = true from rfl) | exact Or.inr rfl | (rfl)
  have e : wdT u = digT u := by unfold wdT; rw [if_neg (fun h => h0 (by rw [h]; rfl))]
  rw [e]
  refine does_of (k := 0) Tryz.func307 rfl Tryz.ntmps307 rfl rfl fun w F0 S0 ρ0 => ?_
  dsimp only [argT,argH]
  repeat' first|(apply p3;(first|exact pu1|exact puN|exact puC);exact rfl)|refine cd ?_|(apply c4 0;exact callK1 (θ := []) (hD := (digitsText_ok _ preB49 preB49));exact rfl;exact rfl;exact rfl;refine dM ?_)|((refine g_cond rfl (fun hc => ?_) (fun hc => ?_)) <;> (try simp only [dcB] at hc) <;> (try first|contradiction|(exfalso;omega)))|fail
  repeat refine cr ?_
  refine ends_id ?_
  refine endK [] (h2 := ?_) (h3 := ?_) (nd := ?_)
  all_goals (repeat' first|exact ce0|refine ce ?_|refine ce2 ?_ ?_|exact SVLe.refl|refine ceb ?_)
  all_goals first | exact (show nodupB _ = true from rfl) | exact Or.inr rfl | (rfl)
theorem Decimal_ok (n : Int) (h0 : -9223372036854775808 ≤ n) (h1 : n ≤ 9223372036854775807) : Does Tryz.prog 90 [.one (int n)] [] (.one (str (decT n))) [] := by
  have e : decT n = Lib.itoa n := by unfold decT; rfl
  rw [e]
  refine does_of (k := 0) Tryz.func90 rfl Tryz.ntmps90 rfl rfl fun w F0 S0 ρ0 => ?_
  dsimp only [argT,argH]
  repeat' first|(apply p3;exact pu1;exact rfl)|refine cd ?_|(apply c4 0;exact callK1 (θ := []) (hD := (FormatInt_ok _ preB49 preB49));exact rfl;exact rfl;exact rfl;refine dM ?_)|fail
  repeat refine cr ?_
  refine ends_id ?_
  refine endK [] (h2 := ?_) (h3 := ?_) (nd := ?_)
  all_goals (repeat' first|exact ce0|refine ce ?_|refine ce2 ?_ ?_|exact SVLe.refl|refine ceb ?_)
  all_goals first | exact (show nodupB _ = true from rfl) | exact Or.inr rfl | (rfl)
end Go.Proofs.YtnkeamihfiobdaaGreatDoor
end
section
set_option linter.unusedVariables false
set_option linter.unusedSimpArgs false
set_option maxRecDepth 100000
set_option maxHeartbeats 4000000
namespace Go.Proofs.YtnkeamihfiobdaaGreatDoor
open Go Foot
@[irreducible] def crB (s : Int) : Int := if 65535 < s * 2 then xorI (andI (s * 2) 65535) 4129 else s * 2
def crS : Nat → Int → Int
  | 0,s => s
  | k + 1,s => crS k (crB s)
@[irreducible] def crX (s : Int) (b : UInt8) : Int := xorI s ((b.toNat : Nat) * 256)
def crC : Bs → Int → Int
  | [],s => s
  | b :: r,s => crC r (crS 8 (crX s b))
def Ok16 (s : Int) : Prop := 0 ≤ s ∧ s < 65536
theorem crB_bd {s : Int} (h : Ok16 s) : Ok16 (crB s) := by
  obtain ⟨h0,h1⟩ := h
  unfold crB
  split
  · have := andI_bd (a := s * 2) (by omega) (by omega)
    exact xorI_bd this.1 this.2 (by decide) (by decide)
  · exact ⟨by omega,by omega⟩
theorem crS_bd : ∀ (k : Nat) {s : Int},Ok16 s → Ok16 (crS k s)
  | 0,s,h => h
  | k + 1,s,h => crS_bd k (crB_bd h)
theorem crX_bd {s : Int} (b : UInt8) (h : Ok16 s) : Ok16 (crX s b) := by
  have := byte_lt b
  unfold crX
  exact xorI_bd h.1 h.2 (by omega) (by omega)
theorem crC_bd : ∀ (l : Bs) {s : Int},Ok16 s → Ok16 (crC l s)
  | [],s,h => h
  | b :: l,s,h => crC_bd l (crS_bd 8 (crX_bd b h))
theorem drop_at {l : Bs} {i : Int} (h0 : 0 ≤ i) (h : i < l.length) : l.drop i.toNat = l.getD i.toNat 0 :: l.drop (i + 1).toNat := by
  rw [List.drop_eq_getElem_cons (show i.toNat < l.length by omega),show (i + 1).toNat = i.toNat + 1 by omega,List.getD_eq_getElem?_getD,List.getElem?_eq_getElem (by omega)]
  rfl
theorem l01Crc_ok (s : Bs) (a : Int) (hs : (s.length : Int) ≤ 1048576) (h0 : 0 ≤ a) (h1 : a < 65536) : Does Tryz.prog 255 [.one (str s),.one (int a)] [] (.one (int (crC s a))) [] := by
  refine does_of (k := 0) Tryz.func255 rfl Tryz.ntmps255 rfl rfl fun w F0 S0 ρ0 => ?_
  dsimp only [argT,argH]
  repeat' first|(apply p3;(exact pu1);exact rfl)|refine cd ?_|fail
  refine g_loop_id ?_
  refine loopK [0,4] [] (fun x : Int × Int => 0 ≤ x.1 ∧ x.1 ≤ s.length ∧ Ok16 x.2 ∧ crC (s.drop x.1.toNat) x.2 = crC s a) (fun x => [(5,.one (int x.1)),(1,.one (int x.2))]) (fun _ => []) (fun x => (s.length - x.1).toNat) ((0 : Int),a) [] (hI := ?_) (hr := ?_)
  · exact ⟨by simp,by dsimp only; omega,⟨h0,h1⟩,by simp⟩
  · rintro ⟨i,u⟩ ⟨j0,j1,j2,j3⟩
    dsimp only [List.cons_append,List.nil_append] at *
    skip
    have j4 := j2.1; have j5 := j2.2; have j6 := byte_lt (s.getD i.toNat 0)
    repeat' first|(apply p3;(first|exact pu1|exact a_lenT rfl (fT rfl)|exact puC|exact a_idxS rfl rfl (fT rfl) (by omega) bnd|exact a_of8 rfl Tryz.underlying5 Tryz.underlying2 (by omega) (by first|omega|exact byte_lt _)|exact a_shl8 rfl rfl (by omega) (by omega)|exact a_xorI rfl rfl);exact rfl)|refine cd ?_|((refine g_cond rfl (fun hc => ?_) (fun hc => ?_)) <;> (try simp only [dcB] at hc) <;> (try first|contradiction|(exfalso;omega)))|fail
    · have hx : xorI u (((s.getD i.toNat 0).toNat : Nat) * 256) = crX u (s.getD i.toNat 0) := by unfold crX; rfl
      rw [hx]
      have hX := crX_bd (s.getD i.toNat 0) j2
      rw [drop_at j0 hc,crC] at j3
      generalize crX u (s.getD i.toNat 0) = v at *
      refine g_loop_id ?_
      refine loopK [0,4,5] [] (fun x : Int × Int => 0 ≤ x.1 ∧ x.1 ≤ 8 ∧ Ok16 x.2 ∧ crS (8 - x.1).toNat x.2 = crS 8 v) (fun x => [(6,.one (int x.1)),(1,.one (int x.2))]) (fun _ => []) (fun x => (8 - x.1).toNat) ((0 : Int),v) [] (hI := ?_) (hr := ?_)
      · exact ⟨by simp,by simp,hX,rfl⟩
      · rintro ⟨k,z⟩ ⟨l0,l1,l2,l3⟩
        dsimp only [List.cons_append,List.nil_append] at *
        skip
        have l4 := l2.1; have l5 := l2.2
        repeat' first|(apply p3;(first|exact pu1|exact puC|exact a_shl1 rfl rfl (by omega) (by omega)|exact a_andI rfl rfl|exact a_xorI rfl rfl|exact a_add rfl rfl (by omega) (by omega));exact rfl)|refine cd ?_|((refine g_cond rfl (fun hc => ?_) (fun hc => ?_)) <;> (try simp only [dcB] at hc) <;> (try first|contradiction|(exfalso;omega)))|fail
        · have e : crB z = xorI (andI (z * 2) 65535) 4129 := by unfold crB; rw [if_pos hc]
          refine q_again (k + 1,_) [] (by exact stk) ?_ ?_
          · dsimp only
            refine ⟨by omega,by omega,?_,?_⟩
            · rw [← e]; exact crB_bd l2
            · rw [← e,← l3,show (8 - k).toNat = (8 - (k + 1)).toNat + 1 by omega,crS]
          · dsimp only; omega
        · have e : crB z = z * 2 := by unfold crB; rw [if_neg hc]
          refine q_again (k + 1,_) [] (by exact stk) ?_ ?_
          · dsimp only
            refine ⟨by omega,by omega,?_,?_⟩
            · rw [← e]; exact crB_bd l2
            · rw [← e,← l3,show (8 - k).toNat = (8 - (k + 1)).toNat + 1 by omega,crS]
          · dsimp only; omega
        · refine q_again (i + 1,z) [] (by exact stk) ?_ ?_
          · dsimp only
            refine ⟨by omega,by omega,l2,?_⟩
            have e : z = crS 8 v := by rw [← l3,show (8 - k).toNat = 0 by omega]; rfl
            rw [e]
            exact j3
          · dsimp only; omega
    · have e : u = crC s a := by rw [← j3,List.drop_eq_nil_of_le (by omega)]; rfl
      repeat refine cr ?_
      refine ends_id ?_
      refine endK [] (h2 := ?_) (h3 := ?_) (nd := ?_)
      all_goals (repeat' first|exact ce0|refine ce ?_|refine ce2 ?_ ?_|exact SVLe.refl|refine ceb ?_)
      all_goals first | exact (show nodupB _ = true from rfl) | exact Or.inr rfl | (exact e)
theorem Crc16_ok (s : Bs) (a : Int) (hs : (s.length : Int) ≤ 1048576) (h0 : 0 ≤ a) (h1 : a < 65536) : Does Tryz.prog 338 [.one (str s),.one (int a)] [] (.one (int (crC s a))) [] := by
  refine does_of (k := 0) Tryz.func338 rfl Tryz.ntmps338 rfl rfl fun w F0 S0 ρ0 => ?_
  dsimp only [argT,argH]
  repeat' first|(apply p3;(exact pu1);exact rfl)|refine cd ?_|(apply c4 0;exact callK1 (θ := []) (hD := (within_ok _ _ _));exact rfl;exact rfl;exact rfl;refine dM ?_)|((refine g_cond rfl (fun hc => ?_) (fun hc => ?_)) <;> (try simp only [dcB] at hc) <;> (try first|contradiction|(exfalso;omega)))|fail
  refine g_loop_id ?_
  refine loopK [0,4] [] (fun x : Int × Int => 0 ≤ x.1 ∧ x.1 ≤ s.length ∧ Ok16 x.2 ∧ crC (s.drop x.1.toNat) x.2 = crC s a) (fun x => [(6,.one (int x.1)),(5,.one (int x.2))]) (fun _ => []) (fun x => (s.length - x.1).toNat) ((0 : Int),a) [] (hI := ?_) (hr := ?_)
  · exact ⟨by simp,by dsimp only; omega,⟨h0,h1⟩,by simp⟩
  · rintro ⟨i,u⟩ ⟨j0,j1,j2,j3⟩
    dsimp only [List.cons_append,List.nil_append] at *
    skip
    have j4 := j2.1; have j5 := j2.2; have j6 := byte_lt (s.getD i.toNat 0)
    repeat' first|(apply p3;(first|exact pu1|exact a_lenT rfl (fT rfl)|exact puC|exact a_idxS rfl rfl (fT rfl) (by omega) bnd|exact a_of8 rfl Tryz.underlying5 Tryz.underlying2 (by omega) (by first|omega|exact byte_lt _)|exact a_mulB rfl rfl (by omega) (by omega) (by omega) (by omega)|exact a_xorI rfl rfl);exact rfl)|refine cd ?_|((refine g_cond rfl (fun hc => ?_) (fun hc => ?_)) <;> (try simp only [dcB] at hc) <;> (try first|contradiction|(exfalso;omega)))|fail
    · have hx : xorI u (((s.getD i.toNat 0).toNat : Nat) * 256) = crX u (s.getD i.toNat 0) := by unfold crX; rfl
      rw [hx]
      have hX := crX_bd (s.getD i.toNat 0) j2
      rw [drop_at j0 hc,crC] at j3
      generalize crX u (s.getD i.toNat 0) = v at *
      refine g_loop_id ?_
      refine loopK [0,4,6] [] (fun x : Int × Int => 0 ≤ x.1 ∧ x.1 ≤ 8 ∧ Ok16 x.2 ∧ crS (8 - x.1).toNat x.2 = crS 8 v) (fun x => [(24,.one (int x.1)),(5,.one (int x.2))]) (fun _ => []) (fun x => (8 - x.1).toNat) ((0 : Int),v) [] (hI := ?_) (hr := ?_)
      · exact ⟨by simp,by simp,hX,rfl⟩
      · rintro ⟨k,z⟩ ⟨l0,l1,l2,l3⟩
        dsimp only [List.cons_append,List.nil_append] at *
        skip
        have l4 := l2.1; have l5 := l2.2
        repeat' first|(apply p3;(first|exact pu1|exact puC|exact a_mulB rfl rfl (by omega) (by omega) (by omega) (by omega)|exact a_andI rfl rfl|exact a_xorI rfl rfl|exact a_add rfl rfl (by omega) (by omega));exact rfl)|refine cd ?_|((refine g_cond rfl (fun hc => ?_) (fun hc => ?_)) <;> (try simp only [dcB] at hc) <;> (try first|contradiction|(exfalso;omega)))|fail
        · have e : crB z = xorI (andI (z * 2) 65535) 4129 := by unfold crB; rw [if_pos hc]
          refine q_again (k + 1,_) [] (by exact stk) ?_ ?_
          · dsimp only
            refine ⟨by omega,by omega,?_,?_⟩
            · rw [← e]; exact crB_bd l2
            · rw [← e,← l3,show (8 - k).toNat = (8 - (k + 1)).toNat + 1 by omega,crS]
          · dsimp only; omega
        · have e : crB z = z * 2 := by unfold crB; rw [if_neg hc]
          refine q_again (k + 1,_) [] (by exact stk) ?_ ?_
          · dsimp only
            refine ⟨by omega,by omega,?_,?_⟩
            · rw [← e]; exact crB_bd l2
            · rw [← e,← l3,show (8 - k).toNat = (8 - (k + 1)).toNat + 1 by omega,crS]
          · dsimp only; omega
        · refine q_again (i + 1,z) [] (by exact stk) ?_ ?_
          · dsimp only
            refine ⟨by omega,by omega,l2,?_⟩
            have e : z = crS 8 v := by rw [← l3,show (8 - k).toNat = 0 by omega]; rfl
            rw [e]
            exact j3
          · dsimp only; omega
    · have e : u = crC s a := by rw [← j3,List.drop_eq_nil_of_le (by omega)]; rfl
      repeat refine cr ?_
      refine ends_id ?_
      refine endK [] (h2 := ?_) (h3 := ?_) (nd := ?_)
      all_goals (repeat' first|exact ce0|refine ce ?_|refine ce2 ?_ ?_|exact SVLe.refl|refine ceb ?_)
      all_goals first | exact (show nodupB _ = true from rfl) | exact Or.inr rfl | (exact e)
end Go.Proofs.YtnkeamihfiobdaaGreatDoor
end
section
set_option linter.unusedVariables false
set_option linter.unusedSimpArgs false
set_option maxRecDepth 100000
set_option maxHeartbeats 4000000
namespace Go.Proofs.YtnkeamihfiobdaaGreatDoor
open Go Foot
structure Rule' where
  w : Int
  m : Int
  n : Int
  deriving DecidableEq
abbrev eR : Enc Rule' := ⟨3,fun r => [.sc (.int .i64 r.w),.sc (.int .i64 r.m),.sc (.int .i64 r.n)],fun _ => rfl,by decide⟩
abbrev shR (l : List Rule') : C := .d (.sl false 3 (rows eR l))
abbrev ruC (r : Rule') : List C := [int r.w,int r.m,int r.n]
structure Mach where
  sy : Int
  st : Int
  ru : List Rule'
abbrev maC (m : Mach) : List C := [int m.sy,int m.st,shR m.ru]
structure Conf where
  st : Int
  le : List Int
  ri : List Int
theorem preA2 {p : Prop} (h : p := by first | with_reducible assumption | omega | (simp only [List.length_append,List.length_cons,List.length_nil,List.length_set,List.length_replicate,List.length_take,List.length_drop,List.length_tail,List.length_dropLast,List.length_reverse] at *; omega) | trivial) : p := h
theorem szRuleS_ok (xs : List Rule') (left : Int) (h1 : left ≤ 1048576) (h2 : 0 ≤ left) (hx : (xs.length : Int) ≤ 9223372036854775807) : Does Tryz.prog 196 [.one (shR xs),.one (int left)] [] (.one (int (szL xs.length left))) [] := by
  refine does_of (k := 0) Tryz.func196 rfl Tryz.ntmps196 rfl rfl fun w F0 S0 ρ0 => ?_
  dsimp only [argT,argH]
  repeat' first|(apply p3;(first|exact pu1|exact puN|exact a_sub rfl rfl (by omega) (by omega)|exact puC);exact rfl)|refine cd ?_|((refine g_cond rfl (fun hc => ?_) (fun hc => ?_)) <;> (try simp only [dcB] at hc) <;> (try first|contradiction|(exfalso;omega)))|fail
  all_goals
    repeat refine cr ?_
    refine ends_id ?_
    refine endK [] (h2 := ?_) (h3 := ?_) (nd := ?_)
    all_goals (repeat' first|exact ce0|refine ce ?_|refine ce2 ?_ ?_|exact SVLe.refl|refine ceb ?_)
    all_goals first | exact (show nodupB _ = true from rfl) | exact Or.inr rfl | ((unfold szL; simp [*]))
theorem szMachine_ok (m : Mach) (left : Int) (h1 : left ≤ 1048576) (h2 : 0 ≤ left) (hx : (m.ru.length : Int) ≤ 9223372036854775807) : Does Tryz.prog 129 [.agg (maC m),.one (int left)] [] (.one (int (szL m.ru.length left))) [] := by
  refine does_of (k := 0) Tryz.func129 rfl Tryz.ntmps129 rfl rfl fun w F0 S0 ρ0 => ?_
  dsimp only [argT,argH]
  repeat' first|(apply n3;exact a_new (gb := .bx _) rfl;exact rfl;refine dA ?_)|(apply p3;(first|exact pu1|exact puC);exact rfl)|refine cd ?_|(apply c4 0;exact callK1 (θ := []) (hD := (szRuleS_ok _ _ preA2 preA2 preA2));exact rfl;exact rfl;exact rfl;refine dM ?_)|((refine g_cond rfl (fun hc => ?_) (fun hc => ?_)) <;> (try simp only [dcB] at hc) <;> (try first|contradiction|(exfalso;omega)))|fail
  · repeat refine cr ?_
    refine ends_id ?_
    refine endK [] (h2 := ?_) (h3 := ?_) (nd := ?_)
    all_goals (repeat' first|exact ce0|refine ce ?_|refine ce2 ?_ ?_|exact SVLe.refl|refine ceb ?_)
    all_goals first | exact (show nodupB _ = true from rfl) | exact Or.inr rfl | (((unfold szL at *; split at hc <;> simp_all <;> omega)))
  · repeat refine cr ?_
    refine ends_id ?_
    refine endK [] (h2 := ?_) (h3 := ?_) (nd := ?_)
    all_goals (repeat' first|exact ce0|refine ce ?_|refine ce2 ?_ ?_|exact SVLe.refl|refine ceb ?_)
    all_goals first | exact (show nodupB _ = true from rfl) | exact Or.inr rfl | (rfl)
theorem toRule_ok (r : Rule') : Does Tryz.prog 256 [.agg (ruC r)] [] (.agg (ruC r)) [] := by
  refine does_of (k := 0) Tryz.func256 rfl Tryz.ntmps256 rfl rfl fun w F0 S0 ρ0 => ?_
  dsimp only [argT,argH]
  repeat' first|(apply n3;exact a_new (gb := .bx _) rfl;exact rfl;refine dA ?_)|(apply p3;exact puL;exact rfl)|refine cd ?_|(apply w3;(exact a_st_bx rfl rfl rfl rfl (fN rfl rfl) (Nat.le_of_ble_eq_true rfl) rfl);exact rfl;refine dS ?_)|fail
  repeat refine cr ?_
  refine ends_id ?_
  refine endK [] (h2 := ?_) (h3 := ?_) (nd := ?_)
  all_goals (repeat' first|exact ce0|refine ce ?_|refine ce2 ?_ ?_|exact SVLe.refl|refine ceb ?_)
  all_goals first | exact (show nodupB _ = true from rfl) | exact Or.inr rfl | (rfl)
theorem toRuleS_ok (xs : List Rule') (hx : (xs.length : Int) ≤ 1048576) : Does Tryz.prog 205 [.one (shR xs)] [] (.one (.gv 0)) [.row 3 (rows eR xs)] := by
  refine does_of (k := 0) Tryz.func205 rfl Tryz.ntmps205 rfl rfl fun w F0 S0 ρ0 => ?_
  dsimp only [argT,argH]
  repeat' first|(apply n3;exact a_make (fE rfl) (fZ rfl) (fP rfl) (by decide) rfl rfl (by omega) rfl (by omega) (by omega) (rows_rep eR ⟨0,0,0⟩ _);exact rfl;refine dA ?_)|(apply p3;(first|exact pu1|exact puN);exact rfl)|refine cd ?_|fail
  refine g_loop_id ?_
  refine loopK [0,2,3] [0] (fun x : Int × List Rule' => 0 ≤ x.1 ∧ x.1 ≤ xs.length ∧ x.2.length = xs.length ∧ ∀ k (h : k < xs.length),k < x.1 → x.2[k]? = some xs[k]) (fun x => [(4,.one (int x.1))]) (fun x => [(0,.row 3 (rows eR x.2))]) (fun x => (xs.length - x.1).toNat) ((0 : Int),List.replicate xs.length (⟨0,0,0⟩ : Rule')) [0] (hI := ?_) (hr := ?_)
  · exact ⟨by simp,by simp,by simp,by intro k h h'; simp at h'; omega⟩
  · rintro ⟨i,l⟩ ⟨h0,h1,h2,h3⟩
    dsimp only [List.cons_append,List.nil_append] at *
    skip
    repeat' first|(apply p3;(first|exact pu1|exact puN|exact puC|exact a_add rfl rfl (by omega) (by omega)|exact puI);exact rfl)|refine cd ?_|(apply w3;(exact a_stE (E := eR) ⟨_,_,_⟩ rfl rfl rfl rfl (fN rfl rfl) bnd (by exact rfl));exact rfl;refine dS ?_)|(apply c4 0;exact callK1 (θ := []) (hD := (toRule_ok _));exact rfl;exact rfl;exact rfl;refine dM ?_)|((refine g_cond rfl (fun hc => ?_) (fun hc => ?_)) <;> (try simp only [dcB] at hc) <;> (try first|contradiction|(exfalso;omega)))|fail
    · refine q_again (i + 1,_) [0] (by exact stk) ?_ ?_
      · refine ⟨by dsimp only; omega,by dsimp only; omega,by simp [h2],fun k h h' => ?_⟩
        dsimp only at h' ⊢
        rw [List.getElem?_set]
        split
        · rename_i e
          subst e
          rw [if_pos (by omega)]
          rfl
        · exact h3 k h (by omega)
      · dsimp only; omega
    · have hl : l = xs := by
        apply List.ext_getElem?
        intro k
        by_cases hk : k < xs.length
        · rw [h3 k hk (by omega),List.getElem?_eq_getElem hk]
        · rw [List.getElem?_eq_none (by omega),List.getElem?_eq_none (by omega)]
      subst hl
      repeat refine cr ?_
      refine ends_id ?_
      refine endK [?_] (h2 := ?_) (h3 := ?_) (nd := ?_)
      rotate_left 1
      all_goals (repeat' first|exact ce0|refine ce ?_|refine ce2 ?_ ?_|(refine Or.inr (bx_eq rfl rfl ?_);(try dsimp only [C.ren,C.ren.all]);(try exact rfl))|exact SVLe.refl|refine ceb ?_)
      all_goals first | exact (show nodupB _ = true from rfl) | exact Or.inr rfl | (rfl)
abbrev maO (m : Mach) (g : Nat) : List C := [int m.sy,int m.st,.gv g]
theorem toMachine_ok (m : Mach) (hx : (m.ru.length : Int) ≤ 1048576) : Does Tryz.prog 135 [.agg (maC m)] [] (.agg (maO m 0)) [.row 3 (rows eR m.ru)] := by
  refine does_of (k := 0) Tryz.func135 rfl Tryz.ntmps135 rfl rfl fun w F0 S0 ρ0 => ?_
  dsimp only [argT,argH]
  repeat' first|(apply n3;exact a_new (gb := .bx _) rfl;exact rfl;refine dA ?_)|(apply p3;exact puL;exact rfl)|refine cd ?_|(apply w3;(exact a_st_bx rfl rfl rfl rfl (fN rfl rfl) (Nat.le_of_ble_eq_true rfl) rfl);exact rfl;refine dS ?_)|(apply c4 1;exact callK1 (θ := []) (hD := (toRuleS_ok _ preA2));exact rfl;exact rfl;exact rfl;refine dM ?_)|fail
  repeat refine cr ?_
  refine ends_id ?_
  refine endK [?_] (h2 := ?_) (h3 := ?_) (nd := ?_)
  rotate_left 1
  all_goals (repeat' first|exact ce0|refine ce ?_|refine ce2 ?_ ?_|(refine Or.inr (bx_eq rfl rfl ?_);(try dsimp only [C.ren,C.ren.all]);(try exact rfl))|exact SVLe.refl|refine ceb ?_)
  all_goals first | exact (show nodupB _ = true from rfl) | exact Or.inr rfl | (rfl)
@[irreducible] def eqR (a b : Rule') : Bool := decide (a = b)
theorem eqRule_ok (a b : Rule') : Does Tryz.prog 264 [.agg (ruC a),.agg (ruC b)] [] (.one (boo (eqR a b))) [] := by
  obtain ⟨a1,a2,a3⟩ := a
  obtain ⟨b1,b2,b3⟩ := b
  refine does_of (k := 0) Tryz.func264 rfl Tryz.ntmps264 rfl rfl fun w F0 S0 ρ0 => ?_
  dsimp only [argT,argH]
  repeat' first|(apply n3;exact a_new (gb := .bx _) rfl;exact rfl;refine dA ?_)|(apply p3;(first|exact a_ne rfl rfl|exact puL);exact rfl)|refine cd ?_|((refine g_cond rfl (fun hc => ?_) (fun hc => ?_)) <;> (try simp only [dcB] at hc) <;> (try first|contradiction|(exfalso;omega)))|fail
  all_goals
    repeat refine cr ?_
    refine ends_id ?_
    refine endK [] (h2 := ?_) (h3 := ?_) (nd := ?_)
    all_goals (repeat' first|exact ce0|refine ce ?_|refine ce2 ?_ ?_|exact SVLe.refl|refine ceb ?_)
    all_goals first | exact (show nodupB _ = true from rfl) | exact Or.inr rfl | ((unfold eqR; symm; simp [*]))
@[irreducible] def eqRs (a b : List Rule') : Bool := decide (a = b)
theorem eqRuleS_ok (xs ys : List Rule') (hx : (xs.length : Int) ≤ 1048576) (hy : (ys.length : Int) ≤ 1048576) : Does Tryz.prog 222 [.one (shR xs),.one (shR ys)] [] (.one (boo (eqRs xs ys))) [] := by
  refine does_of (k := 0) Tryz.func222 rfl Tryz.ntmps222 rfl rfl fun w F0 S0 ρ0 => ?_
  dsimp only [argT,argH]
  repeat' first|(apply p3;(first|exact pu1|exact puN|exact a_ne rfl rfl);exact rfl)|refine cd ?_|((refine g_cond rfl (fun hc => ?_) (fun hc => ?_)) <;> (try simp only [dcB] at hc) <;> (try first|contradiction|(exfalso;omega)))|fail
  · repeat refine cr ?_
    refine ends_id ?_
    refine endK [] (h2 := ?_) (h3 := ?_) (nd := ?_)
    all_goals (repeat' first|exact ce0|refine ce ?_|refine ce2 ?_ ?_|exact SVLe.refl|refine ceb ?_)
    all_goals first | exact (show nodupB _ = true from rfl) | exact Or.inr rfl | ((symm; unfold eqRs; rw [decide_eq_false_iff_not]; rintro rfl; omega))
  refine g_loop_id ?_
  refine loopK [0,1,4] [] (fun i : Int => 0 ≤ i ∧ i ≤ xs.length ∧ xs.take i.toNat = ys.take i.toNat) (fun i => [(5,.one (int i))]) (fun _ => []) (fun i => (xs.length - i).toNat) (0 : Int) [] (hI := ?_) (hr := ?_)
  · exact ⟨by simp,by simp,by simp⟩
  · rintro i ⟨h0,h1,h2⟩
    dsimp only [List.cons_append,List.nil_append] at *
    skip
    repeat' first|(apply p3;(first|exact pu1|exact puN|exact puC|exact a_add rfl rfl (by omega) (by omega));exact rfl)|refine cd ?_|(apply g_drN (id := 6) okM [[],[],[0,1],[0,1,2],[],[],[4,5],[4,5,6],[0,1,2,3,4,5,6,7],[0,1,2,3,4,5,6,7,8]] [([],[]),([],[]),([],[]),([],[]),([],[]),([],[]),([],[]),([],[]),([],[]),([],[])] 0;(focus (refine dp 0 0 [18,21,22,23,24] [] pu1 ?_;refine dp 1 0 [17,21,22,23,24] [] pu1 ?_;refine dp 2 3 [21,22,23,24] [] puI ?_;refine dp 3 7 [21,22,23,24] [] puL ?_;refine dp 4 0 [17,18,19,20,22] [] pu1 ?_;refine dp 5 0 [17,18,19,20,21] [] pu1 ?_;refine dp 6 3 [17,18,19,20] [] puI ?_;refine dp 7 7 [17,18,19,20] [] puL ?_;refine dp 8 255 [] [] (callD1 (n := _) 0 (θ := []) (hD := (eqRule_ok _ _))) ?_;refine dp 9 511 [] [] (a_pure (sv := .one _) rfl) ?_;(refine d_nil ?_;refine dN ?_)));any_goals kernel_rfl)|((refine g_cond rfl (fun hc => ?_) (fun hc => ?_)) <;> (try simp only [dcB] at hc) <;> (try first|contradiction|(exfalso;omega)))|fail
    · repeat refine cr ?_
      refine ends_id ?_
      refine endK [] (h2 := ?_) (h3 := ?_) (nd := ?_)
      all_goals (repeat' first|exact ce0|refine ce ?_|refine ce2 ?_ ?_|exact SVLe.refl|refine ceb ?_)
      all_goals first | exact (show nodupB _ = true from rfl) | exact Or.inr rfl | ((symm; unfold eqRs; rw [decide_eq_false_iff_not]; rintro rfl; unfold eqR at *; simp_all))
    · refine q_again (i + 1) [] (by exact stk) ?_ ?_
      · exact ⟨by omega,by omega,take_next h0 (by omega) (by omega) h2 (by unfold eqR at *; simp_all)⟩
      · omega
    · have hl := take_end (by omega) (by omega) h2
      repeat refine cr ?_
      refine ends_id ?_
      refine endK [] (h2 := ?_) (h3 := ?_) (nd := ?_)
      all_goals (repeat' first|exact ce0|refine ce ?_|refine ce2 ?_ ?_|exact SVLe.refl|refine ceb ?_)
      all_goals first | exact (show nodupB _ = true from rfl) | exact Or.inr rfl | ((symm; unfold eqRs; rw [decide_eq_true_eq]; exact hl))
@[irreducible] def eqM (a b : Mach) : Bool := decide (a.sy = b.sy ∧ a.st = b.st ∧ a.ru = b.ru)
theorem eqMachine_ok (a b : Mach) (ha : (a.ru.length : Int) ≤ 1048576) (hb : (b.ru.length : Int) ≤ 1048576) : Does Tryz.prog 149 [.agg (maC a),.agg (maC b)] [] (.one (boo (eqM a b))) [] := by
  refine does_of (k := 0) Tryz.func149 rfl Tryz.ntmps149 rfl rfl fun w F0 S0 ρ0 => ?_
  dsimp only [argT,argH]
  repeat' first|(apply n3;exact a_new (gb := .bx _) rfl;exact rfl;refine dA ?_)|(apply p3;(first|exact a_ne rfl rfl|exact puL);exact rfl)|refine cd ?_|(apply c4 0;exact callK1 (θ := []) (hD := (eqRuleS_ok _ _ preA2 preA2));exact rfl;exact rfl;exact rfl;refine dM ?_)|((refine g_cond rfl (fun hc => ?_) (fun hc => ?_)) <;> (try simp only [dcB] at hc) <;> (try first|contradiction|(exfalso;omega)))|fail
  all_goals
    repeat refine cr ?_
    refine ends_id ?_
    refine endK [] (h2 := ?_) (h3 := ?_) (nd := ?_)
    all_goals (repeat' first|exact ce0|refine ce ?_|refine ce2 ?_ ?_|exact SVLe.refl|refine ceb ?_)
    all_goals first | exact (show nodupB _ = true from rfl) | exact Or.inr rfl | ((symm; unfold eqM; (try unfold eqRs at *); simp_all))
end Go.Proofs.YtnkeamihfiobdaaGreatDoor
end
section
set_option linter.unusedVariables false
set_option linter.unusedSimpArgs false
set_option maxRecDepth 100000
set_option maxHeartbeats 4000000
namespace Go.Proofs.YtnkeamihfiobdaaGreatDoor
open Go Foot
theorem rule_eq1 : Tryz.prog.stoodInHeld 79 = false := by kernel_rfl
theorem rule_eq2 : Tryz.prog.eqGuardType Tryz.prog.depth 79 = false := by kernel_rfl
theorem rule_eq3 : Tryz.prog.underlying 79 = some (.struct (Tryz.prog.fieldsOf 79)) := by kernel_rfl
theorem rule_equal (r s : Rule') (W : World) : (Op.equalIn 10000 79 (.agg #[.int .i64 r.w,.int .i64 r.m,.int .i64 r.n]) (.agg #[.int .i64 s.w,.int .i64 s.m,.int .i64 s.n])).run Tryz.prog W = .ok (decide (r = s)) W := by
  obtain ⟨a,b,c⟩ := r
  obtain ⟨a',b',c'⟩ := s
  rw [run_equalIn_struct W 9999 _ _ _ rule_eq3 rule_eq1]
  have hf : Tryz.prog.fieldsOf 79 = match Tryz.prog.underlying 79 with | some (.struct fs) => fs | _ => #[] := by kernel_rfl
  rw [hf,Tryz.underlying79]
  by_cases h1 : a = a' <;> by_cases h2 : b = b' <;> by_cases h3 : c = c' <;> simp [go_sem,Tryz.underlying2,h1,h2,h3]
theorem rule_guard (op : BinOp) (p q : Operand) (xs ys : Array Value) (W : World) : (eqGuard op 79 p q (.agg xs) (.agg ys)).run Tryz.prog W = .ok () W := by
  unfold eqGuard
  cases op <;> simp [program,Sem.run,rule_eq2]
section
variable {g : Gh} {st : St} {dst : Option Tmp} {ty : TypeId} {pos : String} {after : Array Edge} {guard : Option (Nat × Bool)} {x y : Operand} {U : TypeId} {r s : Rule'}
theorem agg3 {w : World} {S : Foot} {ρ : Env} {r : Rule'} {v : Value} (h : RepS w S ρ (.agg (ruC r)) v) : v = .agg #[.int .i64 r.w,.int .i64 r.m,.int .i64 r.n] := by
  obtain ⟨vs,rfl,h⟩ := h
  simp only [RepCs,RepC,Rep] at h
  obtain ⟨v1,u1,e1,⟨rfl,_⟩,v2,u2,rfl,⟨rfl,_⟩,v3,u3,rfl,⟨rfl,_⟩,rfl⟩ := h
  cases vs
  simp at e1
  rw [e1]
theorem a_eqRule (e1 : opd st x = .agg (ruC r)) (e2 : opd st y = .agg (ruC s)) : Acts Tryz.prog g ⟨dst,.binOp .eql 79 x y U,ty,pos,after,guard⟩ st (.one (boo (decide (r = s)))) [] [] := by
  refine acts_of fun a w S ρ F h => ⟨.bool (decide (r = s)),?_,rfl,rfl⟩
  have h1 := h.opd x
  have h2 := h.opd y
  rw [e1] at h1
  rw [e2] at h2
  show (do pure (.value (← (do eqGuard .eql 79 x y (a.eval x) (a.eval y); binOp .eql 79 (a.eval x) (a.eval y)))) : Sem Next).run _ w = _
  rw [agg3 h1,agg3 h2]
  simp [rule_guard,run_eql_struct,rule_equal]
theorem a_neRule (e1 : opd st x = .agg (ruC r)) (e2 : opd st y = .agg (ruC s)) : Acts Tryz.prog g ⟨dst,.binOp .neq 79 x y U,ty,pos,after,guard⟩ st (.one (boo (!decide (r = s)))) [] [] := by
  refine acts_of fun a w S ρ F h => ⟨.bool (!decide (r = s)),?_,rfl,rfl⟩
  have h1 := h.opd x
  have h2 := h.opd y
  rw [e1] at h1
  rw [e2] at h2
  show (do pure (.value (← (do eqGuard .neq 79 x y (a.eval x) (a.eval y); binOp .neq 79 (a.eval x) (a.eval y)))) : Sem Next).run _ w = _
  rw [agg3 h1,agg3 h2]
  simp [rule_guard,run_neq_struct,rule_equal]
end
@[irreducible] def trimR (l : List Int) : List Int := (l.reverse.dropWhile (· == 0)).reverse
theorem trimR_len (l : List Int) : (trimR l).length ≤ l.length := by
  unfold trimR
  rw [List.length_reverse]
  have := (List.dropWhile_sublist (· == (0 : Int)) (l := l.reverse)).length_le
  rwa [List.length_reverse] at this
theorem l05None_ok : Does Tryz.prog 98 [] [] (.agg [int 0,int 0,int (-1)]) [] := by
  refine does_of (k := 0) Tryz.func98 rfl Tryz.ntmps98 rfl rfl fun w F0 S0 ρ0 => ?_
  dsimp only [argT,argH]
  repeat' first|(apply n3;exact a_new (gb := .bx _) rfl;exact rfl;refine dA ?_)|(apply p3;exact a_pure (sv := .agg _) rfl;exact rfl)|refine cd ?_|(apply w3;(exact a_st_bx rfl rfl rfl rfl (fN rfl rfl) (Nat.le_of_ble_eq_true rfl) rfl);exact rfl;refine dS ?_)|fail
  repeat refine cr ?_
  refine ends_id ?_
  refine endK [] (h2 := ?_) (h3 := ?_) (nd := ?_)
  all_goals (repeat' first|exact ce0|refine ce ?_|refine ce2 ?_ ?_|exact SVLe.refl|refine ceb ?_)
  all_goals first | exact (show nodupB _ = true from rfl) | exact Or.inr rfl | (rfl)
@[irreducible] def okRule (sy st : Int) (r : Rule') : Bool := decide (r = ⟨0,0,-1⟩ ∨ (0 ≤ r.w ∧ r.w ≤ sy - 1) ∧ (r.m = 1 ∨ r.m = -1) ∧ 0 ≤ r.n ∧ r.n ≤ st - 1)
theorem l05Rule_ok (r : Rule') (sy st : Int) (h1 : -1000 ≤ sy) (h2 : sy ≤ 1000) (h3 : -1000 ≤ st) (h4 : st ≤ 1000) : Does Tryz.prog 176 [.agg (ruC r),.one (int sy),.one (int st)] [] (.one (boo (okRule sy st r))) [] := by
  refine does_of (k := 0) Tryz.func176 rfl Tryz.ntmps176 rfl rfl fun w F0 S0 ρ0 => ?_
  dsimp only [argT,argH]
  repeat' first|(apply n3;exact a_new (gb := .bx _) rfl;exact rfl;refine dA ?_)|(apply p3;(first|exact pu1|exact a_sub rfl rfl (by omega) (by omega));exact rfl)|refine cd ?_|(apply c4 0;exact callK1 (θ := []) (hD := (l00In_ok _ _ _));exact rfl;exact rfl;exact rfl;refine dM ?_)|refine o_no rfl rfl rfl rfl ?_|(apply py3;exact rfl;exact rfl;(first|exact pu1|exact a_sub rfl rfl (by omega) (by omega)|exact puC);exact rfl;exact rfl)|(apply cy4 0;exact rfl;exact rfl;exact callK1 (θ := []) (hD := (l00In_ok _ _ _));exact rfl;exact rfl;exact rfl;exact rfl;refine dM ?_)|(apply g_drN (id := 1) okM [[],[],[0,1]] [([],[]),([],[]),([],[])] 0;(focus (refine dp 0 0 [8] [] puL ?_;refine dp 1 0 [7] [] (callD1 (n := _) 0 (θ := []) (hD := l05None_ok)) ?_;refine dp 2 3 [] [] (by exact a_eqRule (s := ⟨_,_,_⟩) rfl rfl) ?_;(refine d_nil ?_;refine dN ?_)));any_goals kernel_rfl)|((first|refine o_gs rfl rfl (fun hc => ?_) (fun hc => ?_)|refine g_cond rfl (fun hc => ?_) (fun hc => ?_)) <;> (try simp only [dcB] at hc) <;> (try first|contradiction|(exfalso;omega)))|fail
  all_goals
    repeat refine cr ?_
    refine ends_id ?_
    refine endK [] (h2 := ?_) (h3 := ?_) (nd := ?_)
    all_goals (repeat' first|exact ce0|refine ce ?_|refine ce2 ?_ ?_|exact SVLe.refl|refine ceb ?_)
    all_goals first | exact (show nodupB _ = true from rfl) | exact Or.inr rfl | ((unfold okRule; simp_all <;> omega))
@[irreducible] def stepS (r : Rule') (c : Conf) : Conf := if 0 < r.m then ⟨r.n,trimR (r.w :: c.le),c.ri.tail⟩ else ⟨r.n,c.le.tail,trimR (c.le.headD 0 :: trimR (r.w :: c.ri.tail))⟩
end Go.Proofs.YtnkeamihfiobdaaGreatDoor
end
section
set_option linter.unusedVariables false
set_option linter.unusedSimpArgs false
set_option maxRecDepth 100000
set_option maxHeartbeats 4000000
namespace Go.Proofs.YtnkeamihfiobdaaGreatDoor
open Go Foot
abbrev maB (m : Mach) : C := .d (.bx false [.sc (.int .i64 m.sy),.sc (.int .i64 m.st),.sl false 3 (rows eR m.ru)])
@[irreducible] def vMach (m : Mach) : Bool := decide ((2 ≤ m.sy ∧ m.sy ≤ 6) ∧ (1 ≤ m.st ∧ m.st ≤ 1000) ∧ (m.ru.length : Int) = m.sy * m.st) && m.ru.all (okRule m.sy m.st)
theorem vMach_bd {m : Mach} (h : vMach m = true) : (2 ≤ m.sy ∧ m.sy ≤ 6) ∧ (1 ≤ m.st ∧ m.st ≤ 1000) ∧ (m.ru.length : Int) = m.sy * m.st := by
  unfold vMach at h
  simp only [Bool.and_eq_true,decide_eq_true_eq] at h
  exact h.1
theorem preB2 {p : Prop} (h : p := by first | with_reducible assumption | omega | (simp only [List.length_append,List.length_cons,List.length_nil,List.length_set,List.length_replicate,List.length_take,List.length_drop,List.length_tail,List.length_dropLast,List.length_reverse] at *; omega) | exact mem_len (by assumption) (by omega) | (with_reducible refine Int.le_trans (Int.ofNat_le.2 (trimR_len _)) ?_; simp only [List.length_cons,List.length_tail]; omega) | (have := vMach_bd (by assumption); omega) | trivial) : p := h
theorem l05Is_ok (m : Mach) (hm : (m.ru.length : Int) ≤ 16777216) : Does Tryz.prog 102 [.one (maB m)] [] (.one (boo (vMach m))) [] := by
  refine does_of (k := 0) Tryz.func102 rfl Tryz.ntmps102 rfl rfl fun w F0 S0 ρ0 => ?_
  dsimp only [argT,argH]
  repeat' first|(apply p3;(exact pu1);exact rfl)|refine cd ?_|(apply g_drN (id := 1) okM ([] :: [0] :: [0,1] :: [0,1,2] :: [0,1,2,3] :: [0,1,2,3,4] :: [0,1,2,3,4,5] :: [0,1,2,3,4,5,6] :: [0,1,2,3,4,5,6,7] :: [0,1,2,3,4,5,6,7,8] :: [0,1,2,3,4,5,6,7,8,9] :: [0,1,2,3,4,5,6,7,8,9,10] :: [0,1,2,3,4,5,6,7,8,9,10,11] :: [0,1,2,3,4,5,6,7,8,9,10,11,12] :: [0,1,2,3,4,5,6,7,8,9,10,11,12,13] :: [0,1,2,3,4,5,6,7,8,9,10,11,12,13,14] :: [0,1,2,3,4,5,6,7,8,9,10,11,12,13,14,15] :: [0,1,2,3,4,5,6,7,8,9,10,11,12,13,14,15,16] :: [0,1,2,3,4,5,6,7,8,9,10,11,12,13,14,15,16,17] :: [0,1,2,3,4,5,6,7,8,9,10,11,12,13,14,15,16,17,18] :: [0,1,2,3,4,5,6,7,8,9,10,11,12,13,14] :: [0,1,2,3,4,5,6,7,8,9,10,11,12,13,14,20] :: [0,1,2,3,4,5,6,7,8,9,10,11,12,13,14,20,21] :: [0,1,2,3,4,5,6,7,8,9,10,11,12,13,14,20,21,22] :: [0,1,2,3,4,5,6,7,8,9,10,11,12,13,14] :: [0,1,2,3,4,5,6,7,8,9,10,11,12,13,14,24] :: [0,1,2,3,4,5,6,7,8,9,10,11,12,13,14,24,25] :: [0,1,2,3,4,5,6,7,8,9,10,11,12,13,14,24,25,26] :: [0,1,2,3,4,5,6,7,8,9,10,11,12,13,14,20,21,22,23,24,25,26,27] :: [0,1,2,3,4,5,6,7,8,9,10,11,12,13,14,15,16,17,18,19,20,21,22,23,24,25,26,27,28] :: [0,1,2,3,4,5,6,7,8,9,10,11,12,13,14,15,16,17,18,19,20,21,22,23,24,25,26,27,28,29] :: []) (([],[]) :: ([],[]) :: ([],[]) :: ([],[]) :: ([],[]) :: ([],[]) :: ([],[]) :: ([],[]) :: ([],[]) :: ([],[]) :: ([],[]) :: ([],[]) :: ([],[]) :: ([],[]) :: ([],[]) :: ([],[]) :: ([],[]) :: ([],[]) :: ([],[]) :: ([],[]) :: ([],[]) :: ([],[]) :: ([],[]) :: ([],[]) :: ([],[]) :: ([],[]) :: ([],[]) :: ([],[]) :: ([],[]) :: ([],[]) :: ([],[]) :: []) 0;(focus (all_goals refine dp 0 0 [] [] pu1 ?_;all_goals refine dp 1 1 [] [] (a_pure (sv := .one _) rfl) ?_;all_goals refine dp 2 3 [] [] (a_pure (sv := .one _) rfl) ?_;all_goals refine dp 3 7 [] [] puL ?_;all_goals refine dp 4 15 [] [] (callD1 (n := _) 0 (θ := []) (hD := (l00In_ok _ _ _))) ?_;all_goals refine dp 5 31 [] [] (a_pure (sv := .one _) rfl) ?_;all_goals (refine db 6 63 [] [] pu1 ?_ ?_ <;> (intro hc;first|cases hc|(try simp only [dcB] at hc);first|contradiction|(exfalso;omega)|skip));all_goals (first|refine dn 7 127 [] [] ?_|refine dpy 7 127 [] [] pu1 ?_);all_goals (first|refine dn 8 255 [] [] ?_|refine dpy 8 255 [] [] (a_pure (sv := .one _) rfl) ?_);all_goals (first|refine dn 9 511 [] [] ?_|refine dpy 9 511 [] [] (a_pure (sv := .one _) rfl) ?_);all_goals (first|refine dn 10 1023 [] [] ?_|refine dpy 10 1023 [] [] puL ?_);all_goals (first|refine dn 11 2047 [] [] ?_|refine dpy 11 2047 [] [] (callD1 (n := _) 0 (θ := []) (hD := (l00In_ok _ _ _))) ?_);all_goals (first|refine dn 12 4095 [] [] ?_|refine dpy 12 4095 [] [] (a_pure (sv := .one _) rfl) ?_);all_goals refine dp 13 8191 [] [] (a_pure (sv := .one _) rfl) ?_;all_goals (refine db 14 16383 [] [] pu1 ?_ ?_ <;> (intro hc;first|cases hc|(try simp only [dcB] at hc);first|contradiction|(exfalso;omega)|skip));all_goals (first|refine dn 15 32767 [24,25,26,27,28,29,30,31,32] [] ?_|refine dpy 15 32767 [24,25,26,27,28,29,30,31,32] [] pu1 ?_);all_goals (first|refine dn 16 65535 [24,25,26,27,28,29,30,31,32] [] ?_|refine dpy 16 65535 [24,25,26,27,28,29,30,31,32] [] (a_pure (sv := .one _) rfl) ?_);all_goals (first|refine dn 17 131071 [24,25,26,27,28,29,30,31,32] [] ?_|refine dpy 17 131071 [24,25,26,27,28,29,30,31,32] [] (a_pure (sv := .one _) rfl) ?_);all_goals (first|refine dn 18 262143 [24,25,26,27,28,29,30,31,32] [] ?_|refine dpy 18 262143 [24,25,26,27,28,29,30,31,32] [] puL ?_);all_goals (first|refine dn 19 524287 [24,25,26,27,28,29,30,31,32] [] ?_|refine dpy 19 524287 [24,25,26,27,28,29,30,31,32] [] (by first|exact puN|exact a_pure (sv := .one _) rfl|exact a_len_str rfl (fT rfl)) ?_);all_goals (first|refine dn 20 1048544 [19,20,21,22,23,28,29,30,31] [] ?_|refine dpy 20 1048544 [19,20,21,22,23,28,29,30,31] [] pu1 ?_);all_goals (first|refine dn 21 2097089 [19,20,21,22,23,28,29,30,31] [] ?_|refine dpy 21 2097089 [19,20,21,22,23,28,29,30,31] [] (a_pure (sv := .one _) rfl) ?_);all_goals (first|refine dn 22 4194179 [19,20,21,22,23,28,29,30,31] [] ?_|refine dpy 22 4194179 [19,20,21,22,23,28,29,30,31] [] (a_pure (sv := .one _) rfl) ?_);all_goals (first|refine dn 23 8388359 [19,20,21,22,23,28,29,30,31] [] ?_|refine dpy 23 8388359 [19,20,21,22,23,28,29,30,31] [] puL ?_);all_goals (first|refine dn 24 16776704 [19,20,21,22,23,24,25,26,27] [] ?_|refine dpy 24 16776704 [19,20,21,22,23,24,25,26,27] [] pu1 ?_);all_goals (first|refine dn 25 33553409 [19,20,21,22,23,24,25,26,27] [] ?_|refine dpy 25 33553409 [19,20,21,22,23,24,25,26,27] [] (a_pure (sv := .one _) rfl) ?_);all_goals (first|refine dn 26 67106819 [19,20,21,22,23,24,25,26,27] [] ?_|refine dpy 26 67106819 [19,20,21,22,23,24,25,26,27] [] (a_pure (sv := .one _) rfl) ?_);all_goals (first|refine dn 27 134213639 [19,20,21,22,23,24,25,26,27] [] ?_|refine dpy 27 134213639 [19,20,21,22,23,24,25,26,27] [] puL ?_);all_goals (first|refine dn 28 268427519 [19,20,21,22,23] [] ?_|refine dpy 28 268427519 [19,20,21,22,23] [] (by first|exact a_mulB rfl rfl (by omega) (by omega) (by omega) (by omega)|exact a_mul rfl rfl (by first|omega|assumption) (by first|omega|assumption)) ?_);all_goals (first|refine dn 29 536870911 [] [] ?_|refine dpy 29 536870911 [] [] (by first|exact a_ne rfl rfl|exact a_neS rfl rfl rfl) ?_);all_goals refine dp 30 1073741823 [] [] (a_pure (sv := .one _) rfl) ?_;all_goals (refine d_nil ?_;refine dN ?_)));any_goals kernel_rfl)|((refine g_cond rfl (fun hc => ?_) (fun hc => ?_)) <;> (try simp only [dcB] at hc) <;> (try first|contradiction|(exfalso;omega)))|fail
  · repeat refine cr ?_
    refine ends_id ?_
    refine endK [] (h2 := ?_) (h3 := ?_) (nd := ?_)
    all_goals (repeat' first|exact ce0|refine ce ?_|refine ce2 ?_ ?_|exact SVLe.refl|refine ceb ?_)
    all_goals first | exact (show nodupB _ = true from rfl) | exact Or.inr rfl | ((unfold vMach; first | (simp [*]; done) | (rw [decide_eq_false] <;> first | rfl | omega | (simp; done)) | (rw [decide_eq_true] <;> first | rfl | omega | (simp [*]; done)) | (simp_all; done) | (simp_all; omega)))
  · repeat refine cr ?_
    refine ends_id ?_
    refine endK [] (h2 := ?_) (h3 := ?_) (nd := ?_)
    all_goals (repeat' first|exact ce0|refine ce ?_|refine ce2 ?_ ?_|exact SVLe.refl|refine ceb ?_)
    all_goals first | exact (show nodupB _ = true from rfl) | exact Or.inr rfl | ((unfold vMach; first | (simp [*]; done) | (rw [decide_eq_false] <;> first | rfl | omega | (simp; done)) | (rw [decide_eq_true] <;> first | rfl | omega | (simp [*]; done)) | (simp_all; done) | (simp_all; omega)))
  · repeat refine cr ?_
    refine ends_id ?_
    refine endK [] (h2 := ?_) (h3 := ?_) (nd := ?_)
    all_goals (repeat' first|exact ce0|refine ce ?_|refine ce2 ?_ ?_|exact SVLe.refl|refine ceb ?_)
    all_goals first | exact (show nodupB _ = true from rfl) | exact Or.inr rfl | ((unfold vMach; first | (simp [*]; done) | (rw [decide_eq_false] <;> first | rfl | omega | (simp; done)) | (rw [decide_eq_true] <;> first | rfl | omega | (simp [*]; done)) | (simp_all; done) | (simp_all; omega)))
  refine g_loop_id ?_
  refine loopK [0] [] (fun i : Int => 0 ≤ i ∧ i ≤ m.ru.length ∧ (m.ru.take i.toNat).all (okRule m.sy m.st) = true) (fun i => [(3,.one (int i))]) (fun _ => []) (fun i => (m.ru.length - i).toNat) (0 : Int) [] (hI := ?_) (hr := ?_)
  · exact ⟨by omega,by omega,rfl⟩
  · rintro i ⟨h0,h1,h2⟩
    dsimp only [List.cons_append,List.nil_append] at *
    skip
    repeat' first|(apply p3;(first|exact pu1|exact puN|exact puC|exact a_add rfl rfl (by omega) (by omega));exact rfl)|refine cd ?_|(apply g_drN (id := 6) okM [[],[0],[0,1],[0,1,2],[],[0,1,2,3,4],[0,1,2,3,4,5],[],[7],[7,8],[7,8,9],[],[11],[11,12],[11,12,13],[0,1,2,3,4,5,6,7,8,9,10,11,12,13,14],[0,1,2,3,4,5,6,7,8,9,10,11,12,13,14,15]] [([],[]),([],[]),([],[]),([],[]),([],[]),([],[]),([],[]),([],[]),([],[]),([],[]),([],[]),([],[]),([],[]),([],[]),([],[]),([],[]),([],[])] 0;(focus (refine dp 0 0 [48,51,52,53,54,55,56,57,58] [] pu1 ?_;refine dp 1 1 [48,51,52,53,54,55,56,57,58] [] (a_pure (sv := .one _) rfl) ?_;refine dp 2 3 [48,51,52,53,54,55,56,57,58] [] (a_pure (sv := .one _) rfl) ?_;refine dp 3 7 [48,51,52,53,54,55,56,57,58] [] puL ?_;refine dp 4 0 [44,45,46,47,51,52,53,54,55,56,57,58] [] pu1 ?_;refine dp 5 31 [51,52,53,54,55,56,57,58] [] puI ?_;refine dp 6 63 [51,52,53,54,55,56,57,58] [] puL ?_;refine dp 7 0 [44,45,46,47,48,49,50,55,56,57,58] [] pu1 ?_;refine dp 8 1 [44,45,46,47,48,49,50,55,56,57,58] [] (a_pure (sv := .one _) rfl) ?_;refine dp 9 3 [44,45,46,47,48,49,50,55,56,57,58] [] (a_pure (sv := .one _) rfl) ?_;refine dp 10 7 [44,45,46,47,48,49,50,55,56,57,58] [] puL ?_;refine dp 11 0 [44,45,46,47,48,49,50,51,52,53,54] [] pu1 ?_;refine dp 12 1 [44,45,46,47,48,49,50,51,52,53,54] [] (a_pure (sv := .one _) rfl) ?_;refine dp 13 3 [44,45,46,47,48,49,50,51,52,53,54] [] (a_pure (sv := .one _) rfl) ?_;refine dp 14 7 [44,45,46,47,48,49,50,51,52,53,54] [] puL ?_;refine dp 15 32767 [] [] (callD1 (n := _) 0 (θ := []) (hD := (l05Rule_ok _ _ _ preB2 preB2 preB2 preB2))) ?_;refine dp 16 65535 [] [] (a_pure (sv := .one _) rfl) ?_;(refine d_nil ?_;refine dN ?_)));any_goals kernel_rfl)|((refine g_cond rfl (fun hc => ?_) (fun hc => ?_)) <;> (try simp only [dcB] at hc) <;> (try first|contradiction|(exfalso;omega)))|fail
    · repeat refine cr ?_
      refine ends_id ?_
      refine endK [] (h2 := ?_) (h3 := ?_) (nd := ?_)
      all_goals (repeat' first|exact ce0|refine ce ?_|refine ce2 ?_ ?_|exact SVLe.refl|refine ceb ?_)
      all_goals first | exact (show nodupB _ = true from rfl) | exact Or.inr rfl | ((unfold vMach; rw [all_no _ _ i.toNat (by omega) (by rw [hc]; simp)]; simp))
    · refine q_again (i + 1) [] (by exact stk) ?_ ?_
      · exact ⟨by omega,by omega,all_snocI _ _ _ h0 (by omega) h2 hc⟩
      · omega
    · repeat refine cr ?_
      refine ends_id ?_
      refine endK [] (h2 := ?_) (h3 := ?_) (nd := ?_)
      all_goals (repeat' first|exact ce0|refine ce ?_|refine ce2 ?_ ?_|exact SVLe.refl|refine ceb ?_)
      all_goals first | exact (show nodupB _ = true from rfl) | exact Or.inr rfl | ((unfold vMach; rw [List.take_of_length_le (by omega)] at h2; simp_all))
@[irreducible] def vSide (sy : Int) (l : List Int) : Bool := l.all (fun x => decide (0 ≤ x ∧ x ≤ sy - 1)) && decide ((l.length : Int) ≤ 200 ∧ l.getLastD 1 ≠ 0)
@[irreducible] def vConf (m : Mach) (c : Conf) : Bool := decide (0 ≤ c.st ∧ c.st ≤ m.st - 1) && vSide m.sy c.le && vSide m.sy c.ri
end Go.Proofs.YtnkeamihfiobdaaGreatDoor
end
section
set_option linter.unusedVariables false
set_option linter.unusedSimpArgs false
set_option maxRecDepth 100000
set_option maxHeartbeats 4000000
namespace Go.Proofs.YtnkeamihfiobdaaGreatDoor
open Go Foot
theorem preB3 {p : Prop} (h : p := by first | with_reducible assumption | omega | (simp only [List.length_append,List.length_cons,List.length_nil,List.length_set,List.length_replicate,List.length_take,List.length_drop,List.length_tail,List.length_dropLast,List.length_reverse] at *; omega) | exact mem_len (by assumption) (by omega) | (with_reducible refine Int.le_trans (Int.ofNat_le.2 (trimR_len _)) ?_; simp only [List.length_cons,List.length_tail]; omega) | (have := vMach_bd (by assumption); omega) | trivial) : p := h
theorem sizeR_ok (xs : List Rule') (hx : (xs.length : Int) ≤ 16777216) : Does Tryz.prog 177 [.one (shR xs)] [] (.one (int xs.length)) [] := by
  refine does_of (k := 0) Tryz.func177 rfl Tryz.ntmps177 rfl rfl fun w F0 S0 ρ0 => ?_
  dsimp only [argT,argH]
  repeat' first|(apply p3;(first|exact pu1|exact puN);exact rfl)|refine cd ?_|fail
  repeat refine cr ?_
  refine ends_id ?_
  refine endK [] (h2 := ?_) (h3 := ?_) (nd := ?_)
  all_goals (repeat' first|exact ce0|refine ce ?_|refine ce2 ?_ ?_|exact SVLe.refl|refine ceb ?_)
  all_goals first | exact (show nodupB _ = true from rfl) | exact Or.inr rfl | (rfl)
theorem noRule_ok : Does Tryz.prog 110 [] [] (.agg [int 0,int 0,int (-1)]) [] := by
  refine does_of (k := 0) Tryz.func110 rfl Tryz.ntmps110 rfl rfl fun w F0 S0 ρ0 => ?_
  dsimp only [argT,argH]
  repeat' first|(apply n3;exact a_new (gb := .bx _) rfl;exact rfl;refine dA ?_)|(apply p3;exact a_pure (sv := .agg _) rfl;exact rfl)|refine cd ?_|(apply w3;(exact a_st_bx rfl rfl rfl rfl (fN rfl rfl) (Nat.le_of_ble_eq_true rfl) rfl);exact rfl;refine dS ?_)|fail
  repeat refine cr ?_
  refine ends_id ?_
  refine endK [] (h2 := ?_) (h3 := ?_) (nd := ?_)
  all_goals (repeat' first|exact ce0|refine ce ?_|refine ce2 ?_ ?_|exact SVLe.refl|refine ceb ?_)
  all_goals first | exact (show nodupB _ = true from rfl) | exact Or.inr rfl | (rfl)
theorem isRule_ok (r : Rule') : Does Tryz.prog 48 [.agg (ruC r)] [] (.one (boo (!decide (r = ⟨0,0,-1⟩)))) [] := by
  refine does_of (k := 0) Tryz.func48 rfl Tryz.ntmps48 rfl rfl fun w F0 S0 ρ0 => ?_
  dsimp only [argT,argH]
  repeat' first|(apply n3;exact a_new (gb := .bx _) rfl;exact rfl;refine dA ?_)|(apply p3;exact a_pure (sv := .one _) rfl;exact rfl)|refine cd ?_|(apply g_drN (id := 1) okM [[],[],[0,1],[0,1,2]] [([],[]),([],[]),([],[]),([],[])] 0;(focus (refine dp 0 0 [4] [] puL ?_;refine dp 1 0 [3] [] (callD1 (n := _) 0 (θ := []) (hD := noRule_ok)) ?_;refine dp 2 3 [] [] (by exact a_neRule (s := ⟨_,_,_⟩) rfl rfl) ?_;refine dp 3 7 [] [] pu1 ?_;(refine d_nil ?_;refine dN ?_)));any_goals kernel_rfl)|fail
  repeat refine cr ?_
  refine ends_id ?_
  refine endK [] (h2 := ?_) (h3 := ?_) (nd := ?_)
  all_goals (repeat' first|exact ce0|refine ce ?_|refine ce2 ?_ ?_|exact SVLe.refl|refine ceb ?_)
  all_goals first | exact (show nodupB _ = true from rfl) | exact Or.inr rfl | (rfl)
theorem validRule_ok (m : Mach) (r : Rule') (h1 : -1000 ≤ m.sy) (h2 : m.sy ≤ 1000) (h3 : -1000 ≤ m.st) (h4 : m.st ≤ 1000) : Does Tryz.prog 180 [.agg (maC m),.agg (ruC r)] [] (.one (boo (okRule m.sy m.st r))) [] := by
  refine does_of (k := 0) Tryz.func180 rfl Tryz.ntmps180 rfl rfl fun w F0 S0 ρ0 => ?_
  dsimp only [argT,argH]
  repeat' first|(apply n3;exact a_new (gb := .bx _) rfl;exact rfl;refine dA ?_)|(apply p3;(first|exact pu1|exact a_sub rfl rfl (by omega) (by omega));exact rfl)|refine cd ?_|(apply c4 0;exact callK1 (θ := []) (hD := (isRule_ok _));exact rfl;exact rfl;exact rfl;refine dM ?_)|(apply c4 0;exact callK1 (θ := []) (hD := (within_ok _ _ _));exact rfl;exact rfl;exact rfl;refine dM ?_)|refine o_no rfl rfl rfl rfl ?_|(apply py3;exact rfl;exact rfl;(first|exact pu1|exact a_sub rfl rfl (by omega) (by omega)|exact puC);exact rfl;exact rfl)|(apply cy4 0;exact rfl;exact rfl;exact callK1 (θ := []) (hD := (within_ok _ _ _));exact rfl;exact rfl;exact rfl;exact rfl;refine dM ?_)|((first|refine o_gs rfl rfl (fun hc => ?_) (fun hc => ?_)|refine g_cond rfl (fun hc => ?_) (fun hc => ?_)) <;> (try simp only [dcB] at hc) <;> (try first|contradiction|(exfalso;omega)))|fail
  all_goals
    repeat refine cr ?_
    refine ends_id ?_
    refine endK [] (h2 := ?_) (h3 := ?_) (nd := ?_)
    all_goals (repeat' first|exact ce0|refine ce ?_|refine ce2 ?_ ?_|exact SVLe.refl|refine ceb ?_)
    all_goals first | exact (show nodupB _ = true from rfl) | exact Or.inr rfl | ((unfold okRule; first | (simp [*]; done) | (rw [decide_eq_false] <;> first | rfl | omega | (simp; done)) | (rw [decide_eq_true] <;> first | rfl | omega | (simp [*]; done)) | (simp_all; done) | (simp_all; omega)))
theorem validM1_ok (m : Mach) (r : Rule') (h1 : -1000 ≤ m.sy) (h2 : m.sy ≤ 1000) (h3 : -1000 ≤ m.st) (h4 : m.st ≤ 1000) : Does Tryz.prog 179 [.agg (ruC r),.one (maB m)] [] (.one (boo (!okRule m.sy m.st r))) [] := by
  refine does_of (k := 0) Tryz.func179 rfl Tryz.ntmps179 rfl rfl fun w F0 S0 ρ0 => ?_
  dsimp only [argT,argH]
  repeat' first|(apply n3;exact a_new (gb := .bx _) rfl;exact rfl;refine dA ?_)|(apply p3;(exact pu1);exact rfl)|refine cd ?_|(apply c4 0;exact callK1 (θ := []) (hD := (validRule_ok _ _ preB3 preB3 preB3 preB3));exact rfl;exact rfl;exact rfl;refine dM ?_)|fail
  repeat refine cr ?_
  refine ends_id ?_
  refine endK [] (h2 := ?_) (h3 := ?_) (nd := ?_)
  all_goals (repeat' first|exact ce0|refine ce ?_|refine ce2 ?_ ?_|exact SVLe.refl|refine ceb ?_)
  all_goals first | exact (show nodupB _ = true from rfl) | exact Or.inr rfl | (rfl)
theorem idxR_ok (xs : List Rule') (k : Nat) (d : D) (p : Rule' → Bool) (hx : (xs.length : Int) ≤ 16777216) (hE : entB Tryz.prog k = true) (hp : ∀ r,Does Tryz.prog k [.agg (ruC r),.one (.d d)] [] (.one (boo (p r))) []) : Does Tryz.prog 238 [.one (shR xs),.one (.d (.fn (.func k) [d]))] [] (.one (int (idxF p xs))) [] := by
  refine does_of (k := 0) Tryz.func238 rfl Tryz.ntmps238 rfl rfl fun w F0 S0 ρ0 => ?_
  dsimp only [argT,argH]
  repeat' first|(apply p3;(first|exact pu1|exact puN);exact rfl)|refine cd ?_|fail
  refine g_loop_id ?_
  refine loopK [0,1,4,7] [] (fun i : Int => 0 ≤ i ∧ i ≤ xs.length ∧ (xs.take i.toNat).all (fun x => !p x) = true) (fun i => [(8,.one (int i))]) (fun _ => []) (fun i => (xs.length - i).toNat) (0 : Int) [] (hI := ?_) (hr := ?_)
  · exact ⟨by omega,by omega,rfl⟩
  · rintro i ⟨h0,h1,h2⟩
    dsimp only [List.cons_append,List.nil_append] at *
    skip
    repeat' first|(apply p3;(first|exact pu1|exact puC|exact a_add rfl rfl (by omega) (by omega)|exact puI);exact rfl)|refine cd ?_|(apply c4 0;exact callK0 (θ := []) (hE := hE) (hD := (hp _));exact rfl;exact rfl;exact rfl;refine dM ?_)|((refine g_cond rfl (fun hc => ?_) (fun hc => ?_)) <;> (try simp only [dcB] at hc) <;> (try first|contradiction|(exfalso;omega)))|fail
    · repeat refine cr ?_
      refine ends_id ?_
      refine endK [] (h2 := ?_) (h3 := ?_) (nd := ?_)
      all_goals (repeat' first|exact ce0|refine ce ?_|refine ce2 ?_ ?_|exact SVLe.refl|refine ceb ?_)
      all_goals first | exact (show nodupB _ = true from rfl) | exact Or.inr rfl | (exact (idxF_stop p xs i h0 (by omega) h2 hc).symm)
    · refine q_again (i + 1) [] (by exact stk) ?_ ?_
      · exact ⟨by omega,by omega,all_snocI _ _ _ h0 (by omega) h2 (by simp [hc])⟩
      · omega
    · repeat refine cr ?_
      refine ends_id ?_
      refine endK [] (h2 := ?_) (h3 := ?_) (nd := ?_)
      all_goals (repeat' first|exact ce0|refine ce ?_|refine ce2 ?_ ?_|exact SVLe.refl|refine ceb ?_)
      all_goals first | exact (show nodupB _ = true from rfl) | exact Or.inr rfl | ((rw [List.take_of_length_le (by omega)] at h2; exact (idxF_none p xs h2).symm))
theorem hasR_ok (xs : List Rule') (k : Nat) (d : D) (p : Rule' → Bool) (hx : (xs.length : Int) ≤ 16777216) (hE : entB Tryz.prog k = true) (hp : ∀ r,Does Tryz.prog k [.agg (ruC r),.one (.d d)] [] (.one (boo (p r))) []) : Does Tryz.prog 178 [.one (shR xs),.one (.d (.fn (.func k) [d]))] [] (.one (boo (xs.any p))) [] := by
  refine does_of (k := 0) Tryz.func178 rfl Tryz.ntmps178 rfl rfl fun w F0 S0 ρ0 => ?_
  dsimp only [argT,argH]
  repeat' first|(apply p3;(first|exact pu1|exact puC);exact rfl)|refine cd ?_|(apply c4 0;exact callK1 (θ := []) (hD := (idxR_ok _ _ _ _ preB3 preB3 preB3));exact rfl;exact rfl;exact rfl;refine dM ?_)|fail
  repeat refine cr ?_
  refine ends_id ?_
  refine endK [] (h2 := ?_) (h3 := ?_) (nd := ?_)
  all_goals (repeat' first|exact ce0|refine ce ?_|refine ce2 ?_ ?_|exact SVLe.refl|refine ceb ?_)
  all_goals first | exact (show nodupB _ = true from rfl) | exact Or.inr rfl | (exact idxF_any p xs)
abbrev maD (m : Mach) : D := .bx false [.sc (.int .i64 m.sy),.sc (.int .i64 m.st),.sl false 3 (rows eR m.ru)]
theorem hasM_ok (m : Mach) (xs : List Rule') (hx : (xs.length : Int) ≤ 16777216) (h1 : -1000 ≤ m.sy) (h2 : m.sy ≤ 1000) (h3 : -1000 ≤ m.st) (h4 : m.st ≤ 1000) : Does Tryz.prog 178 [.one (shR xs),.one (.d (.fn (.func 179) [maD m]))] [] (.one (boo (xs.any fun r => !okRule m.sy m.st r))) [] := hasR_ok xs _ (maD m) _ hx (fQ rfl) fun r => validM1_ok m r h1 h2 h3 h4
theorem ValidMachine_ok (m : Mach) (hm : (m.ru.length : Int) ≤ 16777216) : Does Tryz.prog 103 [.agg (maC m)] [] (.one (boo (vMach m))) [] := by
  refine does_of (k := 0) Tryz.func103 rfl Tryz.ntmps103 rfl rfl fun w F0 S0 ρ0 => ?_
  dsimp only [argT,argH]
  repeat' first|(apply n3;exact a_new (gb := .bx _) rfl;exact rfl;refine dA ?_)|(apply p3;(exact pu1);exact rfl)|refine cd ?_|(apply c4 0;exact callK1 (θ := []) (hD := (hasM_ok _ _ preB3 preB3 preB3 preB3 preB3));exact rfl;exact rfl;exact rfl;refine dM ?_)|(apply g_drN (id := 1) okM [[],[0],[0,1],[0,1,2],[0,1,2,3],[0,1,2,3,4],[0,1,2,3,4,5],[0,1,2,3,4,5,6],[0,1,2,3,4,5,6,7],[0,1,2,3,4,5,6,7,8],[0,1,2,3,4,5,6,7,8,9],[0,1,2,3,4,5,6,7,8,9,10],[0,1,2,3,4,5,6,7,8,9,10,11],[0,1,2,3,4,5,6,7,8,9,10,11,12],[0,1,2,3,4,5,6,7,8,9,10],[0,1,2,3,4,5,6,7,8,9,10,14],[0,1,2,3,4,5,6,7,8,9,10],[0,1,2,3,4,5,6,7,8,9,10,16],[0,1,2,3,4,5,6,7,8,9,10,14,15,16,17],[0,1,2,3,4,5,6,7,8,9,10,11,12,13,14,15,16,17,18],[0,1,2,3,4,5,6,7,8,9,10,11,12,13,14,15,16,17,18,19]] [([],[]),([],[]),([],[]),([],[]),([],[]),([],[]),([],[]),([],[]),([],[]),([],[]),([],[]),([],[]),([],[]),([],[]),([],[]),([],[]),([],[]),([],[]),([],[]),([],[]),([],[])] 0;(focus (all_goals refine dp 0 0 [] [] (a_pure (sv := .one _) rfl) ?_;all_goals refine dp 1 1 [] [] puL ?_;all_goals refine dp 2 3 [] [] (callD1 (n := _) 0 (θ := []) (hD := (within_ok _ _ _))) ?_;all_goals refine dp 3 7 [] [] (a_pure (sv := .one _) rfl) ?_;all_goals (refine db 4 15 [] [] pu1 ?_ ?_ <;> (intro hc;first|cases hc|(try simp only [dcB] at hc);first|contradiction|(exfalso;omega)|skip));all_goals (first|refine dn 5 31 [] [] ?_|refine dpy 5 31 [] [] (a_pure (sv := .one _) rfl) ?_);all_goals (first|refine dn 6 63 [] [] ?_|refine dpy 6 63 [] [] puL ?_);all_goals (first|refine dn 7 127 [] [] ?_|refine dpy 7 127 [] [] (callD1 (n := _) 0 (θ := []) (hD := (within_ok _ _ _))) ?_);all_goals (first|refine dn 8 255 [] [] ?_|refine dpy 8 255 [] [] (a_pure (sv := .one _) rfl) ?_);all_goals refine dp 9 511 [] [] (a_pure (sv := .one _) rfl) ?_;all_goals (refine db 10 1023 [] [] pu1 ?_ ?_ <;> (intro hc;first|cases hc|(try simp only [dcB] at hc);first|contradiction|(exfalso;omega)|skip));all_goals (first|refine dn 11 2047 [17,18,19,20,21] [] ?_|refine dpy 11 2047 [17,18,19,20,21] [] (a_pure (sv := .one _) rfl) ?_);all_goals (first|refine dn 12 4095 [17,18,19,20,21] [] ?_|refine dpy 12 4095 [17,18,19,20,21] [] puL ?_);all_goals (first|refine dn 13 8191 [17,18,19,20,21] [] ?_|refine dpy 13 8191 [17,18,19,20,21] [] (callD1 (n := _) 0 (θ := []) (hD := (sizeR_ok _ preB3))) ?_);all_goals (first|refine dn 14 16376 [14,15,16,19,20] [] ?_|refine dpy 14 16376 [14,15,16,19,20] [] (a_pure (sv := .one _) rfl) ?_);all_goals (first|refine dn 15 32753 [14,15,16,19,20] [] ?_|refine dpy 15 32753 [14,15,16,19,20] [] puL ?_);all_goals (first|refine dn 16 65504 [14,15,16,17,18] [] ?_|refine dpy 16 65504 [14,15,16,17,18] [] (a_pure (sv := .one _) rfl) ?_);all_goals (first|refine dn 17 131009 [14,15,16,17,18] [] ?_|refine dpy 17 131009 [14,15,16,17,18] [] puL ?_);all_goals (first|refine dn 18 262031 [14,15,16] [] ?_|refine dpy 18 262031 [14,15,16] [] (by first|exact a_mulB rfl rfl (by omega) (by omega) (by omega) (by omega)|exact a_mul rfl rfl (by first|omega|assumption) (by first|omega|assumption)) ?_);all_goals (first|refine dn 19 524287 [] [] ?_|refine dpy 19 524287 [] [] (by first|exact a_ne rfl rfl|exact a_neS rfl rfl rfl) ?_);all_goals refine dp 20 1048575 [] [] (a_pure (sv := .one _) rfl) ?_;all_goals (refine d_nil ?_;refine dN ?_)));any_goals kernel_rfl)|((refine g_cond rfl (fun hc => ?_) (fun hc => ?_)) <;> (try simp only [dcB] at hc) <;> (try first|contradiction|(exfalso;omega)))|fail
  · repeat refine cr ?_
    refine ends_id ?_
    refine endK [] (h2 := ?_) (h3 := ?_) (nd := ?_)
    all_goals (repeat' first|exact ce0|refine ce ?_|refine ce2 ?_ ?_|exact SVLe.refl|refine ceb ?_)
    all_goals first | exact (show nodupB _ = true from rfl) | exact Or.inr rfl | ((unfold vMach; first | (simp [*]; done) | (rw [decide_eq_false] <;> first | rfl | omega | (simp; done)) | (rw [decide_eq_true] <;> first | rfl | omega | (simp [*]; done)) | (simp_all; done) | (simp_all; omega)))
  · repeat refine cr ?_
    refine ends_id ?_
    refine endK [] (h2 := ?_) (h3 := ?_) (nd := ?_)
    all_goals (repeat' first|exact ce0|refine ce ?_|refine ce2 ?_ ?_|exact SVLe.refl|refine ceb ?_)
    all_goals first | exact (show nodupB _ = true from rfl) | exact Or.inr rfl | ((unfold vMach; first | (simp [*]; done) | (rw [decide_eq_false] <;> first | rfl | omega | (simp; done)) | (rw [decide_eq_true] <;> first | rfl | omega | (simp [*]; done)) | (simp_all; done) | (simp_all; omega)))
  · repeat refine cr ?_
    refine ends_id ?_
    refine endK [] (h2 := ?_) (h3 := ?_) (nd := ?_)
    all_goals (repeat' first|exact ce0|refine ce ?_|refine ce2 ?_ ?_|exact SVLe.refl|refine ceb ?_)
    all_goals first | exact (show nodupB _ = true from rfl) | exact Or.inr rfl | ((rw [Int.mul_comm] at hc; unfold vMach; rw [decide_eq_false] <;> first | rfl | omega))
  · repeat refine cr ?_
    refine ends_id ?_
    refine endK [] (h2 := ?_) (h3 := ?_) (nd := ?_)
    all_goals (repeat' first|exact ce0|refine ce ?_|refine ce2 ?_ ?_|exact SVLe.refl|refine ceb ?_)
    all_goals first | exact (show nodupB _ = true from rfl) | exact Or.inr rfl | ((rw [Int.mul_comm] at hc; rw [not_any_not]; unfold vMach; rw [decide_eq_true] <;> first | rfl | omega))
@[irreducible] def askC (m : Mach) (c : Conf) (b : Int) : Int := if vMach m = true ∧ vConf m c = true then if 1 ≤ b ∧ b ≤ 20000 then 0 else 2 else 1
end Go.Proofs.YtnkeamihfiobdaaGreatDoor
end
section
set_option linter.unusedVariables false
set_option linter.unusedSimpArgs false
set_option maxRecDepth 100000
set_option maxHeartbeats 4000000
namespace Go.Proofs.YtnkeamihfiobdaaGreatDoor
open Go Foot
@[irreducible] def pushL (l : List Int) (x : Int) : List Int := if x = 0 ∧ l = [] then l else l ++ [x]
end Go.Proofs.YtnkeamihfiobdaaGreatDoor
end
section
set_option linter.unusedVariables false
set_option linter.unusedSimpArgs false
set_option maxRecDepth 100000
set_option maxHeartbeats 4000000
namespace Go.Proofs.YtnkeamihfiobdaaGreatDoor
open Go Foot
theorem pushL_len (l : List Int) (x : Int) : (pushL l x).length ≤ l.length + 1 := by unfold pushL; split <;> simp
end Go.Proofs.YtnkeamihfiobdaaGreatDoor
end
section
set_option linter.unusedVariables false
set_option linter.unusedSimpArgs false
set_option maxRecDepth 100000
set_option maxHeartbeats 4000000
namespace Go.Proofs.YtnkeamihfiobdaaGreatDoor
open Go Foot
theorem vSide_bd {sy : Int} {l : List Int} (h : vSide sy l = true) : (l.length : Int) ≤ 200 ∧ (∀ x ∈ l,0 ≤ x ∧ x ≤ sy - 1) ∧ l.getLastD 1 ≠ 0 := by
  unfold vSide at h
  simp only [Bool.and_eq_true,List.all_eq_true,decide_eq_true_eq] at h
  exact ⟨h.2.1,h.1,h.2.2⟩
theorem vConf_bd {m : Mach} {c : Conf} (h : vConf m c = true) : (0 ≤ c.st ∧ c.st ≤ m.st - 1) ∧ vSide m.sy c.le = true ∧ vSide m.sy c.ri = true := by
  unfold vConf at h
  simp only [Bool.and_eq_true,decide_eq_true_eq] at h
  exact ⟨h.1.1,h.1.2,h.2⟩
abbrev noR : Rule' := ⟨0,0,-1⟩
@[irreducible] def ruAt (m : Mach) (c : Conf) : Rule' := m.ru.getD (c.st * m.sy + c.ri.headD 0).toNat noR
theorem headD_bd {sy : Int} {l : List Int} (hs : 2 ≤ sy) (h : vSide sy l = true) : 0 ≤ l.headD 0 ∧ l.headD 0 ≤ sy - 1 := by
  have := (vSide_bd h).2.1
  cases l with
  | nil => simp; omega
  | cons a l => exact this a (by simp)
theorem at_bd {m : Mach} {c : Conf} (hm : vMach m = true) (hc : vConf m c = true) : 0 ≤ c.st * m.sy ∧ 0 ≤ c.ri.headD 0 ∧ c.ri.headD 0 ≤ 5 ∧ c.st * m.sy + c.ri.headD 0 < m.ru.length ∧ (m.ru.length : Int) ≤ 6000 ∧ c.st ≤ 999 ∧ 0 ≤ c.st ∧ (c.le.length : Int) ≤ 200 ∧ (c.ri.length : Int) ≤ 200 := by
  obtain ⟨⟨h1,h2⟩,⟨h3,h4⟩,h5⟩ := vMach_bd hm
  obtain ⟨⟨h6,h7⟩,h8,h9⟩ := vConf_bd hc
  obtain ⟨h10,h11⟩ := headD_bd h1 h9
  have a1 : c.st * m.sy ≤ (m.st - 1) * m.sy := Int.mul_le_mul_of_nonneg_right h7 (by omega)
  have a2 : (m.st - 1) * m.sy = m.sy * m.st - m.sy := by rw [Int.sub_mul,Int.mul_comm]; omega
  have a3 : m.sy * m.st ≤ 6 * m.st := Int.mul_le_mul_of_nonneg_right h2 (by omega)
  exact ⟨Int.mul_nonneg h6 (by omega),h10,by omega,by omega,by omega,by omega,h6,(vSide_bd h8).1,(vSide_bd h9).1⟩
theorem ruAt_get {m : Mach} {c : Conf} (hm : vMach m = true) (hc : vConf m c = true) : m.ru[(c.st * m.sy + c.ri.headD 0).toNat]? = some (ruAt m c) := by
  have h := at_bd hm hc
  rw [ruAt,List.getD_eq_getElem?_getD,List.getElem?_eq_getElem (by omega)]
  rfl
theorem ruAt_ok {m : Mach} {c : Conf} (hm : vMach m = true) (hc : vConf m c = true) (hn : ruAt m c ≠ noR) : (0 ≤ (ruAt m c).w ∧ (ruAt m c).w ≤ m.sy - 1) ∧ ((ruAt m c).m = 1 ∨ (ruAt m c).m = -1) ∧ 0 ≤ (ruAt m c).n ∧ (ruAt m c).n ≤ m.st - 1 := by
  have hg := ruAt_get hm hc
  have := hm
  unfold vMach at this
  rw [Bool.and_eq_true,List.all_eq_true] at this
  have := this.2 _ (List.mem_of_getElem? hg)
  unfold okRule at this
  rw [decide_eq_true_eq] at this
  exact this.resolve_left hn
theorem trimR_mem {l : List Int} {x : Int} (h : x ∈ trimR l) : x ∈ l := by
  unfold trimR at h
  rw [List.mem_reverse] at h
  exact List.mem_reverse.1 ((List.dropWhile_sublist _).mem h)
theorem stepS_n (u : Rule') (c : Conf) : (stepS u c).st = u.n := by unfold stepS; split <;> rfl
end Go.Proofs.YtnkeamihfiobdaaGreatDoor
end
section
set_option linter.unusedVariables false
set_option linter.unusedSimpArgs false
set_option maxRecDepth 100000
set_option maxHeartbeats 4000000
namespace Go.Proofs.YtnkeamihfiobdaaGreatDoor
open Go Foot
structure Out (σ : Type) where
  x : σ
  n : Int
  c : Conf
  hd : Int
  halts : Bool
  full : Bool
section
variable {σ : Type} {m : Mach} {fc : Conf → Int → σ → σ} {fs : Conf → Int → Rule' → σ → σ} {b n hd : Int} {c : Conf} {x : σ} {O : Out σ}
end
theorem ask_ok {m : Mach} {c : Conf} {b : Int} (h : askC m c b = 0) : vMach m = true ∧ vConf m c = true ∧ 1 ≤ b ∧ b ≤ 20000 := by
  unfold askC at h
  split at h
  · rename_i h1
    split at h
    · rename_i h2; exact ⟨h1.1,h1.2,h2.1,h2.2⟩
    · cases h
  · cases h
end Go.Proofs.YtnkeamihfiobdaaGreatDoor
end
section
set_option linter.unusedVariables false
set_option linter.unusedSimpArgs false
set_option maxRecDepth 100000
set_option maxHeartbeats 4000000
namespace Go.Proofs.YtnkeamihfiobdaaGreatDoor
open Go Foot
structure Prf where
  k : Int
  nu : List Int
  wo : List (List Int)
abbrev prC (p : Prf) : List C := [int p.k,shI p.nu,shW p.wo]
abbrev prB (p : Prf) : C := .d (.bx false [.sc (.int .i64 p.k),.sl false 1 (rows eI p.nu),.sl false 1 (rows eW p.wo)])
@[irreducible] def szP (p : Prf) (left : Int) : Int := if szL p.nu.length left < 0 then -1 else szWW p.wo (szL p.nu.length left)
theorem szW_neg : ∀ {xs : List (List Int)} {l : Int},0 ≤ l → szW xs l < 0 → szW xs l = -1
  | [],l,h0,h => by unfold szW at h; omega
  | x :: xs,l,h0,h => by
    unfold szW at h ⊢
    split at h
    · rename_i e; rw [if_pos e]
    · rename_i e; rw [if_neg e]; exact szW_neg (by omega) h
theorem szWW_neg {xs : List (List Int)} {l : Int} (h : szWW xs l < 0) : szWW xs l = -1 := by
  unfold szWW at h ⊢
  split at h
  · rename_i e; rw [if_pos e]
  · rename_i e; rw [if_neg e]; exact szW_neg (by omega) h
theorem preA4 {p : Prop} (h : p := by first | with_reducible assumption | omega | (simp only [List.length_append,List.length_cons,List.length_nil,List.length_set,List.length_replicate,List.length_take,List.length_drop,List.length_tail,List.length_dropLast,List.length_reverse] at *; omega) | exact mem_len (by assumption) (by omega) | trivial) : p := h
theorem szProof_ok (p : Prf) (left : Int) (h1 : left ≤ 1048576) (h2 : 0 ≤ left) (hx : (p.nu.length : Int) ≤ 9223372036854775807) (hy : (p.wo.length : Int) ≤ 9223372036854775807) (hys : ∀ x ∈ p.wo,(x.length : Int) ≤ 9223372036854775807) : Does Tryz.prog 130 [.agg (prC p),.one (int left)] [] (.one (int (szP p left))) [] := by
  have h3 := szL_le (n := p.nu.length) h1
  refine does_of (k := 0) Tryz.func130 rfl Tryz.ntmps130 rfl rfl fun w F0 S0 ρ0 => ?_
  dsimp only [argT,argH]
  repeat' first|(apply n3;exact a_new (gb := .bx _) rfl;exact rfl;refine dA ?_)|(apply p3;(first|exact pu1|exact puC);exact rfl)|refine cd ?_|(apply c4 0;exact callK1 (θ := []) (hD := (szInt64S_ok _ _ preA4 preA4 preA4));exact rfl;exact rfl;exact rfl;refine dM ?_)|(apply c4 0;exact callK1 (θ := []) (hD := (szInt64SS_ok _ _ preA4 preA4 preA4 preA4));exact rfl;exact rfl;exact rfl;refine dM ?_)|((refine g_cond rfl (fun hc => ?_) (fun hc => ?_)) <;> (try simp only [dcB] at hc) <;> (try first|contradiction|(exfalso;omega)))|fail
  · repeat refine cr ?_
    refine ends_id ?_
    refine endK [] (h2 := ?_) (h3 := ?_) (nd := ?_)
    all_goals (repeat' first|exact ce0|refine ce ?_|refine ce2 ?_ ?_|exact SVLe.refl|refine ceb ?_)
    all_goals first | exact (show nodupB _ = true from rfl) | exact Or.inr rfl | ((unfold szP; simp [*]))
  · repeat refine cr ?_
    refine ends_id ?_
    refine endK [] (h2 := ?_) (h3 := ?_) (nd := ?_)
    all_goals (repeat' first|exact ce0|refine ce ?_|refine ce2 ?_ ?_|exact SVLe.refl|refine ceb ?_)
    all_goals first | exact (show nodupB _ = true from rfl) | exact Or.inr rfl | ((rw [szP,if_neg (by assumption)]; exact (szWW_neg (by assumption)).symm))
  · repeat refine cr ?_
    refine ends_id ?_
    refine endK [] (h2 := ?_) (h3 := ?_) (nd := ?_)
    all_goals (repeat' first|exact ce0|refine ce ?_|refine ce2 ?_ ?_|exact SVLe.refl|refine ceb ?_)
    all_goals first | exact (show nodupB _ = true from rfl) | exact Or.inr rfl | ((unfold szP; simp [*]))
@[irreducible] def eqP (a b : Prf) : Bool := decide (a.k = b.k ∧ a.nu = b.nu ∧ a.wo = b.wo)
theorem eqProof_ok (a b : Prf) (h1 : (a.nu.length : Int) ≤ 1048576) (h2 : (b.nu.length : Int) ≤ 1048576) (h3 : (a.wo.length : Int) ≤ 1048576) (h4 : (b.wo.length : Int) ≤ 1048576) (h5 : ∀ x ∈ a.wo,(x.length : Int) ≤ 1048576) (h6 : ∀ x ∈ b.wo,(x.length : Int) ≤ 1048576) : Does Tryz.prog 150 [.agg (prC a),.agg (prC b)] [] (.one (boo (eqP a b))) [] := by
  refine does_of (k := 0) Tryz.func150 rfl Tryz.ntmps150 rfl rfl fun w F0 S0 ρ0 => ?_
  dsimp only [argT,argH]
  repeat' first|(apply n3;exact a_new (gb := .bx _) rfl;exact rfl;refine dA ?_)|(apply p3;(first|exact a_ne rfl rfl|exact puL);exact rfl)|refine cd ?_|(apply c4 0;exact callK1 (θ := []) (hD := (eqInt64S_ok _ _ preA4 preA4));exact rfl;exact rfl;exact rfl;refine dM ?_)|(apply c4 0;exact callK1 (θ := []) (hD := (eqInt64SS_ok _ _ preA4 preA4 preA4 preA4));exact rfl;exact rfl;exact rfl;refine dM ?_)|((refine g_cond rfl (fun hc => ?_) (fun hc => ?_)) <;> (try simp only [dcB] at hc) <;> (try first|contradiction|(exfalso;omega)))|fail
  all_goals
    repeat refine cr ?_
    refine ends_id ?_
    refine endK [] (h2 := ?_) (h3 := ?_) (nd := ?_)
    all_goals (repeat' first|exact ce0|refine ce ?_|refine ce2 ?_ ?_|exact SVLe.refl|refine ceb ?_)
    all_goals first | exact (show nodupB _ = true from rfl) | exact Or.inr rfl | ((symm; unfold eqP; (try unfold eqI at *); (try unfold eqWs at *); simp_all))
end Go.Proofs.YtnkeamihfiobdaaGreatDoor
end
section
set_option linter.unusedVariables false
set_option linter.unusedSimpArgs false
set_option maxRecDepth 100000
set_option maxHeartbeats 4000000
namespace Go.Proofs.YtnkeamihfiobdaaGreatDoor
open Go Foot
@[irreducible] def isWrd (w : List Int) : Bool := decide ((w.length : Int) ≤ 400) && inAll 0 9 w
theorem preB34 {p : Prop} (h : p := by first | with_reducible assumption | omega | (simp only [List.length_append,List.length_cons,List.length_nil,List.length_set,List.length_replicate,List.length_take,List.length_drop,List.length_tail,List.length_dropLast,List.length_reverse] at *; omega) | exact mem_len (by assumption) (by omega) | (with_reducible refine Int.le_trans (Int.ofNat_le.2 (trimR_len _)) ?_; simp only [List.length_cons,List.length_tail]; omega) | (exact (ruAt_ok (by assumption) (by assumption) (by assumption)).2.1) | (exact (ruAt_ok (by assumption) (by assumption) (by assumption)).2.1) | (have := vMach_bd (by assumption); omega) | (simp only [mC_ch,mC_tu]; omega) | (with_reducible refine Int.le_trans (Int.ofNat_le.2 (pushL_len _ _)) ?_; simp only [List.length_dropLast]; omega) | exact (ask_ok (by assumption)).1 | exact (ask_ok (by assumption)).2.1 | exact (ask_ok (by assumption)).2.2.1 | exact (ask_ok (by assumption)).2.2.2 | trivial) : p := h
theorem isLetters_ok (w : List Int) (hx : (w.length : Int) ≤ 16777216) : Does Tryz.prog 313 [.one (shI w)] [] (.one (boo (inAll 0 9 w))) [] := by
  refine does_of (k := 0) Tryz.func313 rfl Tryz.ntmps313 rfl rfl fun w F0 S0 ρ0 => ?_
  dsimp only [argT,argH]
  repeat' first|(apply p3;exact pu1;exact rfl)|refine cd ?_|(apply c4 0;exact callK1 (θ := []) (hD := (allWithin_ok _ _ _ preB34));exact rfl;exact rfl;exact rfl;refine dM ?_)|fail
  repeat refine cr ?_
  refine ends_id ?_
  refine endK [] (h2 := ?_) (h3 := ?_) (nd := ?_)
  all_goals (repeat' first|exact ce0|refine ce ?_|refine ce2 ?_ ?_|exact SVLe.refl|refine ceb ?_)
  all_goals first | exact (show nodupB _ = true from rfl) | exact Or.inr rfl | (rfl)
theorem IsWord_ok (w : List Int) (hx : (w.length : Int) ≤ 16777216) : Does Tryz.prog 305 [.one (shI w)] [] (.one (boo (isWrd w))) [] := by
  refine does_of (k := 0) Tryz.func305 rfl Tryz.ntmps305 rfl rfl fun w F0 S0 ρ0 => ?_
  dsimp only [argT,argH]
  repeat' first|(apply p3;(first|exact pu1|exact puN|exact puC);exact rfl)|refine cd ?_|refine o_no rfl rfl rfl rfl ?_|(apply py3;exact rfl;exact rfl;(exact pu1);exact rfl;exact rfl)|(apply cy4 0;exact rfl;exact rfl;exact callK1 (θ := []) (hD := (isLetters_ok _ preB34));exact rfl;exact rfl;exact rfl;exact rfl;refine dM ?_)|((refine o_gs rfl rfl (fun hc => ?_) (fun hc => ?_)) <;> (try simp only [dcB] at hc) <;> (try first|contradiction|(exfalso;omega)))|fail
  all_goals
    repeat refine cr ?_
    refine ends_id ?_
    refine endK [] (h2 := ?_) (h3 := ?_) (nd := ?_)
    all_goals (repeat' first|exact ce0|refine ce ?_|refine ce2 ?_ ?_|exact SVLe.refl|refine ceb ?_)
    all_goals first | exact (show nodupB _ = true from rfl) | exact Or.inr rfl | ((unfold isWrd; first | (simp [*]; done) | (rw [decide_eq_false] <;> first | rfl | omega | (simp; done)) | (rw [decide_eq_true] <;> first | rfl | omega | (simp [*]; done)) | (simp_all; done) | (simp_all; omega)))
theorem areW1_ok (w : List Int) (hx : (w.length : Int) ≤ 16777216) : Does Tryz.prog 304 [.one (shI w)] [] (.one (boo (!isWrd w))) [] := by
  refine does_of (k := 0) Tryz.func304 rfl Tryz.ntmps304 rfl rfl fun w F0 S0 ρ0 => ?_
  dsimp only [argT,argH]
  repeat' first|(apply p3;exact pu1;exact rfl)|refine cd ?_|(apply c4 0;exact callK1 (θ := []) (hD := (IsWord_ok _ preB34));exact rfl;exact rfl;exact rfl;refine dM ?_)|fail
  repeat refine cr ?_
  refine ends_id ?_
  refine endK [] (h2 := ?_) (h3 := ?_) (nd := ?_)
  all_goals (repeat' first|exact ce0|refine ce ?_|refine ce2 ?_ ?_|exact SVLe.refl|refine ceb ?_)
  all_goals first | exact (show nodupB _ = true from rfl) | exact Or.inr rfl | (rfl)
theorem hasW1_ok (xs : List (List Int)) (hx : (xs.length : Int) ≤ 16777216) (hxs : ∀ x ∈ xs,(x.length : Int) ≤ 16777216) : Does Tryz.prog 170 [.one (shW xs),.one (.d (.fn (.func 304) []))] [] (.one (boo (xs.any fun w => !isWrd w))) [] := hasW_ok xs _ _ hx hxs (fQ rfl) fun r hr => areW1_ok r hr
theorem areWords_ok (xs : List (List Int)) (hx : (xs.length : Int) ≤ 16777216) (hxs : ∀ x ∈ xs,(x.length : Int) ≤ 16777216) : Does Tryz.prog 287 [.one (shW xs)] [] (.one (boo (xs.all isWrd))) [] := by
  refine does_of (k := 0) Tryz.func287 rfl Tryz.ntmps287 rfl rfl fun w F0 S0 ρ0 => ?_
  dsimp only [argT,argH]
  repeat' first|(apply p3;exact pu1;exact rfl)|refine cd ?_|(apply c4 0;exact callK1 (θ := []) (hD := (hasW1_ok _ preB34 preB34));exact rfl;exact rfl;exact rfl;refine dM ?_)|fail
  repeat refine cr ?_
  refine ends_id ?_
  refine endK [] (h2 := ?_) (h3 := ?_) (nd := ?_)
  all_goals (repeat' first|exact ce0|refine ce ?_|refine ce2 ?_ ?_|exact SVLe.refl|refine ceb ?_)
  all_goals first | exact (show nodupB _ = true from rfl) | exact Or.inr rfl | (exact not_any_not _ _)
@[irreducible] def validP (p : Prf) : Bool := decide ((1 ≤ p.k ∧ p.k ≤ 8) ∧ (p.nu.length : Int) ≤ 300 ∧ (p.wo.length : Int) ≤ 300) && inAll (-1000000000000) 1000000000000 p.nu && p.wo.all isWrd
theorem ValidProof_ok (p : Prf) (hx : (p.nu.length : Int) ≤ 16777216) (hy : (p.wo.length : Int) ≤ 16777216) (hys : ∀ x ∈ p.wo,(x.length : Int) ≤ 16777216) : Does Tryz.prog 257 [.agg (prC p)] [] (.one (boo (validP p))) [] := by
  refine does_of (k := 0) Tryz.func257 rfl Tryz.ntmps257 rfl rfl fun w F0 S0 ρ0 => ?_
  dsimp only [argT,argH]
  repeat' first|(apply n3;exact a_new (gb := .bx _) rfl;exact rfl;refine dA ?_)|(apply p3;(exact pu1);exact rfl)|refine cd ?_|(apply c4 0;exact callK1 (θ := []) (hD := (within_ok _ _ _));exact rfl;exact rfl;exact rfl;refine dM ?_)|(apply c4 0;exact callK1 (θ := []) (hD := (allWithin_ok _ _ _ preB34));exact rfl;exact rfl;exact rfl;refine dM ?_)|refine o_no rfl rfl rfl rfl ?_|(apply py3;exact rfl;exact rfl;(first|exact pu1|exact puN|exact puC);exact rfl;exact rfl)|(apply cy4 0;exact rfl;exact rfl;exact callK1 (θ := []) (hD := (areWords_ok _ preB34 preB34));exact rfl;exact rfl;exact rfl;exact rfl;refine dM ?_)|((first|refine o_gs rfl rfl (fun hc => ?_) (fun hc => ?_)|refine g_cond rfl (fun hc => ?_) (fun hc => ?_)) <;> (try simp only [dcB] at hc) <;> (try first|contradiction|(exfalso;omega)))|fail
  all_goals
    repeat refine cr ?_
    refine ends_id ?_
    refine endK [] (h2 := ?_) (h3 := ?_) (nd := ?_)
    all_goals (repeat' first|exact ce0|refine ce ?_|refine ce2 ?_ ?_|exact SVLe.refl|refine ceb ?_)
    all_goals first | exact (show nodupB _ = true from rfl) | exact Or.inr rfl | ((unfold validP; first | (simp [*]; done) | (rw [decide_eq_false] <;> first | rfl | omega | (simp; done)) | (rw [decide_eq_true] <;> first | rfl | omega | (simp [*]; done)) | (simp_all; done) | (simp_all; omega)))
theorem l03Is_ok (lw : List Int) (hx : (lw.length : Int) ≤ 16777216) : Does Tryz.prog 283 [.one (shI lw)] [] (.one (boo (isWrd lw))) [] := by
  refine does_of (k := 0) Tryz.func283 rfl Tryz.ntmps283 rfl rfl fun w F0 S0 ρ0 => ?_
  dsimp only [argT,argH]
  repeat' first|(apply p3;(exact pu1);exact rfl)|refine cd ?_|fail
  refine g_loop_id ?_
  refine loopK [0,2] [] (fun i : Int => 0 ≤ i ∧ i ≤ lw.length ∧ (lw.take i.toNat).all (fun x => decide (0 ≤ x ∧ x ≤ 9)) = true) (fun i => [(3,.one (int i))]) (fun _ => []) (fun i => (lw.length - i).toNat) (0 : Int) [] (hI := ?_) (hr := ?_)
  · exact ⟨by omega,by omega,rfl⟩
  · rintro i ⟨h0,h1,h2⟩
    dsimp only [List.cons_append,List.nil_append] at *
    skip
    repeat' first|(apply p3;(first|exact pu1|exact puN|exact puC|exact a_add rfl rfl (by omega) (by omega)|exact puI);exact rfl)|refine cd ?_|(apply c4 0;exact callK1 (θ := []) (hD := (l00In_ok _ _ _));exact rfl;exact rfl;exact rfl;refine dM ?_)|((refine g_cond rfl (fun hc => ?_) (fun hc => ?_)) <;> (try simp only [dcB] at hc) <;> (try first|contradiction|(exfalso;omega)))|fail
    · have e : inAll 0 9 lw = false := by unfold inAll; rw [all_no _ _ i.toNat (by omega) (by rw [decide_eq_true_eq]; exact hc)]
      repeat refine cr ?_
      refine ends_id ?_
      refine endK [] (h2 := ?_) (h3 := ?_) (nd := ?_)
      all_goals (repeat' first|exact ce0|refine ce ?_|refine ce2 ?_ ?_|exact SVLe.refl|refine ceb ?_)
      all_goals first | exact (show nodupB _ = true from rfl) | exact Or.inr rfl | ((unfold isWrd; rw [e]; simp))
    · refine q_again (i + 1) [] (by exact stk) ?_ ?_
      · exact ⟨by omega,by omega,all_snocI _ _ _ h0 (by omega) h2 (by rw [decide_eq_true_eq]; exact hc)⟩
      · omega
    · have e : inAll 0 9 lw = true := by unfold inAll; rw [List.take_of_length_le (by omega)] at h2; exact h2
      repeat refine cr ?_
      refine ends_id ?_
      refine endK [] (h2 := ?_) (h3 := ?_) (nd := ?_)
      all_goals (repeat' first|exact ce0|refine ce ?_|refine ce2 ?_ ?_|exact SVLe.refl|refine ceb ?_)
      all_goals first | exact (show nodupB _ = true from rfl) | exact Or.inr rfl | ((unfold isWrd; rw [e]; simp))
theorem l03All_ok (xs : List (List Int)) (hx : (xs.length : Int) ≤ 16777216) (hxs : ∀ x ∈ xs,(x.length : Int) ≤ 16777216) : Does Tryz.prog 253 [.one (shW xs)] [] (.one (boo (xs.all isWrd))) [] := by
  refine does_of (k := 0) Tryz.func253 rfl Tryz.ntmps253 rfl rfl fun w F0 S0 ρ0 => ?_
  dsimp only [argT,argH]
  repeat' first|(apply p3;(exact pu1);exact rfl)|refine cd ?_|fail
  refine g_loop_id ?_
  refine loopK [0,2] [] (fun i : Int => 0 ≤ i ∧ i ≤ xs.length ∧ (xs.take i.toNat).all isWrd = true) (fun i => [(3,.one (int i))]) (fun _ => []) (fun i => (xs.length - i).toNat) (0 : Int) [] (hI := ?_) (hr := ?_)
  · exact ⟨by omega,by omega,rfl⟩
  · rintro i ⟨h0,h1,h2⟩
    dsimp only [List.cons_append,List.nil_append] at *
    skip
    repeat' first|(apply p3;(first|exact pu1|exact puN|exact puC|exact a_add rfl rfl (by omega) (by omega)|exact puI);exact rfl)|refine cd ?_|(apply c4 0;exact callK1 (θ := []) (hD := (l03Is_ok _ preB34));exact rfl;exact rfl;exact rfl;refine dM ?_)|((refine g_cond rfl (fun hc => ?_) (fun hc => ?_)) <;> (try simp only [dcB] at hc) <;> (try first|contradiction|(exfalso;omega)))|fail
    · repeat refine cr ?_
      refine ends_id ?_
      refine endK [] (h2 := ?_) (h3 := ?_) (nd := ?_)
      all_goals (repeat' first|exact ce0|refine ce ?_|refine ce2 ?_ ?_|exact SVLe.refl|refine ceb ?_)
      all_goals first | exact (show nodupB _ = true from rfl) | exact Or.inr rfl | ((rw [all_no _ _ i.toNat (by omega) (by simp [hc])]))
    · refine q_again (i + 1) [] (by exact stk) ?_ ?_
      · exact ⟨by omega,by omega,all_snocI _ _ _ h0 (by omega) h2 hc⟩
      · omega
    · repeat refine cr ?_
      refine ends_id ?_
      refine endK [] (h2 := ?_) (h3 := ?_) (nd := ?_)
      all_goals (repeat' first|exact ce0|refine ce ?_|refine ce2 ?_ ?_|exact SVLe.refl|refine ceb ?_)
      all_goals first | exact (show nodupB _ = true from rfl) | exact Or.inr rfl | ((rw [List.take_of_length_le (by omega)] at h2; exact h2.symm))
theorem l25Is_ok (p : Prf) (hx : (p.nu.length : Int) ≤ 16777216) (hy : (p.wo.length : Int) ≤ 16777216) (hys : ∀ x ∈ p.wo,(x.length : Int) ≤ 16777216) : Does Tryz.prog 199 [.one (prB p)] [] (.one (boo (validP p))) [] := by
  refine does_of (k := 0) Tryz.func199 rfl Tryz.ntmps199 rfl rfl fun w F0 S0 ρ0 => ?_
  dsimp only [argT,argH]
  repeat' first|(apply p3;(exact pu1);exact rfl)|refine cd ?_|(apply c4 0;exact callK1 (θ := []) (hD := (l00In_ok _ _ _));exact rfl;exact rfl;exact rfl;refine dM ?_)|refine o_no rfl rfl rfl rfl ?_|(apply py3;exact rfl;exact rfl;(first|exact pu1|exact puN|exact puC);exact rfl;exact rfl)|((first|refine o_gs rfl rfl (fun hc => ?_) (fun hc => ?_)|refine g_cond rfl (fun hc => ?_) (fun hc => ?_)) <;> (try simp only [dcB] at hc) <;> (try first|contradiction|(exfalso;omega)))|fail
  · repeat refine cr ?_
    refine ends_id ?_
    refine endK [] (h2 := ?_) (h3 := ?_) (nd := ?_)
    all_goals (repeat' first|exact ce0|refine ce ?_|refine ce2 ?_ ?_|exact SVLe.refl|refine ceb ?_)
    all_goals first | exact (show nodupB _ = true from rfl) | exact Or.inr rfl | ((unfold validP; first | (simp [*]; done) | (rw [decide_eq_false] <;> first | rfl | omega | (simp; done)) | (rw [decide_eq_true] <;> first | rfl | omega | (simp [*]; done)) | (simp_all; done) | (simp_all; omega)))
  · repeat refine cr ?_
    refine ends_id ?_
    refine endK [] (h2 := ?_) (h3 := ?_) (nd := ?_)
    all_goals (repeat' first|exact ce0|refine ce ?_|refine ce2 ?_ ?_|exact SVLe.refl|refine ceb ?_)
    all_goals first | exact (show nodupB _ = true from rfl) | exact Or.inr rfl | ((unfold validP; first | (simp [*]; done) | (rw [decide_eq_false] <;> first | rfl | omega | (simp; done)) | (rw [decide_eq_true] <;> first | rfl | omega | (simp [*]; done)) | (simp_all; done) | (simp_all; omega)))
  · repeat refine cr ?_
    refine ends_id ?_
    refine endK [] (h2 := ?_) (h3 := ?_) (nd := ?_)
    all_goals (repeat' first|exact ce0|refine ce ?_|refine ce2 ?_ ?_|exact SVLe.refl|refine ceb ?_)
    all_goals first | exact (show nodupB _ = true from rfl) | exact Or.inr rfl | ((unfold validP; first | (simp [*]; done) | (rw [decide_eq_false] <;> first | rfl | omega | (simp; done)) | (rw [decide_eq_true] <;> first | rfl | omega | (simp [*]; done)) | (simp_all; done) | (simp_all; omega)))
  refine g_loop_id ?_
  refine loopK [0,2] [] (fun i : Int => 0 ≤ i ∧ i ≤ p.nu.length ∧ (p.nu.take i.toNat).all (fun x => decide (-1000000000000 ≤ x ∧ x ≤ 1000000000000)) = true) (fun i => [(3,.one (int i))]) (fun _ => []) (fun i => (p.nu.length - i).toNat) (0 : Int) [] (hI := ?_) (hr := ?_)
  · exact ⟨by omega,by omega,rfl⟩
  · rintro i ⟨h0,h1,h2⟩
    dsimp only [List.cons_append,List.nil_append] at *
    skip
    repeat' first|(apply p3;(first|exact pu1|exact puN|exact puC|exact a_add rfl rfl (by omega) (by omega)|exact puI);exact rfl)|refine cd ?_|(apply c4 0;exact callK1 (θ := []) (hD := (l00In_ok _ _ _));exact rfl;exact rfl;exact rfl;refine dM ?_)|(apply c4 0;exact callK1 (θ := []) (hD := (l03All_ok _ preB34 preB34));exact rfl;exact rfl;exact rfl;refine dM ?_)|((refine g_cond rfl (fun hc => ?_) (fun hc => ?_)) <;> (try simp only [dcB] at hc) <;> (try first|contradiction|(exfalso;omega)))|fail
    · have e : inAll (-1000000000000) 1000000000000 p.nu = false := by unfold inAll; rw [all_no _ _ i.toNat (by omega) (by rw [decide_eq_true_eq]; exact hc)]
      repeat refine cr ?_
      refine ends_id ?_
      refine endK [] (h2 := ?_) (h3 := ?_) (nd := ?_)
      all_goals (repeat' first|exact ce0|refine ce ?_|refine ce2 ?_ ?_|exact SVLe.refl|refine ceb ?_)
      all_goals first | exact (show nodupB _ = true from rfl) | exact Or.inr rfl | ((unfold validP; rw [e]; simp))
    · refine q_again (i + 1) [] (by exact stk) ?_ ?_
      · exact ⟨by omega,by omega,all_snocI _ _ _ h0 (by omega) h2 (by rw [decide_eq_true_eq]; exact hc)⟩
      · omega
    · have e : inAll (-1000000000000) 1000000000000 p.nu = true := by unfold inAll; rw [List.take_of_length_le (by omega)] at h2; exact h2
      repeat refine cr ?_
      refine ends_id ?_
      refine endK [] (h2 := ?_) (h3 := ?_) (nd := ?_)
      all_goals (repeat' first|exact ce0|refine ce ?_|refine ce2 ?_ ?_|exact SVLe.refl|refine ceb ?_)
      all_goals first | exact (show nodupB _ = true from rfl) | exact Or.inr rfl | ((unfold validP; rw [e,decide_eq_true (by omega)]; simp))
end Go.Proofs.YtnkeamihfiobdaaGreatDoor
end
section
set_option linter.unusedVariables false
set_option linter.unusedSimpArgs false
set_option maxRecDepth 100000
set_option maxHeartbeats 4000000
namespace Go.Proofs.YtnkeamihfiobdaaGreatDoor
open Go Foot
@[irreducible] def rulT (r : Rule') : Bs := if r = ⟨0,0,-1⟩ then [45,45,45] else decT r.w ++ (if r.m < 0 then [76] else [82]) ++ decT r.n
def RuBd (r : Rule') : Prop := (-1000000 ≤ r.w ∧ r.w ≤ 1000000) ∧ (-1000000 ≤ r.m ∧ r.m ≤ 1000000) ∧ (-1000000 ≤ r.n ∧ r.n ≤ 1000000)
theorem dec_le {n : Int} (h0 : -1000000000000000000 ≤ n) (h1 : n ≤ 1000000000000000000) : ((decT n).length : Int) ≤ 21 := by have := decT_le (n := n) (by omega) (by omega); omega
theorem rulT_le {r : Rule'} (h : RuBd r) : ((rulT r).length : Int) ≤ 43 := by
  unfold rulT
  split
  · simp
  · have := dec_le (n := r.w) (by have := h.1; omega) (by have := h.1; omega)
    have := dec_le (n := r.n) (by have := h.2.2; omega) (by have := h.2.2; omega)
    simp only [List.length_append]
    split <;> simp only [List.length_cons,List.length_nil] <;> omega
theorem preB51 {p : Prop} (h : p := by first | with_reducible assumption | omega | (simp only [List.length_append,List.length_cons,List.length_nil,List.length_set,List.length_replicate,List.length_take,List.length_drop,List.length_tail,List.length_dropLast,List.length_reverse] at *; omega) | exact mem_len (by assumption) (by omega) | (with_reducible refine Int.le_trans (Int.ofNat_le.2 (trimR_len _)) ?_; simp only [List.length_cons,List.length_tail]; omega) | (exact (ruAt_ok (by assumption) (by assumption) (by assumption)).2.1) | (exact (ruAt_ok (by assumption) (by assumption) (by assumption)).2.1) | (have := vMach_bd (by assumption); omega) | (simp only [mC_ch,mC_tu]; omega) | (have := vTag_bd (by assumption); omega) | (have := (‹Gd _ _›).le; omega) | (exact tgHalts_no (by assumption)) | (exact tgHead (by assumption) (by assumption) (by assumption)) | (exact Int.le_trans (tgStep_gd (by assumption) (by assumption) (by assumption) (by assumption)).le (by decide)) | (exact vTag_r (by assumption)) | (with_reducible refine Int.le_trans (Int.ofNat_le.2 (pushL_len _ _)) ?_; simp only [List.length_dropLast]; omega) | exact (ask_ok (by assumption)).1 | exact (ask_ok (by assumption)).2.1 | exact (ask_ok (by assumption)).2.2.1 | exact (ask_ok (by assumption)).2.2.2 | trivial) : p := h
theorem ruleText_ok (r : Rule') (h : -1000000 ≤ r.w ∧ r.w ≤ 1000000) (h2 : -1000000 ≤ r.n ∧ r.n ≤ 1000000) : Does Tryz.prog 142 [.agg (ruC r)] [] (.one (str (rulT r))) [] := by
  have d1 := dec_le (n := r.w) (by omega) (by omega)
  have d2 := dec_le (n := r.n) (by omega) (by omega)
  have e1 : ((decT r.w ++ [76]).length : Int) = (decT r.w).length + 1 := by simp
  have e2 : ((decT r.w ++ [82]).length : Int) = (decT r.w).length + 1 := by simp
  by_cases hr : r = ⟨0,0,-1⟩
  · have e : rulT r = [45,45,45] := by unfold rulT; rw [if_pos hr]
    rw [e]
    refine does_of (k := 0) Tryz.func142 rfl Tryz.ntmps142 rfl rfl fun w F0 S0 ρ0 => ?_
    dsimp only [argT,argH]
    repeat' first|(apply n3;exact a_new (gb := .bx _) rfl;exact rfl;refine dA ?_)|(apply p3;(exact pu1);exact rfl)|refine cd ?_|(apply c4 0;exact callK1 (θ := []) (hD := (isRule_ok _));exact rfl;exact rfl;exact rfl;refine dM ?_)|((refine g_cond rfl (fun hc => ?_) (fun hc => ?_)) <;> (try simp only [dcB] at hc) <;> (try first|contradiction|(exfalso;omega)))|fail
    repeat refine cr ?_
    refine ends_id ?_
    refine endK [] (h2 := ?_) (h3 := ?_) (nd := ?_)
    all_goals (repeat' first|exact ce0|refine ce ?_|refine ce2 ?_ ?_|exact SVLe.refl|refine ceb ?_)
    all_goals first | exact (show nodupB _ = true from rfl) | exact Or.inr rfl | (rfl)
  by_cases hm : r.m < 0
  · have e : rulT r = decT r.w ++ [76] ++ decT r.n := by unfold rulT; rw [if_neg hr,if_pos hm]
    rw [e]
    refine does_of (k := 0) Tryz.func142 rfl Tryz.ntmps142 rfl rfl fun w F0 S0 ρ0 => ?_
    dsimp only [argT,argH]
    repeat' first|(apply n3;exact a_new (gb := .bx _) rfl;exact rfl;refine dA ?_)|(apply p3;(first|exact pu1|exact puC);exact rfl)|refine cd ?_|(apply c4 0;exact callK1 (θ := []) (hD := (isRule_ok _));exact rfl;exact rfl;exact rfl;refine dM ?_)|(apply g_drN (id := 6) okM [[],[0],[0,1],[],[0,1,2,3],[],[5],[0,1,2,5,6],[0,1,2,3,4,5,6,7],[0,1,2,3,4,5,6,7,8]] [([],[]),([],[]),([],[]),([],[]),([],[]),([],[]),([],[]),([],[]),([],[]),([],[])] 0;(focus (refine dp 0 0 [13,15,16] [] (a_pure (sv := .one _) rfl) ?_;refine dp 1 1 [13,15,16] [] puL ?_;refine dp 2 3 [13,15,16] [] (callD1 (n := _) 0 (θ := []) (hD := (Decimal_ok _ preB51 preB51))) ?_;refine dp 3 0 [10,11,12,15,16,17] [] pu1 ?_;refine dp 4 15 [15,16,17] [] (a_addS rfl rfl (by (simp only [List.length_append,List.length_cons,List.length_nil];omega))) ?_;refine dp 5 0 [10,11,12,13,14] [] (a_pure (sv := .one _) rfl) ?_;refine dp 6 1 [10,11,12,13,14] [] puL ?_;refine dp 7 115 [13,14] [] (callD1 (n := _) 0 (θ := []) (hD := (Decimal_ok _ preB51 preB51))) ?_;refine dp 8 255 [] [] (a_addS rfl rfl (by omega)) ?_;refine dp 9 511 [] [] pu1 ?_;(refine d_nil ?_;refine dN ?_)));any_goals kernel_rfl)|((refine g_cond rfl (fun hc => ?_) (fun hc => ?_)) <;> (try simp only [dcB] at hc) <;> (try first|contradiction|(exfalso;omega)))|fail
    repeat refine cr ?_
    refine ends_id ?_
    refine endK [] (h2 := ?_) (h3 := ?_) (nd := ?_)
    all_goals (repeat' first|exact ce0|refine ce ?_|refine ce2 ?_ ?_|exact SVLe.refl|refine ceb ?_)
    all_goals first | exact (show nodupB _ = true from rfl) | exact Or.inr rfl | (rfl)
  · have e : rulT r = decT r.w ++ [82] ++ decT r.n := by unfold rulT; rw [if_neg hr,if_neg hm]
    rw [e]
    refine does_of (k := 0) Tryz.func142 rfl Tryz.ntmps142 rfl rfl fun w F0 S0 ρ0 => ?_
    dsimp only [argT,argH]
    repeat' first|(apply n3;exact a_new (gb := .bx _) rfl;exact rfl;refine dA ?_)|(apply p3;(first|exact pu1|exact puC);exact rfl)|refine cd ?_|(apply c4 0;exact callK1 (θ := []) (hD := (isRule_ok _));exact rfl;exact rfl;exact rfl;refine dM ?_)|(apply g_drN (id := 6) okM [[],[0],[0,1],[],[0,1,2,3],[],[5],[0,1,2,5,6],[0,1,2,3,4,5,6,7],[0,1,2,3,4,5,6,7,8]] [([],[]),([],[]),([],[]),([],[]),([],[]),([],[]),([],[]),([],[]),([],[]),([],[])] 0;(focus (refine dp 0 0 [13,15,16] [] (a_pure (sv := .one _) rfl) ?_;refine dp 1 1 [13,15,16] [] puL ?_;refine dp 2 3 [13,15,16] [] (callD1 (n := _) 0 (θ := []) (hD := (Decimal_ok _ preB51 preB51))) ?_;refine dp 3 0 [10,11,12,15,16,17] [] pu1 ?_;refine dp 4 15 [15,16,17] [] (a_addS rfl rfl (by (simp only [List.length_append,List.length_cons,List.length_nil];omega))) ?_;refine dp 5 0 [10,11,12,13,14] [] (a_pure (sv := .one _) rfl) ?_;refine dp 6 1 [10,11,12,13,14] [] puL ?_;refine dp 7 115 [13,14] [] (callD1 (n := _) 0 (θ := []) (hD := (Decimal_ok _ preB51 preB51))) ?_;refine dp 8 255 [] [] (a_addS rfl rfl (by omega)) ?_;refine dp 9 511 [] [] pu1 ?_;(refine d_nil ?_;refine dN ?_)));any_goals kernel_rfl)|((refine g_cond rfl (fun hc => ?_) (fun hc => ?_)) <;> (try simp only [dcB] at hc) <;> (try first|contradiction|(exfalso;omega)))|fail
    repeat refine cr ?_
    refine ends_id ?_
    refine endK [] (h2 := ?_) (h3 := ?_) (nd := ?_)
    all_goals (repeat' first|exact ce0|refine ce ?_|refine ce2 ?_ ?_|exact SVLe.refl|refine ceb ?_)
    all_goals first | exact (show nodupB _ = true from rfl) | exact Or.inr rfl | (rfl)
@[irreducible] def sepT (sy i : Int) : Bs := if i = 0 then [] else if i % sy = 0 then [59] else [44]
theorem sepT_le (sy i : Int) : ((sepT sy i).length : Int) ≤ 1 := by unfold sepT; split <;> (try split) <;> simp
def macF (sy : Int) : Nat → List Rule' → Bs
  | _,[] => []
  | i,r :: rs => sepT sy i ++ (rulT r ++ macF sy (i + 1) rs)
@[irreducible] def macT (m : Mach) : Bs := macF m.sy 0 m.ru
theorem vMach_ru {m : Mach} (h : vMach m = true) : ∀ (i : Nat) (hi : i < m.ru.length),(-1000000 ≤ (m.ru[i]).w ∧ (m.ru[i]).w ≤ 1000000) ∧ (-1000000 ≤ (m.ru[i]).m ∧ (m.ru[i]).m ≤ 1000000) ∧ (-1000000 ≤ (m.ru[i]).n ∧ (m.ru[i]).n ≤ 1000000) := by
  intro i hi
  have hb := vMach_bd h
  unfold vMach at h
  simp only [Bool.and_eq_true,List.all_eq_true] at h
  have := h.2 _ (List.getElem_mem hi)
  unfold okRule at this
  simp only [decide_eq_true_eq] at this
  rcases this with e | e
  · rw [e]; exact ⟨⟨by decide,by decide⟩,⟨by decide,by decide⟩,⟨by decide,by decide⟩⟩
  · omega
theorem macF_le (sy : Int) : ∀ (rs : List Rule') (i : Nat),(∀ r ∈ rs,RuBd r) → ((macF sy i rs).length : Int) ≤ 64 * rs.length
  | [],i,_ => by simp [macF]
  | r :: rs,i,h => by
    have h1 := sepT_le sy i
    have h2 := rulT_le (h r (by simp))
    have h3 := macF_le sy rs (i + 1) fun x hx => h x (by simp [hx])
    simp only [macF,List.length_append,List.length_cons]
    omega
theorem vMach_rb {m : Mach} (h : vMach m = true) : ∀ r ∈ m.ru,RuBd r := by
  intro r hr
  obtain ⟨i,hi,rfl⟩ := List.getElem_of_mem hr
  exact vMach_ru h i hi
theorem macT_le {m : Mach} (h : vMach m = true) : ((macT m).length : Int) ≤ 384000 := by
  have h1 := macF_le m.sy m.ru 0 (vMach_rb h)
  have h2 := vMach_bd h
  have h3 : m.sy * m.st ≤ 6 * 1000 := Int.mul_le_mul (by omega) (by omega) (by omega) (by omega)
  unfold macT
  omega
theorem macF_at {sy i : Int} {ru : List Rule'} (h0 : 0 ≤ i) (h : i < ru.length) (out : Bs) : out ++ macF sy i.toNat (ru.drop i.toNat) = out ++ sepT sy i ++ rulT (ru[i.toNat]'(by omega)) ++ macF sy (i + 1).toNat (ru.drop (i + 1).toNat) := by
  rw [List.drop_eq_getElem_cons (show i.toNat < ru.length by omega),show (i + 1).toNat = i.toNat + 1 by omega,macF,show ((i.toNat : Nat) : Int) = i by omega]
  simp only [List.append_assoc]
theorem l05Text_ok (m : Mach) (hm : vMach m = true) : Does Tryz.prog 132 [.one (maB m)] [] (.one (str (macT m))) [] := by
  have hb := vMach_bd hm
  have hR := vMach_ru hm
  have h3 : m.sy * m.st ≤ 6 * 1000 := Int.mul_le_mul (by omega) (by omega) (by omega) (by omega)
  have hl : (m.ru.length : Int) ≤ 6000 := by omega
  refine does_of (k := 0) Tryz.func132 rfl Tryz.ntmps132 rfl rfl fun w F0 S0 ρ0 => ?_
  dsimp only [argT,argH]
  repeat' first|(apply p3;(exact pu1);exact rfl)|refine cd ?_|fail
  refine g_loop_id ?_
  refine loopK [0,2] [] (fun x : Int × Bs => 0 ≤ x.1 ∧ x.1 ≤ m.ru.length ∧ (x.2.length : Int) ≤ 64 * x.1 ∧ x.2 ++ macF m.sy x.1.toNat (m.ru.drop x.1.toNat) = macF m.sy 0 m.ru) (fun x => [(4,.one (int x.1)),(3,.one (str x.2))]) (fun _ => []) (fun x => (m.ru.length - x.1).toNat) ((0 : Int),[]) [] (hI := ?_) (hr := ?_)
  · exact ⟨by simp,by simp,by simp,by simp⟩
  · rintro ⟨i,out⟩ ⟨j0,j1,j2,j3⟩
    dsimp only [List.cons_append,List.nil_append] at *
    skip
    repeat' first|(apply p3;(first|exact pu1|exact puN|exact puC|exact a_addS rfl rfl (by first|omega|(simp only [List.length_append,List.length_cons,List.length_nil];omega)));exact rfl)|refine cdn ?_|refine g_reg (id := 3) ?_|refine g_reg (id := 5) ?_|refine g_reg (id := 6) ?_|refine g_reg (id := 7) ?_|refine g_reg (id := 8) ?_|refine o_no rfl rfl rfl rfl ?_|(apply py3;exact rfl;exact rfl;(first|exact pu1|exact puC|exact a_rem rfl rfl (by omega) (by omega) (by omega));exact rfl;exact rfl)|((first|refine o_gs rfl rfl (fun hc => ?_) (fun hc => ?_)|refine g_cond rfl (fun hc => ?_) (fun hc => ?_)) <;> (try simp only [dcB] at hc) <;> (try first|contradiction|(exfalso;omega)))|fail
    · have hs : sepT m.sy i = [59] := by unfold sepT; rw [if_neg (by omega),if_pos hc]
      have h4 := hR i.toNat (by omega)
      have d1 := dec_le (n := (m.ru[i.toNat]'(by omega)).w) (by omega) (by omega)
      have d2 := dec_le (n := (m.ru[i.toNat]'(by omega)).n) (by omega) (by omega)
      by_cases hz : m.ru[i.toNat]'(by omega) = ⟨0,0,-1⟩
      · have hu : rulT (m.ru[i.toNat]'(by omega)) = [45,45,45] := by unfold rulT; rw [if_pos hz]
        repeat' first|(apply n3;exact a_new (gb := .bx _) rfl;exact rfl;refine dA ?_)|(apply p3;(first|exact pu1|exact a_addS rfl rfl (by first|omega|(simp only [List.length_append,List.length_cons,List.length_nil];omega))|exact a_add rfl rfl (by omega) (by omega)|exact puI);exact rfl)|refine cd ?_|(apply w3;(exact a_st_bx rfl rfl rfl rfl (fN rfl rfl) (Nat.le_of_ble_eq_true rfl) rfl);exact rfl;refine dS ?_)|(apply g_drN (id := 10) okM [[],[],[0,1]] [([],[]),([],[]),([],[])] 0;(focus (refine dp 0 0 [41] [] puL ?_;refine dp 1 0 [40] [] (callD1 (n := _) 0 (θ := []) (hD := l05None_ok)) ?_;refine dp 2 3 [] [] (by exact a_eqRule (s := ⟨_,_,_⟩) rfl rfl) ?_;(refine d_nil ?_;refine dN ?_)));any_goals kernel_rfl)|((refine g_cond rfl (fun hc => ?_) (fun hc => ?_)) <;> (try simp only [dcB] at hc) <;> (try first|contradiction|(exfalso;omega)))|fail
        refine q_again (i + 1,_) [] (by exact stk) ?_ ?_
        · dsimp only
          refine ⟨by omega,by omega,?_,?_⟩
          · simp only [List.length_append,List.length_cons,List.length_nil]
            omega
          · rw [← j3,macF_at j0 (by omega),hs,hu]
            try simp only [List.append_assoc,List.nil_append,List.append_nil]
        · dsimp only; omega
      · by_cases hm2 : (m.ru[i.toNat]'(by omega)).m < 0
        · have hu : rulT (m.ru[i.toNat]'(by omega)) = decT (m.ru[i.toNat]'(by omega)).w ++ [76] ++ decT (m.ru[i.toNat]'(by omega)).n := by unfold rulT; rw [if_neg hz,if_pos hm2]
          repeat' first|(apply n3;exact a_new (gb := .bx _) rfl;exact rfl;refine dA ?_)|(apply p3;(first|exact pu1|exact puC|exact a_add rfl rfl (by omega) (by omega)|exact puI);exact rfl)|refine cd ?_|(apply w3;(exact a_st_bx rfl rfl rfl rfl (fN rfl rfl) (Nat.le_of_ble_eq_true rfl) rfl);exact rfl;refine dS ?_)|(apply g_drN (id := 10) okM [[],[],[0,1]] [([],[]),([],[]),([],[])] 0;(focus (refine dp 0 0 [41] [] puL ?_;refine dp 1 0 [40] [] (callD1 (n := _) 0 (θ := []) (hD := l05None_ok)) ?_;refine dp 2 3 [] [] (by exact a_eqRule (s := ⟨_,_,_⟩) rfl rfl) ?_;(refine d_nil ?_;refine dN ?_)));any_goals kernel_rfl)|(apply g_drN (id := 15) okM [[],[],[1],[1,2],[],[1,2,3,4],[],[6],[1,2,3,6,7],[1,2,3,4,5,6,7,8],[0,1,2,3,4,5,6,7,8,9],[0,1,2,3,4,5,6,7,8,9,10]] [([],[]),([],[]),([],[]),([],[]),([],[]),([],[]),([],[]),([],[]),([],[]),([],[]),([],[]),([],[])] 0;(focus (refine dp 0 0 [49,50,51,52,53,54,55,56,57] [] pu1 ?_;refine dp 1 0 [48,52,54,55] [] (a_pure (sv := .one _) rfl) ?_;refine dp 2 1 [48,52,54,55] [] puL ?_;refine dp 3 3 [48,52,54,55] [] (callD1 (n := _) 0 (θ := []) (hD := (l01Dec_ok _ preB51 preB51))) ?_;refine dp 4 0 [48,49,50,51,54,55,56] [] pu1 ?_;refine dp 5 15 [48,54,55,56] [] (a_addS rfl rfl (by (simp only [List.length_append,List.length_cons,List.length_nil];omega))) ?_;refine dp 6 0 [48,49,50,51,52,53] [] (a_pure (sv := .one _) rfl) ?_;refine dp 7 1 [48,49,50,51,52,53] [] puL ?_;refine dp 8 115 [48,52,53] [] (callD1 (n := _) 0 (θ := []) (hD := (l01Dec_ok _ preB51 preB51))) ?_;refine dp 9 255 [48] [] (a_addS rfl rfl (by (simp only [List.length_append,List.length_cons,List.length_nil];omega))) ?_;refine dp 10 1023 [] [] (a_addS rfl rfl (by (simp only [List.length_append,List.length_cons,List.length_nil];omega))) ?_;refine dp 11 2047 [] [] pu1 ?_;(refine d_nil ?_;refine dN ?_)));any_goals kernel_rfl)|((refine g_cond rfl (fun hc => ?_) (fun hc => ?_)) <;> (try simp only [dcB] at hc) <;> (try first|contradiction|(exfalso;omega)))|fail
          refine q_again (i + 1,_) [] (by exact stk) ?_ ?_
          · dsimp only
            refine ⟨by omega,by omega,?_,?_⟩
            · simp only [List.length_append,List.length_cons,List.length_nil]
              omega
            · rw [← j3,macF_at j0 (by omega),hs,hu]
              try simp only [List.append_assoc,List.nil_append,List.append_nil]
          · dsimp only; omega
        · have hu : rulT (m.ru[i.toNat]'(by omega)) = decT (m.ru[i.toNat]'(by omega)).w ++ [82] ++ decT (m.ru[i.toNat]'(by omega)).n := by unfold rulT; rw [if_neg hz,if_neg hm2]
          repeat' first|(apply n3;exact a_new (gb := .bx _) rfl;exact rfl;refine dA ?_)|(apply p3;(first|exact pu1|exact puC|exact a_add rfl rfl (by omega) (by omega)|exact puI);exact rfl)|refine cd ?_|(apply w3;(exact a_st_bx rfl rfl rfl rfl (fN rfl rfl) (Nat.le_of_ble_eq_true rfl) rfl);exact rfl;refine dS ?_)|(apply g_drN (id := 10) okM [[],[],[0,1]] [([],[]),([],[]),([],[])] 0;(focus (refine dp 0 0 [41] [] puL ?_;refine dp 1 0 [40] [] (callD1 (n := _) 0 (θ := []) (hD := l05None_ok)) ?_;refine dp 2 3 [] [] (by exact a_eqRule (s := ⟨_,_,_⟩) rfl rfl) ?_;(refine d_nil ?_;refine dN ?_)));any_goals kernel_rfl)|(apply g_drN (id := 15) okM [[],[],[1],[1,2],[],[1,2,3,4],[],[6],[1,2,3,6,7],[1,2,3,4,5,6,7,8],[0,1,2,3,4,5,6,7,8,9],[0,1,2,3,4,5,6,7,8,9,10]] [([],[]),([],[]),([],[]),([],[]),([],[]),([],[]),([],[]),([],[]),([],[]),([],[]),([],[]),([],[])] 0;(focus (refine dp 0 0 [49,50,51,52,53,54,55,56,57] [] pu1 ?_;refine dp 1 0 [48,52,54,55] [] (a_pure (sv := .one _) rfl) ?_;refine dp 2 1 [48,52,54,55] [] puL ?_;refine dp 3 3 [48,52,54,55] [] (callD1 (n := _) 0 (θ := []) (hD := (l01Dec_ok _ preB51 preB51))) ?_;refine dp 4 0 [48,49,50,51,54,55,56] [] pu1 ?_;refine dp 5 15 [48,54,55,56] [] (a_addS rfl rfl (by (simp only [List.length_append,List.length_cons,List.length_nil];omega))) ?_;refine dp 6 0 [48,49,50,51,52,53] [] (a_pure (sv := .one _) rfl) ?_;refine dp 7 1 [48,49,50,51,52,53] [] puL ?_;refine dp 8 115 [48,52,53] [] (callD1 (n := _) 0 (θ := []) (hD := (l01Dec_ok _ preB51 preB51))) ?_;refine dp 9 255 [48] [] (a_addS rfl rfl (by (simp only [List.length_append,List.length_cons,List.length_nil];omega))) ?_;refine dp 10 1023 [] [] (a_addS rfl rfl (by (simp only [List.length_append,List.length_cons,List.length_nil];omega))) ?_;refine dp 11 2047 [] [] pu1 ?_;(refine d_nil ?_;refine dN ?_)));any_goals kernel_rfl)|((refine g_cond rfl (fun hc => ?_) (fun hc => ?_)) <;> (try simp only [dcB] at hc) <;> (try first|contradiction|(exfalso;omega)))|fail
          refine q_again (i + 1,_) [] (by exact stk) ?_ ?_
          · dsimp only
            refine ⟨by omega,by omega,?_,?_⟩
            · simp only [List.length_append,List.length_cons,List.length_nil]
              omega
            · rw [← j3,macF_at j0 (by omega),hs,hu]
              try simp only [List.append_assoc,List.nil_append,List.append_nil]
          · dsimp only; omega
    · have hs : sepT m.sy i = [44] := by unfold sepT; rw [if_neg (by omega),if_neg (by assumption)]
      have h4 := hR i.toNat (by omega)
      have d1 := dec_le (n := (m.ru[i.toNat]'(by omega)).w) (by omega) (by omega)
      have d2 := dec_le (n := (m.ru[i.toNat]'(by omega)).n) (by omega) (by omega)
      by_cases hz : m.ru[i.toNat]'(by omega) = ⟨0,0,-1⟩
      · have hu : rulT (m.ru[i.toNat]'(by omega)) = [45,45,45] := by unfold rulT; rw [if_pos hz]
        repeat' first|(apply n3;exact a_new (gb := .bx _) rfl;exact rfl;refine dA ?_)|(apply p3;(first|exact pu1|exact a_addS rfl rfl (by first|omega|(simp only [List.length_append,List.length_cons,List.length_nil];omega))|exact a_add rfl rfl (by omega) (by omega)|exact puI);exact rfl)|refine cd ?_|(apply w3;(exact a_st_bx rfl rfl rfl rfl (fN rfl rfl) (Nat.le_of_ble_eq_true rfl) rfl);exact rfl;refine dS ?_)|(apply g_drN (id := 10) okM [[],[],[0,1]] [([],[]),([],[]),([],[])] 0;(focus (refine dp 0 0 [41] [] puL ?_;refine dp 1 0 [40] [] (callD1 (n := _) 0 (θ := []) (hD := l05None_ok)) ?_;refine dp 2 3 [] [] (by exact a_eqRule (s := ⟨_,_,_⟩) rfl rfl) ?_;(refine d_nil ?_;refine dN ?_)));any_goals kernel_rfl)|((refine g_cond rfl (fun hc => ?_) (fun hc => ?_)) <;> (try simp only [dcB] at hc) <;> (try first|contradiction|(exfalso;omega)))|fail
        refine q_again (i + 1,_) [] (by exact stk) ?_ ?_
        · dsimp only
          refine ⟨by omega,by omega,?_,?_⟩
          · simp only [List.length_append,List.length_cons,List.length_nil]
            omega
          · rw [← j3,macF_at j0 (by omega),hs,hu]
            try simp only [List.append_assoc,List.nil_append,List.append_nil]
        · dsimp only; omega
      · by_cases hm2 : (m.ru[i.toNat]'(by omega)).m < 0
        · have hu : rulT (m.ru[i.toNat]'(by omega)) = decT (m.ru[i.toNat]'(by omega)).w ++ [76] ++ decT (m.ru[i.toNat]'(by omega)).n := by unfold rulT; rw [if_neg hz,if_pos hm2]
          repeat' first|(apply n3;exact a_new (gb := .bx _) rfl;exact rfl;refine dA ?_)|(apply p3;(first|exact pu1|exact puC|exact a_add rfl rfl (by omega) (by omega)|exact puI);exact rfl)|refine cd ?_|(apply w3;(exact a_st_bx rfl rfl rfl rfl (fN rfl rfl) (Nat.le_of_ble_eq_true rfl) rfl);exact rfl;refine dS ?_)|(apply g_drN (id := 10) okM [[],[],[0,1]] [([],[]),([],[]),([],[])] 0;(focus (refine dp 0 0 [41] [] puL ?_;refine dp 1 0 [40] [] (callD1 (n := _) 0 (θ := []) (hD := l05None_ok)) ?_;refine dp 2 3 [] [] (by exact a_eqRule (s := ⟨_,_,_⟩) rfl rfl) ?_;(refine d_nil ?_;refine dN ?_)));any_goals kernel_rfl)|(apply g_drN (id := 15) okM [[],[],[1],[1,2],[],[1,2,3,4],[],[6],[1,2,3,6,7],[1,2,3,4,5,6,7,8],[0,1,2,3,4,5,6,7,8,9],[0,1,2,3,4,5,6,7,8,9,10]] [([],[]),([],[]),([],[]),([],[]),([],[]),([],[]),([],[]),([],[]),([],[]),([],[]),([],[]),([],[])] 0;(focus (refine dp 0 0 [49,50,51,52,53,54,55,56,57] [] pu1 ?_;refine dp 1 0 [48,52,54,55] [] (a_pure (sv := .one _) rfl) ?_;refine dp 2 1 [48,52,54,55] [] puL ?_;refine dp 3 3 [48,52,54,55] [] (callD1 (n := _) 0 (θ := []) (hD := (l01Dec_ok _ preB51 preB51))) ?_;refine dp 4 0 [48,49,50,51,54,55,56] [] pu1 ?_;refine dp 5 15 [48,54,55,56] [] (a_addS rfl rfl (by (simp only [List.length_append,List.length_cons,List.length_nil];omega))) ?_;refine dp 6 0 [48,49,50,51,52,53] [] (a_pure (sv := .one _) rfl) ?_;refine dp 7 1 [48,49,50,51,52,53] [] puL ?_;refine dp 8 115 [48,52,53] [] (callD1 (n := _) 0 (θ := []) (hD := (l01Dec_ok _ preB51 preB51))) ?_;refine dp 9 255 [48] [] (a_addS rfl rfl (by (simp only [List.length_append,List.length_cons,List.length_nil];omega))) ?_;refine dp 10 1023 [] [] (a_addS rfl rfl (by (simp only [List.length_append,List.length_cons,List.length_nil];omega))) ?_;refine dp 11 2047 [] [] pu1 ?_;(refine d_nil ?_;refine dN ?_)));any_goals kernel_rfl)|((refine g_cond rfl (fun hc => ?_) (fun hc => ?_)) <;> (try simp only [dcB] at hc) <;> (try first|contradiction|(exfalso;omega)))|fail
          refine q_again (i + 1,_) [] (by exact stk) ?_ ?_
          · dsimp only
            refine ⟨by omega,by omega,?_,?_⟩
            · simp only [List.length_append,List.length_cons,List.length_nil]
              omega
            · rw [← j3,macF_at j0 (by omega),hs,hu]
              try simp only [List.append_assoc,List.nil_append,List.append_nil]
          · dsimp only; omega
        · have hu : rulT (m.ru[i.toNat]'(by omega)) = decT (m.ru[i.toNat]'(by omega)).w ++ [82] ++ decT (m.ru[i.toNat]'(by omega)).n := by unfold rulT; rw [if_neg hz,if_neg hm2]
          repeat' first|(apply n3;exact a_new (gb := .bx _) rfl;exact rfl;refine dA ?_)|(apply p3;(first|exact pu1|exact puC|exact a_add rfl rfl (by omega) (by omega)|exact puI);exact rfl)|refine cd ?_|(apply w3;(exact a_st_bx rfl rfl rfl rfl (fN rfl rfl) (Nat.le_of_ble_eq_true rfl) rfl);exact rfl;refine dS ?_)|(apply g_drN (id := 10) okM [[],[],[0,1]] [([],[]),([],[]),([],[])] 0;(focus (refine dp 0 0 [41] [] puL ?_;refine dp 1 0 [40] [] (callD1 (n := _) 0 (θ := []) (hD := l05None_ok)) ?_;refine dp 2 3 [] [] (by exact a_eqRule (s := ⟨_,_,_⟩) rfl rfl) ?_;(refine d_nil ?_;refine dN ?_)));any_goals kernel_rfl)|(apply g_drN (id := 15) okM [[],[],[1],[1,2],[],[1,2,3,4],[],[6],[1,2,3,6,7],[1,2,3,4,5,6,7,8],[0,1,2,3,4,5,6,7,8,9],[0,1,2,3,4,5,6,7,8,9,10]] [([],[]),([],[]),([],[]),([],[]),([],[]),([],[]),([],[]),([],[]),([],[]),([],[]),([],[]),([],[])] 0;(focus (refine dp 0 0 [49,50,51,52,53,54,55,56,57] [] pu1 ?_;refine dp 1 0 [48,52,54,55] [] (a_pure (sv := .one _) rfl) ?_;refine dp 2 1 [48,52,54,55] [] puL ?_;refine dp 3 3 [48,52,54,55] [] (callD1 (n := _) 0 (θ := []) (hD := (l01Dec_ok _ preB51 preB51))) ?_;refine dp 4 0 [48,49,50,51,54,55,56] [] pu1 ?_;refine dp 5 15 [48,54,55,56] [] (a_addS rfl rfl (by (simp only [List.length_append,List.length_cons,List.length_nil];omega))) ?_;refine dp 6 0 [48,49,50,51,52,53] [] (a_pure (sv := .one _) rfl) ?_;refine dp 7 1 [48,49,50,51,52,53] [] puL ?_;refine dp 8 115 [48,52,53] [] (callD1 (n := _) 0 (θ := []) (hD := (l01Dec_ok _ preB51 preB51))) ?_;refine dp 9 255 [48] [] (a_addS rfl rfl (by (simp only [List.length_append,List.length_cons,List.length_nil];omega))) ?_;refine dp 10 1023 [] [] (a_addS rfl rfl (by (simp only [List.length_append,List.length_cons,List.length_nil];omega))) ?_;refine dp 11 2047 [] [] pu1 ?_;(refine d_nil ?_;refine dN ?_)));any_goals kernel_rfl)|((refine g_cond rfl (fun hc => ?_) (fun hc => ?_)) <;> (try simp only [dcB] at hc) <;> (try first|contradiction|(exfalso;omega)))|fail
          refine q_again (i + 1,_) [] (by exact stk) ?_ ?_
          · dsimp only
            refine ⟨by omega,by omega,?_,?_⟩
            · simp only [List.length_append,List.length_cons,List.length_nil]
              omega
            · rw [← j3,macF_at j0 (by omega),hs,hu]
              try simp only [List.append_assoc,List.nil_append,List.append_nil]
          · dsimp only; omega
    · have hs : sepT m.sy i = [] := by unfold sepT; rw [if_pos (by omega)]
      have h4 := hR i.toNat (by omega)
      have d1 := dec_le (n := (m.ru[i.toNat]'(by omega)).w) (by omega) (by omega)
      have d2 := dec_le (n := (m.ru[i.toNat]'(by omega)).n) (by omega) (by omega)
      by_cases hz : m.ru[i.toNat]'(by omega) = ⟨0,0,-1⟩
      · have hu : rulT (m.ru[i.toNat]'(by omega)) = [45,45,45] := by unfold rulT; rw [if_pos hz]
        repeat' first|(apply n3;exact a_new (gb := .bx _) rfl;exact rfl;refine dA ?_)|(apply p3;(first|exact pu1|exact a_addS rfl rfl (by first|omega|(simp only [List.length_append,List.length_cons,List.length_nil];omega))|exact a_add rfl rfl (by omega) (by omega)|exact puI);exact rfl)|refine cd ?_|(apply w3;(exact a_st_bx rfl rfl rfl rfl (fN rfl rfl) (Nat.le_of_ble_eq_true rfl) rfl);exact rfl;refine dS ?_)|(apply g_drN (id := 10) okM [[],[],[0,1]] [([],[]),([],[]),([],[])] 0;(focus (refine dp 0 0 [41] [] puL ?_;refine dp 1 0 [40] [] (callD1 (n := _) 0 (θ := []) (hD := l05None_ok)) ?_;refine dp 2 3 [] [] (by exact a_eqRule (s := ⟨_,_,_⟩) rfl rfl) ?_;(refine d_nil ?_;refine dN ?_)));any_goals kernel_rfl)|((refine g_cond rfl (fun hc => ?_) (fun hc => ?_)) <;> (try simp only [dcB] at hc) <;> (try first|contradiction|(exfalso;omega)))|fail
        refine q_again (i + 1,_) [] (by exact stk) ?_ ?_
        · dsimp only
          refine ⟨by omega,by omega,?_,?_⟩
          · simp only [List.length_append,List.length_cons,List.length_nil]
            omega
          · rw [← j3,macF_at j0 (by omega),hs,hu]
            try simp only [List.append_assoc,List.nil_append,List.append_nil]
        · dsimp only; omega
      · by_cases hm2 : (m.ru[i.toNat]'(by omega)).m < 0
        · have hu : rulT (m.ru[i.toNat]'(by omega)) = decT (m.ru[i.toNat]'(by omega)).w ++ [76] ++ decT (m.ru[i.toNat]'(by omega)).n := by unfold rulT; rw [if_neg hz,if_pos hm2]
          repeat' first|(apply n3;exact a_new (gb := .bx _) rfl;exact rfl;refine dA ?_)|(apply p3;(first|exact pu1|exact puC|exact a_add rfl rfl (by omega) (by omega)|exact puI);exact rfl)|refine cd ?_|(apply w3;(exact a_st_bx rfl rfl rfl rfl (fN rfl rfl) (Nat.le_of_ble_eq_true rfl) rfl);exact rfl;refine dS ?_)|(apply g_drN (id := 10) okM [[],[],[0,1]] [([],[]),([],[]),([],[])] 0;(focus (refine dp 0 0 [41] [] puL ?_;refine dp 1 0 [40] [] (callD1 (n := _) 0 (θ := []) (hD := l05None_ok)) ?_;refine dp 2 3 [] [] (by exact a_eqRule (s := ⟨_,_,_⟩) rfl rfl) ?_;(refine d_nil ?_;refine dN ?_)));any_goals kernel_rfl)|(apply g_drN (id := 15) okM [[],[],[1],[1,2],[],[1,2,3,4],[],[6],[1,2,3,6,7],[1,2,3,4,5,6,7,8],[0,1,2,3,4,5,6,7,8,9],[0,1,2,3,4,5,6,7,8,9,10]] [([],[]),([],[]),([],[]),([],[]),([],[]),([],[]),([],[]),([],[]),([],[]),([],[]),([],[]),([],[])] 0;(focus (refine dp 0 0 [49,50,51,52,53,54,55,56,57] [] pu1 ?_;refine dp 1 0 [48,52,54,55] [] (a_pure (sv := .one _) rfl) ?_;refine dp 2 1 [48,52,54,55] [] puL ?_;refine dp 3 3 [48,52,54,55] [] (callD1 (n := _) 0 (θ := []) (hD := (l01Dec_ok _ preB51 preB51))) ?_;refine dp 4 0 [48,49,50,51,54,55,56] [] pu1 ?_;refine dp 5 15 [48,54,55,56] [] (a_addS rfl rfl (by (simp only [List.length_append,List.length_cons,List.length_nil];omega))) ?_;refine dp 6 0 [48,49,50,51,52,53] [] (a_pure (sv := .one _) rfl) ?_;refine dp 7 1 [48,49,50,51,52,53] [] puL ?_;refine dp 8 115 [48,52,53] [] (callD1 (n := _) 0 (θ := []) (hD := (l01Dec_ok _ preB51 preB51))) ?_;refine dp 9 255 [48] [] (a_addS rfl rfl (by (simp only [List.length_append,List.length_cons,List.length_nil];omega))) ?_;refine dp 10 1023 [] [] (a_addS rfl rfl (by (simp only [List.length_append,List.length_cons,List.length_nil];omega))) ?_;refine dp 11 2047 [] [] pu1 ?_;(refine d_nil ?_;refine dN ?_)));any_goals kernel_rfl)|((refine g_cond rfl (fun hc => ?_) (fun hc => ?_)) <;> (try simp only [dcB] at hc) <;> (try first|contradiction|(exfalso;omega)))|fail
          refine q_again (i + 1,_) [] (by exact stk) ?_ ?_
          · dsimp only
            refine ⟨by omega,by omega,?_,?_⟩
            · simp only [List.length_append,List.length_cons,List.length_nil]
              omega
            · rw [← j3,macF_at j0 (by omega),hs,hu]
              try simp only [List.append_assoc,List.nil_append,List.append_nil]
          · dsimp only; omega
        · have hu : rulT (m.ru[i.toNat]'(by omega)) = decT (m.ru[i.toNat]'(by omega)).w ++ [82] ++ decT (m.ru[i.toNat]'(by omega)).n := by unfold rulT; rw [if_neg hz,if_neg hm2]
          repeat' first|(apply n3;exact a_new (gb := .bx _) rfl;exact rfl;refine dA ?_)|(apply p3;(first|exact pu1|exact puC|exact a_add rfl rfl (by omega) (by omega)|exact puI);exact rfl)|refine cd ?_|(apply w3;(exact a_st_bx rfl rfl rfl rfl (fN rfl rfl) (Nat.le_of_ble_eq_true rfl) rfl);exact rfl;refine dS ?_)|(apply g_drN (id := 10) okM [[],[],[0,1]] [([],[]),([],[]),([],[])] 0;(focus (refine dp 0 0 [41] [] puL ?_;refine dp 1 0 [40] [] (callD1 (n := _) 0 (θ := []) (hD := l05None_ok)) ?_;refine dp 2 3 [] [] (by exact a_eqRule (s := ⟨_,_,_⟩) rfl rfl) ?_;(refine d_nil ?_;refine dN ?_)));any_goals kernel_rfl)|(apply g_drN (id := 15) okM [[],[],[1],[1,2],[],[1,2,3,4],[],[6],[1,2,3,6,7],[1,2,3,4,5,6,7,8],[0,1,2,3,4,5,6,7,8,9],[0,1,2,3,4,5,6,7,8,9,10]] [([],[]),([],[]),([],[]),([],[]),([],[]),([],[]),([],[]),([],[]),([],[]),([],[]),([],[]),([],[])] 0;(focus (refine dp 0 0 [49,50,51,52,53,54,55,56,57] [] pu1 ?_;refine dp 1 0 [48,52,54,55] [] (a_pure (sv := .one _) rfl) ?_;refine dp 2 1 [48,52,54,55] [] puL ?_;refine dp 3 3 [48,52,54,55] [] (callD1 (n := _) 0 (θ := []) (hD := (l01Dec_ok _ preB51 preB51))) ?_;refine dp 4 0 [48,49,50,51,54,55,56] [] pu1 ?_;refine dp 5 15 [48,54,55,56] [] (a_addS rfl rfl (by (simp only [List.length_append,List.length_cons,List.length_nil];omega))) ?_;refine dp 6 0 [48,49,50,51,52,53] [] (a_pure (sv := .one _) rfl) ?_;refine dp 7 1 [48,49,50,51,52,53] [] puL ?_;refine dp 8 115 [48,52,53] [] (callD1 (n := _) 0 (θ := []) (hD := (l01Dec_ok _ preB51 preB51))) ?_;refine dp 9 255 [48] [] (a_addS rfl rfl (by (simp only [List.length_append,List.length_cons,List.length_nil];omega))) ?_;refine dp 10 1023 [] [] (a_addS rfl rfl (by (simp only [List.length_append,List.length_cons,List.length_nil];omega))) ?_;refine dp 11 2047 [] [] pu1 ?_;(refine d_nil ?_;refine dN ?_)));any_goals kernel_rfl)|((refine g_cond rfl (fun hc => ?_) (fun hc => ?_)) <;> (try simp only [dcB] at hc) <;> (try first|contradiction|(exfalso;omega)))|fail
          refine q_again (i + 1,_) [] (by exact stk) ?_ ?_
          · dsimp only
            refine ⟨by omega,by omega,?_,?_⟩
            · simp only [List.length_append,List.length_cons,List.length_nil]
              omega
            · rw [← j3,macF_at j0 (by omega),hs,hu]
              try simp only [List.append_assoc,List.nil_append,List.append_nil]
          · dsimp only; omega
    · have e : out = macT m := by unfold macT; rw [← j3,List.drop_eq_nil_of_le (by omega),macF,List.append_nil]
      rw [e]
      repeat' first|(apply p3;(exact pu1);exact rfl)|refine cd ?_|fail
      repeat refine cr ?_
      refine ends_id ?_
      refine endK [] (h2 := ?_) (h3 := ?_) (nd := ?_)
      all_goals (repeat' first|exact ce0|refine ce ?_|refine ce2 ?_ ?_|exact SVLe.refl|refine ceb ?_)
      all_goals first | exact (show nodupB _ = true from rfl) | exact Or.inr rfl | (rfl)
end Go.Proofs.YtnkeamihfiobdaaGreatDoor
end
section
set_option linter.unusedVariables false
set_option linter.unusedSimpArgs false
set_option maxRecDepth 100000
namespace Go.Proofs.YtnkeamihfiobdaaGreatDoor
open Go Foot
section
variable {P : Program} {g : Gh} {dst : Option Tmp} {ty : TypeId} {pos : String} {after : Array Edge} {guard : Option (Nat × Bool)} {st : St} {x y : Operand}
theorem run_slice3 {w : World} {T z len cap l u : Nat} {ad : Option Addr} {lo hi mx : Value} (hT : sliceB P T z = true) (hlo : ∃ k,lo = .int k l) (hhi : ∃ k,hi = .int k u) (hmx : ∃ k,mx = .int k u) (h1 : l ≤ u) (h2 : u ≤ len) (h3 : len ≤ cap) :
    (Instr.sliceAt T (.slice ad len cap) (some lo) (some hi) (some mx)).run P w = .ok (.slice (if u = l then ad else ad.map (·.add (l * z))) (u - l) (u - l)) w := by
  unfold sliceB at hT
  split at hT
  · rename_i e hu
    split at hT
    · rename_i i hi'
      have hs := Nat.eq_of_beq_eq_true hT
      subst hs
      have a1 : (u : Int) ≤ cap := by omega
      have a2 : (l : Int) ≤ u := by omega
      have b1 : u ≤ cap := by omega
      obtain ⟨k,rfl⟩ := hlo
      obtain ⟨k',rfl⟩ := hhi
      obtain ⟨k'',rfl⟩ := hmx
      simp [Instr.sliceAt,run_underlying hu,Instr.slice,Instr.sliceBounds,Instr.sliceBound,asIntOf,sizeOf,typeInfo,hi',a1,a2,b1,h1]
    · cases hT
  · cases hT
theorem a_slice_imm3 {T zz l u : Nat} {c : C} {row es : List D} {lo hi mx : Operand} (hc : opd st x = .one c) (hs : shv st c = some (zz,row)) (hlo : bndOk st 0 (some lo) l) (hhi : bndOk st (cnt zz row) (some hi) u) (hmx : bndOk st (cnt zz row) (some mx) u) (hT : sliceB P T zz = true) (h1 : l ≤ u) (h2 : u ≤ cnt zz row) (he : (row.drop (l * zz)).take ((u - l) * zz) = es) :
    Acts P g ⟨dst,.slice T x (some lo) (some hi) (some mx),ty,pos,after,guard⟩ st (.one (.d (.sl false zz es))) [] [] := by
  subst he
  refine acts_of fun a w S ρ F h => ?_
  have hx1 := h.shv (opd_one h hc) hs
  obtain ⟨ad,len,cap,hv,hlr,hz,hlc,hcn⟩ := sl_len hx1
  simp only [RepS,RepC,Rep,Bool.false_eq_true,if_false] at hx1 ⊢
  obtain ⟨ad',len',cap',he,hlr',hz',hlc',h2'⟩ := hx1
  rw [hv] at he
  simp only [Value.slice.injEq] at he
  obtain ⟨e1,e2,e3⟩ := he
  subst e1 e2 e3
  rw [hcn] at hhi hmx h2
  have hm : (u - l) * zz + l * zz = u * zz := by rw [← Nat.add_mul]; congr 1; omega
  have hm2 : u * zz ≤ row.length := by rw [hlr]; exact Nat.mul_le_mul_right _ h2
  have ev : ∀ {d n : Nat} {z : Operand},bndOk st d (some z) n → ∃ k,a.eval z = .int k n := fun {d n z} hb => by
    rcases bnd_eval h hb with ⟨e,_⟩ | ⟨k,e⟩
    · cases e
    · exact ⟨k,by simpa using e⟩
  refine ⟨.slice (if u = l then ad else ad.map (·.add (l * zz))) (u - l) (u - l),?_,⟨_,u - l,u - l,rfl,?_,hz,by omega,?_⟩⟩
  · show (do pure (.value (← Instr.sliceAt T (a.eval x) ((some lo).map a.eval) ((some hi).map a.eval) ((some mx).map a.eval))) : Sem Next).run P w = _
    rw [hv]
    have := run_slice3 (P := P) (w := w) (ad := ad) (cap := cap) hT (ev hlo) (ev hhi) (ev hmx) h1 h2 hlc
    simp only [Option.map_some,Sem.run_bind,this]
    rfl
  · simp only [List.length_take,List.length_drop]; omega
  · rcases h2' with ⟨rfl,_⟩ | ⟨b,of0,vs,G,rfl,hl,hrs,hle,rfl⟩
    · exact .inl ⟨by omega,fun h => by cases h⟩
    · refine .inr ?_
      split
      · rename_i hcl
        have hul : u - l = 0 := by omega
        refine ⟨b,of0,[],no,rfl,fun i v hv => by simp at hv,?_,?_,rfl⟩
        · rw [hul]; simp [Reps]
        · rw [hul]; simp only [Nat.zero_mul,List.take_zero,List.length_nil]; rintro b' o' ⟨_,e1,e2⟩; omega
      · refine ⟨b,of0 + l * zz,(vs.drop (l * zz)).take ((u - l) * zz),no,by simp [addr_add],(hl.drop _).take _,(hrs.drop _).take _,?_,rfl⟩
        rintro b' o' ⟨rfl,e1,e2⟩
        simp only [List.length_take,List.length_drop] at e2
        exact hle _ _ ⟨rfl,by omega,by omega⟩
theorem a_slX {α : Type} {E : Enc α} {l : List α} {lo hi mx : Operand} {T zz : Nat} {c : C} {a b : Int} (hc : opd st x = .one c) (hs : shv st c = some (zz,rows E l)) (hlo : opd st lo = .one (int a)) (hhi : opd st hi = .one (int b)) (hmx : opd st mx = .one (int b)) (hT : sliceB P T zz = true) (h0 : 0 ≤ a) (h1 : a ≤ b) (h2 : b ≤ l.length) (hz : E.z = zz) :
    Acts P g ⟨dst,.slice T x (some lo) (some hi) (some mx),ty,pos,after,guard⟩ st (.one (.d (.sl false zz (rows E ((l.drop a.toNat).take (b.toNat - a.toNat)))))) [] [] := by
  subst hz
  exact a_slice_imm3 hc hs (bnd_i hlo h0) (bnd_i hhi (by omega)) (bnd_i hmx (by omega)) hT (by omega) (by rw [cnt_rows']; omega) (sl_mid E l _ _)
theorem a_fa_immT {T f off : Nat} (n : Nat) {row row' : List D} (hc : opd st x = .one (.d (.bx false row))) (hT : fieldB P T f off = true) (hr : (row.drop off).take n = row') : Acts P g ⟨dst,.fieldAddr T x f,ty,pos,after,guard⟩ st (.one (.d (.bx false row'))) [] [] := by
  subst hr
  refine acts_of fun a w S ρ F h => ?_
  have h1 := opd_one h hc
  simp only [RepS,RepC,Rep,Bool.false_eq_true,if_false] at h1 ⊢
  obtain ⟨b,of0,vs,G,he,hl,hrs,hle,rfl⟩ := h1
  refine ⟨.pointer (some ⟨b,of0 + off,none⟩),?_,⟨b,of0 + off,(vs.drop off).take n,no,rfl,(hl.drop off).take n,(hrs.drop off).take n,?_,rfl⟩⟩
  · show (do pure (.value (← Instr.fieldAt T (a.eval x) f)) : Sem Next).run P w = _
    rw [he]
    simp [run_fieldAt hT]
  · rintro b' o' ⟨rfl,h1,h2⟩
    simp only [List.length_take,List.length_drop] at h2
    exact hle _ _ ⟨rfl,by omega,by omega⟩
end
end Go.Proofs.YtnkeamihfiobdaaGreatDoor
end
section
set_option linter.unusedVariables false
set_option linter.unusedSimpArgs false
set_option maxRecDepth 100000
set_option maxHeartbeats 4000000
namespace Go.Proofs.YtnkeamihfiobdaaGreatDoor
open Go Foot
def jf (sep : Bs) : Nat → List Bs → Bs
  | _,[] => []
  | i,b :: r => (if i = 0 then [] else sep) ++ (b ++ jf sep (i + 1) r)
theorem jf_s (sep : Bs) : ∀ (l : List Bs) (i : Nat),jf sep (i + 1) l = Lib.joinTail sep l
  | [],i => by simp [jf,Lib.joinTail]
  | b :: r,i => by
    have := jf_s sep r (i + 1)
    simp only [Lib.joinTail,List.map_cons,List.flatten_cons,jf] at this ⊢
    rw [this,if_neg (by omega)]
    simp
theorem jf_0 (sep : Bs) (l : List Bs) : jf sep 0 l = joinT l sep := by
  unfold joinT
  cases l with
  | nil => rfl
  | cons b r => rw [Lib.join_cons,jf,jf_s]; simp
theorem jf_at {sep : Bs} {α : Type} {f : α → Bs} {l : List α} {i : Int} (h0 : 0 ≤ i) (h : i < l.length) (out : Bs) : out ++ jf sep i.toNat ((l.drop i.toNat).map f) = out ++ (if i = 0 then [] else sep) ++ f (l[i.toNat]'(by omega)) ++ jf sep (i + 1).toNat ((l.drop (i + 1).toNat).map f) := by
  rw [List.drop_eq_getElem_cons (show i.toNat < l.length by omega),show (i + 1).toNat = i.toNat + 1 by omega,List.map_cons,jf]
  by_cases hi : i = 0
  · rw [if_pos hi,if_pos (by omega)]; simp only [List.append_assoc,List.nil_append]
  · rw [if_neg hi,if_neg (by omega)]; simp only [List.append_assoc]
theorem jt_le {sep : Bs} {k : Nat} : ∀ {l : List Bs},(∀ b ∈ l,b.length ≤ k) → (Lib.joinTail sep l).length ≤ (k + sep.length) * l.length
  | [],_ => by simp [Lib.joinTail]
  | b :: r,h => by
    have h1 := jt_le (sep := sep) (k := k) (l := r) fun x hx => h x (by simp [hx])
    have h2 := h b (by simp)
    simp only [Lib.joinTail,List.map_cons,List.flatten_cons,List.length_append,List.length_cons] at h1 ⊢
    rw [Nat.mul_succ]
    omega
theorem joinT_le {sep : Bs} {k : Nat} {l : List Bs} (h : ∀ b ∈ l,b.length ≤ k) : (joinT l sep).length ≤ (k + sep.length) * l.length := by
  unfold joinT
  cases l with
  | nil => simp [Lib.join_nil]
  | cons b r =>
    rw [Lib.join_cons,List.length_append,List.length_cons,Nat.mul_succ]
    have h1 := jt_le (sep := sep) (k := k) (l := r) fun x hx => h x (by simp [hx])
    have h2 := h b (by simp)
    omega
def chs {α : Type} (n : Nat) (l : List α) : List (List α) := if h : l.length = 0 ∨ n = 0 then [] else l.take n :: chs n (l.drop n)
termination_by l.length
decreasing_by rw [List.length_drop]; omega
theorem chs_0 {α : Type} (n : Nat) {l : List α} (h : l.length = 0) : chs n l = [] := by rw [chs]; simp [h]
theorem chs_s {α : Type} {n : Nat} {l : List α} (hn : n ≠ 0) (h : l.length ≠ 0) : chs n l = l.take n :: chs n (l.drop n) := by rw [chs]; simp [h,hn]
@[irreducible] def chT (a : List Rule') : Bs := joinT (a.map rulT) [44]
theorem mac_chunk {sy : Nat} : ∀ (c rest : List Rule') (q j : Nat),0 < j → j + c.length ≤ sy → macF sy (q * sy + j) (c ++ rest) = Lib.joinTail [44] (c.map rulT) ++ macF sy (q * sy + j + c.length) rest
  | [],rest,q,j,h0,h => by simp [Lib.joinTail]
  | r :: c,rest,q,j,h0,h => by
    simp only [List.length_cons] at h
    have e : sepT sy ((q * sy + j : Nat) : Int) = [44] := by
      have h2 : (q * sy + j) % sy = j := by have := Nat.mul_add_mod sy q j; rw [Nat.mul_comm,this]; exact Nat.mod_eq_of_lt (by omega)
      unfold sepT
      have h3 : ((q * sy + j : Nat) : Int) ≠ 0 := by omega
      have h4 : ((q * sy + j : Nat) : Int) % (sy : Int) ≠ 0 := by rw [← Int.natCast_emod,h2]; omega
      rw [if_neg h3,if_neg h4]
    have := mac_chunk (sy := sy) c rest q (j + 1) (by omega) (by omega)
    rw [List.cons_append,macF,e,Nat.add_assoc (q * sy) j 1,this,List.length_cons,show q * sy + j + (c.length + 1) = q * sy + (j + 1) + c.length by omega]
    simp [Lib.joinTail]
theorem chs_mac {sy : Nat} (hs : sy ≠ 0) (n : Nat) : ∀ (l : List Rule') (q : Nat),l.length ≤ n → macF sy (q * sy) l = jf [59] q ((chs sy l).map chT) := by
  induction n with
  | zero =>
    intro l q h
    have : l = [] := List.eq_nil_of_length_eq_zero (by omega)
    subst this
    rw [chs_0 _ rfl]; rfl
  | succ n ih =>
    intro l q h
    cases l with
    | nil => rw [chs_0 _ rfl]; rfl
    | cons r rs =>
      obtain ⟨k,rfl⟩ : ∃ k,sy = k + 1 := ⟨sy - 1,by omega⟩
      rw [chs_s hs (by simp),List.take_succ_cons,List.drop_succ_cons,List.map_cons,jf,macF]
      have h1 := mac_chunk (sy := k + 1) (rs.take k) (rs.drop k) q 1 (by omega) (by rw [List.length_take]; omega)
      rw [List.take_append_drop] at h1
      rw [h1]
      have e1 : sepT ((k + 1 : Nat) : Int) ((q * (k + 1) : Nat) : Int) = if q = 0 then [] else [59] := by
        unfold sepT
        by_cases hq : q = 0
        · subst hq; simp
        · rw [if_neg hq,if_neg,if_pos]
          · rw [← Int.natCast_emod,Nat.mul_mod_left]; rfl
          · have : 0 < q * (k + 1) := Nat.mul_pos (by omega) (by omega)
            omega
      have e2 : chT (r :: rs.take k) = rulT r ++ Lib.joinTail [44] ((rs.take k).map rulT) := by
        unfold chT joinT
        rw [List.map_cons,Lib.join_cons]
      have e3 : macF ((k + 1 : Nat) : Int) (q * (k + 1) + 1 + (rs.take k).length) (rs.drop k) = jf [59] (q + 1) ((chs (k + 1) (rs.drop k)).map chT) := by
        by_cases hr : rs.length ≤ k
        · rw [List.drop_eq_nil_of_le hr,chs_0 _ rfl]; rfl
        · rw [show q * (k + 1) + 1 + (rs.take k).length = (q + 1) * (k + 1) by rw [List.length_take,Nat.min_eq_left (by omega),Nat.succ_mul]; omega]
          exact ih _ _ (by rw [List.length_drop]; simp only [List.length_cons] at h; omega)
      rw [e1,e2,e3]
      simp only [List.append_assoc]
theorem macT_eq {m : Mach} (h : 1 ≤ m.sy) : macT m = joinT ((chs m.sy.toNat m.ru).map chT) [59] := by
  have := chs_mac (sy := m.sy.toNat) (by omega) m.ru.length m.ru 0 (Nat.le_refl _)
  rw [jf_0,Nat.zero_mul,show ((m.sy.toNat : Nat) : Int) = m.sy by omega] at this
  unfold macT
  exact this
theorem chT_le {a : List Rule'} (h : ∀ r ∈ a,RuBd r) : ((chT a).length : Int) ≤ 44 * a.length := by
  unfold chT
  have := joinT_le (sep := [44]) (k := 43) (l := a.map rulT) fun b hb => by
    obtain ⟨r,hr,rfl⟩ := List.mem_map.1 hb
    have := rulT_le (h r hr)
    omega
  simp only [List.length_map,List.length_cons,List.length_nil] at this
  omega
end Go.Proofs.YtnkeamihfiobdaaGreatDoor
end
section
set_option linter.unusedVariables false
set_option linter.unusedSimpArgs false
set_option maxRecDepth 100000
set_option maxHeartbeats 4000000
namespace Go.Proofs.YtnkeamihfiobdaaGreatDoor
open Go Foot
theorem preB53 {p : Prop} (h : p := by first | with_reducible assumption | omega | (simp only [List.length_append,List.length_cons,List.length_nil,List.length_set,List.length_replicate,List.length_take,List.length_drop,List.length_tail,List.length_dropLast,List.length_reverse] at *; omega) | exact mem_len (by assumption) (by omega) | (with_reducible refine Int.le_trans (Int.ofNat_le.2 (trimR_len _)) ?_; simp only [List.length_cons,List.length_tail]; omega) | (exact (ruAt_ok (by assumption) (by assumption) (by assumption)).2.1) | (exact (ruAt_ok (by assumption) (by assumption) (by assumption)).2.1) | (have := vMach_bd (by assumption); omega) | (simp only [mC_ch,mC_tu]; omega) | (have := vTag_bd (by assumption); omega) | (have := (‹Gd _ _›).le; omega) | (exact tgHalts_no (by assumption)) | (exact tgHead (by assumption) (by assumption) (by assumption)) | (exact Int.le_trans (tgStep_gd (by assumption) (by assumption) (by assumption) (by assumption)).le (by decide)) | (exact vTag_r (by assumption)) | (with_reducible refine Int.le_trans (Int.ofNat_le.2 (pushL_len _ _)) ?_; simp only [List.length_dropLast]; omega) | exact (ask_ok (by assumption)).1 | exact (ask_ok (by assumption)).2.1 | exact (ask_ok (by assumption)).2.2.1 | exact (ask_ok (by assumption)).2.2.2 | trivial) : p := h
theorem chunk_ok (ru : List Rule') (n : Int) (h1 : 1 ≤ n) : Does Tryz.prog 141 [.one (shR ru),.one (int n)] [] (.one (.fn (.func 210) [.gv 0,.gv 1])) [.bx [shR ru],.bx [int n]] := by
  refine does_of (k := 0) Tryz.func141 rfl Tryz.ntmps141 rfl rfl fun w F0 S0 ρ0 => ?_
  dsimp only [argT,argH]
  repeat' first|(apply n3;exact a_new (gb := .bx _) rfl;exact rfl;refine dA ?_)|(apply p3;(first|exact pu1|exact puC);exact rfl)|refine cd ?_|((refine g_cond rfl (fun hc => ?_) (fun hc => ?_)) <;> (try simp only [dcB] at hc) <;> (try first|contradiction|(exfalso;omega)))|fail
  repeat refine cr ?_
  refine ends_id ?_
  refine endK [?_,?_] (h2 := ?_) (h3 := ?_) (nd := ?_)
  rotate_left 2
  all_goals (repeat' first|exact ce0|refine ce ?_|refine ce2 ?_ ?_|(refine Or.inr (bx_eq rfl rfl ?_);(try dsimp only [C.ren,C.ren.all]);(try exact rfl))|exact SVLe.refl|refine ceb ?_)
  all_goals first | exact (show nodupB _ = true from rfl) | exact Or.inr rfl | (rfl)
structure ChPre (x : List Bs) (a : List Rule') : Prop where
  xl : (x.length : Int) ≤ 6000
  al : (a.length : Int) ≤ 6000
  ab : ∀ r ∈ a,RuBd r
@[irreducible] def chX (n : Int) (ru : List Rule') : List Bs := (chs n.toNat ru).map chT
theorem chX_0 {n : Int} {ru : List Rule'} {i : Int} (h : ¬ i < ru.length) : chX n (ru.drop i.toNat) = [] := by
  unfold chX
  rw [chs_0 _ (by rw [List.length_drop]; omega)]; rfl
theorem chX_s {n i : Int} {ru : List Rule'} (h1 : 1 ≤ n) (h0 : 0 ≤ i) (h : i < ru.length) : chX n (ru.drop i.toNat) = chT ((ru.drop i.toNat).take n.toNat) :: chX n (ru.drop (i + n).toNat) := by
  unfold chX
  rw [chs_s (by omega) (by rw [List.length_drop]; omega),List.map_cons,List.drop_drop,show i.toNat + n.toNat = (i + n).toNat by omega]
theorem map_take_s {α β : Type} (f : α → β) {l : List α} {i : Int} (h0 : 0 ≤ i) (h : i < l.length) : (l.take i.toNat).map f ++ [f (l[i.toNat]'(by omega))] = (l.take (i + 1).toNat).map f := by
  rw [show (i + 1).toNat = i.toNat + 1 by omega,List.take_succ_eq_append_getElem (by omega),List.map_append]
  rfl
theorem chX_le {n : Int} (h1 : 1 ≤ n) : ∀ (k : Nat) (ru : List Rule'),ru.length ≤ k → (chX n ru).length ≤ ru.length
  | 0,ru,h => by
    unfold chX
    rw [chs_0 _ (by omega)]; simp
  | k + 1,ru,h => by
    by_cases h0 : ru.length = 0
    · unfold chX
      rw [chs_0 _ h0]; simp
    · have := chX_le h1 k (ru.drop n.toNat) (by rw [List.length_drop]; omega)
      unfold chX at this ⊢
      rw [chs_s (by omega) h0,List.map_cons,List.length_cons]
      rw [List.length_drop] at this
      omega
theorem ch_take {n i : Int} {ru : List Rule'} (h1 : 1 ≤ n) (h0 : 0 ≤ i) (h : i < ru.length) : ∃ z : Int,(if ((ru.drop i.toNat).length : Int) < n then ((ru.drop i.toNat).length : Int) else n) = z ∧ 0 ≤ z ∧ z ≤ n ∧ i + z ≤ ru.length ∧ (ru.drop i.toNat).take ((i + z).toNat - i.toNat) = (ru.drop i.toNat).take n.toNat := by
  have hl : (ru.drop i.toNat).length = ru.length - i.toNat := List.length_drop
  by_cases hn : ((ru.drop i.toNat).length : Int) < n
  · refine ⟨_,if_pos hn,by omega,by omega,by omega,?_⟩
    rw [List.take_of_length_le (by omega),List.take_of_length_le (by omega)]
  · refine ⟨_,if_neg hn,by omega,by omega,by omega,?_⟩
    congr 1; omega
theorem chunkIt_ok (ru : List Rule') (n : Int) (l : Nat) (R : List Bs → Option Code → Opq) (h1 : 1 ≤ n) (hn : n ≤ 1000) (hl : (ru.length : Int) ≤ 6000) (hR : ∀ r ∈ ru,RuBd r) (hY : ∀ x a,ChPre x a → DoesW (YC Tryz.prog l) [.one (shR a)] [.opq (R x none) []] (.one (boo true)) [.opq (R (x ++ [chT a]) none) []]) : Does Tryz.prog 210 [.one (.d (.fn (.yield l) [])),.one (.gv 1),.one (.gv 2)] [.opq (R [] none) [],.bx [shR ru],.bx [int n]] (.tup []) [.opq (R (chX n ru) none) [],.bx [shR ru],.bx [int n]] := by
  refine does_of (k := 3) Tryz.func210 rfl Tryz.ntmps210 rfl rfl fun w F0 S0 ρ0 => ?_
  dsimp only [argT,argH]
  repeat' first|(apply p3;(exact pu1);exact rfl)|refine cd ?_|fail
  refine g_loop_id ?_
  refine loopK [0,1,2] [0] (fun y : List Bs × Int => 0 ≤ y.2 ∧ (y.1.length : Int) ≤ y.2 ∧ (y.1.length : Int) ≤ 6000 ∧ y.1 ++ chX n (ru.drop y.2.toNat) = chX n ru) (fun y => [(4,.one (int y.2))]) (fun y => [(0,.opq (R y.1 none) [])]) (fun y => (ru.length - y.2).toNat) ([],(0 : Int)) [0,1,2] (hI := ?_) (hr := ?_)
  · exact ⟨by simp,by simp,by simp,by simp⟩
  · rintro ⟨x,i⟩ ⟨k1,k2,k3,k4⟩
    dsimp only [List.cons_append,List.nil_append] at *
    skip
    repeat' first|(apply p3;(first|exact pu1|exact puN|exact puC);exact rfl)|refine cdn ?_|refine g_reg (id := 1) ?_|(apply g_drN (id := 3) okM [[],[],[],[1,2],[1,2,3],[0,1,2,3,4],[0,1,2,3,4,5]] [([],[]),([],[]),([],[]),([],[]),([],[]),([],[]),([],[])] 0;(focus (refine dp 0 0 [14,15,16,17] [] puL ?_;refine dp 1 0 [13,15] [] puL ?_;refine dp 2 0 [13,14] [] pu1 ?_;refine dp 3 3 [13] [] (by exact a_slT rfl rfl rfl (fS rfl) (by omega) (by omega) (by exact rfl)) ?_;refine dp 4 7 [13] [] (by exact puN) ?_;refine dp 5 31 [] [] (a_min rfl rfl) ?_;refine dp 6 63 [] [] pu1 ?_;(refine d_nil ?_;refine dN ?_)));any_goals kernel_rfl)|((refine g_cond rfl (fun hc => ?_) (fun hc => ?_)) <;> (try simp only [dcB] at hc) <;> (try first|contradiction|(exfalso;omega)))|fail
    · obtain ⟨z,ez,z0,z1,z2,e⟩ := ch_take (n := n) h1 k1 hc
      have hp : ChPre x ((ru.drop i.toNat).take ((i + z).toNat - i.toNat)) := ⟨k3,by rw [List.length_take,List.length_drop]; omega,fun r hr => hR r (List.mem_of_mem_drop (List.mem_of_mem_take hr))⟩
      rw [ez]
      repeat' first|(apply p3;(first|exact pu1|exact a_add rfl rfl (by omega) (by omega)|exact a_slX rfl rfl rfl rfl rfl (fS rfl) (by omega) bnd bnd (by exact rfl));exact rfl)|refine cd ?_|(apply c4 0;exact callY (θ := [0]) (hD := (hY _ _ (by assumption)));exact rfl;exact rfl;exact rfl;refine dM ?_)|fail
      rw [e]
      refine q_again (x ++ [chT ((ru.drop i.toNat).take n.toNat)],i + n) [0,1,2] (by exact stk) ?_ ?_
      · dsimp only
        refine ⟨by omega,?_,?_,?_⟩
        · rw [List.length_append,List.length_cons,List.length_nil]; omega
        · rw [List.length_append,List.length_cons,List.length_nil]; omega
        · rw [← k4,chX_s h1 k1 hc]; simp
      · dsimp only; omega
    · have e : x = chX n ru := by rw [← k4,chX_0 hc,List.append_nil]
      rw [← e]
      repeat refine cr ?_
      refine ends_id ?_
      refine endK [] (h2 := ?_) (h3 := ?_) (nd := ?_)
      all_goals (repeat' first|exact ce0|refine ce ?_|refine ce2 ?_ ?_|(refine Or.inr (bx_eq rfl rfl ?_);(try dsimp only [C.ren,C.ren.all]);(try exact rfl))|exact SVLe.refl|refine ceb ?_)
      all_goals first | exact (show nodupB _ = true from rfl) | exact Or.inr rfl | (rfl)
theorem MachineText_ok (m : Mach) (hm : vMach m = true) : Does Tryz.prog 67 [.agg (maC m)] [] (.one (str (macT m))) [] := by
  have hb := vMach_bd hm
  have hR := vMach_rb hm
  have h3 : m.sy * m.st ≤ 6 * 1000 := Int.mul_le_mul (by omega) (by omega) (by omega) (by omega)
  have hl : (m.ru.length : Int) ≤ 6000 := by omega
  have hT := macT_eq (m := m) (by omega)
  have hX : (chs m.sy.toNat m.ru).map chT = chX m.sy m.ru := by unfold chX; rfl
  rw [hX] at hT
  have hj := macT_le hm
  have hx := chX_le (n := m.sy) (by omega) m.ru.length m.ru (Nat.le_refl _)
  rw [hT] at hj ⊢
  refine does_of (k := 0) Tryz.func67 rfl Tryz.ntmps67 rfl rfl fun w F0 S0 ρ0 => ?_
  dsimp only [argT,argH]
  repeat' first|(apply n3;(first|exact a_new (gb := .bx _) rfl|exact a_litE eS [] rfl rfl rfl rfl rfl rfl rfl rfl);exact rfl;refine dA ?_)|(apply p3;(exact pu1);exact rfl)|refine cd ?_|(apply w3;(exact a_st_bx rfl rfl rfl rfl (fN rfl rfl) (Nat.le_of_ble_eq_true rfl) rfl);exact rfl;refine dS ?_)|(apply c4 0;exact callK1 (θ := []) (hD := (ValidMachine_ok _ preB53));exact rfl;exact rfl;exact rfl;refine dM ?_)|(apply c4 2;exact callK0 (θ := []) (hD := (chunk_ok _ _ preB53));exact rfl;exact rfl;exact rfl;refine dM ?_)|((refine g_cond rfl (fun hc => ?_) (fun hc => ?_)) <;> (try simp only [dcB] at hc) <;> (try first|contradiction|(exfalso;omega)))|fail
  · rw [hm] at hc; cases hc
  refine g_conv (t_mvB (i := 1) (j := 2) (k := 0) rfl rfl rfl rfl rfl rfl) ?_
  try dsimp only [setRow,List.map_cons,List.map_nil,scC,List.set_cons_zero,List.set_cons_succ]
  refine rangeK [2,3,16] [2,5] (fun x : List Bs => [(5,.row 1 (rows eS x)),(2,.bx [.gv 5])]) [0,1,2,3,4,5] 5 5 [3,4] [] [] [] [] (fun a : List Rule' => [.one (shR a)]) (fun _ => []) (fun x a => (x ++ [chT a],none)) ChPre [] (n1 := 6) (hD := fun l R hY => chunkIt_ok m.ru m.sy l R (by omega) (by omega) hl hR hY) (hr := ?_) (hn := ?_) (hs := ?_)
  · rintro x a ⟨k0,k1,k2⟩ lp0 w0 F0 S0 ρ0 rc0
    dsimp only [parT,upOf,deadR,thN,List.map_cons,List.map_nil,SV.ren,List.cons_append,List.nil_append,GB.ren,C.ren,C.ren.all,Nat.reduceAdd] at *
    repeat' first|refine g_reg ?_|(apply p3;(exact a_pure (sv := .one _) rfl);exact rfl)|refine o_nil ?_|refine qAsg.go rfl ?_|fail
    dsimp only
    repeat' first|(apply n3;(exact a_litE eS [] rfl rfl rfl rfl rfl rfl rfl rfl);exact rfl;refine dA ?_)|(apply p3;(first|exact pu1|exact puN);exact rfl)|refine cd ?_|fail
    refine g_loop_id ?_
    refine loopK [2,3,5,19,20] [7] (fun y : Int × List Bs => 0 ≤ y.1 ∧ y.1 ≤ a.length ∧ y.2 = (a.take y.1.toNat).map rulT) (fun y => [(21,.one (int y.1))]) (fun y => [(7,.row 1 (rows eS y.2))]) (fun y => (a.length - y.1).toNat) ((0 : Int),[]) [0,1,2,3,4,5,6,7] (hI := ?_) (hr := ?_)
    · exact ⟨by simp,by simp,by simp⟩
    · rintro ⟨i,ts⟩ ⟨j0,j1,j2⟩
      dsimp only [List.cons_append,List.nil_append] at *
      skip
      have jl : (ts.length : Int) ≤ 6000 := by rw [j2,List.length_map,List.length_take]; omega
      repeat' first|(apply n3;exact a_new (gb := .bx _) rfl;exact rfl;refine dA ?_)|(apply p3;(first|exact pu1|exact puC|exact puI);exact rfl)|refine cdn ?_|refine g_reg (id := 8) ?_|refine g_reg (id := 9) ?_|(apply w3;(exact a_st_bx rfl rfl rfl rfl (fN rfl rfl) (Nat.le_of_ble_eq_true rfl) rfl);exact rfl;refine dS ?_)|((refine g_cond rfl (fun hc => ?_) (fun hc => ?_)) <;> (try simp only [dcB] at hc) <;> (try first|contradiction|(exfalso;omega)))|fail
      · obtain ⟨w1,w2,w3⟩ : RuBd (a[i.toNat]'(by omega)) := k2 _ (List.getElem_mem _)
        repeat' first|(apply n3;(exact a_litE eS [_] rfl rfl rfl rfl rfl rfl rfl rfl);exact rfl;refine dA ?_)|(apply p3;(first|exact pu1|exact a_add rfl rfl (by omega) (by omega));exact rfl)|refine cd ?_|(apply s3;exact a_appE (fP rfl) rfl rfl rfl rfl nowR (by (simp <;> omega)) (by decide) (by decide) (by exact rfl);exact rfl;exact rfl)|(apply c4 0;exact callK1 (θ := []) (hD := (ruleText_ok _ preB53 preB53));exact rfl;exact rfl;exact rfl;refine dM ?_)|fail
        refine q_again (i + 1,_) [0,1,2,3,4,5,6,10] (by exact stk) ?_ ?_
        · dsimp only
          exact ⟨by omega,by omega,by rw [j2,map_take_s rulT j0 hc]⟩
        · dsimp only; omega
      · have e : ts = a.map rulT := by rw [j2,List.take_of_length_le (by omega)]
        have e2 : joinT (a.map rulT) [44] = chT a := by unfold chT; rfl
        have e3 := chT_le k2
        rw [← e2,← e] at e3
        repeat' first|refine cd ?_|(apply g_drN (id := 12) okM [[],[],[1],[1,2],[0,1,2,3],[0,1,2,3,4]] [([],[]),([],[]),([],[]),([0],[]),([1],[5]),([],[2])] 2;(focus (refine dp 0 0 [32,33,34] [(true,0)] puL ?_;refine dp 1 0 [31] [] pu1 ?_;refine dp 2 1 [31] [] (callD1 (n := _) 0 (θ := []) (hD := (Join_ok _ _ preB53 preB53))) ?_;refine duE 3 3 [31] [] (atN 0 (fun _ => a_litE eS [_] rfl rfl rfl rfl rfl rfl rfl rfl)) (by exact rfl) (by exact rfl) ?_;refine duE 4 15 [] [] (atS 1 (fun _ hj => a_appE (fP rfl) rfl rfl rfl rfl nowR (by (simp <;> omega)) (by decide) hj (by exact rfl)) (by decide)) (by exact rfl) (by exact rfl) ?_;refine duE 5 31 [] [] (by exact a_st_bx rfl rfl rfl rfl (fN rfl rfl) (Nat.le_of_ble_eq_true rfl) rfl) (by exact rfl) (by exact rfl) ?_;(refine d_nil ?_;refine dN ?_)));any_goals kernel_rfl)|fail
        rw [e,e2]
        refine q_next (x ++ [chT a]) [0,1,2,3,4,9,6] (by exact stk) ?_
        rfl
  · rintro hj2
    dsimp only [upOf,deadR,calF,List.cons_append,List.nil_append,GB.ren,C.ren,C.ren.all,List.length_cons,List.length_nil,Nat.reduceAdd,Nat.reduceSub] at *
    skip
    repeat' first|(apply p3;(exact pu1);exact rfl)|refine cd ?_|(apply c4 0;exact callK1 (θ := []) (hD := (Join_ok _ _ preB53 preB53));exact rfl;exact rfl;exact rfl;refine dM ?_)|fail
    skip
    repeat refine cr ?_
    refine ends_id ?_
    refine endK [] (h2 := ?_) (h3 := ?_) (nd := ?_)
    all_goals (repeat' first|exact ce0|refine ce ?_|refine ce2 ?_ ?_|exact SVLe.refl|refine ceb ?_)
    all_goals first | exact (show nodupB _ = true from rfl) | exact Or.inr rfl | (rfl)
  · intro _ h; cases h
end Go.Proofs.YtnkeamihfiobdaaGreatDoor
end
section
set_option linter.unusedVariables false
set_option linter.unusedSimpArgs false
set_option maxRecDepth 100000
set_option maxHeartbeats 4000000
namespace Go.Proofs.YtnkeamihfiobdaaGreatDoor
open Go Foot
structure PrGd (p : Prf) : Prop where
  k : 1 ≤ p.k ∧ p.k ≤ 8
  nl : (p.nu.length : Int) ≤ 300
  wl : (p.wo.length : Int) ≤ 300
  nb : ∀ x ∈ p.nu,-1000000000000 ≤ x ∧ x ≤ 1000000000000
  wb : ∀ w ∈ p.wo,(w.length : Int) ≤ 400 ∧ ∀ x ∈ w,0 ≤ x ∧ x ≤ 9
theorem validP_gd {p : Prf} (h : validP p = true) : PrGd p := by
  unfold validP inAll at h
  simp only [Bool.and_eq_true,decide_eq_true_eq,List.all_eq_true] at h
  obtain ⟨⟨⟨h1,h2,h3⟩,h4⟩,h5⟩ := h
  refine ⟨h1,h2,h3,h4,fun w hw => ?_⟩
  have := h5 w hw
  unfold isWrd inAll at this
  simp only [Bool.and_eq_true,decide_eq_true_eq,List.all_eq_true] at this
  exact this
def nams : List Bs := [[],[104,97,108,116],[99,121,99,108,101],[115,104,105,102,116],[98,97,99,107,119,97,114,100],[115,101,103,109,101,110,116],[98,111,117,110,99,101,114],[97,117,116,111,109,97,116,111,110],[99,111,110,116,101,120,116,115]]
@[irreducible] def namT (k : Int) : Bs := nams.getD k.toNat []
theorem namT_le (k : Int) : ((namT k).length : Int) ≤ 10 := by
  unfold namT nams
  rcases k.toNat with _ | _ | _ | _ | _ | _ | _ | _ | _ | n <;> simp
@[irreducible] def numT (l : List Int) : Bs := if l = [] then [45] else joinT (l.map decT) [44]
@[irreducible] def worT (l : List (List Int)) : Bs := joinT (l.map wdT) [44]
@[irreducible] def proT (p : Prf) : Bs := namT p.k ++ [58] ++ numT p.nu ++ [58] ++ worT p.wo
theorem djT_le {l : List Int} (h : ∀ x ∈ l,-1000000000000 ≤ x ∧ x ≤ 1000000000000) : ((joinT (l.map decT) [44]).length : Int) ≤ 22 * l.length := by
  have := joinT_le (sep := [44]) (k := 21) (l := l.map decT) fun b hb => by
    obtain ⟨r,hr,rfl⟩ := List.mem_map.1 hb
    have h2 := h r hr
    have := dec_le (n := r) (by omega) (by omega)
    omega
  simp only [List.length_map,List.length_cons,List.length_nil] at this
  omega
theorem numT_le {l : List Int} (h : ∀ x ∈ l,-1000000000000 ≤ x ∧ x ≤ 1000000000000) : ((numT l).length : Int) ≤ 22 * l.length + 1 := by
  unfold numT
  split
  · simp only [List.length_cons,List.length_nil]; omega
  · have := djT_le h; omega
theorem worT_le {l : List (List Int)} (h : ∀ w ∈ l,(w.length : Int) ≤ 400) : ((worT l).length : Int) ≤ 402 * l.length := by
  unfold worT
  have := joinT_le (sep := [44]) (k := 401) (l := l.map wdT) fun b hb => by
    obtain ⟨r,hr,rfl⟩ := List.mem_map.1 hb
    have h2 := h r hr
    have := wdT_le r
    omega
  simp only [List.length_map,List.length_cons,List.length_nil] at this
  omega
theorem proT_le {p : Prf} (h : validP p = true) : ((proT p).length : Int) ≤ 128000 := by
  have g := validP_gd h
  have h1 := namT_le p.k
  have h2 := numT_le g.nb
  have h3 := worT_le fun w hw => (g.wb w hw).1
  have h4 := g.nl
  have h5 := g.wl
  unfold proT
  simp only [List.length_append,List.length_cons,List.length_nil]
  omega
theorem namT_at (k : Int) (h0 : 0 ≤ k) (h1 : k ≤ 8) (h : k.toNat < nams.length) : nams[k.toNat] = namT k := by
  unfold namT
  rw [List.getD_eq_getElem?_getD,List.getElem?_eq_getElem h]; rfl
def pnams : List Bs := nams.tail
theorem pnams_at (k : Int) (h0 : 1 ≤ k) (h1 : k ≤ 8) (h : (k - 1).toNat < pnams.length) : pnams[(k - 1).toNat] = namT k := by
  rw [← namT_at k (by omega) h1 (by simp [nams]; omega)]
  simp only [pnams,List.getElem_tail]
  congr 1; omega
theorem preB54 {p : Prop} (h : p := by first | with_reducible assumption | omega | (simp only [List.length_append,List.length_cons,List.length_nil,List.length_set,List.length_replicate,List.length_take,List.length_drop,List.length_tail,List.length_dropLast,List.length_reverse] at *; omega) | exact mem_len (by assumption) (by omega) | (with_reducible refine Int.le_trans (Int.ofNat_le.2 (trimR_len _)) ?_; simp only [List.length_cons,List.length_tail]; omega) | (exact (ruAt_ok (by assumption) (by assumption) (by assumption)).2.1) | (exact (ruAt_ok (by assumption) (by assumption) (by assumption)).2.1) | (have := vMach_bd (by assumption); omega) | (simp only [mC_ch,mC_tu]; omega) | (have := vTag_bd (by assumption); omega) | (have := (‹Gd _ _›).le; omega) | (exact tgHalts_no (by assumption)) | (exact tgHead (by assumption) (by assumption) (by assumption)) | (exact Int.le_trans (tgStep_gd (by assumption) (by assumption) (by assumption) (by assumption)).le (by decide)) | (exact vTag_r (by assumption)) | (with_reducible refine Int.le_trans (Int.ofNat_le.2 (pushL_len _ _)) ?_; simp only [List.length_dropLast]; omega) | exact (ask_ok (by assumption)).1 | exact (ask_ok (by assumption)).2.1 | exact (ask_ok (by assumption)).2.2.1 | exact (ask_ok (by assumption)).2.2.2 | trivial) : p := h
theorem l25Names_ok : Does Tryz.prog 284 [] [] (.one (.gv 0)) [.row 1 (rows eS nams)] := by
  refine does_of (k := 0) Tryz.func284 rfl Tryz.ntmps284 rfl rfl fun w F0 S0 ρ0 => ?_
  dsimp only [argT,argH]
  repeat' first|(apply n3;exact a_litE eS [_,_,_,_,_,_,_,_,_] rfl rfl rfl rfl rfl rfl rfl rfl;exact rfl;refine dA ?_)|(apply p3;exact pu1;exact rfl)|refine cd ?_|fail
  repeat refine cr ?_
  refine ends_id ?_
  refine endK [?_] (h2 := ?_) (h3 := ?_) (nd := ?_)
  rotate_left 1
  all_goals (repeat' first|exact ce0|refine ce ?_|refine ce2 ?_ ?_|(refine Or.inr (bx_eq rfl rfl ?_);(try dsimp only [C.ren,C.ren.all]);(try exact rfl))|exact SVLe.refl|refine ceb ?_)
  all_goals first | exact (show nodupB _ = true from rfl) | exact Or.inr rfl | (rfl)
theorem proofNames_ok : Does Tryz.prog 314 [] [] (.one (.gv 0)) [.row 1 (rows eS pnams)] := by
  refine does_of (k := 0) Tryz.func314 rfl Tryz.ntmps314 rfl rfl fun w F0 S0 ρ0 => ?_
  dsimp only [argT,argH]
  repeat' first|(apply n3;exact a_litE eS [_,_,_,_,_,_,_,_] rfl rfl rfl rfl rfl rfl rfl rfl;exact rfl;refine dA ?_)|(apply p3;exact pu1;exact rfl)|refine cd ?_|fail
  repeat refine cr ?_
  refine ends_id ?_
  refine endK [?_] (h2 := ?_) (h3 := ?_) (nd := ?_)
  rotate_left 1
  all_goals (repeat' first|exact ce0|refine ce ?_|refine ce2 ?_ ?_|(refine Or.inr (bx_eq rfl rfl ?_);(try dsimp only [C.ren,C.ren.all]);(try exact rfl))|exact SVLe.refl|refine ceb ?_)
  all_goals first | exact (show nodupB _ = true from rfl) | exact Or.inr rfl | (rfl)
theorem ProofName_ok (k : Int) (h0 : 1 ≤ k) (h1 : k ≤ 8) : Does Tryz.prog 308 [.one (int k)] [] (.one (str (namT k))) [] := by
  have hl : pnams.length = 8 := rfl
  have en := pnams_at k h0 h1 (by rw [hl]; omega)
  refine does_of (k := 0) Tryz.func308 rfl Tryz.ntmps308 rfl rfl fun w F0 S0 ρ0 => ?_
  dsimp only [argT,argH]
  repeat' first|(apply p3;(first|exact pu1|exact a_sub rfl rfl (by omega) (by omega)|exact a_ld_rowS rfl rfl rfl (fC rfl) bnd|exact puI);exact rfl)|refine cd ?_|(apply c4 0;exact callK1 (θ := []) (hD := (within_ok _ _ _));exact rfl;exact rfl;exact rfl;refine dM ?_)|(apply c4 1;exact callK1 (θ := []) (hD := proofNames_ok);exact rfl;exact rfl;exact rfl;refine dM ?_)|((refine g_cond rfl (fun hc => ?_) (fun hc => ?_)) <;> (try simp only [dcB] at hc) <;> (try first|contradiction|(exfalso;omega)))|fail
  simp only [Nat.mul_one]
  rw [en]
  repeat refine cr ?_
  refine ends_id ?_
  refine endK [] (h2 := ?_) (h3 := ?_) (nd := ?_)
  all_goals (repeat' first|exact ce0|refine ce ?_|refine ce2 ?_ ?_|exact SVLe.refl|refine ceb ?_)
  all_goals first | exact (show nodupB _ = true from rfl) | exact Or.inr rfl | (rfl)
theorem decimals_ok (l : List Int) (s : Bs) (hl : (l.length : Int) ≤ 1048576) (hb : ∀ x ∈ l,-1000000000000 ≤ x ∧ x ≤ 1000000000000) (hj : ((joinT (l.map decT) s).length : Int) ≤ 140737488355328) : Does Tryz.prog 306 [.one (shI l),.one (str s)] [] (.one (str (joinT (l.map decT) s))) [] := by
  have hg : ∀ (i : Nat) (h : i < l.length),-1000000000000 ≤ l[i] ∧ l[i] ≤ 1000000000000 := fun i h => hb _ (List.getElem_mem h)
  refine does_of (k := 0) Tryz.func306 rfl Tryz.ntmps306 rfl rfl fun w F0 S0 ρ0 => ?_
  dsimp only [argT,argH]
  repeat' first|(apply n3;(exact a_litE eS [] rfl rfl rfl rfl rfl rfl rfl rfl);exact rfl;refine dA ?_)|(apply p3;(first|exact pu1|exact puN);exact rfl)|refine cd ?_|fail
  refine g_loop_id ?_
  refine loopK [1,4,5,9,10] [0] (fun y : Int × List Bs => 0 ≤ y.1 ∧ y.1 ≤ l.length ∧ y.2 = (l.take y.1.toNat).map decT) (fun y => [(11,.one (int y.1))]) (fun y => [(0,.row 1 (rows eS y.2))]) (fun y => (l.length - y.1).toNat) ((0 : Int),[]) [0] (hI := ?_) (hr := ?_)
  · exact ⟨by simp,by simp,by simp⟩
  · rintro ⟨i,ts⟩ ⟨j0,j1,j2⟩
    dsimp only [List.cons_append,List.nil_append] at *
    skip
    have jl : (ts.length : Int) ≤ 1048576 := by rw [j2,List.length_map,List.length_take]; omega
    repeat' first|(apply p3;(first|exact pu1|exact puC|exact puI);exact rfl)|refine cdn ?_|refine g_reg (id := 3) ?_|refine g_reg (id := 4) ?_|((refine g_cond rfl (fun hc => ?_) (fun hc => ?_)) <;> (try simp only [dcB] at hc) <;> (try first|contradiction|(exfalso;omega)))|fail
    · have := hg i.toNat (by omega)
      repeat' first|(apply n3;(exact a_litE eS [_] rfl rfl rfl rfl rfl rfl rfl rfl);exact rfl;refine dA ?_)|(apply p3;(first|exact pu1|exact a_add rfl rfl (by omega) (by omega));exact rfl)|refine cd ?_|(apply s3;exact a_appE (fP rfl) rfl rfl rfl rfl nowR (by (simp <;> omega)) (by decide) (by decide) (by exact rfl);exact rfl;exact rfl)|(apply c4 0;exact callK1 (θ := []) (hD := (Decimal_ok _ preB54 preB54));exact rfl;exact rfl;exact rfl;refine dM ?_)|fail
      refine q_again (i + 1,_) [2] (by exact stk) ?_ ?_
      · dsimp only
        exact ⟨by omega,by omega,by rw [j2,map_take_s decT j0 hc]⟩
      · dsimp only; omega
    · have e : ts = l.map decT := by rw [j2,List.take_of_length_le (by omega)]
      rw [← e] at hj ⊢
      repeat' first|(apply p3;(exact pu1);exact rfl)|refine cd ?_|(apply c4 0;exact callK1 (θ := []) (hD := (Join_ok _ _ preB54 preB54));exact rfl;exact rfl;exact rfl;refine dM ?_)|fail
      repeat refine cr ?_
      refine ends_id ?_
      refine endK [] (h2 := ?_) (h3 := ?_) (nd := ?_)
      all_goals (repeat' first|exact ce0|refine ce ?_|refine ce2 ?_ ?_|exact SVLe.refl|refine ceb ?_)
      all_goals first | exact (show nodupB _ = true from rfl) | exact Or.inr rfl | (rfl)
theorem l01List_ok (l : List Int) (hl : (l.length : Int) ≤ 1048576) (hb : ∀ x ∈ l,-1000000000000 ≤ x ∧ x ≤ 1000000000000) : Does Tryz.prog 285 [.one (shI l)] [] (.one (str (numT l))) [] := by
  have hg : ∀ (i : Nat) (h : i < l.length),-1000000000000 ≤ l[i] ∧ l[i] ≤ 1000000000000 := fun i h => hb _ (List.getElem_mem h)
  by_cases h0 : (l.length : Int) = 0
  · have e : numT l = [45] := by unfold numT; rw [if_pos (List.eq_nil_of_length_eq_zero (by omega))]
    rw [e]
    refine does_of (k := 0) Tryz.func285 rfl Tryz.ntmps285 rfl rfl fun w F0 S0 ρ0 => ?_
    dsimp only [argT,argH]
    repeat' first|(apply p3;(first|exact pu1|exact puN|exact puC);exact rfl)|refine cd ?_|((refine g_cond rfl (fun hc => ?_) (fun hc => ?_)) <;> (try simp only [dcB] at hc) <;> (try first|contradiction|(exfalso;omega)))|fail
    repeat refine cr ?_
    refine ends_id ?_
    refine endK [] (h2 := ?_) (h3 := ?_) (nd := ?_)
    all_goals (repeat' first|exact ce0|refine ce ?_|refine ce2 ?_ ?_|exact SVLe.refl|refine ceb ?_)
    all_goals first | exact (show nodupB _ = true from rfl) | exact Or.inr rfl | (rfl)
  have e : numT l = joinT (l.map decT) [44] := by unfold numT; rw [if_neg (fun h => h0 (by rw [h]; rfl))]
  rw [e]
  refine does_of (k := 0) Tryz.func285 rfl Tryz.ntmps285 rfl rfl fun w F0 S0 ρ0 => ?_
  dsimp only [argT,argH]
  repeat' first|(apply p3;(first|exact pu1|exact puN|exact puC);exact rfl)|refine cd ?_|((refine g_cond rfl (fun hc => ?_) (fun hc => ?_)) <;> (try simp only [dcB] at hc) <;> (try first|contradiction|(exfalso;omega)))|fail
  refine g_loop_id ?_
  refine loopK [0,2] [] (fun y : Int × Bs => 0 ≤ y.1 ∧ y.1 ≤ l.length ∧ (y.2.length : Int) ≤ 22 * y.1 ∧ y.2 ++ jf [44] y.1.toNat ((l.drop y.1.toNat).map decT) = joinT (l.map decT) [44]) (fun y => [(4,.one (int y.1)),(3,.one (str y.2))]) (fun _ => []) (fun y => (l.length - y.1).toNat) ((0 : Int),[]) [] (hI := ?_) (hr := ?_)
  · exact ⟨by simp,by simp,by simp,by simp [jf_0]⟩
  · rintro ⟨i,out⟩ ⟨j0,j1,j2,j3⟩
    dsimp only [List.cons_append,List.nil_append] at *
    skip
    repeat' first|(apply p3;(first|exact pu1|exact puN|exact puC);exact rfl)|refine cdn ?_|refine g_reg (id := 5) ?_|refine g_reg (id := 10) ?_|((refine g_cond rfl (fun hc => ?_) (fun hc => ?_)) <;> (try simp only [dcB] at hc) <;> (try first|contradiction|(exfalso;omega)))|fail
    · have hh := hg i.toNat (by omega)
      have d1 := dec_le (n := l[i.toNat]'(by omega)) (by omega) (by omega)
      rw [jf_at j0 hc] at j3
      by_cases hi : i = 0
      · rw [if_pos hi,List.append_nil] at j3
        repeat' first|(apply p3;(first|exact pu1|exact puC|exact a_addS rfl rfl (by first|omega|(simp only [List.length_append,List.length_cons,List.length_nil];omega))|exact a_add rfl rfl (by omega) (by omega)|exact puI);exact rfl)|refine cd ?_|(apply c4 0;exact callK1 (θ := []) (hD := (l01Dec_ok _ preB54 preB54));exact rfl;exact rfl;exact rfl;refine dM ?_)|((refine g_cond rfl (fun hc => ?_) (fun hc => ?_)) <;> (try simp only [dcB] at hc) <;> (try first|contradiction|(exfalso;omega)))|fail
        refine q_again (i + 1,_) [] (by exact stk) ?_ ?_
        · dsimp only
          refine ⟨by omega,by omega,?_,j3⟩
          simp only [List.length_append]; omega
        · dsimp only; omega
      · rw [if_neg hi] at j3
        have e1 : ((out ++ [44]).length : Int) = out.length + 1 := by simp
        repeat' first|(apply p3;(first|exact pu1|exact puC|exact a_addS rfl rfl (by first|omega|(simp only [List.length_append,List.length_cons,List.length_nil];omega))|exact a_add rfl rfl (by omega) (by omega)|exact puI);exact rfl)|refine cd ?_|(apply c4 0;exact callK1 (θ := []) (hD := (l01Dec_ok _ preB54 preB54));exact rfl;exact rfl;exact rfl;refine dM ?_)|((refine g_cond rfl (fun hc => ?_) (fun hc => ?_)) <;> (try simp only [dcB] at hc) <;> (try first|contradiction|(exfalso;omega)))|fail
        refine q_again (i + 1,_) [] (by exact stk) ?_ ?_
        · dsimp only
          refine ⟨by omega,by omega,?_,j3⟩
          simp only [List.length_append,List.length_cons,List.length_nil]; omega
        · dsimp only; omega
    · have e : out = joinT (l.map decT) [44] := by rw [← j3,List.drop_eq_nil_of_le (by omega),List.map_nil,jf,List.append_nil]
      rw [← e]
      skip
      repeat refine cr ?_
      refine ends_id ?_
      refine endK [] (h2 := ?_) (h3 := ?_) (nd := ?_)
      all_goals (repeat' first|exact ce0|refine ce ?_|refine ce2 ?_ ?_|exact SVLe.refl|refine ceb ?_)
      all_goals first | exact (show nodupB _ = true from rfl) | exact Or.inr rfl | (rfl)
theorem l25Text_ok (p : Prf) (hp : validP p = true) : Does Tryz.prog 254 [.one (prB p)] [] (.one (str (proT p))) [] := by
  have g := validP_gd hp
  have h1 := g.k
  have h4 := g.nl
  have h5 := g.wl
  have hb := g.nb
  have d1 := namT_le p.k
  have d2 := numT_le g.nb
  have hl : nams.length = 9 := rfl
  have en := namT_at p.k (by omega) (by omega) (by rw [hl]; omega)
  have hn : ((nams[p.k.toNat * 1]'(by rw [hl]; omega)).length : Int) ≤ 10 := by simp only [Nat.mul_one]; rw [en]; exact d1
  have e1 : (((nams[p.k.toNat * 1]'(by rw [hl]; omega)) ++ [58]).length : Int) = (nams[p.k.toNat * 1]'(by rw [hl]; omega)).length + 1 := by simp
  have e2 : (((nams[p.k.toNat * 1]'(by rw [hl]; omega)) ++ [58] ++ numT p.nu).length : Int) = (nams[p.k.toNat * 1]'(by rw [hl]; omega)).length + 1 + (numT p.nu).length := by simp; omega
  refine does_of (k := 0) Tryz.func254 rfl Tryz.ntmps254 rfl rfl fun w F0 S0 ρ0 => ?_
  dsimp only [argT,argH]
  repeat' first|(apply p3;(exact pu1);exact rfl)|refine cd ?_|(apply g_drN (id := 1) okM [[],[],[1],[1,2],[1,2,3],[0,1,2,3,4],[0,1,2,3,4,5],[0,1,2,3,4,5,6],[],[8],[8,9],[8,9,10],[0,8,9,10,11],[0,1,2,3,4,5,6,7,8,9,10,11,12],[0,1,2,3,4,5,6,7,8,9,10,11,12,13],[0,1,2,3,4,5,6,7,8,9,10,11,12,13,14]] [([0],[]),([],[]),([],[]),([],[]),([],[]),([],[]),([],[]),([],[]),([],[]),([],[]),([],[]),([],[]),([],[]),([],[]),([],[]),([],[])] 1;(focus (refine duN 0 0 [6,7,8,9,13,14,15,16] [] (callD1 (n := _) 0 (θ := []) (hD := l25Names_ok)) (by exact rfl) (by exact rfl) ?_;refine dp 1 0 [5,13,14,15,16,17] [(true,0)] pu1 ?_;refine dp 2 1 [5,13,14,15,16,17] [(true,0)] (a_pure (sv := .one _) rfl) ?_;refine dp 3 3 [5,13,14,15,16,17] [(true,0)] (a_pure (sv := .one _) rfl) ?_;refine dp 4 7 [5,13,14,15,16,17] [(true,0)] puL ?_;refine dp 5 31 [13,14,15,16,17] [] puI ?_;refine dp 6 63 [13,14,15,16,17] [] (by exact a_ld_rowS rfl rfl rfl (fC rfl) bnd) ?_;refine dp 7 127 [13,14,15,16,17] [] (a_addS rfl rfl (by (simp only [List.length_append,List.length_cons,List.length_nil];omega))) ?_;refine dp 8 0 [5,6,7,8,9,10,11,12] [(true,0)] pu1 ?_;refine dp 9 1 [5,6,7,8,9,10,11,12] [(true,0)] (a_pure (sv := .one _) rfl) ?_;refine dp 10 3 [5,6,7,8,9,10,11,12] [(true,0)] (a_pure (sv := .one _) rfl) ?_;refine dp 11 7 [5,6,7,8,9,10,11,12] [(true,0)] puL ?_;refine dp 12 2063 [6,7,8,9,10,11,12] [] (callD1 (n := _) 1 (θ := []) (hD := (l01List_ok _ preB54 preB54))) ?_;refine dp 13 8191 [] [] (a_addS rfl rfl (by omega)) ?_;refine dp 14 16383 [] [] (a_addS rfl rfl (by (simp only [List.length_append,List.length_cons,List.length_nil];omega))) ?_;refine dp 15 32767 [] [] pu1 ?_;(refine d_nil ?_;refine dN ?_)));any_goals kernel_rfl)|fail
  simp only [Nat.mul_one]
  rw [en]
  clear e1 e2 hn
  have e3 : ((namT p.k ++ [58] ++ numT p.nu ++ [58]).length : Int) = (namT p.k).length + 1 + (numT p.nu).length + 1 := by simp; omega
  have eP : namT p.k ++ [58] ++ numT p.nu ++ [58] ++ joinT (p.wo.map wdT) [44] = proT p := by unfold proT worT; rfl
  generalize namT p.k ++ [58] ++ numT p.nu ++ [58] = hd at *
  refine g_loop_id ?_
  refine loopK [0,2] [] (fun y : Int × Bs => 0 ≤ y.1 ∧ y.1 ≤ p.wo.length ∧ (y.2.length : Int) ≤ 8000 + 402 * y.1 ∧ y.2 ++ jf [44] y.1.toNat ((p.wo.drop y.1.toNat).map wdT) = proT p) (fun y => [(4,.one (int y.1)),(3,.one (str y.2))]) (fun _ => []) (fun y => (p.wo.length - y.1).toNat) ((0 : Int),hd) [0] (hI := ?_) (hr := ?_)
  · exact ⟨by simp,by simp,by dsimp only; omega,by dsimp only; rw [← eP,← jf_0]; rfl⟩
  · rintro ⟨i,out⟩ ⟨j0,j1,j2,j3⟩
    dsimp only [List.cons_append,List.nil_append] at *
    skip
    repeat' first|(apply p3;(first|exact pu1|exact puN|exact puC);exact rfl)|refine cdn ?_|refine g_reg (id := 3) ?_|refine g_reg (id := 8) ?_|((refine g_cond rfl (fun hc => ?_) (fun hc => ?_)) <;> (try simp only [dcB] at hc) <;> (try first|contradiction|(exfalso;omega)))|fail
    · obtain ⟨w1,w2⟩ := g.wb (p.wo[i.toNat]'(by omega)) (List.getElem_mem _)
      have w3 := wdT_le (p.wo[i.toNat]'(by omega))
      rw [jf_at j0 hc] at j3
      by_cases hi : i = 0
      · rw [if_pos hi,List.append_nil] at j3
        repeat' first|(apply p3;(first|exact pu1|exact puC|exact a_addS rfl rfl (by first|omega|(simp only [List.length_append,List.length_cons,List.length_nil];omega))|exact a_add rfl rfl (by omega) (by omega)|exact puI);exact rfl)|refine cd ?_|(apply c4 0;exact callK1 (θ := []) (hD := (l03Text_ok _ preB54 preB54));exact rfl;exact rfl;exact rfl;refine dM ?_)|((refine g_cond rfl (fun hc => ?_) (fun hc => ?_)) <;> (try simp only [dcB] at hc) <;> (try first|contradiction|(exfalso;omega)))|fail
        refine q_again (i + 1,_) [0] (by exact stk) ?_ ?_
        · dsimp only
          refine ⟨by omega,by omega,?_,j3⟩
          simp only [List.length_append]; omega
        · dsimp only; omega
      · rw [if_neg hi] at j3
        have e1 : ((out ++ [44]).length : Int) = out.length + 1 := by simp
        repeat' first|(apply p3;(first|exact pu1|exact puC|exact a_addS rfl rfl (by first|omega|(simp only [List.length_append,List.length_cons,List.length_nil];omega))|exact a_add rfl rfl (by omega) (by omega)|exact puI);exact rfl)|refine cd ?_|(apply c4 0;exact callK1 (θ := []) (hD := (l03Text_ok _ preB54 preB54));exact rfl;exact rfl;exact rfl;refine dM ?_)|((refine g_cond rfl (fun hc => ?_) (fun hc => ?_)) <;> (try simp only [dcB] at hc) <;> (try first|contradiction|(exfalso;omega)))|fail
        refine q_again (i + 1,_) [0] (by exact stk) ?_ ?_
        · dsimp only
          refine ⟨by omega,by omega,?_,j3⟩
          simp only [List.length_append,List.length_cons,List.length_nil]; omega
        · dsimp only; omega
    · have e : out = proT p := by rw [← j3,List.drop_eq_nil_of_le (by omega),List.map_nil,jf,List.append_nil]
      rw [← e]
      skip
      repeat refine cr ?_
      refine ends_id ?_
      refine endK [] (h2 := ?_) (h3 := ?_) (nd := ?_)
      all_goals (repeat' first|exact ce0|refine ce ?_|refine ce2 ?_ ?_|exact SVLe.refl|refine ceb ?_)
      all_goals first | exact (show nodupB _ = true from rfl) | exact Or.inr rfl | (rfl)
theorem ProofText_ok (p : Prf) (hp : validP p = true) : Does Tryz.prog 288 [.agg (prC p)] [] (.one (str (proT p))) [] := by
  have g := validP_gd hp
  have h1 := g.k
  have h4 := g.nl
  have h5 := g.wl
  have hb := g.nb
  have d1 := namT_le p.k
  have d2 := djT_le g.nb
  have d3 := worT_le fun u hu => (g.wb u hu).1
  have h6 : ∀ x ∈ p.wo,(x.length : Int) ≤ 16777216 := fun x hx => by have := (g.wb x hx).1; omega
  have d4 := numT_le g.nb
  have e1 : ((namT p.k ++ [58]).length : Int) = (namT p.k).length + 1 := by simp
  have e2 : ((namT p.k ++ [58] ++ numT p.nu).length : Int) = (namT p.k).length + 1 + (numT p.nu).length := by simp; omega
  have e3 : ((namT p.k ++ [58] ++ numT p.nu ++ [58]).length : Int) = (namT p.k).length + 1 + (numT p.nu).length + 1 := by simp; omega
  have eP : namT p.k ++ [58] ++ numT p.nu ++ [58] ++ joinT (p.wo.map wdT) [44] = proT p := by unfold proT worT; rfl
  have eW : worT p.wo = joinT (p.wo.map wdT) [44] := by unfold worT; rfl
  rw [eW] at d3
  refine does_of (k := 0) Tryz.func288 rfl Tryz.ntmps288 rfl rfl fun w F0 S0 ρ0 => ?_
  dsimp only [argT,argH]
  repeat' first|(apply n3;(first|exact a_new (gb := .bx _) rfl|exact a_litE eS [] rfl rfl rfl rfl rfl rfl rfl rfl);exact rfl;refine dA ?_)|(apply p3;(first|exact pu1|exact puN|exact puC);exact rfl)|refine cd ?_|(apply c4 0;exact callK1 (θ := []) (hD := (ValidProof_ok _ preB54 preB54 preB54));exact rfl;exact rfl;exact rfl;refine dM ?_)|(refine g_cond (c := .tmp 9) rfl (fun hc => ?_) (fun hc => ?_) <;> (try simp only [dcB] at hc) <;> (try (first|contradiction|(exfalso;omega))))|fail
  · rw [hp] at hc; cases hc
  refine cutK [1,2,4] [] (fun y : Bs => y = numT p.nu) (fun y => [(3,.one (str y))]) (fun _ => []) (hc := ?_) (hk := ?_)
  · repeat' first|(apply p3;(exact pu1);exact rfl)|refine cd ?_|(apply c4 0;exact callK1 (θ := []) (hD := (decimals_ok _ _ preB54 preB54 preB54));exact rfl;exact rfl;exact rfl;refine dM ?_)|((refine g_cond rfl (fun hc => ?_) (fun hc => ?_)) <;> (try simp only [dcB] at hc) <;> (try first|contradiction|(exfalso;omega)))|fail
    · refine q_here (joinT (p.nu.map decT) [44]) [0,1] (by exact stk) ?_
      unfold numT; rw [if_neg (fun h => by rw [h] at hc; simp at hc)]
    · refine q_here [45] [0,1] (by exact stk) ?_
      unfold numT; rw [if_pos (List.eq_nil_of_length_eq_zero (by omega))]
  rintro _ rfl
  dsimp only [List.cons_append,List.nil_append] at *
  skip
  repeat' first|(apply p3;(first|exact pu1|exact puN);exact rfl)|refine cd ?_|fail
  refine g_loop_id ?_
  refine loopK [1,2,3,4,19,20] [1] (fun y : Int × List Bs => 0 ≤ y.1 ∧ y.1 ≤ p.wo.length ∧ y.2 = (p.wo.take y.1.toNat).map wdT) (fun y => [(21,.one (int y.1))]) (fun y => [(1,.row 1 (rows eS y.2))]) (fun y => (p.wo.length - y.1).toNat) ((0 : Int),[]) [0,1] (hI := ?_) (hr := ?_)
  · exact ⟨by simp,by simp,by simp⟩
  · rintro ⟨i,ts⟩ ⟨j0,j1,j2⟩
    dsimp only [List.cons_append,List.nil_append] at *
    skip
    have jl : (ts.length : Int) ≤ 1048576 := by rw [j2,List.length_map,List.length_take]; omega
    repeat' first|(apply p3;(first|exact pu1|exact puC|exact puI);exact rfl)|refine cdn ?_|refine g_reg (id := 7) ?_|refine g_reg (id := 8) ?_|((refine g_cond rfl (fun hc => ?_) (fun hc => ?_)) <;> (try simp only [dcB] at hc) <;> (try first|contradiction|(exfalso;omega)))|fail
    · obtain ⟨w1,w2⟩ := g.wb (p.wo[i.toNat]'(by omega)) (List.getElem_mem _)
      repeat' first|(apply n3;(exact a_litE eS [_] rfl rfl rfl rfl rfl rfl rfl rfl);exact rfl;refine dA ?_)|(apply p3;(first|exact pu1|exact a_add rfl rfl (by omega) (by omega));exact rfl)|refine cd ?_|(apply s3;exact a_appE (fP rfl) rfl rfl rfl rfl nowR (by (simp <;> omega)) (by decide) (by decide) (by exact rfl);exact rfl;exact rfl)|(apply c4 0;exact callK1 (θ := []) (hD := (wordText_ok _ preB54 preB54));exact rfl;exact rfl;exact rfl;refine dM ?_)|fail
      refine q_again (i + 1,_) [0,3] (by exact stk) ?_ ?_
      · dsimp only
        exact ⟨by omega,by omega,by rw [j2,map_take_s wdT j0 hc]⟩
      · dsimp only; omega
    · have e : ts = p.wo.map wdT := by rw [j2,List.take_of_length_le (by omega)]
      rw [← e] at d3 eP
      rw [← eP]
      repeat' first|(apply p3;(first|exact pu1|exact a_addS rfl rfl (by first|omega|(simp only [List.length_append,List.length_cons,List.length_nil];omega)));exact rfl)|refine cd ?_|(apply c4 0;exact callK1 (θ := []) (hD := (ProofName_ok _ preB54 preB54));exact rfl;exact rfl;exact rfl;refine dM ?_)|(apply c4 0;exact callK1 (θ := []) (hD := (Join_ok _ _ preB54 preB54));exact rfl;exact rfl;exact rfl;refine dM ?_)|fail
      repeat refine cr ?_
      refine ends_id ?_
      refine endK [] (h2 := ?_) (h3 := ?_) (nd := ?_)
      all_goals (repeat' first|exact ce0|refine ce ?_|refine ce2 ?_ ?_|exact SVLe.refl|refine ceb ?_)
      all_goals first | exact (show nodupB _ = true from rfl) | exact Or.inr rfl | (rfl)
end Go.Proofs.YtnkeamihfiobdaaGreatDoor
end
section
set_option linter.unusedVariables false
set_option linter.unusedSimpArgs false
set_option maxRecDepth 100000
set_option maxHeartbeats 4000000
namespace Go.Proofs.YtnkeamihfiobdaaGreatDoor
open Go Foot
structure Verd where
  m : Mach
  p : Prf
abbrev eV : Enc Verd := ⟨6,fun v => [.sc (.int .i64 v.m.sy),.sc (.int .i64 v.m.st),.sl false 3 (rows eR v.m.ru),.sc (.int .i64 v.p.k),.sl false 1 (rows eI v.p.nu),.sl false 1 (rows eW v.p.wo)],fun _ => rfl,by decide⟩
abbrev shV (l : List Verd) : C := .d (.sl false 6 (rows eV l))
abbrev veC (v : Verd) : List C := [int v.m.sy,int v.m.st,shR v.m.ru,int v.p.k,shI v.p.nu,shW v.p.wo]
abbrev veB (v : Verd) : C := .d (.bx false [.sc (.int .i64 v.m.sy),.sc (.int .i64 v.m.st),.sl false 3 (rows eR v.m.ru),.sc (.int .i64 v.p.k),.sl false 1 (rows eI v.p.nu),.sl false 1 (rows eW v.p.wo)])
@[irreducible] def isZ (p : Prf) : Bool := decide (p.k = 0 ∧ (p.nu.length : Int) = 0 ∧ (p.wo.length : Int) = 0)
theorem preB55 {p : Prop} (h : p := by first | with_reducible assumption | omega | (simp only [List.length_append,List.length_cons,List.length_nil,List.length_set,List.length_replicate,List.length_take,List.length_drop,List.length_tail,List.length_dropLast,List.length_reverse] at *; omega) | exact mem_len (by assumption) (by omega) | (with_reducible refine Int.le_trans (Int.ofNat_le.2 (trimR_len _)) ?_; simp only [List.length_cons,List.length_tail]; omega) | (exact (ruAt_ok (by assumption) (by assumption) (by assumption)).2.1) | (exact (ruAt_ok (by assumption) (by assumption) (by assumption)).2.1) | (have := vMach_bd (by assumption); omega) | (simp only [mC_ch,mC_tu]; omega) | (have := vTag_bd (by assumption); omega) | (have := (‹Gd _ _›).le; omega) | (exact tgHalts_no (by assumption)) | (exact tgHead (by assumption) (by assumption) (by assumption)) | (exact Int.le_trans (tgStep_gd (by assumption) (by assumption) (by assumption) (by assumption)).le (by decide)) | (exact vTag_r (by assumption)) | (with_reducible refine Int.le_trans (Int.ofNat_le.2 (pushL_len _ _)) ?_; simp only [List.length_dropLast]; omega) | exact (ask_ok (by assumption)).1 | exact (ask_ok (by assumption)).2.1 | exact (ask_ok (by assumption)).2.2.1 | exact (ask_ok (by assumption)).2.2.2 | trivial) : p := h
theorem isZero_ok (p : Prf) : Does Tryz.prog 69 [.agg (prC p)] [] (.one (boo (isZ p))) [] := by
  refine does_of (k := 0) Tryz.func69 rfl Tryz.ntmps69 rfl rfl fun w F0 S0 ρ0 => ?_
  dsimp only [argT,argH]
  repeat' first|(apply n3;exact a_new (gb := .bx _) rfl;exact rfl;refine dA ?_)|(apply p3;(first|exact pu1|exact puC);exact rfl)|refine cd ?_|refine o_no rfl rfl rfl rfl ?_|(apply py3;exact rfl;exact rfl;(first|exact pu1|exact puC|exact puN);exact rfl;exact rfl)|((refine o_gs rfl rfl (fun hc => ?_) (fun hc => ?_)) <;> (try simp only [dcB] at hc) <;> (try first|contradiction|(exfalso;omega)))|fail
  all_goals
    repeat refine cr ?_
    refine ends_id ?_
    refine endK [] (h2 := ?_) (h3 := ?_) (nd := ?_)
    all_goals (repeat' first|exact ce0|refine ce ?_|refine ce2 ?_ ?_|exact SVLe.refl|refine ceb ?_)
    all_goals first | exact (show nodupB _ = true from rfl) | exact Or.inr rfl | ((unfold isZ; first | (simp [*]; done) | (rw [decide_eq_false] <;> first | rfl | omega | (simp; done)) | (rw [decide_eq_true] <;> first | rfl | omega | (simp [*]; done)) | (simp_all; done) | (simp_all; omega)))
theorem l31None_ok (p : Prf) : Does Tryz.prog 133 [.one (prB p)] [] (.one (boo (isZ p))) [] := by
  refine does_of (k := 0) Tryz.func133 rfl Tryz.ntmps133 rfl rfl fun w F0 S0 ρ0 => ?_
  dsimp only [argT,argH]
  repeat' first|(apply p3;(first|exact pu1|exact puC);exact rfl)|refine cd ?_|refine o_no rfl rfl rfl rfl ?_|(apply py3;exact rfl;exact rfl;(first|exact pu1|exact puC|exact puN);exact rfl;exact rfl)|((refine o_gs rfl rfl (fun hc => ?_) (fun hc => ?_)) <;> (try simp only [dcB] at hc) <;> (try first|contradiction|(exfalso;omega)))|fail
  all_goals
    repeat refine cr ?_
    refine ends_id ?_
    refine endK [] (h2 := ?_) (h3 := ?_) (nd := ?_)
    all_goals (repeat' first|exact ce0|refine ce ?_|refine ce2 ?_ ?_|exact SVLe.refl|refine ceb ?_)
    all_goals first | exact (show nodupB _ = true from rfl) | exact Or.inr rfl | ((unfold isZ; first | (simp [*]; done) | (rw [decide_eq_false] <;> first | rfl | omega | (simp; done)) | (rw [decide_eq_true] <;> first | rfl | omega | (simp [*]; done)) | (simp_all; done) | (simp_all; omega)))
theorem check_ok (c : Int) (s : Bs) (hs : (s.length : Int) ≤ 1048576) (h0 : 0 ≤ c) (h1 : c < 65536) : Does Tryz.prog 337 [.one (int c),.one (str s)] [] (.one (int (crC s c))) [] := by
  refine does_of (k := 0) Tryz.func337 rfl Tryz.ntmps337 rfl rfl fun w F0 S0 ρ0 => ?_
  dsimp only [argT,argH]
  repeat' first|(apply p3;exact pu1;exact rfl)|refine cd ?_|(apply c4 0;exact callK1 (θ := []) (hD := (Crc16_ok _ _ preB55 preB55 preB55));exact rfl;exact rfl;exact rfl;refine dM ?_)|fail
  repeat refine cr ?_
  refine ends_id ?_
  refine endK [] (h2 := ?_) (h3 := ?_) (nd := ?_)
  all_goals (repeat' first|exact ce0|refine ce ?_|refine ce2 ?_ ?_|exact SVLe.refl|refine ceb ?_)
  all_goals first | exact (show nodupB _ = true from rfl) | exact Or.inr rfl | (rfl)
@[irreducible] def prfT (p : Prf) : Bs := if isZ p = true then [111,112,101,110] else proT p
structure OkP (p : Prf) : Prop where
  h : isZ p = true ∨ validP p = true
@[irreducible] def linH (v : Verd) : Bs := macT v.m ++ [32] ++ prfT v.p
@[irreducible] def linT (v : Verd) : Bs := linH v ++ [32] ++ decT (crC (linH v) 65535) ++ [10]
theorem prfT_le {p : Prf} (h : OkP p) : ((prfT p).length : Int) ≤ 128000 := by
  unfold prfT
  split
  · simp
  · rename_i hz
    rcases h.h with e | e
    · exact absurd e hz
    · exact proT_le e
theorem linH_le {v : Verd} (hm : vMach v.m = true) (hp : OkP v.p) : ((linH v).length : Int) ≤ 513000 := by
  have h1 := macT_le hm
  have h2 := prfT_le hp
  unfold linH
  simp only [List.length_append,List.length_cons,List.length_nil]
  omega
theorem crc_bd (s : Bs) : 0 ≤ crC s 65535 ∧ crC s 65535 < 65536 := crC_bd s ⟨by decide,by decide⟩
theorem linT_le {v : Verd} (hm : vMach v.m = true) (hp : OkP v.p) : ((linT v).length : Int) ≤ 520000 := by
  have h1 := linH_le hm hp
  have h2 := crc_bd (linH v)
  have h3 := dec_le (n := crC (linH v) 65535) (by omega) (by omega)
  unfold linT
  simp only [List.length_append,List.length_cons,List.length_nil]
  omega
theorem linT_ne (v : Verd) : linT v ≠ [] := by unfold linT; simp
theorem lineOfVerdict_ok (v : Verd) (hm : vMach v.m = true) (hp : OkP v.p) : Does Tryz.prog 258 [.agg (veC v),.one (.ifc 289 false [int 65535])] [] (.one (str (linT v))) [] := by
  have h1 := macT_le hm
  have h2 := prfT_le hp
  have h3 := linH_le hm hp
  have h4 := crc_bd (linH v)
  have h5 := dec_le (n := crC (linH v) 65535) (by omega) (by omega)
  have e1 : ((macT v.m ++ [32]).length : Int) = (macT v.m).length + 1 := by simp
  have e2 : macT v.m ++ [32] ++ prfT v.p = linH v := by unfold linH; rfl
  have e3 : ((linH v ++ [32]).length : Int) = (linH v).length + 1 := by simp
  have e4 : ((linH v ++ [32] ++ decT (crC (linH v) 65535)).length : Int) = (linH v).length + 1 + (decT (crC (linH v) 65535)).length := by simp; omega
  have e5 : linH v ++ [32] ++ decT (crC (linH v) 65535) ++ [10] = linT v := by unfold linT; rfl
  by_cases hz : isZ v.p = true
  · have e : prfT v.p = [111,112,101,110] := by unfold prfT; rw [if_pos hz]
    rw [e] at e2 h2
    have hz2 : ¬ isZ v.p = false := by simp [hz]
    refine does_of (k := 0) Tryz.func258 rfl Tryz.ntmps258 rfl rfl fun w F0 S0 ρ0 => ?_
    dsimp only [argT,argH]
    repeat' first|(apply n3;exact a_new (gb := .bx _) rfl;exact rfl;refine dA ?_)|(apply p3;(first|exact pu1|exact a_addS rfl rfl (by first|omega|(simp only [List.length_append,List.length_cons,List.length_nil];omega)));exact rfl)|refine cdn ?_|refine g_reg (id := 0) ?_|refine g_reg (id := 1) ?_|refine g_reg (id := 2) ?_|refine g_reg (id := 4) ?_|(apply c4 0;exact callK1 (θ := []) (hD := (isZero_ok _));exact rfl;exact rfl;exact rfl;refine dM ?_)|(apply c4 0;exact callK1 (θ := []) (hD := (MachineText_ok _ preB55));exact rfl;exact rfl;exact rfl;refine dM ?_)|((refine g_cond rfl (fun hc => ?_) (fun hc => ?_)) <;> (try simp only [dcB] at hc) <;> (try first|contradiction|(exfalso;omega)))|fail
    rw [e2]
    repeat' first|(apply p3;(first|exact pu1|exact a_addS rfl rfl (by first|omega|(simp only [List.length_append,List.length_cons,List.length_nil];omega)));exact rfl)|refine cd ?_|(apply c4 0;exact callM (θ := []) (hD := (check_ok _ _ preB55 preB55 preB55));exact rfl;exact rfl;exact rfl;refine dM ?_)|(apply c4 0;exact callK1 (θ := []) (hD := (Decimal_ok _ preB55 preB55));exact rfl;exact rfl;exact rfl;refine dM ?_)|fail
    rw [e5]
    repeat refine cr ?_
    refine ends_id ?_
    refine endK [] (h2 := ?_) (h3 := ?_) (nd := ?_)
    all_goals (repeat' first|exact ce0|refine ce ?_|refine ce2 ?_ ?_|exact SVLe.refl|refine ceb ?_)
    all_goals first | exact (show nodupB _ = true from rfl) | exact Or.inr rfl | (rfl)
  · have e : prfT v.p = proT v.p := by unfold prfT; rw [if_neg hz]
    have hv : validP v.p = true := by rcases hp.h with h | h; exact absurd h hz; exact h
    rw [e] at e2 h2
    refine does_of (k := 0) Tryz.func258 rfl Tryz.ntmps258 rfl rfl fun w F0 S0 ρ0 => ?_
    dsimp only [argT,argH]
    repeat' first|(apply n3;exact a_new (gb := .bx _) rfl;exact rfl;refine dA ?_)|(apply p3;(first|exact pu1|exact a_addS rfl rfl (by first|omega|(simp only [List.length_append,List.length_cons,List.length_nil];omega)));exact rfl)|refine cdn ?_|refine g_reg (id := 0) ?_|refine g_reg (id := 1) ?_|refine g_reg (id := 2) ?_|refine g_reg (id := 3) ?_|refine g_reg (id := 4) ?_|(apply c4 0;exact callK1 (θ := []) (hD := (isZero_ok _));exact rfl;exact rfl;exact rfl;refine dM ?_)|(apply c4 0;exact callK1 (θ := []) (hD := (ProofText_ok _ preB55));exact rfl;exact rfl;exact rfl;refine dM ?_)|(apply c4 0;exact callK1 (θ := []) (hD := (MachineText_ok _ preB55));exact rfl;exact rfl;exact rfl;refine dM ?_)|((refine g_cond rfl (fun hc => ?_) (fun hc => ?_)) <;> (try simp only [dcB] at hc) <;> (try first|contradiction|(exfalso;omega)))|fail
    rw [e2]
    repeat' first|(apply p3;(first|exact pu1|exact a_addS rfl rfl (by first|omega|(simp only [List.length_append,List.length_cons,List.length_nil];omega)));exact rfl)|refine cd ?_|(apply c4 0;exact callM (θ := []) (hD := (check_ok _ _ preB55 preB55 preB55));exact rfl;exact rfl;exact rfl;refine dM ?_)|(apply c4 0;exact callK1 (θ := []) (hD := (Decimal_ok _ preB55 preB55));exact rfl;exact rfl;exact rfl;refine dM ?_)|fail
    rw [e5]
    repeat refine cr ?_
    refine ends_id ?_
    refine endK [] (h2 := ?_) (h3 := ?_) (nd := ?_)
    all_goals (repeat' first|exact ce0|refine ce ?_|refine ce2 ?_ ?_|exact SVLe.refl|refine ceb ?_)
    all_goals first | exact (show nodupB _ = true from rfl) | exact Or.inr rfl | (rfl)
theorem l31Line_ok (v : Verd) (hm : vMach v.m = true) (hp : OkP v.p) : Does Tryz.prog 200 [.one (veB v)] [] (.one (str (linT v))) [] := by
  have h1 := macT_le hm
  have h2 := prfT_le hp
  have h3 := linH_le hm hp
  have h4 := crc_bd (linH v)
  have h5 := dec_le (n := crC (linH v) 65535) (by omega) (by omega)
  have e1 : ((macT v.m ++ [32]).length : Int) = (macT v.m).length + 1 := by simp
  have e2 : macT v.m ++ [32] ++ prfT v.p = linH v := by unfold linH; rfl
  have e3 : ((linH v ++ [32]).length : Int) = (linH v).length + 1 := by simp
  have e4 : ((linH v ++ [32] ++ decT (crC (linH v) 65535)).length : Int) = (linH v).length + 1 + (decT (crC (linH v) 65535)).length := by simp; omega
  have e5 : linH v ++ [32] ++ decT (crC (linH v) 65535) ++ [10] = linT v := by unfold linT; rfl
  by_cases hz : isZ v.p = true
  · have e : prfT v.p = [111,112,101,110] := by unfold prfT; rw [if_pos hz]
    rw [e] at e2 h2
    have hz2 : ¬ isZ v.p = false := by simp [hz]
    refine does_of (k := 0) Tryz.func200 rfl Tryz.ntmps200 rfl rfl fun w F0 S0 ρ0 => ?_
    dsimp only [argT,argH]
    repeat' first|(apply p3;(first|exact a_fa_immT 3 (T := 109) (f := 1) (off := 3) rfl (by kernel_rfl) rfl|exact a_fa_immT 3 (T := 109) (f := 0) (off := 0) rfl (by kernel_rfl) rfl|exact pu1|exact a_addS rfl rfl (by first|omega|(simp only [List.length_append,List.length_cons,List.length_nil];omega)));exact rfl)|refine cdn ?_|refine g_reg (id := 0) ?_|refine g_reg (id := 1) ?_|refine g_reg (id := 2) ?_|refine g_reg (id := 4) ?_|(apply c4 0;exact callK1 (θ := []) (hD := (l31None_ok _));exact rfl;exact rfl;exact rfl;refine dM ?_)|(apply c4 0;exact callK1 (θ := []) (hD := (l05Text_ok _ preB55));exact rfl;exact rfl;exact rfl;refine dM ?_)|((refine g_cond rfl (fun hc => ?_) (fun hc => ?_)) <;> (try simp only [dcB] at hc) <;> (try first|contradiction|(exfalso;omega)))|fail
    rw [e2]
    repeat' first|(apply p3;(first|exact pu1|exact a_addS rfl rfl (by first|omega|(simp only [List.length_append,List.length_cons,List.length_nil];omega)));exact rfl)|refine cd ?_|(apply c4 0;exact callK1 (θ := []) (hD := (l01Crc_ok _ _ preB55 preB55 preB55));exact rfl;exact rfl;exact rfl;refine dM ?_)|(apply c4 0;exact callK1 (θ := []) (hD := (l01Dec_ok _ preB55 preB55));exact rfl;exact rfl;exact rfl;refine dM ?_)|fail
    rw [e5]
    repeat refine cr ?_
    refine ends_id ?_
    refine endK [] (h2 := ?_) (h3 := ?_) (nd := ?_)
    all_goals (repeat' first|exact ce0|refine ce ?_|refine ce2 ?_ ?_|exact SVLe.refl|refine ceb ?_)
    all_goals first | exact (show nodupB _ = true from rfl) | exact Or.inr rfl | (rfl)
  · have e : prfT v.p = proT v.p := by unfold prfT; rw [if_neg hz]
    have hv : validP v.p = true := by rcases hp.h with h | h; exact absurd h hz; exact h
    rw [e] at e2 h2
    refine does_of (k := 0) Tryz.func200 rfl Tryz.ntmps200 rfl rfl fun w F0 S0 ρ0 => ?_
    dsimp only [argT,argH]
    repeat' first|(apply p3;(first|exact a_fa_immT 3 (T := 109) (f := 1) (off := 3) rfl (by kernel_rfl) rfl|exact a_fa_immT 3 (T := 109) (f := 0) (off := 0) rfl (by kernel_rfl) rfl|exact pu1|exact a_addS rfl rfl (by first|omega|(simp only [List.length_append,List.length_cons,List.length_nil];omega)));exact rfl)|refine cdn ?_|refine g_reg (id := 0) ?_|refine g_reg (id := 1) ?_|refine g_reg (id := 2) ?_|refine g_reg (id := 3) ?_|refine g_reg (id := 4) ?_|(apply c4 0;exact callK1 (θ := []) (hD := (l31None_ok _));exact rfl;exact rfl;exact rfl;refine dM ?_)|(apply c4 0;exact callK1 (θ := []) (hD := (l25Text_ok _ preB55));exact rfl;exact rfl;exact rfl;refine dM ?_)|(apply c4 0;exact callK1 (θ := []) (hD := (l05Text_ok _ preB55));exact rfl;exact rfl;exact rfl;refine dM ?_)|((refine g_cond rfl (fun hc => ?_) (fun hc => ?_)) <;> (try simp only [dcB] at hc) <;> (try first|contradiction|(exfalso;omega)))|fail
    rw [e2]
    repeat' first|(apply p3;(first|exact pu1|exact a_addS rfl rfl (by first|omega|(simp only [List.length_append,List.length_cons,List.length_nil];omega)));exact rfl)|refine cd ?_|(apply c4 0;exact callK1 (θ := []) (hD := (l01Crc_ok _ _ preB55 preB55 preB55));exact rfl;exact rfl;exact rfl;refine dM ?_)|(apply c4 0;exact callK1 (θ := []) (hD := (l01Dec_ok _ preB55 preB55));exact rfl;exact rfl;exact rfl;refine dM ?_)|fail
    rw [e5]
    repeat refine cr ?_
    refine ends_id ?_
    refine endK [] (h2 := ?_) (h3 := ?_) (nd := ?_)
    all_goals (repeat' first|exact ce0|refine ce ?_|refine ce2 ?_ ?_|exact SVLe.refl|refine ceb ?_)
    all_goals first | exact (show nodupB _ = true from rfl) | exact Or.inr rfl | (rfl)
@[irreducible] def okV (v : Verd) : Bool := vMach v.m && (isZ v.p || validP v.p) && decide (((linT v).length : Int) ≤ 6000)
structure VeGd (v : Verd) : Prop where
  a : (v.m.ru.length : Int) ≤ 16777216
  b : (v.p.nu.length : Int) ≤ 16777216
  c : (v.p.wo.length : Int) ≤ 16777216
  d : ∀ x ∈ v.p.wo,(x.length : Int) ≤ 16777216
@[irreducible] def verT (v : Verd) : Bs := if okV v = true then linT v else []
theorem okV_1 {v : Verd} (hm : vMach v.m = true) (hp : OkP v.p) : okV v = decide (((linT v).length : Int) ≤ 6000) := by
  unfold okV
  rw [hm]
  rcases hp.h with h | h <;> simp [h]
theorem VerdictText_ok (v : Verd) (g : VeGd v) : Does Tryz.prog 209 [.agg (veC v)] [] (.one (str (verT v))) [] := by
  obtain ⟨g1,g2,g3,g4⟩ := g
  by_cases hm : vMach v.m = true
  · have hm2 : ¬ vMach v.m = false := by simp [hm]
    by_cases hz : isZ v.p = true
    · have hz2 : ¬ isZ v.p = false := by simp [hz]
      have hp : OkP v.p := ⟨.inl hz⟩
      have h3 := linT_le hm hp
      have h2 := okV_1 hm hp
      by_cases hl : ((linT v).length : Int) ≤ 6000
      · have e : verT v = linT v := by unfold verT; rw [if_pos (by rw [h2]; simp [hl])]
        rw [e]
        refine does_of (k := 0) Tryz.func209 rfl Tryz.ntmps209 rfl rfl fun w F0 S0 ρ0 => ?_
        dsimp only [argT,argH]
        repeat' first|(apply n3;exact a_new (gb := .bx _) rfl;exact rfl;refine dA ?_)|(apply p3;(first|exact pu1|exact a_lenT rfl (fT rfl)|exact puC);exact rfl)|refine cd ?_|(apply c4 0;exact callK1 (θ := []) (hD := (ValidMachine_ok _ preB55));exact rfl;exact rfl;exact rfl;refine dM ?_)|(apply c4 0;exact callK1 (θ := []) (hD := (lineOfVerdict_ok _ preB55 preB55));exact rfl;exact rfl;exact rfl;refine dM ?_)|refine o_no rfl rfl rfl rfl ?_|(apply py3;exact rfl;exact rfl;(exact pu1);exact rfl;exact rfl)|(apply cy4 0;exact rfl;exact rfl;exact callK1 (θ := []) (hD := (isZero_ok _));exact rfl;exact rfl;exact rfl;exact rfl;refine dM ?_)|((first|refine o_gs rfl rfl (fun hc => ?_) (fun hc => ?_)|refine g_cond rfl (fun hc => ?_) (fun hc => ?_)) <;> (try simp only [dcB] at hc) <;> (try first|contradiction|(exfalso;omega)))|fail
        repeat refine cr ?_
        refine ends_id ?_
        refine endK [] (h2 := ?_) (h3 := ?_) (nd := ?_)
        all_goals (repeat' first|exact ce0|refine ce ?_|refine ce2 ?_ ?_|exact SVLe.refl|refine ceb ?_)
        all_goals first | exact (show nodupB _ = true from rfl) | exact Or.inr rfl | (rfl)
      · have e : verT v = [] := by unfold verT; rw [if_neg (by rw [h2]; simp [hl])]
        rw [e]
        refine does_of (k := 0) Tryz.func209 rfl Tryz.ntmps209 rfl rfl fun w F0 S0 ρ0 => ?_
        dsimp only [argT,argH]
        repeat' first|(apply n3;exact a_new (gb := .bx _) rfl;exact rfl;refine dA ?_)|(apply p3;(first|exact pu1|exact a_lenT rfl (fT rfl)|exact puC);exact rfl)|refine cd ?_|(apply c4 0;exact callK1 (θ := []) (hD := (ValidMachine_ok _ preB55));exact rfl;exact rfl;exact rfl;refine dM ?_)|(apply c4 0;exact callK1 (θ := []) (hD := (lineOfVerdict_ok _ preB55 preB55));exact rfl;exact rfl;exact rfl;refine dM ?_)|refine o_no rfl rfl rfl rfl ?_|(apply py3;exact rfl;exact rfl;(exact pu1);exact rfl;exact rfl)|(apply cy4 0;exact rfl;exact rfl;exact callK1 (θ := []) (hD := (isZero_ok _));exact rfl;exact rfl;exact rfl;exact rfl;refine dM ?_)|((first|refine o_gs rfl rfl (fun hc => ?_) (fun hc => ?_)|refine g_cond rfl (fun hc => ?_) (fun hc => ?_)) <;> (try simp only [dcB] at hc) <;> (try first|contradiction|(exfalso;omega)))|fail
        repeat refine cr ?_
        refine ends_id ?_
        refine endK [] (h2 := ?_) (h3 := ?_) (nd := ?_)
        all_goals (repeat' first|exact ce0|refine ce ?_|refine ce2 ?_ ?_|exact SVLe.refl|refine ceb ?_)
        all_goals first | exact (show nodupB _ = true from rfl) | exact Or.inr rfl | (rfl)
    · by_cases hv : validP v.p = true
      · have hv2 : ¬ validP v.p = false := by simp [hv]
        have hp : OkP v.p := ⟨.inr hv⟩
        have h3 := linT_le hm hp
        have h2 := okV_1 hm hp
        by_cases hl : ((linT v).length : Int) ≤ 6000
        · have e : verT v = linT v := by unfold verT; rw [if_pos (by rw [h2]; simp [hl])]
          rw [e]
          refine does_of (k := 0) Tryz.func209 rfl Tryz.ntmps209 rfl rfl fun w F0 S0 ρ0 => ?_
          dsimp only [argT,argH]
          repeat' first|(apply n3;exact a_new (gb := .bx _) rfl;exact rfl;refine dA ?_)|(apply p3;(first|exact pu1|exact a_lenT rfl (fT rfl)|exact puC);exact rfl)|refine cd ?_|(apply c4 0;exact callK1 (θ := []) (hD := (ValidMachine_ok _ preB55));exact rfl;exact rfl;exact rfl;refine dM ?_)|(apply c4 0;exact callK1 (θ := []) (hD := (lineOfVerdict_ok _ preB55 preB55));exact rfl;exact rfl;exact rfl;refine dM ?_)|(apply py3;exact rfl;exact rfl;(exact pu1);exact rfl;exact rfl)|(apply cy4 0;exact rfl;exact rfl;exact callK1 (θ := []) (hD := (isZero_ok _));exact rfl;exact rfl;exact rfl;exact rfl;refine dM ?_)|(apply cy4 0;exact rfl;exact rfl;exact callK1 (θ := []) (hD := (ValidProof_ok _ preB55 preB55 preB55));exact rfl;exact rfl;exact rfl;exact rfl;refine dM ?_)|((first|refine o_gs rfl rfl (fun hc => ?_) (fun hc => ?_)|refine g_cond rfl (fun hc => ?_) (fun hc => ?_)) <;> (try simp only [dcB] at hc) <;> (try first|contradiction|(exfalso;omega)))|fail
          repeat refine cr ?_
          refine ends_id ?_
          refine endK [] (h2 := ?_) (h3 := ?_) (nd := ?_)
          all_goals (repeat' first|exact ce0|refine ce ?_|refine ce2 ?_ ?_|exact SVLe.refl|refine ceb ?_)
          all_goals first | exact (show nodupB _ = true from rfl) | exact Or.inr rfl | (rfl)
        · have e : verT v = [] := by unfold verT; rw [if_neg (by rw [h2]; simp [hl])]
          rw [e]
          refine does_of (k := 0) Tryz.func209 rfl Tryz.ntmps209 rfl rfl fun w F0 S0 ρ0 => ?_
          dsimp only [argT,argH]
          repeat' first|(apply n3;exact a_new (gb := .bx _) rfl;exact rfl;refine dA ?_)|(apply p3;(first|exact pu1|exact a_lenT rfl (fT rfl)|exact puC);exact rfl)|refine cd ?_|(apply c4 0;exact callK1 (θ := []) (hD := (ValidMachine_ok _ preB55));exact rfl;exact rfl;exact rfl;refine dM ?_)|(apply c4 0;exact callK1 (θ := []) (hD := (lineOfVerdict_ok _ preB55 preB55));exact rfl;exact rfl;exact rfl;refine dM ?_)|(apply py3;exact rfl;exact rfl;(exact pu1);exact rfl;exact rfl)|(apply cy4 0;exact rfl;exact rfl;exact callK1 (θ := []) (hD := (isZero_ok _));exact rfl;exact rfl;exact rfl;exact rfl;refine dM ?_)|(apply cy4 0;exact rfl;exact rfl;exact callK1 (θ := []) (hD := (ValidProof_ok _ preB55 preB55 preB55));exact rfl;exact rfl;exact rfl;exact rfl;refine dM ?_)|((first|refine o_gs rfl rfl (fun hc => ?_) (fun hc => ?_)|refine g_cond rfl (fun hc => ?_) (fun hc => ?_)) <;> (try simp only [dcB] at hc) <;> (try first|contradiction|(exfalso;omega)))|fail
          repeat refine cr ?_
          refine ends_id ?_
          refine endK [] (h2 := ?_) (h3 := ?_) (nd := ?_)
          all_goals (repeat' first|exact ce0|refine ce ?_|refine ce2 ?_ ?_|exact SVLe.refl|refine ceb ?_)
          all_goals first | exact (show nodupB _ = true from rfl) | exact Or.inr rfl | (rfl)
      · have h2 : okV v = false := by unfold okV; simp [hz,hv]
        have e : verT v = [] := by unfold verT; rw [if_neg (by rw [h2]; simp)]
        rw [e]
        refine does_of (k := 0) Tryz.func209 rfl Tryz.ntmps209 rfl rfl fun w F0 S0 ρ0 => ?_
        dsimp only [argT,argH]
        repeat' first|(apply n3;exact a_new (gb := .bx _) rfl;exact rfl;refine dA ?_)|(apply p3;(exact pu1);exact rfl)|refine cd ?_|(apply c4 0;exact callK1 (θ := []) (hD := (ValidMachine_ok _ preB55));exact rfl;exact rfl;exact rfl;refine dM ?_)|(apply py3;exact rfl;exact rfl;(exact pu1);exact rfl;exact rfl)|(apply cy4 0;exact rfl;exact rfl;exact callK1 (θ := []) (hD := (isZero_ok _));exact rfl;exact rfl;exact rfl;exact rfl;refine dM ?_)|(apply cy4 0;exact rfl;exact rfl;exact callK1 (θ := []) (hD := (ValidProof_ok _ preB55 preB55 preB55));exact rfl;exact rfl;exact rfl;exact rfl;refine dM ?_)|((first|refine o_gs rfl rfl (fun hc => ?_) (fun hc => ?_)|refine g_cond rfl (fun hc => ?_) (fun hc => ?_)) <;> (try simp only [dcB] at hc) <;> (try first|contradiction|(exfalso;omega)))|fail
        repeat refine cr ?_
        refine ends_id ?_
        refine endK [] (h2 := ?_) (h3 := ?_) (nd := ?_)
        all_goals (repeat' first|exact ce0|refine ce ?_|refine ce2 ?_ ?_|exact SVLe.refl|refine ceb ?_)
        all_goals first | exact (show nodupB _ = true from rfl) | exact Or.inr rfl | (rfl)
  · have h2 : okV v = false := by unfold okV; simp [hm]
    have e : verT v = [] := by unfold verT; rw [if_neg (by rw [h2]; simp)]
    rw [e]
    refine does_of (k := 0) Tryz.func209 rfl Tryz.ntmps209 rfl rfl fun w F0 S0 ρ0 => ?_
    dsimp only [argT,argH]
    repeat' first|(apply n3;exact a_new (gb := .bx _) rfl;exact rfl;refine dA ?_)|(apply p3;(exact pu1);exact rfl)|refine cd ?_|(apply c4 0;exact callK1 (θ := []) (hD := (ValidMachine_ok _ preB55));exact rfl;exact rfl;exact rfl;refine dM ?_)|refine o_no rfl rfl rfl rfl ?_|((refine o_gs rfl rfl (fun hc => ?_) (fun hc => ?_)) <;> (try simp only [dcB] at hc) <;> (try first|contradiction|(exfalso;omega)))|fail
    repeat refine cr ?_
    refine ends_id ?_
    refine endK [] (h2 := ?_) (h3 := ?_) (nd := ?_)
    all_goals (repeat' first|exact ce0|refine ce ?_|refine ce2 ?_ ?_|exact SVLe.refl|refine ceb ?_)
    all_goals first | exact (show nodupB _ = true from rfl) | exact Or.inr rfl | (rfl)
theorem l31Is_ok (v : Verd) (g : VeGd v) : Does Tryz.prog 131 [.one (veB v)] [] (.one (boo (okV v))) [] := by
  obtain ⟨g1,g2,g3,g4⟩ := g
  by_cases hm : vMach v.m = true
  · have hm2 : ¬ vMach v.m = false := by simp [hm]
    by_cases hz : isZ v.p = true
    · have hz2 : ¬ isZ v.p = false := by simp [hz]
      have hp : OkP v.p := ⟨.inl hz⟩
      have h3 := linT_le hm hp
      have h2 := okV_1 hm hp
      by_cases hl : ((linT v).length : Int) ≤ 6000
      · have e : okV v = true := by rw [h2]; simp [hl]
        rw [e]
        refine does_of (k := 0) Tryz.func131 rfl Tryz.ntmps131 rfl rfl fun w F0 S0 ρ0 => ?_
        dsimp only [argT,argH]
        repeat' first|(apply p3;(first|exact a_fa_immT 3 (T := 109) (f := 0) (off := 0) rfl (by kernel_rfl) rfl|exact pu1);exact rfl)|refine cd ?_|(apply c4 0;exact callK1 (θ := []) (hD := (l05Is_ok _ preB55));exact rfl;exact rfl;exact rfl;refine dM ?_)|refine o_no rfl rfl rfl rfl ?_|(apply py3;exact rfl;exact rfl;(first|exact a_fa_immT 3 (T := 109) (f := 1) (off := 3) rfl (by kernel_rfl) rfl|exact pu1|exact a_lenT rfl (fT rfl)|exact puC);exact rfl;exact rfl)|(apply cy4 0;exact rfl;exact rfl;exact callK1 (θ := []) (hD := (l31None_ok _));exact rfl;exact rfl;exact rfl;exact rfl;refine dM ?_)|(apply cy4 0;exact rfl;exact rfl;exact callK1 (θ := []) (hD := (l31Line_ok _ preB55 preB55));exact rfl;exact rfl;exact rfl;exact rfl;refine dM ?_)|((refine o_gs rfl rfl (fun hc => ?_) (fun hc => ?_)) <;> (try simp only [dcB] at hc) <;> (try first|contradiction|(exfalso;omega)))|fail
        repeat refine cr ?_
        refine ends_id ?_
        refine endK [] (h2 := ?_) (h3 := ?_) (nd := ?_)
        all_goals (repeat' first|exact ce0|refine ce ?_|refine ce2 ?_ ?_|exact SVLe.refl|refine ceb ?_)
        all_goals first | exact (show nodupB _ = true from rfl) | exact Or.inr rfl | ((first | rfl | simp_all))
      · have e : okV v = false := by rw [h2]; simp [hl]
        rw [e]
        refine does_of (k := 0) Tryz.func131 rfl Tryz.ntmps131 rfl rfl fun w F0 S0 ρ0 => ?_
        dsimp only [argT,argH]
        repeat' first|(apply p3;(first|exact a_fa_immT 3 (T := 109) (f := 0) (off := 0) rfl (by kernel_rfl) rfl|exact pu1);exact rfl)|refine cd ?_|(apply c4 0;exact callK1 (θ := []) (hD := (l05Is_ok _ preB55));exact rfl;exact rfl;exact rfl;refine dM ?_)|refine o_no rfl rfl rfl rfl ?_|(apply py3;exact rfl;exact rfl;(first|exact a_fa_immT 3 (T := 109) (f := 1) (off := 3) rfl (by kernel_rfl) rfl|exact pu1|exact a_lenT rfl (fT rfl)|exact puC);exact rfl;exact rfl)|(apply cy4 0;exact rfl;exact rfl;exact callK1 (θ := []) (hD := (l31None_ok _));exact rfl;exact rfl;exact rfl;exact rfl;refine dM ?_)|(apply cy4 0;exact rfl;exact rfl;exact callK1 (θ := []) (hD := (l31Line_ok _ preB55 preB55));exact rfl;exact rfl;exact rfl;exact rfl;refine dM ?_)|((refine o_gs rfl rfl (fun hc => ?_) (fun hc => ?_)) <;> (try simp only [dcB] at hc) <;> (try first|contradiction|(exfalso;omega)))|fail
        repeat refine cr ?_
        refine ends_id ?_
        refine endK [] (h2 := ?_) (h3 := ?_) (nd := ?_)
        all_goals (repeat' first|exact ce0|refine ce ?_|refine ce2 ?_ ?_|exact SVLe.refl|refine ceb ?_)
        all_goals first | exact (show nodupB _ = true from rfl) | exact Or.inr rfl | ((first | rfl | simp_all))
    · by_cases hv : validP v.p = true
      · have hv2 : ¬ validP v.p = false := by simp [hv]
        have hp : OkP v.p := ⟨.inr hv⟩
        have h3 := linT_le hm hp
        have h2 := okV_1 hm hp
        by_cases hl : ((linT v).length : Int) ≤ 6000
        · have e : okV v = true := by rw [h2]; simp [hl]
          rw [e]
          refine does_of (k := 0) Tryz.func131 rfl Tryz.ntmps131 rfl rfl fun w F0 S0 ρ0 => ?_
          dsimp only [argT,argH]
          repeat' first|(apply p3;(first|exact a_fa_immT 3 (T := 109) (f := 0) (off := 0) rfl (by kernel_rfl) rfl|exact pu1);exact rfl)|refine cd ?_|(apply c4 0;exact callK1 (θ := []) (hD := (l05Is_ok _ preB55));exact rfl;exact rfl;exact rfl;refine dM ?_)|(apply py3;exact rfl;exact rfl;(first|exact a_fa_immT 3 (T := 109) (f := 1) (off := 3) rfl (by kernel_rfl) rfl|exact pu1|exact a_lenT rfl (fT rfl)|exact puC);exact rfl;exact rfl)|(apply cy4 0;exact rfl;exact rfl;exact callK1 (θ := []) (hD := (l31None_ok _));exact rfl;exact rfl;exact rfl;exact rfl;refine dM ?_)|(apply cy4 0;exact rfl;exact rfl;exact callK1 (θ := []) (hD := (l25Is_ok _ preB55 preB55 preB55));exact rfl;exact rfl;exact rfl;exact rfl;refine dM ?_)|(apply cy4 0;exact rfl;exact rfl;exact callK1 (θ := []) (hD := (l31Line_ok _ preB55 preB55));exact rfl;exact rfl;exact rfl;exact rfl;refine dM ?_)|((refine o_gs rfl rfl (fun hc => ?_) (fun hc => ?_)) <;> (try simp only [dcB] at hc) <;> (try first|contradiction|(exfalso;omega)))|fail
          repeat refine cr ?_
          refine ends_id ?_
          refine endK [] (h2 := ?_) (h3 := ?_) (nd := ?_)
          all_goals (repeat' first|exact ce0|refine ce ?_|refine ce2 ?_ ?_|exact SVLe.refl|refine ceb ?_)
          all_goals first | exact (show nodupB _ = true from rfl) | exact Or.inr rfl | ((first | rfl | simp_all))
        · have e : okV v = false := by rw [h2]; simp [hl]
          rw [e]
          refine does_of (k := 0) Tryz.func131 rfl Tryz.ntmps131 rfl rfl fun w F0 S0 ρ0 => ?_
          dsimp only [argT,argH]
          repeat' first|(apply p3;(first|exact a_fa_immT 3 (T := 109) (f := 0) (off := 0) rfl (by kernel_rfl) rfl|exact pu1);exact rfl)|refine cd ?_|(apply c4 0;exact callK1 (θ := []) (hD := (l05Is_ok _ preB55));exact rfl;exact rfl;exact rfl;refine dM ?_)|(apply py3;exact rfl;exact rfl;(first|exact a_fa_immT 3 (T := 109) (f := 1) (off := 3) rfl (by kernel_rfl) rfl|exact pu1|exact a_lenT rfl (fT rfl)|exact puC);exact rfl;exact rfl)|(apply cy4 0;exact rfl;exact rfl;exact callK1 (θ := []) (hD := (l31None_ok _));exact rfl;exact rfl;exact rfl;exact rfl;refine dM ?_)|(apply cy4 0;exact rfl;exact rfl;exact callK1 (θ := []) (hD := (l25Is_ok _ preB55 preB55 preB55));exact rfl;exact rfl;exact rfl;exact rfl;refine dM ?_)|(apply cy4 0;exact rfl;exact rfl;exact callK1 (θ := []) (hD := (l31Line_ok _ preB55 preB55));exact rfl;exact rfl;exact rfl;exact rfl;refine dM ?_)|((refine o_gs rfl rfl (fun hc => ?_) (fun hc => ?_)) <;> (try simp only [dcB] at hc) <;> (try first|contradiction|(exfalso;omega)))|fail
          repeat refine cr ?_
          refine ends_id ?_
          refine endK [] (h2 := ?_) (h3 := ?_) (nd := ?_)
          all_goals (repeat' first|exact ce0|refine ce ?_|refine ce2 ?_ ?_|exact SVLe.refl|refine ceb ?_)
          all_goals first | exact (show nodupB _ = true from rfl) | exact Or.inr rfl | ((first | rfl | simp_all))
      · have h2 : okV v = false := by unfold okV; simp [hz,hv]
        rw [h2]
        refine does_of (k := 0) Tryz.func131 rfl Tryz.ntmps131 rfl rfl fun w F0 S0 ρ0 => ?_
        dsimp only [argT,argH]
        repeat' first|(apply p3;(first|exact a_fa_immT 3 (T := 109) (f := 0) (off := 0) rfl (by kernel_rfl) rfl|exact pu1);exact rfl)|refine cd ?_|(apply c4 0;exact callK1 (θ := []) (hD := (l05Is_ok _ preB55));exact rfl;exact rfl;exact rfl;refine dM ?_)|refine o_no rfl rfl rfl rfl ?_|(apply py3;exact rfl;exact rfl;(first|exact a_fa_immT 3 (T := 109) (f := 1) (off := 3) rfl (by kernel_rfl) rfl|exact pu1);exact rfl;exact rfl)|(apply cy4 0;exact rfl;exact rfl;exact callK1 (θ := []) (hD := (l31None_ok _));exact rfl;exact rfl;exact rfl;exact rfl;refine dM ?_)|(apply cy4 0;exact rfl;exact rfl;exact callK1 (θ := []) (hD := (l25Is_ok _ preB55 preB55 preB55));exact rfl;exact rfl;exact rfl;exact rfl;refine dM ?_)|((refine o_gs rfl rfl (fun hc => ?_) (fun hc => ?_)) <;> (try simp only [dcB] at hc) <;> (try first|contradiction|(exfalso;omega)))|fail
        repeat refine cr ?_
        refine ends_id ?_
        refine endK [] (h2 := ?_) (h3 := ?_) (nd := ?_)
        all_goals (repeat' first|exact ce0|refine ce ?_|refine ce2 ?_ ?_|exact SVLe.refl|refine ceb ?_)
        all_goals first | exact (show nodupB _ = true from rfl) | exact Or.inr rfl | ((first | rfl | simp_all))
  · have h2 : okV v = false := by unfold okV; simp [hm]
    rw [h2]
    refine does_of (k := 0) Tryz.func131 rfl Tryz.ntmps131 rfl rfl fun w F0 S0 ρ0 => ?_
    dsimp only [argT,argH]
    repeat' first|(apply p3;(first|exact a_fa_immT 3 (T := 109) (f := 0) (off := 0) rfl (by kernel_rfl) rfl|exact pu1);exact rfl)|refine cd ?_|(apply c4 0;exact callK1 (θ := []) (hD := (l05Is_ok _ preB55));exact rfl;exact rfl;exact rfl;refine dM ?_)|refine o_no rfl rfl rfl rfl ?_|((refine o_gs rfl rfl (fun hc => ?_) (fun hc => ?_)) <;> (try simp only [dcB] at hc) <;> (try first|contradiction|(exfalso;omega)))|fail
    repeat refine cr ?_
    refine ends_id ?_
    refine endK [] (h2 := ?_) (h3 := ?_) (nd := ?_)
    all_goals (repeat' first|exact ce0|refine ce ?_|refine ce2 ?_ ?_|exact SVLe.refl|refine ceb ?_)
    all_goals first | exact (show nodupB _ = true from rfl) | exact Or.inr rfl | ((first | rfl | simp_all))
end Go.Proofs.YtnkeamihfiobdaaGreatDoor
end
section
set_option linter.unusedVariables false
set_option linter.unusedSimpArgs false
set_option maxRecDepth 100000
set_option maxHeartbeats 4000000
namespace Go.Proofs.YtnkeamihfiobdaaGreatDoor
open Go Foot
theorem preB56 {p : Prop} (h : p := by first | with_reducible assumption | omega | (simp only [List.length_append,List.length_cons,List.length_nil,List.length_set,List.length_replicate,List.length_take,List.length_drop,List.length_tail,List.length_dropLast,List.length_reverse] at *; omega) | exact mem_len (by assumption) (by omega) | (with_reducible refine Int.le_trans (Int.ofNat_le.2 (trimR_len _)) ?_; simp only [List.length_cons,List.length_tail]; omega) | (exact (ruAt_ok (by assumption) (by assumption) (by assumption)).2.1) | (exact (ruAt_ok (by assumption) (by assumption) (by assumption)).2.1) | (have := vMach_bd (by assumption); omega) | (simp only [mC_ch,mC_tu]; omega) | (have := vTag_bd (by assumption); omega) | (have := (‹Gd _ _›).le; omega) | (exact tgHalts_no (by assumption)) | (exact tgHead (by assumption) (by assumption) (by assumption)) | (exact Int.le_trans (tgStep_gd (by assumption) (by assumption) (by assumption) (by assumption)).le (by decide)) | (exact vTag_r (by assumption)) | (with_reducible refine Int.le_trans (Int.ofNat_le.2 (pushL_len _ _)) ?_; simp only [List.length_dropLast]; omega) | exact (ask_ok (by assumption)).1 | exact (ask_ok (by assumption)).2.1 | exact (ask_ok (by assumption)).2.2.1 | exact (ask_ok (by assumption)).2.2.2 | trivial) : p := h
theorem ValidVerdict_ok (v : Verd) (g : VeGd v) : Does Tryz.prog 139 [.agg (veC v)] [] (.one (boo (okV v))) [] := by
  cases ho : okV v with
  | true =>
    have e : verT v = linT v := by unfold verT; rw [if_pos ho]
    have hn := linT_ne v
    refine does_of (k := 0) Tryz.func139 rfl Tryz.ntmps139 rfl rfl fun w F0 S0 ρ0 => ?_
    dsimp only [argT,argH]
    repeat' first|(apply n3;exact a_new (gb := .bx _) rfl;exact rfl;refine dA ?_)|(apply p3;(first|exact pu1|exact a_neT rfl rfl);exact rfl)|refine cd ?_|(apply c4 0;exact callK1 (θ := []) (hD := (VerdictText_ok _ preB56));exact rfl;exact rfl;exact rfl;refine dM ?_)|fail
    rw [e]
    repeat refine cr ?_
    refine ends_id ?_
    refine endK [] (h2 := ?_) (h3 := ?_) (nd := ?_)
    all_goals (repeat' first|exact ce0|refine ce ?_|refine ce2 ?_ ?_|exact SVLe.refl|refine ceb ?_)
    all_goals first | exact (show nodupB _ = true from rfl) | exact Or.inr rfl | ((simp [hn]))
  | false =>
    have e : verT v = [] := by unfold verT; rw [ho]; rfl
    refine does_of (k := 0) Tryz.func139 rfl Tryz.ntmps139 rfl rfl fun w F0 S0 ρ0 => ?_
    dsimp only [argT,argH]
    repeat' first|(apply n3;exact a_new (gb := .bx _) rfl;exact rfl;refine dA ?_)|(apply p3;(first|exact pu1|exact a_neT rfl rfl);exact rfl)|refine cd ?_|(apply c4 0;exact callK1 (θ := []) (hD := (VerdictText_ok _ preB56));exact rfl;exact rfl;exact rfl;refine dM ?_)|fail
    rw [e]
    repeat refine cr ?_
    refine ends_id ?_
    refine endK [] (h2 := ?_) (h3 := ?_) (nd := ?_)
    all_goals (repeat' first|exact ce0|refine ce ?_|refine ce2 ?_ ?_|exact SVLe.refl|refine ceb ?_)
    all_goals first | exact (show nodupB _ = true from rfl) | exact Or.inr rfl | (rfl)
structure LsGd (l : List Verd) : Prop where
  n : (l.length : Int) ≤ 16777216
  a : ∀ v ∈ l,VeGd v
theorem ls_at {l : List Verd} (g : LsGd l) {i : Nat} (h : i < l.length) : VeGd l[i] := g.a _ (List.getElem_mem h)
theorem preB56_2 {p : Prop} (h : p := by first | with_reducible assumption | omega | (simp only [List.length_append,List.length_cons,List.length_nil,List.length_set,List.length_replicate,List.length_take,List.length_drop,List.length_tail,List.length_dropLast,List.length_reverse] at *; omega) | exact mem_len (by assumption) (by omega) | (with_reducible refine Int.le_trans (Int.ofNat_le.2 (trimR_len _)) ?_; simp only [List.length_cons,List.length_tail]; omega) | (exact (ruAt_ok (by assumption) (by assumption) (by assumption)).2.1) | (exact (ruAt_ok (by assumption) (by assumption) (by assumption)).2.1) | (have := vMach_bd (by assumption); omega) | (simp only [mC_ch,mC_tu]; omega) | (have := vTag_bd (by assumption); omega) | (have := (‹Gd _ _›).le; omega) | (exact tgHalts_no (by assumption)) | (exact tgHead (by assumption) (by assumption) (by assumption)) | (exact Int.le_trans (tgStep_gd (by assumption) (by assumption) (by assumption) (by assumption)).le (by decide)) | (exact vTag_r (by assumption)) | (with_reducible refine Int.le_trans (Int.ofNat_le.2 (pushL_len _ _)) ?_; simp only [List.length_dropLast]; omega) | exact (ask_ok (by assumption)).1 | exact (ask_ok (by assumption)).2.1 | exact (ask_ok (by assumption)).2.2.1 | exact (ask_ok (by assumption)).2.2.2 | exact ls_at (by assumption) (by omega) | trivial) : p := h
theorem areV1_ok (v : Verd) (g : VeGd v) : Does Tryz.prog 138 [.agg (veC v)] [] (.one (boo (!okV v))) [] := by
  refine does_of (k := 0) Tryz.func138 rfl Tryz.ntmps138 rfl rfl fun w F0 S0 ρ0 => ?_
  dsimp only [argT,argH]
  repeat' first|(apply n3;exact a_new (gb := .bx _) rfl;exact rfl;refine dA ?_)|(apply p3;(exact pu1);exact rfl)|refine cd ?_|(apply c4 0;exact callK1 (θ := []) (hD := (ValidVerdict_ok _ preB56_2));exact rfl;exact rfl;exact rfl;refine dM ?_)|fail
  repeat refine cr ?_
  refine ends_id ?_
  refine endK [] (h2 := ?_) (h3 := ?_) (nd := ?_)
  all_goals (repeat' first|exact ce0|refine ce ?_|refine ce2 ?_ ?_|exact SVLe.refl|refine ceb ?_)
  all_goals first | exact (show nodupB _ = true from rfl) | exact Or.inr rfl | (rfl)
theorem idxV_ok (xs : List Verd) (k : Nat) (p : Verd → Bool) (g : LsGd xs) (hE : entB Tryz.prog k = true) (hp : ∀ r,VeGd r → Does Tryz.prog k [.agg (veC r)] [] (.one (boo (p r))) []) : Does Tryz.prog 208 [.one (shV xs),.one (.d (.fn (.func k) []))] [] (.one (int (idxF p xs))) [] := by
  have hx := g.n
  refine does_of (k := 0) Tryz.func208 rfl Tryz.ntmps208 rfl rfl fun w F0 S0 ρ0 => ?_
  dsimp only [argT,argH]
  repeat' first|(apply p3;(first|exact pu1|exact puN);exact rfl)|refine cd ?_|fail
  refine g_loop_id ?_
  refine loopK [0,1,4,7] [] (fun i : Int => 0 ≤ i ∧ i ≤ xs.length ∧ (xs.take i.toNat).all (fun x => !p x) = true) (fun i => [(8,.one (int i))]) (fun _ => []) (fun i => (xs.length - i).toNat) (0 : Int) [] (hI := ?_) (hr := ?_)
  · exact ⟨by omega,by omega,rfl⟩
  · rintro i ⟨h0,h1,h2⟩
    dsimp only [List.cons_append,List.nil_append] at *
    skip
    repeat' first|(apply p3;(first|exact pu1|exact puC|exact a_add rfl rfl (by omega) (by omega)|exact puI);exact rfl)|refine cd ?_|(apply c4 0;exact callK0 (θ := []) (hE := hE) (hD := (hp _ preB56_2));exact rfl;exact rfl;exact rfl;refine dM ?_)|((refine g_cond rfl (fun hc => ?_) (fun hc => ?_)) <;> (try simp only [dcB] at hc) <;> (try first|contradiction|(exfalso;omega)))|fail
    · repeat refine cr ?_
      refine ends_id ?_
      refine endK [] (h2 := ?_) (h3 := ?_) (nd := ?_)
      all_goals (repeat' first|exact ce0|refine ce ?_|refine ce2 ?_ ?_|exact SVLe.refl|refine ceb ?_)
      all_goals first | exact (show nodupB _ = true from rfl) | exact Or.inr rfl | (exact (idxF_stop p xs i h0 (by omega) h2 hc).symm)
    · refine q_again (i + 1) [] (by exact stk) ?_ ?_
      · exact ⟨by omega,by omega,all_snocI _ _ _ h0 (by omega) h2 (by simp [hc])⟩
      · omega
    · repeat refine cr ?_
      refine ends_id ?_
      refine endK [] (h2 := ?_) (h3 := ?_) (nd := ?_)
      all_goals (repeat' first|exact ce0|refine ce ?_|refine ce2 ?_ ?_|exact SVLe.refl|refine ceb ?_)
      all_goals first | exact (show nodupB _ = true from rfl) | exact Or.inr rfl | ((rw [List.take_of_length_le (by omega)] at h2; exact (idxF_none p xs h2).symm))
theorem hasV_ok (xs : List Verd) (k : Nat) (p : Verd → Bool) (g : LsGd xs) (hE : entB Tryz.prog k = true) (hp : ∀ r,VeGd r → Does Tryz.prog k [.agg (veC r)] [] (.one (boo (p r))) []) : Does Tryz.prog 137 [.one (shV xs),.one (.d (.fn (.func k) []))] [] (.one (boo (xs.any p))) [] := by
  have hx := g.n
  refine does_of (k := 0) Tryz.func137 rfl Tryz.ntmps137 rfl rfl fun w F0 S0 ρ0 => ?_
  dsimp only [argT,argH]
  repeat' first|(apply p3;(first|exact pu1|exact puC);exact rfl)|refine cd ?_|(apply c4 0;exact callK1 (θ := []) (hD := (idxV_ok _ _ _ preB56_2 preB56_2 preB56_2));exact rfl;exact rfl;exact rfl;refine dM ?_)|fail
  repeat refine cr ?_
  refine ends_id ?_
  refine endK [] (h2 := ?_) (h3 := ?_) (nd := ?_)
  all_goals (repeat' first|exact ce0|refine ce ?_|refine ce2 ?_ ?_|exact SVLe.refl|refine ceb ?_)
  all_goals first | exact (show nodupB _ = true from rfl) | exact Or.inr rfl | (exact idxF_any p xs)
theorem hasV1_ok (xs : List Verd) (g : LsGd xs) : Does Tryz.prog 137 [.one (shV xs),.one (.d (.fn (.func 138) []))] [] (.one (boo (xs.any fun v => !okV v))) [] := hasV_ok xs _ _ g (fQ rfl) fun r hr => areV1_ok r hr
@[irreducible] def okVs (l : List Verd) : Bool := decide ((l.length : Int) ≤ 40) && l.all okV
theorem areVerdicts_ok (l : List Verd) (g : LsGd l) : Does Tryz.prog 65 [.one (shV l)] [] (.one (boo (okVs l))) [] := by
  refine does_of (k := 0) Tryz.func65 rfl Tryz.ntmps65 rfl rfl fun w F0 S0 ρ0 => ?_
  dsimp only [argT,argH]
  repeat' first|(apply p3;(first|exact pu1|exact puN|exact puC);exact rfl)|refine cd ?_|refine o_no rfl rfl rfl rfl ?_|(apply py3;exact rfl;exact rfl;(exact pu1);exact rfl;exact rfl)|(apply cy4 0;exact rfl;exact rfl;exact callK1 (θ := []) (hD := (hasV1_ok _ preB56_2));exact rfl;exact rfl;exact rfl;exact rfl;refine dM ?_)|((refine o_gs rfl rfl (fun hc => ?_) (fun hc => ?_)) <;> (try simp only [dcB] at hc) <;> (try first|contradiction|(exfalso;omega)))|fail
  · repeat refine cr ?_
    refine ends_id ?_
    refine endK [] (h2 := ?_) (h3 := ?_) (nd := ?_)
    all_goals (repeat' first|exact ce0|refine ce ?_|refine ce2 ?_ ?_|exact SVLe.refl|refine ceb ?_)
    all_goals first | exact (show nodupB _ = true from rfl) | exact Or.inr rfl | ((unfold okVs; rw [not_any_not]; rw [decide_eq_true (by assumption)]; rfl))
  · repeat refine cr ?_
    refine ends_id ?_
    refine endK [] (h2 := ?_) (h3 := ?_) (nd := ?_)
    all_goals (repeat' first|exact ce0|refine ce ?_|refine ce2 ?_ ?_|exact SVLe.refl|refine ceb ?_)
    all_goals first | exact (show nodupB _ = true from rfl) | exact Or.inr rfl | ((unfold okVs; rw [decide_eq_false (by assumption)]; rfl))
theorem l31List_ok (l : List Verd) (g : LsGd l) : Does Tryz.prog 62 [.one (shV l)] [] (.one (boo (okVs l))) [] := by
  have hx := g.n
  refine does_of (k := 0) Tryz.func62 rfl Tryz.ntmps62 rfl rfl fun w F0 S0 ρ0 => ?_
  dsimp only [argT,argH]
  repeat' first|(apply p3;(exact pu1);exact rfl)|refine cd ?_|fail
  refine g_loop_id ?_
  refine loopK [0,2] [] (fun i : Int => 0 ≤ i ∧ i ≤ l.length ∧ (l.take i.toNat).all okV = true) (fun i => [(3,.one (int i))]) (fun _ => []) (fun i => (l.length - i).toNat) (0 : Int) [] (hI := ?_) (hr := ?_)
  · exact ⟨by omega,by omega,rfl⟩
  · rintro i ⟨h0,h1,h2⟩
    dsimp only [List.cons_append,List.nil_append] at *
    skip
    repeat' first|(apply p3;(first|exact pu1|exact puN|exact puC|exact a_add rfl rfl (by omega) (by omega)|exact puI);exact rfl)|refine cd ?_|(apply c4 0;exact callK1 (θ := []) (hD := (l31Is_ok _ preB56_2));exact rfl;exact rfl;exact rfl;refine dM ?_)|((refine g_cond rfl (fun hc => ?_) (fun hc => ?_)) <;> (try simp only [dcB] at hc) <;> (try first|contradiction|(exfalso;omega)))|fail
    · have e : l.all okV = false := all_no _ _ i.toNat (by omega) (by simp [hc])
      repeat refine cr ?_
      refine ends_id ?_
      refine endK [] (h2 := ?_) (h3 := ?_) (nd := ?_)
      all_goals (repeat' first|exact ce0|refine ce ?_|refine ce2 ?_ ?_|exact SVLe.refl|refine ceb ?_)
      all_goals first | exact (show nodupB _ = true from rfl) | exact Or.inr rfl | ((unfold okVs; rw [e]; simp))
    · refine q_again (i + 1) [] (by exact stk) ?_ ?_
      · exact ⟨by omega,by omega,all_snocI _ _ _ h0 (by omega) h2 hc⟩
      · omega
    · have e : l.all okV = true := by rw [List.take_of_length_le (by omega)] at h2; exact h2
      repeat refine cr ?_
      refine ends_id ?_
      refine endK [] (h2 := ?_) (h3 := ?_) (nd := ?_)
      all_goals (repeat' first|exact ce0|refine ce ?_|refine ce2 ?_ ?_|exact SVLe.refl|refine ceb ?_)
      all_goals first | exact (show nodupB _ = true from rfl) | exact Or.inr rfl | ((unfold okVs; rw [e]; simp))
end Go.Proofs.YtnkeamihfiobdaaGreatDoor
end
section
set_option linter.unusedVariables false
set_option linter.unusedSimpArgs false
set_option maxRecDepth 100000
set_option maxHeartbeats 4000000
namespace Go.Proofs.YtnkeamihfiobdaaGreatDoor
open Go Foot
end Go.Proofs.YtnkeamihfiobdaaGreatDoor
end
section
set_option linter.unusedVariables false
set_option linter.unusedSimpArgs false
set_option maxRecDepth 100000
set_option maxHeartbeats 4000000
namespace Go.Proofs.YtnkeamihfiobdaaGreatDoor
open Go Foot
section
variable {m : Mach} {d n a b : Int} {c : Conf} {O : Option (Conf × Int × Int)}
end
end Go.Proofs.YtnkeamihfiobdaaGreatDoor
end
section
set_option linter.unusedVariables false
set_option linter.unusedSimpArgs false
set_option maxRecDepth 100000
set_option maxHeartbeats 4000000
namespace Go.Proofs.YtnkeamihfiobdaaGreatDoor
open Go Foot
end Go.Proofs.YtnkeamihfiobdaaGreatDoor
end
section
set_option linter.unusedVariables false
set_option linter.unusedSimpArgs false
set_option maxRecDepth 100000
set_option maxHeartbeats 4000000
namespace Go.Proofs.YtnkeamihfiobdaaGreatDoor
open Go Foot
structure ItOut (X : Type) where
  x : X
  j : Option Code
  c : Conf
section
variable {X : Type} {m : Mach} {bd : X → Conf × Int × Bool → X × Option Code} {b n : Int} {c : Conf} {x : X} {O : ItOut X} {k : Nat}
end
end Go.Proofs.YtnkeamihfiobdaaGreatDoor
end
section
set_option linter.unusedVariables false
set_option linter.unusedSimpArgs false
set_option maxRecDepth 100000
set_option maxHeartbeats 4000000
namespace Go.Proofs.YtnkeamihfiobdaaGreatDoor
open Go Foot
end Go.Proofs.YtnkeamihfiobdaaGreatDoor
end
section
set_option linter.unusedVariables false
set_option linter.unusedSimpArgs false
set_option maxRecDepth 100000
set_option maxHeartbeats 4000000
namespace Go.Proofs.YtnkeamihfiobdaaGreatDoor
open Go Foot
end Go.Proofs.YtnkeamihfiobdaaGreatDoor
end
