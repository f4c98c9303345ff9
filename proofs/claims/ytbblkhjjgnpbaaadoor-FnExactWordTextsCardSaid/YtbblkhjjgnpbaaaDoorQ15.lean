/- Parts of the proof (15 of 17). -/
import Derived.Lib.AppendIntMem
import Derived.Test.YtbblkhjjgnpbaaaDoorQ14
section
set_option linter.unusedVariables false
set_option linter.unusedSimpArgs false
set_option maxRecDepth 100000
namespace Go.Proofs.YtbblkhjjgnpbaaaDoor
open Go Foot Go.Shelf Go.RowKit
theorem repA_2 {w : World} {S : Foot} {ρ : Env} {v u : Value} {vs : List Value} (h : RepA w S ρ [.one (.d (.sc v)),.one (.d (.sc u))] vs) : vs = [v,u] := by
  simp only [RepA,RepS,RepC,Rep] at h
  obtain ⟨_,_,rfl,⟨rfl,_⟩,_,_,rfl,⟨rfl,_⟩,rfl⟩ := h
  rfl
theorem does_ext {P : Program} {f : Nat} {ags : List SV} {av : List Value} {res : SV} {rv : Value} (ha : ∀ w S ρ vs,RepA w S ρ ags vs → vs = av) (hr : ∀ w S ρ,RepS w S ρ res rv)
    (hc : ∀ (w : World) (S : Foot),Tabs w S → Calls P f av.toArray w fun en w' => en = .returned rv ∧ Below w.heap.size w w') : Does P f ags [] res [] := by
  intro vs w S ρ F hA hG
  have := ha _ _ _ _ hA
  subst this
  refine (hc w S hG.tab).mono ?_
  rintro en w' ⟨rfl,hb⟩
  refine ⟨rv,no,ρ,F,rfl,?_,hr _ _ _⟩
  refine ⟨⟨hb.os,hb.tape,hb.output,hb.size,fun k hk _ => hb.block k hk,fun k o hk _ => ?_⟩,no_le _,fun _ _ h => h.elim,by simp,fun i u _ h => h,hG.new,fun i gb hi => by simp at hi,fun i j hi => by simp at hi,fun i hi => by simp at hi,fun i hi => by simp at hi,fun i hi => by simp at hi⟩
  have e := hb.block k hk
  simp [World.cell?,World.frozen?,mapAt,e]
section
variable {g : Gh} {st : St} {dst : Option Tmp} {ty : TypeId} {pos : String} {after : Array Edge} {guard : Option (Nat × Bool)} {i : Nat}
end
end Go.Proofs.YtbblkhjjgnpbaaaDoor
end
section
set_option linter.unusedVariables false
set_option linter.unusedSimpArgs false
set_option maxRecDepth 100000
set_option maxHeartbeats 4000000
namespace Go.Proofs.YtbblkhjjgnpbaaaDoor
open Go Foot Go.Shelf Go.RowKit
theorem FormatInt_ok (n : Int) (h0 : -9223372036854775808 ≤ n) (h1 : n ≤ 9223372036854775807) : Does Tryd.prog 112 [.one (int n),.one (int 10)] [] (.one (str (Lib.itoa n))) [] :=
  does_ext (av := [.int .i64 n,.int .i64 10]) (rv := sv (Lib.itoa n)) (fun w S ρ vs => repA_2) (fun w S ρ => ⟨rfl,rfl⟩) fun w S hT => by
    obtain ⟨⟨cs,T,fr,ht,hcs⟩,_⟩ := hT _ List.mem_cons_self
    dsimp only at hcs
    subst hcs
    refine (Any.strconv_FormatInt_10 Tryd.laysM173 n h0 h1 w ?_).mono ?_
    · dsimp only at ht
      exact Option.bind_eq_some_iff.2 ⟨_,by kernel_rfl,by rw [ht]; simp [Lib.pow10Tab]⟩
    · rintro en w' ⟨rfl,k,os,rfl⟩
      exact ⟨rfl,Lib.below_grow _ w (Nat.le_refl _) k os⟩
theorem reps_S {w : World} {S F : Foot} : ∀ {l : List Bs} {us : List Value},Reps w S (rows eS l) us F → us = l.map fun b => sv b
  | [],us,h => by simpa [rows,Reps] using h
  | n :: l,us,h => by
    have e : rows eS (n :: l) = .sc (sv n) :: rows eS l := rfl
    rw [e] at h
    simp only [Reps] at h
    obtain ⟨v,us',F1,F2,rfl,_,_,_,h1,h2⟩ := h
    simp only [Rep] at h1
    rw [h1.1,reps_S h2,List.map_cons]
@[irreducible] def joinT (l : List Bs) (sep : Bs) : Bs := Lib.join l sep
theorem Join_ok (l : List Bs) (sep : Bs) (hl : (l.length : Int) ≤ 1048576) (hj : ((joinT l sep).length : Int) ≤ 140737488355328) : Does Tryd.prog 58 [.one (shS l),.one (str sep)] [] (.one (str (joinT l sep))) [] := by
  intro vs w S ρ F hA hG
  simp only [RepA,RepS,RepC] at hA
  obtain ⟨v0,_,rfl,h0,v1,_,rfl,h1,rfl⟩ := hA
  simp only [Rep] at h1
  obtain ⟨rfl,_⟩ := h1
  simp only [Rep] at h0
  obtain ⟨a,len,cap,rfl,hlen,_,hcap,hc⟩ := h0
  rw [rows_len] at hlen
  have hlen' : l.length = len := by simpa using hlen
  have key : Calls Tryd.prog 58 #[.slice a len cap,sv sep] w fun e w' => e = .returned (sv (joinT l sep)) ∧ Below w.heap.size w w' := by
    rcases hc with ⟨rfl,_⟩ | ⟨b,off,us,G,rfl,hli,hr,ho⟩
    · have h0 : len = 0 := by omega
      have hl0 : l = [] := List.eq_nil_of_length_eq_zero (by omega)
      subst h0 hl0
      refine (Any.strings_Join_none Tryd.lays156 Tryd.Builder_Extra_156 a 0 ⟨sep.toArray⟩ w).mono ?_
      rintro e w' ⟨rfl,rfl⟩
      exact ⟨by unfold joinT; rfl,Below.refl _ _⟩
    · have hus := reps_S hr
      subst hus
      have hjj : joinT l sep = Lib.join ((l.map fun b => (⟨b.toArray⟩ : ByteArray)).map (·.data.toList)) (⟨sep.toArray⟩ : ByteArray).data.toList := by
        unfold joinT
        rw [List.map_map]
        congr 1
        exact (List.map_id l).symm
      have hbk : b < w.heap.size ∨ l = [] := by
        cases l with
        | nil => exact .inr rfl
        | cons x l =>
          have := hli 0 (sv x) rfl
          refine .inl ?_
          unfold World.cell? at this
          rcases Nat.lt_or_ge b w.heap.size with h | h
          · exact h
          · simp [Array.getElem?_eq_none h] at this
      rcases hbk with hbk | hl0
      · have hx := Any.strings_Join Tryd.lays156 Tryd.Builder_Extra_156 b off cap (l.map fun b => (⟨b.toArray⟩ : ByteArray)) ⟨sep.toArray⟩ w (fun j x hj => by
          rw [List.getElem?_map] at hj
          cases hg : l[j]? with
          | none => rw [hg] at hj; cases hj
          | some y =>
            rw [hg] at hj
            cases hj
            exact hli j (sv y) (by rw [List.getElem?_map,hg]; rfl)) hbk (by rw [List.length_map]; omega) (by rw [List.length_map]; omega) (by rw [← hjj]; omega)
        rw [List.length_map,hlen',← hjj] at hx
        exact hx
      · subst hl0
        simp at hlen'
        subst hlen'
        refine (Any.strings_Join_none Tryd.lays156 Tryd.Builder_Extra_156 (some ⟨b,off,none⟩) cap ⟨sep.toArray⟩ w).mono ?_
        rintro e w' ⟨rfl,rfl⟩
        exact ⟨by unfold joinT; rfl,Below.refl _ _⟩
  refine key.mono ?_
  rintro en w' ⟨rfl,hb⟩
  refine ⟨_,no,ρ,F,rfl,?_,⟨rfl,rfl⟩⟩
  refine ⟨⟨hb.os,hb.tape,hb.output,hb.size,fun k hk _ => hb.block k hk,fun k o hk _ => ?_⟩,no_le _,fun _ _ h => h.elim,by simp,fun i u _ h => h,hG.new,fun i gb hi => by simp at hi,fun i j hi => by simp at hi,fun i hi => by simp at hi,fun i hi => by simp at hi,fun i hi => by simp at hi⟩
  have e := hb.block k hk
  simp [World.cell?,World.frozen?,mapAt,e]
end Go.Proofs.YtbblkhjjgnpbaaaDoor
end
section
set_option linter.unusedVariables false
set_option linter.unusedSimpArgs false
set_option maxRecDepth 100000
set_option maxHeartbeats 4000000
namespace Go.Proofs.YtbblkhjjgnpbaaaDoor
open Go Foot
def drev (u : Nat) : List Int := if h : u = 0 then [] else (48 + (u % 10 : Nat) : Int) :: drev (u / 10)
termination_by u
decreasing_by omega
theorem drev_0 : drev 0 = [] := by rw [drev]; simp
theorem drev_s {u : Nat} (h : u ≠ 0) : drev u = (48 + (u % 10 : Nat) : Int) :: drev (u / 10) := by rw [drev]; simp [h]
theorem drev_le : ∀ (k u : Nat),u < 10 ^ k → (drev u).length ≤ k := by
  intro k
  induction k with
  | zero =>
    intro u h
    have : u = 0 := by simpa using h
    subst this
    simp [drev_0]
  | succ k ih =>
    intro u h
    by_cases h0 : u = 0
    · subst h0; simp [drev_0]
    · rw [drev_s h0,List.length_cons]
      have := ih (u / 10) (by rw [Nat.pow_succ] at h; omega)
      omega
theorem byt_app (a b : List Int) : byt (a ++ b) = byt a ++ byt b := by unfold byt; simp
theorem byt_len (a : List Int) : (byt a).length = a.length := by unfold byt; simp
theorem byt_1 (n : Int) : byt [n] = [UInt8.ofNat n.toNat] := by unfold byt; rfl
theorem byt_0 : byt [] = [] := by unfold byt; rfl
theorem drev_dec : ∀ (u : Nat),u ≠ 0 → byt (drev u).reverse = Lib.decDigits u := by
  intro u
  induction u using Nat.strongRecOn with
  | _ u ih =>
    intro h0
    rw [drev_s h0,List.reverse_cons,byt_app,byt_1,Lib.decDigits]
    by_cases h : u < 10
    · rw [dif_pos h,show u / 10 = 0 by omega,drev_0]
      simp only [List.reverse_nil,byt_0,List.nil_append]
      congr 2
      omega
    · rw [dif_neg h,ih (u / 10) (by omega) (by omega)]
      rfl
@[irreducible] def decT (n : Int) : Bs := Lib.itoa n
theorem decT_0 : decT 0 = [48] := by unfold decT Lib.itoa; simp [Lib.decDigits]
theorem decT_n {n : Int} (h : n ≠ 0) : decT n = byt ((drev n.natAbs ++ (if n < 0 then [45] else [])).reverse) := by
  unfold decT Lib.itoa
  split
  · rw [List.reverse_append,byt_app,drev_dec _ (by omega)]; simp [byt_1]
  · rw [List.append_nil,drev_dec _ (by omega),show n.natAbs = n.toNat by omega]
theorem decT_le {n : Int} (h0 : -9223372036854775808 ≤ n) (h1 : n ≤ 9223372036854775807) : (decT n).length ≤ 21 := by
  by_cases h : n = 0
  · subst h; rw [decT_0]; decide
  · rw [decT_n h,byt_len,List.length_reverse,List.length_append]
    have h2 := drev_le 20 n.natAbs (by omega)
    split <;> simp only [List.length_cons,List.length_nil] <;> omega
theorem preB49 {p : Prop} (h : p := by first | with_reducible assumption | omega | (simp only [List.length_append,List.length_cons,List.length_nil,List.length_set,List.length_replicate,List.length_take,List.length_drop,List.length_tail,List.length_dropLast,List.length_reverse] at *; omega) | exact mem_len (by assumption) (by omega) | (with_reducible refine Int.le_trans (Int.ofNat_le.2 (trimR_len _)) ?_; simp only [List.length_cons,List.length_tail]; omega) | (exact (ruAt_ok (by assumption) (by assumption) (by assumption)).2.1) | (exact (ruAt_ok (by assumption) (by assumption) (by assumption)).2.1) | (have := vMach_bd (by assumption); omega) | (simp only [mC_ch,mC_tu]; omega) | (have := vTag_bd (by assumption); omega) | (have := (‹Gd _ _›).le; omega) | (exact tgHalts_no (by assumption)) | (exact tgHead (by assumption) (by assumption) (by assumption)) | (exact Int.le_trans (tgStep_gd (by assumption) (by assumption) (by assumption) (by assumption)).le (by decide)) | (exact vTag_r (by assumption)) | (with_reducible refine Int.le_trans (Int.ofNat_le.2 (pushL_len _ _)) ?_; simp only [List.length_dropLast]; omega) | exact (ask_ok (by assumption)).1 | exact (ask_ok (by assumption)).2.1 | exact (ask_ok (by assumption)).2.2.1 | exact (ask_ok (by assumption)).2.2.2 | trivial) : p := h
theorem l01Dec_ok (n : Int) (h0 : -9223372036854775807 ≤ n) (h1 : n ≤ 9223372036854775807) : Does Tryd.prog 81 [.one (int n)] [] (.one (str (decT n))) [] := by
  by_cases hn : n = 0
  · subst hn
    rw [decT_0]
    refine does_of (k := 0) Tryd.func81 rfl Tryd.ntmps81 rfl rfl fun w F0 S0 ρ0 => ?_
    dsimp only [argT,argH]
    repeat' first|(apply p3;(first|exact pu1|exact puC);exact rfl)|refine cd ?_
    repeat refine cr ?_
    refine ends_id ?_
    refine endK [] (h2 := ?_) (h3 := ?_) (nd := ?_)
    all_goals (repeat' first|exact ce0|refine ce ?_|refine ce2 ?_ ?_|exact SVLe.refl|refine ceb ?_)
    all_goals first | exact (show nodupB _ = true from rfl) | exact Or.inr rfl | (rfl)
  have hT := decT_n hn
  have hl := drev_le 20 n.natAbs (by omega)
  refine does_of (k := 0) Tryd.func81 rfl Tryd.ntmps81 rfl rfl fun w F0 S0 ρ0 => ?_
  dsimp only [argT,argH]
  repeat' first|(apply n3;(exact a_litE eY [] rfl rfl rfl rfl rfl rfl rfl rfl);exact rfl;refine dA ?_)|(apply p3;(first|exact pu1|exact puC);exact rfl)|refine cd ?_|((refine g_cond rfl (fun hc => ?_) (fun hc => ?_)) <;> (try simp only [dcB] at hc) <;> (try first|contradiction|(exfalso;omega)))
  refine g_loop_id ?_
  refine loopK [0,2,3] [0] (fun x : Int × List Int => x.2 ++ drev x.1.natAbs = drev n.natAbs ∧ x.1.natAbs ≤ n.natAbs ∧ (x.2.length : Int) ≤ 20) (fun x => [(4,.one (int x.1))]) (fun x => [(0,.row 1 (rows eY x.2))]) (fun x => x.1.natAbs) (n,[]) [0] (hI := ?_) (hr := ?_)
  · exact ⟨by simp,by simp,by simp⟩
  · rintro ⟨m,xs⟩ ⟨k0,k1,k2⟩
    dsimp only [List.cons_append,List.nil_append] at *
    skip
    have t1 := Int.natAbs_tmod m 10; have t2 := Int.natAbs_tdiv m 10; have t3 : m.natAbs.div (10 : Int).natAbs = m.natAbs / 10 := rfl; have t4 : (10 : Int).natAbs = 10 := rfl; rw [t3] at t2; rw [t4] at t1; have t5 : ((xs ++ [45]).length : Int) = xs.length + 1 := by simp
    repeat' first|(apply n3;(first|exact a_litE eY [_] rfl rfl rfl rfl rfl rfl rfl rfl|exact a_litE eY [] rfl rfl rfl rfl rfl rfl rfl rfl);exact rfl;refine dA ?_)|(apply p3;(first|exact pu1|exact a_ne rfl rfl|exact a_remT rfl rfl (by omega)|exact puC|exact a_neg rfl (by omega) (by omega)|exact a_add rfl rfl (by omega) (by omega)|exact a_to8 rfl Tryd.underlying2 Tryd.underlying5 (by omega) (by omega)|exact a_quoT rfl rfl (by omega) (by omega) (by omega)|exact puN|exact a_sub rfl rfl (by omega) (by omega));exact rfl)|refine cd ?_|(apply s3;exact a_appE (fP rfl) rfl rfl rfl rfl nowR (by (simp;omega)) (by decide) (by decide) (by exact rfl);exact rfl;exact rfl)|((refine g_cond rfl (fun hc => ?_) (fun hc => ?_)) <;> (try simp only [dcB] at hc) <;> (try first|contradiction|(exfalso;omega)))
    · refine q_again (m.tdiv 10,_) [2] (by exact stk) ?_ ?_
      · dsimp only
        refine ⟨?_,by omega,?_⟩
        · rw [← k0,drev_s (by omega : m.natAbs ≠ 0),t2,List.append_assoc]
          congr 1
          rw [List.singleton_append]
          congr 1
          omega
        · have h1 := congrArg List.length k0
          rw [drev_s (by omega : m.natAbs ≠ 0)] at h1
          simp only [List.length_append,List.length_cons,List.length_nil] at h1 ⊢
          omega
      · dsimp only; omega
    · refine q_again (m.tdiv 10,_) [2] (by exact stk) ?_ ?_
      · dsimp only
        refine ⟨?_,by omega,?_⟩
        · rw [← k0,drev_s (by omega : m.natAbs ≠ 0),t2,List.append_assoc]
          congr 1
          rw [List.singleton_append]
          congr 1
          omega
        · have h1 := congrArg List.length k0
          rw [drev_s (by omega : m.natAbs ≠ 0)] at h1
          simp only [List.length_append,List.length_cons,List.length_nil] at h1 ⊢
          omega
      · dsimp only; omega
    · have ex : xs = drev n.natAbs := by rw [← k0,show m.natAbs = 0 by omega,drev_0,List.append_nil]
      rw [if_pos (by assumption),← ex] at hT
      obtain ⟨ys,hys⟩ : ∃ ys,ys = xs ++ [45] := ⟨_,rfl⟩
      rw [← hys] at hT t5 ⊢
      refine g_loop_id ?_
      refine loopK [2,3,6] [3] (fun x : Int × List Int => -1 ≤ x.1 ∧ x.1 < ys.length ∧ x.2 = (ys.drop (x.1 + 1).toNat).reverse) (fun x => [(7,.one (int x.1))]) (fun x => [(3,.row 1 (rows eY x.2))]) (fun x => (x.1 + 1).toNat) ((ys.length : Int) - 1,[]) [0,1,2,3] (hI := ?_) (hr := ?_)
      · dsimp only
        refine ⟨by omega,by omega,?_⟩
        rw [List.drop_eq_nil_of_le (by omega)]
        rfl
      · rintro ⟨i,out⟩ ⟨j0,j1,j2⟩
        dsimp only [List.cons_append,List.nil_append] at *
        skip
        have jl : (out.length : Int) ≤ 1000 := by rw [j2,List.length_reverse,List.length_drop]; omega
        repeat' first|(apply n3;(exact a_litE eY [_] rfl rfl rfl rfl rfl rfl rfl rfl);exact rfl;refine dA ?_)|(apply p3;(first|exact pu1|exact puC|exact a_ld_rowY rfl rfl rfl (fC rfl) bnd|exact a_sub rfl rfl (by omega) (by omega)|exact a_toStr rfl (by exact rfl) Tryd.underlying40 Tryd.underlying5 Tryd.underlying9|exact puI);exact rfl)|refine cd ?_|(apply s3;exact a_appE (fP rfl) rfl rfl rfl rfl nowR (by (simp;omega)) (by decide) (by decide) (by exact rfl);exact rfl;exact rfl)|((refine g_cond rfl (fun hc => ?_) (fun hc => ?_)) <;> (try simp only [dcB] at hc) <;> (try first|contradiction|(exfalso;omega)))
        · refine q_again (i - 1,_) [0,1,2,5] (by exact stk) ?_ ?_
          · dsimp only
            refine ⟨by omega,by omega,?_⟩
            rw [j2,show (i - 1 + 1).toNat = i.toNat by omega,List.drop_eq_getElem_cons (show i.toNat < ys.length by omega),List.reverse_cons,show i.toNat + 1 = (i + 1).toNat by omega]
            simp only [Nat.mul_one]
          · dsimp only; omega
        · have e : out = ys.reverse := by rw [j2,show (i + 1).toNat = 0 by omega]; rfl
          rw [hT,e]
          repeat refine cr ?_
          refine ends_id ?_
          refine endK [] (h2 := ?_) (h3 := ?_) (nd := ?_)
          all_goals (repeat' first|exact ce0|refine ce ?_|refine ce2 ?_ ?_|exact SVLe.refl|refine ceb ?_)
          all_goals first | exact (show nodupB _ = true from rfl) | exact Or.inr rfl | (rfl)
    · have ex : xs = drev n.natAbs := by rw [← k0,show m.natAbs = 0 by omega,drev_0,List.append_nil]
      rw [if_neg (by assumption),← ex,List.append_nil] at hT
      obtain ⟨ys,hys⟩ : ∃ ys,ys = xs := ⟨_,rfl⟩
      rw [← hys] at hT k2 ⊢
      refine g_loop_id ?_
      refine loopK [2,3,6] [1] (fun x : Int × List Int => -1 ≤ x.1 ∧ x.1 < ys.length ∧ x.2 = (ys.drop (x.1 + 1).toNat).reverse) (fun x => [(7,.one (int x.1))]) (fun x => [(1,.row 1 (rows eY x.2))]) (fun x => (x.1 + 1).toNat) ((ys.length : Int) - 1,[]) [0,1] (hI := ?_) (hr := ?_)
      · dsimp only
        refine ⟨by omega,by omega,?_⟩
        rw [List.drop_eq_nil_of_le (by omega)]
        rfl
      · rintro ⟨i,out⟩ ⟨j0,j1,j2⟩
        dsimp only [List.cons_append,List.nil_append] at *
        skip
        have jl : (out.length : Int) ≤ 1000 := by rw [j2,List.length_reverse,List.length_drop]; omega
        repeat' first|(apply n3;(exact a_litE eY [_] rfl rfl rfl rfl rfl rfl rfl rfl);exact rfl;refine dA ?_)|(apply p3;(first|exact pu1|exact puC|exact a_ld_rowY rfl rfl rfl (fC rfl) bnd|exact a_sub rfl rfl (by omega) (by omega)|exact a_toStr rfl (by exact rfl) Tryd.underlying40 Tryd.underlying5 Tryd.underlying9|exact puI);exact rfl)|refine cd ?_|(apply s3;exact a_appE (fP rfl) rfl rfl rfl rfl nowR (by (simp;omega)) (by decide) (by decide) (by exact rfl);exact rfl;exact rfl)|((refine g_cond rfl (fun hc => ?_) (fun hc => ?_)) <;> (try simp only [dcB] at hc) <;> (try first|contradiction|(exfalso;omega)))
        · refine q_again (i - 1,_) [0,3] (by exact stk) ?_ ?_
          · dsimp only
            refine ⟨by omega,by omega,?_⟩
            rw [j2,show (i - 1 + 1).toNat = i.toNat by omega,List.drop_eq_getElem_cons (show i.toNat < ys.length by omega),List.reverse_cons,show i.toNat + 1 = (i + 1).toNat by omega]
            simp only [Nat.mul_one]
          · dsimp only; omega
        · have e : out = ys.reverse := by rw [j2,show (i + 1).toNat = 0 by omega]; rfl
          rw [hT,e]
          repeat refine cr ?_
          refine ends_id ?_
          refine endK [] (h2 := ?_) (h3 := ?_) (nd := ?_)
          all_goals (repeat' first|exact ce0|refine ce ?_|refine ce2 ?_ ?_|exact SVLe.refl|refine ceb ?_)
          all_goals first | exact (show nodupB _ = true from rfl) | exact Or.inr rfl | (rfl)
theorem Decimal_ok (n : Int) (h0 : -9223372036854775808 ≤ n) (h1 : n ≤ 9223372036854775807) : Does Tryd.prog 94 [.one (int n)] [] (.one (str (decT n))) [] := by
  have e : decT n = Lib.itoa n := by unfold decT; rfl
  rw [e]
  refine does_of (k := 0) Tryd.func94 rfl Tryd.ntmps94 rfl rfl fun w F0 S0 ρ0 => ?_
  dsimp only [argT,argH]
  repeat' first|(apply p3;exact pu1;exact rfl)|refine cd ?_|(apply c4 0;exact callK1 (θ := []) (hD := (FormatInt_ok _ preB49 preB49));exact rfl;exact rfl;exact rfl;refine dM ?_)
  repeat refine cr ?_
  refine ends_id ?_
  refine endK [] (h2 := ?_) (h3 := ?_) (nd := ?_)
  all_goals (repeat' first|exact ce0|refine ce ?_|refine ce2 ?_ ?_|exact SVLe.refl|refine ceb ?_)
  all_goals first | exact (show nodupB _ = true from rfl) | exact Or.inr rfl | (rfl)
end Go.Proofs.YtbblkhjjgnpbaaaDoor
end
section
set_option linter.unusedVariables false
set_option linter.unusedSimpArgs false
set_option maxRecDepth 100000
set_option maxHeartbeats 4000000
namespace Go.Proofs.YtbblkhjjgnpbaaaDoor
open Go Foot
end Go.Proofs.YtbblkhjjgnpbaaaDoor
end
section
set_option linter.unusedVariables false
set_option linter.unusedSimpArgs false
set_option maxRecDepth 100000
set_option maxHeartbeats 4000000
namespace Go.Proofs.YtbblkhjjgnpbaaaDoor
open Go Foot
structure Rule' where
  w : Int
  m : Int
  n : Int
  deriving DecidableEq
structure Mach where
  sy : Int
  st : Int
  ru : List Rule'
structure Conf where
  st : Int
  le : List Int
  ri : List Int
end Go.Proofs.YtbblkhjjgnpbaaaDoor
end
section
set_option linter.unusedVariables false
set_option linter.unusedSimpArgs false
set_option maxRecDepth 100000
set_option maxHeartbeats 4000000
namespace Go.Proofs.YtbblkhjjgnpbaaaDoor
open Go Foot
section
variable {g : Gh} {st : St} {dst : Option Tmp} {ty : TypeId} {pos : String} {after : Array Edge} {guard : Option (Nat × Bool)} {x y : Operand} {U : TypeId} {r s : Rule'}
end
@[irreducible] def trimR (l : List Int) : List Int := (l.reverse.dropWhile (· == 0)).reverse
theorem trimR_len (l : List Int) : (trimR l).length ≤ l.length := by
  unfold trimR
  rw [List.length_reverse]
  have := (List.dropWhile_sublist (· == (0 : Int)) (l := l.reverse)).length_le
  rwa [List.length_reverse] at this
@[irreducible] def okRule (sy st : Int) (r : Rule') : Bool := decide (r = ⟨0,0,-1⟩ ∨ (0 ≤ r.w ∧ r.w ≤ sy - 1) ∧ (r.m = 1 ∨ r.m = -1) ∧ 0 ≤ r.n ∧ r.n ≤ st - 1)
end Go.Proofs.YtbblkhjjgnpbaaaDoor
end
section
set_option linter.unusedVariables false
set_option linter.unusedSimpArgs false
set_option maxRecDepth 100000
set_option maxHeartbeats 4000000
namespace Go.Proofs.YtbblkhjjgnpbaaaDoor
open Go Foot
@[irreducible] def vMach (m : Mach) : Bool := decide ((2 ≤ m.sy ∧ m.sy ≤ 6) ∧ (1 ≤ m.st ∧ m.st ≤ 1000) ∧ (m.ru.length : Int) = m.sy * m.st) && m.ru.all (okRule m.sy m.st)
theorem vMach_bd {m : Mach} (h : vMach m = true) : (2 ≤ m.sy ∧ m.sy ≤ 6) ∧ (1 ≤ m.st ∧ m.st ≤ 1000) ∧ (m.ru.length : Int) = m.sy * m.st := by
  unfold vMach at h
  simp only [Bool.and_eq_true,decide_eq_true_eq] at h
  exact h.1
@[irreducible] def vSide (sy : Int) (l : List Int) : Bool := l.all (fun x => decide (0 ≤ x ∧ x ≤ sy - 1)) && decide ((l.length : Int) ≤ 200 ∧ l.getLastD 1 ≠ 0)
@[irreducible] def vConf (m : Mach) (c : Conf) : Bool := decide (0 ≤ c.st ∧ c.st ≤ m.st - 1) && vSide m.sy c.le && vSide m.sy c.ri
end Go.Proofs.YtbblkhjjgnpbaaaDoor
end
section
set_option linter.unusedVariables false
set_option linter.unusedSimpArgs false
set_option maxRecDepth 100000
set_option maxHeartbeats 4000000
namespace Go.Proofs.YtbblkhjjgnpbaaaDoor
open Go Foot
@[irreducible] def askC (m : Mach) (c : Conf) (b : Int) : Int := if vMach m = true ∧ vConf m c = true then if 1 ≤ b ∧ b ≤ 20000 then 0 else 2 else 1
end Go.Proofs.YtbblkhjjgnpbaaaDoor
end
section
set_option linter.unusedVariables false
set_option linter.unusedSimpArgs false
set_option maxRecDepth 100000
set_option maxHeartbeats 4000000
namespace Go.Proofs.YtbblkhjjgnpbaaaDoor
open Go Foot
@[irreducible] def pushL (l : List Int) (x : Int) : List Int := if x = 0 ∧ l = [] then l else l ++ [x]
end Go.Proofs.YtbblkhjjgnpbaaaDoor
end
section
set_option linter.unusedVariables false
set_option linter.unusedSimpArgs false
set_option maxRecDepth 100000
set_option maxHeartbeats 4000000
namespace Go.Proofs.YtbblkhjjgnpbaaaDoor
open Go Foot
theorem pushL_len (l : List Int) (x : Int) : (pushL l x).length ≤ l.length + 1 := by unfold pushL; split <;> simp
end Go.Proofs.YtbblkhjjgnpbaaaDoor
end
section
set_option linter.unusedVariables false
set_option linter.unusedSimpArgs false
set_option maxRecDepth 100000
set_option maxHeartbeats 4000000
namespace Go.Proofs.YtbblkhjjgnpbaaaDoor
open Go Foot
theorem vSide_bd {sy : Int} {l : List Int} (h : vSide sy l = true) : (l.length : Int) ≤ 200 ∧ (∀ x ∈ l,0 ≤ x ∧ x ≤ sy - 1) ∧ l.getLastD 1 ≠ 0 := by
  unfold vSide at h
  simp only [Bool.and_eq_true,List.all_eq_true,decide_eq_true_eq] at h
  exact ⟨h.2.1,h.1,h.2.2⟩
theorem vConf_bd {m : Mach} {c : Conf} (h : vConf m c = true) : (0 ≤ c.st ∧ c.st ≤ m.st - 1) ∧ vSide m.sy c.le = true ∧ vSide m.sy c.ri = true := by
  unfold vConf at h
  simp only [Bool.and_eq_true,decide_eq_true_eq] at h
  exact ⟨h.1.1,h.1.2,h.2⟩
abbrev noR : Rule' := ⟨0,0,-1⟩
@[irreducible] def ruAt (m : Mach) (c : Conf) : Rule' := m.ru.getD (c.st * m.sy + c.ri.headD 0).toNat noR
theorem headD_bd {sy : Int} {l : List Int} (hs : 2 ≤ sy) (h : vSide sy l = true) : 0 ≤ l.headD 0 ∧ l.headD 0 ≤ sy - 1 := by
  have := (vSide_bd h).2.1
  cases l with
  | nil => simp; omega
  | cons a l => exact this a (by simp)
theorem at_bd {m : Mach} {c : Conf} (hm : vMach m = true) (hc : vConf m c = true) : 0 ≤ c.st * m.sy ∧ 0 ≤ c.ri.headD 0 ∧ c.ri.headD 0 ≤ 5 ∧ c.st * m.sy + c.ri.headD 0 < m.ru.length ∧ (m.ru.length : Int) ≤ 6000 ∧ c.st ≤ 999 ∧ 0 ≤ c.st ∧ (c.le.length : Int) ≤ 200 ∧ (c.ri.length : Int) ≤ 200 := by
  obtain ⟨⟨h1,h2⟩,⟨h3,h4⟩,h5⟩ := vMach_bd hm
  obtain ⟨⟨h6,h7⟩,h8,h9⟩ := vConf_bd hc
  obtain ⟨h10,h11⟩ := headD_bd h1 h9
  have a1 : c.st * m.sy ≤ (m.st - 1) * m.sy := Int.mul_le_mul_of_nonneg_right h7 (by omega)
  have a2 : (m.st - 1) * m.sy = m.sy * m.st - m.sy := by rw [Int.sub_mul,Int.mul_comm]; omega
  have a3 : m.sy * m.st ≤ 6 * m.st := Int.mul_le_mul_of_nonneg_right h2 (by omega)
  exact ⟨Int.mul_nonneg h6 (by omega),h10,by omega,by omega,by omega,by omega,h6,(vSide_bd h8).1,(vSide_bd h9).1⟩
theorem ruAt_get {m : Mach} {c : Conf} (hm : vMach m = true) (hc : vConf m c = true) : m.ru[(c.st * m.sy + c.ri.headD 0).toNat]? = some (ruAt m c) := by
  have h := at_bd hm hc
  rw [ruAt,List.getD_eq_getElem?_getD,List.getElem?_eq_getElem (by omega)]
  rfl
theorem ruAt_ok {m : Mach} {c : Conf} (hm : vMach m = true) (hc : vConf m c = true) (hn : ruAt m c ≠ noR) : (0 ≤ (ruAt m c).w ∧ (ruAt m c).w ≤ m.sy - 1) ∧ ((ruAt m c).m = 1 ∨ (ruAt m c).m = -1) ∧ 0 ≤ (ruAt m c).n ∧ (ruAt m c).n ≤ m.st - 1 := by
  have hg := ruAt_get hm hc
  have := hm
  unfold vMach at this
  rw [Bool.and_eq_true,List.all_eq_true] at this
  have := this.2 _ (List.mem_of_getElem? hg)
  unfold okRule at this
  rw [decide_eq_true_eq] at this
  exact this.resolve_left hn
end Go.Proofs.YtbblkhjjgnpbaaaDoor
end
section
set_option linter.unusedVariables false
set_option linter.unusedSimpArgs false
set_option maxRecDepth 100000
set_option maxHeartbeats 4000000
namespace Go.Proofs.YtbblkhjjgnpbaaaDoor
open Go Foot
structure Out (σ : Type) where
  x : σ
  n : Int
  c : Conf
  hd : Int
  halts : Bool
  full : Bool
section
variable {σ : Type} {m : Mach} {fc : Conf → Int → σ → σ} {fs : Conf → Int → Rule' → σ → σ} {b n hd : Int} {c : Conf} {x : σ} {O : Out σ}
end
theorem ask_ok {m : Mach} {c : Conf} {b : Int} (h : askC m c b = 0) : vMach m = true ∧ vConf m c = true ∧ 1 ≤ b ∧ b ≤ 20000 := by
  unfold askC at h
  split at h
  · rename_i h1
    split at h
    · rename_i h2; exact ⟨h1.1,h1.2,h2.1,h2.2⟩
    · cases h
  · cases h
end Go.Proofs.YtbblkhjjgnpbaaaDoor
end
section
set_option linter.unusedVariables false
set_option linter.unusedSimpArgs false
set_option maxRecDepth 100000
set_option maxHeartbeats 4000000
namespace Go.Proofs.YtbblkhjjgnpbaaaDoor
open Go Foot
end Go.Proofs.YtbblkhjjgnpbaaaDoor
end
section
set_option linter.unusedVariables false
set_option linter.unusedSimpArgs false
set_option maxRecDepth 100000
set_option maxHeartbeats 4000000
namespace Go.Proofs.YtbblkhjjgnpbaaaDoor
open Go Foot
end Go.Proofs.YtbblkhjjgnpbaaaDoor
end
section
set_option linter.unusedVariables false
set_option linter.unusedSimpArgs false
set_option maxRecDepth 100000
set_option maxHeartbeats 4000000
namespace Go.Proofs.YtbblkhjjgnpbaaaDoor
open Go Foot
theorem dec_le {n : Int} (h0 : -1000000000000000000 ≤ n) (h1 : n ≤ 1000000000000000000) : ((decT n).length : Int) ≤ 21 := by have := decT_le (n := n) (by omega) (by omega); omega
end Go.Proofs.YtbblkhjjgnpbaaaDoor
end
section
set_option linter.unusedVariables false
set_option linter.unusedSimpArgs false
set_option maxRecDepth 100000
namespace Go.Proofs.YtbblkhjjgnpbaaaDoor
open Go Foot
section
variable {P : Program} {g : Gh} {dst : Option Tmp} {ty : TypeId} {pos : String} {after : Array Edge} {guard : Option (Nat × Bool)} {st : St} {x y : Operand}
end
end Go.Proofs.YtbblkhjjgnpbaaaDoor
end
section
set_option linter.unusedVariables false
set_option linter.unusedSimpArgs false
set_option maxRecDepth 100000
set_option maxHeartbeats 4000000
namespace Go.Proofs.YtbblkhjjgnpbaaaDoor
open Go Foot
def jf (sep : Bs) : Nat → List Bs → Bs
  | _,[] => []
  | i,b :: r => (if i = 0 then [] else sep) ++ (b ++ jf sep (i + 1) r)
theorem jf_s (sep : Bs) : ∀ (l : List Bs) (i : Nat),jf sep (i + 1) l = Lib.joinTail sep l
  | [],i => by simp [jf,Lib.joinTail]
  | b :: r,i => by
    have := jf_s sep r (i + 1)
    simp only [Lib.joinTail,List.map_cons,List.flatten_cons,jf] at this ⊢
    rw [this,if_neg (by omega)]
    simp
theorem jf_0 (sep : Bs) (l : List Bs) : jf sep 0 l = joinT l sep := by
  unfold joinT
  cases l with
  | nil => rfl
  | cons b r => rw [Lib.join_cons,jf,jf_s]; simp
theorem jf_at {sep : Bs} {α : Type} {f : α → Bs} {l : List α} {i : Int} (h0 : 0 ≤ i) (h : i < l.length) (out : Bs) : out ++ jf sep i.toNat ((l.drop i.toNat).map f) = out ++ (if i = 0 then [] else sep) ++ f (l[i.toNat]'(by omega)) ++ jf sep (i + 1).toNat ((l.drop (i + 1).toNat).map f) := by
  rw [List.drop_eq_getElem_cons (show i.toNat < l.length by omega),show (i + 1).toNat = i.toNat + 1 by omega,List.map_cons,jf]
  by_cases hi : i = 0
  · rw [if_pos hi,if_pos (by omega)]; simp only [List.append_assoc,List.nil_append]
  · rw [if_neg hi,if_neg (by omega)]; simp only [List.append_assoc]
end Go.Proofs.YtbblkhjjgnpbaaaDoor
end
section
set_option linter.unusedVariables false
set_option linter.unusedSimpArgs false
set_option maxRecDepth 100000
set_option maxHeartbeats 4000000
namespace Go.Proofs.YtbblkhjjgnpbaaaDoor
open Go Foot
theorem map_take_s {α β : Type} (f : α → β) {l : List α} {i : Int} (h0 : 0 ≤ i) (h : i < l.length) : (l.take i.toNat).map f ++ [f (l[i.toNat]'(by omega))] = (l.take (i + 1).toNat).map f := by
  rw [show (i + 1).toNat = i.toNat + 1 by omega,List.take_succ_eq_append_getElem (by omega),List.map_append]
  rfl
end Go.Proofs.YtbblkhjjgnpbaaaDoor
end
section
set_option linter.unusedVariables false
set_option linter.unusedSimpArgs false
set_option maxRecDepth 100000
set_option maxHeartbeats 4000000
namespace Go.Proofs.YtbblkhjjgnpbaaaDoor
open Go Foot
theorem preB54 {p : Prop} (h : p := by first | with_reducible assumption | omega | (simp only [List.length_append,List.length_cons,List.length_nil,List.length_set,List.length_replicate,List.length_take,List.length_drop,List.length_tail,List.length_dropLast,List.length_reverse] at *; omega) | exact mem_len (by assumption) (by omega) | (with_reducible refine Int.le_trans (Int.ofNat_le.2 (trimR_len _)) ?_; simp only [List.length_cons,List.length_tail]; omega) | (exact (ruAt_ok (by assumption) (by assumption) (by assumption)).2.1) | (exact (ruAt_ok (by assumption) (by assumption) (by assumption)).2.1) | (have := vMach_bd (by assumption); omega) | (simp only [mC_ch,mC_tu]; omega) | (have := vTag_bd (by assumption); omega) | (have := (‹Gd _ _›).le; omega) | (exact tgHalts_no (by assumption)) | (exact tgHead (by assumption) (by assumption) (by assumption)) | (exact Int.le_trans (tgStep_gd (by assumption) (by assumption) (by assumption) (by assumption)).le (by decide)) | (exact vTag_r (by assumption)) | (with_reducible refine Int.le_trans (Int.ofNat_le.2 (pushL_len _ _)) ?_; simp only [List.length_dropLast]; omega) | exact (ask_ok (by assumption)).1 | exact (ask_ok (by assumption)).2.1 | exact (ask_ok (by assumption)).2.2.1 | exact (ask_ok (by assumption)).2.2.2 | trivial) : p := h
theorem decimals_ok (l : List Int) (s : Bs) (hl : (l.length : Int) ≤ 1048576) (hb : ∀ x ∈ l,-1000000000000 ≤ x ∧ x ≤ 1000000000000) (hj : ((joinT (l.map decT) s).length : Int) ≤ 140737488355328) : Does Tryd.prog 57 [.one (shI l),.one (str s)] [] (.one (str (joinT (l.map decT) s))) [] := by
  have hg : ∀ (i : Nat) (h : i < l.length),-1000000000000 ≤ l[i] ∧ l[i] ≤ 1000000000000 := fun i h => hb _ (List.getElem_mem h)
  refine does_of (k := 0) Tryd.func57 rfl Tryd.ntmps57 rfl rfl fun w F0 S0 ρ0 => ?_
  dsimp only [argT,argH]
  repeat' first|(apply n3;(exact a_litE eS [] rfl rfl rfl rfl rfl rfl rfl rfl);exact rfl;refine dA ?_)|(apply p3;(first|exact pu1|exact puN);exact rfl)|refine cd ?_
  refine g_loop_id ?_
  refine loopK [1,4,5,9,10] [0] (fun y : Int × List Bs => 0 ≤ y.1 ∧ y.1 ≤ l.length ∧ y.2 = (l.take y.1.toNat).map decT) (fun y => [(11,.one (int y.1))]) (fun y => [(0,.row 1 (rows eS y.2))]) (fun y => (l.length - y.1).toNat) ((0 : Int),[]) [0] (hI := ?_) (hr := ?_)
  · exact ⟨by simp,by simp,by simp⟩
  · rintro ⟨i,ts⟩ ⟨j0,j1,j2⟩
    dsimp only [List.cons_append,List.nil_append] at *
    skip
    have jl : (ts.length : Int) ≤ 1048576 := by rw [j2,List.length_map,List.length_take]; omega
    repeat' first|(apply p3;(first|exact pu1|exact puC|exact puI);exact rfl)|refine cdn ?_|refine g_reg (id := 3) ?_|refine g_reg (id := 4) ?_|((refine g_cond rfl (fun hc => ?_) (fun hc => ?_)) <;> (try simp only [dcB] at hc) <;> (try first|contradiction|(exfalso;omega)))
    · have := hg i.toNat (by omega)
      repeat' first|(apply n3;(exact a_litE eS [_] rfl rfl rfl rfl rfl rfl rfl rfl);exact rfl;refine dA ?_)|(apply p3;(first|exact pu1|exact a_add rfl rfl (by omega) (by omega));exact rfl)|refine cd ?_|(apply s3;exact a_appE (fP rfl) rfl rfl rfl rfl nowR (by (simp;omega)) (by decide) (by decide) (by exact rfl);exact rfl;exact rfl)|(apply c4 0;exact callK1 (θ := []) (hD := (Decimal_ok _ preB54 preB54));exact rfl;exact rfl;exact rfl;refine dM ?_)
      refine q_again (i + 1,_) [2] (by exact stk) ?_ ?_
      · dsimp only
        exact ⟨by omega,by omega,by rw [j2,map_take_s decT j0 hc]⟩
      · dsimp only; omega
    · have e : ts = l.map decT := by rw [j2,List.take_of_length_le (by omega)]
      rw [← e] at hj ⊢
      repeat' first|(apply p3;(exact pu1);exact rfl)|refine cd ?_|(apply c4 0;exact callK1 (θ := []) (hD := (Join_ok _ _ preB54 preB54));exact rfl;exact rfl;exact rfl;refine dM ?_)
      repeat refine cr ?_
      refine ends_id ?_
      refine endK [] (h2 := ?_) (h3 := ?_) (nd := ?_)
      all_goals (repeat' first|exact ce0|refine ce ?_|refine ce2 ?_ ?_|exact SVLe.refl|refine ceb ?_)
      all_goals first | exact (show nodupB _ = true from rfl) | exact Or.inr rfl | (rfl)
end Go.Proofs.YtbblkhjjgnpbaaaDoor
end
section
set_option linter.unusedVariables false
set_option linter.unusedSimpArgs false
set_option maxRecDepth 100000
set_option maxHeartbeats 4000000
namespace Go.Proofs.YtbblkhjjgnpbaaaDoor
open Go Foot
@[irreducible] def dotT (l : List Int) : Bs := if (l.length : Int) = 0 then [45] else joinT (l.map decT) [46]
theorem join_cons2 (a b : Bs) (l : List Bs) (sep : Bs) : joinT (a :: b :: l) sep = a ++ (sep ++ joinT (b :: l) sep) := by
  unfold joinT
  simp [Lib.join]
theorem join_one (a sep : Bs) : joinT [a] sep = a := by
  unfold joinT
  simp [Lib.join]
theorem join_len {sep : UInt8} {k : Nat} : ∀ {l : List Bs},(∀ p ∈ l,p.length ≤ k) → (joinT l [sep]).length ≤ (k + 1) * l.length
  | [],_ => by unfold joinT; simp [Lib.join]
  | [a],h => by
    have := h a (by simp)
    rw [join_one]; simp only [List.length_cons,List.length_nil]; omega
  | a :: b :: l,h => by
    have h1 := h a (by simp)
    have h2 := join_len (sep := sep) (l := b :: l) fun p hp => h p (by simp at hp ⊢; exact .inr hp)
    rw [join_cons2]
    simp only [List.length_append,List.length_cons,List.length_nil,Nat.mul_add,Nat.mul_one] at h2 ⊢
    omega
end Go.Proofs.YtbblkhjjgnpbaaaDoor
end
section
set_option linter.unusedVariables false
set_option linter.unusedSimpArgs false
set_option maxRecDepth 100000
set_option maxHeartbeats 4000000
namespace Go.Proofs.YtbblkhjjgnpbaaaDoor
open Go Foot Go.RowKit
structure LtOk (l : List Int) : Prop where
  n : (l.length : Int) ≤ 1000
  b : ∀ x ∈ l,0 ≤ x ∧ x ≤ 1000000000000
  j : ((joinT (l.map decT) [46]).length : Int) ≤ 1000000
theorem lt_ok {l : List Int} (hn : (l.length : Int) ≤ 1000) (hb : ∀ x ∈ l,0 ≤ x ∧ x ≤ 1000000000000) : LtOk l := by
  refine ⟨hn,hb,?_⟩
  have := join_len (sep := 46) (k := 21) (l := l.map decT) fun p hp => by
    obtain ⟨x,hx,rfl⟩ := List.mem_map.1 hp
    have := hb x hx
    have := dec_le (n := x) (by omega) (by omega)
    omega
  rw [List.length_map] at this
  omega
theorem gd_lt {t : Tg} {q : List Int} (hv : vTag t = true) (h : Gd t q) : LtOk q := by
  have := vTag_bd hv
  exact lt_ok h.le fun x hx => by have := h.wd x hx; omega
theorem preB149 {p : Prop} (h : p := by first | with_reducible assumption | omega | (simp only [List.length_append,List.length_cons,List.length_nil,List.length_set,List.length_replicate,List.length_take,List.length_drop,List.length_tail,List.length_dropLast,List.length_reverse] at *; omega) | exact mem_len (by assumption) (by omega) | (with_reducible refine Int.le_trans (Int.ofNat_le.2 (trimR_len _)) ?_; simp only [List.length_cons,List.length_tail]; omega) | (exact (ruAt_ok (by assumption) (by assumption) (by assumption)).2.1) | (exact (ruAt_ok (by assumption) (by assumption) (by assumption)).2.1) | (have := vMach_bd (by assumption); omega) | (simp only [mC_ch,mC_tu]; omega) | (have := vTag_bd (by assumption); omega) | (have := (‹Gd _ _›).le; omega) | (exact tgHalts_no (by assumption)) | (exact tgHead (by assumption) (by assumption) (by assumption)) | (exact Int.le_trans (tgStep_gd (by assumption) (by assumption) (by assumption) (by assumption)).le (by decide)) | (exact vTag_r (by assumption)) | (with_reducible refine Int.le_trans (Int.ofNat_le.2 (pushL_len _ _)) ?_; simp only [List.length_dropLast]; omega) | exact ls_at (by assumption) (by omega) | exact pt_gd (by assumption) | exact lv_at (by assumption) (by omega) | exact pt_gd (lv_at (by assumption) (by omega)) | exact (ask_ok (by assumption)).1 | exact (ask_ok (by assumption)).2.1 | exact (ask_ok (by assumption)).2.2.1 | exact (ask_ok (by assumption)).2.2.2 | trivial) : p := h
theorem dottedG_ok (l : List Int) (g : LtOk l) : Does Tryd.prog 42 [.one (shI l)] [] (.one (str (dotT l))) [] := by
  have hn := g.n
  have hj := g.j
  have hb : ∀ x ∈ l,-1000000000000 ≤ x ∧ x ≤ 1000000000000 := fun x hx => by have := g.b x hx; omega
  by_cases h : (l.length : Int) = 0
  · have e : dotT l = [45] := by unfold dotT; rw [if_pos h]
    rw [e]
    refine does_of (k := 0) Tryd.func42 rfl Tryd.ntmps42 rfl rfl fun w F0 S0 ρ0 => ?_
    dsimp only [argT,argH]
    repeat' first|(apply p3;(first|exact pu1|exact puN|exact puC);exact rfl)|refine cd ?_|((refine g_cond rfl (fun hc => ?_) (fun hc => ?_)) <;> (try simp only [dcB] at hc) <;> (try first|contradiction|(exfalso;omega)))
    repeat refine cr ?_
    refine ends_id ?_
    refine endK [] (h2 := ?_) (h3 := ?_) (nd := ?_)
    all_goals (repeat' first|exact ce0|refine ce ?_|refine ce2 ?_ ?_|exact SVLe.refl|refine ceb ?_)
    all_goals first | exact (show nodupB _ = true from rfl) | exact Or.inr rfl | (rfl)
  · have e : dotT l = joinT (l.map decT) [46] := by unfold dotT; rw [if_neg h]
    rw [e]
    refine does_of (k := 0) Tryd.func42 rfl Tryd.ntmps42 rfl rfl fun w F0 S0 ρ0 => ?_
    dsimp only [argT,argH]
    repeat' first|(apply p3;(first|exact pu1|exact puN|exact puC);exact rfl)|refine cd ?_|(apply c4 0;exact callK1 (θ := []) (hD := (decimals_ok _ _ preB149 preB149 preB149));exact rfl;exact rfl;exact rfl;refine dM ?_)|((refine g_cond rfl (fun hc => ?_) (fun hc => ?_)) <;> (try simp only [dcB] at hc) <;> (try first|contradiction|(exfalso;omega)))
    repeat refine cr ?_
    refine ends_id ?_
    refine endK [] (h2 := ?_) (h3 := ?_) (nd := ?_)
    all_goals (repeat' first|exact ce0|refine ce ?_|refine ce2 ?_ ?_|exact SVLe.refl|refine ceb ?_)
    all_goals first | exact (show nodupB _ = true from rfl) | exact Or.inr rfl | (rfl)
theorem l09Letters_ok (l : List Int) (g : LtOk l) : Does Tryd.prog 36 [.one (shI l)] [] (.one (str (dotT l))) [] := by
  have hn := g.n
  by_cases h : (l.length : Int) = 0
  · have e : dotT l = [45] := by unfold dotT; rw [if_pos h]
    rw [e]
    refine does_of (k := 0) Tryd.func36 rfl Tryd.ntmps36 rfl rfl fun w F0 S0 ρ0 => ?_
    dsimp only [argT,argH]
    repeat' first|(apply p3;(first|exact pu1|exact puN|exact puC);exact rfl)|refine cd ?_|((refine g_cond rfl (fun hc => ?_) (fun hc => ?_)) <;> (try simp only [dcB] at hc) <;> (try first|contradiction|(exfalso;omega)))
    repeat refine cr ?_
    refine ends_id ?_
    refine endK [] (h2 := ?_) (h3 := ?_) (nd := ?_)
    all_goals (repeat' first|exact ce0|refine ce ?_|refine ce2 ?_ ?_|exact SVLe.refl|refine ceb ?_)
    all_goals first | exact (show nodupB _ = true from rfl) | exact Or.inr rfl | (rfl)
  · have e : dotT l = joinT (l.map decT) [46] := by unfold dotT; rw [if_neg h]
    rw [e]
    refine does_of (k := 0) Tryd.func36 rfl Tryd.ntmps36 rfl rfl fun w F0 S0 ρ0 => ?_
    dsimp only [argT,argH]
    repeat' first|(apply p3;(first|exact pu1|exact puN|exact puC);exact rfl)|refine cd ?_|((refine g_cond rfl (fun hc => ?_) (fun hc => ?_)) <;> (try simp only [dcB] at hc) <;> (try first|contradiction|(exfalso;omega)))
    have hg : ∀ (i : Nat) (h : i < l.length),0 ≤ l[i] ∧ l[i] ≤ 1000000000000 := fun i h => g.b _ (List.getElem_mem h)
    refine g_loop_id ?_
    refine loopK [0,2] [] (fun y : Int × Bs => 0 ≤ y.1 ∧ y.1 ≤ l.length ∧ (y.2.length : Int) ≤ 22 * y.1 ∧ y.2 ++ jf [46] y.1.toNat ((l.drop y.1.toNat).map decT) = joinT (l.map decT) [46]) (fun y => [(4,.one (int y.1)),(3,.one (str y.2))]) (fun _ => []) (fun y => (l.length - y.1).toNat) ((0 : Int),[]) [] (hI := ?_) (hr := ?_)
    · exact ⟨by simp,by simp,by simp,by simp [jf_0]⟩
    · rintro ⟨i,out⟩ ⟨j0,j1,j2,j3⟩
      dsimp only [List.cons_append,List.nil_append] at *
      skip
      repeat' first|(apply p3;(first|exact pu1|exact puN|exact puC);exact rfl)|refine cdn ?_|refine g_reg (id := 5) ?_|refine g_reg (id := 10) ?_|((refine g_cond rfl (fun hc => ?_) (fun hc => ?_)) <;> (try simp only [dcB] at hc) <;> (try first|contradiction|(exfalso;omega)))
      · have hh := hg i.toNat (by omega)
        have d1 := dec_le (n := l[i.toNat]'(by omega)) (by omega) (by omega)
        rw [jf_at j0 hc] at j3
        by_cases hi : i = 0
        · rw [if_pos hi,List.append_nil] at j3
          repeat' first|(apply p3;(first|exact pu1|exact puC|exact a_addS rfl rfl (by first|omega|(simp only [List.length_append,List.length_cons,List.length_nil];omega))|exact a_add rfl rfl (by omega) (by omega)|exact puI);exact rfl)|refine cd ?_|(apply c4 0;exact callK1 (θ := []) (hD := (l01Dec_ok _ preB149 preB149));exact rfl;exact rfl;exact rfl;refine dM ?_)|((refine g_cond rfl (fun hc => ?_) (fun hc => ?_)) <;> (try simp only [dcB] at hc) <;> (try first|contradiction|(exfalso;omega)))
          refine q_again (i + 1,_) [] (by exact stk) ?_ ?_
          · dsimp only
            refine ⟨by omega,by omega,?_,j3⟩
            simp only [List.length_append]; omega
          · dsimp only; omega
        · rw [if_neg hi] at j3
          have e1 : ((out ++ [46]).length : Int) = out.length + 1 := by simp
          repeat' first|(apply p3;(first|exact pu1|exact puC|exact a_addS rfl rfl (by first|omega|(simp only [List.length_append,List.length_cons,List.length_nil];omega))|exact a_add rfl rfl (by omega) (by omega)|exact puI);exact rfl)|refine cd ?_|(apply c4 0;exact callK1 (θ := []) (hD := (l01Dec_ok _ preB149 preB149));exact rfl;exact rfl;exact rfl;refine dM ?_)|((refine g_cond rfl (fun hc => ?_) (fun hc => ?_)) <;> (try simp only [dcB] at hc) <;> (try first|contradiction|(exfalso;omega)))
          refine q_again (i + 1,_) [] (by exact stk) ?_ ?_
          · dsimp only
            refine ⟨by omega,by omega,?_,j3⟩
            simp only [List.length_append,List.length_cons,List.length_nil]; omega
          · dsimp only; omega
      · have e : out = joinT (l.map decT) [46] := by rw [← j3,List.drop_eq_nil_of_le (by omega),List.map_nil,jf,List.append_nil]
        rw [← e]
        skip
        repeat refine cr ?_
        refine ends_id ?_
        refine endK [] (h2 := ?_) (h3 := ?_) (nd := ?_)
        all_goals (repeat' first|exact ce0|refine ce ?_|refine ce2 ?_ ?_|exact SVLe.refl|refine ceb ?_)
        all_goals first | exact (show nodupB _ = true from rfl) | exact Or.inr rfl | (rfl)
@[irreducible] def wtO (t : Tg) (q : List Int) (n : Int) : List Bs × Int := bif vTag t && tgWord t.wo.length q then (if 0 ≤ n ∧ n ≤ 599 then (bif (trA t n.toNat [] q).2 then ((trA t n.toNat [] q).1.map dotT,0) else ([],5)) else ([],2)) else ([],1)
theorem trA_gd {t : Tg} (hv : vTag t = true) {k : Nat} {w : List Int} (hw : Gd t w) : (∀ y ∈ (trA t k [] w).1,Gd t y) ∧ ((trA t k [] w).1).length ≤ k + 1 := by
  have := trR_gd hv k [] w (fun y hy => by cases hy) hw
  rw [trA_R]
  by_cases z : (trR t k [] w).1.2.2 = 0
  · rw [if_pos z]
    exact ⟨this.1,by have := this.2; simpa using this⟩
  · rw [if_neg z]
    exact ⟨fun y hy => (by cases hy),Nat.zero_le _⟩
theorem wtO_len (t : Tg) (q : List Int) (n : Int) : ((wtO t q n).1.length : Int) ≤ 600 := by
  unfold wtO
  cases h : vTag t && tgWord t.wo.length q with
  | false => simp
  | true =>
    obtain ⟨h1,h2⟩ := Bool.and_eq_true_iff.1 h
    rw [cond_true]
    split
    · cases e : (trA t n.toNat [] q).2 with
      | false => simp
      | true =>
        have := (trA_gd h1 (k := n.toNat) (tgWord_gd h2)).2
        simp only [cond_true,List.length_map]
        omega
    · simp
theorem l19Words_ok (t : Tg) (q : List Int) (n : Int) (hv : vTag t = true) (hg : Gd t q) (hx : (t.ha.length : Int) ≤ 1048576) (h1 : 0 ≤ n) (h2 : n ≤ 599) : Does Tryd.prog 35 [.one (tgB t),.one (shI q),.one (int n)] [] (.tup [(false,[.gv 0]),(false,[boo (trA t n.toNat [] q).2])]) [roW (trA t n.toNat [] q).1] := by
  have hb := vTag_bd hv
  refine does_of (k := 0) Tryd.func35 rfl Tryd.ntmps35 rfl rfl fun w F0 S0 ρ0 => ?_
  dsimp only [argT,argH]
  repeat' first|(apply n3;exact a_nilO eW rfl;exact rfl)|(apply n3;(exact a_litE eW [_] rfl rfl rfl rfl rfl rfl rfl rfl);exact rfl;refine dA ?_)|(apply p3;(exact pu1);exact rfl)|refine cd ?_|(apply c4 0;exact callF (hD := (l00Own_ok _ preB149));exact rfl;exact rfl;exact rfl;refine dM ?_)
  refine g_loop_id ?_
  refine loopK [0,6,7] [1] (fun x : Int × List Int × List (List Int) => 0 ≤ x.1 ∧ Gd t x.2.1 ∧ x.1 + x.2.2.length = n ∧ trA t x.1.toNat x.2.2 x.2.1 = trA t n.toNat [] q) (fun x => [(2,.one (int x.1)),(8,.one (.gv 1)),(9,.one (shI x.2.1))]) (fun x => [(1,roW (x.2.2 ++ [x.2.1]))]) (fun x => x.1.toNat) (n,q,([] : List (List Int))) [0,1] (hI := ?_) (hr := ?_)
  · exact ⟨h1,hg,by simp,rfl⟩
  · rintro ⟨m,w,l⟩ ⟨k0,k1,k2,k3⟩
    dsimp only [List.cons_append,List.nil_append] at *
    skip
    have kl := k1.le
    repeat' first|(apply n3;exact a_nilO eW rfl;exact rfl)|(apply n3;(exact a_litE eW [_] rfl rfl rfl rfl rfl rfl rfl rfl);exact rfl;refine dA ?_)|(apply p3;(first|exact pu1|exact puC|exact a_sub rfl rfl (by omega) (by omega));exact rfl)|refine cd ?_|(apply s3;exact a_appE (fP rfl) rfl rfl rfl rfl nowR (by (simp;omega)) (by decide) (by decide) (by exact rfl);exact rfl;exact rfl)|(apply c4 0;exact callF (hD := (l09Step_ok _ _ preB149 preB149 preB149 preB149));exact rfl;exact rfl;exact rfl;refine dM ?_)|refine o_no rfl rfl rfl rfl ?_|(apply py3;exact rfl;exact rfl;(exact pu1);exact rfl;exact rfl)|(apply cy4 0;exact rfl;exact rfl;exact callK1 (θ := []) (hD := (l09Halts_ok _ _ preB149 preB149 preB149));exact rfl;exact rfl;exact rfl;exact rfl;refine dM ?_)|((first|refine o_gs rfl rfl (fun hc => ?_) (fun hc => ?_)|refine g_cond rfl (fun hc => ?_) (fun hc => ?_)) <;> (try simp only [dcB] at hc) <;> (try first|contradiction|(exfalso;omega)))
    · have e : trA t n.toNat [] q = ([],false) := by rw [← k3,show m.toNat = (m - 1).toNat + 1 by omega,trA_o (by assumption) (by simpa using hc)]
      rw [e]
      repeat refine cr ?_
      refine ends_id ?_
      refine endK [?_] (h2 := ?_) (h3 := ?_) (nd := ?_)
      rotate_left 1
      all_goals (repeat' first|exact ce0|refine ce ?_|refine ce2 ?_ ?_|(refine Or.inr (bx_eq rfl rfl ?_);(try dsimp only [C.ren,C.ren.all]);(try exact rfl))|exact SVLe.refl|refine ceb ?_)
      all_goals first | exact (show nodupB _ = true from rfl) | exact Or.inr rfl | (rfl)
    · have ho : tgOver t w = false := by simpa using hc
      refine q_again (m - 1,tgStep t w,l ++ [w]) [0,3] (by exact stk) ?_ ?_
      · dsimp only
        refine ⟨by omega,tgStep_gd hv k1 (by assumption) ho,by simp; omega,?_⟩
        rw [← k3,show m.toNat = (m - 1).toNat + 1 by omega,trA_s (by assumption) ho]
      · dsimp only; omega
    · have e : trA t n.toNat [] q = (l ++ [w],true) := by rw [← k3,trA_h hc]
      rw [e]
      repeat refine cr ?_
      refine ends_id ?_
      refine endK [?_] (h2 := ?_) (h3 := ?_) (nd := ?_)
      rotate_left 1
      all_goals (repeat' first|exact ce0|refine ce ?_|refine ce2 ?_ ?_|(refine Or.inr (bx_eq rfl rfl ?_);(try dsimp only [C.ren,C.ren.all]);(try exact rfl))|exact SVLe.refl|refine ceb ?_)
      all_goals first | exact (show nodupB _ = true from rfl) | exact Or.inr rfl | (rfl)
    · have e : trA t n.toNat [] q = (l ++ [w],true) := by rw [← k3,show m.toNat = 0 by omega,trA_0]
      rw [e]
      repeat refine cr ?_
      refine ends_id ?_
      refine endK [?_] (h2 := ?_) (h3 := ?_) (nd := ?_)
      rotate_left 1
      all_goals (repeat' first|exact ce0|refine ce ?_|refine ce2 ?_ ?_|(refine Or.inr (bx_eq rfl rfl ?_);(try dsimp only [C.ren,C.ren.all]);(try exact rfl))|exact SVLe.refl|refine ceb ?_)
      all_goals first | exact (show nodupB _ = true from rfl) | exact Or.inr rfl | (rfl)
end Go.Proofs.YtbblkhjjgnpbaaaDoor
end
section
set_option linter.unusedVariables false
set_option linter.unusedSimpArgs false
set_option maxRecDepth 100000
set_option maxHeartbeats 4000000
namespace Go.Proofs.YtbblkhjjgnpbaaaDoor
open Go Foot Go.RowKit
abbrev fnD : C := .d (.fn (.func 42) [])
theorem preB150 {p : Prop} (h : p := by first | with_reducible assumption | omega | (simp only [List.length_append,List.length_cons,List.length_nil,List.length_set,List.length_replicate,List.length_take,List.length_drop,List.length_tail,List.length_dropLast,List.length_reverse] at *; omega) | exact mem_len (by assumption) (by omega) | (with_reducible refine Int.le_trans (Int.ofNat_le.2 (trimR_len _)) ?_; simp only [List.length_cons,List.length_tail]; omega) | (exact (ruAt_ok (by assumption) (by assumption) (by assumption)).2.1) | (exact (ruAt_ok (by assumption) (by assumption) (by assumption)).2.1) | (have := vMach_bd (by assumption); omega) | (simp only [mC_ch,mC_tu]; omega) | (have := vTag_bd (by assumption); omega) | (have := (‹Gd _ _›).le; omega) | (exact tgHalts_no (by assumption)) | (exact tgHead (by assumption) (by assumption) (by assumption)) | (exact Int.le_trans (tgStep_gd (by assumption) (by assumption) (by assumption) (by assumption)).le (by decide)) | (exact vTag_r (by assumption)) | (with_reducible refine Int.le_trans (Int.ofNat_le.2 (pushL_len _ _)) ?_; simp only [List.length_dropLast]; omega) | exact ls_at (by assumption) (by omega) | exact pt_gd (by assumption) | exact lv_at (by assumption) (by omega) | exact pt_gd (lv_at (by assumption) (by omega)) | exact (ask_ok (by assumption)).1 | exact (ask_ok (by assumption)).2.1 | exact (ask_ok (by assumption)).2.2.1 | exact (ask_ok (by assumption)).2.2.2 | trivial) : p := h
theorem st1_ok (u : List Int) (l : List (List Int)) (g : LtOk u) (hl : (l.length : Int) ≤ 100000) : Does Tryd.prog 85 [.one (shI u),.one (.gv 0),.one (.gv 1)] [.bx [.gv 2],.bx [fnD],.row 1 (rows eS (l.map dotT))] (.one (boo true)) [.bx [.gv 3],.bx [fnD],.dead,.row 1 (rows eS ((l ++ [u]).map dotT))] := by
  have e : (l ++ [u]).map dotT = l.map dotT ++ [dotT u] := by simp
  have hl2 : ((l.map dotT).length : Int) ≤ 100000 := by rw [List.length_map]; exact hl
  rw [e]
  refine does_of (k := 3) Tryd.func85 rfl Tryd.ntmps85 rfl rfl fun w F0 S0 ρ0 => ?_
  dsimp only [argT,argH]
  repeat' first|(apply p3;exact a_pure (sv := .one _) rfl;exact rfl)|refine cd ?_|(apply g_drN (id := 1) okM [[],[],[],[1,2],[1,2,3],[0,1,2,3,4],[0,1,2,3,4,5]] [([],[]),([],[]),([],[]),([],[]),([0],[]),([1],[_]),([],[0])] 2;(focus (refine dp 0 0 [6,7,8,9] [(true,0)] puL ?_;refine dp 1 0 [5,7] [] puL ?_;refine dp 2 0 [5,6] [] pu1 ?_;refine dp 3 3 [5] [] (callD0 (n := _) 0 (θ := []) (hD := (dottedG_ok u g))) ?_;refine duE 4 7 [5] [] (atN 0 (fun _ => a_litE eS [_] rfl rfl rfl rfl rfl rfl rfl rfl)) (by exact rfl) (by exact rfl) ?_;refine duE 5 31 [] [] (atS 1 (fun _ hj => a_appE (fP rfl) rfl rfl rfl rfl nowR (by (simp;omega)) (by decide) hj (by exact rfl)) (by decide)) (by exact rfl) (by exact rfl) ?_;refine duE 6 63 [] [] (a_st_bx rfl rfl rfl rfl (fN rfl rfl) (Nat.le_of_ble_eq_true rfl) rfl) (by exact rfl) (by exact rfl) ?_;(refine d_nil ?_;refine dN ?_)));any_goals kernel_rfl)
  repeat refine cr ?_
  refine ends_id ?_
  refine endK [?_] (h2 := ?_) (h3 := ?_) (nd := ?_)
  rotate_left 1
  all_goals (repeat' first|exact ce0|refine ce ?_|refine ce2 ?_ ?_|(refine Or.inr (bx_eq rfl rfl ?_);(try dsimp only [C.ren,C.ren.all]);(try exact rfl))|exact SVLe.refl|refine ceb ?_)
  all_goals first | exact (show nodupB _ = true from rfl) | exact Or.inr rfl | (rfl)
theorem runSysS_ok (t : Tg) (q : List Int) (B : Int) (hv : vTag t = true) (hg : Gd t q) (hx : (t.ha.length : Int) ≤ 1048576) (h1 : 0 ≤ B) (h2 : B ≤ 599) : Does Tryd.prog 84 [.one (.ifc 67 false [.gv 0]),.one (int B),.one (.fn (.func 85) [.gv 2,.gv 3])] [.bx (tgR t 1),.row 1 (rows eI q),.bx [.gv 4],.bx [fnD],.row 1 (rows eS [])] (.tup [(false,[int (trR t B.toNat [] q).1.1]),(false,[boo (trR t B.toNat [] q).1.2.1]),(false,[int (trR t B.toNat [] q).1.2.2])]) [.dead,.dead,.bx [.gv 5],.dead,.dead,.row 1 (rows eS ((trR t B.toNat [] q).2.map dotT))] := by
  have hb := vTag_bd hv
  refine does_of (k := 5) Tryd.func84 rfl Tryd.ntmps84 rfl rfl fun w F0 S0 ρ0 => ?_
  dsimp only [argT,argH]
  refine g_conv (t_mvB (i := 1) (j := 0) (k := 3) rfl rfl rfl rfl rfl rfl) ?_
  try dsimp only [setRow,List.map_cons,List.map_nil,scC,List.set_cons_zero,List.set_cons_succ]
  refine g_conv (t_mvB (i := 4) (j := 2) (k := 0) rfl rfl rfl rfl rfl rfl) ?_
  try dsimp only [setRow,List.map_cons,List.map_nil,scC,List.set_cons_zero,List.set_cons_succ]
  repeat' first|(apply p3;(exact pu1);exact rfl)|refine cd ?_
  refine g_loop_id ?_
  refine loopK [0,1,2,6,7,8] [0,2,5,6] (fun x : Int × List Int × List (List Int) => Gd t x.2.1 ∧ (x.2.2.length : Int) ≤ B ∧ x.1 = x.2.2.length ∧ trR t (B - x.2.2.length).toNat x.2.2 x.2.1 = trR t B.toNat [] q) (fun x => [(9,.one (int x.1))]) (fun x => [(0,.bx (tgR t 5)),(5,.row 1 (rows eI x.2.1)),(2,.bx [.gv 6]),(6,.row 1 (rows eS (x.2.2.map dotT)))]) (fun x => (B - x.1).toNat) ((0 : Int),q,[]) [0,1,2,3,4,5,6] (hI := ?_) (hr := ?_)
  · exact ⟨hg,by simp; omega,by simp,by simp⟩
  · rintro ⟨n,w,l⟩ ⟨k1,k3,k5,k4⟩
    dsimp only [List.cons_append,List.nil_append] at *
    try dsimp only [tgR]
    skip
    have kl := k1.le; have kd := gd_lt hv k1
    repeat' first|(apply p3;(first|exact pu1|exact a_add rfl rfl (by omega) (by omega));exact rfl)|refine cd ?_|(apply c4 0;exact callM0 (dst := some 14) (θ := [0,5]) (hD := (tagWord_ok t _));exact rfl;exact rfl;exact rfl;refine dM ?_)|(apply c4 1;exact callK1 (θ := [2,3,6]) (hD := (st1_ok _ _ preB150 preB150));exact rfl;exact rfl;exact rfl;refine dM ?_)|(apply c4 0;exact callM0 (dst := some 28) (θ := [0,5]) (hD := (tagHalts_ok t _ hv preB150 preB150));exact rfl;exact rfl;exact rfl;refine dM ?_)|(apply c4 1;exact callM0 (dst := some 30) (θ := [0,5]) (hD := (tagStep_ok t _ hv preB150 preB150 preB150 preB150));exact rfl;exact rfl;exact rfl;refine dM ?_)|refine o_no rfl rfl rfl rfl ?_|(apply py3;exact rfl;exact rfl;(first|exact pu1|exact puC);exact rfl;exact rfl)|(apply cy4 0;exact rfl;exact rfl;exact callM0 (dst := some 24) (θ := [0,5]) (hD := (tagHalts_ok t _ hv preB150 preB150));exact rfl;exact rfl;exact rfl;exact rfl;refine dM ?_)|((first|refine o_gs rfl rfl (fun hc => ?_) (fun hc => ?_)|refine g_cond rfl (fun hc => ?_) (fun hc => ?_)) <;> (try simp only [dcB] at hc) <;> (try first|contradiction|(exfalso;omega)))
    · have e : trR t B.toNat [] q = (((l.length : Int),tgHalts t w,0),l ++ [w]) := by rw [← k4,show (B - l.length).toNat = 0 by omega,trR_0]
      rw [e]
      repeat refine cr ?_
      refine ends_id ?_
      refine endK [?_] (h2 := ?_) (h3 := ?_) (nd := ?_)
      rotate_left 1
      all_goals (repeat' first|exact ce0|refine ce ?_|refine ce2 ?_ ?_|(refine Or.inr (bx_eq rfl rfl ?_);(try dsimp only [C.ren,C.ren.all]);(try exact rfl))|exact SVLe.refl|refine ceb ?_)
      all_goals first | exact (show nodupB _ = true from rfl) | exact Or.inr rfl | ((first | rfl | omega))
    · have e : trR t B.toNat [] q = (((l.length : Int),tgHalts t w,0),l ++ [w]) := by rw [← k4,trR_h hc,hc]
      rw [e]
      repeat refine cr ?_
      refine ends_id ?_
      refine endK [?_] (h2 := ?_) (h3 := ?_) (nd := ?_)
      rotate_left 1
      all_goals (repeat' first|exact ce0|refine ce ?_|refine ce2 ?_ ?_|(refine Or.inr (bx_eq rfl rfl ?_);(try dsimp only [C.ren,C.ren.all]);(try exact rfl))|exact SVLe.refl|refine ceb ?_)
      all_goals first | exact (show nodupB _ = true from rfl) | exact Or.inr rfl | ((first | rfl | omega))
    · have e : trR t B.toNat [] q = ((0,false,5),l ++ [w]) := by
        obtain ⟨k,hk⟩ : ∃ k,(B - l.length).toNat = k + 1 := ⟨(B - l.length).toNat - 1,by omega⟩
        rw [← k4,hk,trR_o (by assumption) hc]
      rw [e]
      repeat refine cr ?_
      refine ends_id ?_
      refine endK [?_] (h2 := ?_) (h3 := ?_) (nd := ?_)
      rotate_left 1
      all_goals (repeat' first|exact ce0|refine ce ?_|refine ce2 ?_ ?_|(refine Or.inr (bx_eq rfl rfl ?_);(try dsimp only [C.ren,C.ren.all]);(try exact rfl))|exact SVLe.refl|refine ceb ?_)
      all_goals first | exact (show nodupB _ = true from rfl) | exact Or.inr rfl | (rfl)
    · have hst := tgStep_gd hv k1 (by assumption) hc
      have hlen : ((l ++ [w]).length : Int) = l.length + 1 := by simp
      refine q_again (n + 1,tgStep t w,l ++ [w]) [0,1,2,3,4,8,7] (by exact stk) ?_ ?_
      · dsimp only
        refine ⟨hst,by omega,by omega,?_⟩
        obtain ⟨k,hk⟩ : ∃ k,(B - l.length).toNat = k + 1 := ⟨(B - l.length).toNat - 1,by omega⟩
        rw [← k4,hk,trR_s (by assumption) hc,hlen,show (B - (l.length + 1 : Int)).toNat = k by omega]
      · dsimp only; omega
theorem trR_cd {t : Tg} : ∀ (k : Nat) (l : List (List Int)) (w : List Int),(trR t k l w).1.2.2 = 0 ∨ (trR t k l w).1.2.2 = 5
  | 0,l,w => by rw [trR_0]; exact .inl rfl
  | k + 1,l,w => by
    cases h : tgHalts t w with
    | true => rw [trR_h h]; exact .inl rfl
    | false =>
      cases o : tgOver t w with
      | true => rw [trR_o h o]; exact .inr rfl
      | false => rw [trR_s h o]; exact trR_cd k _ _
theorem systemTextsD_ok (t : Tg) (q : List Int) (n : Int) (hv : vTag t = true) (hg : Gd t q) (hx : (t.ha.length : Int) ≤ 1048576) (h1 : 0 ≤ n) (h2 : n ≤ 599) : Does Tryd.prog 40 [.one (.ifc 67 false [.gv 0]),.one (int n),.one fnD] [.bx (tgR t 1),.row 1 (rows eI q)] (.tup [(false,[.gv 2]),(false,[int (bif (trA t n.toNat [] q).2 then 0 else 5)])]) [.dead,.dead,.row 1 (rows eS ((trA t n.toNat [] q).1.map dotT))] := by
  have e := trA_R (t := t) n.toNat [] q
  have ec := trR_cd (t := t) n.toNat [] q
  refine does_of (k := 2) Tryd.func40 rfl Tryd.ntmps40 rfl rfl fun w F0 S0 ρ0 => ?_
  dsimp only [argT,argH]
  repeat' first|(apply n3;exact a_nilO eS rfl;exact rfl)|(apply n3;(first|exact a_new (gb := .bx _) rfl|exact a_litE eS [] rfl rfl rfl rfl rfl rfl rfl rfl);exact rfl;refine dA ?_)|(apply p3;(first|exact pu1|exact a_ne rfl rfl);exact rfl)|refine cd ?_|(apply w3;exact a_st_bx rfl rfl rfl rfl (fN rfl rfl) (Nat.le_of_ble_eq_true rfl) rfl;exact rfl;refine dS ?_)|(apply c4 1;exact callK1 (θ := [_,_,_,_,_]) (hD := (runSysS_ok _ _ _ preB150 preB150 preB150 preB150 preB150));exact rfl;exact rfl;exact rfl;refine dM ?_)|((refine g_cond rfl (fun hc => ?_) (fun hc => ?_)) <;> (try simp only [dcB] at hc) <;> (try first|contradiction|(exfalso;omega)))
  · rw [if_neg hc] at e
    rw [e]
    repeat refine cr ?_
    refine ends_id ?_
    refine endK [?_] (h2 := ?_) (h3 := ?_) (nd := ?_)
    rotate_left 1
    all_goals (repeat' first|exact ce0|refine ce ?_|refine ce2 ?_ ?_|(refine Or.inr (bx_eq rfl rfl ?_);(try dsimp only [C.ren,C.ren.all]);(try exact rfl))|exact SVLe.refl|refine ceb ?_)
    all_goals first | exact (show nodupB _ = true from rfl) | exact Or.inr rfl | ((show _ = (5 : Int); omega))
  · rw [if_pos hc] at e
    rw [e]
    repeat refine cr ?_
    refine ends_id ?_
    refine endK [?_] (h2 := ?_) (h3 := ?_) (nd := ?_)
    rotate_left 1
    all_goals (repeat' first|exact ce0|refine ce ?_|refine ce2 ?_ ?_|(refine Or.inr (bx_eq rfl rfl ?_);(try dsimp only [C.ren,C.ren.all]);(try exact rfl))|exact SVLe.refl|refine ceb ?_)
    all_goals first | exact (show nodupB _ = true from rfl) | exact Or.inr rfl | (rfl)
theorem textsCode_ok (b : Bool) (n : Int) : Does Tryd.prog 38 [.one (boo b),.one (int n)] [] (.one (int (bif b then (if 0 ≤ n ∧ n ≤ 599 then 0 else 2) else 1))) [] := by
  cases b
  · refine does_of (k := 0) Tryd.func38 rfl Tryd.ntmps38 rfl rfl fun w F0 S0 ρ0 => ?_
    dsimp only [argT,argH]
    repeat' first|(apply p3;exact pu1;exact rfl)|refine cd ?_
    repeat refine cr ?_
    refine ends_id ?_
    refine endK [] (h2 := ?_) (h3 := ?_) (nd := ?_)
    all_goals (repeat' first|exact ce0|refine ce ?_|refine ce2 ?_ ?_|exact SVLe.refl|refine ceb ?_)
    all_goals first | exact (show nodupB _ = true from rfl) | exact Or.inr rfl | (rfl)
  · by_cases h : 0 ≤ n ∧ n ≤ 599
    · rw [cond_true,if_pos h]
      refine does_of (k := 0) Tryd.func38 rfl Tryd.ntmps38 rfl rfl fun w F0 S0 ρ0 => ?_
      dsimp only [argT,argH]
      repeat' first|(apply p3;exact pu1;exact rfl)|refine cd ?_|(apply c4 0;exact callK1 (θ := []) (hD := (within_ok _ _ _));exact rfl;exact rfl;exact rfl;refine dM ?_)|((refine g_cond rfl (fun hc => ?_) (fun hc => ?_)) <;> (try simp only [dcB] at hc) <;> (try first|contradiction|(exfalso;omega)))
      repeat refine cr ?_
      refine ends_id ?_
      refine endK [] (h2 := ?_) (h3 := ?_) (nd := ?_)
      all_goals (repeat' first|exact ce0|refine ce ?_|refine ce2 ?_ ?_|exact SVLe.refl|refine ceb ?_)
      all_goals first | exact (show nodupB _ = true from rfl) | exact Or.inr rfl | (rfl)
    · rw [cond_true,if_neg h]
      refine does_of (k := 0) Tryd.func38 rfl Tryd.ntmps38 rfl rfl fun w F0 S0 ρ0 => ?_
      dsimp only [argT,argH]
      repeat' first|(apply p3;exact pu1;exact rfl)|refine cd ?_|(apply c4 0;exact callK1 (θ := []) (hD := (within_ok _ _ _));exact rfl;exact rfl;exact rfl;refine dM ?_)|((refine g_cond rfl (fun hc => ?_) (fun hc => ?_)) <;> (try simp only [dcB] at hc) <;> (try first|contradiction|(exfalso;omega)))
      repeat refine cr ?_
      refine ends_id ?_
      refine endK [] (h2 := ?_) (h3 := ?_) (nd := ?_)
      all_goals (repeat' first|exact ce0|refine ce ?_|refine ce2 ?_ ?_|exact SVLe.refl|refine ceb ?_)
      all_goals first | exact (show nodupB _ = true from rfl) | exact Or.inr rfl | (rfl)
end Go.Proofs.YtbblkhjjgnpbaaaDoor
end
section
set_option linter.unusedVariables false
set_option linter.unusedSimpArgs false
set_option maxRecDepth 100000
set_option maxHeartbeats 400000
namespace Go.Proofs.YtbblkhjjgnpbaaaDoor
open Go Foot Go.RowKit
theorem preB157 {p : Prop} (h : p := by first | with_reducible assumption | omega | (simp only [List.length_append,List.length_cons,List.length_nil,List.length_set,List.length_replicate,List.length_take,List.length_drop,List.length_tail,List.length_dropLast,List.length_reverse] at *; omega) | exact mem_len (by assumption) (by omega) | (with_reducible refine Int.le_trans (Int.ofNat_le.2 (trimR_len _)) ?_; simp only [List.length_cons,List.length_tail]; omega) | (exact (ruAt_ok (by assumption) (by assumption) (by assumption)).2.1) | (exact (ruAt_ok (by assumption) (by assumption) (by assumption)).2.1) | (have := vMach_bd (by assumption); omega) | (simp only [mC_ch,mC_tu]; omega) | (have := vTag_bd (by assumption); omega) | (have := (‹Gd _ _›).le; omega) | (exact tgHalts_no (by assumption)) | (exact tgHead (by assumption) (by assumption) (by assumption)) | (exact Int.le_trans (tgStep_gd (by assumption) (by assumption) (by assumption) (by assumption)).le (by decide)) | (exact vTag_r (by assumption)) | (with_reducible refine Int.le_trans (Int.ofNat_le.2 (pushL_len _ _)) ?_; simp only [List.length_dropLast]; omega) | exact ls_at (by assumption) (by omega) | exact pt_gd (by assumption) | exact lv_at (by assumption) (by omega) | exact pt_gd (lv_at (by assumption) (by omega)) | exact (ask_ok (by assumption)).1 | exact (ask_ok (by assumption)).2.1 | exact (ask_ok (by assumption)).2.2.1 | exact (ask_ok (by assumption)).2.2.2 | trivial) : p := h
theorem l19Steps_ok (n : Int) : Does Tryd.prog 34 [.one (int n)] [] (.one (boo (decide (0 ≤ n ∧ n ≤ 599)))) [] := by
  refine does_of (k := 0) Tryd.func34 rfl Tryd.ntmps34 rfl rfl fun w F0 S0 ρ0 => ?_
  dsimp only [argT,argH]
  repeat' first|(apply p3;exact pu1;exact rfl)|refine cd ?_|(apply c4 0;exact callK1 (θ := []) (hD := (l00In_ok _ _ _));exact rfl;exact rfl;exact rfl;refine dM ?_)
  repeat refine cr ?_
  refine ends_id ?_
  refine endK [] (h2 := ?_) (h3 := ?_) (nd := ?_)
  all_goals (repeat' first|exact ce0|refine ce ?_|refine ce2 ?_ ?_|exact SVLe.refl|refine ceb ?_)
  all_goals first | exact (show nodupB _ = true from rfl) | exact Or.inr rfl | (rfl)
theorem sWordTexts_ok (t : Tg) (q : List Int) (n : Int) (hq : (q.length : Int) ≤ 1048576) (hx : (t.ha.length : Int) ≤ 1048576) (hy : (t.wo.length : Int) ≤ 1048576) (hys : ∀ x ∈ t.wo,(x.length : Int) ≤ 1048576) : Does Tryd.prog 7 [.agg (tgC t),.one (shI q),.one (int n)] [] (.tup [(false,[.gv 0]),(false,[int (wtO t q n).2])]) [.row 1 (rows eS (wtO t q n).1)] := by
  have hys' : ∀ x ∈ t.wo,(x.length : Int) ≤ 16777216 := fun x hx => by have := hys x hx; omega
  cases hv : vTag t && tgWord t.wo.length q with
  | false =>
    have hr : wtO t q n = ([],1) := by unfold wtO; rw [hv]; rfl
    rw [hr]
    refine does_of (k := 0) Tryd.func7 rfl Tryd.ntmps7 rfl rfl fun w F0 S0 ρ0 => ?_
    dsimp only [argT,argH]
    repeat' first|(apply n3;exact a_nilO eS rfl;exact rfl)|(apply n3;exact a_new (gb := .bx _) rfl;exact rfl;refine dA ?_)|(apply p3;exact pu1;exact rfl)|refine cdn ?_|refine g_reg (id := 0) ?_|refine g_reg (id := 1) ?_|(apply c4 0;exact callK1 (θ := []) (hD := (l09Ask_ok _ _ preB157 preB157 preB157 preB157));exact rfl;exact rfl;exact rfl;refine dM ?_)
    simp only [hv,cond_false]
    repeat' first|(apply n3;exact a_nilO eS rfl;exact rfl)|(apply p3;(first|exact pu1|exact puC|exact a_ne rfl rfl);exact rfl)|refine cd ?_|refine o_no rfl rfl rfl rfl ?_
    repeat refine cr ?_
    refine ends_id ?_
    refine endK [?_] (h2 := ?_) (h3 := ?_) (nd := ?_)
    rotate_left 1
    all_goals (repeat' first|exact ce0|refine ce ?_|refine ce2 ?_ ?_|(refine Or.inr (bx_eq rfl rfl ?_);(try dsimp only [C.ren,C.ren.all]);(try exact rfl))|exact SVLe.refl|refine ceb ?_)
    all_goals first | exact (show nodupB _ = true from rfl) | exact Or.inr rfl | (rfl)
  | true =>
    obtain ⟨hv1,hv2⟩ := Bool.and_eq_true_iff.1 hv
    have hg := tgWord_gd hv2
    by_cases h : 0 ≤ n ∧ n ≤ 599
    · have hr : wtO t q n = (bif (trA t n.toNat [] q).2 then ((trA t n.toNat [] q).1.map dotT,0) else ([],5)) := by unfold wtO; rw [hv,cond_true,if_pos h]
      rw [hr]
      obtain ⟨ht1,ht2⟩ := trA_gd hv1 (k := n.toNat) hg
      refine does_of (k := 0) Tryd.func7 rfl Tryd.ntmps7 rfl rfl fun w F0 S0 ρ0 => ?_
      dsimp only [argT,argH]
      repeat' first|(apply n3;exact a_nilO eS rfl;exact rfl)|(apply n3;exact a_new (gb := .bx _) rfl;exact rfl;refine dA ?_)|(apply p3;exact a_pure (sv := .one _) rfl;exact rfl)|refine cdn ?_|refine g_reg (id := 0) ?_
      first | refine g_turn (t_frzB (d := 3) (i := 0) rfl rfl rfl) ?_ | refine o_turn (t_frzB (d := 3) (i := 0) rfl rfl rfl) ?_
      repeat' first|(apply p3;exact pu1;exact rfl)|refine cdn ?_|refine g_reg (id := 1) ?_|(apply c4 0;exact callK1 (θ := []) (hD := (l09Ask_ok _ _ preB157 preB157 preB157 preB157));exact rfl;exact rfl;exact rfl;refine dM ?_)
      simp only [hv,cond_true]
      repeat' first|(apply p3;(first|exact pu1|exact puC|exact a_ne rfl rfl);exact rfl)|refine cdn ?_|refine g_reg (id := 2) ?_|refine g_reg (id := 4) ?_|refine g_reg (id := 6) ?_|(apply c4 1;exact callK0 (θ := []) (hD := (l19Words_ok _ _ _ preB157 preB157 preB157 preB157 preB157));exact rfl;exact rfl;exact rfl;refine dM ?_)|(apply py3;exact rfl;exact rfl;(exact pu1);exact rfl;exact rfl)|(apply cy4 0;exact rfl;exact rfl;exact callK1 (θ := []) (hD := (l19Steps_ok _));exact rfl;exact rfl;exact rfl;exact rfl;refine dM ?_)|((refine g_cond rfl (fun hc => ?_) (fun hc => ?_)) <;> (try simp only [dcB] at hc) <;> (try first|contradiction|(exfalso;omega)))
      generalize trA t n.toNat [] q = r at *
      obtain ⟨L,b⟩ := r
      dsimp only at *
      cases b with
      | false =>
        simp only [cond_false]
        repeat' first|(apply n3;exact a_nilO eS rfl;exact rfl)|(apply p3;(exact pu1);exact rfl)|refine cd ?_
        repeat refine cr ?_
        refine ends_id ?_
        refine endK [?_] (h2 := ?_) (h3 := ?_) (nd := ?_)
        rotate_left 1
        all_goals (repeat' first|exact ce0|refine ce ?_|refine ce2 ?_ ?_|(refine Or.inr (bx_eq rfl rfl ?_);(try dsimp only [C.ren,C.ren.all]);(try exact rfl))|exact SVLe.refl|refine ceb ?_)
        all_goals first | exact (show nodupB _ = true from rfl) | exact Or.inr rfl | (rfl)
      | true =>
        simp only [cond_true]
        first | refine g_turn (t_frzR (d := 9) (i := 2) rfl rfl shutR) ?_ | refine o_turn (t_frzR (d := 9) (i := 2) rfl rfl shutR) ?_
        repeat' first|(apply n3;(exact a_litE eS [] rfl rfl rfl rfl rfl rfl rfl rfl);exact rfl;refine dA ?_)|(apply p3;(exact pu1);exact rfl)|refine cd ?_
        refine g_loop_id ?_
        refine loopK [6,7,9] [3] (fun y : Int × List Bs => 0 ≤ y.1 ∧ y.1 ≤ L.length ∧ y.2 = (L.take y.1.toNat).map dotT) (fun y => [(12,.one (int y.1)),(11,.one (.gv 3))]) (fun y => [(3,.row 1 (rows eS y.2))]) (fun y => (L.length - y.1).toNat) ((0 : Int),[]) [0,1,2,3] (hI := ?_) (hr := ?_)
        · exact ⟨by simp,by simp,by simp⟩
        · rintro ⟨i,ts⟩ ⟨j0,j1,j2⟩
          dsimp only [List.cons_append,List.nil_append] at *
          skip
          have jl : (ts.length : Int) ≤ 1048576 := by rw [j2,List.length_map,List.length_take]; omega
          repeat' first|(apply p3;(first|exact pu1|exact puN|exact puC);exact rfl)|refine cdn ?_|refine g_reg (id := 11) ?_|refine g_reg (id := 14) ?_|((refine g_cond rfl (fun hc => ?_) (fun hc => ?_)) <;> (try simp only [dcB] at hc) <;> (try first|contradiction|(exfalso;omega)))
          · have hi : i.toNat < L.length := by omega
            have gl := gd_lt hv1 (ht1 _ (List.getElem_mem hi))
            repeat' first|(apply n3;(exact a_litE eS [_] rfl rfl rfl rfl rfl rfl rfl rfl);exact rfl;refine dA ?_)|(apply p3;(first|exact pu1|exact a_add rfl rfl (by omega) (by omega)|exact puI);exact rfl)|refine cd ?_|(apply s3;exact a_appE (fP rfl) rfl rfl rfl rfl nowR (by (simp;omega)) (by decide) (by decide) (by exact rfl);exact rfl;exact rfl)|(apply c4 0;exact callK1 (θ := []) (hD := (l09Letters_ok (L[i.toNat]'hi) gl));exact rfl;exact rfl;exact rfl;refine dM ?_)
            refine q_again (i + 1,_) [0,1,2,5] (by exact stk) ?_ ?_
            · dsimp only
              exact ⟨by omega,by omega,by rw [j2,map_take_s dotT j0 hc]⟩
            · dsimp only; omega
          · have e : ts = L.map dotT := by rw [j2,List.take_of_length_le (by omega)]
            rw [← e]
            repeat refine cr ?_
            refine ends_id ?_
            refine endK [?_] (h2 := ?_) (h3 := ?_) (nd := ?_)
            rotate_left 1
            all_goals (repeat' first|exact ce0|refine ce ?_|refine ce2 ?_ ?_|(refine Or.inr (bx_eq rfl rfl ?_);(try dsimp only [C.ren,C.ren.all]);(try exact rfl))|exact SVLe.refl|refine ceb ?_)
            all_goals first | exact (show nodupB _ = true from rfl) | exact Or.inr rfl | (rfl)
    · have hr : wtO t q n = ([],2) := by unfold wtO; rw [hv,cond_true,if_neg h]
      rw [hr]
      refine does_of (k := 0) Tryd.func7 rfl Tryd.ntmps7 rfl rfl fun w F0 S0 ρ0 => ?_
      dsimp only [argT,argH]
      repeat' first|(apply n3;exact a_nilO eS rfl;exact rfl)|(apply n3;exact a_new (gb := .bx _) rfl;exact rfl;refine dA ?_)|(apply p3;exact pu1;exact rfl)|refine cdn ?_|refine g_reg (id := 0) ?_|refine g_reg (id := 1) ?_|(apply c4 0;exact callK1 (θ := []) (hD := (l09Ask_ok _ _ preB157 preB157 preB157 preB157));exact rfl;exact rfl;exact rfl;refine dM ?_)
      simp only [hv,cond_true]
      repeat' first|(apply n3;exact a_nilO eS rfl;exact rfl)|(apply p3;(first|exact pu1|exact puC|exact a_ne rfl rfl);exact rfl)|refine cd ?_|(apply py3;exact rfl;exact rfl;(exact pu1);exact rfl;exact rfl)|(apply cy4 0;exact rfl;exact rfl;exact callK1 (θ := []) (hD := (l19Steps_ok _));exact rfl;exact rfl;exact rfl;exact rfl;refine dM ?_)|((refine g_cond rfl (fun hc => ?_) (fun hc => ?_)) <;> (try simp only [dcB] at hc) <;> (try first|contradiction|(exfalso;omega)))
      repeat refine cr ?_
      refine ends_id ?_
      refine endK [?_] (h2 := ?_) (h3 := ?_) (nd := ?_)
      rotate_left 1
      all_goals (repeat' first|exact ce0|refine ce ?_|refine ce2 ?_ ?_|(refine Or.inr (bx_eq rfl rfl ?_);(try dsimp only [C.ren,C.ren.all]);(try exact rfl))|exact SVLe.refl|refine ceb ?_)
      all_goals first | exact (show nodupB _ = true from rfl) | exact Or.inr rfl | (rfl)
theorem trA_no {t : Tg} {k : Nat} {l : List (List Int)} {w : List Int} (h : (trA t k l w).2 = false) : (trA t k l w).1 = [] := by
  rw [trA_R] at h ⊢
  by_cases z : (trR t k l w).1.2.2 = 0
  · rw [if_pos z] at h; cases h
  · rw [if_neg z]
theorem iWordTexts_ok (t : Tg) (q : List Int) (n : Int) (hq : (q.length : Int) ≤ 1048576) (hx : (t.ha.length : Int) ≤ 1048576) (hy : (t.wo.length : Int) ≤ 1048576) (hys : ∀ x ∈ t.wo,(x.length : Int) ≤ 1048576) : Does Tryd.prog 10 [.agg (tgC t),.one (shI q),.one (int n)] [] (.tup [(false,[.gv 0]),(false,[int (wtO t q n).2])]) [.row 1 (rows eS (wtO t q n).1)] := by
  have hys' : ∀ x ∈ t.wo,(x.length : Int) ≤ 16777216 := fun x hx => by have := hys x hx; omega
  have d0 : decide ((0 : Int) = 0) = true := rfl
  have d1 : decide ((1 : Int) = 0) = false := rfl
  cases hv : vTag t && tgWord t.wo.length q with
  | false =>
    have hr : wtO t q n = ([],1) := by unfold wtO; rw [hv]; rfl
    rw [hr]
    refine does_of (k := 0) Tryd.func10 rfl Tryd.ntmps10 rfl rfl fun w F0 S0 ρ0 => ?_
    dsimp only [argT,argH]
    repeat' first|(apply n3;exact a_nilO eS rfl;exact rfl)|(apply n3;exact a_new (gb := .bx _) rfl;exact rfl;refine dA ?_)|(apply p3;(first|exact pu1|exact puC);exact rfl)|refine cdn ?_|refine g_reg (id := 0) ?_|refine g_reg (id := 1) ?_|(apply c4 0;exact callK1 (θ := []) (hD := (tagCode_ok _ _ preB157 preB157 preB157 preB157));exact rfl;exact rfl;exact rfl;refine dM ?_)|(apply c4 0;exact callK1 (θ := []) (hD := (textsCode_ok _ _));exact rfl;exact rfl;exact rfl;refine dM ?_)
    simp only [hv,cond_false,d1]
    repeat' first|(apply n3;exact a_nilO eS rfl;exact rfl)|(apply p3;(first|exact pu1|exact a_ne rfl rfl);exact rfl)|refine cd ?_
    repeat refine cr ?_
    refine ends_id ?_
    refine endK [?_] (h2 := ?_) (h3 := ?_) (nd := ?_)
    rotate_left 1
    all_goals (repeat' first|exact ce0|refine ce ?_|refine ce2 ?_ ?_|(refine Or.inr (bx_eq rfl rfl ?_);(try dsimp only [C.ren,C.ren.all]);(try exact rfl))|exact SVLe.refl|refine ceb ?_)
    all_goals first | exact (show nodupB _ = true from rfl) | exact Or.inr rfl | (rfl)
  | true =>
    obtain ⟨hv1,hv2⟩ := Bool.and_eq_true_iff.1 hv
    have hg := tgWord_gd hv2
    by_cases h : 0 ≤ n ∧ n ≤ 599
    · have hr : wtO t q n = (bif (trA t n.toNat [] q).2 then ((trA t n.toNat [] q).1.map dotT,0) else ([],5)) := by unfold wtO; rw [hv,cond_true,if_pos h]
      rw [hr]
      refine does_of (k := 0) Tryd.func10 rfl Tryd.ntmps10 rfl rfl fun w F0 S0 ρ0 => ?_
      dsimp only [argT,argH]
      repeat' first|(apply n3;exact a_nilO eS rfl;exact rfl)|(apply n3;exact a_new (gb := .bx _) rfl;exact rfl;refine dA ?_)|(apply p3;(first|exact pu1|exact puC);exact rfl)|refine cdn ?_|refine g_reg (id := 0) ?_|refine g_reg (id := 1) ?_|(apply c4 0;exact callK1 (θ := []) (hD := (tagCode_ok _ _ preB157 preB157 preB157 preB157));exact rfl;exact rfl;exact rfl;refine dM ?_)|(apply c4 0;exact callK1 (θ := []) (hD := (textsCode_ok _ _));exact rfl;exact rfl;exact rfl;refine dM ?_)
      simp only [hv,cond_true,d0,if_pos h]
      repeat' first|(apply p3;(first|exact pu1|exact a_ne rfl rfl);exact rfl)|refine cd ?_|(apply c4 2;exact callK0 (θ := []) (hD := (tagRunOf_ok _ _ preB157));exact rfl;exact rfl;exact rfl;refine dM ?_)|(apply c4 1;exact callK1 (θ := [_,_]) (hD := (systemTextsD_ok _ _ _ preB157 preB157 preB157 preB157 preB157));exact rfl;exact rfl;exact rfl;refine dM ?_)
      cases hk : (trA t n.toNat [] q).2 with
      | false =>
        simp only [trA_no hk,cond_false]
        repeat refine cr ?_
        refine ends_id ?_
        refine endK [?_] (h2 := ?_) (h3 := ?_) (nd := ?_)
        rotate_left 1
        all_goals (repeat' first|exact ce0|refine ce ?_|refine ce2 ?_ ?_|(refine Or.inr (bx_eq rfl rfl ?_);(try dsimp only [C.ren,C.ren.all]);(try exact rfl))|exact SVLe.refl|refine ceb ?_)
        all_goals first | exact (show nodupB _ = true from rfl) | exact Or.inr rfl | (rfl)
      | true =>
        simp only [cond_true]
        repeat refine cr ?_
        refine ends_id ?_
        refine endK [?_] (h2 := ?_) (h3 := ?_) (nd := ?_)
        rotate_left 1
        all_goals (repeat' first|exact ce0|refine ce ?_|refine ce2 ?_ ?_|(refine Or.inr (bx_eq rfl rfl ?_);(try dsimp only [C.ren,C.ren.all]);(try exact rfl))|exact SVLe.refl|refine ceb ?_)
        all_goals first | exact (show nodupB _ = true from rfl) | exact Or.inr rfl | (rfl)
    · have hr : wtO t q n = ([],2) := by unfold wtO; rw [hv,cond_true,if_neg h]
      rw [hr]
      refine does_of (k := 0) Tryd.func10 rfl Tryd.ntmps10 rfl rfl fun w F0 S0 ρ0 => ?_
      dsimp only [argT,argH]
      repeat' first|(apply n3;exact a_nilO eS rfl;exact rfl)|(apply n3;exact a_new (gb := .bx _) rfl;exact rfl;refine dA ?_)|(apply p3;(first|exact pu1|exact puC);exact rfl)|refine cdn ?_|refine g_reg (id := 0) ?_|refine g_reg (id := 1) ?_|(apply c4 0;exact callK1 (θ := []) (hD := (tagCode_ok _ _ preB157 preB157 preB157 preB157));exact rfl;exact rfl;exact rfl;refine dM ?_)|(apply c4 0;exact callK1 (θ := []) (hD := (textsCode_ok _ _));exact rfl;exact rfl;exact rfl;refine dM ?_)
      simp only [hv,cond_true,d0,if_neg h]
      repeat' first|(apply n3;exact a_nilO eS rfl;exact rfl)|(apply p3;(first|exact pu1|exact a_ne rfl rfl);exact rfl)|refine cd ?_
      repeat refine cr ?_
      refine ends_id ?_
      refine endK [?_] (h2 := ?_) (h3 := ?_) (nd := ?_)
      rotate_left 1
      all_goals (repeat' first|exact ce0|refine ce ?_|refine ce2 ?_ ?_|(refine Or.inr (bx_eq rfl rfl ?_);(try dsimp only [C.ren,C.ren.all]);(try exact rfl))|exact SVLe.refl|refine ceb ?_)
      all_goals first | exact (show nodupB _ = true from rfl) | exact Or.inr rfl | (rfl)
end Go.Proofs.YtbblkhjjgnpbaaaDoor
end
section
set_option linter.unusedVariables false
set_option linter.unusedSimpArgs false
set_option maxRecDepth 100000
set_option maxHeartbeats 4000000
namespace Go.Proofs.YtbblkhjjgnpbaaaDoor
open Go Foot
@[irreducible] def marks (k : Int) (n : Nat) : List Int := (List.range n).map fun (i : Nat) => k + (i : Int)
theorem marks_len (k : Int) (n : Nat) : (marks k n).length = n := by unfold marks; simp
theorem marks_get (k : Int) (n i : Nat) (h : i < n) : (marks k n)[i]? = some (k + i) := by unfold marks; simp [h]
theorem mark_end {k : Int} {xs l : List Int} (h1 : l.length = xs.length) (h2 : ∀ j (h : j < xs.length),l[j]? = some (k + j)) : l = marks k xs.length := by
  apply List.ext_getElem?
  intro j
  by_cases hj : j < xs.length
  · rw [marks_get k _ j hj,h2 j hj]
  · rw [List.getElem?_eq_none (by omega),List.getElem?_eq_none (by rw [marks_len]; omega)]
theorem markInt64S_ok (xs : List Int) (k : Int) (h1 : 0 ≤ k) (h2 : k ≤ 4611686018427387904) (hx : (xs.length : Int) ≤ 4611686018427) : Does Tryd.prog 15 [.one (.gv 0),.one (int k)] [roI xs] (.one (int (k + xs.length))) [roI (marks k xs.length)] := by
  refine does_of (k := 1) Tryd.func15 rfl Tryd.ntmps15 rfl rfl fun w F0 S0 ρ0 => ?_
  dsimp only [argT,argH]
  repeat' first|(apply p3;(exact pu1);exact rfl)|refine cd ?_
  refine g_loop_id ?_
  refine loopK [0,4] [0] (fun y : Int × List Int => 0 ≤ y.1 ∧ y.1 ≤ xs.length ∧ y.2.length = xs.length ∧ ∀ (j : Nat),(j : Int) < y.1 → y.2[j]? = some (k + j)) (fun y => [(5,.one (int y.1)),(1,.one (int (k + y.1)))]) (fun y => [(0,roI y.2)]) (fun y => (xs.length - y.1).toNat) ((0 : Int),xs) [0] (hI := ?_) (hr := ?_)
  · exact ⟨by simp,by simp,rfl,fun j h' => by simp at h'; omega⟩
  · rintro ⟨i,l⟩ ⟨k1,k2,k3,k4⟩
    dsimp only [List.cons_append,List.nil_append] at *
    skip
    repeat' first|(apply p3;(first|exact pu1|exact puN|exact puC|exact a_add rfl rfl (by omega) (by omega)|exact puI);exact rfl)|refine cd ?_|(apply w3;(exact a_st_rowI rfl rfl rfl rfl (fN rfl rfl) bnd);exact rfl;refine dS ?_)|((refine g_cond rfl (fun hc => ?_) (fun hc => ?_)) <;> (try simp only [dcB] at hc) <;> (try first|contradiction|(exfalso;omega)))
    · refine q_again (i + 1,l.set i.toNat (k + i)) [0] (by exact stk) ?_ ?_
      · refine ⟨by dsimp only; omega,by dsimp only; omega,by simp [k3],fun j h => ?_⟩
        dsimp only at h ⊢
        rw [List.getElem?_set]
        split
        · rename_i e
          subst e
          rw [if_pos (by omega)]
          congr 1
          omega
        · exact k4 j (by omega)
      · dsimp only; omega
    · have hi : i = xs.length := by omega
      subst hi
      have hl := mark_end (k := k) k3 fun j hj => k4 j (by omega)
      repeat refine cr ?_
      refine ends_id ?_
      refine endK [] (h2 := ?_) (h3 := ?_) (nd := ?_)
      all_goals (repeat' first|exact ce0|refine ce ?_|refine ce2 ?_ ?_|(refine Or.inr (bx_eq rfl rfl ?_);(try dsimp only [C.ren,C.ren.all]);(try exact rfl))|exact SVLe.refl|refine ceb ?_)
      all_goals first | exact (show nodupB _ = true from rfl) | exact Or.inr rfl | (exact hl)
@[irreducible] def held (k : Int) (xs : List Int) : Int := if xs = marks k xs.length then k + xs.length else -1
end Go.Proofs.YtbblkhjjgnpbaaaDoor
end
section
set_option linter.unusedVariables false
set_option linter.unusedSimpArgs false
set_option maxRecDepth 100000
set_option maxHeartbeats 4000000
namespace Go.Proofs.YtbblkhjjgnpbaaaDoor
open Go Foot
def mkX (k : Nat) (o : Bs) : Bs := if h : k = 0 then o else mkX (k / 10) (UInt8.ofNat (48 + k % 10) :: o)
termination_by k
decreasing_by omega
theorem mkX_0 (o : Bs) : mkX 0 o = o := by rw [mkX,dif_pos rfl]
theorem mkX_s {k : Int} (h : 0 < k) (o : Bs) : mkX k.toNat o = mkX (k / 10).toNat (UInt8.ofNat (48 + (k % 10).toNat) :: o) := by
  rw [mkX,dif_neg (by omega),show (k / 10).toNat = k.toNat / 10 by omega,show (k % 10).toNat = k.toNat % 10 by omega]
@[irreducible] def mkS (k : Int) : Bs := if k ≤ 0 then [109,48] else 109 :: mkX k.toNat []
theorem byt_one (x : Int) : byt [x] = [UInt8.ofNat x.toNat] := by unfold byt; rfl
theorem preD12 {p : Prop} (h : p := by first | with_reducible assumption | omega | (simp only [List.length_append,List.length_cons,List.length_nil,List.length_set,List.length_replicate,List.length_take,List.length_drop,List.length_tail,List.length_dropLast,List.length_reverse] at *; omega) | exact mem_len (by assumption) (by omega) | (with_reducible refine Int.le_trans (Int.ofNat_le.2 (trimR_len _)) ?_; simp only [List.length_cons,List.length_tail]; omega) | (exact (ruAt_ok (by assumption) (by assumption) (by assumption)).2.1) | (exact (ruAt_ok (by assumption) (by assumption) (by assumption)).2.1) | (have := vMach_bd (by assumption); omega) | (simp only [mC_ch,mC_tu]; omega) | (have := vTag_bd (by assumption); omega) | (have := (‹Gd _ _›).le; omega) | (exact tgHalts_no (by assumption)) | (exact tgHead (by assumption) (by assumption) (by assumption)) | (exact Int.le_trans (tgStep_gd (by assumption) (by assumption) (by assumption) (by assumption)).le (by decide)) | (exact vTag_r (by assumption)) | (with_reducible refine Int.le_trans (Int.ofNat_le.2 (pushL_len _ _)) ?_; simp only [List.length_dropLast]; omega) | exact ls_at (by assumption) (by omega) | exact pt_gd (by assumption) | exact lv_at (by assumption) (by omega) | exact pt_gd (lv_at (by assumption) (by omega)) | exact (ask_ok (by assumption)).1 | exact (ask_ok (by assumption)).2.1 | exact (ask_ok (by assumption)).2.2.1 | exact (ask_ok (by assumption)).2.2.2 | (simp only [marks_len]; omega) | (simp only [marksR_len]; omega) | exact lns_at (by assumption) (by omega) | exact bgs_at (by assumption) (by omega) | trivial) : p := h
theorem markText_ok (k : Int) (h1 : 0 ≤ k) (h2 : k ≤ 92233720368547) : Does Tryd.prog 45 [.one (int k)] [] (.one (str (mkS k))) [] := by
  by_cases h : k ≤ 0
  · have e : mkS k = [109,48] := by unfold mkS; rw [if_pos h]
    rw [e]
    refine does_of (k := 0) Tryd.func45 rfl Tryd.ntmps45 rfl rfl fun w F0 S0 ρ0 => ?_
    dsimp only [argT,argH]
    repeat' first|(apply p3;(first|exact pu1|exact puC);exact rfl)|refine cd ?_|((refine g_cond rfl (fun hc => ?_) (fun hc => ?_)) <;> (try simp only [dcB] at hc) <;> (try first|contradiction|(exfalso;omega)))
    repeat refine cr ?_
    refine ends_id ?_
    refine endK [] (h2 := ?_) (h3 := ?_) (nd := ?_)
    all_goals (repeat' first|exact ce0|refine ce ?_|refine ce2 ?_ ?_|exact SVLe.refl|refine ceb ?_)
    all_goals first | exact (show nodupB _ = true from rfl) | exact Or.inr rfl | (rfl)
  · have e : mkS k = 109 :: mkX k.toNat [] := by unfold mkS; rw [if_neg h]
    rw [e]
    refine does_of (k := 0) Tryd.func45 rfl Tryd.ntmps45 rfl rfl fun w F0 S0 ρ0 => ?_
    dsimp only [argT,argH]
    repeat' first|(apply p3;(first|exact pu1|exact puC);exact rfl)|refine cd ?_|((refine g_cond rfl (fun hc => ?_) (fun hc => ?_)) <;> (try simp only [dcB] at hc) <;> (try first|contradiction|(exfalso;omega)))
    refine g_loop_id ?_
    refine loopK [2] [] (fun x : Int × Bs => 0 ≤ x.1 ∧ x.1 ≤ k ∧ (x.2.length : Int) + x.1 ≤ k ∧ mkX x.1.toNat x.2 = mkX k.toNat []) (fun x => [(0,.one (int x.1)),(3,.one (str x.2))]) (fun _ => []) (fun x => x.1.toNat) (k,([] : Bs)) [] (hI := ?_) (hr := ?_)
    · exact ⟨by dsimp only; omega,by dsimp only; omega,by simp,rfl⟩
    · rintro ⟨n,o⟩ ⟨k1,k2,k3,k4⟩
      dsimp only [List.cons_append,List.nil_append] at *
      skip
      repeat' first|(apply n3;exact a_litE eY [_] rfl rfl rfl rfl rfl rfl rfl rfl;exact rfl;refine dA ?_)|(apply p3;(first|exact pu1|exact puC|exact a_rem rfl rfl (by omega) (by omega) (by omega)|exact a_add rfl rfl (by omega) (by omega)|exact a_to8 rfl Tryd.underlying3 Tryd.underlying5 (by omega) (by omega)|exact a_toStr rfl (by exact rfl) Tryd.underlying40 Tryd.underlying5 Tryd.underlying9|exact a_addS rfl rfl (by first|omega|(simp only [List.length_append,List.length_cons,List.length_nil];omega)));exact rfl)|refine cd ?_|((refine g_cond rfl (fun hc => ?_) (fun hc => ?_)) <;> (try simp only [dcB] at hc) <;> (try first|contradiction|(exfalso;omega)))
      · have e1 : byt [48 + n % 10] ++ o = UInt8.ofNat (48 + (n % 10).toNat) :: o := by rw [byt_one,show (48 + n % 10).toNat = 48 + (n % 10).toNat by omega]; rfl
        have e0 : ((byt [48 + n % 10]).length : Int) = 1 := by rw [byt_one]; rfl
        repeat' first|(apply p3;(first|exact pu1|exact a_addS rfl rfl (by first|omega|(simp only [List.length_append,List.length_cons,List.length_nil];omega))|exact a_quo rfl rfl (by omega) (by omega) (by omega));exact rfl)|refine cd ?_
        refine q_again (n / 10,byt [48 + n % 10] ++ o) [] (by exact stk) ?_ ?_
        · dsimp only
          refine ⟨by omega,by omega,?_,?_⟩
          · rw [e1,List.length_cons]; omega
          · rw [e1,← mkX_s hc,k4]
        · dsimp only; omega
      · have e1 : n = 0 := by omega
        subst e1
        have e2 : o = mkX k.toNat [] := by rw [← k4]; exact (mkX_0 o).symm
        rw [← e2]
        repeat refine cr ?_
        refine ends_id ?_
        refine endK [] (h2 := ?_) (h3 := ?_) (nd := ?_)
        all_goals (repeat' first|exact ce0|refine ce ?_|refine ce2 ?_ ?_|exact SVLe.refl|refine ceb ?_)
        all_goals first | exact (show nodupB _ = true from rfl) | exact Or.inr rfl | (rfl)
theorem markS_end {k : Int} {xs l : List Bs} (h1 : l.length = xs.length) (h2 : ∀ j (h : j < xs.length),l[j]? = some (mkS (k + j))) : l = (marks k xs.length).map mkS := by
  apply List.ext_getElem?
  intro j
  rw [List.getElem?_map]
  by_cases hj : j < xs.length
  · rw [marks_get k _ j hj,h2 j hj]; rfl
  · rw [List.getElem?_eq_none (by omega),List.getElem?_eq_none (by rw [marks_len]; omega)]; rfl
theorem markStringS_ok (xs : List Bs) (k : Int) (h1 : 0 ≤ k) (h2 : k ≤ 4611686018427) (hx : (xs.length : Int) ≤ 4611686018427) : Does Tryd.prog 16 [.one (.gv 0),.one (int k)] [.row 1 (rows eS xs)] (.one (int (k + xs.length))) [.row 1 (rows eS ((marks k xs.length).map mkS))] := by
  refine does_of (k := 1) Tryd.func16 rfl Tryd.ntmps16 rfl rfl fun w F0 S0 ρ0 => ?_
  dsimp only [argT,argH]
  repeat' first|(apply p3;(exact pu1);exact rfl)|refine cd ?_
  refine g_loop_id ?_
  refine loopK [0,4] [0] (fun y : Int × List Bs => 0 ≤ y.1 ∧ y.1 ≤ xs.length ∧ y.2.length = xs.length ∧ ∀ (j : Nat),(j : Int) < y.1 → y.2[j]? = some (mkS (k + j))) (fun y => [(5,.one (int y.1)),(1,.one (int (k + y.1)))]) (fun y => [(0,.row 1 (rows eS y.2))]) (fun y => (xs.length - y.1).toNat) ((0 : Int),xs) [0] (hI := ?_) (hr := ?_)
  · exact ⟨by simp,by simp,rfl,fun j h' => by simp at h'; omega⟩
  · rintro ⟨i,l⟩ ⟨k1,k2,k3,k4⟩
    dsimp only [List.cons_append,List.nil_append] at *
    skip
    repeat' first|(apply p3;(first|exact pu1|exact puN|exact puC|exact a_add rfl rfl (by omega) (by omega)|exact puI);exact rfl)|refine cd ?_|(apply w3;(exact a_stE (E := eS) _ rfl rfl rfl rfl (fN rfl rfl) bnd (by exact rfl));exact rfl;refine dS ?_)|(apply c4 0;exact callK1 (θ := []) (hD := (markText_ok _ preD12 preD12));exact rfl;exact rfl;exact rfl;refine dM ?_)|((refine g_cond rfl (fun hc => ?_) (fun hc => ?_)) <;> (try simp only [dcB] at hc) <;> (try first|contradiction|(exfalso;omega)))
    · refine q_again (i + 1,l.set i.toNat (mkS (k + i))) [0] (by exact stk) ?_ ?_
      · refine ⟨by dsimp only; omega,by dsimp only; omega,by simp [k3],fun j h => ?_⟩
        dsimp only at h ⊢
        rw [List.getElem?_set]
        split
        · rename_i e
          subst e
          rw [if_pos (by omega)]
          congr 2
          omega
        · exact k4 j (by omega)
      · dsimp only; omega
    · have hi : i = xs.length := by omega
      subst hi
      have hl := markS_end (k := k) k3 fun j hj => k4 j (by omega)
      repeat refine cr ?_
      refine ends_id ?_
      refine endK [] (h2 := ?_) (h3 := ?_) (nd := ?_)
      all_goals (repeat' first|exact ce0|refine ce ?_|refine ce2 ?_ ?_|(refine Or.inr (bx_eq rfl rfl ?_);(try dsimp only [C.ren,C.ren.all]);(try exact rfl))|exact SVLe.refl|refine ceb ?_)
      all_goals first | exact (show nodupB _ = true from rfl) | exact Or.inr rfl | (exact hl)
theorem heldStringS_ok (n : Nat) (k : Int) (h1 : 0 ≤ k) (h2 : k ≤ 4611686018427) (hx : (n : Int) ≤ 4611686018427) : Does Tryd.prog 17 [.one (shS ((marks k n).map mkS)),.one (int k)] [] (.one (int (k + n))) [] := by
  obtain ⟨L,eL⟩ : ∃ L,L = (marks k n).map mkS := ⟨_,rfl⟩
  have hl : L.length = n := by rw [eL,List.length_map,marks_len]
  have hg : ∀ (i : Nat) (h : i < L.length),L[i] = mkS (k + i) := fun i h => by
    have := marks_get k n i (by omega)
    have h2 : L[i]? = some (mkS (k + i)) := by rw [eL,List.getElem?_map,this]; rfl
    rw [List.getElem?_eq_getElem h] at h2
    exact Option.some.inj h2
  rw [← eL]
  refine does_of (k := 0) Tryd.func17 rfl Tryd.ntmps17 rfl rfl fun w F0 S0 ρ0 => ?_
  dsimp only [argT,argH]
  repeat' first|(apply p3;(exact pu1);exact rfl)|refine cd ?_
  refine g_loop_id ?_
  refine loopK [0,4] [] (fun i : Int => 0 ≤ i ∧ i ≤ L.length) (fun i => [(5,.one (int i)),(1,.one (int (k + i)))]) (fun _ => []) (fun i => (L.length - i).toNat) (0 : Int) [] (hI := ?_) (hr := ?_)
  · exact ⟨by simp,by simp⟩
  · rintro i ⟨k1,k2⟩
    dsimp only [List.cons_append,List.nil_append] at *
    skip
    repeat' first|(apply p3;(first|exact pu1|exact puN|exact puC|exact a_add rfl rfl (by omega) (by omega));exact rfl)|refine cd ?_|(apply g_drN (id := 4) okM [[],[],[0,1],[0,1,2],[],[4],[0,1,2,3,4,5]] [([],[]),([],[]),([],[]),([],[]),([],[]),([],[]),([],[])] 0;(focus (refine dp 0 0 [13,16,17] [] pu1 ?_;refine dp 1 0 [12,16,17] [] pu1 ?_;refine dp 2 3 [16,17] [] puI ?_;refine dp 3 7 [16,17] [] (by exact a_pure (sv := .one _) rfl) ?_;refine dp 4 0 [12,13,14,15] [] pu1 ?_;refine dp 5 1 [12,13,14,15] [] (callD1 (n := _) 0 (θ := []) (hD := (markText_ok _ preD12 preD12))) ?_;refine dp 6 63 [] [] (a_neT rfl rfl) ?_;(refine d_nil ?_;refine dN ?_)));any_goals kernel_rfl)|((refine g_cond rfl (fun hc => ?_) (fun hc => ?_)) <;> (try simp only [dcB] at hc) <;> (try first|contradiction|(exfalso;omega)))
    · have := hg i.toNat (by omega)
      rw [show ((i.toNat : Nat) : Int) = i by omega] at this
      exact absurd this hc
    · refine q_again (i + 1) [] (by exact stk) ?_ ?_
      · exact ⟨by omega,by omega⟩
      · omega
    · repeat refine cr ?_
      refine ends_id ?_
      refine endK [] (h2 := ?_) (h3 := ?_) (nd := ?_)
      all_goals (repeat' first|exact ce0|refine ce ?_|refine ce2 ?_ ?_|exact SVLe.refl|refine ceb ?_)
      all_goals first | exact (show nodupB _ = true from rfl) | exact Or.inr rfl | (omega)
@[irreducible] def eqSs (a b : List Bs) : Bool := decide (a = b)
theorem eqStringS_ok (xs ys : List Bs) (hx : (xs.length : Int) ≤ 1048576) (hy : (ys.length : Int) ≤ 1048576) : Does Tryd.prog 11 [.one (shS xs),.one (shS ys)] [] (.one (boo (eqSs xs ys))) [] := by
  refine does_of (k := 0) Tryd.func11 rfl Tryd.ntmps11 rfl rfl fun w F0 S0 ρ0 => ?_
  dsimp only [argT,argH]
  repeat' first|(apply p3;(first|exact pu1|exact puN|exact a_ne rfl rfl);exact rfl)|refine cd ?_|((refine g_cond rfl (fun hc => ?_) (fun hc => ?_)) <;> (try simp only [dcB] at hc) <;> (try first|contradiction|(exfalso;omega)))
  · repeat refine cr ?_
    refine ends_id ?_
    refine endK [] (h2 := ?_) (h3 := ?_) (nd := ?_)
    all_goals (repeat' first|exact ce0|refine ce ?_|refine ce2 ?_ ?_|exact SVLe.refl|refine ceb ?_)
    all_goals first | exact (show nodupB _ = true from rfl) | exact Or.inr rfl | ((symm; unfold eqSs; rw [decide_eq_false_iff_not]; rintro rfl; omega))
  refine g_loop_id ?_
  refine loopK [0,1,4] [] (fun i : Int => 0 ≤ i ∧ i ≤ xs.length ∧ xs.take i.toNat = ys.take i.toNat) (fun i => [(5,.one (int i))]) (fun _ => []) (fun i => (xs.length - i).toNat) (0 : Int) [] (hI := ?_) (hr := ?_)
  · exact ⟨by simp,by simp,by simp⟩
  · rintro i ⟨h0,h1,h2⟩
    dsimp only [List.cons_append,List.nil_append] at *
    skip
    repeat' first|(apply p3;(first|exact pu1|exact puN|exact puC|exact a_add rfl rfl (by omega) (by omega));exact rfl)|refine cd ?_|(apply g_drN (id := 6) okM [[],[],[0,1],[0,1,2],[],[],[4,5],[4,5,6],[0,1,2,3,4,5,6,7]] [([],[]),([],[]),([],[]),([],[]),([],[]),([],[]),([],[]),([],[]),([],[])] 0;(focus (refine dp 0 0 [18,21,22,23,24] [] pu1 ?_;refine dp 1 0 [17,21,22,23,24] [] pu1 ?_;refine dp 2 3 [21,22,23,24] [] puI ?_;refine dp 3 7 [21,22,23,24] [] (by exact a_pure (sv := .one _) rfl) ?_;refine dp 4 0 [17,18,19,20,22] [] pu1 ?_;refine dp 5 0 [17,18,19,20,21] [] pu1 ?_;refine dp 6 3 [17,18,19,20] [] puI ?_;refine dp 7 7 [17,18,19,20] [] (by exact a_pure (sv := .one _) rfl) ?_;refine dp 8 255 [] [] (a_neT rfl rfl) ?_;(refine d_nil ?_;refine dN ?_)));any_goals kernel_rfl)|((refine g_cond rfl (fun hc => ?_) (fun hc => ?_)) <;> (try simp only [dcB] at hc) <;> (try first|contradiction|(exfalso;omega)))
    · repeat refine cr ?_
      refine ends_id ?_
      refine endK [] (h2 := ?_) (h3 := ?_) (nd := ?_)
      all_goals (repeat' first|exact ce0|refine ce ?_|refine ce2 ?_ ?_|exact SVLe.refl|refine ceb ?_)
      all_goals first | exact (show nodupB _ = true from rfl) | exact Or.inr rfl | ((symm; unfold eqSs; rw [decide_eq_false_iff_not]; rintro rfl; simp_all))
    · refine q_again (i + 1) [] (by exact stk) ?_ ?_
      · exact ⟨by omega,by omega,take_next h0 (by omega) (by omega) h2 (by simp_all)⟩
      · omega
    · have hl := take_end (by omega) (by omega) h2
      repeat refine cr ?_
      refine ends_id ?_
      refine endK [] (h2 := ?_) (h3 := ?_) (nd := ?_)
      all_goals (repeat' first|exact ce0|refine ce ?_|refine ce2 ?_ ?_|exact SVLe.refl|refine ceb ?_)
      all_goals first | exact (show nodupB _ = true from rfl) | exact Or.inr rfl | ((symm; unfold eqSs; rw [decide_eq_true_eq]; exact hl))
end Go.Proofs.YtbblkhjjgnpbaaaDoor
end
section
set_option linter.unusedVariables false
set_option linter.unusedSimpArgs false
set_option maxRecDepth 100000
set_option maxHeartbeats 4000000
namespace Go.Proofs.YtbblkhjjgnpbaaaDoor
open Go Foot
abbrev eWn : Enc (List Int) := ⟨1,fun l => [.sl true 1 (rows eI l)],fun _ => rfl,by decide⟩
abbrev roWn (l : List (List Int)) : GB := .row 1 (rows eWn l)
def totL {α : Type} (sz : α → Int) : List α → Int
  | [] => 0
  | x :: xs => sz x + totL sz xs
def mkL {α : Type} (sz : α → Int) (mk : Int → α → α) : Int → List α → List α
  | _,[] => []
  | k,x :: xs => mk k x :: mkL sz mk (k + sz x) xs
theorem totL_app {α : Type} (sz : α → Int) : ∀ (xs ys : List α),totL sz (xs ++ ys) = totL sz xs + totL sz ys
  | [],ys => by simp [totL]
  | x :: xs,ys => by simp [totL,totL_app sz xs ys]; omega
theorem mkL_app {α : Type} (sz : α → Int) (mk : Int → α → α) : ∀ (k : Int) (xs ys : List α),mkL sz mk k (xs ++ ys) = mkL sz mk k xs ++ mkL sz mk (k + totL sz xs) ys
  | k,[],ys => by simp [mkL,totL]
  | k,x :: xs,ys => by simp [mkL,totL,mkL_app sz mk _ xs ys,Int.add_assoc]
theorem mkL_len {α : Type} (sz : α → Int) (mk : Int → α → α) : ∀ (k : Int) (xs : List α),(mkL sz mk k xs).length = xs.length
  | k,[] => rfl
  | k,x :: xs => by simp [mkL,mkL_len sz mk _ xs]
theorem totL_next {α : Type} (sz : α → Int) {xs : List α} {i : Int} (h0 : 0 ≤ i) (h : i.toNat < xs.length) : totL sz (xs.take (i + 1).toNat) = totL sz (xs.take i.toNat) + sz (xs[i.toNat]) := by
  rw [show (i + 1).toNat = i.toNat + 1 by omega,List.take_succ_eq_append_getElem h,totL_app]
  simp [totL]
theorem totL_bd {α : Type} (sz : α → Int) (b : Int) : ∀ {xs : List α},(∀ x ∈ xs,0 ≤ sz x ∧ sz x ≤ b) → 0 ≤ totL sz xs ∧ totL sz xs ≤ xs.length * b
  | [],_ => by simp [totL]
  | x :: xs,h => by
    have h1 := totL_bd sz b (xs := xs) (fun y hy => h y (by simp [hy]))
    have h2 := h x (by simp)
    simp only [totL,List.length_cons,Int.natCast_add,Int.add_mul,Int.natCast_one,Int.one_mul]
    omega
def mkT {α : Type} (sz : α → Int) (mk : Int → α → α) (k : Int) (xs : List α) (i : Nat) : List α := mkL sz mk k (xs.take i) ++ xs.drop i
theorem mkT_len {α : Type} (sz : α → Int) (mk : Int → α → α) (k : Int) (xs : List α) (i : Nat) (h : i ≤ xs.length) : (mkT sz mk k xs i).length = xs.length := by
  unfold mkT; rw [List.length_append,mkL_len,List.length_take,List.length_drop]; omega
theorem mkT_get {α : Type} (sz : α → Int) (mk : Int → α → α) (k : Int) (xs : List α) (i : Nat) (h : i < xs.length) (h' : i < (mkT sz mk k xs i).length) : (mkT sz mk k xs i)[i]'h' = xs[i] := by
  have e : (mkL sz mk k (xs.take i)).length = i := by rw [mkL_len,List.length_take]; omega
  have e2 : (mkT sz mk k xs i)[i]? = some xs[i] := by
    unfold mkT
    rw [List.getElem?_append_right (by omega),e,Nat.sub_self,List.getElem?_drop,Nat.add_zero,List.getElem?_eq_getElem h]
  rw [List.getElem?_eq_getElem h'] at e2
  exact Option.some.inj e2
theorem mkT_0 {α : Type} (sz : α → Int) (mk : Int → α → α) (k : Int) (xs : List α) : mkT sz mk k xs 0 = xs := by unfold mkT; simp [mkL]
theorem mkT_next {α : Type} (sz : α → Int) (mk : Int → α → α) (k : Int) (xs : List α) (i : Nat) (h : i < xs.length) : (mkT sz mk k xs i).set i (mk (k + totL sz (xs.take i)) xs[i]) = mkT sz mk k xs (i + 1) := by
  have e : (mkL sz mk k (xs.take i)).length = i := by rw [mkL_len,List.length_take]; omega
  unfold mkT
  rw [List.set_append_right _ _ (by omega),e,Nat.sub_self,List.drop_eq_getElem_cons h,List.set_cons_zero,List.take_succ_eq_append_getElem h,mkL_app]
  simp [mkL]
theorem mkT_end {α : Type} (sz : α → Int) (mk : Int → α → α) (k : Int) (xs : List α) : mkT sz mk k xs xs.length = mkL sz mk k xs := by unfold mkT; simp
abbrev szw (x : List Int) : Int := x.length
abbrev mkw (k : Int) (x : List Int) : List Int := marks k x.length
@[irreducible] def totW (xs : List (List Int)) : Int := totL szw xs
@[irreducible] def mksW (k : Int) (xs : List (List Int)) : List (List Int) := mkL szw mkw k xs
theorem preD7 {p : Prop} (h : p := by first | with_reducible assumption | omega | (simp only [List.length_append,List.length_cons,List.length_nil,List.length_set,List.length_replicate,List.length_take,List.length_drop,List.length_tail,List.length_dropLast,List.length_reverse] at *; omega) | exact mem_len (by assumption) (by omega) | (with_reducible refine Int.le_trans (Int.ofNat_le.2 (trimR_len _)) ?_; simp only [List.length_cons,List.length_tail]; omega) | (exact (ruAt_ok (by assumption) (by assumption) (by assumption)).2.1) | (exact (ruAt_ok (by assumption) (by assumption) (by assumption)).2.1) | (have := vMach_bd (by assumption); omega) | (simp only [mC_ch,mC_tu]; omega) | (have := vTag_bd (by assumption); omega) | (have := (‹Gd _ _›).le; omega) | (exact tgHalts_no (by assumption)) | (exact tgHead (by assumption) (by assumption) (by assumption)) | (exact Int.le_trans (tgStep_gd (by assumption) (by assumption) (by assumption) (by assumption)).le (by decide)) | (exact vTag_r (by assumption)) | (with_reducible refine Int.le_trans (Int.ofNat_le.2 (pushL_len _ _)) ?_; simp only [List.length_dropLast]; omega) | exact ls_at (by assumption) (by omega) | exact pt_gd (by assumption) | exact lv_at (by assumption) (by omega) | exact pt_gd (lv_at (by assumption) (by omega)) | exact (ask_ok (by assumption)).1 | exact (ask_ok (by assumption)).2.1 | exact (ask_ok (by assumption)).2.2.1 | exact (ask_ok (by assumption)).2.2.2 | (simp only [marks_len]; omega) | (simp only [marksR_len]; omega) | exact lns_at (by assumption) (by omega) | exact bgs_at (by assumption) (by omega) | trivial) : p := h
theorem toInt64SSn_ok (xs : List (List Int)) (hx : (xs.length : Int) ≤ 1048576) (hxs : ∀ x ∈ xs,(x.length : Int) ≤ 1048576) : Does Tryd.prog 37 [.one (shW xs)] [] (.one (.gv 0)) [roWn xs] := by
  refine does_of (k := 0) Tryd.func37 rfl Tryd.ntmps37 rfl rfl fun w F0 S0 ρ0 => ?_
  dsimp only [argT,argH]
  repeat' first|(apply n3;exact a_make (fE rfl) (fZ rfl) (fP rfl) (by decide) rfl rfl (by omega) rfl (by omega) (by omega) (rows_rep eWo none _);exact rfl;refine dA ?_)|(apply p3;(first|exact pu1|exact puN);exact rfl)|refine cd ?_
  first | refine g_conv (t_nilR (i := 0) (E' := eWn) ([] : List Int) rfl (by repeat (first | exact trivial | exact nilOwn (by decide) | exact (fun _ _ _ _ h => h) | refine And.intro ?_ ?_))) ?_ | refine o_conv (t_nilR (i := 0) (E' := eWn) ([] : List Int) rfl (by repeat (first | exact trivial | exact nilOwn (by decide) | exact (fun _ _ _ _ h => h) | refine And.intro ?_ ?_))) ?_
  refine g_loop_id ?_
  refine loopK [0,2,3] [0] (fun x : Int × List (List Int) => 0 ≤ x.1 ∧ x.1 ≤ xs.length ∧ x.2.length = xs.length ∧ ∀ k (h : k < xs.length),k < x.1 → x.2[k]? = some xs[k]) (fun x => [(4,.one (int x.1))]) (fun x => [(0,.row 1 (rows eWn x.2))]) (fun x => (xs.length - x.1).toNat) ((0 : Int),List.replicate xs.length ([] : List Int)) [0] (hI := ?_) (hr := ?_)
  · exact ⟨by simp,by simp,by simp,by intro k h h'; simp at h'; omega⟩
  · rintro ⟨i,l⟩ ⟨h0,h1,h2,h3⟩
    dsimp only [List.cons_append,List.nil_append] at *
    skip
    repeat' first|(apply p3;(first|exact pu1|exact puN|exact puC);exact rfl)|refine cdn ?_|refine g_reg (id := 3) ?_|refine g_reg (id := 6) ?_|((refine g_cond rfl (fun hc => ?_) (fun hc => ?_)) <;> (try simp only [dcB] at hc) <;> (try first|contradiction|(exfalso;omega)))
    · first | refine g_conv (t_qE (i := 0) (i.toNat) bnd rfl) ?_ | refine o_conv (t_qE (i := 0) (i.toNat) bnd rfl) ?_
      try dsimp only [List.map_cons,List.map_nil,List.set_cons_zero,List.set_cons_succ,List.length_cons,List.length_nil,List.cons_append,List.nil_append,Nat.reduceAdd,setRow]
      repeat' first|(apply p3;(first|exact pu1|exact puX|exact puI);exact rfl)|refine cdn ?_|refine g_reg (id := 5) ?_|(apply w3;(exact a_stQE 0 rfl rfl rfl rfl (fN rfl rfl) (Nat.le_of_ble_eq_true rfl) (Nat.le_of_ble_eq_true rfl) rfl bnd bnd);exact rfl;refine dS ?_)|(apply c4 1;exact callK1 (θ := []) (hD := (toInt64S_ok _ preD7));exact rfl;exact rfl;exact rfl;refine dM ?_)
      first | refine g_conv (t_close1 (i := 0) (j := 1) (k := 0) (m := 0) rfl rfl rfl rfl rfl) ?_ | refine o_conv (t_close1 (i := 0) (j := 1) (k := 0) (m := 0) rfl rfl rfl rfl rfl) ?_
      try dsimp only [List.map_cons,List.map_nil,List.set_cons_zero,List.set_cons_succ,List.length_cons,List.length_nil,List.cons_append,List.nil_append,Nat.reduceAdd,setRow]
      first | refine g_conv (t_uE (i := 0) (xs[i.toNat]'(by omega)) bnd rfl rfl) ?_ | refine o_conv (t_uE (i := 0) (xs[i.toNat]'(by omega)) bnd rfl rfl) ?_
      repeat' first|(apply p3;(first|exact pu1|exact a_add rfl rfl (by omega) (by omega));exact rfl)|refine cd ?_
      refine q_again (i + 1,l.set i.toNat (xs[i.toNat]'(by omega))) [0] (by exact stk) ?_ ?_
      · refine ⟨by dsimp only; omega,by dsimp only; omega,by simp [h2],fun k h h' => ?_⟩
        dsimp only at h' ⊢
        rw [List.getElem?_set]
        split
        · rename_i e
          subst e
          rw [if_pos (by omega)]
        · exact h3 k h (by omega)
      · dsimp only; omega
    · have hl : l = xs := by
        apply List.ext_getElem?
        intro k
        by_cases hk : k < xs.length
        · rw [h3 k hk (by omega),List.getElem?_eq_getElem hk]
        · rw [List.getElem?_eq_none (by omega),List.getElem?_eq_none (by omega)]
      subst hl
      skip
      repeat refine cr ?_
      refine ends_id ?_
      refine endK [?_] (h2 := ?_) (h3 := ?_) (nd := ?_)
      rotate_left 1
      all_goals (repeat' first|exact ce0|refine ce ?_|refine ce2 ?_ ?_|exact SVLe.refl|refine ceb ?_)
      all_goals first | exact (show nodupB _ = true from rfl) | exact Or.inr rfl | (rfl)
theorem markInt64SSn_ok (xs : List (List Int)) (k : Int) (h1 : 0 ≤ k) (h2 : k + totW xs ≤ 4611686018427387904) (hx : (xs.length : Int) ≤ 4611686018427) (hxs : ∀ x ∈ xs,(x.length : Int) ≤ 4611686018427) : Does Tryd.prog 44 [.one (.gv 0),.one (int k)] [roWn xs] (.one (int (k + totW xs))) [roWn (mksW k xs)] := by
  refine does_of (k := 1) Tryd.func44 rfl Tryd.ntmps44 rfl rfl fun w F0 S0 ρ0 => ?_
  dsimp only [argT,argH]
  repeat' first|(apply p3;(exact pu1);exact rfl)|refine cd ?_
  refine g_loop_id ?_
  refine loopK [0,4] [0] (fun y : Int × Int × List (List Int) => 0 ≤ y.1 ∧ y.1 ≤ xs.length ∧ y.2.1 = k + totL szw (xs.take y.1.toNat) ∧ y.2.2 = mkT szw mkw k xs y.1.toNat) (fun y => [(5,.one (int y.1)),(1,.one (int y.2.1))]) (fun y => [(0,roWn y.2.2)]) (fun y => (xs.length - y.1).toNat) ((0 : Int),k,xs) [0] (hI := ?_) (hr := ?_)
  · exact ⟨by simp,by simp,by simp [totL],(mkT_0 _ _ _ _).symm⟩
  · rintro ⟨i,k',l⟩ ⟨k1,k2,k3,k4⟩
    dsimp only [List.cons_append,List.nil_append] at *
    skip
    repeat' first|(apply p3;(first|exact pu1|exact puN|exact puC);exact rfl)|refine cdn ?_|refine g_reg (id := 2) ?_|refine g_reg (id := 5) ?_|((refine g_cond rfl (fun hc => ?_) (fun hc => ?_)) <;> (try simp only [dcB] at hc) <;> (try first|contradiction|(exfalso;omega)))
    · have hl := mkT_len szw mkw k xs i.toNat (by omega)
      rw [← k4] at hl
      have hi : i.toNat < xs.length := by omega
      have hg : l[i.toNat]'(by omega) = xs[i.toNat] := by subst k4; exact mkT_get _ _ _ _ _ hi _
      have hb := totL_bd szw 4611686018427 (xs := xs.take i.toNat) (fun x hx => ⟨by unfold szw; omega,hxs x (List.mem_of_mem_take hx)⟩)
      have hx2 := hxs _ (List.getElem_mem hi)
      have hn := totL_next szw k1 (xs := xs) hi
      have ht := totL_app szw (xs.take (i + 1).toNat) (xs.drop (i + 1).toNat)
      have hd := totL_bd szw 4611686018427 (xs := xs.drop (i + 1).toNat) (fun x hx => ⟨by unfold szw; omega,hxs x (List.mem_of_mem_drop hx)⟩)
      rw [List.take_append_drop] at ht
      unfold totW at h2
      have hs : szw xs[i.toNat] = (xs[i.toNat].length : Int) := rfl
      first | refine g_conv (t_qE (i := 0) (i.toNat) bnd rfl) ?_ | refine o_conv (t_qE (i := 0) (i.toNat) bnd rfl) ?_
      try dsimp only [List.map_cons,List.map_nil,List.set_cons_zero,List.set_cons_succ,List.length_cons,List.length_nil,List.cons_append,List.nil_append,Nat.reduceAdd,setRow]
      first | refine g_conv (t_open1 (i := 0) (k := 0) rfl rfl rfl) ?_ | refine o_conv (t_open1 (i := 0) (k := 0) rfl rfl rfl) ?_
      try dsimp only [List.map_cons,List.map_nil,List.set_cons_zero,List.set_cons_succ,List.length_cons,List.length_nil,List.cons_append,List.nil_append,Nat.reduceAdd,setRow]
      simp only [hg]
      repeat' first|(apply p3;(first|exact pu1|exact puX|exact puQ);exact rfl)|refine cdn ?_|refine g_reg (id := 4) ?_|(apply c4 0;exact callK1 (θ := [_]) (hD := (markInt64S_ok _ _ preD7 preD7 preD7));exact rfl;exact rfl;exact rfl;refine dM ?_)
      first | refine g_conv (t_close1 (i := 0) (j := 1) (k := 0) (m := 0) rfl rfl rfl rfl rfl) ?_ | refine o_conv (t_close1 (i := 0) (j := 1) (k := 0) (m := 0) rfl rfl rfl rfl rfl) ?_
      try dsimp only [List.map_cons,List.map_nil,List.set_cons_zero,List.set_cons_succ,List.length_cons,List.length_nil,List.cons_append,List.nil_append,Nat.reduceAdd,setRow]
      first | refine g_conv (t_uE (i := 0) (marks k' xs[i.toNat].length) bnd rfl rfl) ?_ | refine o_conv (t_uE (i := 0) (marks k' xs[i.toNat].length) bnd rfl rfl) ?_
      repeat' first|(apply p3;(first|exact pu1|exact a_add rfl rfl (by omega) (by omega));exact rfl)|refine cd ?_
      refine q_again (i + 1,k' + xs[i.toNat].length,l.set i.toNat (marks k' xs[i.toNat].length)) [0] (by exact stk) ?_ ?_
      · refine ⟨by dsimp only; omega,by dsimp only; omega,by dsimp only; omega,?_⟩
        dsimp only
        rw [show (i + 1).toNat = i.toNat + 1 by omega,← mkT_next szw mkw k xs i.toNat hi,← k3,← k4]
      · dsimp only; omega
    · have hl := mkT_len szw mkw k xs i.toNat (by omega)
      rw [← k4] at hl
      have hi : i.toNat = xs.length := by omega
      rw [hi,mkT_end] at k4
      rw [hi,List.take_length] at k3
      have e1 : totW xs = totL szw xs := by unfold totW; rfl
      have e2 : mksW k xs = mkL szw mkw k xs := by unfold mksW; rfl
      rw [e1,e2,← k3,← k4]
      skip
      repeat refine cr ?_
      refine ends_id ?_
      refine endK [] (h2 := ?_) (h3 := ?_) (nd := ?_)
      all_goals (repeat' first|exact ce0|refine ce ?_|refine ce2 ?_ ?_|(refine Or.inr (bx_eq rfl rfl ?_);(try dsimp only [C.ren,C.ren.all]);(try exact rfl))|exact SVLe.refl|refine ceb ?_)
      all_goals first | exact (show nodupB _ = true from rfl) | exact Or.inr rfl | (rfl)
end Go.Proofs.YtbblkhjjgnpbaaaDoor
end
section
set_option linter.unusedVariables false
set_option linter.unusedSimpArgs false
set_option maxRecDepth 100000
set_option maxHeartbeats 4000000
namespace Go.Proofs.YtbblkhjjgnpbaaaDoor
open Go Foot
theorem preD13 {p : Prop} (h : p := by first | with_reducible assumption | omega | (simp only [List.length_append,List.length_cons,List.length_nil,List.length_set,List.length_replicate,List.length_take,List.length_drop,List.length_tail,List.length_dropLast,List.length_reverse] at *; omega) | exact mem_len (by assumption) (by omega) | (with_reducible refine Int.le_trans (Int.ofNat_le.2 (trimR_len _)) ?_; simp only [List.length_cons,List.length_tail]; omega) | (exact (ruAt_ok (by assumption) (by assumption) (by assumption)).2.1) | (exact (ruAt_ok (by assumption) (by assumption) (by assumption)).2.1) | (have := vMach_bd (by assumption); omega) | (simp only [mC_ch,mC_tu]; omega) | (have := vTag_bd (by assumption); omega) | (have := (‹Gd _ _›).le; omega) | (exact tgHalts_no (by assumption)) | (exact tgHead (by assumption) (by assumption) (by assumption)) | (exact Int.le_trans (tgStep_gd (by assumption) (by assumption) (by assumption) (by assumption)).le (by decide)) | (exact vTag_r (by assumption)) | (with_reducible refine Int.le_trans (Int.ofNat_le.2 (pushL_len _ _)) ?_; simp only [List.length_dropLast]; omega) | exact ls_at (by assumption) (by omega) | exact pt_gd (by assumption) | exact lv_at (by assumption) (by omega) | exact pt_gd (lv_at (by assumption) (by omega)) | exact (ask_ok (by assumption)).1 | exact (ask_ok (by assumption)).2.1 | exact (ask_ok (by assumption)).2.2.1 | exact (ask_ok (by assumption)).2.2.2 | (simp only [marks_len]; omega) | (simp only [marksR_len]; omega) | exact lns_at (by assumption) (by omega) | exact bgs_at (by assumption) (by omega) | trivial) : p := h
theorem toTagN_ok (t : Tg) (hx : (t.ha.length : Int) ≤ 1048576) (hy : (t.wo.length : Int) ≤ 1048576) (hys : ∀ x ∈ t.wo,(x.length : Int) ≤ 1048576) : Does Tryd.prog 8 [.agg (tgC t)] [] (.agg [int t.de,.gv 0,.gv 1]) [roWn t.wo,roI t.ha] := by
  refine does_of (k := 0) Tryd.func8 rfl Tryd.ntmps8 rfl rfl fun w F0 S0 ρ0 => ?_
  dsimp only [argT,argH]
  repeat' first|(apply n3;exact a_new (gb := .bx _) rfl;exact rfl;refine dA ?_)|(apply p3;exact puL;exact rfl)|refine cd ?_|(apply w3;(exact a_st_bx rfl rfl rfl rfl (fN rfl rfl) (Nat.le_of_ble_eq_true rfl) rfl);exact rfl;refine dS ?_)|(apply c4 1;exact callK1 (θ := []) (hD := (toInt64SSn_ok _ preD13 preD13));exact rfl;exact rfl;exact rfl;refine dM ?_)|(apply c4 1;exact callK1 (θ := []) (hD := (toInt64S_ok _ preD13));exact rfl;exact rfl;exact rfl;refine dM ?_)
  repeat refine cr ?_
  refine ends_id ?_
  refine endK [?_,?_] (h2 := ?_) (h3 := ?_) (nd := ?_)
  rotate_left 2
  all_goals (repeat' first|exact ce0|refine ce ?_|refine ce2 ?_ ?_|exact SVLe.refl|refine ceb ?_)
  all_goals first | exact (show nodupB _ = true from rfl) | exact Or.inr rfl | (rfl)
theorem totW_bdd {xs : List (List Int)} (h1 : (xs.length : Int) ≤ 1048576) (h : ∀ x ∈ xs,(x.length : Int) ≤ 1048576) : 0 ≤ totW xs ∧ totW xs ≤ 1099511627776 := by
  have := totL_bd szw 1048576 (xs := xs) fun x hx => ⟨by unfold szw; omega,h x hx⟩
  have e : totW xs = totL szw xs := by unfold totW; rfl
  rw [e]
  omega
theorem markTagN_ok (t : Tg) (k : Int) (h1 : 0 ≤ k) (h2 : k ≤ 1152921504606846976) (hx : (t.ha.length : Int) ≤ 1048576) (hy : (t.wo.length : Int) ≤ 1048576) (hys : ∀ x ∈ t.wo,(x.length : Int) ≤ 1048576) : Does Tryd.prog 14 [.agg [int t.de,.gv 0,.gv 1],.one (int k)] [roWn t.wo,roI t.ha] (.one (int (k + totW t.wo + t.ha.length))) [roWn (mksW k t.wo),roI (marks (k + totW t.wo) t.ha.length)] := by
  have ht := totW_bdd hy hys
  have hys2 : ∀ x ∈ t.wo,(x.length : Int) ≤ 4611686018427 := fun x hx => by have := hys x hx; omega
  refine does_of (k := 2) Tryd.func14 rfl Tryd.ntmps14 rfl rfl fun w F0 S0 ρ0 => ?_
  dsimp only [argT,argH]
  repeat' first|(apply n3;exact a_new (gb := .bx _) rfl;exact rfl;refine dA ?_)|(apply p3;(exact pu1);exact rfl)|refine cd ?_|(apply c4 0;exact callK1 (θ := [_]) (hD := (markInt64SSn_ok t.wo k h1 (by omega) (by omega) hys2));exact rfl;exact rfl;exact rfl;refine dM ?_)|(apply c4 0;exact callK1 (θ := [_]) (hD := (markInt64S_ok t.ha (k + totW t.wo) (by omega) (by omega) (by omega)));exact rfl;exact rfl;exact rfl;refine dM ?_)
  repeat refine cr ?_
  refine ends_id ?_
  refine endK [] (h2 := ?_) (h3 := ?_) (nd := ?_)
  all_goals (repeat' first|exact ce0|refine ce ?_|refine ce2 ?_ ?_|(refine Or.inr (bx_eq rfl rfl ?_);(try dsimp only [C.ren,C.ren.all]);(try exact rfl))|exact SVLe.refl|refine ceb ?_)
  all_goals first | exact (show nodupB _ = true from rfl) | exact Or.inr rfl | (rfl)
end Go.Proofs.YtbblkhjjgnpbaaaDoor
end
