/- Parts of the proof (15 of 18). -/
import Derived.Lib.AppendIntMem
import Derived.Test.YtjmlbmmbionmcaaDoorQ14
section
set_option linter.unusedVariables false
set_option linter.unusedSimpArgs false
set_option maxRecDepth 100000
namespace Go.Proofs.YtjmlbmmbionmcaaDoor
open Go Foot Go.Shelf Go.RowKit
theorem repA_2 {w : World} {S : Foot} {ρ : Env} {v u : Value} {vs : List Value} (h : RepA w S ρ [.one (.d (.sc v)),.one (.d (.sc u))] vs) : vs = [v,u] := by
  simp only [RepA,RepS,RepC,Rep] at h
  obtain ⟨_,_,rfl,⟨rfl,_⟩,_,_,rfl,⟨rfl,_⟩,rfl⟩ := h
  rfl
theorem does_ext {P : Program} {f : Nat} {ags : List SV} {av : List Value} {res : SV} {rv : Value} (ha : ∀ w S ρ vs,RepA w S ρ ags vs → vs = av) (hr : ∀ w S ρ,RepS w S ρ res rv)
    (hc : ∀ (w : World) (S : Foot),Tabs w S → Calls P f av.toArray w fun en w' => en = .returned rv ∧ Below w.heap.size w w') : Does P f ags [] res [] := by
  intro vs w S ρ F hA hG
  have := ha _ _ _ _ hA
  subst this
  refine (hc w S hG.tab).mono ?_
  rintro en w' ⟨rfl,hb⟩
  refine ⟨rv,no,ρ,F,rfl,?_,hr _ _ _⟩
  refine ⟨⟨hb.os,hb.tape,hb.output,hb.size,fun k hk _ => hb.block k hk,fun k o hk _ => ?_⟩,no_le _,fun _ _ h => h.elim,by simp,fun i u _ h => h,hG.new,fun i gb hi => by simp at hi,fun i j hi => by simp at hi,fun i hi => by simp at hi,fun i hi => by simp at hi,fun i hi => by simp at hi⟩
  have e := hb.block k hk
  simp [World.cell?,World.frozen?,mapAt,e]
section
variable {g : Gh} {st : St} {dst : Option Tmp} {ty : TypeId} {pos : String} {after : Array Edge} {guard : Option (Nat × Bool)} {i : Nat}
end
end Go.Proofs.YtjmlbmmbionmcaaDoor
end
section
set_option linter.unusedVariables false
set_option linter.unusedSimpArgs false
set_option maxRecDepth 100000
set_option maxHeartbeats 4000000
namespace Go.Proofs.YtjmlbmmbionmcaaDoor
open Go Foot Go.Shelf Go.RowKit
theorem FormatInt_ok (n : Int) (h0 : -9223372036854775808 ≤ n) (h1 : n ≤ 9223372036854775807) : Does Tryd.prog 67 [.one (int n),.one (int 10)] [] (.one (str (Lib.itoa n))) [] :=
  does_ext (av := [.int .i64 n,.int .i64 10]) (rv := sv (Lib.itoa n)) (fun w S ρ vs => repA_2) (fun w S ρ => ⟨rfl,rfl⟩) fun w S hT => by
    obtain ⟨⟨cs,T,fr,ht,hcs⟩,_⟩ := hT _ List.mem_cons_self
    dsimp only at hcs
    subst hcs
    refine (Any.strconv_FormatInt_10 Tryd.laysM173 n h0 h1 w ?_).mono ?_
    · dsimp only at ht
      exact Option.bind_eq_some_iff.2 ⟨_,by kernel_rfl,by rw [ht]; simp [Lib.pow10Tab]⟩
    · rintro en w' ⟨rfl,k,os,rfl⟩
      exact ⟨rfl,Lib.below_grow _ w (Nat.le_refl _) k os⟩
theorem reps_S {w : World} {S F : Foot} : ∀ {l : List Bs} {us : List Value},Reps w S (rows eS l) us F → us = l.map fun b => sv b
  | [],us,h => by simpa [rows,Reps] using h
  | n :: l,us,h => by
    have e : rows eS (n :: l) = .sc (sv n) :: rows eS l := rfl
    rw [e] at h
    simp only [Reps] at h
    obtain ⟨v,us',F1,F2,rfl,_,_,_,h1,h2⟩ := h
    simp only [Rep] at h1
    rw [h1.1,reps_S h2,List.map_cons]
@[irreducible] def joinT (l : List Bs) (sep : Bs) : Bs := Lib.join l sep
theorem Join_ok (l : List Bs) (sep : Bs) (hl : (l.length : Int) ≤ 1048576) (hj : ((joinT l sep).length : Int) ≤ 140737488355328) : Does Tryd.prog 64 [.one (shS l),.one (str sep)] [] (.one (str (joinT l sep))) [] := by
  intro vs w S ρ F hA hG
  simp only [RepA,RepS,RepC] at hA
  obtain ⟨v0,_,rfl,h0,v1,_,rfl,h1,rfl⟩ := hA
  simp only [Rep] at h1
  obtain ⟨rfl,_⟩ := h1
  simp only [Rep] at h0
  obtain ⟨a,len,cap,rfl,hlen,_,hcap,hc⟩ := h0
  rw [rows_len] at hlen
  have hlen' : l.length = len := by simpa using hlen
  have key : Calls Tryd.prog 64 #[.slice a len cap,sv sep] w fun e w' => e = .returned (sv (joinT l sep)) ∧ Below w.heap.size w w' := by
    rcases hc with ⟨rfl,_⟩ | ⟨b,off,us,G,rfl,hli,hr,ho⟩
    · have h0 : len = 0 := by omega
      have hl0 : l = [] := List.eq_nil_of_length_eq_zero (by omega)
      subst h0 hl0
      refine (Any.strings_Join_none Tryd.lays156 Tryd.Builder_Extra_156 a 0 ⟨sep.toArray⟩ w).mono ?_
      rintro e w' ⟨rfl,rfl⟩
      exact ⟨by unfold joinT; rfl,Below.refl _ _⟩
    · have hus := reps_S hr
      subst hus
      have hjj : joinT l sep = Lib.join ((l.map fun b => (⟨b.toArray⟩ : ByteArray)).map (·.data.toList)) (⟨sep.toArray⟩ : ByteArray).data.toList := by
        unfold joinT
        rw [List.map_map]
        congr 1
        exact (List.map_id l).symm
      have hbk : b < w.heap.size ∨ l = [] := by
        cases l with
        | nil => exact .inr rfl
        | cons x l =>
          have := hli 0 (sv x) rfl
          refine .inl ?_
          unfold World.cell? at this
          rcases Nat.lt_or_ge b w.heap.size with h | h
          · exact h
          · simp [Array.getElem?_eq_none h] at this
      rcases hbk with hbk | hl0
      · have hx := Any.strings_Join Tryd.lays156 Tryd.Builder_Extra_156 b off cap (l.map fun b => (⟨b.toArray⟩ : ByteArray)) ⟨sep.toArray⟩ w (fun j x hj => by
          rw [List.getElem?_map] at hj
          cases hg : l[j]? with
          | none => rw [hg] at hj; cases hj
          | some y =>
            rw [hg] at hj
            cases hj
            exact hli j (sv y) (by rw [List.getElem?_map,hg]; rfl)) hbk (by rw [List.length_map]; omega) (by rw [List.length_map]; omega) (by rw [← hjj]; omega)
        rw [List.length_map,hlen',← hjj] at hx
        exact hx
      · subst hl0
        simp at hlen'
        subst hlen'
        refine (Any.strings_Join_none Tryd.lays156 Tryd.Builder_Extra_156 (some ⟨b,off,none⟩) cap ⟨sep.toArray⟩ w).mono ?_
        rintro e w' ⟨rfl,rfl⟩
        exact ⟨by unfold joinT; rfl,Below.refl _ _⟩
  refine key.mono ?_
  rintro en w' ⟨rfl,hb⟩
  refine ⟨_,no,ρ,F,rfl,?_,⟨rfl,rfl⟩⟩
  refine ⟨⟨hb.os,hb.tape,hb.output,hb.size,fun k hk _ => hb.block k hk,fun k o hk _ => ?_⟩,no_le _,fun _ _ h => h.elim,by simp,fun i u _ h => h,hG.new,fun i gb hi => by simp at hi,fun i j hi => by simp at hi,fun i hi => by simp at hi,fun i hi => by simp at hi,fun i hi => by simp at hi⟩
  have e := hb.block k hk
  simp [World.cell?,World.frozen?,mapAt,e]
end Go.Proofs.YtjmlbmmbionmcaaDoor
end
section
set_option linter.unusedVariables false
set_option linter.unusedSimpArgs false
set_option maxRecDepth 100000
set_option maxHeartbeats 4000000
namespace Go.Proofs.YtjmlbmmbionmcaaDoor
open Go Foot
def drev (u : Nat) : List Int := if h : u = 0 then [] else (48 + (u % 10 : Nat) : Int) :: drev (u / 10)
termination_by u
decreasing_by omega
theorem drev_0 : drev 0 = [] := by rw [drev]; simp
theorem drev_s {u : Nat} (h : u ≠ 0) : drev u = (48 + (u % 10 : Nat) : Int) :: drev (u / 10) := by rw [drev]; simp [h]
theorem drev_le : ∀ (k u : Nat),u < 10 ^ k → (drev u).length ≤ k := by
  intro k
  induction k with
  | zero =>
    intro u h
    have : u = 0 := by simpa using h
    subst this
    simp [drev_0]
  | succ k ih =>
    intro u h
    by_cases h0 : u = 0
    · subst h0; simp [drev_0]
    · rw [drev_s h0,List.length_cons]
      have := ih (u / 10) (by rw [Nat.pow_succ] at h; omega)
      omega
theorem byt_app (a b : List Int) : byt (a ++ b) = byt a ++ byt b := by unfold byt; simp
theorem byt_len (a : List Int) : (byt a).length = a.length := by unfold byt; simp
theorem byt_1 (n : Int) : byt [n] = [UInt8.ofNat n.toNat] := by unfold byt; rfl
theorem byt_0 : byt [] = [] := by unfold byt; rfl
theorem drev_dec : ∀ (u : Nat),u ≠ 0 → byt (drev u).reverse = Lib.decDigits u := by
  intro u
  induction u using Nat.strongRecOn with
  | _ u ih =>
    intro h0
    rw [drev_s h0,List.reverse_cons,byt_app,byt_1,Lib.decDigits]
    by_cases h : u < 10
    · rw [dif_pos h,show u / 10 = 0 by omega,drev_0]
      simp only [List.reverse_nil,byt_0,List.nil_append]
      congr 2
      omega
    · rw [dif_neg h,ih (u / 10) (by omega) (by omega)]
      rfl
@[irreducible] def decT (n : Int) : Bs := Lib.itoa n
theorem decT_0 : decT 0 = [48] := by unfold decT Lib.itoa; simp [Lib.decDigits]
theorem decT_n {n : Int} (h : n ≠ 0) : decT n = byt ((drev n.natAbs ++ (if n < 0 then [45] else [])).reverse) := by
  unfold decT Lib.itoa
  split
  · rw [List.reverse_append,byt_app,drev_dec _ (by omega)]; simp [byt_1]
  · rw [List.append_nil,drev_dec _ (by omega),show n.natAbs = n.toNat by omega]
theorem decT_le {n : Int} (h0 : -9223372036854775808 ≤ n) (h1 : n ≤ 9223372036854775807) : (decT n).length ≤ 21 := by
  by_cases h : n = 0
  · subst h; rw [decT_0]; decide
  · rw [decT_n h,byt_len,List.length_reverse,List.length_append]
    have h2 := drev_le 20 n.natAbs (by omega)
    split <;> simp only [List.length_cons,List.length_nil] <;> omega
theorem preB49 {p : Prop} (h : p := by first | with_reducible assumption | omega | (simp only [List.length_append,List.length_cons,List.length_nil,List.length_set,List.length_replicate,List.length_take,List.length_drop,List.length_tail,List.length_dropLast,List.length_reverse] at *; omega) | exact mem_len (by assumption) (by omega) | (with_reducible refine Int.le_trans (Int.ofNat_le.2 (trimR_len _)) ?_; simp only [List.length_cons,List.length_tail]; omega) | (exact (ruAt_ok (by assumption) (by assumption) (by assumption)).2.1) | (exact (ruAt_ok (by assumption) (by assumption) (by assumption)).2.1) | (have := vMach_bd (by assumption); omega) | (simp only [mC_ch,mC_tu]; omega) | (have := vTag_bd (by assumption); omega) | (have := (‹Gd _ _›).le; omega) | (exact tgHalts_no (by assumption)) | (exact tgHead (by assumption) (by assumption) (by assumption)) | (exact Int.le_trans (tgStep_gd (by assumption) (by assumption) (by assumption) (by assumption)).le (by decide)) | (exact vTag_r (by assumption)) | (with_reducible refine Int.le_trans (Int.ofNat_le.2 (pushL_len _ _)) ?_; simp only [List.length_dropLast]; omega) | exact (ask_ok (by assumption)).1 | exact (ask_ok (by assumption)).2.1 | exact (ask_ok (by assumption)).2.2.1 | exact (ask_ok (by assumption)).2.2.2 | trivial) : p := h
theorem l01Dec_ok (n : Int) (h0 : -9223372036854775807 ≤ n) (h1 : n ≤ 9223372036854775807) : Does Tryd.prog 43 [.one (int n)] [] (.one (str (decT n))) [] := by
  by_cases hn : n = 0
  · subst hn
    rw [decT_0]
    refine does_of (k := 0) Tryd.func43 rfl Tryd.ntmps43 rfl rfl fun w F0 S0 ρ0 => ?_
    dsimp only [argT,argH]
    repeat' first|(apply p3;(first|exact pu1|exact puC);exact rfl)|refine cd ?_
    repeat refine cr ?_
    refine ends_id ?_
    refine endK [] (h2 := ?_) (h3 := ?_) (nd := ?_)
    all_goals (repeat' first|exact ce0|refine ce ?_|refine ce2 ?_ ?_|exact SVLe.refl|refine ceb ?_)
    all_goals first | exact (show nodupB _ = true from rfl) | exact Or.inr rfl | (rfl)
  have hT := decT_n hn
  have hl := drev_le 20 n.natAbs (by omega)
  refine does_of (k := 0) Tryd.func43 rfl Tryd.ntmps43 rfl rfl fun w F0 S0 ρ0 => ?_
  dsimp only [argT,argH]
  repeat' first|(apply n3;(exact a_litE eY [] rfl rfl rfl rfl rfl rfl rfl rfl);exact rfl;refine dA ?_)|(apply p3;(first|exact pu1|exact puC);exact rfl)|refine cd ?_|((refine g_cond rfl (fun hc => ?_) (fun hc => ?_)) <;> (try simp only [dcB] at hc) <;> (try first|contradiction|(exfalso;omega)))
  refine g_loop_id ?_
  refine loopK [0,2,3] [0] (fun x : Int × List Int => x.2 ++ drev x.1.natAbs = drev n.natAbs ∧ x.1.natAbs ≤ n.natAbs ∧ (x.2.length : Int) ≤ 20) (fun x => [(4,.one (int x.1))]) (fun x => [(0,.row 1 (rows eY x.2))]) (fun x => x.1.natAbs) (n,[]) [0] (hI := ?_) (hr := ?_)
  · exact ⟨by simp,by simp,by simp⟩
  · rintro ⟨m,xs⟩ ⟨k0,k1,k2⟩
    dsimp only [List.cons_append,List.nil_append] at *
    skip
    have t1 := Int.natAbs_tmod m 10; have t2 := Int.natAbs_tdiv m 10; have t3 : m.natAbs.div (10 : Int).natAbs = m.natAbs / 10 := rfl; have t4 : (10 : Int).natAbs = 10 := rfl; rw [t3] at t2; rw [t4] at t1; have t5 : ((xs ++ [45]).length : Int) = xs.length + 1 := by simp
    repeat' first|(apply n3;(first|exact a_litE eY [_] rfl rfl rfl rfl rfl rfl rfl rfl|exact a_litE eY [] rfl rfl rfl rfl rfl rfl rfl rfl);exact rfl;refine dA ?_)|(apply p3;(first|exact pu1|exact a_ne rfl rfl|exact a_remT rfl rfl (by omega)|exact puC|exact a_neg rfl (by omega) (by omega)|exact a_add rfl rfl (by omega) (by omega)|exact a_to8 rfl Tryd.underlying2 Tryd.underlying5 (by omega) (by omega)|exact a_quoT rfl rfl (by omega) (by omega) (by omega)|exact puN|exact a_sub rfl rfl (by omega) (by omega));exact rfl)|refine cd ?_|(apply s3;exact a_appE (fP rfl) rfl rfl rfl rfl nowR (by (simp;omega)) (by decide) (by decide) (by exact rfl);exact rfl;exact rfl)|((refine g_cond rfl (fun hc => ?_) (fun hc => ?_)) <;> (try simp only [dcB] at hc) <;> (try first|contradiction|(exfalso;omega)))
    · refine q_again (m.tdiv 10,_) [2] (by exact stk) ?_ ?_
      · dsimp only
        refine ⟨?_,by omega,?_⟩
        · rw [← k0,drev_s (by omega : m.natAbs ≠ 0),t2,List.append_assoc]
          congr 1
          rw [List.singleton_append]
          congr 1
          omega
        · have h1 := congrArg List.length k0
          rw [drev_s (by omega : m.natAbs ≠ 0)] at h1
          simp only [List.length_append,List.length_cons,List.length_nil] at h1 ⊢
          omega
      · dsimp only; omega
    · refine q_again (m.tdiv 10,_) [2] (by exact stk) ?_ ?_
      · dsimp only
        refine ⟨?_,by omega,?_⟩
        · rw [← k0,drev_s (by omega : m.natAbs ≠ 0),t2,List.append_assoc]
          congr 1
          rw [List.singleton_append]
          congr 1
          omega
        · have h1 := congrArg List.length k0
          rw [drev_s (by omega : m.natAbs ≠ 0)] at h1
          simp only [List.length_append,List.length_cons,List.length_nil] at h1 ⊢
          omega
      · dsimp only; omega
    · have ex : xs = drev n.natAbs := by rw [← k0,show m.natAbs = 0 by omega,drev_0,List.append_nil]
      rw [if_pos (by assumption),← ex] at hT
      obtain ⟨ys,hys⟩ : ∃ ys,ys = xs ++ [45] := ⟨_,rfl⟩
      rw [← hys] at hT t5 ⊢
      refine g_loop_id ?_
      refine loopK [2,3,6] [3] (fun x : Int × List Int => -1 ≤ x.1 ∧ x.1 < ys.length ∧ x.2 = (ys.drop (x.1 + 1).toNat).reverse) (fun x => [(7,.one (int x.1))]) (fun x => [(3,.row 1 (rows eY x.2))]) (fun x => (x.1 + 1).toNat) ((ys.length : Int) - 1,[]) [0,1,2,3] (hI := ?_) (hr := ?_)
      · dsimp only
        refine ⟨by omega,by omega,?_⟩
        rw [List.drop_eq_nil_of_le (by omega)]
        rfl
      · rintro ⟨i,out⟩ ⟨j0,j1,j2⟩
        dsimp only [List.cons_append,List.nil_append] at *
        skip
        have jl : (out.length : Int) ≤ 1000 := by rw [j2,List.length_reverse,List.length_drop]; omega
        repeat' first|(apply n3;(exact a_litE eY [_] rfl rfl rfl rfl rfl rfl rfl rfl);exact rfl;refine dA ?_)|(apply p3;(first|exact pu1|exact puC|exact a_ld_rowY rfl rfl rfl (fC rfl) bnd|exact a_sub rfl rfl (by omega) (by omega)|exact a_toStr rfl (by exact rfl) Tryd.underlying94 Tryd.underlying5 Tryd.underlying9|exact puI);exact rfl)|refine cd ?_|(apply s3;exact a_appE (fP rfl) rfl rfl rfl rfl nowR (by (simp;omega)) (by decide) (by decide) (by exact rfl);exact rfl;exact rfl)|((refine g_cond rfl (fun hc => ?_) (fun hc => ?_)) <;> (try simp only [dcB] at hc) <;> (try first|contradiction|(exfalso;omega)))
        · refine q_again (i - 1,_) [0,1,2,5] (by exact stk) ?_ ?_
          · dsimp only
            refine ⟨by omega,by omega,?_⟩
            rw [j2,show (i - 1 + 1).toNat = i.toNat by omega,List.drop_eq_getElem_cons (show i.toNat < ys.length by omega),List.reverse_cons,show i.toNat + 1 = (i + 1).toNat by omega]
            simp only [Nat.mul_one]
          · dsimp only; omega
        · have e : out = ys.reverse := by rw [j2,show (i + 1).toNat = 0 by omega]; rfl
          rw [hT,e]
          repeat refine cr ?_
          refine ends_id ?_
          refine endK [] (h2 := ?_) (h3 := ?_) (nd := ?_)
          all_goals (repeat' first|exact ce0|refine ce ?_|refine ce2 ?_ ?_|exact SVLe.refl|refine ceb ?_)
          all_goals first | exact (show nodupB _ = true from rfl) | exact Or.inr rfl | (rfl)
    · have ex : xs = drev n.natAbs := by rw [← k0,show m.natAbs = 0 by omega,drev_0,List.append_nil]
      rw [if_neg (by assumption),← ex,List.append_nil] at hT
      obtain ⟨ys,hys⟩ : ∃ ys,ys = xs := ⟨_,rfl⟩
      rw [← hys] at hT k2 ⊢
      refine g_loop_id ?_
      refine loopK [2,3,6] [1] (fun x : Int × List Int => -1 ≤ x.1 ∧ x.1 < ys.length ∧ x.2 = (ys.drop (x.1 + 1).toNat).reverse) (fun x => [(7,.one (int x.1))]) (fun x => [(1,.row 1 (rows eY x.2))]) (fun x => (x.1 + 1).toNat) ((ys.length : Int) - 1,[]) [0,1] (hI := ?_) (hr := ?_)
      · dsimp only
        refine ⟨by omega,by omega,?_⟩
        rw [List.drop_eq_nil_of_le (by omega)]
        rfl
      · rintro ⟨i,out⟩ ⟨j0,j1,j2⟩
        dsimp only [List.cons_append,List.nil_append] at *
        skip
        have jl : (out.length : Int) ≤ 1000 := by rw [j2,List.length_reverse,List.length_drop]; omega
        repeat' first|(apply n3;(exact a_litE eY [_] rfl rfl rfl rfl rfl rfl rfl rfl);exact rfl;refine dA ?_)|(apply p3;(first|exact pu1|exact puC|exact a_ld_rowY rfl rfl rfl (fC rfl) bnd|exact a_sub rfl rfl (by omega) (by omega)|exact a_toStr rfl (by exact rfl) Tryd.underlying94 Tryd.underlying5 Tryd.underlying9|exact puI);exact rfl)|refine cd ?_|(apply s3;exact a_appE (fP rfl) rfl rfl rfl rfl nowR (by (simp;omega)) (by decide) (by decide) (by exact rfl);exact rfl;exact rfl)|((refine g_cond rfl (fun hc => ?_) (fun hc => ?_)) <;> (try simp only [dcB] at hc) <;> (try first|contradiction|(exfalso;omega)))
        · refine q_again (i - 1,_) [0,3] (by exact stk) ?_ ?_
          · dsimp only
            refine ⟨by omega,by omega,?_⟩
            rw [j2,show (i - 1 + 1).toNat = i.toNat by omega,List.drop_eq_getElem_cons (show i.toNat < ys.length by omega),List.reverse_cons,show i.toNat + 1 = (i + 1).toNat by omega]
            simp only [Nat.mul_one]
          · dsimp only; omega
        · have e : out = ys.reverse := by rw [j2,show (i + 1).toNat = 0 by omega]; rfl
          rw [hT,e]
          repeat refine cr ?_
          refine ends_id ?_
          refine endK [] (h2 := ?_) (h3 := ?_) (nd := ?_)
          all_goals (repeat' first|exact ce0|refine ce ?_|refine ce2 ?_ ?_|exact SVLe.refl|refine ceb ?_)
          all_goals first | exact (show nodupB _ = true from rfl) | exact Or.inr rfl | (rfl)
theorem Decimal_ok (n : Int) (h0 : -9223372036854775808 ≤ n) (h1 : n ≤ 9223372036854775807) : Does Tryd.prog 63 [.one (int n)] [] (.one (str (decT n))) [] := by
  have e : decT n = Lib.itoa n := by unfold decT; rfl
  rw [e]
  refine does_of (k := 0) Tryd.func63 rfl Tryd.ntmps63 rfl rfl fun w F0 S0 ρ0 => ?_
  dsimp only [argT,argH]
  repeat' first|(apply p3;exact pu1;exact rfl)|refine cd ?_|(apply c4 0;exact callK1 (θ := []) (hD := (FormatInt_ok _ preB49 preB49));exact rfl;exact rfl;exact rfl;refine dM ?_)
  repeat refine cr ?_
  refine ends_id ?_
  refine endK [] (h2 := ?_) (h3 := ?_) (nd := ?_)
  all_goals (repeat' first|exact ce0|refine ce ?_|refine ce2 ?_ ?_|exact SVLe.refl|refine ceb ?_)
  all_goals first | exact (show nodupB _ = true from rfl) | exact Or.inr rfl | (rfl)
end Go.Proofs.YtjmlbmmbionmcaaDoor
end
section
set_option linter.unusedVariables false
set_option linter.unusedSimpArgs false
set_option maxRecDepth 100000
set_option maxHeartbeats 4000000
namespace Go.Proofs.YtjmlbmmbionmcaaDoor
open Go Foot
end Go.Proofs.YtjmlbmmbionmcaaDoor
end
section
set_option linter.unusedVariables false
set_option linter.unusedSimpArgs false
set_option maxRecDepth 100000
set_option maxHeartbeats 4000000
namespace Go.Proofs.YtjmlbmmbionmcaaDoor
open Go Foot
structure Rule' where
  w : Int
  m : Int
  n : Int
  deriving DecidableEq
structure Mach where
  sy : Int
  st : Int
  ru : List Rule'
structure Conf where
  st : Int
  le : List Int
  ri : List Int
end Go.Proofs.YtjmlbmmbionmcaaDoor
end
section
set_option linter.unusedVariables false
set_option linter.unusedSimpArgs false
set_option maxRecDepth 100000
set_option maxHeartbeats 4000000
namespace Go.Proofs.YtjmlbmmbionmcaaDoor
open Go Foot
section
variable {g : Gh} {st : St} {dst : Option Tmp} {ty : TypeId} {pos : String} {after : Array Edge} {guard : Option (Nat × Bool)} {x y : Operand} {U : TypeId} {r s : Rule'}
end
@[irreducible] def trimR (l : List Int) : List Int := (l.reverse.dropWhile (· == 0)).reverse
theorem trimR_len (l : List Int) : (trimR l).length ≤ l.length := by
  unfold trimR
  rw [List.length_reverse]
  have := (List.dropWhile_sublist (· == (0 : Int)) (l := l.reverse)).length_le
  rwa [List.length_reverse] at this
@[irreducible] def okRule (sy st : Int) (r : Rule') : Bool := decide (r = ⟨0,0,-1⟩ ∨ (0 ≤ r.w ∧ r.w ≤ sy - 1) ∧ (r.m = 1 ∨ r.m = -1) ∧ 0 ≤ r.n ∧ r.n ≤ st - 1)
end Go.Proofs.YtjmlbmmbionmcaaDoor
end
section
set_option linter.unusedVariables false
set_option linter.unusedSimpArgs false
set_option maxRecDepth 100000
set_option maxHeartbeats 4000000
namespace Go.Proofs.YtjmlbmmbionmcaaDoor
open Go Foot
@[irreducible] def vMach (m : Mach) : Bool := decide ((2 ≤ m.sy ∧ m.sy ≤ 6) ∧ (1 ≤ m.st ∧ m.st ≤ 1000) ∧ (m.ru.length : Int) = m.sy * m.st) && m.ru.all (okRule m.sy m.st)
theorem vMach_bd {m : Mach} (h : vMach m = true) : (2 ≤ m.sy ∧ m.sy ≤ 6) ∧ (1 ≤ m.st ∧ m.st ≤ 1000) ∧ (m.ru.length : Int) = m.sy * m.st := by
  unfold vMach at h
  simp only [Bool.and_eq_true,decide_eq_true_eq] at h
  exact h.1
@[irreducible] def vSide (sy : Int) (l : List Int) : Bool := l.all (fun x => decide (0 ≤ x ∧ x ≤ sy - 1)) && decide ((l.length : Int) ≤ 200 ∧ l.getLastD 1 ≠ 0)
@[irreducible] def vConf (m : Mach) (c : Conf) : Bool := decide (0 ≤ c.st ∧ c.st ≤ m.st - 1) && vSide m.sy c.le && vSide m.sy c.ri
end Go.Proofs.YtjmlbmmbionmcaaDoor
end
section
set_option linter.unusedVariables false
set_option linter.unusedSimpArgs false
set_option maxRecDepth 100000
set_option maxHeartbeats 4000000
namespace Go.Proofs.YtjmlbmmbionmcaaDoor
open Go Foot
@[irreducible] def askC (m : Mach) (c : Conf) (b : Int) : Int := if vMach m = true ∧ vConf m c = true then if 1 ≤ b ∧ b ≤ 20000 then 0 else 2 else 1
end Go.Proofs.YtjmlbmmbionmcaaDoor
end
section
set_option linter.unusedVariables false
set_option linter.unusedSimpArgs false
set_option maxRecDepth 100000
set_option maxHeartbeats 4000000
namespace Go.Proofs.YtjmlbmmbionmcaaDoor
open Go Foot
@[irreducible] def pushL (l : List Int) (x : Int) : List Int := if x = 0 ∧ l = [] then l else l ++ [x]
end Go.Proofs.YtjmlbmmbionmcaaDoor
end
section
set_option linter.unusedVariables false
set_option linter.unusedSimpArgs false
set_option maxRecDepth 100000
set_option maxHeartbeats 4000000
namespace Go.Proofs.YtjmlbmmbionmcaaDoor
open Go Foot
theorem pushL_len (l : List Int) (x : Int) : (pushL l x).length ≤ l.length + 1 := by unfold pushL; split <;> simp
theorem count_snoc (xs : List Int) (x i : Int) (h0 : 0 ≤ i) (h : i < xs.length) : (xs.take (i + 1).toNat).count x = (xs.take i.toNat).count x + if xs[i.toNat]'(by omega) = x then 1 else 0 := by
  rw [show (i + 1).toNat = i.toNat + 1 by omega,List.take_succ_eq_append_getElem (by omega),List.count_append,List.count_singleton]
  simp
theorem countOf_ok (xs : List Int) (x : Int) (hx : (xs.length : Int) ≤ 16777216) : Does Tryd.prog 55 [.one (shI xs),.one (int x)] [] (.one (int (xs.count x))) [] := by
  refine does_of (k := 0) Tryd.func55 rfl Tryd.ntmps55 rfl rfl fun w F0 S0 ρ0 => ?_
  dsimp only [argT,argH]
  repeat' first|(apply p3;(first|exact pu1|exact puN);exact rfl)|refine cd ?_
  refine g_loop_id ?_
  refine loopK [1,4,8,9] [] (fun y : Int × Int => 0 ≤ y.1 ∧ y.1 ≤ xs.length ∧ y.2 = ((xs.take y.1.toNat).count x : Nat) ∧ y.2 ≤ y.1) (fun y => [(10,.one (int y.1)),(5,.one (int y.2))]) (fun _ => []) (fun y => (xs.length - y.1).toNat) ((0 : Int),(0 : Int)) [] (hI := ?_) (hr := ?_)
  · exact ⟨by simp,by simp,by simp,by simp⟩
  · rintro ⟨i,k⟩ ⟨h0,h1,h2,h3⟩
    dsimp only [List.cons_append,List.nil_append] at *
    skip
    repeat' first|(apply p3;(first|exact pu1|exact puC|exact a_add rfl rfl (by omega) (by omega)|exact puI);exact rfl)|refine cd ?_|((refine g_cond rfl (fun hc => ?_) (fun hc => ?_)) <;> (try simp only [dcB] at hc) <;> (try first|contradiction|(exfalso;omega)))
    · refine q_again (i + 1,k + 1) [] (by exact stk) ?_ ?_
      · exact ⟨by dsimp only; omega,by dsimp only; omega,by dsimp only; rw [count_snoc xs x i h0 (by omega),if_pos hc,h2]; rfl,by dsimp only; omega⟩
      · dsimp only; omega
    · refine q_again (i + 1,k) [] (by exact stk) ?_ ?_
      · exact ⟨by dsimp only; omega,by dsimp only; omega,by dsimp only; rw [count_snoc xs x i h0 (by omega),if_neg hc,h2]; rfl,by dsimp only; omega⟩
      · dsimp only; omega
    · repeat refine cr ?_
      refine ends_id ?_
      refine endK [] (h2 := ?_) (h3 := ?_) (nd := ?_)
      all_goals (repeat' first|exact ce0|refine ce ?_|refine ce2 ?_ ?_|exact SVLe.refl|refine ceb ?_)
      all_goals first | exact (show nodupB _ = true from rfl) | exact Or.inr rfl | ((rw [h2,List.take_of_length_le (by omega)]))
end Go.Proofs.YtjmlbmmbionmcaaDoor
end
section
set_option linter.unusedVariables false
set_option linter.unusedSimpArgs false
set_option maxRecDepth 100000
set_option maxHeartbeats 4000000
namespace Go.Proofs.YtjmlbmmbionmcaaDoor
open Go Foot
theorem vSide_bd {sy : Int} {l : List Int} (h : vSide sy l = true) : (l.length : Int) ≤ 200 ∧ (∀ x ∈ l,0 ≤ x ∧ x ≤ sy - 1) ∧ l.getLastD 1 ≠ 0 := by
  unfold vSide at h
  simp only [Bool.and_eq_true,List.all_eq_true,decide_eq_true_eq] at h
  exact ⟨h.2.1,h.1,h.2.2⟩
theorem vConf_bd {m : Mach} {c : Conf} (h : vConf m c = true) : (0 ≤ c.st ∧ c.st ≤ m.st - 1) ∧ vSide m.sy c.le = true ∧ vSide m.sy c.ri = true := by
  unfold vConf at h
  simp only [Bool.and_eq_true,decide_eq_true_eq] at h
  exact ⟨h.1.1,h.1.2,h.2⟩
abbrev noR : Rule' := ⟨0,0,-1⟩
@[irreducible] def ruAt (m : Mach) (c : Conf) : Rule' := m.ru.getD (c.st * m.sy + c.ri.headD 0).toNat noR
theorem headD_bd {sy : Int} {l : List Int} (hs : 2 ≤ sy) (h : vSide sy l = true) : 0 ≤ l.headD 0 ∧ l.headD 0 ≤ sy - 1 := by
  have := (vSide_bd h).2.1
  cases l with
  | nil => simp; omega
  | cons a l => exact this a (by simp)
theorem at_bd {m : Mach} {c : Conf} (hm : vMach m = true) (hc : vConf m c = true) : 0 ≤ c.st * m.sy ∧ 0 ≤ c.ri.headD 0 ∧ c.ri.headD 0 ≤ 5 ∧ c.st * m.sy + c.ri.headD 0 < m.ru.length ∧ (m.ru.length : Int) ≤ 6000 ∧ c.st ≤ 999 ∧ 0 ≤ c.st ∧ (c.le.length : Int) ≤ 200 ∧ (c.ri.length : Int) ≤ 200 := by
  obtain ⟨⟨h1,h2⟩,⟨h3,h4⟩,h5⟩ := vMach_bd hm
  obtain ⟨⟨h6,h7⟩,h8,h9⟩ := vConf_bd hc
  obtain ⟨h10,h11⟩ := headD_bd h1 h9
  have a1 : c.st * m.sy ≤ (m.st - 1) * m.sy := Int.mul_le_mul_of_nonneg_right h7 (by omega)
  have a2 : (m.st - 1) * m.sy = m.sy * m.st - m.sy := by rw [Int.sub_mul,Int.mul_comm]; omega
  have a3 : m.sy * m.st ≤ 6 * m.st := Int.mul_le_mul_of_nonneg_right h2 (by omega)
  exact ⟨Int.mul_nonneg h6 (by omega),h10,by omega,by omega,by omega,by omega,h6,(vSide_bd h8).1,(vSide_bd h9).1⟩
theorem ruAt_get {m : Mach} {c : Conf} (hm : vMach m = true) (hc : vConf m c = true) : m.ru[(c.st * m.sy + c.ri.headD 0).toNat]? = some (ruAt m c) := by
  have h := at_bd hm hc
  rw [ruAt,List.getD_eq_getElem?_getD,List.getElem?_eq_getElem (by omega)]
  rfl
theorem ruAt_ok {m : Mach} {c : Conf} (hm : vMach m = true) (hc : vConf m c = true) (hn : ruAt m c ≠ noR) : (0 ≤ (ruAt m c).w ∧ (ruAt m c).w ≤ m.sy - 1) ∧ ((ruAt m c).m = 1 ∨ (ruAt m c).m = -1) ∧ 0 ≤ (ruAt m c).n ∧ (ruAt m c).n ≤ m.st - 1 := by
  have hg := ruAt_get hm hc
  have := hm
  unfold vMach at this
  rw [Bool.and_eq_true,List.all_eq_true] at this
  have := this.2 _ (List.mem_of_getElem? hg)
  unfold okRule at this
  rw [decide_eq_true_eq] at this
  exact this.resolve_left hn
end Go.Proofs.YtjmlbmmbionmcaaDoor
end
section
set_option linter.unusedVariables false
set_option linter.unusedSimpArgs false
set_option maxRecDepth 100000
set_option maxHeartbeats 4000000
namespace Go.Proofs.YtjmlbmmbionmcaaDoor
open Go Foot
structure Out (σ : Type) where
  x : σ
  n : Int
  c : Conf
  hd : Int
  halts : Bool
  full : Bool
section
variable {σ : Type} {m : Mach} {fc : Conf → Int → σ → σ} {fs : Conf → Int → Rule' → σ → σ} {b n hd : Int} {c : Conf} {x : σ} {O : Out σ}
end
theorem ask_ok {m : Mach} {c : Conf} {b : Int} (h : askC m c b = 0) : vMach m = true ∧ vConf m c = true ∧ 1 ≤ b ∧ b ≤ 20000 := by
  unfold askC at h
  split at h
  · rename_i h1
    split at h
    · rename_i h2; exact ⟨h1.1,h1.2,h2.1,h2.2⟩
    · cases h
  · cases h
end Go.Proofs.YtjmlbmmbionmcaaDoor
end
section
set_option linter.unusedVariables false
set_option linter.unusedSimpArgs false
set_option maxRecDepth 100000
set_option maxHeartbeats 4000000
namespace Go.Proofs.YtjmlbmmbionmcaaDoor
open Go Foot
end Go.Proofs.YtjmlbmmbionmcaaDoor
end
section
set_option linter.unusedVariables false
set_option linter.unusedSimpArgs false
set_option maxRecDepth 100000
set_option maxHeartbeats 4000000
namespace Go.Proofs.YtjmlbmmbionmcaaDoor
open Go Foot
end Go.Proofs.YtjmlbmmbionmcaaDoor
end
section
set_option linter.unusedVariables false
set_option linter.unusedSimpArgs false
set_option maxRecDepth 100000
set_option maxHeartbeats 4000000
namespace Go.Proofs.YtjmlbmmbionmcaaDoor
open Go Foot
theorem dec_le {n : Int} (h0 : -1000000000000000000 ≤ n) (h1 : n ≤ 1000000000000000000) : ((decT n).length : Int) ≤ 21 := by have := decT_le (n := n) (by omega) (by omega); omega
end Go.Proofs.YtjmlbmmbionmcaaDoor
end
section
set_option linter.unusedVariables false
set_option linter.unusedSimpArgs false
set_option maxRecDepth 100000
namespace Go.Proofs.YtjmlbmmbionmcaaDoor
open Go Foot
section
variable {P : Program} {g : Gh} {dst : Option Tmp} {ty : TypeId} {pos : String} {after : Array Edge} {guard : Option (Nat × Bool)} {st : St} {x y : Operand}
theorem run_slice3 {w : World} {T z len cap l u : Nat} {ad : Option Addr} {lo hi mx : Value} (hT : sliceB P T z = true) (hlo : ∃ k,lo = .int k l) (hhi : ∃ k,hi = .int k u) (hmx : ∃ k,mx = .int k u) (h1 : l ≤ u) (h2 : u ≤ len) (h3 : len ≤ cap) :
    (Instr.sliceAt T (.slice ad len cap) (some lo) (some hi) (some mx)).run P w = .ok (.slice (if u = l then ad else ad.map (·.add (l * z))) (u - l) (u - l)) w := by
  unfold sliceB at hT
  split at hT
  · rename_i e hu
    split at hT
    · rename_i i hi'
      have hs := Nat.eq_of_beq_eq_true hT
      subst hs
      have a1 : (u : Int) ≤ cap := by omega
      have a2 : (l : Int) ≤ u := by omega
      have b1 : u ≤ cap := by omega
      obtain ⟨k,rfl⟩ := hlo
      obtain ⟨k',rfl⟩ := hhi
      obtain ⟨k'',rfl⟩ := hmx
      simp [Instr.sliceAt,run_underlying hu,Instr.slice,Instr.sliceBounds,Instr.sliceBound,asIntOf,sizeOf,typeInfo,hi',a1,a2,b1,h1]
    · cases hT
  · cases hT
theorem a_slice_imm3 {T zz l u : Nat} {c : C} {row es : List D} {lo hi mx : Operand} (hc : opd st x = .one c) (hs : shv st c = some (zz,row)) (hlo : bndOk st 0 (some lo) l) (hhi : bndOk st (cnt zz row) (some hi) u) (hmx : bndOk st (cnt zz row) (some mx) u) (hT : sliceB P T zz = true) (h1 : l ≤ u) (h2 : u ≤ cnt zz row) (he : (row.drop (l * zz)).take ((u - l) * zz) = es) :
    Acts P g ⟨dst,.slice T x (some lo) (some hi) (some mx),ty,pos,after,guard⟩ st (.one (.d (.sl false zz es))) [] [] := by
  subst he
  refine acts_of fun a w S ρ F h => ?_
  have hx1 := h.shv (opd_one h hc) hs
  obtain ⟨ad,len,cap,hv,hlr,hz,hlc,hcn⟩ := sl_len hx1
  simp only [RepS,RepC,Rep,Bool.false_eq_true,if_false] at hx1 ⊢
  obtain ⟨ad',len',cap',he,hlr',hz',hlc',h2'⟩ := hx1
  rw [hv] at he
  simp only [Value.slice.injEq] at he
  obtain ⟨e1,e2,e3⟩ := he
  subst e1 e2 e3
  rw [hcn] at hhi hmx h2
  have hm : (u - l) * zz + l * zz = u * zz := by rw [← Nat.add_mul]; congr 1; omega
  have hm2 : u * zz ≤ row.length := by rw [hlr]; exact Nat.mul_le_mul_right _ h2
  have ev : ∀ {d n : Nat} {z : Operand},bndOk st d (some z) n → ∃ k,a.eval z = .int k n := fun {d n z} hb => by
    rcases bnd_eval h hb with ⟨e,_⟩ | ⟨k,e⟩
    · cases e
    · exact ⟨k,by simpa using e⟩
  refine ⟨.slice (if u = l then ad else ad.map (·.add (l * zz))) (u - l) (u - l),?_,⟨_,u - l,u - l,rfl,?_,hz,by omega,?_⟩⟩
  · show (do pure (.value (← Instr.sliceAt T (a.eval x) ((some lo).map a.eval) ((some hi).map a.eval) ((some mx).map a.eval))) : Sem Next).run P w = _
    rw [hv]
    have := run_slice3 (P := P) (w := w) (ad := ad) (cap := cap) hT (ev hlo) (ev hhi) (ev hmx) h1 h2 hlc
    simp only [Option.map_some,Sem.run_bind,this]
    rfl
  · simp only [List.length_take,List.length_drop]; omega
  · rcases h2' with ⟨rfl,_⟩ | ⟨b,of0,vs,G,rfl,hl,hrs,hle,rfl⟩
    · exact .inl ⟨by omega,fun h => by cases h⟩
    · refine .inr ?_
      split
      · rename_i hcl
        have hul : u - l = 0 := by omega
        refine ⟨b,of0,[],no,rfl,fun i v hv => by simp at hv,?_,?_,rfl⟩
        · rw [hul]; simp [Reps]
        · rw [hul]; simp only [Nat.zero_mul,List.take_zero,List.length_nil]; rintro b' o' ⟨_,e1,e2⟩; omega
      · refine ⟨b,of0 + l * zz,(vs.drop (l * zz)).take ((u - l) * zz),no,by simp [addr_add],(hl.drop _).take _,(hrs.drop _).take _,?_,rfl⟩
        rintro b' o' ⟨rfl,e1,e2⟩
        simp only [List.length_take,List.length_drop] at e2
        exact hle _ _ ⟨rfl,by omega,by omega⟩
theorem a_slX {α : Type} {E : Enc α} {l : List α} {lo hi mx : Operand} {T zz : Nat} {c : C} {a b : Int} (hc : opd st x = .one c) (hs : shv st c = some (zz,rows E l)) (hlo : opd st lo = .one (int a)) (hhi : opd st hi = .one (int b)) (hmx : opd st mx = .one (int b)) (hT : sliceB P T zz = true) (h0 : 0 ≤ a) (h1 : a ≤ b) (h2 : b ≤ l.length) (hz : E.z = zz) :
    Acts P g ⟨dst,.slice T x (some lo) (some hi) (some mx),ty,pos,after,guard⟩ st (.one (.d (.sl false zz (rows E ((l.drop a.toNat).take (b.toNat - a.toNat)))))) [] [] := by
  subst hz
  exact a_slice_imm3 hc hs (bnd_i hlo h0) (bnd_i hhi (by omega)) (bnd_i hmx (by omega)) hT (by omega) (by rw [cnt_rows']; omega) (sl_mid E l _ _)
end
end Go.Proofs.YtjmlbmmbionmcaaDoor
end
section
set_option linter.unusedVariables false
set_option linter.unusedSimpArgs false
set_option maxRecDepth 100000
set_option maxHeartbeats 4000000
namespace Go.Proofs.YtjmlbmmbionmcaaDoor
open Go Foot
def jf (sep : Bs) : Nat → List Bs → Bs
  | _,[] => []
  | i,b :: r => (if i = 0 then [] else sep) ++ (b ++ jf sep (i + 1) r)
theorem jf_s (sep : Bs) : ∀ (l : List Bs) (i : Nat),jf sep (i + 1) l = Lib.joinTail sep l
  | [],i => by simp [jf,Lib.joinTail]
  | b :: r,i => by
    have := jf_s sep r (i + 1)
    simp only [Lib.joinTail,List.map_cons,List.flatten_cons,jf] at this ⊢
    rw [this,if_neg (by omega)]
    simp
theorem jf_0 (sep : Bs) (l : List Bs) : jf sep 0 l = joinT l sep := by
  unfold joinT
  cases l with
  | nil => rfl
  | cons b r => rw [Lib.join_cons,jf,jf_s]; simp
theorem jf_at {sep : Bs} {α : Type} {f : α → Bs} {l : List α} {i : Int} (h0 : 0 ≤ i) (h : i < l.length) (out : Bs) : out ++ jf sep i.toNat ((l.drop i.toNat).map f) = out ++ (if i = 0 then [] else sep) ++ f (l[i.toNat]'(by omega)) ++ jf sep (i + 1).toNat ((l.drop (i + 1).toNat).map f) := by
  rw [List.drop_eq_getElem_cons (show i.toNat < l.length by omega),show (i + 1).toNat = i.toNat + 1 by omega,List.map_cons,jf]
  by_cases hi : i = 0
  · rw [if_pos hi,if_pos (by omega)]; simp only [List.append_assoc,List.nil_append]
  · rw [if_neg hi,if_neg (by omega)]; simp only [List.append_assoc]
def chs {α : Type} (n : Nat) (l : List α) : List (List α) := if h : l.length = 0 ∨ n = 0 then [] else l.take n :: chs n (l.drop n)
termination_by l.length
decreasing_by rw [List.length_drop]; omega
theorem chs_0 {α : Type} (n : Nat) {l : List α} (h : l.length = 0) : chs n l = [] := by rw [chs]; simp [h]
theorem chs_s {α : Type} {n : Nat} {l : List α} (hn : n ≠ 0) (h : l.length ≠ 0) : chs n l = l.take n :: chs n (l.drop n) := by rw [chs]; simp [h,hn]
end Go.Proofs.YtjmlbmmbionmcaaDoor
end
section
set_option linter.unusedVariables false
set_option linter.unusedSimpArgs false
set_option maxRecDepth 100000
set_option maxHeartbeats 4000000
namespace Go.Proofs.YtjmlbmmbionmcaaDoor
open Go Foot
theorem map_take_s {α β : Type} (f : α → β) {l : List α} {i : Int} (h0 : 0 ≤ i) (h : i < l.length) : (l.take i.toNat).map f ++ [f (l[i.toNat]'(by omega))] = (l.take (i + 1).toNat).map f := by
  rw [show (i + 1).toNat = i.toNat + 1 by omega,List.take_succ_eq_append_getElem (by omega),List.map_append]
  rfl
end Go.Proofs.YtjmlbmmbionmcaaDoor
end
section
set_option linter.unusedVariables false
set_option linter.unusedSimpArgs false
set_option maxRecDepth 100000
set_option maxHeartbeats 4000000
namespace Go.Proofs.YtjmlbmmbionmcaaDoor
open Go Foot
theorem preB54 {p : Prop} (h : p := by first | with_reducible assumption | omega | (simp only [List.length_append,List.length_cons,List.length_nil,List.length_set,List.length_replicate,List.length_take,List.length_drop,List.length_tail,List.length_dropLast,List.length_reverse] at *; omega) | exact mem_len (by assumption) (by omega) | (with_reducible refine Int.le_trans (Int.ofNat_le.2 (trimR_len _)) ?_; simp only [List.length_cons,List.length_tail]; omega) | (exact (ruAt_ok (by assumption) (by assumption) (by assumption)).2.1) | (exact (ruAt_ok (by assumption) (by assumption) (by assumption)).2.1) | (have := vMach_bd (by assumption); omega) | (simp only [mC_ch,mC_tu]; omega) | (have := vTag_bd (by assumption); omega) | (have := (‹Gd _ _›).le; omega) | (exact tgHalts_no (by assumption)) | (exact tgHead (by assumption) (by assumption) (by assumption)) | (exact Int.le_trans (tgStep_gd (by assumption) (by assumption) (by assumption) (by assumption)).le (by decide)) | (exact vTag_r (by assumption)) | (with_reducible refine Int.le_trans (Int.ofNat_le.2 (pushL_len _ _)) ?_; simp only [List.length_dropLast]; omega) | exact (ask_ok (by assumption)).1 | exact (ask_ok (by assumption)).2.1 | exact (ask_ok (by assumption)).2.2.1 | exact (ask_ok (by assumption)).2.2.2 | trivial) : p := h
theorem decimals_ok (l : List Int) (s : Bs) (hl : (l.length : Int) ≤ 1048576) (hb : ∀ x ∈ l,-1000000000000 ≤ x ∧ x ≤ 1000000000000) (hj : ((joinT (l.map decT) s).length : Int) ≤ 140737488355328) : Does Tryd.prog 56 [.one (shI l),.one (str s)] [] (.one (str (joinT (l.map decT) s))) [] := by
  have hg : ∀ (i : Nat) (h : i < l.length),-1000000000000 ≤ l[i] ∧ l[i] ≤ 1000000000000 := fun i h => hb _ (List.getElem_mem h)
  refine does_of (k := 0) Tryd.func56 rfl Tryd.ntmps56 rfl rfl fun w F0 S0 ρ0 => ?_
  dsimp only [argT,argH]
  repeat' first|(apply n3;(exact a_litE eS [] rfl rfl rfl rfl rfl rfl rfl rfl);exact rfl;refine dA ?_)|(apply p3;(first|exact pu1|exact puN);exact rfl)|refine cd ?_
  refine g_loop_id ?_
  refine loopK [1,4,5,9,10] [0] (fun y : Int × List Bs => 0 ≤ y.1 ∧ y.1 ≤ l.length ∧ y.2 = (l.take y.1.toNat).map decT) (fun y => [(11,.one (int y.1))]) (fun y => [(0,.row 1 (rows eS y.2))]) (fun y => (l.length - y.1).toNat) ((0 : Int),[]) [0] (hI := ?_) (hr := ?_)
  · exact ⟨by simp,by simp,by simp⟩
  · rintro ⟨i,ts⟩ ⟨j0,j1,j2⟩
    dsimp only [List.cons_append,List.nil_append] at *
    skip
    have jl : (ts.length : Int) ≤ 1048576 := by rw [j2,List.length_map,List.length_take]; omega
    repeat' first|(apply p3;(first|exact pu1|exact puC|exact puI);exact rfl)|refine cdn ?_|refine g_reg (id := 3) ?_|refine g_reg (id := 4) ?_|((refine g_cond rfl (fun hc => ?_) (fun hc => ?_)) <;> (try simp only [dcB] at hc) <;> (try first|contradiction|(exfalso;omega)))
    · have := hg i.toNat (by omega)
      repeat' first|(apply n3;(exact a_litE eS [_] rfl rfl rfl rfl rfl rfl rfl rfl);exact rfl;refine dA ?_)|(apply p3;(first|exact pu1|exact a_add rfl rfl (by omega) (by omega));exact rfl)|refine cd ?_|(apply s3;exact a_appE (fP rfl) rfl rfl rfl rfl nowR (by (simp;omega)) (by decide) (by decide) (by exact rfl);exact rfl;exact rfl)|(apply c4 0;exact callK1 (θ := []) (hD := (Decimal_ok _ preB54 preB54));exact rfl;exact rfl;exact rfl;refine dM ?_)
      refine q_again (i + 1,_) [2] (by exact stk) ?_ ?_
      · dsimp only
        exact ⟨by omega,by omega,by rw [j2,map_take_s decT j0 hc]⟩
      · dsimp only; omega
    · have e : ts = l.map decT := by rw [j2,List.take_of_length_le (by omega)]
      rw [← e] at hj ⊢
      repeat' first|(apply p3;(exact pu1);exact rfl)|refine cd ?_|(apply c4 0;exact callK1 (θ := []) (hD := (Join_ok _ _ preB54 preB54));exact rfl;exact rfl;exact rfl;refine dM ?_)
      repeat refine cr ?_
      refine ends_id ?_
      refine endK [] (h2 := ?_) (h3 := ?_) (nd := ?_)
      all_goals (repeat' first|exact ce0|refine ce ?_|refine ce2 ?_ ?_|exact SVLe.refl|refine ceb ?_)
      all_goals first | exact (show nodupB _ = true from rfl) | exact Or.inr rfl | (rfl)
end Go.Proofs.YtjmlbmmbionmcaaDoor
end
section
set_option linter.unusedVariables false
set_option linter.unusedSimpArgs false
set_option maxRecDepth 100000
set_option maxHeartbeats 4000000
namespace Go.Proofs.YtjmlbmmbionmcaaDoor
open Go Foot
@[irreducible] def dotT (l : List Int) : Bs := if (l.length : Int) = 0 then [45] else joinT (l.map decT) [46]
theorem join_cons2 (a b : Bs) (l : List Bs) (sep : Bs) : joinT (a :: b :: l) sep = a ++ (sep ++ joinT (b :: l) sep) := by
  unfold joinT
  simp [Lib.join]
theorem join_one (a sep : Bs) : joinT [a] sep = a := by
  unfold joinT
  simp [Lib.join]
theorem join_len {sep : UInt8} {k : Nat} : ∀ {l : List Bs},(∀ p ∈ l,p.length ≤ k) → (joinT l [sep]).length ≤ (k + 1) * l.length
  | [],_ => by unfold joinT; simp [Lib.join]
  | [a],h => by
    have := h a (by simp)
    rw [join_one]; simp only [List.length_cons,List.length_nil]; omega
  | a :: b :: l,h => by
    have h1 := h a (by simp)
    have h2 := join_len (sep := sep) (l := b :: l) fun p hp => h p (by simp at hp ⊢; exact .inr hp)
    rw [join_cons2]
    simp only [List.length_append,List.length_cons,List.length_nil,Nat.mul_add,Nat.mul_one] at h2 ⊢
    omega
end Go.Proofs.YtjmlbmmbionmcaaDoor
end
section
set_option linter.unusedVariables false
set_option linter.unusedSimpArgs false
set_option maxRecDepth 100000
set_option maxHeartbeats 4000000
namespace Go.Proofs.YtjmlbmmbionmcaaDoor
open Go Foot Go.RowKit
structure LtOk (l : List Int) : Prop where
  n : (l.length : Int) ≤ 1000
  b : ∀ x ∈ l,0 ≤ x ∧ x ≤ 1000000000000
  j : ((joinT (l.map decT) [46]).length : Int) ≤ 1000000
theorem lt_ok {l : List Int} (hn : (l.length : Int) ≤ 1000) (hb : ∀ x ∈ l,0 ≤ x ∧ x ≤ 1000000000000) : LtOk l := by
  refine ⟨hn,hb,?_⟩
  have := join_len (sep := 46) (k := 21) (l := l.map decT) fun p hp => by
    obtain ⟨x,hx,rfl⟩ := List.mem_map.1 hp
    have := hb x hx
    have := dec_le (n := x) (by omega) (by omega)
    omega
  rw [List.length_map] at this
  omega
theorem gd_lt {t : Tg} {q : List Int} (hv : vTag t = true) (h : Gd t q) : LtOk q := by
  have := vTag_bd hv
  exact lt_ok h.le fun x hx => by have := h.wd x hx; omega
theorem take_snocB {α β : Type} (f : α → β) {l : List α} {i : Nat} (h : i < l.length) : (l.take (i + 1)).map f = (l.take i).map f ++ [f l[i]] := by
  rw [List.take_succ_eq_append_getElem h,List.map_append]; rfl
theorem preB149 {p : Prop} (h : p := by first | with_reducible assumption | omega | (simp only [List.length_append,List.length_cons,List.length_nil,List.length_set,List.length_replicate,List.length_take,List.length_drop,List.length_tail,List.length_dropLast,List.length_reverse] at *; omega) | exact mem_len (by assumption) (by omega) | (with_reducible refine Int.le_trans (Int.ofNat_le.2 (trimR_len _)) ?_; simp only [List.length_cons,List.length_tail]; omega) | (exact (ruAt_ok (by assumption) (by assumption) (by assumption)).2.1) | (exact (ruAt_ok (by assumption) (by assumption) (by assumption)).2.1) | (have := vMach_bd (by assumption); omega) | (simp only [mC_ch,mC_tu]; omega) | (have := vTag_bd (by assumption); omega) | (have := (‹Gd _ _›).le; omega) | (exact tgHalts_no (by assumption)) | (exact tgHead (by assumption) (by assumption) (by assumption)) | (exact Int.le_trans (tgStep_gd (by assumption) (by assumption) (by assumption) (by assumption)).le (by decide)) | (exact vTag_r (by assumption)) | (with_reducible refine Int.le_trans (Int.ofNat_le.2 (pushL_len _ _)) ?_; simp only [List.length_dropLast]; omega) | exact ls_at (by assumption) (by omega) | exact pt_gd (by assumption) | exact lv_at (by assumption) (by omega) | exact pt_gd (lv_at (by assumption) (by omega)) | exact (ask_ok (by assumption)).1 | exact (ask_ok (by assumption)).2.1 | exact (ask_ok (by assumption)).2.2.1 | exact (ask_ok (by assumption)).2.2.2 | trivial) : p := h
theorem dottedG_ok (l : List Int) (g : LtOk l) : Does Tryd.prog 36 [.one (shI l)] [] (.one (str (dotT l))) [] := by
  have hn := g.n
  have hj := g.j
  have hb : ∀ x ∈ l,-1000000000000 ≤ x ∧ x ≤ 1000000000000 := fun x hx => by have := g.b x hx; omega
  by_cases h : (l.length : Int) = 0
  · have e : dotT l = [45] := by unfold dotT; rw [if_pos h]
    rw [e]
    refine does_of (k := 0) Tryd.func36 rfl Tryd.ntmps36 rfl rfl fun w F0 S0 ρ0 => ?_
    dsimp only [argT,argH]
    repeat' first|(apply p3;(first|exact pu1|exact puN|exact puC);exact rfl)|refine cd ?_|((refine g_cond rfl (fun hc => ?_) (fun hc => ?_)) <;> (try simp only [dcB] at hc) <;> (try first|contradiction|(exfalso;omega)))
    repeat refine cr ?_
    refine ends_id ?_
    refine endK [] (h2 := ?_) (h3 := ?_) (nd := ?_)
    all_goals (repeat' first|exact ce0|refine ce ?_|refine ce2 ?_ ?_|exact SVLe.refl|refine ceb ?_)
    all_goals first | exact (show nodupB _ = true from rfl) | exact Or.inr rfl | (rfl)
  · have e : dotT l = joinT (l.map decT) [46] := by unfold dotT; rw [if_neg h]
    rw [e]
    refine does_of (k := 0) Tryd.func36 rfl Tryd.ntmps36 rfl rfl fun w F0 S0 ρ0 => ?_
    dsimp only [argT,argH]
    repeat' first|(apply p3;(first|exact pu1|exact puN|exact puC);exact rfl)|refine cd ?_|(apply c4 0;exact callK1 (θ := []) (hD := (decimals_ok _ _ preB149 preB149 preB149));exact rfl;exact rfl;exact rfl;refine dM ?_)|((refine g_cond rfl (fun hc => ?_) (fun hc => ?_)) <;> (try simp only [dcB] at hc) <;> (try first|contradiction|(exfalso;omega)))
    repeat refine cr ?_
    refine ends_id ?_
    refine endK [] (h2 := ?_) (h3 := ?_) (nd := ?_)
    all_goals (repeat' first|exact ce0|refine ce ?_|refine ce2 ?_ ?_|exact SVLe.refl|refine ceb ?_)
    all_goals first | exact (show nodupB _ = true from rfl) | exact Or.inr rfl | (rfl)
theorem l09Letters_ok (l : List Int) (g : LtOk l) : Does Tryd.prog 22 [.one (shI l)] [] (.one (str (dotT l))) [] := by
  have hn := g.n
  by_cases h : (l.length : Int) = 0
  · have e : dotT l = [45] := by unfold dotT; rw [if_pos h]
    rw [e]
    refine does_of (k := 0) Tryd.func22 rfl Tryd.ntmps22 rfl rfl fun w F0 S0 ρ0 => ?_
    dsimp only [argT,argH]
    repeat' first|(apply p3;(first|exact pu1|exact puN|exact puC);exact rfl)|refine cd ?_|((refine g_cond rfl (fun hc => ?_) (fun hc => ?_)) <;> (try simp only [dcB] at hc) <;> (try first|contradiction|(exfalso;omega)))
    repeat refine cr ?_
    refine ends_id ?_
    refine endK [] (h2 := ?_) (h3 := ?_) (nd := ?_)
    all_goals (repeat' first|exact ce0|refine ce ?_|refine ce2 ?_ ?_|exact SVLe.refl|refine ceb ?_)
    all_goals first | exact (show nodupB _ = true from rfl) | exact Or.inr rfl | (rfl)
  · have e : dotT l = joinT (l.map decT) [46] := by unfold dotT; rw [if_neg h]
    rw [e]
    refine does_of (k := 0) Tryd.func22 rfl Tryd.ntmps22 rfl rfl fun w F0 S0 ρ0 => ?_
    dsimp only [argT,argH]
    repeat' first|(apply p3;(first|exact pu1|exact puN|exact puC);exact rfl)|refine cd ?_|((refine g_cond rfl (fun hc => ?_) (fun hc => ?_)) <;> (try simp only [dcB] at hc) <;> (try first|contradiction|(exfalso;omega)))
    have hg : ∀ (i : Nat) (h : i < l.length),0 ≤ l[i] ∧ l[i] ≤ 1000000000000 := fun i h => g.b _ (List.getElem_mem h)
    refine g_loop_id ?_
    refine loopK [0,2] [] (fun y : Int × Bs => 0 ≤ y.1 ∧ y.1 ≤ l.length ∧ (y.2.length : Int) ≤ 22 * y.1 ∧ y.2 ++ jf [46] y.1.toNat ((l.drop y.1.toNat).map decT) = joinT (l.map decT) [46]) (fun y => [(4,.one (int y.1)),(3,.one (str y.2))]) (fun _ => []) (fun y => (l.length - y.1).toNat) ((0 : Int),[]) [] (hI := ?_) (hr := ?_)
    · exact ⟨by simp,by simp,by simp,by simp [jf_0]⟩
    · rintro ⟨i,out⟩ ⟨j0,j1,j2,j3⟩
      dsimp only [List.cons_append,List.nil_append] at *
      skip
      repeat' first|(apply p3;(first|exact pu1|exact puN|exact puC);exact rfl)|refine cdn ?_|refine g_reg (id := 5) ?_|refine g_reg (id := 10) ?_|((refine g_cond rfl (fun hc => ?_) (fun hc => ?_)) <;> (try simp only [dcB] at hc) <;> (try first|contradiction|(exfalso;omega)))
      · have hh := hg i.toNat (by omega)
        have d1 := dec_le (n := l[i.toNat]'(by omega)) (by omega) (by omega)
        rw [jf_at j0 hc] at j3
        by_cases hi : i = 0
        · rw [if_pos hi,List.append_nil] at j3
          repeat' first|(apply p3;(first|exact pu1|exact puC|exact a_addS rfl rfl (by first|omega|(simp only [List.length_append,List.length_cons,List.length_nil];omega))|exact a_add rfl rfl (by omega) (by omega)|exact puI);exact rfl)|refine cd ?_|(apply c4 0;exact callK1 (θ := []) (hD := (l01Dec_ok _ preB149 preB149));exact rfl;exact rfl;exact rfl;refine dM ?_)|((refine g_cond rfl (fun hc => ?_) (fun hc => ?_)) <;> (try simp only [dcB] at hc) <;> (try first|contradiction|(exfalso;omega)))
          refine q_again (i + 1,_) [] (by exact stk) ?_ ?_
          · dsimp only
            refine ⟨by omega,by omega,?_,j3⟩
            simp only [List.length_append]; omega
          · dsimp only; omega
        · rw [if_neg hi] at j3
          have e1 : ((out ++ [46]).length : Int) = out.length + 1 := by simp
          repeat' first|(apply p3;(first|exact pu1|exact puC|exact a_addS rfl rfl (by first|omega|(simp only [List.length_append,List.length_cons,List.length_nil];omega))|exact a_add rfl rfl (by omega) (by omega)|exact puI);exact rfl)|refine cd ?_|(apply c4 0;exact callK1 (θ := []) (hD := (l01Dec_ok _ preB149 preB149));exact rfl;exact rfl;exact rfl;refine dM ?_)|((refine g_cond rfl (fun hc => ?_) (fun hc => ?_)) <;> (try simp only [dcB] at hc) <;> (try first|contradiction|(exfalso;omega)))
          refine q_again (i + 1,_) [] (by exact stk) ?_ ?_
          · dsimp only
            refine ⟨by omega,by omega,?_,j3⟩
            simp only [List.length_append,List.length_cons,List.length_nil]; omega
          · dsimp only; omega
      · have e : out = joinT (l.map decT) [46] := by rw [← j3,List.drop_eq_nil_of_le (by omega),List.map_nil,jf,List.append_nil]
        rw [← e]
        skip
        repeat refine cr ?_
        refine ends_id ?_
        refine endK [] (h2 := ?_) (h3 := ?_) (nd := ?_)
        all_goals (repeat' first|exact ce0|refine ce ?_|refine ce2 ?_ ?_|exact SVLe.refl|refine ceb ?_)
        all_goals first | exact (show nodupB _ = true from rfl) | exact Or.inr rfl | (rfl)
end Go.Proofs.YtjmlbmmbionmcaaDoor
end
section
set_option linter.unusedVariables false
set_option linter.unusedSimpArgs false
set_option maxRecDepth 100000
set_option maxHeartbeats 4000000
namespace Go.Proofs.YtjmlbmmbionmcaaDoor
open Go Foot Go.RowKit
def cd1 (n : Nat) (x : Int) : List Int := (List.range n).map fun (k : Nat) => if (k : Int) = x then 1 else 0
def cdL (n : Nat) (w : List Int) : List Int := w.flatMap (cd1 n)
theorem cd1_len (n : Nat) (x : Int) : (cd1 n x).length = n := by unfold cd1; simp
theorem cdL_len (n : Nat) : ∀ w : List Int,(cdL n w).length = w.length * n
  | [] => by simp [cdL]
  | x :: w => by
    have := cdL_len n w
    unfold cdL at this ⊢
    rw [List.flatMap_cons,List.length_append,cd1_len,this,List.length_cons,Nat.add_mul]
    omega
def lt1 (c : List Int) : Option Int := if c.count 1 = 1 then some (c.idxOf 1 : Nat) else none
def ltL (n : Nat) : Nat → List Int → Option (List Int)
  | 0,_ => some []
  | k + 1,q => (lt1 (q.take n)).bind fun a => (ltL n k (q.drop n)).map fun r => a :: r
@[irreducible] def bkL (n : Nat) (q : List Int) : Option (List Int) := if q.length % n ≠ 0 then none else ltL n (q.length / n) q
theorem lt1_cd {n : Nat} {x : Int} (h0 : 0 ≤ x) (h1 : x < n) : lt1 (cd1 n x) = some x := by
  have hc : (cd1 n x).count 1 = 1 := by
    unfold cd1
    rw [List.count_eq_countP,List.countP_map]
    have e : (List.range n).countP ((fun y : Int => y == 1) ∘ fun k : Nat => if (k : Int) = x then (1 : Int) else 0) = (List.range n).countP (fun k => k == x.toNat) := by
      apply List.countP_congr
      intro k _
      simp only [Function.comp]
      by_cases q : (k : Int) = x
      · rw [if_pos q]; simp; omega
      · rw [if_neg q]; simp; omega
    rw [e,← List.count_eq_countP,List.count_range]
    simp
    omega
  have hi : (cd1 n x).idxOf 1 = x.toNat := by
    have hn : x.toNat < (cd1 n x).length := by rw [cd1_len]; omega
    have hg : ∀ (k : Nat) (h : k < (cd1 n x).length),(cd1 n x)[k] = if (k : Int) = x then 1 else 0 := fun k h => by
      have h2 : (cd1 n x)[k]? = some (if (k : Int) = x then 1 else 0) := by
        rw [cd1_len] at h
        unfold cd1
        rw [List.getElem?_map,List.getElem?_range h]; rfl
      rw [List.getElem?_eq_getElem h] at h2
      exact Option.some.inj h2
    have hm : (1 : Int) ∈ cd1 n x := by
      have := List.getElem_mem hn
      rw [hg _ hn,if_pos (by omega)] at this
      exact this
    have hl := List.idxOf_lt_length_of_mem hm
    have := List.getElem_idxOf hl
    rw [hg _ hl] at this
    split at this
    · omega
    · omega
  unfold lt1
  rw [if_pos hc,hi]
  congr 1
  omega
theorem ltL_cd {n : Nat} : ∀ {w : List Int},(∀ x ∈ w,0 ≤ x ∧ x < n) → ltL n w.length (cdL n w) = some w
  | [],_ => rfl
  | x :: w,h => by
    have hx := h x (by simp)
    have e : cdL n (x :: w) = cd1 n x ++ cdL n w := by unfold cdL; rw [List.flatMap_cons]
    rw [List.length_cons,ltL,e,List.take_append_of_le_length (by rw [cd1_len]; exact Nat.le_refl _),List.take_of_length_le (by rw [cd1_len]; exact Nat.le_refl _),lt1_cd hx.1 hx.2,Option.bind_some,List.drop_append_of_le_length (by rw [cd1_len]; exact Nat.le_refl _),List.drop_of_length_le (by rw [cd1_len]; exact Nat.le_refl _),List.nil_append,ltL_cd (fun y hy => h y (by simp [hy]))]
    rfl
theorem bk_cd {n : Nat} (hn : 0 < n) {w : List Int} (h : ∀ x ∈ w,0 ≤ x ∧ x < n) : bkL n (cdL n w) = some w := by
  unfold bkL
  rw [cdL_len,Nat.mul_mod_left,if_neg (by omega),Nat.mul_div_cancel _ hn,ltL_cd h]
theorem lt1_bd {c : List Int} {x : Int} (h : lt1 c = some x) : 0 ≤ x ∧ x < c.length := by
  unfold lt1 at h
  split at h
  · next q =>
    have hm : (1 : Int) ∈ c := by
      rw [← List.count_pos_iff]
      omega
    have := List.idxOf_lt_length_of_mem hm
    have e := Option.some.inj h
    omega
  · cases h
theorem ltL_bd {n : Nat} : ∀ {k : Nat} {q r : List Int},ltL n k q = some r → r.length = k ∧ ∀ x ∈ r,0 ≤ x ∧ x < n
  | 0,q,r,h => by rw [ltL] at h; have := Option.some.inj h; subst this; exact ⟨rfl,fun x hx => by cases hx⟩
  | k + 1,q,r,h => by
    rw [ltL] at h
    cases h1 : lt1 (q.take n) with
    | none => rw [h1] at h; cases h
    | some a =>
      rw [h1,Option.bind_some] at h
      cases h2 : ltL n k (q.drop n) with
      | none => rw [h2] at h; cases h
      | some r' =>
        rw [h2,Option.map_some] at h
        have := Option.some.inj h
        subst this
        have h3 := ltL_bd h2
        have h4 := lt1_bd h1
        refine ⟨by rw [List.length_cons,h3.1],fun x hx => ?_⟩
        rcases List.mem_cons.1 hx with rfl | hx
        · rw [List.length_take] at h4; omega
        · exact h3.2 x hx
theorem bkL_bd {n : Nat} {q r : List Int} (h : bkL n q = some r) : r.length ≤ q.length ∧ ∀ x ∈ r,0 ≤ x ∧ x < n := by
  unfold bkL at h
  split at h
  · cases h
  · have := ltL_bd h
    refine ⟨?_,this.2⟩
    rw [this.1]
    exact Nat.div_le_self _ _
end Go.Proofs.YtjmlbmmbionmcaaDoor
end
section
set_option linter.unusedVariables false
set_option linter.unusedSimpArgs false
set_option maxRecDepth 100000
set_option maxHeartbeats 4000000
namespace Go.Proofs.YtjmlbmmbionmcaaDoor
open Go Foot Go.RowKit
abbrev fnD : C := .d (.fn (.func 36) [])
theorem textsCode_ok (b : Bool) (n : Int) : Does Tryd.prog 26 [.one (boo b),.one (int n)] [] (.one (int (bif b then (if 0 ≤ n ∧ n ≤ 599 then 0 else 2) else 1))) [] := by
  cases b
  · refine does_of (k := 0) Tryd.func26 rfl Tryd.ntmps26 rfl rfl fun w F0 S0 ρ0 => ?_
    dsimp only [argT,argH]
    repeat' first|(apply p3;exact pu1;exact rfl)|refine cd ?_
    repeat refine cr ?_
    refine ends_id ?_
    refine endK [] (h2 := ?_) (h3 := ?_) (nd := ?_)
    all_goals (repeat' first|exact ce0|refine ce ?_|refine ce2 ?_ ?_|exact SVLe.refl|refine ceb ?_)
    all_goals first | exact (show nodupB _ = true from rfl) | exact Or.inr rfl | (rfl)
  · by_cases h : 0 ≤ n ∧ n ≤ 599
    · rw [cond_true,if_pos h]
      refine does_of (k := 0) Tryd.func26 rfl Tryd.ntmps26 rfl rfl fun w F0 S0 ρ0 => ?_
      dsimp only [argT,argH]
      repeat' first|(apply p3;exact pu1;exact rfl)|refine cd ?_|(apply c4 0;exact callK1 (θ := []) (hD := (within_ok _ _ _));exact rfl;exact rfl;exact rfl;refine dM ?_)|((refine g_cond rfl (fun hc => ?_) (fun hc => ?_)) <;> (try simp only [dcB] at hc) <;> (try first|contradiction|(exfalso;omega)))
      repeat refine cr ?_
      refine ends_id ?_
      refine endK [] (h2 := ?_) (h3 := ?_) (nd := ?_)
      all_goals (repeat' first|exact ce0|refine ce ?_|refine ce2 ?_ ?_|exact SVLe.refl|refine ceb ?_)
      all_goals first | exact (show nodupB _ = true from rfl) | exact Or.inr rfl | (rfl)
    · rw [cond_true,if_neg h]
      refine does_of (k := 0) Tryd.func26 rfl Tryd.ntmps26 rfl rfl fun w F0 S0 ρ0 => ?_
      dsimp only [argT,argH]
      repeat' first|(apply p3;exact pu1;exact rfl)|refine cd ?_|(apply c4 0;exact callK1 (θ := []) (hD := (within_ok _ _ _));exact rfl;exact rfl;exact rfl;refine dM ?_)|((refine g_cond rfl (fun hc => ?_) (fun hc => ?_)) <;> (try simp only [dcB] at hc) <;> (try first|contradiction|(exfalso;omega)))
      repeat refine cr ?_
      refine ends_id ?_
      refine endK [] (h2 := ?_) (h3 := ?_) (nd := ?_)
      all_goals (repeat' first|exact ce0|refine ce ?_|refine ce2 ?_ ?_|exact SVLe.refl|refine ceb ?_)
      all_goals first | exact (show nodupB _ = true from rfl) | exact Or.inr rfl | (rfl)
end Go.Proofs.YtjmlbmmbionmcaaDoor
end
section
set_option linter.unusedVariables false
set_option linter.unusedSimpArgs false
set_option maxRecDepth 100000
set_option maxHeartbeats 1000000
namespace Go.Proofs.YtjmlbmmbionmcaaDoor
open Go Foot Go.RowKit
@[irreducible] def fitW (n : Int) (w : List Int) : Bool := decide ((w.length : Int) * n ≤ 1000)
theorem cd1_s (n : Nat) (x : Int) : cd1 (n + 1) x = cd1 n x ++ [if (n : Int) = x then 1 else 0] := by
  unfold cd1
  rw [List.range_succ,List.map_append]
  rfl
theorem cdL_s (n : Nat) (w : List Int) (x : Int) : cdL n (w ++ [x]) = cdL n w ++ cd1 n x := by
  unfold cdL
  rw [List.flatMap_append]
  simp
theorem l15Codes_ok (q : List Int) (n : Int) (hw : (q.length : Int) ≤ 1048576) (h0 : 1 ≤ n) (h1 : n ≤ 200) : Does Tryd.prog 21 [.one (shI q),.one (int n)] [] (.tup [(false,[.gv 0]),(false,[boo (fitW n q)])]) [roI (bif fitW n q then cdL n.toNat q else [])] := by
  have m0 : 0 ≤ (q.length : Int) * n := Int.mul_nonneg (by omega) (by omega)
  have m1 : (q.length : Int) * n ≤ 1048576 * 200 := Int.mul_le_mul hw h1 (by omega) (by omega)
  have ef : fitW n q = decide ((q.length : Int) * n ≤ 1000) := by unfold fitW; rfl
  by_cases hf : (q.length : Int) * n ≤ 1000
  · rw [ef,decide_eq_true hf,cond_true]
    have m2 : (q.length : Int) * 1 ≤ q.length * n := Int.mul_le_mul_of_nonneg_left h0 (by omega)
    refine does_of (k := 0) Tryd.func21 rfl Tryd.ntmps21 rfl rfl fun w F0 S0 ρ0 => ?_
    dsimp only [argT,argH]
    repeat' first|(apply n3;exact a_nilO eI rfl;exact rfl)|(apply n3;(exact a_litE eI [] rfl rfl rfl rfl rfl rfl rfl rfl);exact rfl;refine dA ?_)|(apply p3;(first|exact pu1|exact puN|exact a_mulB rfl rfl (by omega) (by omega) (by omega) (by omega)|exact puC);exact rfl)|refine cd ?_|((refine g_cond rfl (fun hc => ?_) (fun hc => ?_)) <;> (try simp only [dcB] at hc) <;> (try first|contradiction|(exfalso;omega)))
    refine g_loop_id ?_
    refine loopK [0,1,4,5] [1] (fun y : Int × List Int => 0 ≤ y.1 ∧ y.1 ≤ q.length ∧ y.2 = cdL n.toNat (q.take y.1.toNat)) (fun y => [(7,.one (int y.1)),(6,.one (.gv 1))]) (fun y => [(1,roI y.2)]) (fun y => (q.length - y.1).toNat) ((0 : Int),([] : List Int)) [0,1] (hI := ?_) (hr := ?_)
    · exact ⟨by simp,by simp,by simp [cdL]⟩
    · rintro ⟨i,l⟩ ⟨j0,j1,j2⟩
      dsimp only [List.cons_append,List.nil_append] at *
      skip
      repeat' first|(apply p3;(first|exact pu1|exact puN|exact puC);exact rfl)|refine cdn ?_|refine g_reg (id := 5) ?_|refine g_reg (id := 13) ?_|((refine g_cond rfl (fun hc => ?_) (fun hc => ?_)) <;> (try simp only [dcB] at hc) <;> (try first|contradiction|(exfalso;omega)))
      · have hi : i.toNat < q.length := by omega
        have ll : l.length = i.toNat * n.toNat := by rw [j2,cdL_len,List.length_take,Nat.min_eq_left (by omega)]
        have l1 : (l.length : Int) ≤ 1000 := by
          have e1 : ((i.toNat * n.toNat : Nat) : Int) = i * n := by rw [Int.natCast_mul,Int.toNat_of_nonneg j0,Int.toNat_of_nonneg (by omega)]
          have e2 : i * n ≤ q.length * n := Int.mul_le_mul_of_nonneg_right j1 (by omega)
          omega
        repeat' first|(apply p3;(exact pu1);exact rfl)|refine cd ?_
        refine g_loop_id ?_
        refine loopK [0,1,4,5,7] [1] (fun y : Int × List Int => 0 ≤ y.1 ∧ y.1 ≤ n ∧ y.2 = l ++ cd1 y.1.toNat (q[i.toNat]'hi)) (fun y => [(8,.one (int y.1)),(6,.one (.gv 1))]) (fun y => [(1,roI y.2)]) (fun y => (n - y.1).toNat) ((0 : Int),l) [0,1] (hI := ?_) (hr := ?_)
        · exact ⟨by simp,by dsimp only; omega,by simp [cd1]⟩
        · rintro ⟨k,l'⟩ ⟨z0,z1,z2⟩
          dsimp only [List.cons_append,List.nil_append] at *
          skip
          repeat' first|(apply p3;(first|exact pu1|exact puC|exact a_add rfl rfl (by omega) (by omega));exact rfl)|refine cdn ?_|refine g_reg (id := 8) ?_|refine g_reg (id := 6) ?_|((refine g_cond rfl (fun hc => ?_) (fun hc => ?_)) <;> (try simp only [dcB] at hc) <;> (try first|contradiction|(exfalso;omega)))
          · have ll2 : (l'.length : Int) ≤ 1200 := by rw [z2,List.length_append,cd1_len]; omega
            have e3 : (k + 1).toNat = k.toNat + 1 := by omega
            have e4 : ((k.toNat : Nat) : Int) = k := by omega
            by_cases hk : k = q[i.toNat]'hi
            · skip
              repeat' first|(apply n3;(exact a_litE eI [_] rfl rfl rfl rfl rfl rfl rfl rfl);exact rfl;refine dA ?_)|(apply p3;(first|exact pu1|exact puC|exact a_add rfl rfl (by omega) (by omega)|exact puI);exact rfl)|refine cd ?_|(apply s3;exact a_appE (fP rfl) rfl rfl rfl rfl nowR (by (simp;omega)) (by decide) (by decide) (by exact rfl);exact rfl;exact rfl)|((refine g_cond rfl (fun hc => ?_) (fun hc => ?_)) <;> (try simp only [dcB] at hc) <;> (try first|contradiction|(exfalso;omega)))
              refine q_again (k + 1,l' ++ [1]) [0,3] (by exact stk) ?_ ?_
              · dsimp only
                exact ⟨by omega,by omega,by rw [z2,e3,cd1_s,e4,if_pos hk,List.append_assoc]⟩
              · dsimp only; omega
            · skip
              repeat' first|(apply n3;(exact a_litE eI [_] rfl rfl rfl rfl rfl rfl rfl rfl);exact rfl;refine dA ?_)|(apply p3;(first|exact pu1|exact puC|exact a_add rfl rfl (by omega) (by omega)|exact puI);exact rfl)|refine cd ?_|(apply s3;exact a_appE (fP rfl) rfl rfl rfl rfl nowR (by (simp;omega)) (by decide) (by decide) (by exact rfl);exact rfl;exact rfl)|((refine g_cond rfl (fun hc => ?_) (fun hc => ?_)) <;> (try simp only [dcB] at hc) <;> (try first|contradiction|(exfalso;omega)))
              refine q_again (k + 1,l' ++ [0]) [0,3] (by exact stk) ?_ ?_
              · dsimp only
                exact ⟨by omega,by omega,by rw [z2,e3,cd1_s,e4,if_neg hk,List.append_assoc]⟩
              · dsimp only; omega
          · have hk : k = n := by omega
            subst hk
            refine q_again (i + 1,l') [0,1] (by exact stk) ?_ ?_
            · dsimp only
              exact ⟨by omega,by omega,by rw [z2,j2,show (i + 1).toNat = i.toNat + 1 by omega,List.take_succ_eq_append_getElem hi,cdL_s]⟩
            · dsimp only; omega
      · rw [List.take_of_length_le (by omega)] at j2
        rw [← j2]
        skip
        repeat refine cr ?_
        refine ends_id ?_
        refine endK [?_] (h2 := ?_) (h3 := ?_) (nd := ?_)
        rotate_left 1
        all_goals (repeat' first|exact ce0|refine ce ?_|refine ce2 ?_ ?_|(refine Or.inr (bx_eq rfl rfl ?_);(try dsimp only [C.ren,C.ren.all]);(try exact rfl))|exact SVLe.refl|refine ceb ?_)
        all_goals first | exact (show nodupB _ = true from rfl) | exact Or.inr rfl | (rfl)
  · rw [ef,decide_eq_false hf,cond_false]
    refine does_of (k := 0) Tryd.func21 rfl Tryd.ntmps21 rfl rfl fun w F0 S0 ρ0 => ?_
    dsimp only [argT,argH]
    repeat' first|(apply n3;exact a_nilO eI rfl;exact rfl)|(apply n3;(exact a_litE eI [] rfl rfl rfl rfl rfl rfl rfl rfl);exact rfl;refine dA ?_)|(apply p3;(first|exact pu1|exact puN|exact a_mulB rfl rfl (by omega) (by omega) (by omega) (by omega)|exact puC);exact rfl)|refine cd ?_|((refine g_cond rfl (fun hc => ?_) (fun hc => ?_)) <;> (try simp only [dcB] at hc) <;> (try first|contradiction|(exfalso;omega)))
    repeat refine cr ?_
    refine ends_id ?_
    refine endK [?_] (h2 := ?_) (h3 := ?_) (nd := ?_)
    rotate_left 1
    all_goals (repeat' first|exact ce0|refine ce ?_|refine ce2 ?_ ?_|(refine Or.inr (bx_eq rfl rfl ?_);(try dsimp only [C.ren,C.ren.all]);(try exact rfl))|exact SVLe.refl|refine ceb ?_)
    all_goals first | exact (show nodupB _ = true from rfl) | exact Or.inr rfl | (rfl)
def cyG (n : Int) : List (List Int) → List (List Int) → List (List Int) × Bool
  | [],a => (a,true)
  | q :: l,a => bif fitW n q then cyG n l (a ++ [cdL n.toNat q]) else (a,false)
@[irreducible] def cyR (t : Tg) : List (List Int) × Bool := if 400 < (t.wo.length : Int) * t.de then ([],false) else bif (cyG t.wo.length t.wo []).2 then ((cyG t.wo.length t.wo []).1 ++ List.replicate ((t.wo.length : Int) * (t.de - 1)).toNat [],true) else ((cyG t.wo.length t.wo []).1,false)
theorem l15Cyclic_ok (t : Tg) (hv : vTag t = true) : Does Tryd.prog 20 [.one (tgB t)] [] (.tup [(true,[.gv 0]),(false,[boo (cyR t).2])]) [roW (cyR t).1] := by
  have hb := vTag_bd hv
  have hw : ∀ q ∈ t.wo,(q.length : Int) ≤ 1048576 := fun q hq => by have := (vTag_w hv hq).1; omega
  have m0 : 0 ≤ (t.wo.length : Int) * t.de := Int.mul_nonneg (by omega) (by omega)
  have m1 : (t.wo.length : Int) * t.de ≤ 200 * 4 := Int.mul_le_mul (by omega) (by omega) (by omega) (by omega)
  have m2 : 0 ≤ (t.wo.length : Int) * (t.de - 1) := Int.mul_nonneg (by omega) (by omega)
  have m3 : (t.wo.length : Int) * (t.de - 1) ≤ 200 * 3 := Int.mul_le_mul (by omega) (by omega) (by omega) (by omega)
  have e0 : cyR t = if 400 < (t.wo.length : Int) * t.de then ([],false) else bif (cyG t.wo.length t.wo []).2 then ((cyG t.wo.length t.wo []).1 ++ List.replicate ((t.wo.length : Int) * (t.de - 1)).toNat [],true) else ((cyG t.wo.length t.wo []).1,false) := by unfold cyR; rfl
  by_cases h4 : 400 < (t.wo.length : Int) * t.de
  · rw [e0,if_pos h4]
    refine does_of (k := 0) Tryd.func20 rfl Tryd.ntmps20 rfl rfl fun w F0 S0 ρ0 => ?_
    dsimp only [argT,argH]
    repeat' first|(apply n3;(first|exact a_new (gb := .bx _) rfl|exact a_litE eW [] rfl rfl rfl rfl rfl rfl rfl rfl);exact rfl;refine dA ?_)|(apply p3;(first|exact pu1|exact puN|exact a_mulB rfl rfl (by omega) (by omega) (by omega) (by omega)|exact puC);exact rfl)|refine cd ?_|(apply w3;exact a_st_bx rfl rfl rfl rfl (fN rfl rfl) (Nat.le_of_ble_eq_true rfl) rfl;exact rfl;refine dS ?_)|((refine g_cond rfl (fun hc => ?_) (fun hc => ?_)) <;> (try simp only [dcB] at hc) <;> (try first|contradiction|(exfalso;omega)))
    simp only [setRow,scC,List.map_cons,List.map_nil,List.set_cons_zero,List.set_cons_succ,Nat.zero_add,List.getElem?_cons_zero,List.getElem?_cons_succ,List.take_succ_cons,List.take_zero,List.drop_zero,List.cons_append,List.nil_append,List.drop_succ_cons,List.drop_nil,List.append_nil,List.append_eq]
    repeat refine cr ?_
    refine ends_id ?_
    refine endK [?_] (h2 := ?_) (h3 := ?_) (nd := ?_)
    rotate_left 1
    all_goals (repeat' first|exact ce0|refine ce ?_|refine ce2 ?_ ?_|(refine Or.inr (bx_eq rfl rfl ?_);(try dsimp only [C.ren,C.ren.all]);(try exact rfl))|exact SVLe.refl|refine ceb ?_)
    all_goals first | exact (show nodupB _ = true from rfl) | exact Or.inr rfl | (rfl)
  · rw [e0,if_neg h4]
    refine does_of (k := 0) Tryd.func20 rfl Tryd.ntmps20 rfl rfl fun w F0 S0 ρ0 => ?_
    dsimp only [argT,argH]
    repeat' first|(apply n3;(first|exact a_new (gb := .bx _) rfl|exact a_litE eW [] rfl rfl rfl rfl rfl rfl rfl rfl);exact rfl;refine dA ?_)|(apply p3;(first|exact pu1|exact puN|exact a_mulB rfl rfl (by omega) (by omega) (by omega) (by omega)|exact puC);exact rfl)|refine cd ?_|(apply w3;exact a_st_bx rfl rfl rfl rfl (fN rfl rfl) (Nat.le_of_ble_eq_true rfl) rfl;exact rfl;refine dS ?_)|((refine g_cond rfl (fun hc => ?_) (fun hc => ?_)) <;> (try simp only [dcB] at hc) <;> (try first|contradiction|(exfalso;omega)))
    simp only [setRow,scC,List.map_cons,List.map_nil,List.set_cons_zero,List.set_cons_succ,Nat.zero_add,List.getElem?_cons_zero,List.getElem?_cons_succ,List.take_succ_cons,List.take_zero,List.drop_zero,List.cons_append,List.nil_append,List.drop_succ_cons,List.drop_nil,List.append_nil,List.append_eq]
    refine g_loop_id ?_
    refine loopK [0,2,3,4,5] [1,2] (fun y : Int × List (List Int) => 0 ≤ y.1 ∧ y.1 ≤ t.wo.length ∧ (y.2.length : Int) = y.1 ∧ cyG t.wo.length (t.wo.drop y.1.toNat) y.2 = cyG t.wo.length t.wo []) (fun y => [(6,.one (int y.1))]) (fun y => [(1,roW y.2),(2,.bx [.gv 1])]) (fun y => (t.wo.length - y.1).toNat) ((0 : Int),([] : List (List Int))) [0,1,2] (hI := ?_) (hr := ?_)
    · exact ⟨by simp,by simp,by simp,by simp⟩
    · rintro ⟨i,a⟩ ⟨j0,j1,j2,j3⟩
      dsimp only [List.cons_append,List.nil_append] at *
      skip
      repeat' first|(apply p3;(first|exact pu1|exact puC);exact rfl)|refine cdn ?_|refine g_reg (id := 6) ?_|((refine g_cond rfl (fun hc => ?_) (fun hc => ?_)) <;> (try simp only [dcB] at hc) <;> (try first|contradiction|(exfalso;omega)))
      · have hi : i.toNat < t.wo.length := by omega
        have hl := hw _ (List.getElem_mem hi)
        rw [List.drop_eq_getElem_cons hi,cyG] at j3
        cases hf : fitW t.wo.length (t.wo[i.toNat]'hi) with
        | false =>
          rw [hf,cond_false] at j3
          repeat' first|(apply p3;(first|exact pu1|exact puI);exact rfl)|refine cdn ?_|refine g_reg (id := 8) ?_|(apply c4 0;exact callF (hD := (l15Codes_ok (t.wo[i.toNat]'hi) t.wo.length hl (by omega) (by omega)));exact rfl;exact rfl;exact rfl;refine dM ?_)
          simp only [hf,cond_false]
          repeat' first|(apply p3;(exact pu1);exact rfl)|refine cd ?_|(apply w3;exact a_st_bx rfl rfl rfl rfl (fN rfl rfl) (Nat.le_of_ble_eq_true rfl) rfl;exact rfl;refine dS ?_)
          rw [← j3]
          simp only [setRow,scC,List.map_cons,List.map_nil,List.set_cons_zero,List.set_cons_succ,Nat.zero_add,List.getElem?_cons_zero,List.getElem?_cons_succ,List.take_succ_cons,List.take_zero,List.drop_zero,List.cons_append,List.nil_append,List.drop_succ_cons,List.drop_nil,List.append_nil,List.append_eq]
          repeat refine cr ?_
          refine ends_id ?_
          refine endK [?_] (h2 := ?_) (h3 := ?_) (nd := ?_)
          rotate_left 1
          all_goals (repeat' first|exact ce0|refine ce ?_|refine ce2 ?_ ?_|(refine Or.inr (bx_eq rfl rfl ?_);(try dsimp only [C.ren,C.ren.all]);(try exact rfl))|exact SVLe.refl|refine ceb ?_)
          all_goals first | exact (show nodupB _ = true from rfl) | exact Or.inr rfl | (rfl)
        | true =>
          rw [hf,cond_true] at j3
          repeat' first|(apply p3;(first|exact pu1|exact puI);exact rfl)|refine cdn ?_|refine g_reg (id := 8) ?_|(apply c4 0;exact callF (hD := (l15Codes_ok (t.wo[i.toNat]'hi) t.wo.length hl (by omega) (by omega)));exact rfl;exact rfl;exact rfl;refine dM ?_)
          simp only [hf,cond_true]
          repeat' first|(apply n3;(exact a_litE eW [_] rfl rfl rfl rfl rfl rfl rfl rfl);exact rfl;refine dA ?_)|(apply p3;(first|exact pu1|exact a_add rfl rfl (by omega) (by omega));exact rfl)|refine cd ?_|(apply s3;exact a_appE (fP rfl) rfl rfl rfl rfl nowR (by (simp;omega)) (by decide) (by decide) (by exact rfl);exact rfl;exact rfl)|(apply w3;exact a_st_bx rfl rfl rfl rfl (fN rfl rfl) (Nat.le_of_ble_eq_true rfl) rfl;exact rfl;refine dS ?_)
          refine q_again (i + 1,a ++ [cdL (t.wo.length : Int).toNat (t.wo[i.toNat]'hi)]) [0,4,2] (by exact stk) ?_ ?_
          · dsimp only
            exact ⟨by omega,by omega,by simp; omega,by rw [show (i + 1).toNat = i.toNat + 1 by omega]; exact j3⟩
          · dsimp only; omega
      · rw [List.drop_of_length_le (by omega),cyG] at j3
        rw [← j3,cond_true]
        dsimp only
        have jl : (a.length : Int) ≤ 200 := by omega
        repeat' first|(apply p3;(first|exact pu1|exact a_mulB rfl rfl (by omega) (by omega) (by omega) (by omega)|exact a_sub rfl rfl (by omega) (by omega));exact rfl)|refine cd ?_
        refine g_loop_id ?_
        refine loopK [2,3,5] [1,2] (fun y : Int × List (List Int) => 0 ≤ y.1 ∧ (y.2.length : Int) + y.1 ≤ 1000 ∧ y.2 ++ List.replicate y.1.toNat [] = a ++ List.replicate ((t.wo.length : Int) * (t.de - 1)).toNat []) (fun y => [(9,.one (int y.1))]) (fun y => [(1,roW y.2),(2,.bx [.gv 1])]) (fun y => y.1.toNat) ((t.wo.length : Int) * (t.de - 1),a) [0,1,2] (hI := ?_) (hr := ?_)
        · exact ⟨m2,by dsimp only; omega,rfl⟩
        · rintro ⟨k,a'⟩ ⟨q0,q1,q2⟩
          dsimp only [List.cons_append,List.nil_append] at *
          skip
          repeat' first|(apply p3;(first|exact pu1|exact puC);exact rfl)|refine cdn ?_|refine g_reg (id := 13) ?_|((refine g_cond rfl (fun hc => ?_) (fun hc => ?_)) <;> (try simp only [dcB] at hc) <;> (try first|contradiction|(exfalso;omega)))
          · skip
            repeat' first|(apply p3;exact a_litF (dst := some 64) eI [] rfl rfl rfl rfl rfl rfl rfl rfl nowR;exact rfl)|(apply n3;(exact a_litE eW [_] rfl rfl rfl rfl rfl rfl rfl rfl);exact rfl;refine dA ?_)|(apply p3;(first|exact pu1|exact a_sub rfl rfl (by omega) (by omega));exact rfl)|refine cd ?_|(apply s3;exact a_appE (fP rfl) rfl rfl rfl rfl nowR (by (simp;omega)) (by decide) (by decide) (by exact rfl);exact rfl;exact rfl)|(apply w3;exact a_st_bx rfl rfl rfl rfl (fN rfl rfl) (Nat.le_of_ble_eq_true rfl) rfl;exact rfl;refine dS ?_)
            refine q_again (k - 1,a' ++ [[]]) [0,4,2] (by exact stk) ?_ ?_
            · dsimp only
              exact ⟨by omega,by simp; omega,by rw [← q2,show k.toNat = (k - 1).toNat + 1 by omega,List.replicate_succ,List.append_assoc]; rfl⟩
            · dsimp only; omega
          · rw [show k.toNat = 0 by omega,List.replicate_zero,List.append_nil] at q2
            rw [← q2]
            repeat' first|(apply p3;(exact pu1);exact rfl)|refine cd ?_|(apply w3;exact a_st_bx rfl rfl rfl rfl (fN rfl rfl) (Nat.le_of_ble_eq_true rfl) rfl;exact rfl;refine dS ?_)
            simp only [setRow,scC,List.map_cons,List.map_nil,List.set_cons_zero,List.set_cons_succ,Nat.zero_add,List.getElem?_cons_zero,List.getElem?_cons_succ,List.take_succ_cons,List.take_zero,List.drop_zero,List.cons_append,List.nil_append,List.drop_succ_cons,List.drop_nil,List.append_nil,List.append_eq]
            repeat refine cr ?_
            refine ends_id ?_
            refine endK [?_] (h2 := ?_) (h3 := ?_) (nd := ?_)
            rotate_left 1
            all_goals (repeat' first|exact ce0|refine ce ?_|refine ce2 ?_ ?_|(refine Or.inr (bx_eq rfl rfl ?_);(try dsimp only [C.ren,C.ren.all]);(try exact rfl))|exact SVLe.refl|refine ceb ?_)
            all_goals first | exact (show nodupB _ = true from rfl) | exact Or.inr rfl | (rfl)
end Go.Proofs.YtjmlbmmbionmcaaDoor
end
section
set_option linter.unusedVariables false
set_option linter.unusedSimpArgs false
set_option maxRecDepth 100000
set_option maxHeartbeats 1000000
namespace Go.Proofs.YtjmlbmmbionmcaaDoor
open Go Foot Go.RowKit
abbrev cyB (L : List (List Int)) : C := .d (.bx false [.sl false 1 (rows eW L)])
abbrev tnB (i : Int) (q : List Int) : C := .d (.bx false [.sc (.int .i64 i),.sl false 1 (rows eI q)])
@[irreducible] def cyI (L : List (List Int)) (i : Int) : Int := (i + 1) % (L.length : Int)
@[irreducible] def cyQ (L : List (List Int)) (i : Int) (q : List Int) : List Int := if q.headD 0 = 1 then q.drop 1 ++ L.getD i.toNat [] else q.drop 1
@[irreducible] def cyO (L : List (List Int)) (i : Int) (q : List Int) : Bool := !decide (((cyQ L i q).length : Int) ≤ 1000)
theorem preB179 {p : Prop} (h : p := by first | with_reducible assumption | omega | (simp only [List.length_append,List.length_cons,List.length_nil,List.length_set,List.length_replicate,List.length_take,List.length_drop,List.length_tail,List.length_dropLast,List.length_reverse] at *; omega) | exact mem_len (by assumption) (by omega) | (with_reducible refine Int.le_trans (Int.ofNat_le.2 (trimR_len _)) ?_; simp only [List.length_cons,List.length_tail]; omega) | (exact (ruAt_ok (by assumption) (by assumption) (by assumption)).2.1) | (exact (ruAt_ok (by assumption) (by assumption) (by assumption)).2.1) | (have := vMach_bd (by assumption); omega) | (simp only [mC_ch,mC_tu]; omega) | (have := vTag_bd (by assumption); omega) | (have := (‹Gd _ _›).le; omega) | (exact tgHalts_no (by assumption)) | (exact tgHead (by assumption) (by assumption) (by assumption)) | (exact Int.le_trans (tgStep_gd (by assumption) (by assumption) (by assumption) (by assumption)).le (by decide)) | (exact vTag_r (by assumption)) | (with_reducible refine Int.le_trans (Int.ofNat_le.2 (pushL_len _ _)) ?_; simp only [List.length_dropLast]; omega) | exact ls_at (by assumption) (by omega) | exact pt_gd (by assumption) | exact lv_at (by assumption) (by omega) | exact pt_gd (lv_at (by assumption) (by omega)) | exact (ask_ok (by assumption)).1 | exact (ask_ok (by assumption)).2.1 | exact (ask_ok (by assumption)).2.2.1 | exact (ask_ok (by assumption)).2.2.2 | trivial) : p := h
theorem l09Next_ok (L : List (List Int)) (i : Int) (q : List Int) (h0 : 0 ≤ i) (h1 : i.toNat < L.length) (hL : (L.length : Int) ≤ 1000) (hw : ∀ x ∈ L,(x.length : Int) ≤ 1000) (hq0 : 0 < q.length) (hq : (q.length : Int) ≤ 1000) : Does Tryd.prog 23 [.one (cyB L),.one (tnB i q)] [] (.tup [(true,[int (cyI L i),.gv 0]),(false,[boo (!cyO L i q)])]) [roI (cyQ L i q)] := by
  have hx := hw _ (List.getElem_mem h1)
  have hz : (0 : Int).toNat < q.length := hq0
  have e1 : cyI L i = (i + 1) % (L.length : Int) := by unfold cyI; rfl
  have eh : q.headD 0 = q[(0 : Int).toNat]'hz := by
    cases q with
    | nil => simp at hq0
    | cons x r => rfl
  have eg : L.getD i.toNat [] = L[i.toNat]'h1 := by rw [List.getD_eq_getElem?_getD,List.getElem?_eq_getElem h1]; rfl
  have eo : cyO L i q = !decide (((cyQ L i q).length : Int) ≤ 1000) := by unfold cyO; rfl
  rw [e1,eo]
  by_cases hb : q[(0 : Int).toNat]'hz = 1
  · have e2 : cyQ L i q = q.drop 1 ++ L[i.toNat]'h1 := by unfold cyQ; rw [eh,if_pos hb,eg]
    rw [e2,Bool.not_not]
    have hla : ((q.drop 1 ++ L[i.toNat]'h1).length : Int) = (q.length : Int) - 1 + (L[i.toNat]'h1).length := by rw [List.length_append,List.length_drop]; omega
    refine does_of (k := 0) Tryd.func23 rfl Tryd.ntmps23 rfl rfl fun w F0 S0 ρ0 => ?_
    dsimp only [argT,argH]
    repeat' first|(apply n3;exact a_new (gb := .bx _) rfl;exact rfl;refine dA ?_)|(apply p3;exact a_pure (sv := .one _) rfl;exact rfl)|refine cdn ?_|refine g_reg (id := 0) ?_|(apply g_drN (id := 1) okM [[],[0],[0,1],[0,1,2],[0,1,2,3],[],[5],[5,6],[5,6,7],[5,6,7,8],[0,1,2,3,4,5,6,7,8,9],[],[11],[11,12],[11,12,13],[11,12,13,14],[11,12,13,14,15],[0,1,2,3,4,5,6,7,8,9,10,11,12,13,14,15,16],[],[0,1,2,3,4,5,6,7,8,9,10,11,12,13,14,15,16,17,18]] [([],[]),([],[]),([],[]),([],[]),([],[]),([],[]),([],[]),([],[]),([],[]),([],[]),([],[]),([],[]),([],[]),([],[]),([],[]),([],[]),([0],[]),([],[]),([1],[]),([],[2])] 2;(focus (refine dp 0 0 [12,13,14,15,16,18,19,20,21,22,23,6] [(true,0),(true,1)] pu1 ?_;refine dp 1 1 [12,13,14,15,16,18,19,20,21,22,23,6] [(true,0),(true,1)] (a_pure (sv := .one _) rfl) ?_;refine dp 2 3 [12,13,14,15,16,18,19,20,21,22,23,6] [(true,0),(true,1)] (a_pure (sv := .one _) rfl) ?_;refine dp 3 7 [12,13,14,15,16,18,19,20,21,22,23,6] [(true,0),(true,1)] puL ?_;refine dp 4 15 [12,13,14,15,16,18,19,20,21,22,23,6] [(true,0),(true,1)] (a_add rfl rfl (by omega) (by omega)) ?_;refine dp 5 0 [7,8,9,10,11,18,19,20,21,22,23,6] [(true,0),(true,1)] pu1 ?_;refine dp 6 1 [7,8,9,10,11,18,19,20,21,22,23,6] [(true,0),(true,1)] (a_pure (sv := .one _) rfl) ?_;refine dp 7 3 [7,8,9,10,11,18,19,20,21,22,23,6] [(true,0),(true,1)] (a_pure (sv := .one _) rfl) ?_;refine dp 8 7 [7,8,9,10,11,18,19,20,21,22,23,6] [(true,0),(true,1)] puL ?_;refine dp 9 15 [7,8,9,10,11,18,19,20,21,22,23,6] [(true,0),(true,1)] (by exact puN) ?_;refine dp 10 1023 [18,19,20,21,22,23,6] [(true,0),(true,1)] (a_rem rfl rfl (by omega) (by omega) (by omega)) ?_;refine dp 11 0 [7,8,9,10,11,12,13,14,15,16,17,6] [(true,1)] pu1 ?_;refine dp 12 1 [7,8,9,10,11,12,13,14,15,16,17,6] [(true,1)] (a_pure (sv := .one _) rfl) ?_;refine dp 13 3 [7,8,9,10,11,12,13,14,15,16,17,6] [(true,1)] (a_pure (sv := .one _) rfl) ?_;refine dp 14 7 [7,8,9,10,11,12,13,14,15,16,17,6] [(true,1)] (by exact puL) ?_;refine dp 15 15 [7,8,9,10,11,12,13,14,15,16,17,6] [(true,1)] (by exact a_slT rfl rfl rfl (fS rfl) (by omega) (by omega) (by exact rfl)) ?_;refine duN 16 31 [7,8,9,10,11,12,13,14,15,16,17,6] [(true,1)] (callD1 (n := _) 0 (θ := []) (hD := (l00Own_ok _ preB179))) (by exact rfl) (by exact rfl) ?_;refine dp 17 131071 [6] [(true,1)] (a_pure (sv := .agg _) rfl) ?_;refine duE 18 0 [7,8,9,10,11,12,13,14,15,16,17,18,19,20,21,22,23,24] [(true,0)] (atN 1 (fun _ => a_new (gb := .bx _) rfl)) (by exact rfl) (by exact rfl) ?_;refine duE 19 524287 [] [] (a_st_bx rfl rfl rfl rfl (fN rfl rfl) (Nat.le_of_ble_eq_true rfl) rfl) (by exact rfl) (by exact rfl) ?_;(refine d_nil ?_;refine dN ?_)));any_goals kernel_rfl)
    simp only [setRow,scC,List.map_cons,List.map_nil,List.set_cons_zero,List.set_cons_succ,Nat.zero_add,List.getElem?_cons_zero,List.getElem?_cons_succ,List.take_succ_cons,List.take_zero,List.drop_zero,List.cons_append,List.nil_append,List.drop_succ_cons,List.drop_nil,List.append_nil,List.append_eq]
    repeat' first|(apply p3;(first|exact pu1|exact puC|exact puI);exact rfl)|refine cd ?_|(apply g_drN (id := 3) okM [[],[0],[],[2],[2,3],[2,3,4],[],[6],[6,7],[6,7,8],[2,3,4,5,6,7,8,9],[2,3,4,5,6,7,8,9,10],[0,1,2,3,4,5,6,7,8,9,10,11],[0,1,2,3,4,5,6,7,8,9,10,11,12],[0,1,2,3,4,5,6,7,8,9,10,11,12,13]] [([],[]),([],[]),([],[]),([],[]),([],[]),([],[]),([],[]),([],[]),([],[]),([],[]),([],[]),([],[]),([0],[_]),([],[]),([],[2])] 1;(focus (refine dp 0 0 [34,35,36,37,38,39,40,41,42,43] [] (a_pure (sv := .one _) rfl) ?_;refine dp 1 1 [34,35,36,37,38,39,40,41,42,43] [] (by exact puL) ?_;refine dp 2 0 [32,33,38,39,40,41] [] pu1 ?_;refine dp 3 1 [32,33,38,39,40,41] [] (a_pure (sv := .one _) rfl) ?_;refine dp 4 3 [32,33,38,39,40,41] [] (a_pure (sv := .one _) rfl) ?_;refine dp 5 7 [32,33,38,39,40,41] [] puL ?_;refine dp 6 0 [32,33,34,35,36,37] [] pu1 ?_;refine dp 7 1 [32,33,34,35,36,37] [] (a_pure (sv := .one _) rfl) ?_;refine dp 8 3 [32,33,34,35,36,37] [] (a_pure (sv := .one _) rfl) ?_;refine dp 9 7 [32,33,34,35,36,37] [] puL ?_;refine dp 10 255 [32,33] [] puI ?_;refine dp 11 511 [32,33] [] (by exact puL) ?_;refine duE 12 4095 [] [] (atS 0 (fun _ hj => a_appE (fP rfl) rfl rfl rfl rfl nowR (by (simp;omega)) (by decide) hj (by exact rfl)) (by decide)) (by exact rfl) (by exact rfl) ?_;refine dp 13 8191 [] [] (a_pure (sv := .one _) rfl) ?_;refine duE 14 16383 [] [] (by exact a_st_bx rfl rfl rfl rfl (fN rfl rfl) (Nat.le_of_ble_eq_true rfl) rfl) (by exact rfl) (by exact rfl) ?_;(refine d_nil ?_;refine dN ?_)));any_goals kernel_rfl)|(apply g_drN (id := 4) okM [[],[],[1],[1,2],[1,2,3],[0],[0,1,2,3,4,5]] [([],[]),([],[]),([],[]),([],[]),([],[]),([],[0]),([],[])] 0;(focus (refine dp 0 0 [47,48,49,50] [] puL ?_;refine dp 1 0 [46] [(false,0)] (a_pure (sv := .one _) rfl) ?_;refine dp 2 1 [46] [(false,0)] (by exact puL) ?_;refine dp 3 3 [46] [(false,0)] (by exact puN) ?_;refine dp 4 7 [46] [(false,0)] puC ?_;refine duE 5 16 [47,48,49,50] [] (a_st_bx rfl rfl rfl rfl (fN rfl rfl) (Nat.le_of_ble_eq_true rfl) rfl) (by exact rfl) (by exact rfl) ?_;refine dp 6 63 [] [] pu1 ?_;(refine d_nil ?_;refine dN ?_)));any_goals kernel_rfl)|((refine g_cond rfl (fun hc => ?_) (fun hc => ?_)) <;> (try simp only [dcB] at hc) <;> (try first|contradiction|(exfalso;omega)))
    simp only [setRow,scC,List.map_cons,List.map_nil,List.set_cons_zero,List.set_cons_succ,Nat.zero_add,List.getElem?_cons_zero,List.getElem?_cons_succ,List.take_succ_cons,List.take_zero,List.drop_zero,List.cons_append,List.nil_append,List.drop_succ_cons,List.drop_nil,List.append_nil,List.append_eq]
    repeat refine cr ?_
    refine ends_id ?_
    refine endK [?_] (h2 := ?_) (h3 := ?_) (nd := ?_)
    rotate_left 1
    all_goals (repeat' first|exact ce0|refine ce ?_|refine ce2 ?_ ?_|(refine Or.inr (bx_eq rfl rfl ?_);(try dsimp only [C.ren,C.ren.all]);(try exact rfl))|exact SVLe.refl|refine ceb ?_)
    all_goals first | exact (show nodupB _ = true from rfl) | exact Or.inr rfl | (rfl)
  · have e2 : cyQ L i q = q.drop 1 := by unfold cyQ; rw [eh,if_neg hb]
    rw [e2,Bool.not_not]
    refine does_of (k := 0) Tryd.func23 rfl Tryd.ntmps23 rfl rfl fun w F0 S0 ρ0 => ?_
    dsimp only [argT,argH]
    repeat' first|(apply n3;exact a_new (gb := .bx _) rfl;exact rfl;refine dA ?_)|(apply p3;exact a_pure (sv := .one _) rfl;exact rfl)|refine cdn ?_|refine g_reg (id := 0) ?_|(apply g_drN (id := 1) okM [[],[0],[0,1],[0,1,2],[0,1,2,3],[],[5],[5,6],[5,6,7],[5,6,7,8],[0,1,2,3,4,5,6,7,8,9],[],[11],[11,12],[11,12,13],[11,12,13,14],[11,12,13,14,15],[0,1,2,3,4,5,6,7,8,9,10,11,12,13,14,15,16],[],[0,1,2,3,4,5,6,7,8,9,10,11,12,13,14,15,16,17,18]] [([],[]),([],[]),([],[]),([],[]),([],[]),([],[]),([],[]),([],[]),([],[]),([],[]),([],[]),([],[]),([],[]),([],[]),([],[]),([],[]),([0],[]),([],[]),([1],[]),([],[2])] 2;(focus (refine dp 0 0 [12,13,14,15,16,18,19,20,21,22,23,6] [(true,0),(true,1)] pu1 ?_;refine dp 1 1 [12,13,14,15,16,18,19,20,21,22,23,6] [(true,0),(true,1)] (a_pure (sv := .one _) rfl) ?_;refine dp 2 3 [12,13,14,15,16,18,19,20,21,22,23,6] [(true,0),(true,1)] (a_pure (sv := .one _) rfl) ?_;refine dp 3 7 [12,13,14,15,16,18,19,20,21,22,23,6] [(true,0),(true,1)] puL ?_;refine dp 4 15 [12,13,14,15,16,18,19,20,21,22,23,6] [(true,0),(true,1)] (a_add rfl rfl (by omega) (by omega)) ?_;refine dp 5 0 [7,8,9,10,11,18,19,20,21,22,23,6] [(true,0),(true,1)] pu1 ?_;refine dp 6 1 [7,8,9,10,11,18,19,20,21,22,23,6] [(true,0),(true,1)] (a_pure (sv := .one _) rfl) ?_;refine dp 7 3 [7,8,9,10,11,18,19,20,21,22,23,6] [(true,0),(true,1)] (a_pure (sv := .one _) rfl) ?_;refine dp 8 7 [7,8,9,10,11,18,19,20,21,22,23,6] [(true,0),(true,1)] puL ?_;refine dp 9 15 [7,8,9,10,11,18,19,20,21,22,23,6] [(true,0),(true,1)] (by exact puN) ?_;refine dp 10 1023 [18,19,20,21,22,23,6] [(true,0),(true,1)] (a_rem rfl rfl (by omega) (by omega) (by omega)) ?_;refine dp 11 0 [7,8,9,10,11,12,13,14,15,16,17,6] [(true,1)] pu1 ?_;refine dp 12 1 [7,8,9,10,11,12,13,14,15,16,17,6] [(true,1)] (a_pure (sv := .one _) rfl) ?_;refine dp 13 3 [7,8,9,10,11,12,13,14,15,16,17,6] [(true,1)] (a_pure (sv := .one _) rfl) ?_;refine dp 14 7 [7,8,9,10,11,12,13,14,15,16,17,6] [(true,1)] (by exact puL) ?_;refine dp 15 15 [7,8,9,10,11,12,13,14,15,16,17,6] [(true,1)] (by exact a_slT rfl rfl rfl (fS rfl) (by omega) (by omega) (by exact rfl)) ?_;refine duN 16 31 [7,8,9,10,11,12,13,14,15,16,17,6] [(true,1)] (callD1 (n := _) 0 (θ := []) (hD := (l00Own_ok _ preB179))) (by exact rfl) (by exact rfl) ?_;refine dp 17 131071 [6] [(true,1)] (a_pure (sv := .agg _) rfl) ?_;refine duE 18 0 [7,8,9,10,11,12,13,14,15,16,17,18,19,20,21,22,23,24] [(true,0)] (atN 1 (fun _ => a_new (gb := .bx _) rfl)) (by exact rfl) (by exact rfl) ?_;refine duE 19 524287 [] [] (a_st_bx rfl rfl rfl rfl (fN rfl rfl) (Nat.le_of_ble_eq_true rfl) rfl) (by exact rfl) (by exact rfl) ?_;(refine d_nil ?_;refine dN ?_)));any_goals kernel_rfl)
    simp only [setRow,scC,List.map_cons,List.map_nil,List.set_cons_zero,List.set_cons_succ,Nat.zero_add,List.getElem?_cons_zero,List.getElem?_cons_succ,List.take_succ_cons,List.take_zero,List.drop_zero,List.cons_append,List.nil_append,List.drop_succ_cons,List.drop_nil,List.append_nil,List.append_eq]
    repeat' first|(apply p3;(first|exact pu1|exact puC|exact puI);exact rfl)|refine cd ?_|(apply g_drN (id := 4) okM [[],[],[1],[1,2],[1,2,3],[0],[0,1,2,3,4,5]] [([],[]),([],[]),([],[]),([],[]),([],[]),([],[0]),([],[])] 0;(focus (refine dp 0 0 [47,48,49,50] [] puL ?_;refine dp 1 0 [46] [(false,0)] (a_pure (sv := .one _) rfl) ?_;refine dp 2 1 [46] [(false,0)] (by exact puL) ?_;refine dp 3 3 [46] [(false,0)] (by exact puN) ?_;refine dp 4 7 [46] [(false,0)] puC ?_;refine duE 5 16 [47,48,49,50] [] (a_st_bx rfl rfl rfl rfl (fN rfl rfl) (Nat.le_of_ble_eq_true rfl) rfl) (by exact rfl) (by exact rfl) ?_;refine dp 6 63 [] [] pu1 ?_;(refine d_nil ?_;refine dN ?_)));any_goals kernel_rfl)|((refine g_cond rfl (fun hc => ?_) (fun hc => ?_)) <;> (try simp only [dcB] at hc) <;> (try first|contradiction|(exfalso;omega)))
    simp only [setRow,scC,List.map_cons,List.map_nil,List.set_cons_zero,List.set_cons_succ,Nat.zero_add,List.getElem?_cons_zero,List.getElem?_cons_succ,List.take_succ_cons,List.take_zero,List.drop_zero,List.cons_append,List.nil_append,List.drop_succ_cons,List.drop_nil,List.append_nil,List.append_eq]
    repeat refine cr ?_
    refine ends_id ?_
    refine endK [?_] (h2 := ?_) (h3 := ?_) (nd := ?_)
    rotate_left 1
    all_goals (repeat' first|exact ce0|refine ce ?_|refine ce2 ?_ ?_|(refine Or.inr (bx_eq rfl rfl ?_);(try dsimp only [C.ren,C.ren.all]);(try exact rfl))|exact SVLe.refl|refine ceb ?_)
    all_goals first | exact (show nodupB _ = true from rfl) | exact Or.inr rfl | (rfl)
theorem lt1_none {c : List Int} (h : c.count 1 ≠ 1) : lt1 c = none := by unfold lt1; rw [if_neg h]
theorem count_take_s {c : List Int} {k : Nat} (h : k < c.length) : (c.take (k + 1)).count 1 = (c.take k).count 1 + if c[k] = 1 then 1 else 0 := by
  rw [List.take_succ_eq_append_getElem h,List.count_append,List.count_singleton]
  simp
theorem count_take_le {c : List Int} (k : Nat) : (c.take k).count 1 ≤ c.count 1 := by
  conv => rhs; rw [← List.take_append_drop k c]
  rw [List.count_append]
  omega
theorem idx_take {c : List Int} {k : Nat} (h : k < c.length) (h0 : (c.take k).count 1 = 0) (h1 : c[k] = 1) : c.idxOf 1 = k := by
  have hm : (1 : Int) ∉ c.take k := fun q => by
    have := List.count_pos_iff.2 q
    omega
  conv => lhs; rw [← List.take_append_drop k c,List.drop_eq_getElem_cons h,h1]
  rw [List.idxOf_append,if_neg hm,List.idxOf_cons_self,List.length_take]
  omega
def LtK (c : List Int) (k : Nat) (l : Int) : Prop := (l = -1 ∧ (c.take k).count 1 = 0) ∨ (0 ≤ l ∧ (c.take k).count 1 = 1 ∧ l = (c.idxOf 1 : Nat))
theorem ltK_end {c : List Int} {l : Int} (h : LtK c c.length l) : lt1 c = if l < 0 then none else some l := by
  unfold LtK at h
  rw [List.take_length] at h
  rcases h with ⟨h1,h2⟩ | ⟨h1,h2,h3⟩
  · rw [if_pos (by omega),lt1_none (by omega)]
  · unfold lt1
    rw [if_pos h2,if_neg (by omega),h3]
theorem ltK_0 (c : List Int) : LtK c 0 (-1) := .inl ⟨rfl,rfl⟩
theorem ltK_two {c : List Int} {k : Nat} {l : Int} (h : LtK c k l) (hk : k < c.length) (h1 : c[k] = 1) (h0 : 0 ≤ l) : lt1 c = none := by
  rcases h with ⟨q1,_⟩ | ⟨_,q2,_⟩
  · omega
  · have := count_take_s hk
    have h3 := count_take_le (c := c) (k + 1)
    rw [if_pos h1] at this
    exact lt1_none (by omega)
theorem ltK_one {c : List Int} {k : Nat} {l : Int} (h : LtK c k l) (hk : k < c.length) (h1 : c[k] = 1) (h0 : l < 0) : LtK c (k + 1) k := by
  rcases h with ⟨q1,q2⟩ | ⟨q1,_⟩
  · have := count_take_s hk
    rw [if_pos h1] at this
    exact .inr ⟨by omega,by omega,by rw [idx_take hk q2 h1]⟩
  · omega
theorem ltK_no {c : List Int} {k : Nat} {l : Int} (h : LtK c k l) (hk : k < c.length) (h1 : c[k] ≠ 1) : LtK c (k + 1) l := by
  have := count_take_s hk
  rw [if_neg h1] at this
  rcases h with ⟨q1,q2⟩ | ⟨q1,q2,q3⟩
  · exact .inl ⟨q1,by omega⟩
  · exact .inr ⟨q1,by omega,q3⟩
end Go.Proofs.YtjmlbmmbionmcaaDoor
end
section
set_option linter.unusedVariables false
set_option linter.unusedSimpArgs false
set_option maxRecDepth 100000
set_option maxHeartbeats 1000000
namespace Go.Proofs.YtjmlbmmbionmcaaDoor
open Go Foot Go.RowKit
theorem l15Back_ok (q : List Int) (n : Int) (hq : (q.length : Int) ≤ 1000) (h0 : 1 ≤ n) (h1 : n ≤ 200) : Does Tryd.prog 24 [.one (shI q),.one (int n)] [] (.tup [(false,[.gv 0]),(false,[boo (bkL n.toNat q).isSome])]) [roI ((bkL n.toNat q).getD [])] := by
  obtain ⟨N,hN⟩ : ∃ N : Nat,n = N := ⟨n.toNat,by omega⟩
  subst hN
  rw [Int.toNat_natCast]
  have eb : bkL N q = if q.length % N ≠ 0 then none else ltL N (q.length / N) q := by unfold bkL; rfl
  by_cases hm : (q.length : Int) % (N : Int) = 0
  · have hmn : q.length % N = 0 := by omega
    have eb2 : bkL N q = ltL N (q.length / N) q := by rw [eb,if_neg (by omega)]
    have hK : q.length / N * N = q.length := Nat.div_mul_cancel (Nat.dvd_of_mod_eq_zero hmn)
    rw [eb2]
    generalize q.length / N = K at *
    refine does_of (k := 0) Tryd.func24 rfl Tryd.ntmps24 rfl rfl fun w F0 S0 ρ0 => ?_
    dsimp only [argT,argH]
    repeat' first|(apply n3;exact a_nilO eI rfl;exact rfl)|(apply n3;(exact a_litE eI [] rfl rfl rfl rfl rfl rfl rfl rfl);exact rfl;refine dA ?_)|(apply p3;(first|exact pu1|exact puN|exact a_rem rfl rfl (by omega) (by omega) (by omega)|exact a_ne rfl rfl);exact rfl)|refine cd ?_|((refine g_cond rfl (fun hc => ?_) (fun hc => ?_)) <;> (try simp only [dcB] at hc) <;> (try first|contradiction|(exfalso;omega)))
    refine g_loop_id ?_
    refine loopK [0,1,4,5] [1] (fun y : Int × List Int => 0 ≤ y.1 ∧ (y.2.length : Int) ≤ y.1 ∧ ∃ j : Nat,y.1 = ((j * N : Nat) : Int) ∧ j ≤ K ∧ (ltL N (K - j) (q.drop y.1.toNat)).map (fun r => y.2 ++ r) = ltL N K q) (fun y => [(7,.one (int y.1)),(6,.one (.gv 1))]) (fun y => [(1,roI y.2)]) (fun y => (q.length - y.1).toNat) ((0 : Int),([] : List Int)) [0,1] (hI := ?_) (hr := ?_)
    · exact ⟨by simp,by simp,0,by simp,Nat.zero_le _,by simp⟩
    · rintro ⟨a,o⟩ ⟨j0,j1,j,j2,j3,j4⟩
      dsimp only [List.cons_append,List.nil_append] at *
      skip
      repeat' first|(apply p3;(first|exact pu1|exact puN|exact puC);exact rfl)|refine cdn ?_|refine g_reg (id := 5) ?_|refine g_reg (id := 18) ?_|((refine g_cond rfl (fun hc => ?_) (fun hc => ?_)) <;> (try simp only [dcB] at hc) <;> (try first|contradiction|(exfalso;omega)))
      · have hjK : j < K := by
          by_cases z : j < K
          · exact z
          · have : j = K := by omega
            rw [this] at j2
            omega
        have hle : (j + 1) * N ≤ K * N := Nat.mul_le_mul_right _ hjK
        rw [Nat.add_mul,Nat.one_mul] at hle
        obtain ⟨c,ec⟩ : ∃ c,c = (q.drop a.toNat).take N := ⟨_,rfl⟩
        have hcl : c.length = N := by rw [ec,List.length_take,List.length_drop]; omega
        have hcg : ∀ (k : Nat) (hk : k < c.length) (hk2 : a.toNat + k < q.length),c[k] = q[a.toNat + k] := fun k hk hk2 => by subst ec; simp
        have hst : K - j = (K - (j + 1)) + 1 := by omega
        rw [hst,ltL,← ec] at j4
        repeat' first|(apply p3;(exact pu1);exact rfl)|refine cd ?_
        refine g_loop_id ?_
        refine loopK [0,1,4,5,6,7] [] (fun y : Int × Int => 0 ≤ y.1 ∧ y.1 ≤ N ∧ -1 ≤ y.2 ∧ y.2 < N ∧ LtK c y.1.toNat y.2) (fun y => [(9,.one (int y.1)),(8,.one (int y.2))]) (fun _ => []) (fun y => (N - y.1).toNat) ((0 : Int),(-1 : Int)) [0,1] (hI := ?_) (hr := ?_)
        · exact ⟨by simp,by dsimp only; omega,by simp,by dsimp only; omega,ltK_0 c⟩
        · rintro ⟨k,l⟩ ⟨z0,z1,z2,z3,z4⟩
          dsimp only [List.cons_append,List.nil_append] at *
          skip
          repeat' first|(apply p3;(first|exact pu1|exact puC);exact rfl)|refine cdn ?_|refine g_reg (id := 9) ?_|((refine g_cond rfl (fun hc => ?_) (fun hc => ?_)) <;> (try simp only [dcB] at hc) <;> (try first|contradiction|(exfalso;omega)))
          · have hk : k.toNat < c.length := by omega
            have hi : (a + k).toNat < q.length := by omega
            have hg : c[k.toNat]'hk = q[(a + k).toNat]'hi := by
              rw [hcg k.toNat hk (by omega)]
              congr 1
              omega
            by_cases h5 : q[(a + k).toNat]'hi = 1
            · by_cases h6 : 0 ≤ l
              · have hno := ltK_two z4 hk (by rw [hg]; exact h5) h6
                rw [hno,Option.bind_none,Option.map_none] at j4
                rw [← j4]
                repeat' first|(apply n3;exact a_nilO eI rfl;exact rfl)|(apply p3;(first|exact pu1|exact puC|exact a_add rfl rfl (by omega) (by omega)|exact puI);exact rfl)|refine cd ?_|(apply py3;exact rfl;exact rfl;(first|exact pu1|exact puC);exact rfl;exact rfl)|((first|refine o_gs rfl rfl (fun hc => ?_) (fun hc => ?_)|refine g_cond rfl (fun hc => ?_) (fun hc => ?_)) <;> (try simp only [dcB] at hc) <;> (try first|contradiction|(exfalso;omega)))
                repeat refine cr ?_
                refine ends_id ?_
                refine endK [?_] (h2 := ?_) (h3 := ?_) (nd := ?_)
                rotate_left 1
                all_goals (repeat' first|exact ce0|refine ce ?_|refine ce2 ?_ ?_|(refine Or.inr (bx_eq rfl rfl ?_);(try dsimp only [C.ren,C.ren.all]);(try exact rfl))|exact SVLe.refl|refine ceb ?_)
                all_goals first | exact (show nodupB _ = true from rfl) | exact Or.inr rfl | (rfl)
              · have hk1 := ltK_one z4 hk (by rw [hg]; exact h5) (by omega)
                repeat' first|(apply p3;(first|exact pu1|exact puC|exact a_add rfl rfl (by omega) (by omega)|exact puI);exact rfl)|refine cd ?_|(apply py3;exact rfl;exact rfl;(first|exact pu1|exact puC);exact rfl;exact rfl)|((first|refine o_gs rfl rfl (fun hc => ?_) (fun hc => ?_)|refine g_cond rfl (fun hc => ?_) (fun hc => ?_)) <;> (try simp only [dcB] at hc) <;> (try first|contradiction|(exfalso;omega)))
                refine q_again (k + 1,k) [0,1] (by exact stk) ?_ ?_
                · refine ⟨by dsimp only; omega,by dsimp only; omega,by dsimp only; omega,by dsimp only; omega,?_⟩
                  dsimp only
                  rw [show (k + 1).toNat = k.toNat + 1 by omega,show k = ((k.toNat : Nat) : Int) by omega]
                  exact hk1
                · dsimp only; omega
            · have hk1 := ltK_no z4 hk (by rw [hg]; exact h5)
              repeat' first|(apply p3;(first|exact pu1|exact puC|exact a_add rfl rfl (by omega) (by omega)|exact puI);exact rfl)|refine cd ?_|refine o_no rfl rfl rfl rfl ?_|((first|refine o_gs rfl rfl (fun hc => ?_) (fun hc => ?_)|refine g_cond rfl (fun hc => ?_) (fun hc => ?_)) <;> (try simp only [dcB] at hc) <;> (try first|contradiction|(exfalso;omega)))
              refine q_again (k + 1,l) [0,1] (by exact stk) ?_ ?_
              · refine ⟨by dsimp only; omega,by dsimp only; omega,by dsimp only; omega,by dsimp only; omega,?_⟩
                dsimp only
                rw [show (k + 1).toNat = k.toNat + 1 by omega]
                exact hk1
              · dsimp only; omega
          · have hkn : k.toNat = c.length := by omega
            rw [hkn] at z4
            have he := ltK_end z4
            repeat' first|(apply n3;exact a_nilO eI rfl;exact rfl)|(apply n3;(exact a_litE eI [_] rfl rfl rfl rfl rfl rfl rfl rfl);exact rfl;refine dA ?_)|(apply p3;(first|exact pu1|exact puC|exact a_add rfl rfl (by omega) (by omega));exact rfl)|refine cd ?_|(apply s3;exact a_appE (fP rfl) rfl rfl rfl rfl nowR (by (simp;omega)) (by decide) (by decide) (by exact rfl);exact rfl;exact rfl)|((refine g_cond rfl (fun hc => ?_) (fun hc => ?_)) <;> (try simp only [dcB] at hc) <;> (try first|contradiction|(exfalso;omega)))
            · rw [he,if_pos hc,Option.bind_none,Option.map_none] at j4
              rw [← j4]
              repeat refine cr ?_
              refine ends_id ?_
              refine endK [?_] (h2 := ?_) (h3 := ?_) (nd := ?_)
              rotate_left 1
              all_goals (repeat' first|exact ce0|refine ce ?_|refine ce2 ?_ ?_|(refine Or.inr (bx_eq rfl rfl ?_);(try dsimp only [C.ren,C.ren.all]);(try exact rfl))|exact SVLe.refl|refine ceb ?_)
              all_goals first | exact (show nodupB _ = true from rfl) | exact Or.inr rfl | (rfl)
            · rw [he,if_neg hc,Option.bind_some,Option.map_map,List.drop_drop] at j4
              refine q_again (a + N,o ++ [l]) [0,3] (by exact stk) ?_ ?_
              · refine ⟨by dsimp only; omega,by simp; omega,j + 1,by dsimp only; rw [Nat.add_mul,Nat.one_mul]; omega,hjK,?_⟩
                dsimp only
                rw [← j4,show (a + (N : Int)).toNat = a.toNat + N by omega]
                congr 1
                funext r
                simp
              · dsimp only; omega
      · have hjK : j = K := by
          by_cases z : j < K
          · have hle : (j + 1) * N ≤ K * N := Nat.mul_le_mul_right _ z
            rw [Nat.add_mul,Nat.one_mul] at hle
            omega
          · omega
        rw [hjK,Nat.sub_self,ltL] at j4
        simp only [Option.map_some,List.append_nil] at j4
        rw [← j4]
        skip
        repeat refine cr ?_
        refine ends_id ?_
        refine endK [?_] (h2 := ?_) (h3 := ?_) (nd := ?_)
        rotate_left 1
        all_goals (repeat' first|exact ce0|refine ce ?_|refine ce2 ?_ ?_|(refine Or.inr (bx_eq rfl rfl ?_);(try dsimp only [C.ren,C.ren.all]);(try exact rfl))|exact SVLe.refl|refine ceb ?_)
        all_goals first | exact (show nodupB _ = true from rfl) | exact Or.inr rfl | (rfl)
  · have eb2 : bkL N q = none := by rw [eb,if_pos (by omega)]
    rw [eb2]
    refine does_of (k := 0) Tryd.func24 rfl Tryd.ntmps24 rfl rfl fun w F0 S0 ρ0 => ?_
    dsimp only [argT,argH]
    repeat' first|(apply n3;exact a_nilO eI rfl;exact rfl)|(apply n3;(exact a_litE eI [] rfl rfl rfl rfl rfl rfl rfl rfl);exact rfl;refine dA ?_)|(apply p3;(first|exact pu1|exact puN|exact a_rem rfl rfl (by omega) (by omega) (by omega)|exact a_ne rfl rfl);exact rfl)|refine cd ?_|((refine g_cond rfl (fun hc => ?_) (fun hc => ?_)) <;> (try simp only [dcB] at hc) <;> (try first|contradiction|(exfalso;omega)))
    repeat refine cr ?_
    refine ends_id ?_
    refine endK [?_] (h2 := ?_) (h3 := ?_) (nd := ?_)
    rotate_left 1
    all_goals (repeat' first|exact ce0|refine ce ?_|refine ce2 ?_ ?_|(refine Or.inr (bx_eq rfl rfl ?_);(try dsimp only [C.ren,C.ren.all]);(try exact rfl))|exact SVLe.refl|refine ceb ?_)
    all_goals first | exact (show nodupB _ = true from rfl) | exact Or.inr rfl | (rfl)
end Go.Proofs.YtjmlbmmbionmcaaDoor
end
section
set_option linter.unusedVariables false
set_option linter.unusedSimpArgs false
set_option maxRecDepth 100000
set_option maxHeartbeats 1000000
namespace Go.Proofs.YtjmlbmmbionmcaaDoor
open Go Foot Go.RowKit
@[irreducible] def tnX (N : Nat) (i : Int) (q : List Int) : Bs := if i = 0 then (match bkL N q with | some l => dotT l | none => []) else []
def trC (L : List (List Int)) (N : Nat) : Nat → List Bs → Int → List Int → List Bs × Bool
  | 0,l,i,q => (l ++ [tnX N i q],true)
  | k + 1,l,i,q => bif decide (q.length = 0) then (l ++ [tnX N i q],true) else bif cyO L i q then ([],false) else trC L N k (l ++ [tnX N i q]) (cyI L i) (cyQ L i q)
def trD (L : List (List Int)) (N : Nat) : Nat → List Bs → Int → List Int → (Int × Bool × Int) × List Bs
  | 0,l,i,q => (((l.length : Int),decide (q.length = 0),0),l ++ [tnX N i q])
  | k + 1,l,i,q => bif decide (q.length = 0) then (((l.length : Int),true,0),l ++ [tnX N i q]) else bif cyO L i q then ((0,false,5),l ++ [tnX N i q]) else trD L N k (l ++ [tnX N i q]) (cyI L i) (cyQ L i q)
theorem trC_D {L : List (List Int)} {N : Nat} : ∀ (k : Nat) (l : List Bs) (i : Int) (q : List Int),trC L N k l i q = if (trD L N k l i q).1.2.2 = 0 then ((trD L N k l i q).2,true) else ([],false)
  | 0,l,i,q => by rw [trC,trD]; simp
  | k + 1,l,i,q => by
    rw [trC,trD]
    cases h : decide (q.length = 0) with
    | true => simp
    | false =>
      cases o : cyO L i q with
      | true => simp
      | false => simp only [cond_false]; exact trC_D k _ _ _
theorem cyG_ok {n : Int} : ∀ (l a : List (List Int)),(∀ q ∈ a,(q.length : Int) ≤ 1000) → 1 ≤ n → (∀ q ∈ (cyG n l a).1,(q.length : Int) ≤ 1000) ∧ ((cyG n l a).2 = true → (cyG n l a).1.length = a.length + l.length)
  | [],a,h,_ => ⟨h,fun _ => rfl⟩
  | q :: l,a,h,hn => by
    rw [cyG]
    cases hf : fitW n q with
    | true =>
      rw [cond_true]
      have hq : ((cdL n.toNat q).length : Int) ≤ 1000 := by
        unfold fitW at hf
        rw [decide_eq_true_eq] at hf
        rw [cdL_len]
        have e1 : ((q.length * n.toNat : Nat) : Int) = q.length * n := by rw [Int.natCast_mul,Int.toNat_of_nonneg (by omega)]
        omega
      have := cyG_ok l (a ++ [cdL n.toNat q]) (fun x hx => by
        rcases List.mem_append.1 hx with z | z
        · exact h x z
        · rw [List.mem_singleton.1 z]; exact hq) hn
      refine ⟨this.1,fun z => ?_⟩
      rw [this.2 z]
      simp
      omega
    | false => rw [cond_false]; exact ⟨h,fun z => by cases z⟩
theorem cyR_ok {t : Tg} (hv : vTag t = true) (h : (cyR t).2 = true) : (∀ q ∈ (cyR t).1,(q.length : Int) ≤ 1000) ∧ ((cyR t).1.length : Int) = t.wo.length * t.de ∧ (t.wo.length : Int) * t.de ≤ 400 ∧ 1 ≤ (t.wo.length : Int) * t.de := by
  have hb := vTag_bd hv
  have m0 : 1 * 1 ≤ (t.wo.length : Int) * t.de := Int.mul_le_mul (by omega) (by omega) (by omega) (by omega)
  have m2 : 0 ≤ (t.wo.length : Int) * (t.de - 1) := Int.mul_nonneg (by omega) (by omega)
  have m3 : (t.wo.length : Int) * (t.de - 1) = t.wo.length * t.de - t.wo.length := by rw [Int.mul_sub,Int.mul_one]
  have hg := cyG_ok (n := t.wo.length) t.wo [] (fun q hq => by cases hq) (by omega)
  unfold cyR at h ⊢
  by_cases h4 : 400 < (t.wo.length : Int) * t.de
  · rw [if_pos h4] at h; cases h
  · rw [if_neg h4] at h ⊢
    cases hc : (cyG t.wo.length t.wo []).2 with
    | false => rw [hc,cond_false] at h; cases h
    | true =>
      rw [cond_true]
      have hl := hg.2 hc
      refine ⟨fun q hq => ?_,?_,by omega,by omega⟩
      · rcases List.mem_append.1 hq with z | z
        · exact hg.1 q z
        · rw [List.eq_of_mem_replicate z]; simp
      · rw [List.length_append,List.length_replicate,hl,List.length_nil]
        omega
theorem rep_set {n x : Nat} (h : x < n) : (List.replicate n (0 : Int)).set x 1 = cd1 n (x : Int) := by
  apply List.ext_getElem
  · rw [List.length_set,List.length_replicate,cd1_len]
  · intro k h1 h2
    rw [cd1_len] at h2
    have e : (cd1 n (x : Int))[k]? = some (if (k : Int) = (x : Int) then 1 else 0) := by
      unfold cd1
      rw [List.getElem?_map,List.getElem?_range h2]; rfl
    rw [List.getElem?_eq_getElem (by rw [cd1_len]; exact h2)] at e
    rw [Option.some.inj e,List.getElem_set]
    by_cases q : x = k
    · rw [if_pos q,if_pos (by omega)]
    · rw [if_neg q,if_neg (by omega),List.getElem_replicate]
theorem rep_set2 {a : List Int} {n m x : Nat} (h : x < n) : (a ++ List.replicate (n + m) (0 : Int)).set (a.length + x) 1 = a ++ cd1 n (x : Int) ++ List.replicate m 0 := by
  rw [List.set_append_right _ _ (by omega),Nat.add_sub_cancel_left,← List.replicate_append_replicate,List.set_append_left _ _ (by rw [List.length_replicate]; exact h),rep_set h,List.append_assoc]
theorem preB181 {p : Prop} (h : p := by first | with_reducible assumption | omega | (simp only [List.length_append,List.length_cons,List.length_nil,List.length_set,List.length_replicate,List.length_take,List.length_drop,List.length_tail,List.length_dropLast,List.length_reverse] at *; omega) | exact mem_len (by assumption) (by omega) | (with_reducible refine Int.le_trans (Int.ofNat_le.2 (trimR_len _)) ?_; simp only [List.length_cons,List.length_tail]; omega) | (exact (ruAt_ok (by assumption) (by assumption) (by assumption)).2.1) | (exact (ruAt_ok (by assumption) (by assumption) (by assumption)).2.1) | (have := vMach_bd (by assumption); omega) | (simp only [mC_ch,mC_tu]; omega) | (have := vTag_bd (by assumption); omega) | (have := (‹Gd _ _›).le; omega) | (exact tgHalts_no (by assumption)) | (exact tgHead (by assumption) (by assumption) (by assumption)) | (exact Int.le_trans (tgStep_gd (by assumption) (by assumption) (by assumption) (by assumption)).le (by decide)) | (exact vTag_r (by assumption)) | (with_reducible refine Int.le_trans (Int.ofNat_le.2 (pushL_len _ _)) ?_; simp only [List.length_dropLast]; omega) | exact ls_at (by assumption) (by omega) | exact pt_gd (by assumption) | exact lv_at (by assumption) (by omega) | exact pt_gd (lv_at (by assumption) (by omega)) | exact (ask_ok (by assumption)).1 | exact (ask_ok (by assumption)).2.1 | exact (ask_ok (by assumption)).2.2.1 | exact (ask_ok (by assumption)).2.2.2 | trivial) : p := h
theorem codesOf_ok (q : List Int) (n : Int) (h0 : 1 ≤ n) (h1 : n ≤ 200) (hb : ∀ x ∈ q,0 ≤ x ∧ x < n) (hf : (q.length : Int) * n ≤ 1000) : Does Tryd.prog 49 [.one (shI q),.one (int n)] [] (.one (.gv 0)) [roI (cdL n.toNat q)] := by
  have m0 : 0 ≤ (q.length : Int) * n := Int.mul_nonneg (by omega) (by omega)
  have m2 : (q.length : Int) * 1 ≤ q.length * n := Int.mul_le_mul_of_nonneg_left h0 (by omega)
  obtain ⟨N,hN⟩ : ∃ N : Nat,n = N := ⟨n.toNat,by omega⟩
  subst hN
  rw [Int.toNat_natCast]
  have hlen : ((q.length : Int) * (N : Int)).toNat = q.length * N := by
    have : ((q.length * N : Nat) : Int) = (q.length : Int) * (N : Int) := Int.natCast_mul _ _
    omega
  refine does_of (k := 0) Tryd.func49 rfl Tryd.ntmps49 rfl rfl fun w F0 S0 ρ0 => ?_
  dsimp only [argT,argH]
  repeat' first|(apply n3;exact a_nilO eI rfl;exact rfl)|(apply n3;exact a_make (fE rfl) (fZ rfl) (fP rfl) (by decide) rfl rfl (by omega) rfl (by omega) (by omega) (rows_rep eI 0 _);exact rfl;refine dA ?_)|(apply p3;(first|exact pu1|exact a_mulB rfl rfl (by omega) (by omega) (by omega) (by omega)|exact puN);exact rfl)|refine cd ?_|(apply c4 0;exact callK1 (θ := []) (hD := (sizeI_ok _ preB181));exact rfl;exact rfl;exact rfl;refine dM ?_)
  refine g_loop_id ?_
  refine loopK [1,4,13,14] [1] (fun y : Int × List Int => 0 ≤ y.1 ∧ y.1 ≤ q.length ∧ y.2 = cdL N (q.take y.1.toNat) ++ List.replicate ((q.length - y.1.toNat) * N) 0) (fun y => [(15,.one (int y.1)),(5,.one (.gv 1))]) (fun y => [(1,roI y.2)]) (fun y => (q.length - y.1).toNat) ((0 : Int),List.replicate ((q.length : Int) * (N : Int)).toNat (0 : Int)) [0,1] (hI := ?_) (hr := ?_)
  · refine ⟨by simp,by dsimp only; omega,?_⟩
    dsimp only
    rw [hlen]
    simp [cdL]
  · rintro ⟨i,l⟩ ⟨j0,j1,j2⟩
    dsimp only [List.cons_append,List.nil_append] at *
    skip
    repeat' first|(apply p3;(first|exact pu1|exact puC|exact puI);exact rfl)|refine cdn ?_|refine g_reg (id := 3) ?_|refine g_reg (id := 4) ?_|refine g_reg (id := 7) ?_|((refine g_cond rfl (fun hc => ?_) (fun hc => ?_)) <;> (try simp only [dcB] at hc) <;> (try first|contradiction|(exfalso;omega)))
    · have hi : i.toNat < q.length := by omega
      have hx := hb _ (List.getElem_mem hi)
      have e1 : ((i.toNat * N : Nat) : Int) = i * (N : Int) := by rw [Int.natCast_mul,Int.toNat_of_nonneg j0]
      have e2 : (i.toNat + 1) * N ≤ q.length * N := Nat.mul_le_mul_right _ hi
      rw [Nat.add_mul,Nat.one_mul] at e2
      have e3 : (q.length - i.toNat) * N = N + (q.length - (i.toNat + 1)) * N := by
        rw [show q.length - i.toNat = (q.length - (i.toNat + 1)) + 1 by omega,Nat.add_mul,Nat.one_mul,Nat.add_comm]
      have hca : (cdL N (q.take i.toNat)).length = i.toNat * N := by rw [cdL_len,List.length_take,Nat.min_eq_left (by omega)]
      have hll : l.length = q.length * N := by
        rw [j2,List.length_append,hca,List.length_replicate,← Nat.add_mul]
        congr 1
        omega
      have hset : l.set (i * (N : Int) + q[i.toNat]'hi).toNat 1 = cdL N (q.take (i.toNat + 1)) ++ List.replicate ((q.length - (i.toNat + 1)) * N) 0 := by
        have e4 : (i * (N : Int) + q[i.toNat]'hi).toNat = (cdL N (q.take i.toNat)).length + (q[i.toNat]'hi).toNat := by omega
        rw [j2,e4,e3,rep_set2 (by omega),List.take_succ_eq_append_getElem hi,cdL_s,Int.toNat_of_nonneg hx.1]
      repeat' first|(apply p3;(first|exact pu1|exact a_mulB rfl rfl (by omega) (by omega) (by omega) (by omega)|exact a_add rfl rfl (by omega) (by omega)|exact puI);exact rfl)|refine cd ?_|(apply w3;(exact a_st_rowI rfl rfl rfl rfl (fN rfl rfl) bnd);exact rfl;refine dS ?_)
      refine q_again (i + 1,l.set (i * (N : Int) + q[i.toNat]'hi).toNat 1) [0,1] (by exact stk) ?_ ?_
      · dsimp only
        exact ⟨by omega,by omega,by rw [hset,show (i + 1).toNat = i.toNat + 1 by omega]⟩
      · dsimp only; omega
    · have e : l = cdL N q := by
        rw [j2,List.take_of_length_le (by omega),show q.length - i.toNat = 0 by omega]
        simp
      rw [← e]
      skip
      repeat refine cr ?_
      refine ends_id ?_
      refine endK [?_] (h2 := ?_) (h3 := ?_) (nd := ?_)
      rotate_left 1
      all_goals (repeat' first|exact ce0|refine ce ?_|refine ce2 ?_ ?_|(refine Or.inr (bx_eq rfl rfl ?_);(try dsimp only [C.ren,C.ren.all]);(try exact rfl))|exact SVLe.refl|refine ceb ?_)
      all_goals first | exact (show nodupB _ = true from rfl) | exact Or.inr rfl | (rfl)
end Go.Proofs.YtjmlbmmbionmcaaDoor
end
section
set_option linter.unusedVariables false
set_option linter.unusedSimpArgs false
set_option maxRecDepth 100000
set_option maxHeartbeats 1000000
namespace Go.Proofs.YtjmlbmmbionmcaaDoor
open Go Foot Go.RowKit
abbrev cyC (L : List (List Int)) (i : Int) (k : Nat) : List C := [shW L,int i,.gv k]
theorem preB182 {p : Prop} (h : p := by first | with_reducible assumption | omega | (simp only [List.length_append,List.length_cons,List.length_nil,List.length_set,List.length_replicate,List.length_take,List.length_drop,List.length_tail,List.length_dropLast,List.length_reverse] at *; omega) | exact mem_len (by assumption) (by omega) | (with_reducible refine Int.le_trans (Int.ofNat_le.2 (trimR_len _)) ?_; simp only [List.length_cons,List.length_tail]; omega) | (exact (ruAt_ok (by assumption) (by assumption) (by assumption)).2.1) | (exact (ruAt_ok (by assumption) (by assumption) (by assumption)).2.1) | (have := vMach_bd (by assumption); omega) | (simp only [mC_ch,mC_tu]; omega) | (have := vTag_bd (by assumption); omega) | (have := (‹Gd _ _›).le; omega) | (exact tgHalts_no (by assumption)) | (exact tgHead (by assumption) (by assumption) (by assumption)) | (exact Int.le_trans (tgStep_gd (by assumption) (by assumption) (by assumption) (by assumption)).le (by decide)) | (exact vTag_r (by assumption)) | (with_reducible refine Int.le_trans (Int.ofNat_le.2 (pushL_len _ _)) ?_; simp only [List.length_dropLast]; omega) | exact ls_at (by assumption) (by omega) | exact pt_gd (by assumption) | exact lv_at (by assumption) (by omega) | exact pt_gd (lv_at (by assumption) (by omega)) | exact (ask_ok (by assumption)).1 | exact (ask_ok (by assumption)).2.1 | exact (ask_ok (by assumption)).2.2.1 | exact (ask_ok (by assumption)).2.2.2 | trivial) : p := h
theorem cyHalts_ok (L : List (List Int)) (i : Int) (q : List Int) (hq : (q.length : Int) ≤ 1048576) : Does Tryd.prog 103 [.one (.gv 0)] [.bx (cyC L i 1),.row 1 (rows eI q)] (.one (boo (decide ((q.length : Int) = 0)))) [.bx (cyC L i 1),.row 1 (rows eI q)] := by
  refine does_of (k := 2) Tryd.func103 rfl Tryd.ntmps103 rfl rfl fun w F0 S0 ρ0 => ?_
  dsimp only [argT,argH]
  repeat' first|(apply p3;(first|exact pu1|exact puN|exact puC);exact rfl)|refine cd ?_
  repeat refine cr ?_
  refine ends_id ?_
  refine endK [] (h2 := ?_) (h3 := ?_) (nd := ?_)
  all_goals (repeat' first|exact ce0|refine ce ?_|refine ce2 ?_ ?_|(refine Or.inr (bx_eq rfl rfl ?_);(try dsimp only [C.ren,C.ren.all]);(try exact rfl))|exact SVLe.refl|refine ceb ?_)
  all_goals first | exact (show nodupB _ = true from rfl) | exact Or.inr rfl | (rfl)
theorem cyWord_ok (L : List (List Int)) (i : Int) (q : List Int) : Does Tryd.prog 105 [.one (.gv 0)] [.bx (cyC L i 1),.row 1 (rows eI q)] (.one (.gv 1)) [.bx (cyC L i 1),.row 1 (rows eI q)] := by
  refine does_of (k := 2) Tryd.func105 rfl Tryd.ntmps105 rfl rfl fun w F0 S0 ρ0 => ?_
  dsimp only [argT,argH]
  repeat' first|(apply p3;(exact pu1);exact rfl)|refine cd ?_
  repeat refine cr ?_
  refine ends_id ?_
  refine endK [] (h2 := ?_) (h3 := ?_) (nd := ?_)
  all_goals (repeat' first|exact ce0|refine ce ?_|refine ce2 ?_ ?_|(refine Or.inr (bx_eq rfl rfl ?_);(try dsimp only [C.ren,C.ren.all]);(try exact rfl))|exact SVLe.refl|refine ceb ?_)
  all_goals first | exact (show nodupB _ = true from rfl) | exact Or.inr rfl | (rfl)
theorem sizeW2_ok (xs : List (List Int)) (hx : (xs.length : Int) ≤ 16777216) : Does Tryd.prog 34 [.one (shW xs)] [] (.one (int xs.length)) [] := by
  refine does_of (k := 0) Tryd.func34 rfl Tryd.ntmps34 rfl rfl fun w F0 S0 ρ0 => ?_
  dsimp only [argT,argH]
  repeat' first|(apply p3;(first|exact pu1|exact puN);exact rfl)|refine cd ?_
  repeat refine cr ?_
  refine ends_id ?_
  refine endK [] (h2 := ?_) (h3 := ?_) (nd := ?_)
  all_goals (repeat' first|exact ce0|refine ce ?_|refine ce2 ?_ ?_|exact SVLe.refl|refine ceb ?_)
  all_goals first | exact (show nodupB _ = true from rfl) | exact Or.inr rfl | (rfl)
theorem cyStep_ok (L : List (List Int)) (i : Int) (q : List Int) (h0 : 0 ≤ i) (h1 : i.toNat < L.length) (hL : (L.length : Int) ≤ 1000) (hw : ∀ x ∈ L,(x.length : Int) ≤ 1000) (hq0 : 0 < q.length) (hq : (q.length : Int) ≤ 1000) : Does Tryd.prog 104 [.one (.gv 0)] [.bx (cyC L i 1),.row 1 (rows eI q)] (.one (boo (!cyO L i q))) [.bx (cyC L (cyI L i) 2),.dead,.row 1 (rows eI (cyQ L i q))] := by
  have hx := hw _ (List.getElem_mem h1)
  have hz : (0 : Int).toNat < q.length := hq0
  have e1 : cyI L i = (i + 1) % (L.length : Int) := by unfold cyI; rfl
  have eh : q.headD 0 = q[(0 : Int).toNat]'hz := by
    cases q with
    | nil => simp at hq0
    | cons x r => rfl
  have eg : L.getD i.toNat [] = L[i.toNat]'h1 := by rw [List.getD_eq_getElem?_getD,List.getElem?_eq_getElem h1]; rfl
  have eo : cyO L i q = !decide (((cyQ L i q).length : Int) ≤ 1000) := by unfold cyO; rfl
  rw [e1,eo]
  by_cases hb : q[(0 : Int).toNat]'hz = 1
  · have e2 : cyQ L i q = q.drop 1 ++ L[i.toNat]'h1 := by unfold cyQ; rw [eh,if_pos hb,eg]
    rw [e2,Bool.not_not]
    have hla : ((q.drop 1 ++ L[i.toNat]'h1).length : Int) = (q.length : Int) - 1 + (L[i.toNat]'h1).length := by rw [List.length_append,List.length_drop]; omega
    refine does_of (k := 2) Tryd.func104 rfl Tryd.ntmps104 rfl rfl fun w F0 S0 ρ0 => ?_
    dsimp only [argT,argH]
    repeat' first|(apply p3;(first|exact pu1|exact puL|exact puC|exact puN|exact puI);exact rfl)|refine cd ?_|(apply s3;exact a_slTO rfl rfl rfl (fS rfl) (by omega) (by omega) (by exact rfl) (by decide);exact rfl;exact rfl)|(apply w3;(exact a_st_bx rfl rfl rfl rfl (fN rfl rfl) (Nat.le_of_ble_eq_true rfl) rfl);exact rfl;refine dS ?_)|(apply g_drN (id := 4) okM [[],[],[1],[1,2],[1,2,3],[],[5],[5,6],[5,6,7],[5,6,7,8],[],[10],[10,11],[10,11,12],[5,6,7,8,9,10,11,12,13],[5,6,7,8,9,10,11,12,13,14],[1,2,3,4,5,6,7,8,9,10,11,12,13,14,15],[0,1,2,3,4,5,6,7,8,9,10,11,12,13,14,15,16],[0,1,2,3,4,5,6,7,8,9,10,11,12,13,14,15,16,17],[0,1,2,3,4,5,6,7,8,9,10,11,12,13,14,15,16,17,18]] [([],[]),([],[]),([],[]),([],[]),([],[]),([],[]),([],[]),([],[]),([],[]),([],[]),([],[]),([],[]),([],[]),([],[]),([],[]),([],[]),([0],[2]),([],[]),([],[]),([],[0])] 1;(focus (refine dp 0 0 [21,22,23,24,25,26,27,28,29,30,31,32,33,34,35,36] [(true,0),(false,2)] pu1 ?_;refine dp 1 0 [20,25,26,27,28,29,30,31,32,33,34,35] [] pu1 ?_;refine dp 2 1 [20,25,26,27,28,29,30,31,32,33,34,35] [] (a_pure (sv := .one _) rfl) ?_;refine dp 3 3 [20,25,26,27,28,29,30,31,32,33,34,35] [] (a_pure (sv := .one _) rfl) ?_;refine dp 4 7 [20,25,26,27,28,29,30,31,32,33,34,35] [] (by exact puL) ?_;refine dp 5 0 [20,21,22,23,24,30,31,32,33] [] pu1 ?_;refine dp 6 1 [20,21,22,23,24,30,31,32,33] [] (a_pure (sv := .one _) rfl) ?_;refine dp 7 3 [20,21,22,23,24,30,31,32,33] [] (a_pure (sv := .one _) rfl) ?_;refine dp 8 7 [20,21,22,23,24,30,31,32,33] [] (a_pure (sv := .one _) rfl) ?_;refine dp 9 15 [20,21,22,23,24,30,31,32,33] [] puL ?_;refine dp 10 0 [20,21,22,23,24,25,26,27,28,29] [] pu1 ?_;refine dp 11 1 [20,21,22,23,24,25,26,27,28,29] [] (a_pure (sv := .one _) rfl) ?_;refine dp 12 3 [20,21,22,23,24,25,26,27,28,29] [] (a_pure (sv := .one _) rfl) ?_;refine dp 13 7 [20,21,22,23,24,25,26,27,28,29] [] puL ?_;refine dp 14 511 [20,21,22,23,24] [] puI ?_;refine dp 15 1023 [20,21,22,23,24] [] (by exact puL) ?_;refine duE 16 32767 [20] [] (atS 0 (fun _ hj => a_appE (fP rfl) rfl rfl rfl rfl nowR (by (simp;omega)) (by decide) hj (by exact rfl)) (by decide)) (by exact rfl) (by exact rfl) ?_;refine dp 17 131071 [] [] (a_pure (sv := .one _) rfl) ?_;refine dp 18 262143 [] [] (a_pure (sv := .one _) rfl) ?_;refine duE 19 524287 [] [] (by exact a_st_bx rfl rfl rfl rfl (fN rfl rfl) (Nat.le_of_ble_eq_true rfl) rfl) (by exact rfl) (by exact rfl) ?_;(refine d_nil ?_;refine dN ?_)));any_goals kernel_rfl)|(apply g_drN (id := 5) okM [[],[],[1],[1,2],[1,2,3],[1,2,3,4],[],[6],[6,7],[6,7,8],[6,7,8,9],[6,7,8,9,10],[1,2,3,4,5,6,7,8,9,10,11],[0,1,2,3,4,5,6,7,8,9,10,11,12],[0,1,2,3,4,5,6,7,8,9,10,11,12,13],[0,1,2,3,4,5,6,7,8,9,10,11,12,13,14]] [([],[]),([],[]),([],[]),([],[]),([],[]),([],[]),([],[]),([],[]),([],[]),([],[]),([],[]),([],[]),([],[]),([],[]),([],[]),([],[0])] 0;(focus (refine dp 0 0 [40,41,42,43,44,45,46,47,48,49,50,51] [] pu1 ?_;refine dp 1 0 [39,45,46,47,48,49,50] [] pu1 ?_;refine dp 2 1 [39,45,46,47,48,49,50] [] (a_pure (sv := .one _) rfl) ?_;refine dp 3 3 [39,45,46,47,48,49,50] [] (a_pure (sv := .one _) rfl) ?_;refine dp 4 7 [39,45,46,47,48,49,50] [] puL ?_;refine dp 5 15 [39,45,46,47,48,49,50] [] (a_add rfl rfl (by omega) (by omega)) ?_;refine dp 6 0 [39,40,41,42,43,44] [] pu1 ?_;refine dp 7 1 [39,40,41,42,43,44] [] (a_pure (sv := .one _) rfl) ?_;refine dp 8 3 [39,40,41,42,43,44] [] (a_pure (sv := .one _) rfl) ?_;refine dp 9 7 [39,40,41,42,43,44] [] (a_pure (sv := .one _) rfl) ?_;refine dp 10 15 [39,40,41,42,43,44] [] puL ?_;refine dp 11 31 [39,40,41,42,43,44] [] (by exact callD1 (n := _) 0 (θ := []) (hD := (sizeW2_ok _ preB182))) ?_;refine dp 12 2047 [39] [] (a_rem rfl rfl (by omega) (by omega) (by omega)) ?_;refine dp 13 8191 [] [] (a_pure (sv := .one _) rfl) ?_;refine dp 14 16383 [] [] (a_pure (sv := .one _) rfl) ?_;refine duE 15 32767 [] [] (by exact a_st_bx rfl rfl rfl rfl (fN rfl rfl) (Nat.le_of_ble_eq_true rfl) rfl) (by exact rfl) (by exact rfl) ?_;(refine d_nil ?_;refine dN ?_)));any_goals kernel_rfl)|((refine g_cond rfl (fun hc => ?_) (fun hc => ?_)) <;> (try simp only [dcB] at hc) <;> (try first|contradiction|(exfalso;omega)))
    repeat refine cr ?_
    refine ends_id ?_
    refine endK [?_] (h2 := ?_) (h3 := ?_) (nd := ?_)
    rotate_left 1
    all_goals (repeat' first|exact ce0|refine ce ?_|refine ce2 ?_ ?_|(refine Or.inr (bx_eq rfl rfl ?_);(try dsimp only [C.ren,C.ren.all]);(try exact rfl))|exact SVLe.refl|refine ceb ?_)
    all_goals first | exact (show nodupB _ = true from rfl) | exact Or.inr rfl | (rfl)
  · have e2 : cyQ L i q = q.drop 1 := by unfold cyQ; rw [eh,if_neg hb]
    rw [e2,Bool.not_not]
    refine does_of (k := 2) Tryd.func104 rfl Tryd.ntmps104 rfl rfl fun w F0 S0 ρ0 => ?_
    dsimp only [argT,argH]
    repeat' first|(apply p3;(first|exact pu1|exact puL|exact puC|exact puN|exact puI);exact rfl)|refine cd ?_|(apply s3;exact a_slTO rfl rfl rfl (fS rfl) (by omega) (by omega) (by exact rfl) (by decide);exact rfl;exact rfl)|(apply w3;(exact a_st_bx rfl rfl rfl rfl (fN rfl rfl) (Nat.le_of_ble_eq_true rfl) rfl);exact rfl;refine dS ?_)|(apply g_drN (id := 5) okM [[],[],[1],[1,2],[1,2,3],[1,2,3,4],[],[6],[6,7],[6,7,8],[6,7,8,9],[6,7,8,9,10],[1,2,3,4,5,6,7,8,9,10,11],[0,1,2,3,4,5,6,7,8,9,10,11,12],[0,1,2,3,4,5,6,7,8,9,10,11,12,13],[0,1,2,3,4,5,6,7,8,9,10,11,12,13,14]] [([],[]),([],[]),([],[]),([],[]),([],[]),([],[]),([],[]),([],[]),([],[]),([],[]),([],[]),([],[]),([],[]),([],[]),([],[]),([],[0])] 0;(focus (refine dp 0 0 [40,41,42,43,44,45,46,47,48,49,50,51] [] pu1 ?_;refine dp 1 0 [39,45,46,47,48,49,50] [] pu1 ?_;refine dp 2 1 [39,45,46,47,48,49,50] [] (a_pure (sv := .one _) rfl) ?_;refine dp 3 3 [39,45,46,47,48,49,50] [] (a_pure (sv := .one _) rfl) ?_;refine dp 4 7 [39,45,46,47,48,49,50] [] puL ?_;refine dp 5 15 [39,45,46,47,48,49,50] [] (a_add rfl rfl (by omega) (by omega)) ?_;refine dp 6 0 [39,40,41,42,43,44] [] pu1 ?_;refine dp 7 1 [39,40,41,42,43,44] [] (a_pure (sv := .one _) rfl) ?_;refine dp 8 3 [39,40,41,42,43,44] [] (a_pure (sv := .one _) rfl) ?_;refine dp 9 7 [39,40,41,42,43,44] [] (a_pure (sv := .one _) rfl) ?_;refine dp 10 15 [39,40,41,42,43,44] [] puL ?_;refine dp 11 31 [39,40,41,42,43,44] [] (by exact callD1 (n := _) 0 (θ := []) (hD := (sizeW2_ok _ preB182))) ?_;refine dp 12 2047 [39] [] (a_rem rfl rfl (by omega) (by omega) (by omega)) ?_;refine dp 13 8191 [] [] (a_pure (sv := .one _) rfl) ?_;refine dp 14 16383 [] [] (a_pure (sv := .one _) rfl) ?_;refine duE 15 32767 [] [] (by exact a_st_bx rfl rfl rfl rfl (fN rfl rfl) (Nat.le_of_ble_eq_true rfl) rfl) (by exact rfl) (by exact rfl) ?_;(refine d_nil ?_;refine dN ?_)));any_goals kernel_rfl)|((refine g_cond rfl (fun hc => ?_) (fun hc => ?_)) <;> (try simp only [dcB] at hc) <;> (try first|contradiction|(exfalso;omega)))
    repeat refine cr ?_
    refine ends_id ?_
    refine endK [?_] (h2 := ?_) (h3 := ?_) (nd := ?_)
    rotate_left 1
    all_goals (repeat' first|exact ce0|refine ce ?_|refine ce2 ?_ ?_|(refine Or.inr (bx_eq rfl rfl ?_);(try dsimp only [C.ren,C.ren.all]);(try exact rfl))|exact SVLe.refl|refine ceb ?_)
    all_goals first | exact (show nodupB _ = true from rfl) | exact Or.inr rfl | (rfl)
end Go.Proofs.YtjmlbmmbionmcaaDoor
end
section
set_option linter.unusedVariables false
set_option linter.unusedSimpArgs false
set_option maxRecDepth 100000
set_option maxHeartbeats 1000000
namespace Go.Proofs.YtjmlbmmbionmcaaDoor
open Go Foot Go.RowKit
theorem nilShd {z : Nat} (hz : 0 < z) : ∀ (w : World) (S : Foot) (v : Value) (F : Foot),Rep w S (.sc (.slice none 0 0)) v F → Rep w S (.sl false z []) v F := fun w S v F hr => by
  rw [hr.1]
  simp only [Rep]
  exact ⟨none,0,0,rfl,by simp,hz,Nat.le_refl _,.inl ⟨rfl,fun _ => rfl⟩⟩
theorem rep_setW {a : List (List Int)} {m : Nat} (x : List Int) : (a ++ List.replicate (m + 1) []).set a.length x = a ++ [x] ++ List.replicate m [] := by
  rw [List.set_append_right _ _ (by omega),Nat.sub_self,List.replicate_succ,List.set_cons_zero,List.append_assoc]
  rfl
theorem preB184 {p : Prop} (h : p := by first | with_reducible assumption | omega | (simp only [List.length_append,List.length_cons,List.length_nil,List.length_set,List.length_replicate,List.length_take,List.length_drop,List.length_tail,List.length_dropLast,List.length_reverse] at *; omega) | exact mem_len (by assumption) (by omega) | (with_reducible refine Int.le_trans (Int.ofNat_le.2 (trimR_len _)) ?_; simp only [List.length_cons,List.length_tail]; omega) | (exact (ruAt_ok (by assumption) (by assumption) (by assumption)).2.1) | (exact (ruAt_ok (by assumption) (by assumption) (by assumption)).2.1) | (have := vMach_bd (by assumption); omega) | (simp only [mC_ch,mC_tu]; omega) | (have := vTag_bd (by assumption); omega) | (have := (‹Gd _ _›).le; omega) | (exact tgHalts_no (by assumption)) | (exact tgHead (by assumption) (by assumption) (by assumption)) | (exact Int.le_trans (tgStep_gd (by assumption) (by assumption) (by assumption) (by assumption)).le (by decide)) | (exact vTag_r (by assumption)) | (with_reducible refine Int.le_trans (Int.ofNat_le.2 (pushL_len _ _)) ?_; simp only [List.length_dropLast]; omega) | exact ls_at (by assumption) (by omega) | exact pt_gd (by assumption) | exact lv_at (by assumption) (by omega) | exact pt_gd (lv_at (by assumption) (by omega)) | exact (ask_ok (by assumption)).1 | exact (ask_ok (by assumption)).2.1 | exact (ask_ok (by assumption)).2.2.1 | exact (ask_ok (by assumption)).2.2.2 | trivial) : p := h
theorem cyclicOfTag_ok (t : Tg) (hv : vTag t = true) : Does Tryd.prog 29 [.agg (tgC t)] [] (.tup [(true,[.gv 0]),(false,[int (bif (cyR t).2 then 0 else 5)])]) [roW (bif (cyR t).2 then (cyR t).1 else [])] := by
  have hb := vTag_bd hv
  have m0 : 1 * 1 ≤ (t.wo.length : Int) * t.de := Int.mul_le_mul (by omega) (by omega) (by omega) (by omega)
  have m1 : (t.wo.length : Int) * t.de ≤ 200 * 4 := Int.mul_le_mul (by omega) (by omega) (by omega) (by omega)
  have m2 : 0 ≤ (t.wo.length : Int) * (t.de - 1) := Int.mul_nonneg (by omega) (by omega)
  have m3 : (t.wo.length : Int) * (t.de - 1) = t.wo.length * t.de - t.wo.length := by rw [Int.mul_sub,Int.mul_one]
  have e0 : cyR t = if 400 < (t.wo.length : Int) * t.de then ([],false) else bif (cyG t.wo.length t.wo []).2 then ((cyG t.wo.length t.wo []).1 ++ List.replicate ((t.wo.length : Int) * (t.de - 1)).toNat [],true) else ((cyG t.wo.length t.wo []).1,false) := by unfold cyR; rfl
  by_cases h4 : 400 < (t.wo.length : Int) * t.de
  · rw [e0,if_pos h4]
    simp only [cond_false]
    refine does_of (k := 0) Tryd.func29 rfl Tryd.ntmps29 rfl rfl fun w F0 S0 ρ0 => ?_
    dsimp only [argT,argH]
    repeat' first|(apply n3;(exact a_new (gb := .bx _) rfl);exact rfl;refine dA ?_)|(apply p3;(first|exact pu1|exact a_mulB rfl rfl (by omega) (by omega) (by omega) (by omega)|exact puC);exact rfl)|refine cd ?_|(apply w3;exact a_st_bx rfl rfl rfl rfl (fN rfl rfl) (Nat.le_of_ble_eq_true rfl) rfl;exact rfl;refine dS ?_)|(apply c4 0;exact callK1 (θ := []) (hD := (sizeW2_ok _ preB184));exact rfl;exact rfl;exact rfl;refine dM ?_)|((refine g_cond rfl (fun hc => ?_) (fun hc => ?_)) <;> (try simp only [dcB] at hc) <;> (try first|contradiction|(exfalso;omega)))
    simp only [setRow,scC,List.map_cons,List.map_nil,List.set_cons_zero,List.set_cons_succ,Nat.zero_add,List.getElem?_cons_zero,List.getElem?_cons_succ,List.take_succ_cons,List.take_zero,List.drop_zero,List.cons_append,List.nil_append,List.drop_succ_cons,List.drop_nil,List.append_nil,List.append_eq]
    refine g_conv (t_nilB (i := 1) (k := 0) (z := 1) rfl rfl rfl (by decide)) ?_
    try dsimp only [setRow,List.map_cons,List.map_nil,scC,List.set_cons_zero,List.set_cons_succ,Nat.reduceAdd]
    repeat refine cr ?_
    refine ends_id ?_
    refine endK [?_] (h2 := ?_) (h3 := ?_) (nd := ?_)
    rotate_left 1
    all_goals (repeat' first|exact ce0|refine ce ?_|refine ce2 ?_ ?_|(refine Or.inr (bx_eq rfl rfl ?_);(try dsimp only [C.ren,C.ren.all]);(try exact rfl))|exact SVLe.refl|refine ceb ?_)
    all_goals first | exact (show nodupB _ = true from rfl) | exact Or.inr rfl | (rfl)
  · rw [if_neg h4] at e0
    refine does_of (k := 0) Tryd.func29 rfl Tryd.ntmps29 rfl rfl fun w F0 S0 ρ0 => ?_
    dsimp only [argT,argH]
    repeat' first|(apply n3;(first|exact a_new (gb := .bx _) rfl|exact a_make (fE rfl) (fZ rfl) (fP rfl) (by decide) rfl rfl (by omega) rfl (by omega) (by omega) (rows_rep eWo none _));exact rfl;refine dA ?_)|(apply p3;(first|exact pu1|exact a_mulB rfl rfl (by omega) (by omega) (by omega) (by omega)|exact puC|exact puN);exact rfl)|refine cd ?_|(apply w3;exact a_st_bx rfl rfl rfl rfl (fN rfl rfl) (Nat.le_of_ble_eq_true rfl) rfl;exact rfl;refine dS ?_)|(apply c4 0;exact callK1 (θ := []) (hD := (sizeW2_ok _ preB184));exact rfl;exact rfl;exact rfl;refine dM ?_)|((refine g_cond rfl (fun hc => ?_) (fun hc => ?_)) <;> (try simp only [dcB] at hc) <;> (try first|contradiction|(exfalso;omega)))
    refine g_conv (t_nilR (i := 2) (E' := eW) ([] : List Int) rfl (by repeat (first | exact trivial | exact nilShd (by decide) | refine And.intro ?_ ?_))) ?_
    simp only [setRow,scC,List.map_cons,List.map_nil,List.set_cons_zero,List.set_cons_succ,Nat.zero_add,List.getElem?_cons_zero,List.getElem?_cons_succ,List.take_succ_cons,List.take_zero,List.drop_zero,List.cons_append,List.nil_append,List.drop_succ_cons,List.drop_nil,List.append_nil,List.append_eq]
    have hM : (t.wo.length : Int) ≤ t.wo.length * t.de := by omega
    refine g_loop_id ?_
    refine loopK [2,3,4,5,24,25] [2] (fun y : Int × List (List Int) => 0 ≤ y.1 ∧ y.1 ≤ t.wo.length ∧ y.2 = (t.wo.take y.1.toNat).map (cdL t.wo.length) ++ List.replicate (((t.wo.length : Int) * t.de).toNat - y.1.toNat) [] ∧ cyG t.wo.length (t.wo.drop y.1.toNat) ((t.wo.take y.1.toNat).map (cdL t.wo.length)) = cyG t.wo.length t.wo []) (fun y => [(26,.one (int y.1))]) (fun y => [(2,roW y.2)]) (fun y => (t.wo.length - y.1).toNat) ((0 : Int),List.replicate ((t.wo.length : Int) * t.de).toNat ([] : List Int)) [0,1,2,3] (hI := ?_) (hr := ?_)
    · exact ⟨by simp,by simp,by simp,by simp⟩
    · rintro ⟨i,a⟩ ⟨j0,j1,j2,j3⟩
      dsimp only [List.cons_append,List.nil_append] at *
      skip
      repeat' first|(apply p3;(first|exact pu1|exact puC|exact puI);exact rfl)|refine cdn ?_|refine g_reg (id := 6) ?_|refine g_reg (id := 7) ?_|refine g_reg (id := 12) ?_|(apply w3;exact a_st_bx rfl rfl rfl rfl (fN rfl rfl) (Nat.le_of_ble_eq_true rfl) rfl;exact rfl;refine dS ?_)|((refine g_cond rfl (fun hc => ?_) (fun hc => ?_)) <;> (try simp only [dcB] at hc) <;> (try first|contradiction|(exfalso;omega)))
      · have hi : i.toNat < t.wo.length := by omega
        have hmem := List.getElem_mem hi
        have hl := (vTag_w hv hmem).1
        have hbd := (vTag_w hv hmem).2
        have hal : (a.length : Int) = t.wo.length * t.de := by rw [j2,List.length_append,List.length_map,List.length_take,List.length_replicate]; omega
        rw [List.drop_eq_getElem_cons hi,cyG,show ((t.wo.length : Int)).toNat = t.wo.length by omega] at j3
        have hfw : fitW t.wo.length (t.wo[i.toNat]'hi) = decide (((t.wo[i.toNat]'hi).length : Int) * t.wo.length ≤ 1000) := by unfold fitW; rfl
        have mm0 : 0 ≤ ((t.wo[i.toNat]'hi).length : Int) * t.wo.length := Int.mul_nonneg (by omega) (by omega)
        have mm1 : ((t.wo[i.toNat]'hi).length : Int) * t.wo.length ≤ 1000 * 200 := Int.mul_le_mul (by omega) (by omega) (by omega) (by omega)
        by_cases hf : ((t.wo[i.toNat]'hi).length : Int) * t.wo.length ≤ 1000
        · rw [hfw,decide_eq_true hf,cond_true] at j3
          have hset : a.set i.toNat (cdL t.wo.length (t.wo[i.toNat]'hi)) = (t.wo.take (i.toNat + 1)).map (cdL t.wo.length) ++ List.replicate (((t.wo.length : Int) * t.de).toNat - (i.toNat + 1)) [] := by
            have e1 : i.toNat = ((t.wo.take i.toNat).map (cdL t.wo.length)).length := by rw [List.length_map,List.length_take]; omega
            have e2 : ((t.wo.length : Int) * t.de).toNat - i.toNat = (((t.wo.length : Int) * t.de).toNat - (i.toNat + 1)) + 1 := by omega
            rw [j2,e2]
            conv => lhs; arg 2; rw [e1]
            rw [rep_setW,take_snocB _ hi]
          repeat' first|(apply p3;(first|exact pu1|exact puC|exact a_mulB rfl rfl (by omega) (by omega) (by omega) (by omega)|exact a_add rfl rfl (by omega) (by omega));exact rfl)|refine cd ?_|(apply c4 0;exact callK1 (θ := []) (hD := (sizeI_ok _ preB184));exact rfl;exact rfl;exact rfl;refine dM ?_)|(apply g_drN (id := 10) okM [[],[0],[],[],[],[3,4],[0,1,2,3,4,5],[0,1,2,3,4,5,6]] [([],[]),([],[]),([],[]),([],[]),([],[]),([],[]),([],[]),([],[_])] 0;(focus (refine dp 0 0 [39,40,41,42] [] (a_pure (sv := .one _) rfl) ?_;refine dp 1 1 [39,40,41,42] [] puL ?_;refine dp 2 0 [37,38,40,41,42] [] pu1 ?_;refine dp 3 0 [37,38,39,41] [] pu1 ?_;refine dp 4 0 [37,38,39,40] [] pu1 ?_;refine dp 5 3 [37,38,39] [] (callFD 0 (hD := (codesOf_ok (t.wo[i.toNat]'hi) (t.wo.length : Int) (by omega) (by omega) hbd hf))) ?_;refine dp 6 63 [] [] puI ?_;refine duE 7 127 [] [] (by exact a_stE (E := eW) _ rfl rfl rfl rfl (fN rfl rfl) bnd (by exact rfl)) (by exact rfl) (by exact rfl) ?_;(refine d_nil ?_;refine dN ?_)));any_goals kernel_rfl)|((refine g_cond rfl (fun hc => ?_) (fun hc => ?_)) <;> (try simp only [dcB] at hc) <;> (try first|contradiction|(exfalso;omega)))
          refine q_again (i + 1,a.set i.toNat (cdL t.wo.length (t.wo[i.toNat]'hi))) [0,1,2,3] (by exact stk) ?_ ?_
          · dsimp only
            rw [show (i + 1).toNat = i.toNat + 1 by omega]
            exact ⟨by omega,by omega,hset,by rw [take_snocB _ hi]; exact j3⟩
          · dsimp only; omega
        · rw [hfw,decide_eq_false hf,cond_false] at j3
          repeat' first|(apply p3;(first|exact pu1|exact a_mulB rfl rfl (by omega) (by omega) (by omega) (by omega)|exact puC);exact rfl)|refine cd ?_|(apply w3;exact a_st_bx rfl rfl rfl rfl (fN rfl rfl) (Nat.le_of_ble_eq_true rfl) rfl;exact rfl;refine dS ?_)|(apply c4 0;exact callK1 (θ := []) (hD := (sizeI_ok _ preB184));exact rfl;exact rfl;exact rfl;refine dM ?_)|((refine g_cond rfl (fun hc => ?_) (fun hc => ?_)) <;> (try simp only [dcB] at hc) <;> (try first|contradiction|(exfalso;omega)))
          rw [e0,← j3]
          simp only [cond_false]
          simp only [setRow,scC,List.map_cons,List.map_nil,List.set_cons_zero,List.set_cons_succ,Nat.zero_add,List.getElem?_cons_zero,List.getElem?_cons_succ,List.take_succ_cons,List.take_zero,List.drop_zero,List.cons_append,List.nil_append,List.drop_succ_cons,List.drop_nil,List.append_nil,List.append_eq]
          refine g_conv (t_nilB (i := 1) (k := 0) (z := 1) rfl rfl rfl (by decide)) ?_
          try dsimp only [setRow,List.map_cons,List.map_nil,scC,List.set_cons_zero,List.set_cons_succ,Nat.reduceAdd]
          repeat refine cr ?_
          refine ends_id ?_
          refine endK [?_] (h2 := ?_) (h3 := ?_) (nd := ?_)
          rotate_left 1
          all_goals (repeat' first|exact ce0|refine ce ?_|refine ce2 ?_ ?_|(refine Or.inr (bx_eq rfl rfl ?_);(try dsimp only [C.ren,C.ren.all]);(try exact rfl))|exact SVLe.refl|refine ceb ?_)
          all_goals first | exact (show nodupB _ = true from rfl) | exact Or.inr rfl | (rfl)
      · rw [List.drop_of_length_le (by omega),cyG] at j3
        rw [e0,← j3]
        simp only [cond_true]
        have e5 : a = (t.wo.take i.toNat).map (cdL t.wo.length) ++ List.replicate ((t.wo.length : Int) * (t.de - 1)).toNat [] := by
          rw [j2]
          congr 2
          omega
        rw [← e5]
        skip
        repeat refine cr ?_
        refine ends_id ?_
        refine endK [?_] (h2 := ?_) (h3 := ?_) (nd := ?_)
        rotate_left 1
        all_goals (repeat' first|exact ce0|refine ce ?_|refine ce2 ?_ ?_|(refine Or.inr (bx_eq rfl rfl ?_);(try dsimp only [C.ren,C.ren.all]);(try exact rfl))|exact SVLe.refl|refine ceb ?_)
        all_goals first | exact (show nodupB _ = true from rfl) | exact Or.inr rfl | (rfl)
theorem TurnOfWord_ok (t : Tg) (q : List Int) (hv : vTag t = true) (hw : tgWord t.wo.length q = true) (hx : (t.ha.length : Int) ≤ 1048576) : Does Tryd.prog 28 [.agg (tgC t),.one (shI q)] [] (.tup [(true,[int 0,.gv 0]),(false,[int (bif (cyR t).2 then (bif fitW t.wo.length q then 0 else 5) else 5)])]) [roI (bif (cyR t).2 then (bif fitW t.wo.length q then cdL t.wo.length q else []) else [])] := by
  have hg := tgWord_gd hw
  have hb := vTag_bd hv
  have hg1 := hg.le
  have hg2 := hg.wd
  have hys : ∀ x ∈ t.wo,(x.length : Int) ≤ 16777216 := fun x hx => by have := (vTag_w hv hx).1; omega
  have hfw : fitW t.wo.length q = decide ((q.length : Int) * t.wo.length ≤ 1000) := by unfold fitW; rfl
  have mm0 : 0 ≤ (q.length : Int) * t.wo.length := Int.mul_nonneg (by omega) (by omega)
  have mm1 : (q.length : Int) * t.wo.length ≤ 1000 * 200 := Int.mul_le_mul (by omega) (by omega) (by omega) (by omega)
  refine does_of (k := 0) Tryd.func28 rfl Tryd.ntmps28 rfl rfl fun w F0 S0 ρ0 => ?_
  dsimp only [argT,argH]
  repeat' first|(apply n3;exact a_new (gb := .bx _) rfl;exact rfl;refine dA ?_)|(apply p3;(exact pu1);exact rfl)|refine cdn ?_|refine g_reg (id := 0) ?_|refine g_reg (id := 1) ?_|(apply c4 0;exact callK1 (θ := []) (hD := (tagCode_ok t q (by omega) (by omega) (by omega) hys));exact rfl;exact rfl;exact rfl;refine dM ?_)
  simp only [hv,hw,Bool.and_self,cond_true]
  repeat' first|(apply n3;exact a_new (gb := .bx _) rfl;exact rfl;refine dA ?_)|(apply p3;(first|exact pu1|exact a_ne rfl rfl);exact rfl)|refine cdn ?_|refine g_reg (id := 2) ?_|refine g_reg (id := 4) ?_|(apply w3;exact a_st_bx rfl rfl rfl rfl (fN rfl rfl) (Nat.le_of_ble_eq_true rfl) rfl;exact rfl;refine dS ?_)|(apply c4 1;exact callK0 (θ := []) (hD := (cyclicOfTag_ok t hv));exact rfl;exact rfl;exact rfl;refine dM ?_)
  cases hR : (cyR t).2 with
  | false =>
    simp only [hR,cond_false]
    repeat' first|(apply p3;(first|exact pu1|exact a_ne rfl rfl);exact rfl)|refine cd ?_|(apply w3;exact a_st_bx rfl rfl rfl rfl (fN rfl rfl) (Nat.le_of_ble_eq_true rfl) rfl;exact rfl;refine dS ?_)
    simp only [setRow,scC,List.map_cons,List.map_nil,List.set_cons_zero,List.set_cons_succ,Nat.zero_add,List.getElem?_cons_zero,List.getElem?_cons_succ,List.take_succ_cons,List.take_zero,List.drop_zero,List.cons_append,List.nil_append,List.drop_succ_cons,List.drop_nil,List.append_nil,List.append_eq]
    refine g_conv (t_nilB (i := 1) (k := 1) (z := 1) rfl rfl rfl (by decide)) ?_
    try dsimp only [setRow,List.map_cons,List.map_nil,scC,List.set_cons_zero,List.set_cons_succ,Nat.reduceAdd]
    repeat refine cr ?_
    refine ends_id ?_
    refine endK [?_] (h2 := ?_) (h3 := ?_) (nd := ?_)
    rotate_left 1
    all_goals (repeat' first|exact ce0|refine ce ?_|refine ce2 ?_ ?_|(refine Or.inr (bx_eq rfl rfl ?_);(try dsimp only [C.ren,C.ren.all]);(try exact rfl))|exact SVLe.refl|refine ceb ?_)
    all_goals first | exact (show nodupB _ = true from rfl) | exact Or.inr rfl | (rfl)
  | true =>
    simp only [hR,cond_true]
    by_cases hf : (q.length : Int) * t.wo.length ≤ 1000
    · rw [hfw,decide_eq_true hf]
      simp only [cond_true]
      repeat' first|(apply p3;(first|exact pu1|exact a_ne rfl rfl);exact rfl)|refine cd ?_|(apply w3;exact a_st_bx rfl rfl rfl rfl (fN rfl rfl) (Nat.le_of_ble_eq_true rfl) rfl;exact rfl;refine dS ?_)|(apply c4 0;exact callK1 (θ := []) (hD := (sizeW2_ok _ preB184));exact rfl;exact rfl;exact rfl;refine dM ?_)|(apply c4 1;exact callK1 (θ := []) (hD := (codesOf_ok q (t.wo.length : Int) (by omega) (by omega) hg2 hf));exact rfl;exact rfl;exact rfl;refine dM ?_)|(apply g_drN (id := 7) okM [[],[0],[],[2],[0,1,2,3],[0,1,2,3,4],[0,1,2,3,4,5]] [([],[]),([],[]),([],[]),([],[]),([],[]),([],[]),([],[])] 0;(focus (refine dp 0 0 [27,28] [] pu1 ?_;refine dp 1 1 [27,28] [] (by exact callD1 (n := _) 0 (θ := []) (hD := (sizeI_ok _ preB184))) ?_;refine dp 2 0 [25,26] [] (a_pure (sv := .one _) rfl) ?_;refine dp 3 1 [25,26] [] puL ?_;refine dp 4 15 [] [] (by exact callD1 (n := _) 0 (θ := []) (hD := (sizeW2_ok _ preB184))) ?_;refine dp 5 31 [] [] (by exact a_mulB rfl rfl (by omega) (by omega) (by omega) (by omega)) ?_;refine dp 6 63 [] [] puC ?_;(refine d_nil ?_;refine dN ?_)));any_goals kernel_rfl)|((refine g_cond rfl (fun hc => ?_) (fun hc => ?_)) <;> (try simp only [dcB] at hc) <;> (try first|contradiction|(exfalso;omega)))
      repeat refine cr ?_
      refine ends_id ?_
      refine endK [?_] (h2 := ?_) (h3 := ?_) (nd := ?_)
      rotate_left 1
      all_goals (repeat' first|exact ce0|refine ce ?_|refine ce2 ?_ ?_|(refine Or.inr (bx_eq rfl rfl ?_);(try dsimp only [C.ren,C.ren.all]);(try exact rfl))|exact SVLe.refl|refine ceb ?_)
      all_goals first | exact (show nodupB _ = true from rfl) | exact Or.inr rfl | (rfl)
    · rw [hfw,decide_eq_false hf]
      simp only [cond_false]
      repeat' first|(apply p3;(first|exact pu1|exact a_ne rfl rfl);exact rfl)|refine cd ?_|(apply w3;exact a_st_bx rfl rfl rfl rfl (fN rfl rfl) (Nat.le_of_ble_eq_true rfl) rfl;exact rfl;refine dS ?_)|(apply g_drN (id := 7) okM [[],[0],[],[2],[0,1,2,3],[0,1,2,3,4],[0,1,2,3,4,5]] [([],[]),([],[]),([],[]),([],[]),([],[]),([],[]),([],[])] 0;(focus (refine dp 0 0 [27,28] [] pu1 ?_;refine dp 1 1 [27,28] [] (by exact callD1 (n := _) 0 (θ := []) (hD := (sizeI_ok _ preB184))) ?_;refine dp 2 0 [25,26] [] (a_pure (sv := .one _) rfl) ?_;refine dp 3 1 [25,26] [] puL ?_;refine dp 4 15 [] [] (by exact callD1 (n := _) 0 (θ := []) (hD := (sizeW2_ok _ preB184))) ?_;refine dp 5 31 [] [] (by exact a_mulB rfl rfl (by omega) (by omega) (by omega) (by omega)) ?_;refine dp 6 63 [] [] puC ?_;(refine d_nil ?_;refine dN ?_)));any_goals kernel_rfl)|((refine g_cond rfl (fun hc => ?_) (fun hc => ?_)) <;> (try simp only [dcB] at hc) <;> (try first|contradiction|(exfalso;omega)))
      simp only [setRow,scC,List.map_cons,List.map_nil,List.set_cons_zero,List.set_cons_succ,Nat.zero_add,List.getElem?_cons_zero,List.getElem?_cons_succ,List.take_succ_cons,List.take_zero,List.drop_zero,List.cons_append,List.nil_append,List.drop_succ_cons,List.drop_nil,List.append_nil,List.append_eq]
      refine g_conv (t_nilB (i := 1) (k := 1) (z := 1) rfl rfl rfl (by decide)) ?_
      try dsimp only [setRow,List.map_cons,List.map_nil,scC,List.set_cons_zero,List.set_cons_succ,Nat.reduceAdd]
      repeat refine cr ?_
      refine ends_id ?_
      refine endK [?_] (h2 := ?_) (h3 := ?_) (nd := ?_)
      rotate_left 1
      all_goals (repeat' first|exact ce0|refine ce ?_|refine ce2 ?_ ?_|(refine Or.inr (bx_eq rfl rfl ?_);(try dsimp only [C.ren,C.ren.all]);(try exact rfl))|exact SVLe.refl|refine ceb ?_)
      all_goals first | exact (show nodupB _ = true from rfl) | exact Or.inr rfl | (rfl)
end Go.Proofs.YtjmlbmmbionmcaaDoor
end
section
set_option linter.unusedVariables false
set_option linter.unusedSimpArgs false
set_option maxRecDepth 100000
set_option maxHeartbeats 4000000
namespace Go.Proofs.YtjmlbmmbionmcaaDoor
open Go Foot
end Go.Proofs.YtjmlbmmbionmcaaDoor
end
section
set_option linter.unusedVariables false
set_option linter.unusedSimpArgs false
set_option maxRecDepth 100000
set_option maxHeartbeats 4000000
namespace Go.Proofs.YtjmlbmmbionmcaaDoor
open Go Foot Go.RowKit
theorem chunkI_ok (ru : List Int) (n : Int) (h1 : 1 ≤ n) : Does Tryd.prog 53 [.one (shI ru),.one (int n)] [] (.one (.fn (.func 62) [.gv 0,.gv 1])) [.bx [shI ru],.bx [int n]] := by
  refine does_of (k := 0) Tryd.func53 rfl Tryd.ntmps53 rfl rfl fun w F0 S0 ρ0 => ?_
  dsimp only [argT,argH]
  repeat' first|(apply n3;exact a_new (gb := .bx _) rfl;exact rfl;refine dA ?_)|(apply p3;(first|exact pu1|exact puC);exact rfl)|refine cd ?_|((refine g_cond rfl (fun hc => ?_) (fun hc => ?_)) <;> (try simp only [dcB] at hc) <;> (try first|contradiction|(exfalso;omega)))
  repeat refine cr ?_
  refine ends_id ?_
  refine endK [?_,?_] (h2 := ?_) (h3 := ?_) (nd := ?_)
  rotate_left 2
  all_goals (repeat' first|exact ce0|refine ce ?_|refine ce2 ?_ ?_|(refine Or.inr (bx_eq rfl rfl ?_);(try dsimp only [C.ren,C.ren.all]);(try exact rfl))|exact SVLe.refl|refine ceb ?_)
  all_goals first | exact (show nodupB _ = true from rfl) | exact Or.inr rfl | (rfl)
theorem chI_take {n i : Int} {ru : List Int} (h1 : 1 ≤ n) (h0 : 0 ≤ i) (h : i < ru.length) : ∃ z : Int,(if ((ru.drop i.toNat).length : Int) < n then ((ru.drop i.toNat).length : Int) else n) = z ∧ 0 ≤ z ∧ z ≤ n ∧ i + z ≤ ru.length ∧ (ru.drop i.toNat).take ((i + z).toNat - i.toNat) = (ru.drop i.toNat).take n.toNat := by
  have hl : (ru.drop i.toNat).length = ru.length - i.toNat := List.length_drop
  by_cases hn : ((ru.drop i.toNat).length : Int) < n
  · refine ⟨_,if_pos hn,by omega,by omega,by omega,?_⟩
    rw [List.take_of_length_le (by omega),List.take_of_length_le (by omega)]
  · refine ⟨_,if_neg hn,by omega,by omega,by omega,?_⟩
    congr 1; omega
end Go.Proofs.YtjmlbmmbionmcaaDoor
end
section
set_option linter.unusedVariables false
set_option linter.unusedSimpArgs false
set_option maxRecDepth 100000
set_option maxHeartbeats 1000000
namespace Go.Proofs.YtjmlbmmbionmcaaDoor
open Go Foot Go.RowKit
theorem preB185 {p : Prop} (h : p := by first | with_reducible assumption | omega | (simp only [List.length_append,List.length_cons,List.length_nil,List.length_set,List.length_replicate,List.length_take,List.length_drop,List.length_tail,List.length_dropLast,List.length_reverse] at *; omega) | exact mem_len (by assumption) (by omega) | (with_reducible refine Int.le_trans (Int.ofNat_le.2 (trimR_len _)) ?_; simp only [List.length_cons,List.length_tail]; omega) | (exact (ruAt_ok (by assumption) (by assumption) (by assumption)).2.1) | (exact (ruAt_ok (by assumption) (by assumption) (by assumption)).2.1) | (have := vMach_bd (by assumption); omega) | (simp only [mC_ch,mC_tu]; omega) | (have := vTag_bd (by assumption); omega) | (have := (‹Gd _ _›).le; omega) | (exact tgHalts_no (by assumption)) | (exact tgHead (by assumption) (by assumption) (by assumption)) | (exact Int.le_trans (tgStep_gd (by assumption) (by assumption) (by assumption) (by assumption)).le (by decide)) | (exact vTag_r (by assumption)) | (with_reducible refine Int.le_trans (Int.ofNat_le.2 (pushL_len _ _)) ?_; simp only [List.length_dropLast]; omega) | exact ls_at (by assumption) (by omega) | exact pt_gd (by assumption) | exact lv_at (by assumption) (by omega) | exact pt_gd (lv_at (by assumption) (by omega)) | exact (ask_ok (by assumption)).1 | exact (ask_ok (by assumption)).2.1 | exact (ask_ok (by assumption)).2.2.1 | exact (ask_ok (by assumption)).2.2.2 | trivial) : p := h
theorem cyRunOf_ok (L : List (List Int)) (i : Int) (q : List Int) (hq : (q.length : Int) ≤ 1000) : Does Tryd.prog 30 [.agg [shW L],.agg [int i,shI q]] [] (.one (.gv 0)) [.bx (cyC L i 1),roI q] := by
  refine does_of (k := 0) Tryd.func30 rfl Tryd.ntmps30 rfl rfl fun w F0 S0 ρ0 => ?_
  dsimp only [argT,argH]
  repeat' first|(apply n3;exact a_new (gb := .bx _) rfl;exact rfl;refine dA ?_)|(apply p3;exact pu1;exact rfl)|refine cd ?_|(apply g_drN (id := 1) okM [[],[],[1],[],[3],[3,4],[0,1,2,3,4,5],[0,1,2,3,4,5,6],[0,1,2,3,4,5,6,7]] [([],[]),([],[]),([],[]),([],[]),([],[]),([0],[]),([],[]),([1],[]),([],[])] 2;(focus (refine dp 0 0 [6,7,8,9,10] [(true,0)] puL ?_;refine dp 1 0 [5,8,9,10] [(true,0)] (a_pure (sv := .one _) rfl) ?_;refine dp 2 1 [5,8,9,10] [(true,0)] puL ?_;refine dp 3 0 [5,6,7] [] (a_pure (sv := .one _) rfl) ?_;refine dp 4 1 [5,6,7] [] puL ?_;refine duN 5 3 [5,6,7] [] (callD1 (n := _) 0 (θ := []) (hD := (clone_ok _ preB185))) (by exact rfl) (by exact rfl) ?_;refine dp 6 63 [] [] (a_pure (sv := .agg _) rfl) ?_;refine duE 7 127 [] [] (atN 1 (fun _ => a_new (gb := .bx _) rfl)) (by exact rfl) (by exact rfl) ?_;refine dp 8 255 [] [] pu1 ?_;(refine d_nil ?_;refine dN ?_)));any_goals kernel_rfl)
  repeat refine cr ?_
  refine ends_id ?_
  refine endK [?_,?_] (h2 := ?_) (h3 := ?_) (nd := ?_)
  rotate_left 2
  all_goals (repeat' first|exact ce0|refine ce ?_|refine ce2 ?_ ?_|(refine Or.inr (bx_eq rfl rfl ?_);(try dsimp only [C.ren,C.ren.all]);(try exact rfl))|exact SVLe.refl|refine ceb ?_)
  all_goals first | exact (show nodupB _ = true from rfl) | exact Or.inr rfl | (rfl)
theorem cyTurn_ok (L : List (List Int)) (i : Int) (q : List Int) (hq : (q.length : Int) ≤ 1000) : Does Tryd.prog 35 [.one (.gv 0)] [.bx (cyC L i 1),.row 1 (rows eI q)] (.agg [int i,.gv 2]) [.bx (cyC L i 1),.row 1 (rows eI q),roI q] := by
  refine does_of (k := 2) Tryd.func35 rfl Tryd.ntmps35 rfl rfl fun w F0 S0 ρ0 => ?_
  dsimp only [argT,argH]
  repeat' first|(apply n3;exact a_new (gb := .bx _) rfl;exact rfl;refine dA ?_)|refine cd ?_|(apply g_drN (id := 1) okM [[],[0],[0,1],[0,1,2],[],[4],[4,5],[4,5,6],[4,5,6,7],[0,1,2,3,4,5,6,7,8],[0,1,2,3,4,5,6,7,8,9]] [([],[]),([],[]),([],[]),([],[]),([],[]),([],[]),([],[]),([],[]),([0],[]),([],[]),([],[2])] 1;(focus (refine dp 0 0 [7,8,9,10,11] [(true,0)] pu1 ?_;refine dp 1 1 [7,8,9,10,11] [(true,0)] (a_pure (sv := .one _) rfl) ?_;refine dp 2 3 [7,8,9,10,11] [(true,0)] (a_pure (sv := .one _) rfl) ?_;refine dp 3 7 [7,8,9,10,11] [(true,0)] puL ?_;refine dp 4 0 [3,4,5,6] [] pu1 ?_;refine dp 5 1 [3,4,5,6] [] (a_pure (sv := .one _) rfl) ?_;refine dp 6 3 [3,4,5,6] [] (a_pure (sv := .one _) rfl) ?_;refine dp 7 7 [3,4,5,6] [] puL ?_;refine duN 8 15 [3,4,5,6] [] (callD1 (n := _) 0 (θ := []) (hD := (clone_ok _ preB185))) (by exact rfl) (by exact rfl) ?_;refine dp 9 511 [] [] (a_pure (sv := .agg _) rfl) ?_;refine duE 10 1023 [] [] (a_st_bx rfl rfl rfl rfl (fN rfl rfl) (Nat.le_of_ble_eq_true rfl) rfl) (by exact rfl) (by exact rfl) ?_;(refine d_nil ?_;refine dN ?_)));any_goals kernel_rfl)
  repeat refine cr ?_
  refine ends_id ?_
  refine endK [?_] (h2 := ?_) (h3 := ?_) (nd := ?_)
  rotate_left 1
  all_goals (repeat' first|exact ce0|refine ce ?_|refine ce2 ?_ ?_|(refine Or.inr (bx_eq rfl rfl ?_);(try dsimp only [C.ren,C.ren.all]);(try exact rfl))|exact SVLe.refl|refine ceb ?_)
  all_goals first | exact (show nodupB _ = true from rfl) | exact Or.inr rfl | (rfl)
theorem indexI_ok (c : List Int) (x : Int) (hc : (c.length : Int) ≤ 16777216) : Does Tryd.prog 54 [.one (shI c),.one (int x)] [] (.one (int (if x ∈ c then (c.idxOf x : Nat) else -1))) [] := by
  refine does_of (k := 0) Tryd.func54 rfl Tryd.ntmps54 rfl rfl fun w F0 S0 ρ0 => ?_
  dsimp only [argT,argH]
  repeat' first|(apply p3;(first|exact pu1|exact puN);exact rfl)|refine cd ?_
  refine g_loop_id ?_
  refine loopK [0,1,4,7] [] (fun y : Int => 0 ≤ y ∧ y ≤ c.length ∧ x ∉ c.take y.toNat) (fun y => [(8,.one (int y))]) (fun _ => []) (fun y => (c.length - y).toNat) (0 : Int) [] (hI := ?_) (hr := ?_)
  · exact ⟨by simp,by simp,by simp⟩
  · rintro i ⟨h0,h1,h2⟩
    dsimp only [List.cons_append,List.nil_append] at *
    try dsimp only [cyC]
    skip
    repeat' first|(apply p3;(first|exact pu1|exact puC|exact a_add rfl rfl (by omega) (by omega)|exact puI);exact rfl)|refine cd ?_|((refine g_cond rfl (fun hc => ?_) (fun hc => ?_)) <;> (try simp only [dcB] at hc) <;> (try first|contradiction|(exfalso;omega)))
    · have hi : i.toNat < c.length := by omega
      have hx : x = c[i.toNat]'hi := by assumption
      have hm : x ∈ c := by rw [hx]; exact List.getElem_mem hi
      have e : c.idxOf x = i.toNat := by
        rw [← List.take_append_drop i.toNat c,List.idxOf_append,if_neg h2,List.drop_eq_getElem_cons hi,← hx,List.idxOf_cons_self,List.length_take]
        omega
      rw [if_pos hm,e,show ((i.toNat : Nat) : Int) = i by omega]
      repeat refine cr ?_
      refine ends_id ?_
      refine endK [] (h2 := ?_) (h3 := ?_) (nd := ?_)
      all_goals (repeat' first|exact ce0|refine ce ?_|refine ce2 ?_ ?_|exact SVLe.refl|refine ceb ?_)
      all_goals first | exact (show nodupB _ = true from rfl) | exact Or.inr rfl | (rfl)
    · have hi : i.toNat < c.length := by omega
      have hx : ¬ x = c[i.toNat]'hi := by assumption
      refine q_again (i + 1) [] (by exact stk) ?_ ?_
      · refine ⟨by omega,by omega,?_⟩
        rw [show (i + 1).toNat = i.toNat + 1 by omega,List.take_succ_eq_append_getElem hi,List.mem_append,List.mem_singleton]
        exact fun z => z.elim h2 hx
      · omega
    · rw [List.take_of_length_le (by omega)] at h2
      rw [if_neg h2]
      repeat refine cr ?_
      refine ends_id ?_
      refine endK [] (h2 := ?_) (h3 := ?_) (nd := ?_)
      all_goals (repeat' first|exact ce0|refine ce ?_|refine ce2 ?_ ?_|exact SVLe.refl|refine ceb ?_)
      all_goals first | exact (show nodupB _ = true from rfl) | exact Or.inr rfl | (rfl)
def itC {X : Type} (bd : X → List Int → X × Option Code) : X → List (List Int) → X × Option Code
  | x,[] => (x,none)
  | x,a :: r => if (bd x a).2.isSome = true then bd x a else itC bd (bd x a).1 r
section
variable {X : Type} {bd : X → List Int → X × Option Code} {x : X} {a : List Int} {r : List (List Int)} {O : X × Option Code}
theorem itC_out (h : (bd x a).2.isNone = false) (hO : itC bd x (a :: r) = O) : O = bd x a := by
  rw [← hO,itC,if_pos (by cases hh : (bd x a).2 <;> simp_all)]
theorem itC_end (hO : itC bd x [] = O) : (x,none) = O := hO
theorem itC_next (h : (bd x a).2 = none) (hO : itC bd x (a :: r) = O) : itC bd (bd x a).1 r = O := by
  rw [← hO]; conv => rhs; rw [itC,if_neg (by simp [h])]
end
theorem chunkItB_ok (ru : List Int) (n : Int) {X : Type} (l : Nat) (R : X → Option Code → Opq) (bd : X → List Int → X × Option Code) (J : X → List (List Int) → Prop) (x0 : X) (h1 : 1 ≤ n) (hn : n ≤ 1000) (hl : (ru.length : Int) ≤ 6000) (h0 : J x0 (chs n.toNat ru)) (hJ : ∀ x a r,J x (a :: r) → (bd x a).2 = none → J (bd x a).1 r) (hY : ∀ x a,(∃ r,J x (a :: r)) → DoesW (YC Tryd.prog l) [.one (shI a)] [.opq (R x none) []] (.one (boo (bd x a).2.isNone)) [.opq (R (bd x a).1 (bd x a).2) []]) : Does Tryd.prog 62 [.one (.d (.fn (.yield l) [])),.one (.gv 1),.one (.gv 2)] [.opq (R x0 none) [],.bx [shI ru],.bx [int n]] (.tup []) [.opq (R (itC bd x0 (chs n.toNat ru)).1 (itC bd x0 (chs n.toNat ru)).2) [],.bx [shI ru],.bx [int n]] := by
  generalize hO : itC bd x0 (chs n.toNat ru) = O
  refine does_of (k := 3) Tryd.func62 rfl Tryd.ntmps62 rfl rfl fun w F0 S0 ρ0 => ?_
  dsimp only [argT,argH]
  repeat' first|(apply p3;(exact pu1);exact rfl)|refine cd ?_
  refine g_loop_id ?_
  refine loopK [0,1,2] [0] (fun y : X × Int => 0 ≤ y.2 ∧ J y.1 (chs n.toNat (ru.drop y.2.toNat)) ∧ itC bd y.1 (chs n.toNat (ru.drop y.2.toNat)) = O) (fun y => [(4,.one (int y.2))]) (fun y => [(0,.opq (R y.1 none) [])]) (fun y => (ru.length - y.2).toNat) (x0,(0 : Int)) [0,1,2] (hI := ?_) (hr := ?_)
  · exact ⟨by simp,h0,hO⟩
  · rintro ⟨x,i⟩ ⟨k1,k2,k3⟩
    dsimp only [List.cons_append,List.nil_append] at *
    try dsimp only [cyC]
    skip
    repeat' first|(apply p3;(first|exact pu1|exact puN|exact puC);exact rfl)|refine cdn ?_|refine g_reg (id := 1) ?_|(apply g_drN (id := 3) okM [[],[],[],[1,2],[1,2,3],[0,1,2,3,4],[0,1,2,3,4,5]] [([],[]),([],[]),([],[]),([],[]),([],[]),([],[]),([],[])] 0;(focus (refine dp 0 0 [14,15,16,17] [] puL ?_;refine dp 1 0 [13,15] [] puL ?_;refine dp 2 0 [13,14] [] pu1 ?_;refine dp 3 3 [13] [] (by exact a_slT rfl rfl rfl (fS rfl) (by omega) (by omega) (by exact rfl)) ?_;refine dp 4 7 [13] [] (by exact puN) ?_;refine dp 5 31 [] [] (a_min rfl rfl) ?_;refine dp 6 63 [] [] pu1 ?_;(refine d_nil ?_;refine dN ?_)));any_goals kernel_rfl)|((refine g_cond rfl (fun hc => ?_) (fun hc => ?_)) <;> (try simp only [dcB] at hc) <;> (try first|contradiction|(exfalso;omega)))
    · obtain ⟨z,ez,z0,z1,z2,e⟩ := chI_take (n := n) h1 k1 hc
      have es : chs n.toNat (ru.drop i.toNat) = (ru.drop i.toNat).take n.toNat :: chs n.toNat (ru.drop (i + n).toNat) := by
        rw [chs_s (by omega) (by rw [List.length_drop]; omega),List.drop_drop,show i.toNat + n.toNat = (i + n).toNat by omega]
      rw [es] at k2 k3
      have hp : ∃ r,J x ((ru.drop i.toNat).take ((i + z).toNat - i.toNat) :: r) := by rw [e]; exact ⟨_,k2⟩
      rw [ez]
      repeat' first|(apply p3;(first|exact pu1|exact a_add rfl rfl (by omega) (by omega)|exact a_slX rfl rfl rfl rfl rfl (fS rfl) (by omega) bnd bnd (by exact rfl));exact rfl)|refine cd ?_|(apply c4 0;exact callY (θ := [0]) (hD := (hY _ _ (by assumption)));exact rfl;exact rfl;exact rfl;refine dM ?_)|((refine g_cond rfl (fun hc => ?_) (fun hc => ?_)) <;> (try simp only [dcB] at hc) <;> (try first|contradiction|(exfalso;omega)))
      · rw [e] at *
        have hE := itC_out (by assumption) k3
        subst hE
        repeat refine cr ?_
        refine ends_id ?_
        refine endK [] (h2 := ?_) (h3 := ?_) (nd := ?_)
        all_goals (repeat' first|exact ce0|refine ce ?_|refine ce2 ?_ ?_|(refine Or.inr (bx_eq rfl rfl ?_);(try dsimp only [C.ren,C.ren.all]);(try exact rfl))|exact SVLe.refl|refine ceb ?_)
        all_goals first | exact (show nodupB _ = true from rfl) | exact Or.inr rfl | (rfl)
      · rw [e] at *
        have e9 : (bd x ((ru.drop i.toNat).take n.toNat)).2 = none := by cases hh : (bd x ((ru.drop i.toNat).take n.toNat)).2 <;> simp_all
        have hE := itC_next e9 k3
        simp only [e9]
        refine q_again ((bd x ((ru.drop i.toNat).take n.toNat)).1,i + n) [0,1,2] (by exact stk) ?_ ?_
        · dsimp only
          exact ⟨by omega,hJ _ _ _ k2 e9,hE⟩
        · dsimp only; omega
    · have e : chs n.toNat (ru.drop i.toNat) = [] := chs_0 _ (by rw [List.length_drop]; omega)
      rw [e] at k3
      have hE := itC_end k3
      subst hE
      repeat refine cr ?_
      refine ends_id ?_
      refine endK [] (h2 := ?_) (h3 := ?_) (nd := ?_)
      all_goals (repeat' first|exact ce0|refine ce ?_|refine ce2 ?_ ?_|(refine Or.inr (bx_eq rfl rfl ?_);(try dsimp only [C.ren,C.ren.all]);(try exact rfl))|exact SVLe.refl|refine ceb ?_)
      all_goals first | exact (show nodupB _ = true from rfl) | exact Or.inr rfl | (rfl)
end Go.Proofs.YtjmlbmmbionmcaaDoor
end
section
set_option linter.unusedVariables false
set_option linter.unusedSimpArgs false
set_option maxRecDepth 100000
set_option maxHeartbeats 1000000
namespace Go.Proofs.YtjmlbmmbionmcaaDoor
open Go Foot Go.RowKit
def bdW (x : List Int × Bool) (a : List Int) : (List Int × Bool) × Option Code := match lt1 a with
  | some y => ((x.1 ++ [y],x.2),none)
  | none => ((x.1,true),some .ret)
theorem bdW_s {x : List Int × Bool} {a : List Int} {y : Int} (h : lt1 a = some y) : bdW x a = ((x.1 ++ [y],x.2),none) := by unfold bdW; rw [h]
theorem bdW_n {x : List Int × Bool} {a : List Int} (h : lt1 a = none) : bdW x a = ((x.1,true),some .ret) := by unfold bdW; rw [h]
theorem itW {n : Nat} (hn : n ≠ 0) : ∀ (k : Nat) (q l : List Int),q.length = k * n → (∀ r,ltL n k q = some r → itC bdW (l,false) (chs n q) = ((l ++ r,false),none)) ∧ (ltL n k q = none → ∃ l',itC bdW (l,false) (chs n q) = ((l',true),some .ret))
  | 0,q,l,h => by
    have : q = [] := List.eq_nil_of_length_eq_zero (by omega)
    subst this
    rw [chs_0 _ rfl]
    refine ⟨fun r hr => ?_,fun hr => ?_⟩
    · rw [ltL] at hr
      have := Option.some.inj hr
      subst this
      rw [itC,List.append_nil]
    · rw [ltL] at hr; cases hr
  | k + 1,q,l,h => by
    rw [Nat.add_mul,Nat.one_mul] at h
    rw [chs_s hn (by omega),ltL]
    have ih := itW hn k (q.drop n)
    cases h1 : lt1 (q.take n) with
    | none =>
      refine ⟨fun r hr => (by cases hr),fun _ => ⟨l,?_⟩⟩
      rw [itC,bdW_n h1]
      rfl
    | some y =>
      obtain ⟨i1,i2⟩ := ih (l ++ [y]) (by rw [List.length_drop]; omega)
      have e : itC bdW (l,false) (q.take n :: chs n (q.drop n)) = itC bdW (l ++ [y],false) (chs n (q.drop n)) := by
        rw [itC,bdW_s h1]
        rfl
      rw [e,Option.bind_some]
      cases h2 : ltL n k (q.drop n) with
      | none => exact ⟨fun r hr => (by cases hr),fun _ => i2 h2⟩
      | some r' =>
        refine ⟨fun r hr => ?_,fun hr => (by cases hr)⟩
        rw [Option.map_some] at hr
        have := Option.some.inj hr
        subst this
        rw [i1 r' h2]
        simp
theorem lt1_ix {c : List Int} {y : Int} (h : lt1 c = some y) : (if (1 : Int) ∈ c then ((c.idxOf 1 : Nat) : Int) else -1) = y ∧ 0 ≤ y ∧ ((c.count 1 : Nat) : Int) = 1 := by
  unfold lt1 at h
  split at h
  · next q =>
    have hm : (1 : Int) ∈ c := by rw [← List.count_pos_iff]; omega
    have := Option.some.inj h
    rw [if_pos hm,q]
    exact ⟨this,by omega,rfl⟩
  · cases h
theorem lt1_ixn {c : List Int} (h : lt1 c = none) : ¬ ((c.count 1 : Nat) : Int) = 1 := by
  unfold lt1 at h
  split at h
  · cases h
  · next q => omega
structure WoJ (n : Nat) (x : List Int × Bool) (r : List (List Int)) : Prop where
  a : x.2 = false
  b : x.1.length + r.length ≤ 1000
  c : ∀ u ∈ r,u.length ≤ 1000
theorem chs_le {n : Nat} (hn : n ≠ 0) : ∀ (m : Nat) (q : List Int),q.length ≤ m → (chs n q).length ≤ q.length ∧ ∀ u ∈ chs n q,u.length ≤ q.length
  | 0,q,h => by
    rw [chs_0 _ (by omega)]
    exact ⟨by simp,fun u hu => by cases hu⟩
  | m + 1,q,h => by
    by_cases hq : q.length = 0
    · rw [chs_0 _ hq]; exact ⟨by simp,fun u hu => by cases hu⟩
    · rw [chs_s hn hq]
      have hd : (q.drop n).length = q.length - n := List.length_drop
      obtain ⟨i1,i2⟩ := chs_le hn m (q.drop n) (by omega)
      refine ⟨by rw [List.length_cons]; omega,fun u hu => ?_⟩
      rcases List.mem_cons.1 hu with rfl | hu
      · rw [List.length_take]; omega
      · have := i2 u hu; omega
theorem woJ_0 {n : Nat} (hn : n ≠ 0) {q : List Int} (hq : (q.length : Int) ≤ 1000) : WoJ n ([],false) (chs n q) := by
  obtain ⟨i1,i2⟩ := chs_le hn q.length q (Nat.le_refl _)
  exact ⟨rfl,by simp; omega,fun u hu => by have := i2 u hu; omega⟩
theorem woJ_s {n : Nat} {x : List Int × Bool} {a : List Int} {r : List (List Int)} (h : WoJ n x (a :: r)) (hn : (bdW x a).2 = none) : WoJ n (bdW x a).1 r := by
  cases h1 : lt1 a with
  | none => rw [bdW_n h1] at hn; cases hn
  | some y =>
    rw [bdW_s h1]
    have hb := h.b
    rw [List.length_cons] at hb
    exact ⟨h.a,by dsimp only; rw [List.length_append,List.length_singleton]; omega,fun u hu => h.c u (List.mem_cons_of_mem _ hu)⟩
theorem preB186 {p : Prop} (h : p := by first | with_reducible assumption | omega | (simp only [List.length_append,List.length_cons,List.length_nil,List.length_set,List.length_replicate,List.length_take,List.length_drop,List.length_tail,List.length_dropLast,List.length_reverse] at *; omega) | exact mem_len (by assumption) (by omega) | (with_reducible refine Int.le_trans (Int.ofNat_le.2 (trimR_len _)) ?_; simp only [List.length_cons,List.length_tail]; omega) | (exact (ruAt_ok (by assumption) (by assumption) (by assumption)).2.1) | (exact (ruAt_ok (by assumption) (by assumption) (by assumption)).2.1) | (have := vMach_bd (by assumption); omega) | (simp only [mC_ch,mC_tu]; omega) | (have := vTag_bd (by assumption); omega) | (have := (‹Gd _ _›).le; omega) | (exact tgHalts_no (by assumption)) | (exact tgHead (by assumption) (by assumption) (by assumption)) | (exact Int.le_trans (tgStep_gd (by assumption) (by assumption) (by assumption) (by assumption)).le (by decide)) | (exact vTag_r (by assumption)) | (with_reducible refine Int.le_trans (Int.ofNat_le.2 (pushL_len _ _)) ?_; simp only [List.length_dropLast]; omega) | exact ls_at (by assumption) (by omega) | exact pt_gd (by assumption) | exact lv_at (by assumption) (by omega) | exact pt_gd (lv_at (by assumption) (by omega)) | exact (ask_ok (by assumption)).1 | exact (ask_ok (by assumption)).2.1 | exact (ask_ok (by assumption)).2.2.1 | exact (ask_ok (by assumption)).2.2.2 | trivial) : p := h
theorem wordOfTurn_ok (n i : Int) (q : List Int) (h1 : 1 ≤ n) (hn : n ≤ 1000) (hq : (q.length : Int) ≤ 1000) : Does Tryd.prog 33 [.one (int n),.agg [int i,shI q]] [] (.tup [(false,[.gv 0]),(false,[int (if i = 0 then (bif (bkL n.toNat q).isSome then 0 else 9) else 6)])]) [roI (if i = 0 then (bkL n.toNat q).getD [] else [])] := by
  by_cases hi : i = 0
  · subst hi
    rw [if_pos rfl,if_pos rfl]
    have hmod : ((q.length : Int) % n).toNat = q.length % n.toNat := by
      obtain ⟨N,hN⟩ : ∃ N : Nat,n = N := ⟨n.toNat,by omega⟩
      subst hN
      rw [Int.toNat_natCast,← Int.natCast_emod,Int.toNat_natCast]
    have hm0 : 0 ≤ (q.length : Int) % n := Int.emod_nonneg _ (by omega)
    by_cases hm : (q.length : Int) % n = 0
    · have hm' : q.length % n.toNat = 0 := by omega
      have hlen : q.length = q.length / n.toNat * n.toNat := by
        have := Nat.div_add_mod q.length n.toNat
        rw [hm',Nat.add_zero,Nat.mul_comm] at this
        exact this.symm
      have eb : bkL n.toNat q = ltL n.toNat (q.length / n.toNat) q := by unfold bkL; rw [if_neg (by omega)]
      obtain ⟨w1,w2⟩ := itW (n := n.toNat) (by omega) (q.length / n.toNat) q [] hlen
      rw [← eb] at w1 w2
      refine does_of (k := 0) Tryd.func33 rfl Tryd.ntmps33 rfl rfl fun w F0 S0 ρ0 => ?_
      dsimp only [argT,argH]
      repeat' first|(apply n3;(first|exact a_new (gb := .bx _) rfl|exact a_litE eI [] rfl rfl rfl rfl rfl rfl rfl rfl);exact rfl;refine dA ?_)|(apply p3;(first|exact pu1|exact a_ne rfl rfl|exact a_rem rfl rfl (by omega) (by omega) (by omega));exact rfl)|refine cd ?_|(apply w3;(exact a_st_bx rfl rfl rfl rfl (fN rfl rfl) (Nat.le_of_ble_eq_true rfl) rfl);exact rfl;refine dS ?_)|(apply c4 0;exact callK1 (θ := []) (hD := (sizeI_ok _ preB186));exact rfl;exact rfl;exact rfl;refine dM ?_)|(apply c4 2;exact callK0 (θ := []) (hD := (chunkI_ok _ _ preB186));exact rfl;exact rfl;exact rfl;refine dM ?_)|((refine g_cond rfl (fun hc => ?_) (fun hc => ?_)) <;> (try simp only [dcB] at hc) <;> (try first|contradiction|(exfalso;omega)))
      simp only [setRow,scC,List.map_cons,List.map_nil,List.set_cons_zero,List.set_cons_succ,Nat.zero_add,List.getElem?_cons_zero,List.getElem?_cons_succ,List.take_succ_cons,List.take_zero,List.drop_zero]
      refine g_conv (t_mvB (i := 3) (j := 4) (k := 0) rfl rfl rfl rfl rfl rfl) ?_
      try dsimp only [setRow,List.map_cons,List.map_nil,scC,List.set_cons_zero,List.set_cons_succ]
      refine rangeK [4,5,6,22] [1,2,4,7] (fun x : List Int × Bool => [(7,.row 1 (rows eI x.1)),(4,.bx [.gv 7]),(1,.bx [nilC]),(2,.bx [int (if x.2 then 9 else 0)])]) [0,1,2,3,4,5,6,7] 7 7 [5,6] [] [] [] [] (fun a : List Int => [.one (shI a)]) (fun _ => []) bdW (fun x a => ∃ r,WoJ n.toNat x (a :: r)) (([],false) : List Int × Bool) (n1 := 8) (hD := fun l R hY => chunkItB_ok q n l R bdW (WoJ n.toNat) ([],false) h1 hn (by omega) (woJ_0 (by omega) hq) (fun x a r g1 g2 => woJ_s g1 g2) hY) (hr := ?_) (hn := ?_) (hs := ?_)
      · rintro ⟨x,b⟩ a ⟨r,hr⟩ lp0 w0 F0 S0 ρ0 rc0
        dsimp only [parT,upOf,deadR,thN,List.map_cons,List.map_nil,SV.ren,List.cons_append,List.nil_append,GB.ren,C.ren,C.ren.all,Nat.reduceAdd] at *
        repeat' first|refine g_reg ?_|(apply p3;(exact a_pure (sv := .one _) rfl);exact rfl)|refine o_nil ?_|refine qAsg.go rfl ?_
        dsimp only
        repeat' first|refine cdn ?_
        obtain ⟨ra,rb,rc⟩ := hr
        dsimp only at ra rb
        subst ra
        rw [List.length_cons] at rb
        have hal := rc a (List.mem_cons_self ..)
        cases hlt : lt1 a with
        | some y =>
          obtain ⟨y1,y2,y3⟩ := lt1_ix hlt
          repeat' first|(apply p3;exact pu1;exact rfl)|refine cdn ?_|refine g_reg (id := 8) ?_|(apply c4 0;exact callK1 (θ := []) (hD := (indexI_ok _ _ preB186));exact rfl;exact rfl;exact rfl;refine dM ?_)
          rw [y1]
          repeat' first|(apply n3;(exact a_litE eI [_] rfl rfl rfl rfl rfl rfl rfl rfl);exact rfl;refine dA ?_)|(apply p3;(first|exact pu1|exact puC);exact rfl)|refine cd ?_|(apply s3;exact a_appE (fP rfl) rfl rfl rfl rfl nowR (by (simp;omega)) (by decide) (by decide) (by exact rfl);exact rfl;exact rfl)|(apply w3;(exact a_st_bx rfl rfl rfl rfl (fN rfl rfl) (Nat.le_of_ble_eq_true rfl) rfl);exact rfl;refine dS ?_)|(apply py3;exact rfl;exact rfl;(first|exact pu1|exact a_ne rfl rfl);exact rfl;exact rfl)|(apply cy4 0;exact rfl;exact rfl;exact callK1 (θ := []) (hD := (countOf_ok _ _ preB186));exact rfl;exact rfl;exact rfl;exact rfl;refine dM ?_)|((first|refine o_gs rfl rfl (fun hc => ?_) (fun hc => ?_)|refine g_cond rfl (fun hc => ?_) (fun hc => ?_)) <;> (try simp only [dcB] at hc) <;> (try first|contradiction|(exfalso;omega)))
          refine q_next (x ++ [y],false) [0,1,2,3,4,5,6,10,8] (by exact stk) ?_
          rw [bdW_s hlt]
        | none =>
          have y3 := lt1_ixn hlt
          repeat' first|(apply p3;(exact pu1);exact rfl)|refine cdn ?_|refine g_reg (id := 8) ?_|(apply c4 0;exact callK1 (θ := []) (hD := (indexI_ok _ _ preB186));exact rfl;exact rfl;exact rfl;refine dM ?_)
          repeat' first|(apply p3;(first|exact pu1|exact puC);exact rfl)|refine cd ?_|(apply w3;(exact a_st_bx rfl rfl rfl rfl (fN rfl rfl) (Nat.le_of_ble_eq_true rfl) rfl);exact rfl;refine dS ?_)|refine o_no rfl rfl rfl rfl ?_|(apply py3;exact rfl;exact rfl;(first|exact pu1|exact a_ne rfl rfl);exact rfl;exact rfl)|(apply cy4 0;exact rfl;exact rfl;exact callK1 (θ := []) (hD := (countOf_ok _ _ preB186));exact rfl;exact rfl;exact rfl;exact rfl;refine dM ?_)|((first|refine o_gs rfl rfl (fun hc => ?_) (fun hc => ?_)|refine g_cond rfl (fun hc => ?_) (fun hc => ?_)) <;> (try simp only [dcB] at hc) <;> (try first|contradiction|(exfalso;omega)))
          · repeat (first | refine g_ret ?_ | refine q_sr ?_ | refine q_br ?_ | refine g_exit ?_ | refine q_se ?_ | refine q_be rfl ?_ | refine q_bn rfl ?_)
            first | refine q_next (x,true) [0,1,2,3,4,5,6,7,8] (by exact stk) ?_ | refine q_ret (x,true) [0,1,2,3,4,5,6,7,8] (by exact stk) ?_ | refine q_exit (x,true) [0,1,2,3,4,5,6,7,8] (by exact stk) ?_
            rw [bdW_n hlt]
          · repeat (first | refine g_ret ?_ | refine q_sr ?_ | refine q_br ?_ | refine g_exit ?_ | refine q_se ?_ | refine q_be rfl ?_ | refine q_bn rfl ?_)
            first | refine q_next (x,true) [0,1,2,3,4,5,6,7,8] (by exact stk) ?_ | refine q_ret (x,true) [0,1,2,3,4,5,6,7,8] (by exact stk) ?_ | refine q_exit (x,true) [0,1,2,3,4,5,6,7,8] (by exact stk) ?_
            rw [bdW_n hlt]
      · rintro hj
        dsimp only [upOf,deadR,calF,List.cons_append,List.nil_append,GB.ren,C.ren,C.ren.all,List.length_cons,List.length_nil,Nat.reduceAdd,Nat.reduceSub] at *
        skip
        repeat' first|(apply p3;exact puL;exact rfl)|refine cd ?_|(apply w3;(exact a_st_bx rfl rfl rfl rfl (fN rfl rfl) (Nat.le_of_ble_eq_true rfl) rfl);exact rfl;refine dS ?_)
        cases hb : bkL n.toNat q with
        | none =>
          obtain ⟨l',hl'⟩ := w2 hb
          rw [hl'] at hj
          cases hj
        | some r =>
          rw [w1 r hb]
          simp only [List.nil_append,Option.isSome_some,cond_true,Option.getD_some]
          skip
          repeat refine cr ?_
          refine ends_id ?_
          refine endK [?_] (h2 := ?_) (h3 := ?_) (nd := ?_)
          rotate_left 1
          all_goals (repeat' first|exact ce0|refine ce ?_|refine ce2 ?_ ?_|(refine Or.inr (bx_eq rfl rfl ?_);(try dsimp only [C.ren,C.ren.all]);(try exact rfl))|exact SVLe.refl|refine ceb ?_)
          all_goals first | exact (show nodupB _ = true from rfl) | exact Or.inr rfl | (rfl)
      · rintro c hj
        dsimp only [upOf,deadR,calF,List.cons_append,List.nil_append,GB.ren,C.ren,C.ren.all,List.length_cons,List.length_nil,Nat.reduceAdd,Nat.reduceSub] at *
        skip
        skip
        cases hb : bkL n.toNat q with
        | some r =>
          rw [w1 r hb] at hj
          cases hj
        | none =>
          obtain ⟨l',hl'⟩ := w2 hb
          rw [hl'] at hj
          cases hj
          rw [hl']
          simp only [Option.isSome_none,cond_false,Option.getD_none,if_true]
          skip
          refine g_conv (t_nilB (i := 1) (k := 0) (z := 1) rfl rfl rfl (by decide)) ?_
          try dsimp only [setRow,List.map_cons,List.map_nil,scC,List.set_cons_zero,List.set_cons_succ,Nat.reduceAdd]
          repeat refine cr ?_
          refine ends_id ?_
          refine endK [?_] (h2 := ?_) (h3 := ?_) (nd := ?_)
          rotate_left 1
          all_goals (repeat' first|exact ce0|refine ce ?_|refine ce2 ?_ ?_|(refine Or.inr (bx_eq rfl rfl ?_);(try dsimp only [C.ren,C.ren.all]);(try exact rfl))|exact SVLe.refl|refine ceb ?_)
          all_goals first | exact (show nodupB _ = true from rfl) | exact Or.inr rfl | (rfl)
    · have eb : bkL n.toNat q = none := by unfold bkL; rw [if_pos (by omega)]
      rw [eb]
      simp only [Option.isSome_none,cond_false,Option.getD_none]
      refine does_of (k := 0) Tryd.func33 rfl Tryd.ntmps33 rfl rfl fun w F0 S0 ρ0 => ?_
      dsimp only [argT,argH]
      repeat' first|(apply n3;(exact a_new (gb := .bx _) rfl);exact rfl;refine dA ?_)|(apply p3;(first|exact pu1|exact a_ne rfl rfl|exact a_rem rfl rfl (by omega) (by omega) (by omega));exact rfl)|refine cd ?_|(apply w3;(exact a_st_bx rfl rfl rfl rfl (fN rfl rfl) (Nat.le_of_ble_eq_true rfl) rfl);exact rfl;refine dS ?_)|(apply c4 0;exact callK1 (θ := []) (hD := (sizeI_ok _ preB186));exact rfl;exact rfl;exact rfl;refine dM ?_)|((refine g_cond rfl (fun hc => ?_) (fun hc => ?_)) <;> (try simp only [dcB] at hc) <;> (try first|contradiction|(exfalso;omega)))
      refine g_conv (t_nilB (i := 1) (k := 0) (z := 1) rfl rfl rfl (by decide)) ?_
      try dsimp only [setRow,List.map_cons,List.map_nil,scC,List.set_cons_zero,List.set_cons_succ,Nat.reduceAdd]
      repeat refine cr ?_
      refine ends_id ?_
      refine endK [?_] (h2 := ?_) (h3 := ?_) (nd := ?_)
      rotate_left 1
      all_goals (repeat' first|exact ce0|refine ce ?_|refine ce2 ?_ ?_|(refine Or.inr (bx_eq rfl rfl ?_);(try dsimp only [C.ren,C.ren.all]);(try exact rfl))|exact SVLe.refl|refine ceb ?_)
      all_goals first | exact (show nodupB _ = true from rfl) | exact Or.inr rfl | (rfl)
  · rw [if_neg hi,if_neg hi]
    refine does_of (k := 0) Tryd.func33 rfl Tryd.ntmps33 rfl rfl fun w F0 S0 ρ0 => ?_
    dsimp only [argT,argH]
    repeat' first|(apply n3;(exact a_new (gb := .bx _) rfl);exact rfl;refine dA ?_)|(apply p3;(first|exact pu1|exact a_ne rfl rfl);exact rfl)|refine cd ?_|(apply w3;(exact a_st_bx rfl rfl rfl rfl (fN rfl rfl) (Nat.le_of_ble_eq_true rfl) rfl);exact rfl;refine dS ?_)|((refine g_cond rfl (fun hc => ?_) (fun hc => ?_)) <;> (try simp only [dcB] at hc) <;> (try first|contradiction|(exfalso;omega)))
    refine g_conv (t_nilB (i := 1) (k := 0) (z := 1) rfl rfl rfl (by decide)) ?_
    try dsimp only [setRow,List.map_cons,List.map_nil,scC,List.set_cons_zero,List.set_cons_succ,Nat.reduceAdd]
    repeat refine cr ?_
    refine ends_id ?_
    refine endK [?_] (h2 := ?_) (h3 := ?_) (nd := ?_)
    rotate_left 1
    all_goals (repeat' first|exact ce0|refine ce ?_|refine ce2 ?_ ?_|(refine Or.inr (bx_eq rfl rfl ?_);(try dsimp only [C.ren,C.ren.all]);(try exact rfl))|exact SVLe.refl|refine ceb ?_)
    all_goals first | exact (show nodupB _ = true from rfl) | exact Or.inr rfl | (rfl)
end Go.Proofs.YtjmlbmmbionmcaaDoor
end
section
set_option linter.unusedVariables false
set_option linter.unusedSimpArgs false
set_option maxRecDepth 100000
set_option maxHeartbeats 400000
namespace Go.Proofs.YtjmlbmmbionmcaaDoor
open Go Foot Go.RowKit
theorem l19Steps_ok (n : Int) : Does Tryd.prog 19 [.one (int n)] [] (.one (boo (decide (0 ≤ n ∧ n ≤ 599)))) [] := by
  refine does_of (k := 0) Tryd.func19 rfl Tryd.ntmps19 rfl rfl fun w F0 S0 ρ0 => ?_
  dsimp only [argT,argH]
  repeat' first|(apply p3;exact pu1;exact rfl)|refine cd ?_|(apply c4 0;exact callK1 (θ := []) (hD := (l00In_ok _ _ _));exact rfl;exact rfl;exact rfl;refine dM ?_)
  repeat refine cr ?_
  refine ends_id ?_
  refine endK [] (h2 := ?_) (h3 := ?_) (nd := ?_)
  all_goals (repeat' first|exact ce0|refine ce ?_|refine ce2 ?_ ?_|exact SVLe.refl|refine ceb ?_)
  all_goals first | exact (show nodupB _ = true from rfl) | exact Or.inr rfl | (rfl)
end Go.Proofs.YtjmlbmmbionmcaaDoor
end
section
set_option linter.unusedVariables false
set_option linter.unusedSimpArgs false
set_option maxRecDepth 100000
set_option maxHeartbeats 4000000
namespace Go.Proofs.YtjmlbmmbionmcaaDoor
open Go Foot Go.RowKit
theorem tnX_n {N : Nat} {i : Int} {q : List Int} (h : ¬ i = 0) : tnX N i q = [] := by unfold tnX; rw [if_neg h]
theorem tnX_o {N : Nat} {q : List Int} (h : bkL N q = none) : tnX N 0 q = [] := by unfold tnX; rw [if_pos rfl,h]
theorem tnX_t {N : Nat} {q l : List Int} (h : bkL N q = some l) : tnX N 0 q = dotT l := by unfold tnX; rw [if_pos rfl,h]
theorem preB187 {p : Prop} (h : p := by first | with_reducible assumption | omega | (simp only [List.length_append,List.length_cons,List.length_nil,List.length_set,List.length_replicate,List.length_take,List.length_drop,List.length_tail,List.length_dropLast,List.length_reverse] at *; omega) | exact mem_len (by assumption) (by omega) | (with_reducible refine Int.le_trans (Int.ofNat_le.2 (trimR_len _)) ?_; simp only [List.length_cons,List.length_tail]; omega) | (exact (ruAt_ok (by assumption) (by assumption) (by assumption)).2.1) | (exact (ruAt_ok (by assumption) (by assumption) (by assumption)).2.1) | (have := vMach_bd (by assumption); omega) | (simp only [mC_ch,mC_tu]; omega) | (have := vTag_bd (by assumption); omega) | (have := (‹Gd _ _›).le; omega) | (exact tgHalts_no (by assumption)) | (exact tgHead (by assumption) (by assumption) (by assumption)) | (exact Int.le_trans (tgStep_gd (by assumption) (by assumption) (by assumption) (by assumption)).le (by decide)) | (exact vTag_r (by assumption)) | (with_reducible refine Int.le_trans (Int.ofNat_le.2 (pushL_len _ _)) ?_; simp only [List.length_dropLast]; omega) | exact ls_at (by assumption) (by omega) | exact pt_gd (by assumption) | exact lv_at (by assumption) (by omega) | exact pt_gd (lv_at (by assumption) (by omega)) | exact (ask_ok (by assumption)).1 | exact (ask_ok (by assumption)).2.1 | exact (ask_ok (by assumption)).2.2.1 | exact (ask_ok (by assumption)).2.2.2 | trivial) : p := h
theorem tt1_ok (t : Tg) (L : List (List Int)) (i : Int) (q : List Int) (hN : 1 ≤ t.wo.length) (hN2 : t.wo.length ≤ 200) (hq : (q.length : Int) ≤ 1000) : Does Tryd.prog 32 [.one (.gv 1),.one (tgB t),.one (.gv 2)] [.bx (cyC L i 1),.row 1 (rows eI q),.bx [.gv 0]] (.one (str (tnX t.wo.length i q))) [.bx (cyC L i 1),.row 1 (rows eI q),.bx [.gv 0]] := by
  have hnn : ((t.wo.length : Nat) : Int).toNat = t.wo.length := by omega
  by_cases hi : i = 0
  · subst hi
    cases hb : bkL t.wo.length q with
    | none =>
      rw [tnX_o hb]
      refine does_of (k := 3) Tryd.func32 rfl Tryd.ntmps32 rfl rfl fun w F0 S0 ρ0 => ?_
      dsimp only [argT,argH]
      repeat' first|(apply p3;exact pu1;exact rfl)|refine cdn ?_|refine g_reg (id := 0) ?_|(apply g_drN (id := 1) okM [[],[0],[0,1],[],[0,1,2,3],[0,1,2,3,4],[0,1,2,3,4,5],[0,1,2,3,4,5,6],[0,1,2,3,4,5,6],[0,1,2,3,4,5,6,7],[0,1,2,3,4,5,6,7,8,9]] [([],[]),([],[]),([],[]),([],[]),([0],[_,_]),([1],[]),([],[]),([],[]),([],[]),([],[]),([],[])] 2;(focus (refine dp 0 0 [11] [] (a_pure (sv := .one _) rfl) ?_;refine dp 1 1 [11] [] puL ?_;refine dp 2 3 [11] [] (by exact callD1 (n := _) 0 (θ := []) (hD := (sizeW2_ok _ preB187))) ?_;refine dp 3 0 [8,9,10] [] puL ?_;refine duN 4 15 [] [] (callD0 (n := _) 0 (θ := [_,_]) (hD := (cyTurn_ok _ _ _ preB187))) (by exact rfl) (by exact rfl) ?_;refine duN 5 31 [] [] (callD1 (n := _) 1 (θ := []) (hD := (wordOfTurn_ok _ _ _ preB187 preB187 preB187))) (by exact rfl) (by exact rfl) ?_;refine dp 6 63 [] [] pu1 ?_;refine dp 7 127 [15] [] pu2 ?_;refine dp 8 254 [14,5] [] pu2 ?_;refine dp 9 510 [15] [] pu1 ?_;refine dp 10 1023 [] [] pu1 ?_;(refine d_nil ?_;refine dN ?_)));any_goals kernel_rfl)
      simp only [hnn,hb,if_true,Option.isSome_none,Option.getD_none,cond_false]
      repeat' first|(apply p3;(first|exact pu1|exact a_ne rfl rfl);exact rfl)|refine cd ?_
      repeat refine cr ?_
      refine ends_id ?_
      refine endK [] (h2 := ?_) (h3 := ?_) (nd := ?_)
      all_goals (repeat' first|exact ce0|refine ce ?_|refine ce2 ?_ ?_|(refine Or.inr (bx_eq rfl rfl ?_);(try dsimp only [C.ren,C.ren.all]);(try exact rfl))|exact SVLe.refl|refine ceb ?_)
      all_goals first | exact (show nodupB _ = true from rfl) | exact Or.inr rfl | (rfl)
    | some l =>
      obtain ⟨hl1,hl2⟩ := bkL_bd hb
      have hlt : LtOk l := lt_ok (by omega) fun y hy => by have := hl2 y hy; omega
      rw [tnX_t hb]
      refine does_of (k := 3) Tryd.func32 rfl Tryd.ntmps32 rfl rfl fun w F0 S0 ρ0 => ?_
      dsimp only [argT,argH]
      repeat' first|(apply p3;exact pu1;exact rfl)|refine cdn ?_|refine g_reg (id := 0) ?_|(apply g_drN (id := 1) okM [[],[0],[0,1],[],[0,1,2,3],[0,1,2,3,4],[0,1,2,3,4,5],[0,1,2,3,4,5,6],[0,1,2,3,4,5,6],[0,1,2,3,4,5,6,7],[0,1,2,3,4,5,6,7,8,9]] [([],[]),([],[]),([],[]),([],[]),([0],[_,_]),([1],[]),([],[]),([],[]),([],[]),([],[]),([],[])] 2;(focus (refine dp 0 0 [11] [] (a_pure (sv := .one _) rfl) ?_;refine dp 1 1 [11] [] puL ?_;refine dp 2 3 [11] [] (by exact callD1 (n := _) 0 (θ := []) (hD := (sizeW2_ok _ preB187))) ?_;refine dp 3 0 [8,9,10] [] puL ?_;refine duN 4 15 [] [] (callD0 (n := _) 0 (θ := [_,_]) (hD := (cyTurn_ok _ _ _ preB187))) (by exact rfl) (by exact rfl) ?_;refine duN 5 31 [] [] (callD1 (n := _) 1 (θ := []) (hD := (wordOfTurn_ok _ _ _ preB187 preB187 preB187))) (by exact rfl) (by exact rfl) ?_;refine dp 6 63 [] [] pu1 ?_;refine dp 7 127 [15] [] pu2 ?_;refine dp 8 254 [14,5] [] pu2 ?_;refine dp 9 510 [15] [] pu1 ?_;refine dp 10 1023 [] [] pu1 ?_;(refine d_nil ?_;refine dN ?_)));any_goals kernel_rfl)
      simp only [hnn,hb,if_true,Option.isSome_some,Option.getD_some,cond_true]
      repeat' first|(apply p3;(first|exact pu1|exact a_ne rfl rfl);exact rfl)|refine cd ?_|(apply c4 0;exact callK1 (θ := []) (hD := (dottedG_ok l hlt));exact rfl;exact rfl;exact rfl;refine dM ?_)
      repeat refine cr ?_
      refine ends_id ?_
      refine endK [] (h2 := ?_) (h3 := ?_) (nd := ?_)
      all_goals (repeat' first|exact ce0|refine ce ?_|refine ce2 ?_ ?_|(refine Or.inr (bx_eq rfl rfl ?_);(try dsimp only [C.ren,C.ren.all]);(try exact rfl))|exact SVLe.refl|refine ceb ?_)
      all_goals first | exact (show nodupB _ = true from rfl) | exact Or.inr rfl | (rfl)
  · rw [tnX_n hi]
    refine does_of (k := 3) Tryd.func32 rfl Tryd.ntmps32 rfl rfl fun w F0 S0 ρ0 => ?_
    dsimp only [argT,argH]
    repeat' first|(apply p3;exact pu1;exact rfl)|refine cdn ?_|refine g_reg (id := 0) ?_|(apply g_drN (id := 1) okM [[],[0],[0,1],[],[0,1,2,3],[0,1,2,3,4],[0,1,2,3,4,5],[0,1,2,3,4,5,6],[0,1,2,3,4,5,6],[0,1,2,3,4,5,6,7],[0,1,2,3,4,5,6,7,8,9]] [([],[]),([],[]),([],[]),([],[]),([0],[_,_]),([1],[]),([],[]),([],[]),([],[]),([],[]),([],[])] 2;(focus (refine dp 0 0 [11] [] (a_pure (sv := .one _) rfl) ?_;refine dp 1 1 [11] [] puL ?_;refine dp 2 3 [11] [] (by exact callD1 (n := _) 0 (θ := []) (hD := (sizeW2_ok _ preB187))) ?_;refine dp 3 0 [8,9,10] [] puL ?_;refine duN 4 15 [] [] (callD0 (n := _) 0 (θ := [_,_]) (hD := (cyTurn_ok _ _ _ preB187))) (by exact rfl) (by exact rfl) ?_;refine duN 5 31 [] [] (callD1 (n := _) 1 (θ := []) (hD := (wordOfTurn_ok _ _ _ preB187 preB187 preB187))) (by exact rfl) (by exact rfl) ?_;refine dp 6 63 [] [] pu1 ?_;refine dp 7 127 [15] [] pu2 ?_;refine dp 8 254 [14,5] [] pu2 ?_;refine dp 9 510 [15] [] pu1 ?_;refine dp 10 1023 [] [] pu1 ?_;(refine d_nil ?_;refine dN ?_)));any_goals kernel_rfl)
    simp only [if_neg hi]
    repeat' first|(apply p3;(first|exact pu1|exact a_ne rfl rfl);exact rfl)|refine cd ?_
    repeat refine cr ?_
    refine ends_id ?_
    refine endK [] (h2 := ?_) (h3 := ?_) (nd := ?_)
    all_goals (repeat' first|exact ce0|refine ce ?_|refine ce2 ?_ ?_|(refine Or.inr (bx_eq rfl rfl ?_);(try dsimp only [C.ren,C.ren.all]);(try exact rfl))|exact SVLe.refl|refine ceb ?_)
    all_goals first | exact (show nodupB _ = true from rfl) | exact Or.inr rfl | (rfl)
theorem st1T_ok (t : Tg) (L : List (List Int)) (i : Int) (q : List Int) (l : List Bs) (hN : 1 ≤ t.wo.length) (hN2 : t.wo.length ≤ 200) (hq : (q.length : Int) ≤ 1000) (hl : (l.length : Int) ≤ 100000) : Does Tryd.prog 52 [.one (.gv 1),.one (.gv 3),.one (.gv 5)] [.bx (cyC L i 1),.row 1 (rows eI q),.bx [.gv 0],.bx [.gv 4],.row 1 (rows eS l),.bx [.fn (.func 32) [tgB t,.gv 2]]] (.one (boo true)) [.bx (cyC L i 1),.row 1 (rows eI q),.bx [.gv 0],.bx [.gv 6],.dead,.bx [.fn (.func 32) [tgB t,.gv 2]],.row 1 (rows eS (l ++ [tnX t.wo.length i q]))] := by
  refine does_of (k := 6) Tryd.func52 rfl Tryd.ntmps52 rfl rfl fun w F0 S0 ρ0 => ?_
  dsimp only [argT,argH]
  repeat' first|(apply p3;exact a_pure (sv := .one _) rfl;exact rfl)|refine cd ?_|(apply g_drN (id := 1) okM [[],[],[],[1,2],[1,2,3],[0,1,2,3,4],[0,1,2,3,4,5]] [([],[]),([],[]),([],[]),([],[0,1,2]),([0],[]),([1],[_]),([],[3])] 2;(focus (refine dp 0 0 [6,7,8,9] [(false,0),(false,1),(false,2),(true,0)] puL ?_;refine dp 1 0 [5,7] [] puL ?_;refine dp 2 0 [5,6] [] pu1 ?_;refine duN 3 3 [5] [] (callD0 (n := _) 0 (θ := [0,1,2]) (hD := (tt1_ok t _ _ _ hN hN2 hq))) (by exact rfl) (by exact rfl) ?_;refine duE 4 7 [5] [] (atN 0 (fun _ => a_litE eS [_] rfl rfl rfl rfl rfl rfl rfl rfl)) (by exact rfl) (by exact rfl) ?_;refine duE 5 31 [] [] (atS 1 (fun _ hj => a_appE (fP rfl) rfl rfl rfl rfl nowR (by (simp;omega)) (by decide) hj (by exact rfl)) (by decide)) (by exact rfl) (by exact rfl) ?_;refine duE 6 63 [] [] (by exact a_st_bx rfl rfl rfl rfl (fN rfl rfl) (Nat.le_of_ble_eq_true rfl) rfl) (by exact rfl) (by exact rfl) ?_;(refine d_nil ?_;refine dN ?_)));any_goals kernel_rfl)
  repeat refine cr ?_
  refine ends_id ?_
  refine endK [?_] (h2 := ?_) (h3 := ?_) (nd := ?_)
  rotate_left 1
  all_goals (repeat' first|exact ce0|refine ce ?_|refine ce2 ?_ ?_|(refine Or.inr (bx_eq rfl rfl ?_);(try dsimp only [C.ren,C.ren.all]);(try exact rfl))|exact SVLe.refl|refine ceb ?_)
  all_goals first | exact (show nodupB _ = true from rfl) | exact Or.inr rfl | (rfl)
end Go.Proofs.YtjmlbmmbionmcaaDoor
end
section
set_option linter.unusedVariables false
set_option linter.unusedSimpArgs false
set_option maxRecDepth 100000
set_option maxHeartbeats 4000000
namespace Go.Proofs.YtjmlbmmbionmcaaDoor
open Go Foot Go.RowKit
theorem trD_0 {L : List (List Int)} {N : Nat} {l : List Bs} {i : Int} {q : List Int} : trD L N 0 l i q = (((l.length : Int),decide (q.length = 0),0),l ++ [tnX N i q]) := rfl
theorem trD_h {L : List (List Int)} {N k : Nat} {l : List Bs} {i : Int} {q : List Int} (h : q.length = 0) : trD L N k l i q = (((l.length : Int),decide (q.length = 0),0),l ++ [tnX N i q]) := by
  cases k with
  | zero => rfl
  | succ k => rw [trD,decide_eq_true h]; rfl
theorem trD_o {L : List (List Int)} {N k : Nat} {l : List Bs} {i : Int} {q : List Int} (h : ¬ q.length = 0) (o : cyO L i q = true) : trD L N (k + 1) l i q = ((0,false,5),l ++ [tnX N i q]) := by
  rw [trD,decide_eq_false h,o]; rfl
theorem trD_s {L : List (List Int)} {N k : Nat} {l : List Bs} {i : Int} {q : List Int} (h : ¬ q.length = 0) (o : cyO L i q = false) : trD L N (k + 1) l i q = trD L N k (l ++ [tnX N i q]) (cyI L i) (cyQ L i q) := by
  rw [trD,decide_eq_false h,o]; rfl
theorem cyI_b {L : List (List Int)} {i : Int} (h0 : 0 ≤ i) (h1 : i.toNat < L.length) : 0 ≤ cyI L i ∧ (cyI L i).toNat < L.length := by
  have m0 := Int.emod_nonneg (i + 1) (b := (L.length : Int)) (by omega)
  have m1 := Int.emod_lt_of_pos (i + 1) (b := (L.length : Int)) (by omega)
  have hi : cyI L i = (i + 1) % (L.length : Int) := by unfold cyI; rfl
  rw [hi]
  exact ⟨m0,by omega⟩
theorem cyO_q {L : List (List Int)} {i : Int} {q : List Int} (h : cyO L i q = false) : ((cyQ L i q).length : Int) ≤ 1000 := by
  unfold cyO at h
  rw [Bool.not_eq_false'] at h
  exact of_decide_eq_true h
structure TnK (L : List (List Int)) (N : Nat) (B : Int) (i0 : Int) (q0 : List Int) (n : Int) (l : List Bs) (i : Int) (q : List Int) : Prop where
  a : n = l.length
  b : n ≤ B
  ia : 0 ≤ i
  ib : i.toNat < L.length
  q1 : (q.length : Int) ≤ 1000
  e : trD L N (B - n).toNat l i q = trD L N B.toNat [] i0 q0
theorem tnK_e {L : List (List Int)} {N : Nat} {B i0 : Int} {q0 : List Int} {n : Int} {l : List Bs} {i : Int} {q : List Int} (h : TnK L N B i0 q0 n l i q) (hc : n = B ∨ q.length = 0) : trD L N B.toNat [] i0 q0 = ((n,decide (q.length = 0),0),l ++ [tnX N i q]) := by
  rw [← h.e,h.a]
  rcases hc with hc | hc
  · rw [← h.a,show (B - n).toNat = 0 by omega,trD_0,← h.a]
  · rw [trD_h hc]
theorem tnK_o {L : List (List Int)} {N : Nat} {B i0 : Int} {q0 : List Int} {n : Int} {l : List Bs} {i : Int} {q : List Int} (h : TnK L N B i0 q0 n l i q) (hn : ¬ n = B) (hq : ¬ q.length = 0) (o : cyO L i q = true) : trD L N B.toNat [] i0 q0 = ((0,false,5),l ++ [tnX N i q]) := by
  have hb := h.b
  obtain ⟨k,hk⟩ : ∃ k,(B - n).toNat = k + 1 := ⟨(B - n).toNat - 1,by omega⟩
  rw [← h.e,hk,trD_o hq o]
theorem tnK_s {L : List (List Int)} {N : Nat} {B i0 : Int} {q0 : List Int} {n : Int} {l : List Bs} {i : Int} {q : List Int} (h : TnK L N B i0 q0 n l i q) (hn : ¬ n = B) (hq : ¬ q.length = 0) (o : cyO L i q = false) : TnK L N B i0 q0 (n + 1) (l ++ [tnX N i q]) (cyI L i) (cyQ L i q) := by
  have hb := h.b
  have ha := h.a
  obtain ⟨k,hk⟩ : ∃ k,(B - n).toNat = k + 1 := ⟨(B - n).toNat - 1,by omega⟩
  obtain ⟨z1,z2⟩ := cyI_b h.ia h.ib
  have he := h.e
  rw [hk,trD_s hq o] at he
  exact ⟨by simp; omega,by omega,z1,z2,cyO_q o,by rw [show (B - (n + 1)).toNat = k by omega]; exact he⟩
theorem preB188 {p : Prop} (h : p := by first | with_reducible assumption | omega | (simp only [List.length_append,List.length_cons,List.length_nil,List.length_set,List.length_replicate,List.length_take,List.length_drop,List.length_tail,List.length_dropLast,List.length_reverse] at *; omega) | exact mem_len (by assumption) (by omega) | (with_reducible refine Int.le_trans (Int.ofNat_le.2 (trimR_len _)) ?_; simp only [List.length_cons,List.length_tail]; omega) | (exact (ruAt_ok (by assumption) (by assumption) (by assumption)).2.1) | (exact (ruAt_ok (by assumption) (by assumption) (by assumption)).2.1) | (have := vMach_bd (by assumption); omega) | (simp only [mC_ch,mC_tu]; omega) | (have := vTag_bd (by assumption); omega) | (have := (‹Gd _ _›).le; omega) | (exact tgHalts_no (by assumption)) | (exact tgHead (by assumption) (by assumption) (by assumption)) | (exact Int.le_trans (tgStep_gd (by assumption) (by assumption) (by assumption) (by assumption)).le (by decide)) | (exact vTag_r (by assumption)) | (with_reducible refine Int.le_trans (Int.ofNat_le.2 (pushL_len _ _)) ?_; simp only [List.length_dropLast]; omega) | exact ls_at (by assumption) (by omega) | exact pt_gd (by assumption) | exact lv_at (by assumption) (by omega) | exact pt_gd (lv_at (by assumption) (by omega)) | exact (ask_ok (by assumption)).1 | exact (ask_ok (by assumption)).2.1 | exact (ask_ok (by assumption)).2.2.1 | exact (ask_ok (by assumption)).2.2.2 | trivial) : p := h
theorem runSysC_ok (t : Tg) (L : List (List Int)) (i : Int) (q : List Int) (B : Int) (hN : 1 ≤ t.wo.length) (hN2 : t.wo.length ≤ 200) (hL : (L.length : Int) ≤ 1000) (hw : ∀ x ∈ L,(x.length : Int) ≤ 1000) (h0 : 0 ≤ i) (hi : i.toNat < L.length) (hq : (q.length : Int) ≤ 1000) (h1 : 0 ≤ B) (h2 : B ≤ 599) : Does Tryd.prog 51 [.one (.ifc 64 false [.gv 0]),.one (int B),.one (.fn (.func 52) [.gv 3,.gv 5])] [.bx (cyC L i 1),.row 1 (rows eI q),.bx [.gv 0],.bx [.gv 4],.row 1 (rows eS []),.bx [.fn (.func 32) [tgB t,.gv 2]]] (.tup [(false,[int (trD L t.wo.length B.toNat [] i q).1.1]),(false,[boo (trD L t.wo.length B.toNat [] i q).1.2.1]),(false,[int (trD L t.wo.length B.toNat [] i q).1.2.2])]) [.dead,.dead,.dead,.bx [.gv 6],.dead,.dead,.row 1 (rows eS (trD L t.wo.length B.toNat [] i q).2)] := by
  refine does_of (k := 6) Tryd.func51 rfl Tryd.ntmps51 rfl rfl fun w F0 S0 ρ0 => ?_
  dsimp only [argT,argH]
  refine g_conv (t_mvB (i := 1) (j := 0) (k := 2) rfl rfl rfl rfl rfl rfl) ?_
  try dsimp only [setRow,List.map_cons,List.map_nil,scC,List.set_cons_zero,List.set_cons_succ]
  refine g_conv (t_mvB (i := 4) (j := 3) (k := 0) rfl rfl rfl rfl rfl rfl) ?_
  try dsimp only [setRow,List.map_cons,List.map_nil,scC,List.set_cons_zero,List.set_cons_succ]
  repeat' first|(apply p3;(exact pu1);exact rfl)|refine cd ?_
  refine g_loop_id ?_
  refine loopK [0,1,2,6,7,8] [0,3,6,7] (fun x : Int × List Bs × Int × List Int => TnK L t.wo.length B i q x.1 x.2.1 x.2.2.1 x.2.2.2) (fun x => [(9,.one (int x.1))]) (fun x => [(0,.bx (cyC L x.2.2.1 6)),(6,.row 1 (rows eI x.2.2.2)),(3,.bx [.gv 7]),(7,.row 1 (rows eS x.2.1))]) (fun x => (B - x.1).toNat) ((0 : Int),[],i,q) [0,1,2,3,4,5,6,7] (hI := ?_) (hr := ?_)
  · exact ⟨by simp,by simpa using h1,h0,hi,hq,by simp⟩
  · rintro ⟨n,l,j,u⟩ hK
    dsimp only [List.cons_append,List.nil_append] at *
    try dsimp only [cyC]
    skip
    obtain ⟨k1,k2,k3,k4,k5,k6⟩ := id hK
    repeat' first|(apply p3;(first|exact pu1|exact a_add rfl rfl (by omega) (by omega));exact rfl)|refine cd ?_|(apply c4 0;exact callM0 (dst := some 14) (θ := [0,6]) (hD := (cyWord_ok L _ _));exact rfl;exact rfl;exact rfl;refine dM ?_)|(apply c4 1;exact callK0 (θ := [0,6,2,3,7,5]) (hD := (st1T_ok t L _ _ _ hN hN2 preB188 preB188));exact rfl;exact rfl;exact rfl;refine dM ?_)|(apply c4 0;exact callM0 (dst := some 28) (θ := [0,6]) (hD := (cyHalts_ok L _ _ preB188));exact rfl;exact rfl;exact rfl;refine dM ?_)|(apply c4 1;exact callM0 (dst := some 30) (θ := [0,6]) (hD := (cyStep_ok L _ _ preB188 preB188 hL hw preB188 preB188));exact rfl;exact rfl;exact rfl;refine dM ?_)|refine o_no rfl rfl rfl rfl ?_|(apply py3;exact rfl;exact rfl;(first|exact pu1|exact puC);exact rfl;exact rfl)|(apply cy4 0;exact rfl;exact rfl;exact callM0 (dst := some 24) (θ := [0,6]) (hD := (cyHalts_ok L _ _ preB188));exact rfl;exact rfl;exact rfl;exact rfl;refine dM ?_)|((first|refine o_gs rfl rfl (fun hc => ?_) (fun hc => ?_)|refine g_cond rfl (fun hc => ?_) (fun hc => ?_)) <;> (try simp only [dcB] at hc) <;> (try first|contradiction|(exfalso;omega)))
    · rw [tnK_e hK (.inl hc)]
      repeat refine cr ?_
      refine ends_id ?_
      refine endK [?_] (h2 := ?_) (h3 := ?_) (nd := ?_)
      rotate_left 1
      all_goals (repeat' first|exact ce0|refine ce ?_|refine ce2 ?_ ?_|(refine Or.inr (bx_eq rfl rfl ?_);(try dsimp only [C.ren,C.ren.all]);(try exact rfl))|exact SVLe.refl|refine ceb ?_)
      all_goals first | exact (show nodupB _ = true from rfl) | exact Or.inr rfl | ((first | rfl | omega | exact decide_eq_decide.2 (by omega)))
    · rw [tnK_e hK (.inr (by omega))]
      repeat refine cr ?_
      refine ends_id ?_
      refine endK [?_] (h2 := ?_) (h3 := ?_) (nd := ?_)
      rotate_left 1
      all_goals (repeat' first|exact ce0|refine ce ?_|refine ce2 ?_ ?_|(refine Or.inr (bx_eq rfl rfl ?_);(try dsimp only [C.ren,C.ren.all]);(try exact rfl))|exact SVLe.refl|refine ceb ?_)
      all_goals first | exact (show nodupB _ = true from rfl) | exact Or.inr rfl | ((first | rfl | omega | exact decide_eq_decide.2 (by omega)))
    · rw [tnK_o hK (by omega) (by omega) hc]
      repeat refine cr ?_
      refine ends_id ?_
      refine endK [?_] (h2 := ?_) (h3 := ?_) (nd := ?_)
      rotate_left 1
      all_goals (repeat' first|exact ce0|refine ce ?_|refine ce2 ?_ ?_|(refine Or.inr (bx_eq rfl rfl ?_);(try dsimp only [C.ren,C.ren.all]);(try exact rfl))|exact SVLe.refl|refine ceb ?_)
      all_goals first | exact (show nodupB _ = true from rfl) | exact Or.inr rfl | (rfl)
    · have hS := tnK_s hK (by omega) (by omega) hc
      refine q_again (n + 1,l ++ [tnX t.wo.length j u],cyI L j,cyQ L j u) [0,1,2,3,4,5,9,8] (by exact stk) ?_ ?_
      · exact hS
      · dsimp only; omega
theorem trD_cd {L : List (List Int)} {N : Nat} : ∀ (k : Nat) (l : List Bs) (i : Int) (q : List Int),(trD L N k l i q).1.2.2 = 0 ∨ (trD L N k l i q).1.2.2 = 5
  | 0,l,i,q => .inl rfl
  | k + 1,l,i,q => by
    by_cases h : q.length = 0
    · rw [trD_h h]; exact .inl rfl
    · cases o : cyO L i q with
      | true => rw [trD_o h o]; exact .inr rfl
      | false => rw [trD_s h o]; exact trD_cd k _ _ _
theorem systemTextsT_ok (t : Tg) (L : List (List Int)) (i : Int) (q : List Int) (n : Int) (hN : 1 ≤ t.wo.length) (hN2 : t.wo.length ≤ 200) (hL : (L.length : Int) ≤ 1000) (hw : ∀ x ∈ L,(x.length : Int) ≤ 1000) (h0 : 0 ≤ i) (hi : i.toNat < L.length) (hq : (q.length : Int) ≤ 1000) (h1 : 0 ≤ n) (h2 : n ≤ 599) : Does Tryd.prog 31 [.one (.ifc 64 false [.gv 0]),.one (int n),.one (.fn (.func 32) [tgB t,.gv 2])] [.bx (cyC L i 1),.row 1 (rows eI q),.bx [.gv 0]] (.tup [(false,[.gv 3]),(false,[int (bif (trC L t.wo.length n.toNat [] i q).2 then 0 else 5)])]) [.dead,.dead,.dead,.row 1 (rows eS (trC L t.wo.length n.toNat [] i q).1)] := by
  have e := trC_D (L := L) (N := t.wo.length) n.toNat [] i q
  have ec := trD_cd (L := L) (N := t.wo.length) n.toNat [] i q
  refine does_of (k := 3) Tryd.func31 rfl Tryd.ntmps31 rfl rfl fun w F0 S0 ρ0 => ?_
  dsimp only [argT,argH]
  repeat' first|(apply n3;exact a_nilO eS rfl;exact rfl)|(apply n3;(first|exact a_new (gb := .bx _) rfl|exact a_litE eS [] rfl rfl rfl rfl rfl rfl rfl rfl);exact rfl;refine dA ?_)|(apply p3;(first|exact pu1|exact a_ne rfl rfl);exact rfl)|refine cd ?_|(apply w3;(exact a_st_bx rfl rfl rfl rfl (fN rfl rfl) (Nat.le_of_ble_eq_true rfl) rfl);exact rfl;refine dS ?_)|(apply c4 1;exact callK1 (θ := [0,1,2,6,5,3]) (hD := (runSysC_ok t L i q n hN hN2 hL hw h0 hi hq h1 h2));exact rfl;exact rfl;exact rfl;refine dM ?_)|((refine g_cond rfl (fun hc => ?_) (fun hc => ?_)) <;> (try simp only [dcB] at hc) <;> (try first|contradiction|(exfalso;omega)))
  · rw [if_neg hc] at e
    rw [e]
    repeat refine cr ?_
    refine ends_id ?_
    refine endK [?_] (h2 := ?_) (h3 := ?_) (nd := ?_)
    rotate_left 1
    all_goals (repeat' first|exact ce0|refine ce ?_|refine ce2 ?_ ?_|(refine Or.inr (bx_eq rfl rfl ?_);(try dsimp only [C.ren,C.ren.all]);(try exact rfl))|exact SVLe.refl|refine ceb ?_)
    all_goals first | exact (show nodupB _ = true from rfl) | exact Or.inr rfl | ((show _ = (5 : Int); omega))
  · rw [if_pos hc] at e
    rw [e]
    repeat refine cr ?_
    refine ends_id ?_
    refine endK [?_] (h2 := ?_) (h3 := ?_) (nd := ?_)
    rotate_left 1
    all_goals (repeat' first|exact ce0|refine ce ?_|refine ce2 ?_ ?_|(refine Or.inr (bx_eq rfl rfl ?_);(try dsimp only [C.ren,C.ren.all]);(try exact rfl))|exact SVLe.refl|refine ceb ?_)
    all_goals first | exact (show nodupB _ = true from rfl) | exact Or.inr rfl | (rfl)
end Go.Proofs.YtjmlbmmbionmcaaDoor
end
section
set_option linter.unusedVariables false
set_option linter.unusedSimpArgs false
set_option maxRecDepth 100000
set_option maxHeartbeats 1000000
namespace Go.Proofs.YtjmlbmmbionmcaaDoor
open Go Foot Go.RowKit
@[irreducible] def tnO (t : Tg) (q : List Int) (n : Int) : List Bs × Int := bif vTag t && tgWord t.wo.length q then (if 0 ≤ n ∧ n ≤ 599 then (bif (cyR t).2 then (bif fitW t.wo.length q then (bif (trC (cyR t).1 t.wo.length n.toNat [] 0 (cdL t.wo.length q)).2 then ((trC (cyR t).1 t.wo.length n.toNat [] 0 (cdL t.wo.length q)).1,0) else ([],5)) else ([],5)) else ([],5)) else ([],2)) else ([],1)
structure TnJ (L : List (List Int)) (N : Nat) (q0 : List Int) (n0 : Int) (n : Int) (o : List Bs) (i : Int) (q : List Int) : Prop where
  na : 0 ≤ n
  nb : n ≤ n0
  o1 : (o.length : Int) = n0 - n + 1
  i0 : 0 ≤ i
  i1 : i.toNat < L.length
  q1 : (q.length : Int) ≤ 1000
  e : ∃ l,o = l ++ [tnX N i q] ∧ trC L N n0.toNat [] 0 (cdL N q0) = trC L N n.toNat l i q
theorem tnX_w {N : Nat} {q : List Int} (h0 : 0 < N) (h : ∀ x ∈ q,0 ≤ x ∧ x < N) : tnX N 0 (cdL N q) = dotT q := by
  unfold tnX
  rw [if_pos rfl,bk_cd h0 h]
theorem tnJ_0 {L : List (List Int)} {N : Nat} {q0 : List Int} {n : Int} (h0 : 0 ≤ n) (hN : 0 < N) (h : ∀ x ∈ q0,0 ≤ x ∧ x < N) (hL : 0 < L.length) (hq : ((cdL N q0).length : Int) ≤ 1000) : TnJ L N q0 n n [dotT q0] 0 (cdL N q0) :=
  ⟨h0,by omega,by simp,by omega,by simpa using hL,hq,[],by rw [tnX_w hN h]; rfl,rfl⟩
theorem tnJ_end {L : List (List Int)} {N : Nat} {q0 : List Int} {n0 n : Int} {o : List Bs} {i : Int} {q : List Int} (h : TnJ L N q0 n0 n o i q) (hc : n = 0 ∨ q.length = 0) : trC L N n0.toNat [] 0 (cdL N q0) = (o,true) := by
  obtain ⟨l,e1,e2⟩ := h.e
  rw [e2,e1]
  rcases hc with hc | hc
  · rw [hc]; rfl
  · cases hk : n.toNat with
    | zero => rfl
    | succ k => rw [trC,hc]; rfl
theorem tnJ_full {L : List (List Int)} {N : Nat} {q0 : List Int} {n0 n : Int} {o : List Bs} {i : Int} {q : List Int} (h : TnJ L N q0 n0 n o i q) (hn : 0 < n) (hq : 0 < q.length) (hc : cyO L i q = true) : trC L N n0.toNat [] 0 (cdL N q0) = ([],false) := by
  obtain ⟨l,e1,e2⟩ := h.e
  rw [e2]
  obtain ⟨k,hk⟩ : ∃ k,n.toNat = k + 1 := ⟨n.toNat - 1,by omega⟩
  rw [hk,trC,decide_eq_false (by omega),hc]
  rfl
theorem tnJ_s {L : List (List Int)} {N : Nat} {q0 : List Int} {n0 n : Int} {o : List Bs} {i : Int} {q : List Int} (h : TnJ L N q0 n0 n o i q) (hn : 0 < n) (hq : 0 < q.length) (hc : cyO L i q = false) : TnJ L N q0 n0 (n - 1) (o ++ [tnX N (cyI L i) (cyQ L i q)]) (cyI L i) (cyQ L i q) := by
  obtain ⟨l,e1,e2⟩ := h.e
  have hL : 0 < L.length := by have := h.i1; omega
  have m0 := Int.emod_nonneg (i + 1) (b := (L.length : Int)) (by omega)
  have m1 := Int.emod_lt_of_pos (i + 1) (b := (L.length : Int)) (by omega)
  have hi : cyI L i = (i + 1) % (L.length : Int) := by unfold cyI; rfl
  have hn0 := h.na
  have hn1 := h.nb
  have ho := h.o1
  refine ⟨by omega,by omega,by rw [List.length_append,List.length_singleton]; omega,by rw [hi]; exact m0,by rw [hi]; omega,?_,o,rfl,?_⟩
  · unfold cyO at hc
    rw [Bool.not_eq_false'] at hc
    exact of_decide_eq_true hc
  · rw [e2]
    obtain ⟨k,hk⟩ : ∃ k,n.toNat = k + 1 := ⟨n.toNat - 1,by omega⟩
    have hk' : (n - 1).toNat = k := by omega
    rw [hk,hk',trC,decide_eq_false (by omega),hc,e1]
    rfl
theorem preB183 {p : Prop} (h : p := by first | with_reducible assumption | omega | (simp only [List.length_append,List.length_cons,List.length_nil,List.length_set,List.length_replicate,List.length_take,List.length_drop,List.length_tail,List.length_dropLast,List.length_reverse] at *; omega) | exact mem_len (by assumption) (by omega) | (with_reducible refine Int.le_trans (Int.ofNat_le.2 (trimR_len _)) ?_; simp only [List.length_cons,List.length_tail]; omega) | (exact (ruAt_ok (by assumption) (by assumption) (by assumption)).2.1) | (exact (ruAt_ok (by assumption) (by assumption) (by assumption)).2.1) | (have := vMach_bd (by assumption); omega) | (simp only [mC_ch,mC_tu]; omega) | (have := vTag_bd (by assumption); omega) | (have := (‹Gd _ _›).le; omega) | (exact tgHalts_no (by assumption)) | (exact tgHead (by assumption) (by assumption) (by assumption)) | (exact Int.le_trans (tgStep_gd (by assumption) (by assumption) (by assumption) (by assumption)).le (by decide)) | (exact vTag_r (by assumption)) | (with_reducible refine Int.le_trans (Int.ofNat_le.2 (pushL_len _ _)) ?_; simp only [List.length_dropLast]; omega) | exact ls_at (by assumption) (by omega) | exact pt_gd (by assumption) | exact lv_at (by assumption) (by omega) | exact pt_gd (lv_at (by assumption) (by omega)) | exact (ask_ok (by assumption)).1 | exact (ask_ok (by assumption)).2.1 | exact (ask_ok (by assumption)).2.2.1 | exact (ask_ok (by assumption)).2.2.2 | trivial) : p := h
theorem sTurnTexts_ok (t : Tg) (q : List Int) (n : Int) (hq : (q.length : Int) ≤ 1048576) (hx : (t.ha.length : Int) ≤ 1048576) (hy : (t.wo.length : Int) ≤ 1048576) (hys : ∀ x ∈ t.wo,(x.length : Int) ≤ 1048576) : Does Tryd.prog 5 [.agg (tgC t),.one (shI q),.one (int n)] [] (.tup [(false,[.gv 0]),(false,[int (tnO t q n).2])]) [.row 1 (rows eS (tnO t q n).1)] := by
  have hys' : ∀ x ∈ t.wo,(x.length : Int) ≤ 16777216 := fun x hx => by have := hys x hx; omega
  cases hv : vTag t && tgWord t.wo.length q with
  | false =>
    have hr : tnO t q n = ([],1) := by unfold tnO; rw [hv]; rfl
    rw [hr]
    refine does_of (k := 0) Tryd.func5 rfl Tryd.ntmps5 rfl rfl fun w F0 S0 ρ0 => ?_
    dsimp only [argT,argH]
    repeat' first|(apply n3;exact a_nilO eS rfl;exact rfl)|(apply n3;exact a_new (gb := .bx _) rfl;exact rfl;refine dA ?_)|(apply p3;exact pu1;exact rfl)|refine cdn ?_|refine g_reg (id := 0) ?_|refine g_reg (id := 1) ?_|(apply c4 0;exact callK1 (θ := []) (hD := (l09Ask_ok _ _ preB183 preB183 preB183 preB183));exact rfl;exact rfl;exact rfl;refine dM ?_)
    simp only [hv,cond_false]
    repeat' first|(apply n3;exact a_nilO eS rfl;exact rfl)|(apply p3;(first|exact pu1|exact puC|exact a_ne rfl rfl);exact rfl)|refine cd ?_|refine o_no rfl rfl rfl rfl ?_
    repeat refine cr ?_
    refine ends_id ?_
    refine endK [?_] (h2 := ?_) (h3 := ?_) (nd := ?_)
    rotate_left 1
    all_goals (repeat' first|exact ce0|refine ce ?_|refine ce2 ?_ ?_|(refine Or.inr (bx_eq rfl rfl ?_);(try dsimp only [C.ren,C.ren.all]);(try exact rfl))|exact SVLe.refl|refine ceb ?_)
    all_goals first | exact (show nodupB _ = true from rfl) | exact Or.inr rfl | (rfl)
  | true =>
    obtain ⟨hv1,hv2⟩ := Bool.and_eq_true_iff.1 hv
    have hg := tgWord_gd hv2
    have hb := vTag_bd hv1
    by_cases h : 0 ≤ n ∧ n ≤ 599
    · have hr : tnO t q n = (bif (cyR t).2 then (bif fitW t.wo.length q then (bif (trC (cyR t).1 t.wo.length n.toNat [] 0 (cdL t.wo.length q)).2 then ((trC (cyR t).1 t.wo.length n.toNat [] 0 (cdL t.wo.length q)).1,0) else ([],5)) else ([],5)) else ([],5)) := by unfold tnO; rw [hv,cond_true,if_pos h]
      rw [hr]
      have hco := cyR_ok hv1
      refine does_of (k := 0) Tryd.func5 rfl Tryd.ntmps5 rfl rfl fun w F0 S0 ρ0 => ?_
      dsimp only [argT,argH]
      repeat' first|(apply n3;exact a_nilO eS rfl;exact rfl)|(apply n3;exact a_new (gb := .bx _) rfl;exact rfl;refine dA ?_)|(apply p3;exact a_pure (sv := .one _) rfl;exact rfl)|refine cdn ?_|refine g_reg (id := 0) ?_
      first | refine g_turn (t_frzB (d := 3) (i := 0) rfl rfl rfl) ?_ | refine o_turn (t_frzB (d := 3) (i := 0) rfl rfl rfl) ?_
      repeat' first|(apply p3;exact pu1;exact rfl)|refine cdn ?_|refine g_reg (id := 1) ?_|(apply c4 0;exact callK1 (θ := []) (hD := (l09Ask_ok _ _ preB183 preB183 preB183 preB183));exact rfl;exact rfl;exact rfl;refine dM ?_)
      simp only [hv,cond_true]
      repeat' first|(apply p3;(first|exact pu1|exact puC|exact a_ne rfl rfl);exact rfl)|refine cdn ?_|refine g_reg (id := 2) ?_|refine g_reg (id := 4) ?_|(apply py3;exact rfl;exact rfl;(exact pu1);exact rfl;exact rfl)|(apply cy4 0;exact rfl;exact rfl;exact callK1 (θ := []) (hD := (l19Steps_ok _));exact rfl;exact rfl;exact rfl;exact rfl;refine dM ?_)|((refine g_cond rfl (fun hc => ?_) (fun hc => ?_)) <;> (try simp only [dcB] at hc) <;> (try first|contradiction|(exfalso;omega)))
      repeat' first|(apply n3;exact a_new (gb := .bx _) rfl;exact rfl;refine dA ?_)|(apply p3;(exact pu1);exact rfl)|refine cdn ?_|refine g_reg (id := 6) ?_|(apply w3;exact a_st_bx rfl rfl rfl rfl (fN rfl rfl) (Nat.le_of_ble_eq_true rfl) rfl;exact rfl;refine dS ?_)|(apply c4 1;exact callK0 (θ := []) (hD := (l15Cyclic_ok _ preB183));exact rfl;exact rfl;exact rfl;refine dM ?_)
      generalize cyR t = R at *
      obtain ⟨L,b⟩ := R
      dsimp only at *
      refine g_turn (t_freeze (i := 2) rfl nowR) ?_
      simp only [setRow,C.frz.all,C.frz,SV.frz,tFrz,List.map_cons,List.map_nil,scC,List.set_cons_zero,List.set_cons_succ,Nat.zero_add,List.getElem?_cons_zero,List.getElem?_cons_succ,List.take_succ_cons,List.take_zero,List.drop_zero]
      first | refine g_turn (t_frzB (d := 9) (i := 3) rfl rfl rfl) ?_ | refine o_turn (t_frzB (d := 9) (i := 3) rfl rfl rfl) ?_
      repeat' first|(apply p3;(first|exact pu1|exact puN);exact rfl)|refine cdn ?_|refine g_reg (id := 7) ?_|(apply c4 0;exact callF (hD := (l15Codes_ok _ _ preB183 preB183 preB183));exact rfl;exact rfl;exact rfl;refine dM ?_)
      cases hbb : b with
      | false =>
        simp only [cond_false,hbb]
        repeat' first|(apply n3;exact a_nilO eS rfl;exact rfl)|(apply p3;(exact pu1);exact rfl)|refine cd ?_|refine o_no rfl rfl rfl rfl ?_
        repeat refine cr ?_
        refine ends_id ?_
        refine endK [?_] (h2 := ?_) (h3 := ?_) (nd := ?_)
        rotate_left 1
        all_goals (repeat' first|exact ce0|refine ce ?_|refine ce2 ?_ ?_|(refine Or.inr (bx_eq rfl rfl ?_);(try dsimp only [C.ren,C.ren.all]);(try exact rfl))|exact SVLe.refl|refine ceb ?_)
        all_goals first | exact (show nodupB _ = true from rfl) | exact Or.inr rfl | (rfl)
      | true =>
        obtain ⟨hc1,hc2,hc3,hc4⟩ := hco hbb
        cases hf : fitW t.wo.length q with
        | false =>
          simp only [cond_false,cond_true,hbb,hf]
          repeat' first|(apply n3;exact a_nilO eS rfl;exact rfl)|(apply p3;(exact pu1);exact rfl)|refine cd ?_|(apply py3;exact rfl;exact rfl;(exact pu1);exact rfl;exact rfl)
          repeat refine cr ?_
          refine ends_id ?_
          refine endK [?_] (h2 := ?_) (h3 := ?_) (nd := ?_)
          rotate_left 1
          all_goals (repeat' first|exact ce0|refine ce ?_|refine ce2 ?_ ?_|(refine Or.inr (bx_eq rfl rfl ?_);(try dsimp only [C.ren,C.ren.all]);(try exact rfl))|exact SVLe.refl|refine ceb ?_)
          all_goals first | exact (show nodupB _ = true from rfl) | exact Or.inr rfl | (rfl)
        | true =>
          simp only [cond_false,cond_true,hbb,hf]
          have hfit : ((cdL (t.wo.length : Int).toNat q).length : Int) ≤ 1000 := by
            unfold fitW at hf
            rw [decide_eq_true_eq] at hf
            rw [cdL_len]
            have e1 : ((q.length * (t.wo.length : Int).toNat : Nat) : Int) = q.length * t.wo.length := by rw [Int.natCast_mul,Int.toNat_of_nonneg (by omega)]
            omega
          have hN : (t.wo.length : Int).toNat = t.wo.length := by omega
          rw [hN] at *
          repeat' first|(apply p3;(exact pu1);exact rfl)|refine cdn ?_|refine g_reg (id := 8) ?_|(apply py3;exact rfl;exact rfl;(exact pu1);exact rfl;exact rfl)
          repeat' first|(apply n3;exact a_new (gb := .bx _) rfl;exact rfl;refine dA ?_)|(apply p3;(exact pu1);exact rfl)|refine cdn ?_|refine g_reg (id := 10) ?_|(apply w3;exact a_st_bx rfl rfl rfl rfl (fN rfl rfl) (Nat.le_of_ble_eq_true rfl) rfl;exact rfl;refine dS ?_)
          repeat' first|(apply n3;(exact a_litE eS [_] rfl rfl rfl rfl rfl rfl rfl rfl);exact rfl;refine dA ?_)|(apply p3;(exact pu1);exact rfl)|refine cd ?_|(apply c4 0;exact callK1 (θ := []) (hD := (l09Letters_ok q (gd_lt hv1 hg)));exact rfl;exact rfl;exact rfl;refine dM ?_)
          have h0N : 0 < t.wo.length := by omega
          have hJ0 : TnJ L t.wo.length q n n [dotT q] 0 (cdL t.wo.length q) := tnJ_0 h.1 h0N hg.wd (by omega) hfit
          refine g_loop_id ?_
          refine loopK [3,6,7,9,13] [4,5] (fun y : Int × List Bs × Int × List Int => TnJ L t.wo.length q n y.1 y.2.1 y.2.2.1 y.2.2.2) (fun y => [(2,.one (int y.1)),(14,.one (.gv 5))]) (fun y => [(4,.bx [int y.2.2.1,shI y.2.2.2]),(5,.row 1 (rows eS y.2.1))]) (fun y => y.1.toNat) (n,[dotT q],0,cdL t.wo.length q) [0,1,2,3,4,5] (hI := ?_) (hr := ?_)
          · exact hJ0
          · rintro ⟨m,o,i,x⟩ hJ
            dsimp only [List.cons_append,List.nil_append] at *
            skip
            obtain ⟨j1,j2,j3,j4,j5,j6,jE⟩ := id hJ
            repeat' first|(apply p3;(first|exact pu1|exact puC);exact rfl)|refine cdn ?_|refine g_reg (id := 12) ?_|refine g_reg (id := 24) ?_|refine o_no rfl rfl rfl rfl ?_|(apply py3;exact rfl;exact rfl;(first|exact pu1|exact puC|exact puN);exact rfl;exact rfl)|((first|refine o_gs rfl rfl (fun hc => ?_) (fun hc => ?_)|refine g_cond rfl (fun hc => ?_) (fun hc => ?_)) <;> (try simp only [dcB] at hc) <;> (try first|contradiction|(exfalso;omega)))
            · have hq0 : 0 < x.length := by omega
              repeat' first|(apply n3;exact a_new (gb := .bx _) rfl;exact rfl;refine dA ?_)|(apply p3;(exact pu1);exact rfl)|refine cdn ?_|refine g_reg (id := 14) ?_|(apply w3;exact a_st_bx rfl rfl rfl rfl (fN rfl rfl) (Nat.le_of_ble_eq_true rfl) rfl;exact rfl;refine dS ?_)|(apply c4 0;exact callF (hD := (l09Next_ok L i x j4 j5 (by omega) hc1 hq0 j6));exact rfl;exact rfl;exact rfl;refine dM ?_)
              cases hcy : cyO L i x with
              | true =>
                have hT := tnJ_full hJ (by omega) hq0 hcy
                simp only [hT,cond_false]
                repeat' first|(apply n3;exact a_nilO eS rfl;exact rfl)|(apply p3;(exact pu1);exact rfl)|refine cd ?_
                repeat refine cr ?_
                refine ends_id ?_
                refine endK [?_] (h2 := ?_) (h3 := ?_) (nd := ?_)
                rotate_left 1
                all_goals (repeat' first|exact ce0|refine ce ?_|refine ce2 ?_ ?_|(refine Or.inr (bx_eq rfl rfl ?_);(try dsimp only [C.ren,C.ren.all]);(try exact rfl))|exact SVLe.refl|refine ceb ?_)
                all_goals first | exact (show nodupB _ = true from rfl) | exact Or.inr rfl | (rfl)
              | false =>
                have hJ2 := tnJ_s hJ (by omega) hq0 hcy
                generalize cyI L i = ci at *
                generalize cyQ L i x = cx at *
                repeat' first|(apply p3;(exact pu1);exact rfl)|refine cdn ?_|refine g_reg (id := 15) ?_
                repeat' first|(apply p3;(exact pu1);exact rfl)|refine cdn ?_|refine g_reg (id := 17) ?_|refine g_reg (id := 18) ?_|(apply w3;exact a_st_bx rfl rfl rfl rfl (fN rfl rfl) (Nat.le_of_ble_eq_true rfl) rfl;exact rfl;refine dS ?_)
                simp only [setRow,C.frz.all,C.frz,SV.frz,tFrz,List.map_cons,List.map_nil,scC,List.set_cons_zero,List.set_cons_succ,Nat.zero_add,List.getElem?_cons_zero,List.getElem?_cons_succ,List.take_succ_cons,List.take_zero,List.drop_zero]
                have hcx : (cx.length : Int) ≤ 1000 := hJ2.q1
                have hla : (o.length : Int) ≤ 1000 := by omega
                by_cases hz : ci = 0
                · cases hb : bkL t.wo.length cx with
                  | none =>
                    have hX : tnX t.wo.length ci cx = [] := by unfold tnX; rw [if_pos hz,hb]
                    rw [hX] at hJ2
                    rw [hz] at hJ2 ⊢
                    repeat' first|(apply p3;(first|exact pu1|exact puC|exact puN);exact rfl)|refine cdn ?_|refine g_reg (id := 19) ?_|refine g_reg (id := 20) ?_|(apply c4 1;exact callK1 (θ := []) (hD := (l15Back_ok cx (t.wo.length : Int) hcx (by omega) (by omega)));exact rfl;exact rfl;exact rfl;refine dM ?_)
                    simp only [Int.toNat_natCast,hb,Option.isSome_none,Option.getD_none]
                    repeat' first|(apply n3;(exact a_litE eS [_] rfl rfl rfl rfl rfl rfl rfl rfl);exact rfl;refine dA ?_)|(apply p3;(first|exact pu1|exact a_sub rfl rfl (by omega) (by omega));exact rfl)|refine cd ?_|(apply s3;exact a_appE (fP rfl) rfl rfl rfl rfl nowR (by (simp;omega)) (by decide) (by decide) (by exact rfl);exact rfl;exact rfl)
                    refine q_again (m - 1,o ++ [[]],0,cx) [0,1,2,3,4,9] (by exact stk) ?_ ?_
                    · exact hJ2
                    · dsimp only; omega
                  | some l =>
                    have hX : tnX t.wo.length ci cx = dotT l := by unfold tnX; rw [if_pos hz,hb]
                    rw [hX] at hJ2
                    rw [hz] at hJ2 ⊢
                    obtain ⟨hl1,hl2⟩ := bkL_bd hb
                    have hlt : LtOk l := lt_ok (by omega) fun y hy => by have := hl2 y hy; omega
                    repeat' first|(apply p3;(first|exact pu1|exact puC|exact puN);exact rfl)|refine cdn ?_|refine g_reg (id := 19) ?_|refine g_reg (id := 20) ?_|(apply c4 1;exact callK1 (θ := []) (hD := (l15Back_ok cx (t.wo.length : Int) hcx (by omega) (by omega)));exact rfl;exact rfl;exact rfl;refine dM ?_)
                    simp only [Int.toNat_natCast,hb,Option.isSome_some,Option.getD_some]
                    repeat' first|(apply n3;(exact a_litE eS [_] rfl rfl rfl rfl rfl rfl rfl rfl);exact rfl;refine dA ?_)|(apply p3;(first|exact pu1|exact a_sub rfl rfl (by omega) (by omega));exact rfl)|refine cd ?_|(apply s3;exact a_appE (fP rfl) rfl rfl rfl rfl nowR (by (simp;omega)) (by decide) (by decide) (by exact rfl);exact rfl;exact rfl)|(apply c4 0;exact callK1 (θ := []) (hD := (l09Letters_ok l hlt));exact rfl;exact rfl;exact rfl;refine dM ?_)
                    refine q_again (m - 1,o ++ [dotT l],0,cx) [0,1,2,3,4,9] (by exact stk) ?_ ?_
                    · exact hJ2
                    · dsimp only; omega
                · have hX : tnX t.wo.length ci cx = [] := by unfold tnX; rw [if_neg hz]
                  rw [hX] at hJ2
                  repeat' first|(apply n3;(exact a_litE eS [_] rfl rfl rfl rfl rfl rfl rfl rfl);exact rfl;refine dA ?_)|(apply p3;(first|exact pu1|exact puC|exact a_sub rfl rfl (by omega) (by omega));exact rfl)|refine cd ?_|(apply s3;exact a_appE (fP rfl) rfl rfl rfl rfl nowR (by (simp;omega)) (by decide) (by decide) (by exact rfl);exact rfl;exact rfl)|((refine g_cond rfl (fun hc => ?_) (fun hc => ?_)) <;> (try simp only [dcB] at hc) <;> (try first|contradiction|(exfalso;omega)))
                  refine q_again (m - 1,o ++ [[]],ci,cx) [0,1,2,3,4,8] (by exact stk) ?_ ?_
                  · exact hJ2
                  · dsimp only; omega
            · have hT := tnJ_end hJ (.inr (by omega))
              simp only [hT,cond_true]
              repeat refine cr ?_
              refine ends_id ?_
              refine endK [?_] (h2 := ?_) (h3 := ?_) (nd := ?_)
              rotate_left 1
              all_goals (repeat' first|exact ce0|refine ce ?_|refine ce2 ?_ ?_|(refine Or.inr (bx_eq rfl rfl ?_);(try dsimp only [C.ren,C.ren.all]);(try exact rfl))|exact SVLe.refl|refine ceb ?_)
              all_goals first | exact (show nodupB _ = true from rfl) | exact Or.inr rfl | (rfl)
            · have hT := tnJ_end hJ (.inl (by omega))
              simp only [hT,cond_true]
              repeat refine cr ?_
              refine ends_id ?_
              refine endK [?_] (h2 := ?_) (h3 := ?_) (nd := ?_)
              rotate_left 1
              all_goals (repeat' first|exact ce0|refine ce ?_|refine ce2 ?_ ?_|(refine Or.inr (bx_eq rfl rfl ?_);(try dsimp only [C.ren,C.ren.all]);(try exact rfl))|exact SVLe.refl|refine ceb ?_)
              all_goals first | exact (show nodupB _ = true from rfl) | exact Or.inr rfl | (rfl)
    · have hr : tnO t q n = ([],2) := by unfold tnO; rw [hv,cond_true,if_neg h]
      rw [hr]
      refine does_of (k := 0) Tryd.func5 rfl Tryd.ntmps5 rfl rfl fun w F0 S0 ρ0 => ?_
      dsimp only [argT,argH]
      repeat' first|(apply n3;exact a_nilO eS rfl;exact rfl)|(apply n3;exact a_new (gb := .bx _) rfl;exact rfl;refine dA ?_)|(apply p3;exact pu1;exact rfl)|refine cdn ?_|refine g_reg (id := 0) ?_|refine g_reg (id := 1) ?_|(apply c4 0;exact callK1 (θ := []) (hD := (l09Ask_ok _ _ preB183 preB183 preB183 preB183));exact rfl;exact rfl;exact rfl;refine dM ?_)
      simp only [hv,cond_true]
      repeat' first|(apply n3;exact a_nilO eS rfl;exact rfl)|(apply p3;(first|exact pu1|exact puC|exact a_ne rfl rfl);exact rfl)|refine cd ?_|(apply py3;exact rfl;exact rfl;(exact pu1);exact rfl;exact rfl)|(apply cy4 0;exact rfl;exact rfl;exact callK1 (θ := []) (hD := (l19Steps_ok _));exact rfl;exact rfl;exact rfl;exact rfl;refine dM ?_)|((refine g_cond rfl (fun hc => ?_) (fun hc => ?_)) <;> (try simp only [dcB] at hc) <;> (try first|contradiction|(exfalso;omega)))
      repeat refine cr ?_
      refine ends_id ?_
      refine endK [?_] (h2 := ?_) (h3 := ?_) (nd := ?_)
      rotate_left 1
      all_goals (repeat' first|exact ce0|refine ce ?_|refine ce2 ?_ ?_|(refine Or.inr (bx_eq rfl rfl ?_);(try dsimp only [C.ren,C.ren.all]);(try exact rfl))|exact SVLe.refl|refine ceb ?_)
      all_goals first | exact (show nodupB _ = true from rfl) | exact Or.inr rfl | (rfl)
end Go.Proofs.YtjmlbmmbionmcaaDoor
end
section
set_option linter.unusedVariables false
set_option linter.unusedSimpArgs false
set_option maxRecDepth 100000
set_option maxHeartbeats 4000000
namespace Go.Proofs.YtjmlbmmbionmcaaDoor
open Go Foot Go.RowKit
theorem trC_no {L : List (List Int)} {N k : Nat} {l : List Bs} {i : Int} {q : List Int} (h : (trC L N k l i q).2 = false) : (trC L N k l i q).1 = [] := by
  rw [trC_D] at h ⊢
  by_cases z : (trD L N k l i q).1.2.2 = 0
  · rw [if_pos z] at h; cases h
  · rw [if_neg z]
theorem preB189 {p : Prop} (h : p := by first | with_reducible assumption | omega | (simp only [List.length_append,List.length_cons,List.length_nil,List.length_set,List.length_replicate,List.length_take,List.length_drop,List.length_tail,List.length_dropLast,List.length_reverse] at *; omega) | exact mem_len (by assumption) (by omega) | (with_reducible refine Int.le_trans (Int.ofNat_le.2 (trimR_len _)) ?_; simp only [List.length_cons,List.length_tail]; omega) | (exact (ruAt_ok (by assumption) (by assumption) (by assumption)).2.1) | (exact (ruAt_ok (by assumption) (by assumption) (by assumption)).2.1) | (have := vMach_bd (by assumption); omega) | (simp only [mC_ch,mC_tu]; omega) | (have := vTag_bd (by assumption); omega) | (have := (‹Gd _ _›).le; omega) | (exact tgHalts_no (by assumption)) | (exact tgHead (by assumption) (by assumption) (by assumption)) | (exact Int.le_trans (tgStep_gd (by assumption) (by assumption) (by assumption) (by assumption)).le (by decide)) | (exact vTag_r (by assumption)) | (with_reducible refine Int.le_trans (Int.ofNat_le.2 (pushL_len _ _)) ?_; simp only [List.length_dropLast]; omega) | exact ls_at (by assumption) (by omega) | exact pt_gd (by assumption) | exact lv_at (by assumption) (by omega) | exact pt_gd (lv_at (by assumption) (by omega)) | exact (ask_ok (by assumption)).1 | exact (ask_ok (by assumption)).2.1 | exact (ask_ok (by assumption)).2.2.1 | exact (ask_ok (by assumption)).2.2.2 | trivial) : p := h
theorem iTurnTexts_ok (t : Tg) (q : List Int) (n : Int) (hq : (q.length : Int) ≤ 1048576) (hx : (t.ha.length : Int) ≤ 1048576) (hy : (t.wo.length : Int) ≤ 1048576) (hys : ∀ x ∈ t.wo,(x.length : Int) ≤ 1048576) : Does Tryd.prog 8 [.agg (tgC t),.one (shI q),.one (int n)] [] (.tup [(false,[.gv 0]),(false,[int (tnO t q n).2])]) [.row 1 (rows eS (tnO t q n).1)] := by
  have hys' : ∀ x ∈ t.wo,(x.length : Int) ≤ 16777216 := fun x hx => by have := hys x hx; omega
  have d0 : decide ((0 : Int) = 0) = true := rfl
  have d1 : decide ((1 : Int) = 0) = false := rfl
  cases hv : vTag t && tgWord t.wo.length q with
  | false =>
    have hr : tnO t q n = ([],1) := by unfold tnO; rw [hv]; rfl
    rw [hr]
    refine does_of (k := 0) Tryd.func8 rfl Tryd.ntmps8 rfl rfl fun w F0 S0 ρ0 => ?_
    dsimp only [argT,argH]
    repeat' first|(apply n3;exact a_nilO eS rfl;exact rfl)|(apply n3;exact a_new (gb := .bx _) rfl;exact rfl;refine dA ?_)|(apply p3;(first|exact pu1|exact puC);exact rfl)|refine cdn ?_|refine g_reg (id := 0) ?_|refine g_reg (id := 1) ?_|(apply c4 0;exact callK1 (θ := []) (hD := (tagCode_ok _ _ preB189 preB189 preB189 preB189));exact rfl;exact rfl;exact rfl;refine dM ?_)|(apply c4 0;exact callK1 (θ := []) (hD := (textsCode_ok _ _));exact rfl;exact rfl;exact rfl;refine dM ?_)
    simp only [hv,cond_false,d1]
    repeat' first|(apply n3;exact a_nilO eS rfl;exact rfl)|(apply p3;(first|exact pu1|exact a_ne rfl rfl);exact rfl)|refine cd ?_
    repeat refine cr ?_
    refine ends_id ?_
    refine endK [?_] (h2 := ?_) (h3 := ?_) (nd := ?_)
    rotate_left 1
    all_goals (repeat' first|exact ce0|refine ce ?_|refine ce2 ?_ ?_|(refine Or.inr (bx_eq rfl rfl ?_);(try dsimp only [C.ren,C.ren.all]);(try exact rfl))|exact SVLe.refl|refine ceb ?_)
    all_goals first | exact (show nodupB _ = true from rfl) | exact Or.inr rfl | (rfl)
  | true =>
    obtain ⟨hv1,hv2⟩ := Bool.and_eq_true_iff.1 hv
    have hg := tgWord_gd hv2
    have hb := vTag_bd hv1
    by_cases h : 0 ≤ n ∧ n ≤ 599
    · have hr : tnO t q n = (bif (cyR t).2 then (bif fitW t.wo.length q then (bif (trC (cyR t).1 t.wo.length n.toNat [] 0 (cdL t.wo.length q)).2 then ((trC (cyR t).1 t.wo.length n.toNat [] 0 (cdL t.wo.length q)).1,0) else ([],5)) else ([],5)) else ([],5)) := by unfold tnO; rw [hv,cond_true,if_pos h]
      rw [hr]
      have hco := cyR_ok hv1
      refine does_of (k := 0) Tryd.func8 rfl Tryd.ntmps8 rfl rfl fun w F0 S0 ρ0 => ?_
      dsimp only [argT,argH]
      repeat' first|(apply n3;exact a_nilO eS rfl;exact rfl)|(apply n3;exact a_new (gb := .bx _) rfl;exact rfl;refine dA ?_)|(apply p3;exact a_pure (sv := .one _) rfl;exact rfl)|refine cdn ?_|refine g_reg (id := 0) ?_
      first | refine g_turn (t_frzB (d := 3) (i := 0) rfl rfl rfl) ?_ | refine o_turn (t_frzB (d := 3) (i := 0) rfl rfl rfl) ?_
      repeat' first|(apply p3;(first|exact pu1|exact puC);exact rfl)|refine cdn ?_|refine g_reg (id := 1) ?_|(apply c4 0;exact callK1 (θ := []) (hD := (tagCode_ok _ _ preB189 preB189 preB189 preB189));exact rfl;exact rfl;exact rfl;refine dM ?_)|(apply c4 0;exact callK1 (θ := []) (hD := (textsCode_ok _ _));exact rfl;exact rfl;exact rfl;refine dM ?_)
      simp only [hv,cond_true,d0,if_pos h]
      repeat' first|(apply n3;exact a_new (gb := .bx _) rfl;exact rfl;refine dA ?_)|(apply p3;(first|exact pu1|exact a_ne rfl rfl);exact rfl)|refine cdn ?_|refine g_reg (id := 2) ?_|refine g_reg (id := 4) ?_|(apply w3;exact a_st_bx rfl rfl rfl rfl (fN rfl rfl) (Nat.le_of_ble_eq_true rfl) rfl;exact rfl;refine dS ?_)|(apply c4 0;exact callF (hD := (TurnOfWord_ok t q hv1 hv2 hx));exact rfl;exact rfl;exact rfl;refine dM ?_)
      cases hR : (cyR t).2 with
      | false =>
        simp only [hR,cond_false]
        repeat' first|(apply n3;exact a_nilO eS rfl;exact rfl)|(apply p3;(first|exact pu1|exact a_ne rfl rfl);exact rfl)|refine cd ?_
        repeat refine cr ?_
        refine ends_id ?_
        refine endK [?_] (h2 := ?_) (h3 := ?_) (nd := ?_)
        rotate_left 1
        all_goals (repeat' first|exact ce0|refine ce ?_|refine ce2 ?_ ?_|(refine Or.inr (bx_eq rfl rfl ?_);(try dsimp only [C.ren,C.ren.all]);(try exact rfl))|exact SVLe.refl|refine ceb ?_)
        all_goals first | exact (show nodupB _ = true from rfl) | exact Or.inr rfl | (rfl)
      | true =>
        simp only [hR,cond_true]
        obtain ⟨hc1,hc2,hc3,hc4⟩ := hco hR
        cases hf : fitW t.wo.length q with
        | false =>
          simp only [hf,cond_false]
          repeat' first|(apply n3;exact a_nilO eS rfl;exact rfl)|(apply p3;(first|exact pu1|exact a_ne rfl rfl);exact rfl)|refine cd ?_
          repeat refine cr ?_
          refine ends_id ?_
          refine endK [?_] (h2 := ?_) (h3 := ?_) (nd := ?_)
          rotate_left 1
          all_goals (repeat' first|exact ce0|refine ce ?_|refine ce2 ?_ ?_|(refine Or.inr (bx_eq rfl rfl ?_);(try dsimp only [C.ren,C.ren.all]);(try exact rfl))|exact SVLe.refl|refine ceb ?_)
          all_goals first | exact (show nodupB _ = true from rfl) | exact Or.inr rfl | (rfl)
        | true =>
          simp only [hf,cond_true]
          have hfit : ((cdL t.wo.length q).length : Int) ≤ 1000 := by
            unfold fitW at hf
            rw [decide_eq_true_eq] at hf
            rw [cdL_len,Int.natCast_mul]
            exact hf
          repeat' first|(apply n3;exact a_new (gb := .bx _) rfl;exact rfl;refine dA ?_)|(apply p3;(first|exact pu1|exact a_ne rfl rfl);exact rfl)|refine cdn ?_|refine g_reg (id := 5) ?_|refine g_reg (id := 7) ?_|(apply w3;exact a_st_bx rfl rfl rfl rfl (fN rfl rfl) (Nat.le_of_ble_eq_true rfl) rfl;exact rfl;refine dS ?_)|(apply c4 1;exact callK0 (θ := []) (hD := (cyclicOfTag_ok t hv1));exact rfl;exact rfl;exact rfl;refine dM ?_)
          simp only [hR,cond_true]
          refine g_turn (t_freeze (i := 3) rfl nowR) ?_
          simp only [setRow,C.frz.all,C.frz,SV.frz,tFrz,scC,List.map_cons,List.map_nil,List.set_cons_zero,List.set_cons_succ,Nat.zero_add,List.getElem?_cons_zero,List.getElem?_cons_succ,List.take_succ_cons,List.take_zero,List.drop_zero]
          have hLl : ((cyR t).1.length : Int) ≤ 1000 := by omega
          have hi0 : (0 : Int).toNat < (cyR t).1.length := by show 0 < (cyR t).1.length; omega
          repeat' first|(apply n3;exact a_new (gb := .bx _) rfl;exact rfl;refine dA ?_)|(apply p3;(exact pu1);exact rfl)|refine cd ?_|(apply w3;exact a_st_bx rfl rfl rfl rfl (fN rfl rfl) (Nat.le_of_ble_eq_true rfl) rfl;exact rfl;refine dS ?_)|(apply c4 2;exact callK0 (θ := []) (hD := (cyRunOf_ok (cyR t).1 0 (cdL t.wo.length q) hfit));exact rfl;exact rfl;exact rfl;refine dM ?_)|(apply c4 1;exact callK1 (θ := [5,6,7]) (hD := (systemTextsT_ok t (cyR t).1 0 (cdL t.wo.length q) n (by omega) (by omega) hLl hc1 (by omega) hi0 hfit h.1 h.2));exact rfl;exact rfl;exact rfl;refine dM ?_)
          cases hk : (trC (cyR t).1 t.wo.length n.toNat [] 0 (cdL t.wo.length q)).2 with
          | false =>
            simp only [trC_no hk,cond_false]
            repeat refine cr ?_
            refine ends_id ?_
            refine endK [?_] (h2 := ?_) (h3 := ?_) (nd := ?_)
            rotate_left 1
            all_goals (repeat' first|exact ce0|refine ce ?_|refine ce2 ?_ ?_|(refine Or.inr (bx_eq rfl rfl ?_);(try dsimp only [C.ren,C.ren.all]);(try exact rfl))|exact SVLe.refl|refine ceb ?_)
            all_goals first | exact (show nodupB _ = true from rfl) | exact Or.inr rfl | (rfl)
          | true =>
            simp only [cond_true]
            repeat refine cr ?_
            refine ends_id ?_
            refine endK [?_] (h2 := ?_) (h3 := ?_) (nd := ?_)
            rotate_left 1
            all_goals (repeat' first|exact ce0|refine ce ?_|refine ce2 ?_ ?_|(refine Or.inr (bx_eq rfl rfl ?_);(try dsimp only [C.ren,C.ren.all]);(try exact rfl))|exact SVLe.refl|refine ceb ?_)
            all_goals first | exact (show nodupB _ = true from rfl) | exact Or.inr rfl | (rfl)
    · have hr : tnO t q n = ([],2) := by unfold tnO; rw [hv,cond_true,if_neg h]
      rw [hr]
      refine does_of (k := 0) Tryd.func8 rfl Tryd.ntmps8 rfl rfl fun w F0 S0 ρ0 => ?_
      dsimp only [argT,argH]
      repeat' first|(apply n3;exact a_nilO eS rfl;exact rfl)|(apply n3;exact a_new (gb := .bx _) rfl;exact rfl;refine dA ?_)|(apply p3;(first|exact pu1|exact puC);exact rfl)|refine cdn ?_|refine g_reg (id := 0) ?_|refine g_reg (id := 1) ?_|(apply c4 0;exact callK1 (θ := []) (hD := (tagCode_ok _ _ preB189 preB189 preB189 preB189));exact rfl;exact rfl;exact rfl;refine dM ?_)|(apply c4 0;exact callK1 (θ := []) (hD := (textsCode_ok _ _));exact rfl;exact rfl;exact rfl;refine dM ?_)
      simp only [hv,cond_true,d0,if_neg h]
      repeat' first|(apply n3;exact a_nilO eS rfl;exact rfl)|(apply p3;(first|exact pu1|exact a_ne rfl rfl);exact rfl)|refine cd ?_
      repeat refine cr ?_
      refine ends_id ?_
      refine endK [?_] (h2 := ?_) (h3 := ?_) (nd := ?_)
      rotate_left 1
      all_goals (repeat' first|exact ce0|refine ce ?_|refine ce2 ?_ ?_|(refine Or.inr (bx_eq rfl rfl ?_);(try dsimp only [C.ren,C.ren.all]);(try exact rfl))|exact SVLe.refl|refine ceb ?_)
      all_goals first | exact (show nodupB _ = true from rfl) | exact Or.inr rfl | (rfl)
end Go.Proofs.YtjmlbmmbionmcaaDoor
end
section
set_option linter.unusedVariables false
set_option linter.unusedSimpArgs false
set_option maxRecDepth 100000
set_option maxHeartbeats 4000000
namespace Go.Proofs.YtjmlbmmbionmcaaDoor
open Go Foot
@[irreducible] def marks (k : Int) (n : Nat) : List Int := (List.range n).map fun (i : Nat) => k + (i : Int)
theorem marks_len (k : Int) (n : Nat) : (marks k n).length = n := by unfold marks; simp
theorem marks_get (k : Int) (n i : Nat) (h : i < n) : (marks k n)[i]? = some (k + i) := by unfold marks; simp [h]
theorem mark_end {k : Int} {xs l : List Int} (h1 : l.length = xs.length) (h2 : ∀ j (h : j < xs.length),l[j]? = some (k + j)) : l = marks k xs.length := by
  apply List.ext_getElem?
  intro j
  by_cases hj : j < xs.length
  · rw [marks_get k _ j hj,h2 j hj]
  · rw [List.getElem?_eq_none (by omega),List.getElem?_eq_none (by rw [marks_len]; omega)]
theorem markInt64S_ok (xs : List Int) (k : Int) (h1 : 0 ≤ k) (h2 : k ≤ 4611686018427387904) (hx : (xs.length : Int) ≤ 4611686018427) : Does Tryd.prog 13 [.one (.gv 0),.one (int k)] [roI xs] (.one (int (k + xs.length))) [roI (marks k xs.length)] := by
  refine does_of (k := 1) Tryd.func13 rfl Tryd.ntmps13 rfl rfl fun w F0 S0 ρ0 => ?_
  dsimp only [argT,argH]
  repeat' first|(apply p3;(exact pu1);exact rfl)|refine cd ?_
  refine g_loop_id ?_
  refine loopK [0,4] [0] (fun y : Int × List Int => 0 ≤ y.1 ∧ y.1 ≤ xs.length ∧ y.2.length = xs.length ∧ ∀ (j : Nat),(j : Int) < y.1 → y.2[j]? = some (k + j)) (fun y => [(5,.one (int y.1)),(1,.one (int (k + y.1)))]) (fun y => [(0,roI y.2)]) (fun y => (xs.length - y.1).toNat) ((0 : Int),xs) [0] (hI := ?_) (hr := ?_)
  · exact ⟨by simp,by simp,rfl,fun j h' => by simp at h'; omega⟩
  · rintro ⟨i,l⟩ ⟨k1,k2,k3,k4⟩
    dsimp only [List.cons_append,List.nil_append] at *
    skip
    repeat' first|(apply p3;(first|exact pu1|exact puN|exact puC|exact a_add rfl rfl (by omega) (by omega)|exact puI);exact rfl)|refine cd ?_|(apply w3;(exact a_st_rowI rfl rfl rfl rfl (fN rfl rfl) bnd);exact rfl;refine dS ?_)|((refine g_cond rfl (fun hc => ?_) (fun hc => ?_)) <;> (try simp only [dcB] at hc) <;> (try first|contradiction|(exfalso;omega)))
    · refine q_again (i + 1,l.set i.toNat (k + i)) [0] (by exact stk) ?_ ?_
      · refine ⟨by dsimp only; omega,by dsimp only; omega,by simp [k3],fun j h => ?_⟩
        dsimp only at h ⊢
        rw [List.getElem?_set]
        split
        · rename_i e
          subst e
          rw [if_pos (by omega)]
          congr 1
          omega
        · exact k4 j (by omega)
      · dsimp only; omega
    · have hi : i = xs.length := by omega
      subst hi
      have hl := mark_end (k := k) k3 fun j hj => k4 j (by omega)
      repeat refine cr ?_
      refine ends_id ?_
      refine endK [] (h2 := ?_) (h3 := ?_) (nd := ?_)
      all_goals (repeat' first|exact ce0|refine ce ?_|refine ce2 ?_ ?_|(refine Or.inr (bx_eq rfl rfl ?_);(try dsimp only [C.ren,C.ren.all]);(try exact rfl))|exact SVLe.refl|refine ceb ?_)
      all_goals first | exact (show nodupB _ = true from rfl) | exact Or.inr rfl | (exact hl)
@[irreducible] def held (k : Int) (xs : List Int) : Int := if xs = marks k xs.length then k + xs.length else -1
end Go.Proofs.YtjmlbmmbionmcaaDoor
end
