/- Parts of the proof (15 of 21). -/
import Derived.Lib.AppendIntMem
import Derived.Test.YtbblkhjjgnpbaaaGreatDoorQ14
section
set_option linter.unusedVariables false
set_option linter.unusedSimpArgs false
set_option maxRecDepth 100000
namespace Go.Proofs.YtbblkhjjgnpbaaaGreatDoor
open Go Foot Go.Shelf Go.RowKit
abbrev nlC : C := .d (.sc .nilIface)
abbrev bldr (l : Bs) : GB := .bld 173 5 l
theorem cells_str (l s : Bs) : Lib.byteCells l ++ Lib.strCells ⟨s.toArray⟩ = Lib.byteCells (l ++ s) := by
  unfold Lib.byteCells Lib.strCells
  simp
theorem repA_1 {w : World} {S : Foot} {ρ : Env} {v : Value} {vs : List Value} (h : RepA w S ρ [.one (.d (.sc v))] vs) : vs = [v] := by
  simp only [RepA,RepS,RepC,Rep] at h
  obtain ⟨_,_,rfl,⟨rfl,_⟩,rfl⟩ := h
  rfl
theorem repA_2 {w : World} {S : Foot} {ρ : Env} {v u : Value} {vs : List Value} (h : RepA w S ρ [.one (.d (.sc v)),.one (.d (.sc u))] vs) : vs = [v,u] := by
  simp only [RepA,RepS,RepC,Rep] at h
  obtain ⟨_,_,rfl,⟨rfl,_⟩,_,_,rfl,⟨rfl,_⟩,rfl⟩ := h
  rfl
theorem does_ext {P : Program} {f : Nat} {ags : List SV} {av : List Value} {res : SV} {rv : Value} (ha : ∀ w S ρ vs,RepA w S ρ ags vs → vs = av) (hr : ∀ w S ρ,RepS w S ρ res rv)
    (hc : ∀ (w : World) (S : Foot),Tabs w S → Calls P f av.toArray w fun en w' => en = .returned rv ∧ Below w.heap.size w w') : Does P f ags [] res [] := by
  intro vs w S ρ F hA hG
  have := ha _ _ _ _ hA
  subst this
  refine (hc w S hG.tab).mono ?_
  rintro en w' ⟨rfl,hb⟩
  refine ⟨rv,no,ρ,F,rfl,?_,hr _ _ _⟩
  refine ⟨⟨hb.os,hb.tape,hb.output,hb.size,fun k hk _ => hb.block k hk,fun k o hk _ => ?_⟩,no_le _,fun _ _ h => h.elim,by simp,fun i u _ h => h,hG.new,fun i gb hi => by simp at hi,fun i j hi => by simp at hi,fun i hi => by simp at hi,fun i hi => by simp at hi,fun i hi => by simp at hi⟩
  have e := hb.block k hk
  simp [World.cell?,World.frozen?,mapAt,e]
theorem byte_lt (b : UInt8) : ((b.toNat : Nat) : Int) < 256 := by have := b.toNat_lt; omega
section
variable {g : Gh} {st : St} {dst : Option Tmp} {ty : TypeId} {pos : String} {after : Array Edge} {guard : Option (Nat × Bool)} {i : Nat}
end
end Go.Proofs.YtbblkhjjgnpbaaaGreatDoor
end
section
set_option linter.unusedVariables false
set_option linter.unusedSimpArgs false
set_option maxRecDepth 100000
set_option maxHeartbeats 4000000
namespace Go.Proofs.YtbblkhjjgnpbaaaGreatDoor
open Go Foot Go.Shelf Go.RowKit
theorem WriteString_ok (l s : Bs) (h : (l.length : Int) + s.length ≤ 140737488355328) : Does Tryz.prog 123 [.one (.gv 0),.one (str s)] [bldr l] (.tup [(false,[int s.length]),(false,[nlC])]) [bldr (l ++ s)] :=
  does_bld (av := [sv s]) (rv := .tuple #[.int .i64 s.length,.nilIface]) (fun w S ρ vs => repA_1) (fun w S ρ => ⟨_,rfl,_,_,rfl,⟨_,_,rfl,⟨rfl,rfl⟩,rfl⟩,_,_,rfl,⟨_,_,rfl,⟨rfl,rfl⟩,rfl⟩,rfl⟩) fun w b p v hB => by
    have := bs_WriteString hB ⟨s.toArray⟩ (by rw [Lib.byteCells_length,sz_str]; omega)
    rw [cells_str,sz_str] at this
    exact this
theorem String_ok (l : Bs) : Does Tryz.prog 125 [.one (.gv 0)] [bldr l] (.one (str l)) [bldr l] :=
  does_bld (av := []) (rv := sv l) (fun w S ρ vs h => h) (fun w S ρ => ⟨rfl,rfl⟩) fun w b p v hB => bl_String Tryz.lays169 Tryz.Builder_Extra_169 hB
theorem FormatInt_ok (n : Int) (h0 : -9223372036854775808 ≤ n) (h1 : n ≤ 9223372036854775807) : Does Tryz.prog 192 [.one (int n),.one (int 10)] [] (.one (str (Lib.itoa n))) [] :=
  does_ext (av := [.int .i64 n,.int .i64 10]) (rv := sv (Lib.itoa n)) (fun w S ρ vs => repA_2) (fun w S ρ => ⟨rfl,rfl⟩) fun w S hT => by
    obtain ⟨⟨cs,T,fr,ht,hcs⟩,_⟩ := hT _ List.mem_cons_self
    dsimp only at hcs
    subst hcs
    refine (Any.strconv_FormatInt_10 Tryz.laysM173 n h0 h1 w ?_).mono ?_
    · dsimp only at ht
      exact Option.bind_eq_some_iff.2 ⟨_,by kernel_rfl,by rw [ht]; simp [Lib.pow10Tab]⟩
    · rintro en w' ⟨rfl,k,os,rfl⟩
      exact ⟨rfl,Lib.below_grow _ w (Nat.le_refl _) k os⟩
theorem reps_S {w : World} {S F : Foot} : ∀ {l : List Bs} {us : List Value},Reps w S (rows eS l) us F → us = l.map fun b => sv b
  | [],us,h => by simpa [rows,Reps] using h
  | n :: l,us,h => by
    have e : rows eS (n :: l) = .sc (sv n) :: rows eS l := rfl
    rw [e] at h
    simp only [Reps] at h
    obtain ⟨v,us',F1,F2,rfl,_,_,_,h1,h2⟩ := h
    simp only [Rep] at h1
    rw [h1.1,reps_S h2,List.map_cons]
@[irreducible] def joinT (l : List Bs) (sep : Bs) : Bs := Lib.join l sep
theorem Join_ok (l : List Bs) (sep : Bs) (hl : (l.length : Int) ≤ 1048576) (hj : ((joinT l sep).length : Int) ≤ 140737488355328) : Does Tryz.prog 177 [.one (shS l),.one (str sep)] [] (.one (str (joinT l sep))) [] := by
  intro vs w S ρ F hA hG
  simp only [RepA,RepS,RepC] at hA
  obtain ⟨v0,_,rfl,h0,v1,_,rfl,h1,rfl⟩ := hA
  simp only [Rep] at h1
  obtain ⟨rfl,_⟩ := h1
  simp only [Rep] at h0
  obtain ⟨a,len,cap,rfl,hlen,_,hcap,hc⟩ := h0
  rw [rows_len] at hlen
  have hlen' : l.length = len := by simpa using hlen
  have key : Calls Tryz.prog 177 #[.slice a len cap,sv sep] w fun e w' => e = .returned (sv (joinT l sep)) ∧ Below w.heap.size w w' := by
    rcases hc with ⟨rfl,_⟩ | ⟨b,off,us,G,rfl,hli,hr,ho⟩
    · have h0 : len = 0 := by omega
      have hl0 : l = [] := List.eq_nil_of_length_eq_zero (by omega)
      subst h0 hl0
      refine (Any.strings_Join_none Tryz.lays156 Tryz.Builder_Extra_156 a 0 ⟨sep.toArray⟩ w).mono ?_
      rintro e w' ⟨rfl,rfl⟩
      exact ⟨by unfold joinT; rfl,Below.refl _ _⟩
    · have hus := reps_S hr
      subst hus
      have hjj : joinT l sep = Lib.join ((l.map fun b => (⟨b.toArray⟩ : ByteArray)).map (·.data.toList)) (⟨sep.toArray⟩ : ByteArray).data.toList := by
        unfold joinT
        rw [List.map_map]
        congr 1
        exact (List.map_id l).symm
      have hbk : b < w.heap.size ∨ l = [] := by
        cases l with
        | nil => exact .inr rfl
        | cons x l =>
          have := hli 0 (sv x) rfl
          refine .inl ?_
          unfold World.cell? at this
          rcases Nat.lt_or_ge b w.heap.size with h | h
          · exact h
          · simp [Array.getElem?_eq_none h] at this
      rcases hbk with hbk | hl0
      · have hx := Any.strings_Join Tryz.lays156 Tryz.Builder_Extra_156 b off cap (l.map fun b => (⟨b.toArray⟩ : ByteArray)) ⟨sep.toArray⟩ w (fun j x hj => by
          rw [List.getElem?_map] at hj
          cases hg : l[j]? with
          | none => rw [hg] at hj; cases hj
          | some y =>
            rw [hg] at hj
            cases hj
            exact hli j (sv y) (by rw [List.getElem?_map,hg]; rfl)) hbk (by rw [List.length_map]; omega) (by rw [List.length_map]; omega) (by rw [← hjj]; omega)
        rw [List.length_map,hlen',← hjj] at hx
        exact hx
      · subst hl0
        simp at hlen'
        subst hlen'
        refine (Any.strings_Join_none Tryz.lays156 Tryz.Builder_Extra_156 (some ⟨b,off,none⟩) cap ⟨sep.toArray⟩ w).mono ?_
        rintro e w' ⟨rfl,rfl⟩
        exact ⟨by unfold joinT; rfl,Below.refl _ _⟩
  refine key.mono ?_
  rintro en w' ⟨rfl,hb⟩
  refine ⟨_,no,ρ,F,rfl,?_,⟨rfl,rfl⟩⟩
  refine ⟨⟨hb.os,hb.tape,hb.output,hb.size,fun k hk _ => hb.block k hk,fun k o hk _ => ?_⟩,no_le _,fun _ _ h => h.elim,by simp,fun i u _ h => h,hG.new,fun i gb hi => by simp at hi,fun i j hi => by simp at hi,fun i hi => by simp at hi,fun i hi => by simp at hi,fun i hi => by simp at hi⟩
  have e := hb.block k hk
  simp [World.cell?,World.frozen?,mapAt,e]
end Go.Proofs.YtbblkhjjgnpbaaaGreatDoor
end
section
set_option linter.unusedVariables false
set_option linter.unusedSimpArgs false
set_option maxRecDepth 100000
set_option maxHeartbeats 4000000
namespace Go.Proofs.YtbblkhjjgnpbaaaGreatDoor
open Go Foot
def drev (u : Nat) : List Int := if h : u = 0 then [] else (48 + (u % 10 : Nat) : Int) :: drev (u / 10)
termination_by u
decreasing_by omega
theorem drev_0 : drev 0 = [] := by rw [drev]; simp
theorem drev_s {u : Nat} (h : u ≠ 0) : drev u = (48 + (u % 10 : Nat) : Int) :: drev (u / 10) := by rw [drev]; simp [h]
theorem drev_le : ∀ (k u : Nat),u < 10 ^ k → (drev u).length ≤ k := by
  intro k
  induction k with
  | zero =>
    intro u h
    have : u = 0 := by simpa using h
    subst this
    simp [drev_0]
  | succ k ih =>
    intro u h
    by_cases h0 : u = 0
    · subst h0; simp [drev_0]
    · rw [drev_s h0,List.length_cons]
      have := ih (u / 10) (by rw [Nat.pow_succ] at h; omega)
      omega
theorem byt_app (a b : List Int) : byt (a ++ b) = byt a ++ byt b := by unfold byt; simp
theorem byt_len (a : List Int) : (byt a).length = a.length := by unfold byt; simp
theorem byt_1 (n : Int) : byt [n] = [UInt8.ofNat n.toNat] := by unfold byt; rfl
theorem byt_0 : byt [] = [] := by unfold byt; rfl
theorem drev_dec : ∀ (u : Nat),u ≠ 0 → byt (drev u).reverse = Lib.decDigits u := by
  intro u
  induction u using Nat.strongRecOn with
  | _ u ih =>
    intro h0
    rw [drev_s h0,List.reverse_cons,byt_app,byt_1,Lib.decDigits]
    by_cases h : u < 10
    · rw [dif_pos h,show u / 10 = 0 by omega,drev_0]
      simp only [List.reverse_nil,byt_0,List.nil_append]
      congr 2
      omega
    · rw [dif_neg h,ih (u / 10) (by omega) (by omega)]
      rfl
@[irreducible] def decT (n : Int) : Bs := Lib.itoa n
theorem decT_0 : decT 0 = [48] := by unfold decT Lib.itoa; simp [Lib.decDigits]
theorem decT_n {n : Int} (h : n ≠ 0) : decT n = byt ((drev n.natAbs ++ (if n < 0 then [45] else [])).reverse) := by
  unfold decT Lib.itoa
  split
  · rw [List.reverse_append,byt_app,drev_dec _ (by omega)]; simp [byt_1]
  · rw [List.append_nil,drev_dec _ (by omega),show n.natAbs = n.toNat by omega]
theorem decT_le {n : Int} (h0 : -9223372036854775808 ≤ n) (h1 : n ≤ 9223372036854775807) : (decT n).length ≤ 21 := by
  by_cases h : n = 0
  · subst h; rw [decT_0]; decide
  · rw [decT_n h,byt_len,List.length_reverse,List.length_append]
    have h2 := drev_le 20 n.natAbs (by omega)
    split <;> simp only [List.length_cons,List.length_nil] <;> omega
theorem preB49 {p : Prop} (h : p := by first | with_reducible assumption | omega | (simp only [List.length_append,List.length_cons,List.length_nil,List.length_set,List.length_replicate,List.length_take,List.length_drop,List.length_tail,List.length_dropLast,List.length_reverse] at *; omega) | exact mem_len (by assumption) (by omega) | (with_reducible refine Int.le_trans (Int.ofNat_le.2 (trimR_len _)) ?_; simp only [List.length_cons,List.length_tail]; omega) | (exact (ruAt_ok (by assumption) (by assumption) (by assumption)).2.1) | (exact (ruAt_ok (by assumption) (by assumption) (by assumption)).2.1) | (have := vMach_bd (by assumption); omega) | (simp only [mC_ch,mC_tu]; omega) | (have := vTag_bd (by assumption); omega) | (have := (‹Gd _ _›).le; omega) | (exact tgHalts_no (by assumption)) | (exact tgHead (by assumption) (by assumption) (by assumption)) | (exact Int.le_trans (tgStep_gd (by assumption) (by assumption) (by assumption) (by assumption)).le (by decide)) | (exact vTag_r (by assumption)) | (with_reducible refine Int.le_trans (Int.ofNat_le.2 (pushL_len _ _)) ?_; simp only [List.length_dropLast]; omega) | exact (ask_ok (by assumption)).1 | exact (ask_ok (by assumption)).2.1 | exact (ask_ok (by assumption)).2.2.1 | exact (ask_ok (by assumption)).2.2.2 | trivial) : p := h
theorem Decimal_ok (n : Int) (h0 : -9223372036854775808 ≤ n) (h1 : n ≤ 9223372036854775807) : Does Tryz.prog 87 [.one (int n)] [] (.one (str (decT n))) [] := by
  have e : decT n = Lib.itoa n := by unfold decT; rfl
  rw [e]
  refine does_of (k := 0) Tryz.func87 rfl Tryz.ntmps87 rfl rfl fun w F0 S0 ρ0 => ?_
  dsimp only [argT,argH]
  repeat' first|(apply p3;exact pu1;exact rfl)|refine cd ?_|(apply c4 0;exact callK1 (θ := []) (hD := (FormatInt_ok _ preB49 preB49));exact rfl;exact rfl;exact rfl;refine dM ?_)
  repeat refine cr ?_
  refine ends_id ?_
  refine endK [] (h2 := ?_) (h3 := ?_) (nd := ?_)
  all_goals (repeat' first|exact ce0|refine ce ?_|refine ce2 ?_ ?_|exact SVLe.refl|refine ceb ?_)
  all_goals first | exact (show nodupB _ = true from rfl) | exact Or.inr rfl | (rfl)
end Go.Proofs.YtbblkhjjgnpbaaaGreatDoor
end
section
set_option linter.unusedVariables false
set_option linter.unusedSimpArgs false
set_option maxRecDepth 100000
set_option maxHeartbeats 4000000
namespace Go.Proofs.YtbblkhjjgnpbaaaGreatDoor
open Go Foot
end Go.Proofs.YtbblkhjjgnpbaaaGreatDoor
end
section
set_option linter.unusedVariables false
set_option linter.unusedSimpArgs false
set_option maxRecDepth 100000
set_option maxHeartbeats 4000000
namespace Go.Proofs.YtbblkhjjgnpbaaaGreatDoor
open Go Foot
structure Rule' where
  w : Int
  m : Int
  n : Int
  deriving DecidableEq
structure Mach where
  sy : Int
  st : Int
  ru : List Rule'
structure Conf where
  st : Int
  le : List Int
  ri : List Int
end Go.Proofs.YtbblkhjjgnpbaaaGreatDoor
end
section
set_option linter.unusedVariables false
set_option linter.unusedSimpArgs false
set_option maxRecDepth 100000
set_option maxHeartbeats 4000000
namespace Go.Proofs.YtbblkhjjgnpbaaaGreatDoor
open Go Foot
section
variable {g : Gh} {st : St} {dst : Option Tmp} {ty : TypeId} {pos : String} {after : Array Edge} {guard : Option (Nat × Bool)} {x y : Operand} {U : TypeId} {r s : Rule'}
end
@[irreducible] def trimR (l : List Int) : List Int := (l.reverse.dropWhile (· == 0)).reverse
theorem trimR_len (l : List Int) : (trimR l).length ≤ l.length := by
  unfold trimR
  rw [List.length_reverse]
  have := (List.dropWhile_sublist (· == (0 : Int)) (l := l.reverse)).length_le
  rwa [List.length_reverse] at this
@[irreducible] def okRule (sy st : Int) (r : Rule') : Bool := decide (r = ⟨0,0,-1⟩ ∨ (0 ≤ r.w ∧ r.w ≤ sy - 1) ∧ (r.m = 1 ∨ r.m = -1) ∧ 0 ≤ r.n ∧ r.n ≤ st - 1)
end Go.Proofs.YtbblkhjjgnpbaaaGreatDoor
end
section
set_option linter.unusedVariables false
set_option linter.unusedSimpArgs false
set_option maxRecDepth 100000
set_option maxHeartbeats 4000000
namespace Go.Proofs.YtbblkhjjgnpbaaaGreatDoor
open Go Foot
@[irreducible] def vMach (m : Mach) : Bool := decide ((2 ≤ m.sy ∧ m.sy ≤ 6) ∧ (1 ≤ m.st ∧ m.st ≤ 1000) ∧ (m.ru.length : Int) = m.sy * m.st) && m.ru.all (okRule m.sy m.st)
theorem vMach_bd {m : Mach} (h : vMach m = true) : (2 ≤ m.sy ∧ m.sy ≤ 6) ∧ (1 ≤ m.st ∧ m.st ≤ 1000) ∧ (m.ru.length : Int) = m.sy * m.st := by
  unfold vMach at h
  simp only [Bool.and_eq_true,decide_eq_true_eq] at h
  exact h.1
@[irreducible] def vSide (sy : Int) (l : List Int) : Bool := l.all (fun x => decide (0 ≤ x ∧ x ≤ sy - 1)) && decide ((l.length : Int) ≤ 200 ∧ l.getLastD 1 ≠ 0)
@[irreducible] def vConf (m : Mach) (c : Conf) : Bool := decide (0 ≤ c.st ∧ c.st ≤ m.st - 1) && vSide m.sy c.le && vSide m.sy c.ri
end Go.Proofs.YtbblkhjjgnpbaaaGreatDoor
end
section
set_option linter.unusedVariables false
set_option linter.unusedSimpArgs false
set_option maxRecDepth 100000
set_option maxHeartbeats 4000000
namespace Go.Proofs.YtbblkhjjgnpbaaaGreatDoor
open Go Foot
@[irreducible] def askC (m : Mach) (c : Conf) (b : Int) : Int := if vMach m = true ∧ vConf m c = true then if 1 ≤ b ∧ b ≤ 20000 then 0 else 2 else 1
end Go.Proofs.YtbblkhjjgnpbaaaGreatDoor
end
section
set_option linter.unusedVariables false
set_option linter.unusedSimpArgs false
set_option maxRecDepth 100000
set_option maxHeartbeats 4000000
namespace Go.Proofs.YtbblkhjjgnpbaaaGreatDoor
open Go Foot
@[irreducible] def pushL (l : List Int) (x : Int) : List Int := if x = 0 ∧ l = [] then l else l ++ [x]
end Go.Proofs.YtbblkhjjgnpbaaaGreatDoor
end
section
set_option linter.unusedVariables false
set_option linter.unusedSimpArgs false
set_option maxRecDepth 100000
set_option maxHeartbeats 4000000
namespace Go.Proofs.YtbblkhjjgnpbaaaGreatDoor
open Go Foot
theorem pushL_len (l : List Int) (x : Int) : (pushL l x).length ≤ l.length + 1 := by unfold pushL; split <;> simp
end Go.Proofs.YtbblkhjjgnpbaaaGreatDoor
end
section
set_option linter.unusedVariables false
set_option linter.unusedSimpArgs false
set_option maxRecDepth 100000
set_option maxHeartbeats 4000000
namespace Go.Proofs.YtbblkhjjgnpbaaaGreatDoor
open Go Foot
theorem vSide_bd {sy : Int} {l : List Int} (h : vSide sy l = true) : (l.length : Int) ≤ 200 ∧ (∀ x ∈ l,0 ≤ x ∧ x ≤ sy - 1) ∧ l.getLastD 1 ≠ 0 := by
  unfold vSide at h
  simp only [Bool.and_eq_true,List.all_eq_true,decide_eq_true_eq] at h
  exact ⟨h.2.1,h.1,h.2.2⟩
theorem vConf_bd {m : Mach} {c : Conf} (h : vConf m c = true) : (0 ≤ c.st ∧ c.st ≤ m.st - 1) ∧ vSide m.sy c.le = true ∧ vSide m.sy c.ri = true := by
  unfold vConf at h
  simp only [Bool.and_eq_true,decide_eq_true_eq] at h
  exact ⟨h.1.1,h.1.2,h.2⟩
abbrev noR : Rule' := ⟨0,0,-1⟩
@[irreducible] def ruAt (m : Mach) (c : Conf) : Rule' := m.ru.getD (c.st * m.sy + c.ri.headD 0).toNat noR
theorem headD_bd {sy : Int} {l : List Int} (hs : 2 ≤ sy) (h : vSide sy l = true) : 0 ≤ l.headD 0 ∧ l.headD 0 ≤ sy - 1 := by
  have := (vSide_bd h).2.1
  cases l with
  | nil => simp; omega
  | cons a l => exact this a (by simp)
theorem at_bd {m : Mach} {c : Conf} (hm : vMach m = true) (hc : vConf m c = true) : 0 ≤ c.st * m.sy ∧ 0 ≤ c.ri.headD 0 ∧ c.ri.headD 0 ≤ 5 ∧ c.st * m.sy + c.ri.headD 0 < m.ru.length ∧ (m.ru.length : Int) ≤ 6000 ∧ c.st ≤ 999 ∧ 0 ≤ c.st ∧ (c.le.length : Int) ≤ 200 ∧ (c.ri.length : Int) ≤ 200 := by
  obtain ⟨⟨h1,h2⟩,⟨h3,h4⟩,h5⟩ := vMach_bd hm
  obtain ⟨⟨h6,h7⟩,h8,h9⟩ := vConf_bd hc
  obtain ⟨h10,h11⟩ := headD_bd h1 h9
  have a1 : c.st * m.sy ≤ (m.st - 1) * m.sy := Int.mul_le_mul_of_nonneg_right h7 (by omega)
  have a2 : (m.st - 1) * m.sy = m.sy * m.st - m.sy := by rw [Int.sub_mul,Int.mul_comm]; omega
  have a3 : m.sy * m.st ≤ 6 * m.st := Int.mul_le_mul_of_nonneg_right h2 (by omega)
  exact ⟨Int.mul_nonneg h6 (by omega),h10,by omega,by omega,by omega,by omega,h6,(vSide_bd h8).1,(vSide_bd h9).1⟩
theorem ruAt_get {m : Mach} {c : Conf} (hm : vMach m = true) (hc : vConf m c = true) : m.ru[(c.st * m.sy + c.ri.headD 0).toNat]? = some (ruAt m c) := by
  have h := at_bd hm hc
  rw [ruAt,List.getD_eq_getElem?_getD,List.getElem?_eq_getElem (by omega)]
  rfl
theorem ruAt_ok {m : Mach} {c : Conf} (hm : vMach m = true) (hc : vConf m c = true) (hn : ruAt m c ≠ noR) : (0 ≤ (ruAt m c).w ∧ (ruAt m c).w ≤ m.sy - 1) ∧ ((ruAt m c).m = 1 ∨ (ruAt m c).m = -1) ∧ 0 ≤ (ruAt m c).n ∧ (ruAt m c).n ≤ m.st - 1 := by
  have hg := ruAt_get hm hc
  have := hm
  unfold vMach at this
  rw [Bool.and_eq_true,List.all_eq_true] at this
  have := this.2 _ (List.mem_of_getElem? hg)
  unfold okRule at this
  rw [decide_eq_true_eq] at this
  exact this.resolve_left hn
end Go.Proofs.YtbblkhjjgnpbaaaGreatDoor
end
section
set_option linter.unusedVariables false
set_option linter.unusedSimpArgs false
set_option maxRecDepth 100000
set_option maxHeartbeats 4000000
namespace Go.Proofs.YtbblkhjjgnpbaaaGreatDoor
open Go Foot
structure Out (σ : Type) where
  x : σ
  n : Int
  c : Conf
  hd : Int
  halts : Bool
  full : Bool
section
variable {σ : Type} {m : Mach} {fc : Conf → Int → σ → σ} {fs : Conf → Int → Rule' → σ → σ} {b n hd : Int} {c : Conf} {x : σ} {O : Out σ}
end
theorem ask_ok {m : Mach} {c : Conf} {b : Int} (h : askC m c b = 0) : vMach m = true ∧ vConf m c = true ∧ 1 ≤ b ∧ b ≤ 20000 := by
  unfold askC at h
  split at h
  · rename_i h1
    split at h
    · rename_i h2; exact ⟨h1.1,h1.2,h2.1,h2.2⟩
    · cases h
  · cases h
end Go.Proofs.YtbblkhjjgnpbaaaGreatDoor
end
section
set_option linter.unusedVariables false
set_option linter.unusedSimpArgs false
set_option maxRecDepth 100000
set_option maxHeartbeats 4000000
namespace Go.Proofs.YtbblkhjjgnpbaaaGreatDoor
open Go Foot
structure Prf where
  k : Int
  nu : List Int
  wo : List (List Int)
end Go.Proofs.YtbblkhjjgnpbaaaGreatDoor
end
section
set_option linter.unusedVariables false
set_option linter.unusedSimpArgs false
set_option maxRecDepth 100000
set_option maxHeartbeats 4000000
namespace Go.Proofs.YtbblkhjjgnpbaaaGreatDoor
open Go Foot
end Go.Proofs.YtbblkhjjgnpbaaaGreatDoor
end
section
set_option linter.unusedVariables false
set_option linter.unusedSimpArgs false
set_option maxRecDepth 100000
set_option maxHeartbeats 4000000
namespace Go.Proofs.YtbblkhjjgnpbaaaGreatDoor
open Go Foot
theorem dec_le {n : Int} (h0 : -1000000000000000000 ≤ n) (h1 : n ≤ 1000000000000000000) : ((decT n).length : Int) ≤ 21 := by have := decT_le (n := n) (by omega) (by omega); omega
end Go.Proofs.YtbblkhjjgnpbaaaGreatDoor
end
section
set_option linter.unusedVariables false
set_option linter.unusedSimpArgs false
set_option maxRecDepth 100000
namespace Go.Proofs.YtbblkhjjgnpbaaaGreatDoor
open Go Foot
section
variable {P : Program} {g : Gh} {dst : Option Tmp} {ty : TypeId} {pos : String} {after : Array Edge} {guard : Option (Nat × Bool)} {st : St} {x y : Operand}
end
end Go.Proofs.YtbblkhjjgnpbaaaGreatDoor
end
section
set_option linter.unusedVariables false
set_option linter.unusedSimpArgs false
set_option maxRecDepth 100000
set_option maxHeartbeats 4000000
namespace Go.Proofs.YtbblkhjjgnpbaaaGreatDoor
open Go Foot
end Go.Proofs.YtbblkhjjgnpbaaaGreatDoor
end
section
set_option linter.unusedVariables false
set_option linter.unusedSimpArgs false
set_option maxRecDepth 100000
set_option maxHeartbeats 4000000
namespace Go.Proofs.YtbblkhjjgnpbaaaGreatDoor
open Go Foot
theorem map_take_s {α β : Type} (f : α → β) {l : List α} {i : Int} (h0 : 0 ≤ i) (h : i < l.length) : (l.take i.toNat).map f ++ [f (l[i.toNat]'(by omega))] = (l.take (i + 1).toNat).map f := by
  rw [show (i + 1).toNat = i.toNat + 1 by omega,List.take_succ_eq_append_getElem (by omega),List.map_append]
  rfl
end Go.Proofs.YtbblkhjjgnpbaaaGreatDoor
end
section
set_option linter.unusedVariables false
set_option linter.unusedSimpArgs false
set_option maxRecDepth 100000
set_option maxHeartbeats 4000000
namespace Go.Proofs.YtbblkhjjgnpbaaaGreatDoor
open Go Foot
theorem preB54 {p : Prop} (h : p := by first | with_reducible assumption | omega | (simp only [List.length_append,List.length_cons,List.length_nil,List.length_set,List.length_replicate,List.length_take,List.length_drop,List.length_tail,List.length_dropLast,List.length_reverse] at *; omega) | exact mem_len (by assumption) (by omega) | (with_reducible refine Int.le_trans (Int.ofNat_le.2 (trimR_len _)) ?_; simp only [List.length_cons,List.length_tail]; omega) | (exact (ruAt_ok (by assumption) (by assumption) (by assumption)).2.1) | (exact (ruAt_ok (by assumption) (by assumption) (by assumption)).2.1) | (have := vMach_bd (by assumption); omega) | (simp only [mC_ch,mC_tu]; omega) | (have := vTag_bd (by assumption); omega) | (have := (‹Gd _ _›).le; omega) | (exact tgHalts_no (by assumption)) | (exact tgHead (by assumption) (by assumption) (by assumption)) | (exact Int.le_trans (tgStep_gd (by assumption) (by assumption) (by assumption) (by assumption)).le (by decide)) | (exact vTag_r (by assumption)) | (with_reducible refine Int.le_trans (Int.ofNat_le.2 (pushL_len _ _)) ?_; simp only [List.length_dropLast]; omega) | exact (ask_ok (by assumption)).1 | exact (ask_ok (by assumption)).2.1 | exact (ask_ok (by assumption)).2.2.1 | exact (ask_ok (by assumption)).2.2.2 | trivial) : p := h
theorem decimals_ok (l : List Int) (s : Bs) (hl : (l.length : Int) ≤ 1048576) (hb : ∀ x ∈ l,-1000000000000 ≤ x ∧ x ≤ 1000000000000) (hj : ((joinT (l.map decT) s).length : Int) ≤ 140737488355328) : Does Tryz.prog 115 [.one (shI l),.one (str s)] [] (.one (str (joinT (l.map decT) s))) [] := by
  have hg : ∀ (i : Nat) (h : i < l.length),-1000000000000 ≤ l[i] ∧ l[i] ≤ 1000000000000 := fun i h => hb _ (List.getElem_mem h)
  refine does_of (k := 0) Tryz.func115 rfl Tryz.ntmps115 rfl rfl fun w F0 S0 ρ0 => ?_
  dsimp only [argT,argH]
  repeat' first|(apply n3;(exact a_litE eS [] rfl rfl rfl rfl rfl rfl rfl rfl);exact rfl;refine dA ?_)|(apply p3;(first|exact pu1|exact puN);exact rfl)|refine cd ?_
  refine g_loop_id ?_
  refine loopK [1,4,5,9,10] [0] (fun y : Int × List Bs => 0 ≤ y.1 ∧ y.1 ≤ l.length ∧ y.2 = (l.take y.1.toNat).map decT) (fun y => [(11,.one (int y.1))]) (fun y => [(0,.row 1 (rows eS y.2))]) (fun y => (l.length - y.1).toNat) ((0 : Int),[]) [0] (hI := ?_) (hr := ?_)
  · exact ⟨by simp,by simp,by simp⟩
  · rintro ⟨i,ts⟩ ⟨j0,j1,j2⟩
    dsimp only [List.cons_append,List.nil_append] at *
    skip
    have jl : (ts.length : Int) ≤ 1048576 := by rw [j2,List.length_map,List.length_take]; omega
    repeat' first|(apply p3;(first|exact pu1|exact puC|exact puI);exact rfl)|refine cdn ?_|refine g_reg (id := 3) ?_|refine g_reg (id := 4) ?_|((refine g_cond rfl (fun hc => ?_) (fun hc => ?_)) <;> (try simp only [dcB] at hc) <;> (try first|contradiction|(exfalso;omega)))
    · have := hg i.toNat (by omega)
      repeat' first|(apply n3;(exact a_litE eS [_] rfl rfl rfl rfl rfl rfl rfl rfl);exact rfl;refine dA ?_)|(apply p3;(first|exact pu1|exact a_add rfl rfl (by omega) (by omega));exact rfl)|refine cd ?_|(apply s3;exact a_appE (fP rfl) rfl rfl rfl rfl nowR (by (simp;omega)) (by decide) (by decide) (by exact rfl);exact rfl;exact rfl)|(apply c4 0;exact callK1 (θ := []) (hD := (Decimal_ok _ preB54 preB54));exact rfl;exact rfl;exact rfl;refine dM ?_)
      refine q_again (i + 1,_) [2] (by exact stk) ?_ ?_
      · dsimp only
        exact ⟨by omega,by omega,by rw [j2,map_take_s decT j0 hc]⟩
      · dsimp only; omega
    · have e : ts = l.map decT := by rw [j2,List.take_of_length_le (by omega)]
      rw [← e] at hj ⊢
      repeat' first|(apply p3;(exact pu1);exact rfl)|refine cd ?_|(apply c4 0;exact callK1 (θ := []) (hD := (Join_ok _ _ preB54 preB54));exact rfl;exact rfl;exact rfl;refine dM ?_)
      repeat refine cr ?_
      refine ends_id ?_
      refine endK [] (h2 := ?_) (h3 := ?_) (nd := ?_)
      all_goals (repeat' first|exact ce0|refine ce ?_|refine ce2 ?_ ?_|exact SVLe.refl|refine ceb ?_)
      all_goals first | exact (show nodupB _ = true from rfl) | exact Or.inr rfl | (rfl)
end Go.Proofs.YtbblkhjjgnpbaaaGreatDoor
end
section
set_option linter.unusedVariables false
set_option linter.unusedSimpArgs false
set_option maxRecDepth 100000
set_option maxHeartbeats 4000000
namespace Go.Proofs.YtbblkhjjgnpbaaaGreatDoor
open Go Foot
theorem join_cons2 (a b : Bs) (l : List Bs) (sep : Bs) : joinT (a :: b :: l) sep = a ++ (sep ++ joinT (b :: l) sep) := by
  unfold joinT
  simp [Lib.join]
theorem join_one (a sep : Bs) : joinT [a] sep = a := by
  unfold joinT
  simp [Lib.join]
theorem join_len {sep : UInt8} {k : Nat} : ∀ {l : List Bs},(∀ p ∈ l,p.length ≤ k) → (joinT l [sep]).length ≤ (k + 1) * l.length
  | [],_ => by unfold joinT; simp [Lib.join]
  | [a],h => by
    have := h a (by simp)
    rw [join_one]; simp only [List.length_cons,List.length_nil]; omega
  | a :: b :: l,h => by
    have h1 := h a (by simp)
    have h2 := join_len (sep := sep) (l := b :: l) fun p hp => h p (by simp at hp ⊢; exact .inr hp)
    rw [join_cons2]
    simp only [List.length_append,List.length_cons,List.length_nil,Nat.mul_add,Nat.mul_one] at h2 ⊢
    omega
end Go.Proofs.YtbblkhjjgnpbaaaGreatDoor
end
section
set_option linter.unusedVariables false
set_option linter.unusedSimpArgs false
set_option maxRecDepth 100000
set_option maxHeartbeats 4000000
namespace Go.Proofs.YtbblkhjjgnpbaaaGreatDoor
open Go Foot Go.RowKit
end Go.Proofs.YtbblkhjjgnpbaaaGreatDoor
end
section
set_option linter.unusedVariables false
set_option linter.unusedSimpArgs false
set_option maxRecDepth 100000
set_option maxHeartbeats 4000000
namespace Go.Proofs.YtbblkhjjgnpbaaaGreatDoor
open Go Foot
structure Verd where
  m : Mach
  p : Prf
structure VeGd (v : Verd) : Prop where
  a : (v.m.ru.length : Int) ≤ 16777216
  b : (v.p.nu.length : Int) ≤ 16777216
  c : (v.p.wo.length : Int) ≤ 16777216
  d : ∀ x ∈ v.p.wo,(x.length : Int) ≤ 16777216
end Go.Proofs.YtbblkhjjgnpbaaaGreatDoor
end
section
set_option linter.unusedVariables false
set_option linter.unusedSimpArgs false
set_option maxRecDepth 100000
set_option maxHeartbeats 4000000
namespace Go.Proofs.YtbblkhjjgnpbaaaGreatDoor
open Go Foot
structure LsGd (l : List Verd) : Prop where
  n : (l.length : Int) ≤ 16777216
  a : ∀ v ∈ l,VeGd v
theorem ls_at {l : List Verd} (g : LsGd l) {i : Nat} (h : i < l.length) : VeGd l[i] := g.a _ (List.getElem_mem h)
end Go.Proofs.YtbblkhjjgnpbaaaGreatDoor
end
section
set_option linter.unusedVariables false
set_option linter.unusedSimpArgs false
set_option maxRecDepth 100000
set_option maxHeartbeats 4000000
namespace Go.Proofs.YtbblkhjjgnpbaaaGreatDoor
open Go Foot
end Go.Proofs.YtbblkhjjgnpbaaaGreatDoor
end
section
set_option linter.unusedVariables false
set_option linter.unusedSimpArgs false
set_option maxRecDepth 100000
set_option maxHeartbeats 4000000
namespace Go.Proofs.YtbblkhjjgnpbaaaGreatDoor
open Go Foot
section
variable {m : Mach} {d n a b : Int} {c : Conf} {O : Option (Conf × Int × Int)}
end
end Go.Proofs.YtbblkhjjgnpbaaaGreatDoor
end
section
set_option linter.unusedVariables false
set_option linter.unusedSimpArgs false
set_option maxRecDepth 100000
set_option maxHeartbeats 4000000
namespace Go.Proofs.YtbblkhjjgnpbaaaGreatDoor
open Go Foot
structure Rec where
  n : Int
  sd : Int
  c : Conf
abbrev eQ : Enc Rec := ⟨5,fun r => [.sc (.int .i64 r.n),.sc (.int .i64 r.sd),.sc (.int .i64 r.c.st),.sl false 1 (rows eI r.c.le),.sl false 1 (rows eI r.c.ri)],fun _ => rfl,by decide⟩
end Go.Proofs.YtbblkhjjgnpbaaaGreatDoor
end
section
set_option linter.unusedVariables false
set_option linter.unusedSimpArgs false
set_option maxRecDepth 100000
set_option maxHeartbeats 4000000
namespace Go.Proofs.YtbblkhjjgnpbaaaGreatDoor
open Go Foot
structure ItOut (X : Type) where
  x : X
  j : Option Code
  c : Conf
section
variable {X : Type} {m : Mach} {bd : X → Conf × Int × Bool → X × Option Code} {b n : Int} {c : Conf} {x : X} {O : ItOut X} {k : Nat}
end
end Go.Proofs.YtbblkhjjgnpbaaaGreatDoor
end
section
set_option linter.unusedVariables false
set_option linter.unusedSimpArgs false
set_option maxRecDepth 100000
set_option maxHeartbeats 4000000
namespace Go.Proofs.YtbblkhjjgnpbaaaGreatDoor
open Go Foot
end Go.Proofs.YtbblkhjjgnpbaaaGreatDoor
end
section
set_option linter.unusedVariables false
set_option linter.unusedSimpArgs false
set_option maxRecDepth 100000
set_option maxHeartbeats 4000000
namespace Go.Proofs.YtbblkhjjgnpbaaaGreatDoor
open Go Foot
end Go.Proofs.YtbblkhjjgnpbaaaGreatDoor
end
section
set_option linter.unusedVariables false
set_option linter.unusedSimpArgs false
set_option maxRecDepth 100000
set_option maxHeartbeats 4000000
namespace Go.Proofs.YtbblkhjjgnpbaaaGreatDoor
open Go Foot
section
variable {m : Mach}
end
end Go.Proofs.YtbblkhjjgnpbaaaGreatDoor
end
section
set_option linter.unusedVariables false
set_option linter.unusedSimpArgs false
set_option maxRecDepth 100000
set_option maxHeartbeats 4000000
namespace Go.Proofs.YtbblkhjjgnpbaaaGreatDoor
open Go Foot
structure Part where
  st : Int
  pl : Int
  ce : List Int
  deriving DecidableEq
abbrev eP : Enc Part := ⟨3,fun x => [.sc (.int .i64 x.st),.sc (.int .i64 x.pl),.sl false 1 (rows eI x.ce)],fun _ => rfl,by decide⟩
structure PtGd (x : Part) : Prop where
  a : 0 ≤ x.pl
  b : x.pl < x.ce.length
  c : (x.ce.length : Int) ≤ 1000
end Go.Proofs.YtbblkhjjgnpbaaaGreatDoor
end
