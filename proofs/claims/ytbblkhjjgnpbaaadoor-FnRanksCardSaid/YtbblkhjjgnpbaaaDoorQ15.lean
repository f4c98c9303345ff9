/- Parts of the proof (15 of 21). -/
import Derived.Lib.AppendIntMem
import Derived.Test.YtbblkhjjgnpbaaaDoorQ14
section
set_option linter.unusedVariables false
set_option linter.unusedSimpArgs false
set_option maxRecDepth 100000
namespace Go.Proofs.YtbblkhjjgnpbaaaDoor
open Go Foot Go.Shelf Go.RowKit
abbrev nlC : C := .d (.sc .nilIface)
abbrev bldr (l : Bs) : GB := .bld 139 5 l
theorem cells_str (l s : Bs) : Lib.byteCells l ++ Lib.strCells ⟨s.toArray⟩ = Lib.byteCells (l ++ s) := by
  unfold Lib.byteCells Lib.strCells
  simp
theorem repA_1 {w : World} {S : Foot} {ρ : Env} {v : Value} {vs : List Value} (h : RepA w S ρ [.one (.d (.sc v))] vs) : vs = [v] := by
  simp only [RepA,RepS,RepC,Rep] at h
  obtain ⟨_,_,rfl,⟨rfl,_⟩,rfl⟩ := h
  rfl
theorem repA_2 {w : World} {S : Foot} {ρ : Env} {v u : Value} {vs : List Value} (h : RepA w S ρ [.one (.d (.sc v)),.one (.d (.sc u))] vs) : vs = [v,u] := by
  simp only [RepA,RepS,RepC,Rep] at h
  obtain ⟨_,_,rfl,⟨rfl,_⟩,_,_,rfl,⟨rfl,_⟩,rfl⟩ := h
  rfl
theorem does_ext {P : Program} {f : Nat} {ags : List SV} {av : List Value} {res : SV} {rv : Value} (ha : ∀ w S ρ vs,RepA w S ρ ags vs → vs = av) (hr : ∀ w S ρ,RepS w S ρ res rv)
    (hc : ∀ (w : World) (S : Foot),Tabs w S → Calls P f av.toArray w fun en w' => en = .returned rv ∧ Below w.heap.size w w') : Does P f ags [] res [] := by
  intro vs w S ρ F hA hG
  have := ha _ _ _ _ hA
  subst this
  refine (hc w S hG.tab).mono ?_
  rintro en w' ⟨rfl,hb⟩
  refine ⟨rv,no,ρ,F,rfl,?_,hr _ _ _⟩
  refine ⟨⟨hb.os,hb.tape,hb.output,hb.size,fun k hk _ => hb.block k hk,fun k o hk _ => ?_⟩,no_le _,fun _ _ h => h.elim,by simp,fun i u _ h => h,hG.new,fun i gb hi => by simp at hi,fun i j hi => by simp at hi,fun i hi => by simp at hi,fun i hi => by simp at hi,fun i hi => by simp at hi⟩
  have e := hb.block k hk
  simp [World.cell?,World.frozen?,mapAt,e]
section
variable {g : Gh} {st : St} {dst : Option Tmp} {ty : TypeId} {pos : String} {after : Array Edge} {guard : Option (Nat × Bool)} {i : Nat}
end
end Go.Proofs.YtbblkhjjgnpbaaaDoor
end
section
set_option linter.unusedVariables false
set_option linter.unusedSimpArgs false
set_option maxRecDepth 100000
set_option maxHeartbeats 4000000
namespace Go.Proofs.YtbblkhjjgnpbaaaDoor
open Go Foot Go.Shelf Go.RowKit
theorem WriteString_ok (l s : Bs) (h : (l.length : Int) + s.length ≤ 140737488355328) : Does Tryd.prog 96 [.one (.gv 0),.one (str s)] [bldr l] (.tup [(false,[int s.length]),(false,[nlC])]) [bldr (l ++ s)] :=
  does_bld (av := [sv s]) (rv := .tuple #[.int .i64 s.length,.nilIface]) (fun w S ρ vs => repA_1) (fun w S ρ => ⟨_,rfl,_,_,rfl,⟨_,_,rfl,⟨rfl,rfl⟩,rfl⟩,_,_,rfl,⟨_,_,rfl,⟨rfl,rfl⟩,rfl⟩,rfl⟩) fun w b p v hB => by
    have := bs_WriteString hB ⟨s.toArray⟩ (by rw [Lib.byteCells_length,sz_str]; omega)
    rw [cells_str,sz_str] at this
    exact this
theorem String_ok (l : Bs) : Does Tryd.prog 97 [.one (.gv 0)] [bldr l] (.one (str l)) [bldr l] :=
  does_bld (av := []) (rv := sv l) (fun w S ρ vs h => h) (fun w S ρ => ⟨rfl,rfl⟩) fun w b p v hB => bl_String Tryd.lays169 Tryd.Builder_Extra_169 hB
theorem FormatInt_ok (n : Int) (h0 : -9223372036854775808 ≤ n) (h1 : n ≤ 9223372036854775807) : Does Tryd.prog 112 [.one (int n),.one (int 10)] [] (.one (str (Lib.itoa n))) [] :=
  does_ext (av := [.int .i64 n,.int .i64 10]) (rv := sv (Lib.itoa n)) (fun w S ρ vs => repA_2) (fun w S ρ => ⟨rfl,rfl⟩) fun w S hT => by
    obtain ⟨⟨cs,T,fr,ht,hcs⟩,_⟩ := hT _ List.mem_cons_self
    dsimp only at hcs
    subst hcs
    refine (Any.strconv_FormatInt_10 Tryd.laysM173 n h0 h1 w ?_).mono ?_
    · dsimp only at ht
      exact Option.bind_eq_some_iff.2 ⟨_,by kernel_rfl,by rw [ht]; simp [Lib.pow10Tab]⟩
    · rintro en w' ⟨rfl,k,os,rfl⟩
      exact ⟨rfl,Lib.below_grow _ w (Nat.le_refl _) k os⟩
theorem reps_S {w : World} {S F : Foot} : ∀ {l : List Bs} {us : List Value},Reps w S (rows eS l) us F → us = l.map fun b => sv b
  | [],us,h => by simpa [rows,Reps] using h
  | n :: l,us,h => by
    have e : rows eS (n :: l) = .sc (sv n) :: rows eS l := rfl
    rw [e] at h
    simp only [Reps] at h
    obtain ⟨v,us',F1,F2,rfl,_,_,_,h1,h2⟩ := h
    simp only [Rep] at h1
    rw [h1.1,reps_S h2,List.map_cons]
@[irreducible] def joinT (l : List Bs) (sep : Bs) : Bs := Lib.join l sep
theorem Join_ok (l : List Bs) (sep : Bs) (hl : (l.length : Int) ≤ 1048576) (hj : ((joinT l sep).length : Int) ≤ 140737488355328) : Does Tryd.prog 58 [.one (shS l),.one (str sep)] [] (.one (str (joinT l sep))) [] := by
  intro vs w S ρ F hA hG
  simp only [RepA,RepS,RepC] at hA
  obtain ⟨v0,_,rfl,h0,v1,_,rfl,h1,rfl⟩ := hA
  simp only [Rep] at h1
  obtain ⟨rfl,_⟩ := h1
  simp only [Rep] at h0
  obtain ⟨a,len,cap,rfl,hlen,_,hcap,hc⟩ := h0
  rw [rows_len] at hlen
  have hlen' : l.length = len := by simpa using hlen
  have key : Calls Tryd.prog 58 #[.slice a len cap,sv sep] w fun e w' => e = .returned (sv (joinT l sep)) ∧ Below w.heap.size w w' := by
    rcases hc with ⟨rfl,_⟩ | ⟨b,off,us,G,rfl,hli,hr,ho⟩
    · have h0 : len = 0 := by omega
      have hl0 : l = [] := List.eq_nil_of_length_eq_zero (by omega)
      subst h0 hl0
      refine (Any.strings_Join_none Tryd.lays156 Tryd.Builder_Extra_156 a 0 ⟨sep.toArray⟩ w).mono ?_
      rintro e w' ⟨rfl,rfl⟩
      exact ⟨by unfold joinT; rfl,Below.refl _ _⟩
    · have hus := reps_S hr
      subst hus
      have hjj : joinT l sep = Lib.join ((l.map fun b => (⟨b.toArray⟩ : ByteArray)).map (·.data.toList)) (⟨sep.toArray⟩ : ByteArray).data.toList := by
        unfold joinT
        rw [List.map_map]
        congr 1
        exact (List.map_id l).symm
      have hbk : b < w.heap.size ∨ l = [] := by
        cases l with
        | nil => exact .inr rfl
        | cons x l =>
          have := hli 0 (sv x) rfl
          refine .inl ?_
          unfold World.cell? at this
          rcases Nat.lt_or_ge b w.heap.size with h | h
          · exact h
          · simp [Array.getElem?_eq_none h] at this
      rcases hbk with hbk | hl0
      · have hx := Any.strings_Join Tryd.lays156 Tryd.Builder_Extra_156 b off cap (l.map fun b => (⟨b.toArray⟩ : ByteArray)) ⟨sep.toArray⟩ w (fun j x hj => by
          rw [List.getElem?_map] at hj
          cases hg : l[j]? with
          | none => rw [hg] at hj; cases hj
          | some y =>
            rw [hg] at hj
            cases hj
            exact hli j (sv y) (by rw [List.getElem?_map,hg]; rfl)) hbk (by rw [List.length_map]; omega) (by rw [List.length_map]; omega) (by rw [← hjj]; omega)
        rw [List.length_map,hlen',← hjj] at hx
        exact hx
      · subst hl0
        simp at hlen'
        subst hlen'
        refine (Any.strings_Join_none Tryd.lays156 Tryd.Builder_Extra_156 (some ⟨b,off,none⟩) cap ⟨sep.toArray⟩ w).mono ?_
        rintro e w' ⟨rfl,rfl⟩
        exact ⟨by unfold joinT; rfl,Below.refl _ _⟩
  refine key.mono ?_
  rintro en w' ⟨rfl,hb⟩
  refine ⟨_,no,ρ,F,rfl,?_,⟨rfl,rfl⟩⟩
  refine ⟨⟨hb.os,hb.tape,hb.output,hb.size,fun k hk _ => hb.block k hk,fun k o hk _ => ?_⟩,no_le _,fun _ _ h => h.elim,by simp,fun i u _ h => h,hG.new,fun i gb hi => by simp at hi,fun i j hi => by simp at hi,fun i hi => by simp at hi,fun i hi => by simp at hi,fun i hi => by simp at hi⟩
  have e := hb.block k hk
  simp [World.cell?,World.frozen?,mapAt,e]
end Go.Proofs.YtbblkhjjgnpbaaaDoor
end
section
set_option linter.unusedVariables false
set_option linter.unusedSimpArgs false
set_option maxRecDepth 100000
set_option maxHeartbeats 4000000
namespace Go.Proofs.YtbblkhjjgnpbaaaDoor
open Go Foot
structure Dfa' where
  st : Int
  nx : List Int
structure DfOk (d : Dfa') (sy : Int) : Prop where
  yb : 2 ≤ sy ∧ sy ≤ 6
  st : 1 ≤ d.st ∧ d.st ≤ 20
  ln : (d.nx.length : Int) = d.st * sy
  bd : ∀ x ∈ d.nx,0 ≤ x ∧ x < d.st
  z : d.nx[0]? = some 0
def vlD (st : Int) : List Int → Int → Int
  | [],r => r
  | x :: l,r => vlD st l (r * st + x)
theorem vlD_snoc (st x : Int) : ∀ (l : List Int) (r : Int),vlD st (l ++ [x]) r = vlD st l r * st + x
  | [],r => rfl
  | y :: l,r => by rw [List.cons_append,vlD,vlD_snoc st x l,vlD]
def rkF (st : Int) : List Int → Int → Option Int
  | [],r => some r
  | x :: l,r => if 1000000000000 < r * st + x then none else rkF st l (r * st + x)
theorem rkF_val {st : Int} : ∀ {l : List Int} {r v : Int},rkF st l r = some v → v = vlD st l r
  | [],r,v,h => by rw [rkF] at h; exact (Option.some.inj h).symm
  | x :: l,r,v,h => by
    rw [rkF] at h
    split at h
    · cases h
    · rw [vlD]; exact rkF_val h
theorem rkF_bd {st : Int} (hs : 1 ≤ st) : ∀ {l : List Int} {r v : Int},(∀ x ∈ l,0 ≤ x ∧ x < st) → 0 ≤ r → r ≤ 1000000000000 → rkF st l r = some v → 0 ≤ v ∧ v ≤ 1000000000000
  | [],r,v,_,h0,h1,h => by rw [rkF] at h; have := Option.some.inj h; omega
  | x :: l,r,v,hb,h0,h1,h => by
    rw [rkF] at h
    split at h
    · cases h
    · have hx := hb x (by simp)
      have : 0 ≤ r * st := Int.mul_nonneg h0 (by omega)
      exact rkF_bd hs (fun y hy => hb y (by simp [hy])) (by omega) (by omega) h
theorem rkF_tail {st : Int} {l : List Int} (h : l[0]? = some 0) : rkF st l 0 = rkF st (l.drop 1) 0 := by
  cases l with
  | nil => simp at h
  | cons x l =>
    simp at h
    subst h
    rw [rkF,if_neg (by omega),List.drop_succ_cons,List.drop_zero]
    congr 1
    omega
theorem vlD_nn {st : Int} (hs : 1 ≤ st) : ∀ {l : List Int} {r : Int},(∀ x ∈ l,0 ≤ x ∧ x < st) → 0 ≤ r → 0 ≤ vlD st l r
  | [],r,_,h => h
  | x :: l,r,hb,h => by
    have hx := hb x (by simp)
    have : 0 ≤ r * st := Int.mul_nonneg h (by omega)
    rw [vlD]
    exact vlD_nn hs (fun y hy => hb y (by simp [hy])) (by omega)
theorem vlD_step {st : Int} {l : List Int} {k : Nat} (hs : 1 ≤ st) (hb : ∀ x ∈ l,0 ≤ x ∧ x < st) (h : k < l.length) : vlD st (l.take (k + 1)) 0 % st = l[k] ∧ vlD st (l.take (k + 1)) 0 / st = vlD st (l.take k) 0 := by
  have hx := hb _ (List.getElem_mem h)
  rw [List.take_succ_eq_append_getElem h,vlD_snoc]
  constructor
  · rw [Int.add_comm,Int.add_mul_emod_self_right]
    exact Int.emod_eq_of_lt hx.1 hx.2
  · rw [Int.add_comm,Int.add_mul_ediv_right _ _ (by omega),Int.ediv_eq_zero_of_lt hx.1 hx.2]
    omega
def adS (l : List Int) (x : Int) : List Int := if x ∈ l then l else l ++ [x]
def inF (d : Dfa') (sy s : Int) : Nat → Int → List Int → List Int → List Int × List Int
  | 0,_,l,o => (l,o)
  | n + 1,c,l,o => inF d sy s n (c + 1) (adS l (d.nx.getD (s * sy + c).toNat 0)) (o ++ [(((adS l (d.nx.getD (s * sy + c).toNat 0)).idxOf (d.nx.getD (s * sy + c).toNat 0) : Nat) : Int)])
def prF (d : Dfa') (sy : Int) : Nat → Nat → List Int → List Int → List Int × List Int
  | 0,_,l,o => (l,o)
  | n + 1,k,l,o => if k < l.length then prF d sy n (k + 1) (inF d sy (l.getD k 0) sy.toNat 0 l o).1 (inF d sy (l.getD k 0) sy.toNat 0 l o).2 else (l,o)
@[irreducible] def prD (d : Dfa') (sy : Int) : Dfa' := ⟨((prF d sy d.st.toNat 0 [0] []).1.length : Nat),(prF d sy d.st.toNat 0 [0] []).2⟩
def rnD (d : Dfa') (sy : Int) : Int → List Int → Int
  | s,[] => s
  | s,c :: w => rnD d sy (d.nx.getD (s * sy + c).toNat 0) w
theorem adS_get {l : List Int} {x : Int} {i : Nat} (h : i < l.length) : (adS l x)[i]? = l[i]? := by
  unfold adS
  split
  · rfl
  · rw [List.getElem?_append_left h]
theorem adS_len {l : List Int} {x : Int} : l.length ≤ (adS l x).length := by
  unfold adS
  split
  · exact Nat.le_refl _
  · simp
theorem adS_mem {l : List Int} {x : Int} : x ∈ adS l x := by
  unfold adS
  split
  · assumption
  · simp
theorem adS_nd {l : List Int} {x : Int} (h : l.Nodup) : (adS l x).Nodup := by
  unfold adS
  split
  · exact h
  · rename_i hx
    rw [List.nodup_append]
    refine ⟨h,by simp,fun a ha b hb => ?_⟩
    rw [List.mem_singleton.1 hb]
    exact fun e => hx (e ▸ ha)
theorem idx_get {l : List Int} {x : Int} (h : x ∈ l) : l[l.idxOf x]? = some x := by
  have hl : l.idxOf x < l.length := List.idxOf_lt_length_of_mem h
  rw [List.getElem?_eq_getElem hl]
  exact congrArg some (List.getElem_idxOf hl)
structure PrOk (d : Dfa') (sy : Int) (l o : List Int) : Prop where
  nd : l.Nodup
  z : l[0]? = some 0
  bd : ∀ x ∈ l,0 ≤ x ∧ x < d.st
  bk : ∀ (j : Nat) (n : Int),o[j]? = some n → ∃ s,l[j / sy.toNat]? = some s ∧ 0 ≤ n ∧ l[n.toNat]? = some (d.nx.getD (s * sy + ((j % sy.toNat : Nat) : Int)).toNat 0)
theorem getD_bd {d : Dfa'} {sy : Int} (g : DfOk d sy) (i : Nat) : 0 ≤ d.nx.getD i 0 ∧ d.nx.getD i 0 < d.st := by
  by_cases h : i < d.nx.length
  · rw [List.getD_eq_getElem?_getD,List.getElem?_eq_getElem h]
    exact g.bd _ (List.getElem_mem h)
  · rw [List.getD_eq_getElem?_getD,List.getElem?_eq_none (by omega)]
    have := g.st
    exact ⟨Int.le_refl _,by show (0 : Int) < d.st; omega⟩
theorem pr_add {d : Dfa'} {sy s : Int} {k c : Nat} {l o : List Int} (g : DfOk d sy) (h : PrOk d sy l o) (hk : l[k]? = some s) (hc : c < sy.toNat) (ho : o.length = k * sy.toNat + c) : PrOk d sy (adS l (d.nx.getD (s * sy + (c : Int)).toNat 0)) (o ++ [(((adS l (d.nx.getD (s * sy + (c : Int)).toNat 0)).idxOf (d.nx.getD (s * sy + (c : Int)).toNat 0) : Nat) : Int)]) := by
  have hkl : k < l.length := by
    by_cases q : k < l.length
    · exact q
    · rw [List.getElem?_eq_none (by omega)] at hk; cases hk
  have h0l : 0 < l.length := by omega
  refine ⟨adS_nd h.nd,by rw [adS_get h0l]; exact h.z,fun x hx => ?_,fun j n hj => ?_⟩
  · unfold adS at hx
    split at hx
    · exact h.bd x hx
    · rcases List.mem_append.1 hx with q | q
      · exact h.bd x q
      · rw [List.mem_singleton.1 q]; exact getD_bd g _
  · by_cases hjo : j < o.length
    · rw [List.getElem?_append_left hjo] at hj
      obtain ⟨s',h1,h2,h3⟩ := h.bk j n hj
      have e1 : j / sy.toNat < l.length := by
        by_cases q : j / sy.toNat < l.length
        · exact q
        · rw [List.getElem?_eq_none (by omega)] at h1; cases h1
      have e2 : n.toNat < l.length := by
        by_cases q : n.toNat < l.length
        · exact q
        · rw [List.getElem?_eq_none (by omega)] at h3; cases h3
      exact ⟨s',by rw [adS_get e1]; exact h1,h2,by rw [adS_get e2]; exact h3⟩
    · rw [List.getElem?_append_right (by omega)] at hj
      have ej : j = o.length := by
        by_cases q : j - o.length = 0
        · omega
        · rw [List.getElem?_eq_none (by simp; omega)] at hj; cases hj
      subst ej
      simp only [Nat.sub_self,List.getElem?_cons_zero,Option.some.injEq] at hj
      subst hj
      have d1 : o.length / sy.toNat = k := by
        rw [ho,Nat.mul_comm,Nat.mul_add_div (by omega),Nat.div_eq_of_lt hc,Nat.add_zero]
      have d2 : o.length % sy.toNat = c := by
        rw [ho,Nat.mul_comm,Nat.mul_add_mod,Nat.mod_eq_of_lt hc]
      refine ⟨s,by rw [d1,adS_get hkl]; exact hk,by omega,?_⟩
      rw [d2,Int.toNat_natCast]
      exact idx_get adS_mem
theorem inF_ok {d : Dfa'} {sy s : Int} {k : Nat} (g : DfOk d sy) : ∀ (n c : Nat) (l o : List Int),PrOk d sy l o → l[k]? = some s → c + n = sy.toNat → o.length = k * sy.toNat + c → PrOk d sy (inF d sy s n c l o).1 (inF d sy s n c l o).2 ∧ l.length ≤ (inF d sy s n c l o).1.length ∧ (inF d sy s n c l o).2.length = k * sy.toNat + sy.toNat
  | 0,c,l,o,h,hk,hc,ho => by rw [inF]; exact ⟨h,Nat.le_refl _,by rw [ho]; show _ = _; omega⟩
  | n + 1,c,l,o,h,hk,hc,ho => by
    have h1 := pr_add g h hk (by omega) ho
    have hkl : k < l.length := by
      by_cases q : k < l.length
      · exact q
      · rw [List.getElem?_eq_none (by omega)] at hk; cases hk
    have h2 := inF_ok g n (c + 1) _ _ h1 (by rw [adS_get hkl]; exact hk) (by omega) (by simp [ho]; omega)
    have h3 := adS_len (l := l) (x := d.nx.getD (s * sy + (c : Int)).toNat 0)
    rw [inF]
    simp only [Int.natCast_add,Int.natCast_one] at h2
    exact ⟨h2.1,by omega,h2.2.2⟩
theorem nd_len : ∀ (n : Nat) (l : List Int),l.Nodup → (∀ x ∈ l,0 ≤ x ∧ x < n) → l.length ≤ n
  | 0,l,_,h => by
    cases l with
    | nil => exact Nat.le_refl _
    | cons x l => have := h x (by simp); omega
  | n + 1,l,hn,h => by
    have h1 := nd_len n (l.erase (n : Int)) (hn.erase _) fun x hx => by
      have h2 := (List.Nodup.mem_erase_iff hn).1 hx
      have h3 := h x h2.2
      have h4 := h2.1
      omega
    have h5 : l.length ≤ (l.erase (n : Int)).length + 1 := by
      by_cases q : (n : Int) ∈ l
      · rw [List.length_erase_of_mem q]; omega
      · rw [List.erase_of_not_mem q]; omega
    omega
theorem pr_len {d : Dfa'} {sy : Int} {l o : List Int} (g : DfOk d sy) (h : PrOk d sy l o) : l.length ≤ d.st.toNat := by
  have := g.st
  exact nd_len _ _ h.nd fun x hx => by have := h.bd x hx; omega
theorem prF_ok {d : Dfa'} {sy : Int} (g : DfOk d sy) : ∀ (n k : Nat) (l o : List Int),PrOk d sy l o → k + n = d.st.toNat → k ≤ l.length → o.length = k * sy.toNat → PrOk d sy (prF d sy n k l o).1 (prF d sy n k l o).2 ∧ (prF d sy n k l o).2.length = (prF d sy n k l o).1.length * sy.toNat
  | 0,k,l,o,h,hk,hkl,ho => by
    have := pr_len g h
    rw [prF]
    exact ⟨h,by rw [ho]; show _ = l.length * _; rw [show k = l.length by omega]⟩
  | n + 1,k,l,o,h,hk,hkl,ho => by
    rw [prF]
    split
    · next hlt =>
      have h1 := inF_ok (k := k) (s := l.getD k 0) g sy.toNat 0 l o h (by rw [List.getD_eq_getElem?_getD,List.getElem?_eq_getElem hlt]; rfl) (by omega) (by omega)
      simp only [Int.natCast_zero] at h1
      exact prF_ok g n (k + 1) _ _ h1.1 (by omega) (by omega) (by rw [h1.2.2,Nat.add_mul,Nat.one_mul])
    · exact ⟨h,by rw [ho]; show _ = l.length * _; rw [show k = l.length by omega]⟩
theorem pr_0 {d : Dfa'} {sy : Int} (g : DfOk d sy) : PrOk d sy [0] [] := by
  have := g.st
  exact ⟨by simp,rfl,fun x hx => by rw [List.mem_singleton.1 hx]; omega,fun j n h => by simp at h⟩
theorem prD_ok {d : Dfa'} {sy : Int} (g : DfOk d sy) : ∃ l,PrOk d sy l (prD d sy).nx ∧ (prD d sy).st = (l.length : Int) ∧ (prD d sy).nx.length = l.length * sy.toNat := by
  have := prF_ok g d.st.toNat 0 [0] [] (pr_0 g) (by omega) (by simp) (by simp)
  unfold prD
  exact ⟨_,this.1,rfl,this.2⟩
theorem pr_run {d : Dfa'} {sy : Int} {l : List Int} (g : DfOk d sy) (h : PrOk d sy l (prD d sy).nx) (hl : (prD d sy).nx.length = l.length * sy.toNat) : ∀ (w : List Int) (s i : Int),(∀ c ∈ w,0 ≤ c ∧ c < sy) → 0 ≤ i → l[i.toNat]? = some s → 0 ≤ rnD (prD d sy) sy i w ∧ l[(rnD (prD d sy) sy i w).toNat]? = some (rnD d sy s w)
  | [],s,i,_,h0,hi => by rw [rnD,rnD]; exact ⟨h0,hi⟩
  | c :: w,s,i,hw,h0,hi => by
    have hc := hw c (by simp)
    have hsy := g.yb
    have hil : i.toNat < l.length := by
      by_cases q : i.toNat < l.length
      · exact q
      · rw [List.getElem?_eq_none (by omega)] at hi; cases hi
    have en : (i * sy + c).toNat = i.toNat * sy.toNat + c.toNat := by
      have e1 : ((i.toNat * sy.toNat : Nat) : Int) = i * sy := by
        rw [Int.natCast_mul,Int.toNat_of_nonneg h0,Int.toNat_of_nonneg (by omega)]
      omega
    have hj : (i * sy + c).toNat < (prD d sy).nx.length := by
      rw [hl,en]
      have : i.toNat * sy.toNat + sy.toNat ≤ l.length * sy.toNat := by
        rw [← Nat.succ_mul]
        exact Nat.mul_le_mul_right _ hil
      omega
    obtain ⟨s',h1,h2,h3⟩ := h.bk (i * sy + c).toNat _ (List.getElem?_eq_getElem hj)
    have d1 : (i * sy + c).toNat / sy.toNat = i.toNat := by
      rw [en,Nat.mul_comm,Nat.mul_add_div (by omega),Nat.div_eq_of_lt (by omega),Nat.add_zero]
    have d2 : (i * sy + c).toNat % sy.toNat = c.toNat := by
      rw [en,Nat.mul_comm,Nat.mul_add_mod,Nat.mod_eq_of_lt (by omega)]
    rw [d1,hi] at h1
    injection h1 with h1
    subst h1
    rw [d2,Int.toNat_of_nonneg hc.1] at h3
    rw [rnD,rnD]
    refine pr_run g h hl w _ _ (fun x hx => hw x (by simp [hx])) ?_ ?_
    · rw [List.getD_eq_getElem?_getD,List.getElem?_eq_getElem hj]; exact h2
    · rw [List.getD_eq_getElem?_getD,List.getElem?_eq_getElem hj]; exact h3
theorem pr_same {d : Dfa'} {sy : Int} (g : DfOk d sy) {v w : List Int} (hv : ∀ c ∈ v,0 ≤ c ∧ c < sy) (hw : ∀ c ∈ w,0 ≤ c ∧ c < sy) : decide (rnD d sy 0 v = rnD d sy 0 w) = decide (rnD (prD d sy) sy 0 v = rnD (prD d sy) sy 0 w) := by
  obtain ⟨l,h,hs,hl⟩ := prD_ok g
  obtain ⟨a1,a2⟩ := pr_run g h hl v 0 0 hv (by omega) h.z
  obtain ⟨b1,b2⟩ := pr_run g h hl w 0 0 hw (by omega) h.z
  rw [decide_eq_decide]
  constructor
  · intro e
    rw [e] at a2
    have hlt : (rnD (prD d sy) sy 0 v).toNat < l.length := by
      by_cases q : (rnD (prD d sy) sy 0 v).toNat < l.length
      · exact q
      · rw [List.getElem?_eq_none (by omega)] at a2; cases a2
    have := (List.getElem?_inj hlt h.nd).1 (a2.trans b2.symm)
    omega
  · intro e
    rw [e] at a2
    exact Option.some.inj (a2.symm.trans b2)
theorem pr_st {d : Dfa'} {sy : Int} (g : DfOk d sy) : (prD d sy).st ≤ d.st ∧ 1 ≤ (prD d sy).st := by
  obtain ⟨l,h,hs,hl⟩ := prD_ok g
  have h1 := pr_len g h
  have h2 := g.st
  have h3 : 0 < l.length := by
    cases l with
    | nil => have := h.z; simp at this
    | cons x l => simp
  omega
theorem pr_val {d : Dfa'} {sy : Int} (g : DfOk d sy) : DfOk (prD d sy) sy := by
  obtain ⟨l,h,hs,hl⟩ := prD_ok g
  have h1 := pr_st g
  have h2 := g.st
  have h3 := g.yb
  have h4 : (((l.length * sy.toNat : Nat)) : Int) = l.length * sy := by
    rw [Int.natCast_mul,Int.toNat_of_nonneg (by omega)]
  refine ⟨g.yb,by omega,by rw [hl,h4,hs],fun x hx => ?_,?_⟩
  · obtain ⟨j,hj,rfl⟩ := List.getElem_of_mem hx
    obtain ⟨s,_,k2,k3⟩ := h.bk j _ (List.getElem?_eq_getElem hj)
    have : ((prD d sy).nx[j]).toNat < l.length := by
      by_cases q : ((prD d sy).nx[j]).toNat < l.length
      · exact q
      · rw [List.getElem?_eq_none (by omega)] at k3; cases k3
    omega
  · have hlp : 0 < l.length := by omega
    have hj : 0 < (prD d sy).nx.length := by
      rw [hl]
      exact Nat.mul_pos hlp (by omega)
    obtain ⟨s,k1,k2,k3⟩ := h.bk 0 _ (List.getElem?_eq_getElem hj)
    rw [Nat.zero_div,h.z] at k1
    injection k1 with k1
    subst k1
    rw [List.getElem?_eq_getElem hj]
    have e0 : d.nx.getD ((0 : Int) * sy + ((0 % sy.toNat : Nat) : Int)).toNat 0 = 0 := by
      rw [Nat.zero_mod]
      simp only [Int.zero_mul,Int.natCast_zero,Int.add_zero,Int.toNat_zero]
      rw [List.getD_eq_getElem?_getD,g.z]; rfl
    rw [e0] at k3
    have hlt : ((prD d sy).nx[0]).toNat < l.length := by
      by_cases q : ((prD d sy).nx[0]).toNat < l.length
      · exact q
      · rw [List.getElem?_eq_none (by omega)] at k3; cases k3
    have := (List.getElem?_inj hlt h.nd).1 (k3.trans h.z.symm)
    congr 1
    omega
end Go.Proofs.YtbblkhjjgnpbaaaDoor
end
section
set_option linter.unusedVariables false
set_option linter.unusedSimpArgs false
set_option maxRecDepth 100000
set_option maxHeartbeats 4000000
namespace Go.Proofs.YtbblkhjjgnpbaaaDoor
open Go Foot
def drev (u : Nat) : List Int := if h : u = 0 then [] else (48 + (u % 10 : Nat) : Int) :: drev (u / 10)
termination_by u
decreasing_by omega
theorem drev_0 : drev 0 = [] := by rw [drev]; simp
theorem drev_s {u : Nat} (h : u ≠ 0) : drev u = (48 + (u % 10 : Nat) : Int) :: drev (u / 10) := by rw [drev]; simp [h]
theorem drev_le : ∀ (k u : Nat),u < 10 ^ k → (drev u).length ≤ k := by
  intro k
  induction k with
  | zero =>
    intro u h
    have : u = 0 := by simpa using h
    subst this
    simp [drev_0]
  | succ k ih =>
    intro u h
    by_cases h0 : u = 0
    · subst h0; simp [drev_0]
    · rw [drev_s h0,List.length_cons]
      have := ih (u / 10) (by rw [Nat.pow_succ] at h; omega)
      omega
theorem byt_app (a b : List Int) : byt (a ++ b) = byt a ++ byt b := by unfold byt; simp
theorem byt_len (a : List Int) : (byt a).length = a.length := by unfold byt; simp
theorem byt_1 (n : Int) : byt [n] = [UInt8.ofNat n.toNat] := by unfold byt; rfl
theorem byt_0 : byt [] = [] := by unfold byt; rfl
theorem drev_dec : ∀ (u : Nat),u ≠ 0 → byt (drev u).reverse = Lib.decDigits u := by
  intro u
  induction u using Nat.strongRecOn with
  | _ u ih =>
    intro h0
    rw [drev_s h0,List.reverse_cons,byt_app,byt_1,Lib.decDigits]
    by_cases h : u < 10
    · rw [dif_pos h,show u / 10 = 0 by omega,drev_0]
      simp only [List.reverse_nil,byt_0,List.nil_append]
      congr 2
      omega
    · rw [dif_neg h,ih (u / 10) (by omega) (by omega)]
      rfl
@[irreducible] def decT (n : Int) : Bs := Lib.itoa n
theorem decT_0 : decT 0 = [48] := by unfold decT Lib.itoa; simp [Lib.decDigits]
theorem decT_n {n : Int} (h : n ≠ 0) : decT n = byt ((drev n.natAbs ++ (if n < 0 then [45] else [])).reverse) := by
  unfold decT Lib.itoa
  split
  · rw [List.reverse_append,byt_app,drev_dec _ (by omega)]; simp [byt_1]
  · rw [List.append_nil,drev_dec _ (by omega),show n.natAbs = n.toNat by omega]
theorem decT_le {n : Int} (h0 : -9223372036854775808 ≤ n) (h1 : n ≤ 9223372036854775807) : (decT n).length ≤ 21 := by
  by_cases h : n = 0
  · subst h; rw [decT_0]; decide
  · rw [decT_n h,byt_len,List.length_reverse,List.length_append]
    have h2 := drev_le 20 n.natAbs (by omega)
    split <;> simp only [List.length_cons,List.length_nil] <;> omega
theorem preB49 {p : Prop} (h : p := by first | with_reducible assumption | omega | (simp only [List.length_append,List.length_cons,List.length_nil,List.length_set,List.length_replicate,List.length_take,List.length_drop,List.length_tail,List.length_dropLast,List.length_reverse] at *; omega) | exact mem_len (by assumption) (by omega) | (with_reducible refine Int.le_trans (Int.ofNat_le.2 (trimR_len _)) ?_; simp only [List.length_cons,List.length_tail]; omega) | (exact (ruAt_ok (by assumption) (by assumption) (by assumption)).2.1) | (exact (ruAt_ok (by assumption) (by assumption) (by assumption)).2.1) | (have := vMach_bd (by assumption); omega) | (simp only [mC_ch,mC_tu]; omega) | (have := vTag_bd (by assumption); omega) | (have := (‹Gd _ _›).le; omega) | (exact tgHalts_no (by assumption)) | (exact tgHead (by assumption) (by assumption) (by assumption)) | (exact Int.le_trans (tgStep_gd (by assumption) (by assumption) (by assumption) (by assumption)).le (by decide)) | (exact vTag_r (by assumption)) | (with_reducible refine Int.le_trans (Int.ofNat_le.2 (pushL_len _ _)) ?_; simp only [List.length_dropLast]; omega) | exact (ask_ok (by assumption)).1 | exact (ask_ok (by assumption)).2.1 | exact (ask_ok (by assumption)).2.2.1 | exact (ask_ok (by assumption)).2.2.2 | trivial) : p := h
theorem Decimal_ok (n : Int) (h0 : -9223372036854775808 ≤ n) (h1 : n ≤ 9223372036854775807) : Does Tryd.prog 94 [.one (int n)] [] (.one (str (decT n))) [] := by
  have e : decT n = Lib.itoa n := by unfold decT; rfl
  rw [e]
  refine does_of (k := 0) Tryd.func94 rfl Tryd.ntmps94 rfl rfl fun w F0 S0 ρ0 => ?_
  dsimp only [argT,argH]
  repeat' first|(apply p3;exact pu1;exact rfl)|refine cd ?_|(apply c4 0;exact callK1 (θ := []) (hD := (FormatInt_ok _ preB49 preB49));exact rfl;exact rfl;exact rfl;refine dM ?_)
  repeat refine cr ?_
  refine ends_id ?_
  refine endK [] (h2 := ?_) (h3 := ?_) (nd := ?_)
  all_goals (repeat' first|exact ce0|refine ce ?_|refine ce2 ?_ ?_|exact SVLe.refl|refine ceb ?_)
  all_goals first | exact (show nodupB _ = true from rfl) | exact Or.inr rfl | (rfl)
end Go.Proofs.YtbblkhjjgnpbaaaDoor
end
section
set_option linter.unusedVariables false
set_option linter.unusedSimpArgs false
set_option maxRecDepth 100000
set_option maxHeartbeats 4000000
namespace Go.Proofs.YtbblkhjjgnpbaaaDoor
open Go Foot
end Go.Proofs.YtbblkhjjgnpbaaaDoor
end
section
set_option linter.unusedVariables false
set_option linter.unusedSimpArgs false
set_option maxRecDepth 100000
set_option maxHeartbeats 4000000
namespace Go.Proofs.YtbblkhjjgnpbaaaDoor
open Go Foot
structure Rule' where
  w : Int
  m : Int
  n : Int
  deriving DecidableEq
structure Mach where
  sy : Int
  st : Int
  ru : List Rule'
structure Conf where
  st : Int
  le : List Int
  ri : List Int
end Go.Proofs.YtbblkhjjgnpbaaaDoor
end
section
set_option linter.unusedVariables false
set_option linter.unusedSimpArgs false
set_option maxRecDepth 100000
set_option maxHeartbeats 4000000
namespace Go.Proofs.YtbblkhjjgnpbaaaDoor
open Go Foot
section
variable {g : Gh} {st : St} {dst : Option Tmp} {ty : TypeId} {pos : String} {after : Array Edge} {guard : Option (Nat × Bool)} {x y : Operand} {U : TypeId} {r s : Rule'}
end
@[irreducible] def trimR (l : List Int) : List Int := (l.reverse.dropWhile (· == 0)).reverse
theorem trimR_len (l : List Int) : (trimR l).length ≤ l.length := by
  unfold trimR
  rw [List.length_reverse]
  have := (List.dropWhile_sublist (· == (0 : Int)) (l := l.reverse)).length_le
  rwa [List.length_reverse] at this
@[irreducible] def okRule (sy st : Int) (r : Rule') : Bool := decide (r = ⟨0,0,-1⟩ ∨ (0 ≤ r.w ∧ r.w ≤ sy - 1) ∧ (r.m = 1 ∨ r.m = -1) ∧ 0 ≤ r.n ∧ r.n ≤ st - 1)
end Go.Proofs.YtbblkhjjgnpbaaaDoor
end
section
set_option linter.unusedVariables false
set_option linter.unusedSimpArgs false
set_option maxRecDepth 100000
set_option maxHeartbeats 4000000
namespace Go.Proofs.YtbblkhjjgnpbaaaDoor
open Go Foot
@[irreducible] def vMach (m : Mach) : Bool := decide ((2 ≤ m.sy ∧ m.sy ≤ 6) ∧ (1 ≤ m.st ∧ m.st ≤ 1000) ∧ (m.ru.length : Int) = m.sy * m.st) && m.ru.all (okRule m.sy m.st)
theorem vMach_bd {m : Mach} (h : vMach m = true) : (2 ≤ m.sy ∧ m.sy ≤ 6) ∧ (1 ≤ m.st ∧ m.st ≤ 1000) ∧ (m.ru.length : Int) = m.sy * m.st := by
  unfold vMach at h
  simp only [Bool.and_eq_true,decide_eq_true_eq] at h
  exact h.1
@[irreducible] def vSide (sy : Int) (l : List Int) : Bool := l.all (fun x => decide (0 ≤ x ∧ x ≤ sy - 1)) && decide ((l.length : Int) ≤ 200 ∧ l.getLastD 1 ≠ 0)
@[irreducible] def vConf (m : Mach) (c : Conf) : Bool := decide (0 ≤ c.st ∧ c.st ≤ m.st - 1) && vSide m.sy c.le && vSide m.sy c.ri
end Go.Proofs.YtbblkhjjgnpbaaaDoor
end
section
set_option linter.unusedVariables false
set_option linter.unusedSimpArgs false
set_option maxRecDepth 100000
set_option maxHeartbeats 4000000
namespace Go.Proofs.YtbblkhjjgnpbaaaDoor
open Go Foot
@[irreducible] def askC (m : Mach) (c : Conf) (b : Int) : Int := if vMach m = true ∧ vConf m c = true then if 1 ≤ b ∧ b ≤ 20000 then 0 else 2 else 1
end Go.Proofs.YtbblkhjjgnpbaaaDoor
end
section
set_option linter.unusedVariables false
set_option linter.unusedSimpArgs false
set_option maxRecDepth 100000
set_option maxHeartbeats 4000000
namespace Go.Proofs.YtbblkhjjgnpbaaaDoor
open Go Foot
@[irreducible] def pushL (l : List Int) (x : Int) : List Int := if x = 0 ∧ l = [] then l else l ++ [x]
end Go.Proofs.YtbblkhjjgnpbaaaDoor
end
section
set_option linter.unusedVariables false
set_option linter.unusedSimpArgs false
set_option maxRecDepth 100000
set_option maxHeartbeats 4000000
namespace Go.Proofs.YtbblkhjjgnpbaaaDoor
open Go Foot
theorem pushL_len (l : List Int) (x : Int) : (pushL l x).length ≤ l.length + 1 := by unfold pushL; split <;> simp
end Go.Proofs.YtbblkhjjgnpbaaaDoor
end
section
set_option linter.unusedVariables false
set_option linter.unusedSimpArgs false
set_option maxRecDepth 100000
set_option maxHeartbeats 4000000
namespace Go.Proofs.YtbblkhjjgnpbaaaDoor
open Go Foot
theorem vSide_bd {sy : Int} {l : List Int} (h : vSide sy l = true) : (l.length : Int) ≤ 200 ∧ (∀ x ∈ l,0 ≤ x ∧ x ≤ sy - 1) ∧ l.getLastD 1 ≠ 0 := by
  unfold vSide at h
  simp only [Bool.and_eq_true,List.all_eq_true,decide_eq_true_eq] at h
  exact ⟨h.2.1,h.1,h.2.2⟩
theorem vConf_bd {m : Mach} {c : Conf} (h : vConf m c = true) : (0 ≤ c.st ∧ c.st ≤ m.st - 1) ∧ vSide m.sy c.le = true ∧ vSide m.sy c.ri = true := by
  unfold vConf at h
  simp only [Bool.and_eq_true,decide_eq_true_eq] at h
  exact ⟨h.1.1,h.1.2,h.2⟩
abbrev noR : Rule' := ⟨0,0,-1⟩
@[irreducible] def ruAt (m : Mach) (c : Conf) : Rule' := m.ru.getD (c.st * m.sy + c.ri.headD 0).toNat noR
theorem headD_bd {sy : Int} {l : List Int} (hs : 2 ≤ sy) (h : vSide sy l = true) : 0 ≤ l.headD 0 ∧ l.headD 0 ≤ sy - 1 := by
  have := (vSide_bd h).2.1
  cases l with
  | nil => simp; omega
  | cons a l => exact this a (by simp)
theorem at_bd {m : Mach} {c : Conf} (hm : vMach m = true) (hc : vConf m c = true) : 0 ≤ c.st * m.sy ∧ 0 ≤ c.ri.headD 0 ∧ c.ri.headD 0 ≤ 5 ∧ c.st * m.sy + c.ri.headD 0 < m.ru.length ∧ (m.ru.length : Int) ≤ 6000 ∧ c.st ≤ 999 ∧ 0 ≤ c.st ∧ (c.le.length : Int) ≤ 200 ∧ (c.ri.length : Int) ≤ 200 := by
  obtain ⟨⟨h1,h2⟩,⟨h3,h4⟩,h5⟩ := vMach_bd hm
  obtain ⟨⟨h6,h7⟩,h8,h9⟩ := vConf_bd hc
  obtain ⟨h10,h11⟩ := headD_bd h1 h9
  have a1 : c.st * m.sy ≤ (m.st - 1) * m.sy := Int.mul_le_mul_of_nonneg_right h7 (by omega)
  have a2 : (m.st - 1) * m.sy = m.sy * m.st - m.sy := by rw [Int.sub_mul,Int.mul_comm]; omega
  have a3 : m.sy * m.st ≤ 6 * m.st := Int.mul_le_mul_of_nonneg_right h2 (by omega)
  exact ⟨Int.mul_nonneg h6 (by omega),h10,by omega,by omega,by omega,by omega,h6,(vSide_bd h8).1,(vSide_bd h9).1⟩
theorem ruAt_get {m : Mach} {c : Conf} (hm : vMach m = true) (hc : vConf m c = true) : m.ru[(c.st * m.sy + c.ri.headD 0).toNat]? = some (ruAt m c) := by
  have h := at_bd hm hc
  rw [ruAt,List.getD_eq_getElem?_getD,List.getElem?_eq_getElem (by omega)]
  rfl
theorem ruAt_ok {m : Mach} {c : Conf} (hm : vMach m = true) (hc : vConf m c = true) (hn : ruAt m c ≠ noR) : (0 ≤ (ruAt m c).w ∧ (ruAt m c).w ≤ m.sy - 1) ∧ ((ruAt m c).m = 1 ∨ (ruAt m c).m = -1) ∧ 0 ≤ (ruAt m c).n ∧ (ruAt m c).n ≤ m.st - 1 := by
  have hg := ruAt_get hm hc
  have := hm
  unfold vMach at this
  rw [Bool.and_eq_true,List.all_eq_true] at this
  have := this.2 _ (List.mem_of_getElem? hg)
  unfold okRule at this
  rw [decide_eq_true_eq] at this
  exact this.resolve_left hn
end Go.Proofs.YtbblkhjjgnpbaaaDoor
end
section
set_option linter.unusedVariables false
set_option linter.unusedSimpArgs false
set_option maxRecDepth 100000
set_option maxHeartbeats 4000000
namespace Go.Proofs.YtbblkhjjgnpbaaaDoor
open Go Foot
structure Out (σ : Type) where
  x : σ
  n : Int
  c : Conf
  hd : Int
  halts : Bool
  full : Bool
section
variable {σ : Type} {m : Mach} {fc : Conf → Int → σ → σ} {fs : Conf → Int → Rule' → σ → σ} {b n hd : Int} {c : Conf} {x : σ} {O : Out σ}
end
theorem ask_ok {m : Mach} {c : Conf} {b : Int} (h : askC m c b = 0) : vMach m = true ∧ vConf m c = true ∧ 1 ≤ b ∧ b ≤ 20000 := by
  unfold askC at h
  split at h
  · rename_i h1
    split at h
    · rename_i h2; exact ⟨h1.1,h1.2,h2.1,h2.2⟩
    · cases h
  · cases h
end Go.Proofs.YtbblkhjjgnpbaaaDoor
end
section
set_option linter.unusedVariables false
set_option linter.unusedSimpArgs false
set_option maxRecDepth 100000
set_option maxHeartbeats 4000000
namespace Go.Proofs.YtbblkhjjgnpbaaaDoor
open Go Foot
structure Prf where
  k : Int
  nu : List Int
  wo : List (List Int)
end Go.Proofs.YtbblkhjjgnpbaaaDoor
end
section
set_option linter.unusedVariables false
set_option linter.unusedSimpArgs false
set_option maxRecDepth 100000
set_option maxHeartbeats 4000000
namespace Go.Proofs.YtbblkhjjgnpbaaaDoor
open Go Foot
end Go.Proofs.YtbblkhjjgnpbaaaDoor
end
section
set_option linter.unusedVariables false
set_option linter.unusedSimpArgs false
set_option maxRecDepth 100000
set_option maxHeartbeats 4000000
namespace Go.Proofs.YtbblkhjjgnpbaaaDoor
open Go Foot
theorem dec_le {n : Int} (h0 : -1000000000000000000 ≤ n) (h1 : n ≤ 1000000000000000000) : ((decT n).length : Int) ≤ 21 := by have := decT_le (n := n) (by omega) (by omega); omega
end Go.Proofs.YtbblkhjjgnpbaaaDoor
end
section
set_option linter.unusedVariables false
set_option linter.unusedSimpArgs false
set_option maxRecDepth 100000
namespace Go.Proofs.YtbblkhjjgnpbaaaDoor
open Go Foot
section
variable {P : Program} {g : Gh} {dst : Option Tmp} {ty : TypeId} {pos : String} {after : Array Edge} {guard : Option (Nat × Bool)} {st : St} {x y : Operand}
theorem run_slice3 {w : World} {T z len cap l u : Nat} {ad : Option Addr} {lo hi mx : Value} (hT : sliceB P T z = true) (hlo : ∃ k,lo = .int k l) (hhi : ∃ k,hi = .int k u) (hmx : ∃ k,mx = .int k u) (h1 : l ≤ u) (h2 : u ≤ len) (h3 : len ≤ cap) :
    (Instr.sliceAt T (.slice ad len cap) (some lo) (some hi) (some mx)).run P w = .ok (.slice (if u = l then ad else ad.map (·.add (l * z))) (u - l) (u - l)) w := by
  unfold sliceB at hT
  split at hT
  · rename_i e hu
    split at hT
    · rename_i i hi'
      have hs := Nat.eq_of_beq_eq_true hT
      subst hs
      have a1 : (u : Int) ≤ cap := by omega
      have a2 : (l : Int) ≤ u := by omega
      have b1 : u ≤ cap := by omega
      obtain ⟨k,rfl⟩ := hlo
      obtain ⟨k',rfl⟩ := hhi
      obtain ⟨k'',rfl⟩ := hmx
      simp [Instr.sliceAt,run_underlying hu,Instr.slice,Instr.sliceBounds,Instr.sliceBound,asIntOf,sizeOf,typeInfo,hi',a1,a2,b1,h1]
    · cases hT
  · cases hT
theorem a_slice_imm3 {T zz l u : Nat} {c : C} {row es : List D} {lo hi mx : Operand} (hc : opd st x = .one c) (hs : shv st c = some (zz,row)) (hlo : bndOk st 0 (some lo) l) (hhi : bndOk st (cnt zz row) (some hi) u) (hmx : bndOk st (cnt zz row) (some mx) u) (hT : sliceB P T zz = true) (h1 : l ≤ u) (h2 : u ≤ cnt zz row) (he : (row.drop (l * zz)).take ((u - l) * zz) = es) :
    Acts P g ⟨dst,.slice T x (some lo) (some hi) (some mx),ty,pos,after,guard⟩ st (.one (.d (.sl false zz es))) [] [] := by
  subst he
  refine acts_of fun a w S ρ F h => ?_
  have hx1 := h.shv (opd_one h hc) hs
  obtain ⟨ad,len,cap,hv,hlr,hz,hlc,hcn⟩ := sl_len hx1
  simp only [RepS,RepC,Rep,Bool.false_eq_true,if_false] at hx1 ⊢
  obtain ⟨ad',len',cap',he,hlr',hz',hlc',h2'⟩ := hx1
  rw [hv] at he
  simp only [Value.slice.injEq] at he
  obtain ⟨e1,e2,e3⟩ := he
  subst e1 e2 e3
  rw [hcn] at hhi hmx h2
  have hm : (u - l) * zz + l * zz = u * zz := by rw [← Nat.add_mul]; congr 1; omega
  have hm2 : u * zz ≤ row.length := by rw [hlr]; exact Nat.mul_le_mul_right _ h2
  have ev : ∀ {d n : Nat} {z : Operand},bndOk st d (some z) n → ∃ k,a.eval z = .int k n := fun {d n z} hb => by
    rcases bnd_eval h hb with ⟨e,_⟩ | ⟨k,e⟩
    · cases e
    · exact ⟨k,by simpa using e⟩
  refine ⟨.slice (if u = l then ad else ad.map (·.add (l * zz))) (u - l) (u - l),?_,⟨_,u - l,u - l,rfl,?_,hz,by omega,?_⟩⟩
  · show (do pure (.value (← Instr.sliceAt T (a.eval x) ((some lo).map a.eval) ((some hi).map a.eval) ((some mx).map a.eval))) : Sem Next).run P w = _
    rw [hv]
    have := run_slice3 (P := P) (w := w) (ad := ad) (cap := cap) hT (ev hlo) (ev hhi) (ev hmx) h1 h2 hlc
    simp only [Option.map_some,Sem.run_bind,this]
    rfl
  · simp only [List.length_take,List.length_drop]; omega
  · rcases h2' with ⟨rfl,_⟩ | ⟨b,of0,vs,G,rfl,hl,hrs,hle,rfl⟩
    · exact .inl ⟨by omega,fun h => by cases h⟩
    · refine .inr ?_
      split
      · rename_i hcl
        have hul : u - l = 0 := by omega
        refine ⟨b,of0,[],no,rfl,fun i v hv => by simp at hv,?_,?_,rfl⟩
        · rw [hul]; simp [Reps]
        · rw [hul]; simp only [Nat.zero_mul,List.take_zero,List.length_nil]; rintro b' o' ⟨_,e1,e2⟩; omega
      · refine ⟨b,of0 + l * zz,(vs.drop (l * zz)).take ((u - l) * zz),no,by simp [addr_add],(hl.drop _).take _,(hrs.drop _).take _,?_,rfl⟩
        rintro b' o' ⟨rfl,e1,e2⟩
        simp only [List.length_take,List.length_drop] at e2
        exact hle _ _ ⟨rfl,by omega,by omega⟩
theorem a_slX {α : Type} {E : Enc α} {l : List α} {lo hi mx : Operand} {T zz : Nat} {c : C} {a b : Int} (hc : opd st x = .one c) (hs : shv st c = some (zz,rows E l)) (hlo : opd st lo = .one (int a)) (hhi : opd st hi = .one (int b)) (hmx : opd st mx = .one (int b)) (hT : sliceB P T zz = true) (h0 : 0 ≤ a) (h1 : a ≤ b) (h2 : b ≤ l.length) (hz : E.z = zz) :
    Acts P g ⟨dst,.slice T x (some lo) (some hi) (some mx),ty,pos,after,guard⟩ st (.one (.d (.sl false zz (rows E ((l.drop a.toNat).take (b.toNat - a.toNat)))))) [] [] := by
  subst hz
  exact a_slice_imm3 hc hs (bnd_i hlo h0) (bnd_i hhi (by omega)) (bnd_i hmx (by omega)) hT (by omega) (by rw [cnt_rows']; omega) (sl_mid E l _ _)
end
end Go.Proofs.YtbblkhjjgnpbaaaDoor
end
section
set_option linter.unusedVariables false
set_option linter.unusedSimpArgs false
set_option maxRecDepth 100000
set_option maxHeartbeats 4000000
namespace Go.Proofs.YtbblkhjjgnpbaaaDoor
open Go Foot
def chs {α : Type} (n : Nat) (l : List α) : List (List α) := if h : l.length = 0 ∨ n = 0 then [] else l.take n :: chs n (l.drop n)
termination_by l.length
decreasing_by rw [List.length_drop]; omega
theorem chs_0 {α : Type} (n : Nat) {l : List α} (h : l.length = 0) : chs n l = [] := by rw [chs]; simp [h]
theorem chs_s {α : Type} {n : Nat} {l : List α} (hn : n ≠ 0) (h : l.length ≠ 0) : chs n l = l.take n :: chs n (l.drop n) := by rw [chs]; simp [h,hn]
end Go.Proofs.YtbblkhjjgnpbaaaDoor
end
section
set_option linter.unusedVariables false
set_option linter.unusedSimpArgs false
set_option maxRecDepth 100000
set_option maxHeartbeats 4000000
namespace Go.Proofs.YtbblkhjjgnpbaaaDoor
open Go Foot
theorem map_take_s {α β : Type} (f : α → β) {l : List α} {i : Int} (h0 : 0 ≤ i) (h : i < l.length) : (l.take i.toNat).map f ++ [f (l[i.toNat]'(by omega))] = (l.take (i + 1).toNat).map f := by
  rw [show (i + 1).toNat = i.toNat + 1 by omega,List.take_succ_eq_append_getElem (by omega),List.map_append]
  rfl
end Go.Proofs.YtbblkhjjgnpbaaaDoor
end
section
set_option linter.unusedVariables false
set_option linter.unusedSimpArgs false
set_option maxRecDepth 100000
set_option maxHeartbeats 4000000
namespace Go.Proofs.YtbblkhjjgnpbaaaDoor
open Go Foot Go.RowKit
abbrev dfC (d : Dfa') : List C := [int d.st,shI d.nx]
abbrev dfB (d : Dfa') : C := .d (.bx false [.sc (.int .i64 d.st),.sl false 1 (rows eI d.nx)])
@[irreducible] def chTI (a : List Int) : Bs := joinT (a.map decT) [44]
@[irreducible] def chXI (n : Int) (ru : List Int) : List Bs := (chs n.toNat ru).map chTI
theorem preB162 {p : Prop} (h : p := by first | with_reducible assumption | omega | (simp only [List.length_append,List.length_cons,List.length_nil,List.length_set,List.length_replicate,List.length_take,List.length_drop,List.length_tail,List.length_dropLast,List.length_reverse] at *; omega) | exact mem_len (by assumption) (by omega) | (with_reducible refine Int.le_trans (Int.ofNat_le.2 (trimR_len _)) ?_; simp only [List.length_cons,List.length_tail]; omega) | (exact (ruAt_ok (by assumption) (by assumption) (by assumption)).2.1) | (exact (ruAt_ok (by assumption) (by assumption) (by assumption)).2.1) | (have := vMach_bd (by assumption); omega) | (simp only [mC_ch,mC_tu]; omega) | (have := vTag_bd (by assumption); omega) | (have := (‹Gd _ _›).le; omega) | (exact tgHalts_no (by assumption)) | (exact tgHead (by assumption) (by assumption) (by assumption)) | (exact Int.le_trans (tgStep_gd (by assumption) (by assumption) (by assumption) (by assumption)).le (by decide)) | (exact vTag_r (by assumption)) | (with_reducible refine Int.le_trans (Int.ofNat_le.2 (pushL_len _ _)) ?_; simp only [List.length_dropLast]; omega) | exact ls_at (by assumption) (by omega) | exact pt_gd (by assumption) | exact lv_at (by assumption) (by omega) | exact pt_gd (lv_at (by assumption) (by omega)) | exact (ask_ok (by assumption)).1 | exact (ask_ok (by assumption)).2.1 | exact (ask_ok (by assumption)).2.2.1 | exact (ask_ok (by assumption)).2.2.2 | trivial) : p := h
theorem chunkI_ok (ru : List Int) (n : Int) (h1 : 1 ≤ n) : Does Tryd.prog 56 [.one (shI ru),.one (int n)] [] (.one (.fn (.func 93) [.gv 0,.gv 1])) [.bx [shI ru],.bx [int n]] := by
  refine does_of (k := 0) Tryd.func56 rfl Tryd.ntmps56 rfl rfl fun w F0 S0 ρ0 => ?_
  dsimp only [argT,argH]
  repeat' first|(apply n3;exact a_new (gb := .bx _) rfl;exact rfl;refine dA ?_)|(apply p3;(first|exact pu1|exact puC);exact rfl)|refine cd ?_|((refine g_cond rfl (fun hc => ?_) (fun hc => ?_)) <;> (try simp only [dcB] at hc) <;> (try first|contradiction|(exfalso;omega)))
  repeat refine cr ?_
  refine ends_id ?_
  refine endK [?_,?_] (h2 := ?_) (h3 := ?_) (nd := ?_)
  rotate_left 2
  all_goals (repeat' first|exact ce0|refine ce ?_|refine ce2 ?_ ?_|(refine Or.inr (bx_eq rfl rfl ?_);(try dsimp only [C.ren,C.ren.all]);(try exact rfl))|exact SVLe.refl|refine ceb ?_)
  all_goals first | exact (show nodupB _ = true from rfl) | exact Or.inr rfl | (rfl)
structure ChPreI (x : List Bs) (a : List Int) : Prop where
  xl : (x.length : Int) ≤ 6000
  al : (a.length : Int) ≤ 6000
  ab : ∀ r ∈ a,0 ≤ r ∧ r ≤ 1000000000000
theorem chXI_0 {n : Int} {ru : List Int} {i : Int} (h : ¬ i < ru.length) : chXI n (ru.drop i.toNat) = [] := by
  unfold chXI
  rw [chs_0 _ (by rw [List.length_drop]; omega)]; rfl
theorem chXI_s {n i : Int} {ru : List Int} (h1 : 1 ≤ n) (h0 : 0 ≤ i) (h : i < ru.length) : chXI n (ru.drop i.toNat) = chTI ((ru.drop i.toNat).take n.toNat) :: chXI n (ru.drop (i + n).toNat) := by
  unfold chXI
  rw [chs_s (by omega) (by rw [List.length_drop]; omega),List.map_cons,List.drop_drop,show i.toNat + n.toNat = (i + n).toNat by omega]
theorem chI_take {n i : Int} {ru : List Int} (h1 : 1 ≤ n) (h0 : 0 ≤ i) (h : i < ru.length) : ∃ z : Int,(if ((ru.drop i.toNat).length : Int) < n then ((ru.drop i.toNat).length : Int) else n) = z ∧ 0 ≤ z ∧ z ≤ n ∧ i + z ≤ ru.length ∧ (ru.drop i.toNat).take ((i + z).toNat - i.toNat) = (ru.drop i.toNat).take n.toNat := by
  have hl : (ru.drop i.toNat).length = ru.length - i.toNat := List.length_drop
  by_cases hn : ((ru.drop i.toNat).length : Int) < n
  · refine ⟨_,if_pos hn,by omega,by omega,by omega,?_⟩
    rw [List.take_of_length_le (by omega),List.take_of_length_le (by omega)]
  · refine ⟨_,if_neg hn,by omega,by omega,by omega,?_⟩
    congr 1; omega
theorem chunkItI_ok (ru : List Int) (n : Int) (l : Nat) (R : List Bs → Option Code → Opq) (h1 : 1 ≤ n) (hn : n ≤ 1000) (hl : (ru.length : Int) ≤ 6000) (hR : ∀ r ∈ ru,(0 ≤ r ∧ r ≤ 1000000000000)) (hY : ∀ x a,ChPreI x a → DoesW (YC Tryd.prog l) [.one (shI a)] [.opq (R x none) []] (.one (boo true)) [.opq (R (x ++ [chTI a]) none) []]) : Does Tryd.prog 93 [.one (.d (.fn (.yield l) [])),.one (.gv 1),.one (.gv 2)] [.opq (R [] none) [],.bx [shI ru],.bx [int n]] (.tup []) [.opq (R (chXI n ru) none) [],.bx [shI ru],.bx [int n]] := by
  refine does_of (k := 3) Tryd.func93 rfl Tryd.ntmps93 rfl rfl fun w F0 S0 ρ0 => ?_
  dsimp only [argT,argH]
  repeat' first|(apply p3;(exact pu1);exact rfl)|refine cd ?_
  refine g_loop_id ?_
  refine loopK [0,1,2] [0] (fun y : List Bs × Int => 0 ≤ y.2 ∧ (y.1.length : Int) ≤ y.2 ∧ (y.1.length : Int) ≤ 6000 ∧ y.1 ++ chXI n (ru.drop y.2.toNat) = chXI n ru) (fun y => [(4,.one (int y.2))]) (fun y => [(0,.opq (R y.1 none) [])]) (fun y => (ru.length - y.2).toNat) ([],(0 : Int)) [0,1,2] (hI := ?_) (hr := ?_)
  · exact ⟨by simp,by simp,by simp,by simp⟩
  · rintro ⟨x,i⟩ ⟨k1,k2,k3,k4⟩
    dsimp only [List.cons_append,List.nil_append] at *
    skip
    repeat' first|(apply p3;(first|exact pu1|exact puN|exact puC);exact rfl)|refine cdn ?_|refine g_reg (id := 1) ?_|(apply g_drN (id := 3) okM [[],[],[],[1,2],[1,2,3],[0,1,2,3,4],[0,1,2,3,4,5]] [([],[]),([],[]),([],[]),([],[]),([],[]),([],[]),([],[])] 0;(focus (refine dp 0 0 [14,15,16,17] [] puL ?_;refine dp 1 0 [13,15] [] puL ?_;refine dp 2 0 [13,14] [] pu1 ?_;refine dp 3 3 [13] [] (by exact a_slT rfl rfl rfl (fS rfl) (by omega) (by omega) (by exact rfl)) ?_;refine dp 4 7 [13] [] (by exact puN) ?_;refine dp 5 31 [] [] (a_min rfl rfl) ?_;refine dp 6 63 [] [] pu1 ?_;(refine d_nil ?_;refine dN ?_)));any_goals kernel_rfl)|((refine g_cond rfl (fun hc => ?_) (fun hc => ?_)) <;> (try simp only [dcB] at hc) <;> (try first|contradiction|(exfalso;omega)))
    · obtain ⟨z,ez,z0,z1,z2,e⟩ := chI_take (n := n) h1 k1 hc
      have hp : ChPreI x ((ru.drop i.toNat).take ((i + z).toNat - i.toNat)) := ⟨k3,by rw [List.length_take,List.length_drop]; omega,fun r hr => hR r (List.mem_of_mem_drop (List.mem_of_mem_take hr))⟩
      rw [ez]
      repeat' first|(apply p3;(first|exact pu1|exact a_add rfl rfl (by omega) (by omega)|exact a_slX rfl rfl rfl rfl rfl (fS rfl) (by omega) bnd bnd (by exact rfl));exact rfl)|refine cd ?_|(apply c4 0;exact callY (θ := [0]) (hD := (hY _ _ (by assumption)));exact rfl;exact rfl;exact rfl;refine dM ?_)
      rw [e]
      refine q_again (x ++ [chTI ((ru.drop i.toNat).take n.toNat)],i + n) [0,1,2] (by exact stk) ?_ ?_
      · dsimp only
        refine ⟨by omega,?_,?_,?_⟩
        · rw [List.length_append,List.length_cons,List.length_nil]; omega
        · rw [List.length_append,List.length_cons,List.length_nil]; omega
        · rw [← k4,chXI_s h1 k1 hc]; simp
      · dsimp only; omega
    · have e : x = chXI n ru := by rw [← k4,chXI_0 hc,List.append_nil]
      rw [← e]
      repeat refine cr ?_
      refine ends_id ?_
      refine endK [] (h2 := ?_) (h3 := ?_) (nd := ?_)
      all_goals (repeat' first|exact ce0|refine ce ?_|refine ce2 ?_ ?_|(refine Or.inr (bx_eq rfl rfl ?_);(try dsimp only [C.ren,C.ren.all]);(try exact rfl))|exact SVLe.refl|refine ceb ?_)
      all_goals first | exact (show nodupB _ = true from rfl) | exact Or.inr rfl | (rfl)
theorem df_ix {d : Dfa'} {sy s c : Int} (g : DfOk d sy) (h0 : 0 ≤ s) (h1 : s < d.st) (h2 : 0 ≤ c) (h3 : c < sy) : 0 ≤ s * sy ∧ s * sy + c < d.nx.length ∧ (d.nx.length : Int) ≤ 120 := by
  have k1 := g.yb
  have k2 := g.st
  have k3 := g.ln
  have e1 : 0 ≤ s * sy := Int.mul_nonneg h0 (by omega)
  have e2 : s * sy ≤ (d.st - 1) * sy := Int.mul_le_mul_of_nonneg_right (by omega) (by omega)
  rw [Int.sub_mul,Int.one_mul] at e2
  have e3 : d.st * sy ≤ 20 * 6 := Int.mul_le_mul (by omega) (by omega) (by omega) (by omega)
  exact ⟨e1,by omega,by omega⟩
theorem df_len {d : Dfa'} {sy : Int} (g : DfOk d sy) : 2 ≤ (d.nx.length : Int) ∧ (d.nx.length : Int) ≤ 120 ∧ (d.nx.length : Int) = d.st * sy := by
  have k1 := g.yb
  have k2 := g.st
  have k3 := g.ln
  have e2 : 1 * sy ≤ d.st * sy := Int.mul_le_mul_of_nonneg_right (by omega) (by omega)
  have e3 : d.st * sy ≤ 20 * 6 := Int.mul_le_mul (by omega) (by omega) (by omega) (by omega)
  omega
theorem symOk_ok (n : Int) : Does Tryd.prog 50 [.one (int n)] [] (.one (boo (inB n 2 6))) [] := by
  refine does_of (k := 0) Tryd.func50 rfl Tryd.ntmps50 rfl rfl fun w F0 S0 ρ0 => ?_
  dsimp only [argT,argH]
  repeat' first|(apply p3;exact pu1;exact rfl)|refine cd ?_|(apply c4 0;exact callK1 (θ := []) (hD := (within_ok _ _ _));exact rfl;exact rfl;exact rfl;refine dM ?_)
  repeat refine cr ?_
  refine ends_id ?_
  refine endK [] (h2 := ?_) (h3 := ?_) (nd := ?_)
  all_goals (repeat' first|exact ce0|refine ce ?_|refine ce2 ?_ ?_|exact SVLe.refl|refine ceb ?_)
  all_goals first | exact (show nodupB _ = true from rfl) | exact Or.inr rfl | (rfl)
theorem ValidDfa_ok (d : Dfa') (sy : Int) (g : DfOk d sy) : Does Tryd.prog 49 [.agg (dfC d),.one (int sy)] [] (.one (boo true)) [] := by
  have g1 := g.yb
  have g2 := g.st
  have g3 := df_len g
  have gi : inAll 0 (d.st - 1) d.nx = true := by
    unfold inAll
    rw [List.all_eq_true]
    intro x hx
    have := g.bd x hx
    rw [decide_eq_true_eq]
    omega
  have hz : (0 : Int).toNat < d.nx.length := by show 0 < d.nx.length; omega
  have gz : d.nx[(0 : Int).toNat]'hz = 0 := by
    have := g.z
    rw [List.getElem?_eq_getElem (by show 0 < d.nx.length; omega)] at this
    exact Option.some.inj this
  have c1 : inB sy 2 6 = true := by unfold inB; rw [decide_eq_true_eq]; omega
  have c2 : inB d.st 1 20 = true := by unfold inB; rw [decide_eq_true_eq]; omega
  refine does_of (k := 0) Tryd.func49 rfl Tryd.ntmps49 rfl rfl fun w F0 S0 ρ0 => ?_
  dsimp only [argT,argH]
  repeat' first|(apply n3;exact a_new (gb := .bx _) rfl;exact rfl;refine dA ?_)|(apply p3;exact a_pure (sv := .one _) rfl;exact rfl)|refine cdn ?_|refine g_reg (id := 0) ?_
  first | refine g_turn (t_frzB (d := 2) (i := 0) rfl rfl rfl) ?_ | refine o_turn (t_frzB (d := 2) (i := 0) rfl rfl rfl) ?_
  repeat' first|refine cd ?_|(apply g_drN (id := 1) okM ([] :: [0] :: [0,1] :: [0,1,2] :: [0,1,2,3] :: [0,1,2,3,4] :: [0,1,2,3,4,5] :: [0,1,2,3,4,5,6] :: [0,1,2,3,4,5,6,7] :: [0,1,2,3,4,5,6,7,8] :: [0,1,2,3,4,5,6,7,8,9] :: [0,1,2,3,4,5,6,7] :: [0,1,2,3,4,5,6,7,11] :: [0,1,2,3,4,5,6,7] :: [0,1,2,3,4,5,6,7,11,12,13] :: [0,1,2,3,4,5,6,7,8,9,10,11,12,13,14] :: [0,1,2,3,4,5,6,7,8,9,10,11,12,13,14,15] :: [0,1,2,3,4,5,6,7,8,9,10,11,12,13,14,15,16] :: [0,1,2,3,4,5,6,7,8,9,10,11,12,13,14,15,16,17] :: [0,1,2,3,4,5,6,7,8,9,10,11,12,13,14,15,16,17,18] :: [0,1,2,3,4,5,6,7,8,9,10,11,12,13,14,15,16,17] :: [0,1,2,3,4,5,6,7,8,9,10,11,12,13,14,15,16,17,20] :: [0,1,2,3,4,5,6,7,8,9,10,11,12,13,14,15,16,17,20,21] :: [0,1,2,3,4,5,6,7,8,9,10,11,12,13,14,15,16,17,18,19,20,21,22] :: [0,1,2,3,4,5,6,7,8,9,10,11,12,13,14,15,16,17,18,19,20,21,22,23] :: [0,1,2,3,4,5,6,7,8,9,10,11,12,13,14,15,16,17,18,19,20,21,22,23,24] :: [0,1,2,3,4,5,6,7,8,9,10,11,12,13,14,15,16,17,18,19,20,21,22,23,24,25] :: [0,1,2,3,4,5,6,7,8,9,10,11,12,13,14,15,16,17,18,19,20,21,22,23,24,25,26] :: [0,1,2,3,4,5,6,7,8,9,10,11,12,13,14,15,16,17,18,19,20,21,22,23,24,25,26,27] :: [0,1,2,3,4,5,6,7,8,9,10,11,12,13,14,15,16,17,18,19,20,21,22,23,24,25,26,27,28] :: [0,1,2,3,4,5,6,7,8,9,10,11,12,13,14,15,16,17,18,19,20,21,22,23,24,25,26,27,28,29] :: (0 :: 1 :: 2 :: 3 :: 4 :: 5 :: 6 :: 7 :: 8 :: 9 :: 10 :: 11 :: 12 :: 13 :: 14 :: 15 :: 16 :: 17 :: 18 :: 19 :: 20 :: 21 :: 22 :: 23 :: 24 :: 25 :: 26 :: 27 :: 28 :: 29 :: 30 :: []) :: (0 :: 1 :: 2 :: 3 :: 4 :: 5 :: 6 :: 7 :: 8 :: 9 :: 10 :: 11 :: 12 :: 13 :: 14 :: 15 :: 16 :: 17 :: 18 :: 19 :: 20 :: 21 :: 22 :: 23 :: 24 :: 25 :: 26 :: 27 :: 28 :: 29 :: 30 :: 31 :: []) :: []) (([],[]) :: ([],[]) :: ([],[]) :: ([],[]) :: ([],[]) :: ([],[]) :: ([],[]) :: ([],[]) :: ([],[]) :: ([],[]) :: ([],[]) :: ([],[]) :: ([],[]) :: ([],[]) :: ([],[]) :: ([],[]) :: ([],[]) :: ([],[]) :: ([],[]) :: ([],[]) :: ([],[]) :: ([],[]) :: ([],[]) :: ([],[]) :: ([],[]) :: ([],[]) :: ([],[]) :: ([],[]) :: ([],[]) :: ([],[]) :: ([],[]) :: ([],[]) :: ([],[]) :: []) 0;(focus (all_goals refine dp 0 0 [] [] pu1 ?_;all_goals refine dp 1 1 [] [] (by exact callD1 (n := _) 0 (θ := []) (hD := (symOk_ok _))) ?_;all_goals (refine db 2 3 [] [] pu1 ?_ ?_ <;> (intro hc;first|cases hc|(try simp only [dcB] at hc);first|contradiction|(exfalso;omega)|skip));all_goals (refine dpy 3 7 [] [] (a_pure (sv := .one _) rfl) ?_);all_goals (refine dpy 4 15 [] [] puL ?_);all_goals (refine dpy 5 31 [] [] (callD1 (n := _) 0 (θ := []) (hD := (within_ok _ _ _))) ?_);all_goals refine dp 6 63 [] [] (a_pure (sv := .one _) rfl) ?_;all_goals (refine db 7 127 [] [] pu1 ?_ ?_ <;> (intro hc;first|cases hc|(try simp only [dcB] at hc);first|contradiction|(exfalso;omega)|skip));all_goals (refine dpy 8 255 [16,17,18,19] [] (a_pure (sv := .one _) rfl) ?_);all_goals (refine dpy 9 511 [16,17,18,19] [] puL ?_);all_goals (refine dpy 10 1023 [16,17,18,19] [] (by first|exact callD1 (n := _) 0 (θ := []) (hD := (sizeI_ok _ preB162))|exact callD1 (n := _) 0 (θ := []) (hD := (sizeL_ok _ preB162))) ?_);all_goals (refine dpy 11 2040 [13,14,15,18] [] (a_pure (sv := .one _) rfl) ?_);all_goals (refine dpy 12 4081 [13,14,15,18] [] puL ?_);all_goals (refine dpy 13 8160 [13,14,15,16,17] [] pu1 ?_);all_goals (refine dpy 14 16327 [13,14,15] [] (by first|exact a_mulB rfl rfl (by omega) (by omega) (by omega) (by omega)|exact a_mul rfl rfl (by first|omega|assumption) (by first|omega|assumption)) ?_);all_goals (refine dpy 15 32767 [] [] (by first|exact puC|exact a_eqS rfl rfl rfl) ?_);all_goals refine dp 16 65535 [] [] (a_pure (sv := .one _) rfl) ?_;all_goals (refine db 17 131071 [] [] pu1 ?_ ?_ <;> (intro hc;first|cases hc|(try simp only [dcB] at hc);first|contradiction|(exfalso;omega)|skip));all_goals (refine dpy 18 262143 [25,26,27] [] (a_pure (sv := .one _) rfl) ?_);all_goals (refine dpy 19 524287 [25,26,27] [] puL ?_);all_goals (refine dpy 20 1048572 [23,24] [] (a_pure (sv := .one _) rfl) ?_);all_goals (refine dpy 21 2097145 [23,24] [] puL ?_);all_goals (refine dpy 22 4194291 [23,24] [] (a_sub rfl rfl (by omega) (by omega)) ?_);all_goals (refine dpy 23 8388607 [] [] (callD1 (n := _) 0 (θ := []) (hD := (allWithin_ok _ _ _ preB162))) ?_);all_goals refine dp 24 16777215 [] [] (a_pure (sv := .one _) rfl) ?_;all_goals (refine db 25 33554431 [] [] pu1 ?_ ?_ <;> (intro hc;first|cases hc|(try simp only [dcB] at hc);first|contradiction|(exfalso;omega)|skip));all_goals (first|refine dn 26 67108863 [] [] ?_|refine dpy 26 67108863 [] [] (a_pure (sv := .one _) rfl) ?_);all_goals (first|refine dn 27 134217727 [] [] ?_|refine dpy 27 134217727 [] [] puL ?_);all_goals (first|refine dn 28 268435455 [] [] ?_|refine dpy 28 268435455 [] [] puI ?_);all_goals (first|refine dn 29 536870911 [] [] ?_|refine dpy 29 536870911 [] [] puL ?_);all_goals (first|refine dn 30 1073741823 [] [] ?_|refine dpy 30 1073741823 [] [] (by first|exact puC|exact a_eqS rfl rfl rfl) ?_);all_goals refine dp 31 2147483647 [] [] (a_pure (sv := .one _) rfl) ?_;all_goals refine dp 32 4294967295 [] [] pu1 ?_;all_goals (refine d_nil ?_;refine dN ?_)));any_goals kernel_rfl)
  all_goals first | (exfalso; omega) | (exfalso; simp_all; done) | skip
  repeat refine cr ?_
  refine ends_id ?_
  refine endK [] (h2 := ?_) (h3 := ?_) (nd := ?_)
  all_goals (repeat' first|exact ce0|refine ce ?_|refine ce2 ?_ ?_|exact SVLe.refl|refine ceb ?_)
  all_goals first | exact (show nodupB _ = true from rfl) | exact Or.inr rfl | ((first | (rw [gz]; rfl) | (simp [gz]; done) | rfl))
theorem toDfa_ok (d : Dfa') (s c sy : Int) (g : DfOk d sy) (h0 : 0 ≤ s) (h1 : s < d.st) (h2 : 0 ≤ c) (h3 : c < sy) : Does Tryd.prog 60 [.agg (dfC d),.one (int s),.one (int c),.one (int sy)] [] (.one (int (d.nx.getD (s * sy + c).toNat 0))) [] := by
  obtain ⟨k1,k2,k3⟩ := df_ix g h0 h1 h2 h3
  have k4 := g.yb
  have k5 := g.st
  have hi : (s * sy + c).toNat < d.nx.length := by omega
  have e : d.nx.getD (s * sy + c).toNat 0 = d.nx[(s * sy + c).toNat]'hi := by rw [List.getD_eq_getElem?_getD,List.getElem?_eq_getElem hi]; rfl
  rw [e]
  refine does_of (k := 0) Tryd.func60 rfl Tryd.ntmps60 rfl rfl fun w F0 S0 ρ0 => ?_
  dsimp only [argT,argH]
  repeat' first|(apply n3;exact a_new (gb := .bx _) rfl;exact rfl;refine dA ?_)|(apply p3;(first|exact pu1|exact a_mulB rfl rfl (by omega) (by omega) (by omega) (by omega)|exact a_add rfl rfl (by omega) (by omega)|exact puI);exact rfl)|refine cd ?_
  repeat refine cr ?_
  refine ends_id ?_
  refine endK [] (h2 := ?_) (h3 := ?_) (nd := ?_)
  all_goals (repeat' first|exact ce0|refine ce ?_|refine ce2 ?_ ?_|exact SVLe.refl|refine ceb ?_)
  all_goals first | exact (show nodupB _ = true from rfl) | exact Or.inr rfl | (rfl)
theorem runDfa_ok (d : Dfa') (sy : Int) (u : List Int) (g : DfOk d sy) (hw : (u.length : Int) ≤ 1000) (hb : ∀ x ∈ u,0 ≤ x ∧ x < sy) : Does Tryd.prog 63 [.agg (dfC d),.one (int sy),.one (shI u)] [] (.one (int (rnD d sy 0 u))) [] := by
  have k5 := g.st
  refine does_of (k := 0) Tryd.func63 rfl Tryd.ntmps63 rfl rfl fun w F0 S0 ρ0 => ?_
  dsimp only [argT,argH]
  repeat' first|(apply n3;exact a_new (gb := .bx _) rfl;exact rfl;refine dA ?_)|(apply p3;(first|exact pu1|exact puN);exact rfl)|refine cd ?_
  refine g_loop_id ?_
  refine loopK [1,3,6,10,11] [] (fun y : Int × Int => 0 ≤ y.1 ∧ y.1 ≤ u.length ∧ 0 ≤ y.2 ∧ y.2 < d.st ∧ rnD d sy y.2 (u.drop y.1.toNat) = rnD d sy 0 u) (fun y => [(12,.one (int y.1)),(7,.one (int y.2))]) (fun _ => []) (fun y => (u.length - y.1).toNat) ((0 : Int),(0 : Int)) [0] (hI := ?_) (hr := ?_)
  · exact ⟨by simp,by simp,by simp,by dsimp only; omega,by simp⟩
  · rintro ⟨i,s⟩ ⟨j0,j1,j2,j3,j4⟩
    dsimp only [List.cons_append,List.nil_append] at *
    skip
    repeat' first|(apply p3;(first|exact pu1|exact puC|exact puI);exact rfl)|refine cdn ?_|refine g_reg (id := 3) ?_|refine g_reg (id := 4) ?_|refine g_reg (id := 7) ?_|((refine g_cond rfl (fun hc => ?_) (fun hc => ?_)) <;> (try simp only [dcB] at hc) <;> (try first|contradiction|(exfalso;omega)))
    · have hi : i.toNat < u.length := by omega
      have hx := hb _ (List.getElem_mem hi)
      have hd := getD_bd g (s * sy + u[i.toNat]'hi).toNat
      repeat' first|(apply p3;(first|exact pu1|exact a_add rfl rfl (by omega) (by omega));exact rfl)|refine cd ?_|(apply c4 0;exact callK1 (θ := []) (hD := (toDfa_ok d s (u[i.toNat]'hi) sy g j2 j3 hx.1 hx.2));exact rfl;exact rfl;exact rfl;refine dM ?_)
      refine q_again (i + 1,d.nx.getD (s * sy + u[i.toNat]'hi).toNat 0) [0] (by exact stk) ?_ ?_
      · refine ⟨by dsimp only; omega,by dsimp only; omega,hd.1,hd.2,?_⟩
        show rnD d sy (d.nx.getD (s * sy + u[i.toNat]'hi).toNat 0) (u.drop (i + 1).toNat) = _
        rw [← j4,List.drop_eq_getElem_cons hi,rnD,show (i + 1).toNat = i.toNat + 1 by omega]
      · dsimp only; omega
    · rw [List.drop_of_length_le (by omega),rnD] at j4
      rw [← j4]
      repeat refine cr ?_
      refine ends_id ?_
      refine endK [] (h2 := ?_) (h3 := ?_) (nd := ?_)
      all_goals (repeat' first|exact ce0|refine ce ?_|refine ce2 ?_ ?_|exact SVLe.refl|refine ceb ?_)
      all_goals first | exact (show nodupB _ = true from rfl) | exact Or.inr rfl | (rfl)
theorem RunDfa_ok (d : Dfa') (sy : Int) (u : List Int) (g : DfOk d sy) (hw : (u.length : Int) ≤ 400) (hb : ∀ x ∈ u,0 ≤ x ∧ x < sy) : Does Tryd.prog 28 [.agg (dfC d),.one (int sy),.one (shI u)] [] (.tup [(false,[int (rnD d sy 0 u)]),(false,[int 0])]) [] := by
  have k4 := g.yb
  have hi : inAll 0 (sy - 1) u = true := by
    unfold inAll
    rw [List.all_eq_true]
    intro x hx
    have := hb x hx
    rw [decide_eq_true_eq]
    omega
  have kw : ¬ inAll 0 (sy - 1) u = false := by simp [hi]
  refine does_of (k := 0) Tryd.func28 rfl Tryd.ntmps28 rfl rfl fun w F0 S0 ρ0 => ?_
  dsimp only [argT,argH]
  repeat' first|(apply n3;exact a_new (gb := .bx _) rfl;exact rfl;refine dA ?_)|(apply p3;(first|exact pu1|exact puN|exact puC);exact rfl)|refine cd ?_|(apply c4 0;exact callK1 (θ := []) (hD := (ValidDfa_ok d sy g));exact rfl;exact rfl;exact rfl;refine dM ?_)|(apply c4 0;exact callK1 (θ := []) (hD := (runDfa_ok d sy u g (by omega) hb));exact rfl;exact rfl;exact rfl;refine dM ?_)|(apply py3;exact rfl;exact rfl;(first|exact pu1|exact a_sub rfl rfl (by omega) (by omega));exact rfl;exact rfl)|(apply cy4 0;exact rfl;exact rfl;exact callK1 (θ := []) (hD := (allWithin_ok _ _ _ preB162));exact rfl;exact rfl;exact rfl;exact rfl;refine dM ?_)|((first|refine o_gs rfl rfl (fun hc => ?_) (fun hc => ?_)|refine g_cond rfl (fun hc => ?_) (fun hc => ?_)) <;> (try simp only [dcB] at hc) <;> (try first|contradiction|(exfalso;omega)))
  repeat refine cr ?_
  refine ends_id ?_
  refine endK [] (h2 := ?_) (h3 := ?_) (nd := ?_)
  all_goals (repeat' first|exact ce0|refine ce ?_|refine ce2 ?_ ?_|exact SVLe.refl|refine ceb ?_)
  all_goals first | exact (show nodupB _ = true from rfl) | exact Or.inr rfl | (rfl)
theorem RankDfa_ok (d : Dfa') (sy : Int) (g : DfOk d sy) : Does Tryd.prog 20 [.agg (dfC d),.one (int sy)] [] (.tup [(false,[int ((rkF d.st d.nx 0).getD 0)]),(false,[int (bif (rkF d.st d.nx 0).isSome then 0 else 5)])]) [] := by
  have k4 := g.yb
  have k5 := g.st
  have k6 := df_len g
  refine does_of (k := 0) Tryd.func20 rfl Tryd.ntmps20 rfl rfl fun w F0 S0 ρ0 => ?_
  dsimp only [argT,argH]
  repeat' first|(apply n3;exact a_new (gb := .bx _) rfl;exact rfl;refine dA ?_)|(apply p3;(first|exact pu1|exact puN);exact rfl)|refine cd ?_|(apply c4 0;exact callK1 (θ := []) (hD := (ValidDfa_ok d sy g));exact rfl;exact rfl;exact rfl;refine dM ?_)
  refine g_loop_id ?_
  refine loopK [2,4,5,14,15] [] (fun y : Int × Int => 0 ≤ y.1 ∧ y.1 ≤ d.nx.length ∧ 0 ≤ y.2 ∧ y.2 ≤ 1000000000000 ∧ rkF d.st (d.nx.drop y.1.toNat) y.2 = rkF d.st d.nx 0) (fun y => [(16,.one (int y.1)),(6,.one (int y.2))]) (fun _ => []) (fun y => (d.nx.length - y.1).toNat) ((0 : Int),(0 : Int)) [0] (hI := ?_) (hr := ?_)
  · exact ⟨by simp,by simp,by simp,by simp,by simp⟩
  · rintro ⟨i,r⟩ ⟨j0,j1,j2,j3,j4⟩
    dsimp only [List.cons_append,List.nil_append] at *
    skip
    repeat' first|(apply p3;(first|exact pu1|exact puC|exact puI);exact rfl)|refine cdn ?_|refine g_reg (id := 5) ?_|refine g_reg (id := 6) ?_|refine g_reg (id := 11) ?_|((refine g_cond rfl (fun hc => ?_) (fun hc => ?_)) <;> (try simp only [dcB] at hc) <;> (try first|contradiction|(exfalso;omega)))
    · have hi : i.toNat < d.nx.length := by omega
      have hx := g.bd _ (List.getElem_mem hi)
      have m1 : 0 ≤ r * d.st := Int.mul_nonneg j2 (by omega)
      have m2 : r * d.st ≤ 1000000000000 * 20 := Int.mul_le_mul j3 (by omega) (by omega) (by omega)
      rw [List.drop_eq_getElem_cons hi,rkF] at j4
      repeat' first|(apply p3;(first|exact pu1|exact puC|exact a_mul rfl rfl (by first|omega|assumption) (by first|omega|assumption)|exact a_add rfl rfl (by omega) (by omega));exact rfl)|refine cd ?_|((refine g_cond rfl (fun hc => ?_) (fun hc => ?_)) <;> (try simp only [dcB] at hc) <;> (try first|contradiction|(exfalso;omega)))
      · rw [if_pos hc] at j4
        rw [← j4]
        repeat refine cr ?_
        refine ends_id ?_
        refine endK [] (h2 := ?_) (h3 := ?_) (nd := ?_)
        all_goals (repeat' first|exact ce0|refine ce ?_|refine ce2 ?_ ?_|exact SVLe.refl|refine ceb ?_)
        all_goals first | exact (show nodupB _ = true from rfl) | exact Or.inr rfl | (rfl)
      · rw [if_neg hc] at j4
        refine q_again (i + 1,r * d.st + d.nx[i.toNat]'hi) [0] (by exact stk) ?_ ?_
        · dsimp only
          exact ⟨by omega,by omega,by omega,by omega,by rw [show (i + 1).toNat = i.toNat + 1 by omega]; exact j4⟩
        · dsimp only; omega
    · rw [List.drop_of_length_le (by omega),rkF] at j4
      rw [← j4]
      repeat refine cr ?_
      refine ends_id ?_
      refine endK [] (h2 := ?_) (h3 := ?_) (nd := ?_)
      all_goals (repeat' first|exact ce0|refine ce ?_|refine ce2 ?_ ?_|exact SVLe.refl|refine ceb ?_)
      all_goals first | exact (show nodupB _ = true from rfl) | exact Or.inr rfl | (rfl)
end Go.Proofs.YtbblkhjjgnpbaaaDoor
end
section
set_option linter.unusedVariables false
set_option linter.unusedSimpArgs false
set_option maxRecDepth 100000
set_option maxHeartbeats 4000000
namespace Go.Proofs.YtbblkhjjgnpbaaaDoor
open Go Foot
@[irreducible] def tgWord (n : Int) (l : List Int) : Bool := inAll 0 (n - 1) l && decide ((l.length : Int) ≤ 1000)
@[irreducible] def vTag (t : Tg) : Bool := decide (1 ≤ t.de ∧ t.de ≤ 4) && decide (1 ≤ (t.wo.length : Int) ∧ (t.wo.length : Int) ≤ 200) && (risesL t.ha && inAll 0 ((t.wo.length : Int) - 1) t.ha) && t.wo.all (tgWord t.wo.length)
@[irreducible] def tgHalts (t : Tg) (w : List Int) : Bool := decide ((w.length : Int) < t.de) || decide (w.headD 0 ∈ t.ha)
@[irreducible] def tgOut (t : Tg) (w : List Int) : List Int := w ++ t.wo.getD (w.headD 0).toNat []
@[irreducible] def tgStep (t : Tg) (w : List Int) : List Int := (tgOut t w).drop t.de.toNat
@[irreducible] def tgOver (t : Tg) (w : List Int) : Bool := !decide (((tgOut t w).length : Int) ≤ 1000)
theorem vTag_bd {t : Tg} (h : vTag t = true) : (1 ≤ t.de ∧ t.de ≤ 4) ∧ 1 ≤ (t.wo.length : Int) ∧ (t.wo.length : Int) ≤ 200 := by
  unfold vTag at h
  simp only [Bool.and_eq_true,decide_eq_true_eq] at h
  omega
theorem vTag_w {t : Tg} (h : vTag t = true) {x : List Int} (hx : x ∈ t.wo) : (x.length : Int) ≤ 1000 ∧ ∀ y ∈ x,0 ≤ y ∧ y < t.wo.length := by
  unfold vTag at h
  simp only [Bool.and_eq_true,List.all_eq_true] at h
  have := h.2 x hx
  unfold tgWord inAll at this
  simp only [Bool.and_eq_true,List.all_eq_true,decide_eq_true_eq] at this
  exact ⟨this.2,fun y hy => by have := this.1 y hy; omega⟩
structure Gd (t : Tg) (q : List Int) : Prop where
  wd : ∀ y ∈ q,0 ≤ y ∧ y < t.wo.length
  le : (q.length : Int) ≤ 1000
theorem tgHalts_no {t : Tg} {q : List Int} (h : tgHalts t q = false) : t.de ≤ q.length := by
  unfold tgHalts at h
  simp at h
  omega
theorem tgHead {t : Tg} {q : List Int} (hv : vTag t = true) (hg : Gd t q) (h : tgHalts t q = false) : 0 ≤ q.headD 0 ∧ q.headD 0 < t.wo.length := by
  have h1 := tgHalts_no h
  have h2 := vTag_bd hv
  cases q with
  | nil => simp at h1; omega
  | cons a q => exact hg.wd a (by simp)
theorem tgStep_gd {t : Tg} {q : List Int} (hv : vTag t = true) (hg : Gd t q) (h : tgHalts t q = false) (ho : tgOver t q = false) : Gd t (tgStep t q) := by
  obtain ⟨h1,h2⟩ := tgHead hv hg h
  have hlt : (q.headD 0).toNat < t.wo.length := by omega
  have hout : tgOut t q = q ++ t.wo[(q.headD 0).toNat] := by unfold tgOut; rw [List.getD_eq_getElem?_getD,List.getElem?_eq_getElem hlt]; rfl
  refine ⟨fun y hy => ?_,?_⟩
  · unfold tgStep at hy
    have := List.mem_of_mem_drop hy
    rw [hout] at this
    rcases List.mem_append.1 this with hy | hy
    · exact hg.wd y hy
    · exact (vTag_w hv (List.getElem_mem hlt)).2 y hy
  · unfold tgOver at ho
    unfold tgStep
    simp at ho
    rw [List.length_drop]
    omega
section
variable {α : Type} {f : α → α} {h o : α → Bool} {x : α} {k : Nat}
end
section
variable {α : Type} [DecidableEq α] {f : α → α} {h o : α → Bool} {x y : α} {k p l : Nat}
end
end Go.Proofs.YtbblkhjjgnpbaaaDoor
end
section
set_option linter.unusedVariables false
set_option linter.unusedSimpArgs false
set_option maxRecDepth 100000
set_option maxHeartbeats 4000000
namespace Go.Proofs.YtbblkhjjgnpbaaaDoor
open Go Foot
end Go.Proofs.YtbblkhjjgnpbaaaDoor
end
section
set_option linter.unusedVariables false
set_option linter.unusedSimpArgs false
set_option maxRecDepth 100000
set_option maxHeartbeats 4000000
namespace Go.Proofs.YtbblkhjjgnpbaaaDoor
open Go Foot
theorem vTag_r {t : Tg} (h : vTag t = true) : risesL t.ha = true := by
  unfold vTag at h
  simp only [Bool.and_eq_true] at h
  exact h.1.2.1
end Go.Proofs.YtbblkhjjgnpbaaaDoor
end
section
set_option linter.unusedVariables false
set_option linter.unusedSimpArgs false
set_option maxRecDepth 100000
set_option maxHeartbeats 4000000
namespace Go.Proofs.YtbblkhjjgnpbaaaDoor
open Go Foot
end Go.Proofs.YtbblkhjjgnpbaaaDoor
end
section
set_option linter.unusedVariables false
set_option linter.unusedSimpArgs false
set_option maxRecDepth 100000
set_option maxHeartbeats 4000000
namespace Go.Proofs.YtbblkhjjgnpbaaaDoor
open Go Foot
theorem preB54 {p : Prop} (h : p := by first | with_reducible assumption | omega | (simp only [List.length_append,List.length_cons,List.length_nil,List.length_set,List.length_replicate,List.length_take,List.length_drop,List.length_tail,List.length_dropLast,List.length_reverse] at *; omega) | exact mem_len (by assumption) (by omega) | (with_reducible refine Int.le_trans (Int.ofNat_le.2 (trimR_len _)) ?_; simp only [List.length_cons,List.length_tail]; omega) | (exact (ruAt_ok (by assumption) (by assumption) (by assumption)).2.1) | (exact (ruAt_ok (by assumption) (by assumption) (by assumption)).2.1) | (have := vMach_bd (by assumption); omega) | (simp only [mC_ch,mC_tu]; omega) | (have := vTag_bd (by assumption); omega) | (have := (‹Gd _ _›).le; omega) | (exact tgHalts_no (by assumption)) | (exact tgHead (by assumption) (by assumption) (by assumption)) | (exact Int.le_trans (tgStep_gd (by assumption) (by assumption) (by assumption) (by assumption)).le (by decide)) | (exact vTag_r (by assumption)) | (with_reducible refine Int.le_trans (Int.ofNat_le.2 (pushL_len _ _)) ?_; simp only [List.length_dropLast]; omega) | exact (ask_ok (by assumption)).1 | exact (ask_ok (by assumption)).2.1 | exact (ask_ok (by assumption)).2.2.1 | exact (ask_ok (by assumption)).2.2.2 | trivial) : p := h
theorem decimals_ok (l : List Int) (s : Bs) (hl : (l.length : Int) ≤ 1048576) (hb : ∀ x ∈ l,-1000000000000 ≤ x ∧ x ≤ 1000000000000) (hj : ((joinT (l.map decT) s).length : Int) ≤ 140737488355328) : Does Tryd.prog 57 [.one (shI l),.one (str s)] [] (.one (str (joinT (l.map decT) s))) [] := by
  have hg : ∀ (i : Nat) (h : i < l.length),-1000000000000 ≤ l[i] ∧ l[i] ≤ 1000000000000 := fun i h => hb _ (List.getElem_mem h)
  refine does_of (k := 0) Tryd.func57 rfl Tryd.ntmps57 rfl rfl fun w F0 S0 ρ0 => ?_
  dsimp only [argT,argH]
  repeat' first|(apply n3;(exact a_litE eS [] rfl rfl rfl rfl rfl rfl rfl rfl);exact rfl;refine dA ?_)|(apply p3;(first|exact pu1|exact puN);exact rfl)|refine cd ?_
  refine g_loop_id ?_
  refine loopK [1,4,5,9,10] [0] (fun y : Int × List Bs => 0 ≤ y.1 ∧ y.1 ≤ l.length ∧ y.2 = (l.take y.1.toNat).map decT) (fun y => [(11,.one (int y.1))]) (fun y => [(0,.row 1 (rows eS y.2))]) (fun y => (l.length - y.1).toNat) ((0 : Int),[]) [0] (hI := ?_) (hr := ?_)
  · exact ⟨by simp,by simp,by simp⟩
  · rintro ⟨i,ts⟩ ⟨j0,j1,j2⟩
    dsimp only [List.cons_append,List.nil_append] at *
    skip
    have jl : (ts.length : Int) ≤ 1048576 := by rw [j2,List.length_map,List.length_take]; omega
    repeat' first|(apply p3;(first|exact pu1|exact puC|exact puI);exact rfl)|refine cdn ?_|refine g_reg (id := 3) ?_|refine g_reg (id := 4) ?_|((refine g_cond rfl (fun hc => ?_) (fun hc => ?_)) <;> (try simp only [dcB] at hc) <;> (try first|contradiction|(exfalso;omega)))
    · have := hg i.toNat (by omega)
      repeat' first|(apply n3;(exact a_litE eS [_] rfl rfl rfl rfl rfl rfl rfl rfl);exact rfl;refine dA ?_)|(apply p3;(first|exact pu1|exact a_add rfl rfl (by omega) (by omega));exact rfl)|refine cd ?_|(apply s3;exact a_appE (fP rfl) rfl rfl rfl rfl nowR (by (simp;omega)) (by decide) (by decide) (by exact rfl);exact rfl;exact rfl)|(apply c4 0;exact callK1 (θ := []) (hD := (Decimal_ok _ preB54 preB54));exact rfl;exact rfl;exact rfl;refine dM ?_)
      refine q_again (i + 1,_) [2] (by exact stk) ?_ ?_
      · dsimp only
        exact ⟨by omega,by omega,by rw [j2,map_take_s decT j0 hc]⟩
      · dsimp only; omega
    · have e : ts = l.map decT := by rw [j2,List.take_of_length_le (by omega)]
      rw [← e] at hj ⊢
      repeat' first|(apply p3;(exact pu1);exact rfl)|refine cd ?_|(apply c4 0;exact callK1 (θ := []) (hD := (Join_ok _ _ preB54 preB54));exact rfl;exact rfl;exact rfl;refine dM ?_)
      repeat refine cr ?_
      refine ends_id ?_
      refine endK [] (h2 := ?_) (h3 := ?_) (nd := ?_)
      all_goals (repeat' first|exact ce0|refine ce ?_|refine ce2 ?_ ?_|exact SVLe.refl|refine ceb ?_)
      all_goals first | exact (show nodupB _ = true from rfl) | exact Or.inr rfl | (rfl)
end Go.Proofs.YtbblkhjjgnpbaaaDoor
end
section
set_option linter.unusedVariables false
set_option linter.unusedSimpArgs false
set_option maxRecDepth 100000
set_option maxHeartbeats 4000000
namespace Go.Proofs.YtbblkhjjgnpbaaaDoor
open Go Foot
theorem join_cons2 (a b : Bs) (l : List Bs) (sep : Bs) : joinT (a :: b :: l) sep = a ++ (sep ++ joinT (b :: l) sep) := by
  unfold joinT
  simp [Lib.join]
theorem join_one (a sep : Bs) : joinT [a] sep = a := by
  unfold joinT
  simp [Lib.join]
theorem join_len {sep : UInt8} {k : Nat} : ∀ {l : List Bs},(∀ p ∈ l,p.length ≤ k) → (joinT l [sep]).length ≤ (k + 1) * l.length
  | [],_ => by unfold joinT; simp [Lib.join]
  | [a],h => by
    have := h a (by simp)
    rw [join_one]; simp only [List.length_cons,List.length_nil]; omega
  | a :: b :: l,h => by
    have h1 := h a (by simp)
    have h2 := join_len (sep := sep) (l := b :: l) fun p hp => h p (by simp at hp ⊢; exact .inr hp)
    rw [join_cons2]
    simp only [List.length_append,List.length_cons,List.length_nil,Nat.mul_add,Nat.mul_one] at h2 ⊢
    omega
end Go.Proofs.YtbblkhjjgnpbaaaDoor
end
section
set_option linter.unusedVariables false
set_option linter.unusedSimpArgs false
set_option maxRecDepth 100000
set_option maxHeartbeats 4000000
namespace Go.Proofs.YtbblkhjjgnpbaaaDoor
open Go Foot Go.RowKit
end Go.Proofs.YtbblkhjjgnpbaaaDoor
end
section
set_option linter.unusedVariables false
set_option linter.unusedSimpArgs false
set_option maxRecDepth 100000
set_option maxHeartbeats 4000000
namespace Go.Proofs.YtbblkhjjgnpbaaaDoor
open Go Foot
structure Verd where
  m : Mach
  p : Prf
structure VeGd (v : Verd) : Prop where
  a : (v.m.ru.length : Int) ≤ 16777216
  b : (v.p.nu.length : Int) ≤ 16777216
  c : (v.p.wo.length : Int) ≤ 16777216
  d : ∀ x ∈ v.p.wo,(x.length : Int) ≤ 16777216
end Go.Proofs.YtbblkhjjgnpbaaaDoor
end
section
set_option linter.unusedVariables false
set_option linter.unusedSimpArgs false
set_option maxRecDepth 100000
set_option maxHeartbeats 4000000
namespace Go.Proofs.YtbblkhjjgnpbaaaDoor
open Go Foot
structure LsGd (l : List Verd) : Prop where
  n : (l.length : Int) ≤ 16777216
  a : ∀ v ∈ l,VeGd v
theorem ls_at {l : List Verd} (g : LsGd l) {i : Nat} (h : i < l.length) : VeGd l[i] := g.a _ (List.getElem_mem h)
end Go.Proofs.YtbblkhjjgnpbaaaDoor
end
section
set_option linter.unusedVariables false
set_option linter.unusedSimpArgs false
set_option maxRecDepth 100000
set_option maxHeartbeats 4000000
namespace Go.Proofs.YtbblkhjjgnpbaaaDoor
open Go Foot
end Go.Proofs.YtbblkhjjgnpbaaaDoor
end
section
set_option linter.unusedVariables false
set_option linter.unusedSimpArgs false
set_option maxRecDepth 100000
set_option maxHeartbeats 4000000
namespace Go.Proofs.YtbblkhjjgnpbaaaDoor
open Go Foot
section
variable {m : Mach} {d n a b : Int} {c : Conf} {O : Option (Conf × Int × Int)}
end
end Go.Proofs.YtbblkhjjgnpbaaaDoor
end
section
set_option linter.unusedVariables false
set_option linter.unusedSimpArgs false
set_option maxRecDepth 100000
set_option maxHeartbeats 4000000
namespace Go.Proofs.YtbblkhjjgnpbaaaDoor
open Go Foot
end Go.Proofs.YtbblkhjjgnpbaaaDoor
end
section
set_option linter.unusedVariables false
set_option linter.unusedSimpArgs false
set_option maxRecDepth 100000
set_option maxHeartbeats 4000000
namespace Go.Proofs.YtbblkhjjgnpbaaaDoor
open Go Foot
structure ItOut (X : Type) where
  x : X
  j : Option Code
  c : Conf
section
variable {X : Type} {m : Mach} {bd : X → Conf × Int × Bool → X × Option Code} {b n : Int} {c : Conf} {x : X} {O : ItOut X} {k : Nat}
end
end Go.Proofs.YtbblkhjjgnpbaaaDoor
end
section
set_option linter.unusedVariables false
set_option linter.unusedSimpArgs false
set_option maxRecDepth 100000
set_option maxHeartbeats 4000000
namespace Go.Proofs.YtbblkhjjgnpbaaaDoor
open Go Foot
end Go.Proofs.YtbblkhjjgnpbaaaDoor
end
section
set_option linter.unusedVariables false
set_option linter.unusedSimpArgs false
set_option maxRecDepth 100000
set_option maxHeartbeats 4000000
namespace Go.Proofs.YtbblkhjjgnpbaaaDoor
open Go Foot
end Go.Proofs.YtbblkhjjgnpbaaaDoor
end
section
set_option linter.unusedVariables false
set_option linter.unusedSimpArgs false
set_option maxRecDepth 100000
set_option maxHeartbeats 4000000
namespace Go.Proofs.YtbblkhjjgnpbaaaDoor
open Go Foot
section
variable {m : Mach}
end
end Go.Proofs.YtbblkhjjgnpbaaaDoor
end
section
set_option linter.unusedVariables false
set_option linter.unusedSimpArgs false
set_option maxRecDepth 100000
set_option maxHeartbeats 4000000
namespace Go.Proofs.YtbblkhjjgnpbaaaDoor
open Go Foot
structure Part where
  st : Int
  pl : Int
  ce : List Int
  deriving DecidableEq
structure PtGd (x : Part) : Prop where
  a : 0 ≤ x.pl
  b : x.pl < x.ce.length
  c : (x.ce.length : Int) ≤ 1000
end Go.Proofs.YtbblkhjjgnpbaaaDoor
end
