/- Parts of the proof (12 of 19). -/
import Derived.Conc.MuLone
import Derived.Test.YtegpggobfdcafaaGreatQ11
section
set_option linter.unusedVariables false
set_option linter.unusedSimpArgs false
namespace Go.Proofs.YtegpggobfdcafaaGreat
open Go Foot
section
variable {P : Program} {g g' : Gh} {st st' : St} {Q : Exit → St → Prop}
abbrev Gh.put (g : Gh) (d : Deferred) : Gh := { g with df := d :: g.df }
end
section
variable {P : Program} {g : Gh} {st : St}
end
end Go.Proofs.YtegpggobfdcafaaGreat
end
section
set_option linter.unusedVariables false
set_option linter.unusedSimpArgs false
set_option maxRecDepth 100000
namespace Go.Proofs.YtegpggobfdcafaaGreat
open Go Foot MapKept
section
variable {P : Program} {g : Gh} {st : St} {Good : Bs → List D → Prop}
variable {dst : Option Tmp} {ty : TypeId} {pos : String} {after : Array Edge} {guard : Option (Nat × Bool)} {x y z : Operand} {T kt et : TypeId} {i : Nat} {k : Bs}
end
end Go.Proofs.YtegpggobfdcafaaGreat
end
section
set_option linter.unusedVariables false
set_option linter.unusedSimpArgs false
set_option maxRecDepth 100000
namespace Go.Proofs.YtegpggobfdcafaaGreat
open Go Foot MapKept
def Bk (w : World) (S Z : Foot) (z : Nat) (row : List D) (v : Value) : Prop := ∃ G,Rep w no (.sl true z row) v G ∧ le G S ∧ Foot.dis G Z ∧ ∀ t ∈ tabs,∀ o,¬ G t.1 o
theorem Bk.keep {w w' : World} {S S' Z : Foot} {z : Nat} {row : List D} {v : Value} (h : Bk w S Z z row v) (hS : Agree w w' S) (hle : le S S') : Bk w' S' Z z row v := by
  obtain ⟨G,h1,h2,h3,h4⟩ := h
  exact ⟨G,h1.keep (hS.le h2) Agree.no (le_refl _) (le_refl _),h2.trans hle,h3,h4⟩
theorem Bk.sh {w : World} {S Z : Foot} {z : Nat} {row : List D} {v : Value} (h : Bk w S Z z row v) (hn : D.noOwn.all row) : Rep w S (.sl false z row) v no := by
  obtain ⟨G,h1,h2,h3,h4⟩ := h
  exact (Shut1.sl (ShutL.no hn) w no G G v h1 (le_refl _)).keep Agree.no (Agree.refl _ _) (or_le (no_le _) h2) (le_refl _)
section
variable {P : Program} {g : Gh} {t : List (Nat × SV)} {h0 : List (Nat × GB)} {n q r i j : Nat} {a : Act} {w : World} {S Z : Foot} {ρ : Env} {F : Nat → Foot} {Q : Exit → St → Prop} {α : Type} {z : Nat} {row : α → List D} {L : List (α × Value)} {x : α} {v : Value}
theorem rel_opq {R : Opq} {cs : List Nat} (h : Rel g ⟨t,h0,n⟩ a w S ρ F) (hg : lkG h0 i = .opq R cs) : ∃ us,cs.map ρ = us.map some ∧ R.p w S us (F i) := by
  rcases h.root i with h1 | ⟨u,r1,r2⟩
  · simp only [hg] at h1; cases h1
  · simp only [hg] at r2
    exact r2
theorem rel_live {gb : GB} (h : Rel g ⟨t,h0,n⟩ a w S ρ F) (hg : lkG h0 i = gb) (hl : GB.lives gb = true) : ∃ u,ρ i = some u := by
  rcases h.root i with h1 | ⟨u,r1,r2⟩
  · simp only [hg] at h1; rw [h1] at hl; cases hl
  · exact ⟨u,r1⟩
theorem t_opqLe {R R' : Opq} {cs : List Nat} (i : Nat) (hg : lkG h0 i = .opq R cs) (hl : ∀ w S us F,R.p w S us F → R'.p w S us F) : Conv g ⟨t,h0,n⟩ ⟨t,(i,.opq R' cs) :: h0,n⟩ := fun a w S ρ F hr hf => by
  obtain ⟨u,hu⟩ := rel_live hr hg rfl
  obtain ⟨us,e1,e2⟩ := rel_opq hr hg
  exact ⟨S,ρ,F,rel_root hr (.inr ⟨u,hu,us,e1,hl _ _ _ _ e2⟩),hf⟩
theorem t_cell1 {c c' : C} (d : Nat) (hs : lkS t d = .one c) (hc : ∀ a w S ρ F v,Rel g ⟨t,h0,n⟩ a w S ρ F → RepC w S ρ c v → RepC w S ρ c' v) : Conv g ⟨t,h0,n⟩ ⟨(d,.one c') :: t,h0,n⟩ := fun a w S ρ F hr hf => by
  refine ⟨S,ρ,F,hr.setSlot ?_,hf⟩
  have h1 := hr.slot d
  simp only [hs] at h1
  exact hc a w S ρ F _ hr h1
theorem c_isv (hi : lkG h0 i = .isv v) : ∀ a w S ρ F u,Rel g ⟨t,h0,n⟩ a w S ρ F → RepC w S ρ (.gv i) u → RepC w S ρ (.d (.sc v)) u := fun a w S ρ F u hr h => by
  have e := rel_isv hr hi
  obtain ⟨h1,h2⟩ := h
  rw [e] at h1
  cases h1
  exact ⟨rfl,h2⟩
theorem t_isv1 (d i : Nat) (hs : lkS t d = .one (.gv i)) (hi : lkG h0 i = .isv v) : Conv g ⟨t,h0,n⟩ ⟨(d,.one (.d (.sc v))) :: t,h0,n⟩ := t_cell1 d hs (c_isv hi)
end
structure GdE where
  p : World → Foot → Bs → Array Value → Prop
  keep : ∀ {w w' : World} {S S' : Foot} {k : Bs} {vs : Array Value},p w S k vs → Agree w w' S → le S S' → p w' S' k vs
  one : ∀ {w : World} {S : Foot} {k : Bs} {vs : Array Value},p w S k vs → vs.toList.all Value.oneCell' = true
section
variable {P : Program} {g : Gh} {st : St} {Good : GdE}
variable {dst : Option Tmp} {ty : TypeId} {pos : String} {after : Array Edge} {guard : Option (Nat × Bool)} {x y z : Operand} {T kt et : TypeId} {i : Nat} {k : Bs}
end
end Go.Proofs.YtegpggobfdcafaaGreat
end
section
set_option linter.unusedVariables false
set_option linter.unusedSimpArgs false
set_option maxRecDepth 100000
namespace Go.Proofs.YtegpggobfdcafaaGreat
open Go Foot MapKept
structure Pt where
  k : Int
  th : Option Nat
  ot : Option Nat
structure Jn where
  k : Int
  r : Int
  t : Int
  e : Int
abbrev eJ : Enc Jn := ⟨4,fun x => [.sc (.int .i64 x.k),.sc (.int .i64 x.r),.sc (.int .i64 x.t),.sc (.int .i64 x.e)],fun _ => rfl,by decide⟩
structure As where
  is : List Jn
  ps : List Pt
  sp : List Int
abbrev Ad := Nat × Nat
abbrev paV (b : Ad) : Value := .pointer (some ⟨b.1,b.2,none⟩)
@[irreducible] def adr (ad : List Value) : Option Nat → Value
  | none => .pointer none
  | some i => ad.getD i (.pointer none)
abbrev eP (b : Ad) (ad : List Value) : Enc Pt := ⟨1,fun p => [.fn (.func 235) [.bx false [.sc (adr ad p.th)],.bx false [.sc (paV b)],.bx false [.sc (.int .i64 p.k)],.bx false [.sc (adr ad p.ot)]]],fun _ => rfl,by decide⟩
def spD : Option Int → D
  | some x => .bx true [.sc (.int .i64 x)]
  | none => .junk
structure PtOk' (n : Nat) (p : Pt) : Prop where
  th : ∀ i,p.th = some i → i < n
  ot : ∀ i,p.ot = some i → i < n
theorem adr_some {ad : List Value} {i : Nat} {v : Value} (h : ad[i]? = some v) : adr ad (some i) = v := by unfold adr; show ad.getD i _ = v; rw [List.getD_eq_getElem?_getD,h]; rfl
theorem adr_none {ad : List Value} : adr ad none = .pointer none := by unfold adr; rfl
theorem adr_app {ad : List Value} {v : Value} : ∀ {o : Option Nat},(∀ i,o = some i → i < ad.length) → adr (ad ++ [v]) o = adr ad o
  | none,_ => by rw [adr_none,adr_none]
  | some i,h => by
    have hi := h i rfl
    rw [adr_some (v := ad[i]) (by rw [List.getElem?_append_left hi,List.getElem?_eq_getElem hi]),adr_some (List.getElem?_eq_getElem hi)]
theorem rows_adr {b : Ad} {ad : List Value} {v : Value} : ∀ {ps : List Pt},(∀ p ∈ ps,PtOk' ad.length p) → rows (eP b (ad ++ [v])) ps = rows (eP b ad) ps := by
  intro ps
  induction ps with
  | nil => intro _; rfl
  | cons p ps ih =>
    intro h
    have := h p (by simp)
    rw [rows_cons,rows_cons,ih fun q hq => h q (List.mem_cons_of_mem _ hq)]
    simp only [adr_app this.th,adr_app this.ot]
def arR (b : Ad) (ad : List Value) (sp : List (Option Int)) : Opq where
  p w S us F := us = [paV b] ∧ Reps w S (sp.map spD) ad F
  keep := fun ⟨h1,h2⟩ hF hS hle hf => ⟨h1,Reps.keep h2 hF hS hle hf⟩
def arH (b : Ad) (ad : List Value) (sp : List (Option Int)) (i : Nat) : Opq where
  p w S us F := ∃ v,us = [paV b,v] ∧ ad[i]? = some v ∧ Reps w S ((sp.map spD).set i .junk) ad F
  keep := fun ⟨v,h1,h0,h2⟩ hF hS hle hf => ⟨v,h1,h0,Reps.keep h2 hF hS hle hf⟩
def arK (kn : List (Nat × Value)) (sp : List Int) : Opq where
  p w S us F := us = [] ∧ ∃ ad,(∀ x ∈ kn,ad[x.1]? = some x.2) ∧ Reps w S ((sp.map some).map spD) ad F
  keep := fun ⟨h0,ad,h1,h2⟩ hF hS hle hf => ⟨h0,ad,h1,Reps.keep h2 hF hS hle hf⟩
structure AsmAt (w : World) (S F : Foot) (b : Ad) (kn : List (Nat × Value)) (A : As) (ad : List Value) (vL vP : Value) (G0 G1 G2 G3 : Foot) : Prop where
  kn : ∀ x ∈ kn,ad[x.1]? = some x.2
  ps : ∀ p ∈ A.ps,PtOk' A.sp.length p
  f0 : le G0 F
  f1 : le G1 F
  f2 : le G2 F
  f3 : le G3 F
  d01 : Foot.dis G0 G1
  d02 : Foot.dis G0 G2
  d03 : Foot.dis G0 G3
  d12 : Foot.dis G1 G2
  d13 : Foot.dis G1 G3
  d23 : Foot.dis G2 G3
  li : lies w b.1 b.2 [vL,vP]
  rn : le (rng b.1 b.2 2) G0
  fr : free w b.1 b.2 2
  rL : Rep w S (.sl true 4 (rows eJ A.is)) vL G1
  rP : Rep w S (.sl true 1 (rows (eP b ad) A.ps)) vP G2
  rS : Reps w S ((A.sp.map some).map spD) ad G3
def asmR (b : Ad) (kn : List (Nat × Value)) (A : As) : Opq where
  p w S us F := us = [paV b] ∧ ∃ ad vL vP G0 G1 G2 G3,AsmAt w S F b kn A ad vL vP G0 G1 G2 G3
  keep := fun ⟨h0,ad,vL,vP,G0,G1,G2,G3,h⟩ hF hS hle hf => ⟨h0,ad,vL,vP,G0,G1,G2,G3,⟨h.kn,h.ps,h.f0.trans hf,h.f1.trans hf,h.f2.trans hf,h.f3.trans hf,h.d01,h.d02,h.d03,h.d12,h.d13,h.d23,h.li.keep (hF.le (h.rn.trans h.f0)),h.rn,h.fr.keep (hF.le (h.rn.trans h.f0)),h.rL.keep (hF.le h.f1) hS hle (le_refl _),h.rP.keep (hF.le h.f2) hS hle (le_refl _),h.rS.keep (hF.le h.f3) hS hle (le_refl _)⟩⟩
section
variable {P : Program} {g : Gh} {t : List (Nat × SV)} {h0 : List (Nat × GB)} {n q r i j m : Nat} {a : Act} {w : World} {S : Foot} {ρ : Env} {F : Nat → Foot} {Q : Exit → St → Prop} {b : Ad} {kn : List (Nat × Value)} {A : As} {ad : List Value}
theorem rel_two {gb1 gb2 : GB} {G1 G2 : Foot} (hij : i ≠ j) (h : Rel g ⟨t,h0,n⟩ a w S ρ F) (l1 : le G1 ((F i).or (F j))) (l2 : le G2 ((F i).or (F j))) (hd : Foot.dis G1 G2) (r1 : gb1 = .dead ∨ ∃ v,ρ i = some v ∧ RepG w S ρ gb1 v G1) (r2 : gb2 = .dead ∨ ∃ v,ρ j = some v ∧ RepG w S ρ gb2 v G2) :
    Rel g ⟨t,(i,gb1) :: (j,gb2) :: h0,n⟩ a w S ρ (fun k => if k = i then G1 else if k = j then G2 else F k) := by
  have hG : ∀ {G X : Foot},le G ((F i).or (F j)) → Foot.dis (F i) X → Foot.dis (F j) X → Foot.dis G X := fun l d1 d2 => (dis_or d1 d2).le l (le_refl _)
  refine ⟨h.size,h.defers.same fun k r o hk => ?_,h.slot,fun k => ?_,fun k l hkl => ?_,fun k => ?_,fun k => ?_,fun k b o hb => ?_,h.exS,h.old,h.inS,h.newS,h.pin,h.tab,h.fin⟩
  · try dsimp only at hk
    split at hk
    · exact (l1 _ _ hk).elim (fun x => ⟨i,x⟩) (fun x => ⟨j,x⟩)
    · split at hk
      · exact (l2 _ _ hk).elim (fun x => ⟨i,x⟩) (fun x => ⟨j,x⟩)
      · exact ⟨k,hk⟩
  · simp only [lkG_cons]
    by_cases hki : k = i
    · subst hki; simp only [if_true]; exact r1
    · simp only [if_neg hki]
      by_cases hkj : k = j
      · subst hkj; simp only [if_true]; exact r2
      · simp only [if_neg hkj]; exact h.root k
  · try dsimp only
    by_cases hki : k = i
    · have hli : l ≠ i := fun e => hkl (by rw [hki,e])
      simp only [hki,if_true,if_neg hli]
      by_cases hlj : l = j
      · simp only [hlj,if_true]; exact hd
      · simp only [if_neg hlj]; exact hG l1 (h.dis i l (fun e => hli e.symm)) (h.dis j l (fun e => hlj e.symm))
    · simp only [if_neg hki]
      by_cases hkj : k = j
      · have hlj : l ≠ j := fun e => hkl (by rw [hkj,e])
        simp only [hkj,if_true,if_neg hlj]
        by_cases hli : l = i
        · simp only [hli,if_true]; exact hd.symm
        · simp only [if_neg hli]; exact hG l2 (h.dis i l (fun e => hli e.symm)) (h.dis j l (fun e => hlj e.symm))
      · simp only [if_neg hkj]
        by_cases hli : l = i
        · simp only [hli,if_true]; exact (hG l1 (h.dis i k (fun e => hki e.symm)) (h.dis j k (fun e => hkj e.symm))).symm
        · simp only [if_neg hli]
          by_cases hlj : l = j
          · simp only [hlj,if_true]; exact (hG l2 (h.dis i k (fun e => hki e.symm)) (h.dis j k (fun e => hkj e.symm))).symm
          · simp only [if_neg hlj]; exact h.dis k l hkl
  · try dsimp only
    split
    · exact (dis_or (h.disS i) (h.disS j)).le l1 (le_refl _)
    · split
      · exact (dis_or (h.disS i) (h.disS j)).le l2 (le_refl _)
      · exact h.disS k
  · try dsimp only
    split
    · exact l1.trans (or_le (h.own i) (h.own j))
    · split
      · exact l2.trans (or_le (h.own i) (h.own j))
      · exact h.own k
  · try dsimp only at hb
    split at hb
    · exact (l1 _ _ hb).elim (h.ex i b o) (h.ex j b o)
    · split at hb
      · exact (l2 _ _ hb).elim (h.ex i b o) (h.ex j b o)
      · exact h.ex k b o hb
theorem rel_ext (v : Value) (h : Rel g ⟨t,h0,n⟩ a w S ρ F) (hf : Fresh ⟨t,h0,n⟩ ρ) : ∃ ρ',Env.le ρ ρ' ∧ ρ' n = some v ∧ Rel g ⟨t,h0,n + 1⟩ a w S ρ' F ∧ Fresh ⟨t,h0,n + 1⟩ ρ' := by
  have hn : ρ n = none := hf n (Nat.le_refl n)
  have hle : Env.le ρ (fun k => if k = n then some v else ρ k) := fun k u hk => by
    have : k ≠ n := fun e => by rw [e,hn] at hk; cases hk
    simp only [this,if_false]; exact hk
  refine ⟨_,hle,by simp,⟨h.size,h.defers,fun k => (h.slot k).keep (Agree.refl _ _) (le_refl _) hle,fun k => ?_,h.dis,h.disS,h.own,h.ex,h.exS,h.old,h.inS,h.newS,fun k u hk hu => hle _ _ (h.pin k u hk hu),h.tab,?_⟩,fun k hk => ?_⟩
  · rcases h.root k with h0 | ⟨u,r1,r2⟩
    · exact .inl h0
    · exact .inr ⟨u,hle _ _ r1,r2.keep (Agree.refl _ _) (Agree.refl _ _) (le_refl _) hle (le_refl _)⟩
  · obtain ⟨N,hN⟩ := h.fin
    exact ⟨N + n + 1,fun k hk => by
      have : k ≠ n := by omega
      simp only [this,if_false]
      exact hN k (by omega)⟩
  · have hk' : n + 1 ≤ k := hk
    have : k ≠ n := by omega
    simp only [this,if_false]
    exact hf k (by show n ≤ k; omega)
theorem ne_fresh {R : Opq} {cs : List Nat} (h : Rel g ⟨t,h0,n⟩ a w S ρ F) (hf : Fresh ⟨t,h0,n⟩ ρ) (hq : lkG h0 q = .opq R cs) : n ≠ q := fun e => by
  obtain ⟨u,hu⟩ := rel_live h hq rfl
  rw [← e,hf n (Nat.le_refl n)] at hu
  cases hu
theorem two_us {r0 r1 : Nat} {us : List Value} {x y : Value} (e : [r0,r1].map ρ = us.map some) (h : us = [x,y]) : ρ r0 = some x ∧ ρ r1 = some y := by
  subst h
  simp only [List.map_cons,List.map_nil,List.cons.injEq,and_true] at e
  exact e
theorem one_us {r0 : Nat} {us : List Value} {x : Value} (e : [r0].map ρ = us.map some) (h : us = [x]) : ρ r0 = some x := by
  subst h
  simp only [List.map_cons,List.map_nil,List.cons.injEq,and_true] at e
  exact e
theorem spD_ptr {l : List (Option Int)} (hl : ∀ x ∈ l,x.isSome) {F : Foot} {ad : List Value} (h : Reps w S (l.map spD) ad F) : ∀ v ∈ ad,∃ b off,v = .pointer (some ⟨b,off,none⟩) := by
  induction l generalizing ad F with
  | nil => simp only [List.map_nil,Reps] at h; subst h; intro v hv; cases hv
  | cons x l ih =>
    simp only [List.map_cons,Reps] at h
    obtain ⟨v,us,F1,F2,rfl,h1,h2,h3,h4,h5⟩ := h
    intro u hu
    rcases List.mem_cons.1 hu with rfl | hu
    · cases x with
      | none => have := hl none (by simp); cases this
      | some x =>
        simp only [spD,Rep] at h4
        obtain ⟨b,off,vs,G,rfl,_⟩ := h4
        exact ⟨b,off,rfl⟩
    · exact ih (fun x hx => hl x (List.mem_cons_of_mem _ hx)) h5 u hu
structure AdOk (kn : List (Nat × Value)) (A : As) (ad : List Value) : Prop where
  len : ad.length = A.sp.length
  kn : ∀ x ∈ kn,ad[x.1]? = some x.2
  ptr : ∀ v ∈ ad,∃ b off,v = .pointer (some ⟨b,off,none⟩)
  ps : ∀ p ∈ A.ps,PtOk' A.sp.length p
theorem rel_re {ix : List Nat} {up : List (Nat × GB)} {F' : Nat → Foot} (h : Rel g ⟨t,h0,n⟩ a w S ρ F) (hk : ∀ k,k ∉ ix → F' k = F k ∧ lkG (up ++ h0) k = lkG h0 k) (hl : ∀ k ∈ ix,le (F' k) (chF F ix)) (hd : ∀ k ∈ ix,∀ l ∈ ix,k ≠ l → Foot.dis (F' k) (F' l)) (hr : ∀ k ∈ ix,lkG (up ++ h0) k = .dead ∨ ∃ v,ρ k = some v ∧ RepG w S ρ (lkG (up ++ h0) k) v (F' k)) :
    Rel g ⟨t,up ++ h0,n⟩ a w S ρ F' := by
  have hx : ∀ {X : Foot},(∀ j ∈ ix,Foot.dis (F j) X) → Foot.dis (chF F ix) X := fun hX b o ⟨j,hj,hb⟩ hx => hX j hj b o hb hx
  have hs : ∀ k b o,F' k b o → ∃ j,F j b o := fun k b o hb => by
    by_cases hk' : k ∈ ix
    · obtain ⟨j,_,hj⟩ := hl k hk' b o hb; exact ⟨j,hj⟩
    · rw [(hk k hk').1] at hb; exact ⟨k,hb⟩
  refine ⟨h.size,h.defers.same fun k r o hb => hs k r o hb,h.slot,fun k => ?_,fun k l hkl => ?_,fun k => ?_,fun k => ?_,fun k b o hb => ?_,h.exS,h.old,h.inS,h.newS,h.pin,h.tab,h.fin⟩
  · by_cases hk' : k ∈ ix
    · exact hr k hk'
    · have := hk k hk'
      show lkG (up ++ h0) k = .dead ∨ _
      rw [this.2,this.1]
      exact h.root k
  · by_cases hk' : k ∈ ix
    · by_cases hl' : l ∈ ix
      · exact hd k hk' l hl' hkl
      · rw [(hk l hl').1]
        exact (hx fun j hj => h.dis j l (fun e => hl' (e ▸ hj))).le (hl k hk') (le_refl _)
    · rw [(hk k hk').1]
      by_cases hl' : l ∈ ix
      · exact ((hx fun j hj => h.dis j k (fun e => hk' (e ▸ hj))).le (hl l hl') (le_refl _)).symm
      · rw [(hk l hl').1]; exact h.dis k l hkl
  · by_cases hk' : k ∈ ix
    · exact (hx fun j hj => h.disS j).le (hl k hk') (le_refl _)
    · rw [(hk k hk').1]; exact h.disS k
  · by_cases hk' : k ∈ ix
    · exact fun b o hb => (hl k hk' b o hb).elim fun j ⟨_,hj⟩ => h.own j b o hj
    · rw [(hk k hk').1]; exact h.own k
  · obtain ⟨j,hj⟩ := hs k b o hb
    exact h.ex j b o hj
theorem rel_opM {r0 : Nat} (hf : Fresh ⟨t,h0,n⟩ ρ) (hq : lkG h0 r0 = .opq (asmR b kn A) [r0]) (h : Rel g ⟨t,h0,n⟩ a w S ρ F) :
    ∃ ad ρ' F',AdOk kn A ad ∧ Rel g ⟨t,(r0,.bx [.gv n,.gv (n + 1)]) :: (n,.row 4 (rows eJ A.is)) :: (n + 1,.row 1 (rows (eP b ad) A.ps)) :: (n + 2,.opq (arR b ad (A.sp.map some)) [r0]) :: h0,n + 3⟩ a w S ρ' F' ∧ Fresh ⟨t,(r0,.bx [.gv n,.gv (n + 1)]) :: (n,.row 4 (rows eJ A.is)) :: (n + 1,.row 1 (rows (eP b ad) A.ps)) :: (n + 2,.opq (arR b ad (A.sp.map some)) [r0]) :: h0,n + 3⟩ ρ' := by
  have hne := ne_fresh h hf hq
  obtain ⟨us,e1,e2,ad,vL,vP,G0,G1,G2,G3,hA⟩ := rel_opq h hq
  have a1 := one_us e1 e2
  have hlt : r0 < n := by
    by_cases hlt : r0 < n
    · exact hlt
    · have := hf r0 (by show n ≤ r0; omega); rw [a1] at this; cases this
  obtain ⟨ρ1,l1,v1,q1,f1⟩ := rel_ext vL h hf
  obtain ⟨ρ2,l2,v2,q2,f2⟩ := rel_ext vP q1 f1
  obtain ⟨ρ3,l3,v3,q3,f3⟩ := rel_ext (.bool false) q2 f2
  have w1 : ρ3 n = some vL := l3 _ _ (l2 _ _ v1)
  have w2 : ρ3 (n + 1) = some vP := l3 _ _ v2
  have w0 : ρ3 r0 = some (paV b) := l3 _ _ (l2 _ _ (l1 _ _ a1))
  refine ⟨ad,ρ3,fun k => if k = r0 then G0 else if k = n then G1 else if k = n + 1 then G2 else if k = n + 2 then G3 else F k,⟨by simpa using hA.rS.length,hA.kn,spD_ptr (by simp) hA.rS,hA.ps⟩,?_,f3⟩
  have k1 : n ≠ r0 := by omega
  have k2 : n + 1 ≠ r0 := by omega
  have k3 : n + 2 ≠ r0 := by omega
  have k4 : n + 1 ≠ n := by omega
  have k5 : n + 2 ≠ n := by omega
  have k6 : n + 2 ≠ n + 1 := by omega
  refine rel_re (ix := [r0,n,n + 1,n + 2]) (up := [(r0,.bx [.gv n,.gv (n + 1)]),(n,.row 4 (rows eJ A.is)),(n + 1,.row 1 (rows (eP b ad) A.ps)),(n + 2,.opq (arR b ad (A.sp.map some)) [r0])]) q3 (fun k hk => ?_) (fun k hk => ?_) (fun k hk l hl hkl => ?_) (fun k hk => ?_)
  · simp only [List.mem_cons,List.not_mem_nil,or_false,not_or] at hk
    obtain ⟨h1,h2,h3,h4⟩ := hk
    refine ⟨by simp [h1,h2,h3,h4],?_⟩
    simp only [List.cons_append,List.nil_append,lkG_cons,if_neg h1,if_neg h2,if_neg h3,if_neg h4]
  · refine le.trans ?_ (fun b o hb => ⟨r0,by simp,hb⟩ : le (F r0) _)
    simp only [List.mem_cons,List.not_mem_nil,or_false] at hk
    rcases hk with rfl | rfl | rfl | rfl
    · simp only [if_true]; exact hA.f0
    · simp only [if_neg k1,if_true]; exact hA.f1
    · simp only [if_neg k2,if_neg k4,if_true]; exact hA.f2
    · simp only [if_neg k3,if_neg k5,if_neg k6,if_true]; exact hA.f3
  · simp only [List.mem_cons,List.not_mem_nil,or_false] at hk hl
    rcases hk with rfl | rfl | rfl | rfl <;> rcases hl with rfl | rfl | rfl | rfl <;> first | (exact absurd rfl hkl) | skip
    all_goals simp only [if_true,if_neg k1,if_neg k2,if_neg k3,if_neg k4,if_neg k5,if_neg k6]
    · exact hA.d01
    · exact hA.d02
    · exact hA.d03
    · exact hA.d01.symm
    · exact hA.d12
    · exact hA.d13
    · exact hA.d02.symm
    · exact hA.d12.symm
    · exact hA.d23
    · exact hA.d03.symm
    · exact hA.d13.symm
    · exact hA.d23.symm
  · simp only [List.mem_cons,List.not_mem_nil,or_false] at hk
    rcases hk with rfl | rfl | rfl | rfl
    · simp only [List.cons_append,List.nil_append,lkG_cons,if_true]
      exact .inr ⟨_,w0,b.1,b.2,[vL,vP],rfl,hA.li,⟨vL,[vP],rfl,⟨w1,hA.rL.one⟩,vP,[],rfl,⟨w2,hA.rP.one⟩,rfl⟩,hA.rn,hA.fr⟩
    · simp only [List.cons_append,List.nil_append,lkG_cons,if_true,if_neg k1]
      exact .inr ⟨_,w1,hA.rL⟩
    · simp only [List.cons_append,List.nil_append,lkG_cons,if_true,if_neg k2,if_neg k4]
      exact .inr ⟨_,w2,hA.rP⟩
    · simp only [List.cons_append,List.nil_append,lkG_cons,if_true,if_neg k3,if_neg k5,if_neg k6]
      exact .inr ⟨_,v3,[paV b],by simp [w0],rfl,hA.rS⟩
theorem g_opM {c : Code} (r0 i j m e : Nat) (hi : n = i) (hj : n + 1 = j) (hm : n + 2 = m) (he : n + 3 = e) (hq : lkG h0 r0 = .opq (asmR b kn A) [r0]) (hk : ∀ ad,AdOk kn A ad → GWp P g c ⟨t,(r0,.bx [.gv i,.gv j]) :: (i,.row 4 (rows eJ A.is)) :: (j,.row 1 (rows (eP b ad) A.ps)) :: (m,.opq (arR b ad (A.sp.map some)) [r0]) :: h0,e⟩ Q) : GWp P g c ⟨t,h0,n⟩ Q := ⟨fun a w S ρ F h hf => by
  subst hi hj hm he
  obtain ⟨ad,ρ',F',e,q1,q2⟩ := rel_opM hf hq h
  exact (hk ad e).run _ _ _ _ _ q1 q2⟩
theorem rel_bx2 {i : Nat} {c1 c2 : C} (h : Rel g ⟨t,h0,n⟩ a w S ρ F) (hg : lkG h0 i = .bx [c1,c2]) : ∃ b off v1 v2,ρ i = some (.pointer (some ⟨b,off,none⟩)) ∧ lies w b off [v1,v2] ∧ RepC w S ρ c1 v1 ∧ RepC w S ρ c2 v2 ∧ le (rng b off 2) (F i) ∧ free w b off 2 := by
  rcases h.root i with h1 | ⟨u,r1,r2⟩
  · simp only [hg] at h1; cases h1
  · simp only [hg,RepG,RepCs] at r2
    obtain ⟨b,off,vs,rfl,e1,⟨v1,us,rfl,e2,v2,us2,rfl,e3,rfl⟩,e4,e5⟩ := r2
    exact ⟨b,off,v1,v2,r1,e1,e2,e3,e4,e5⟩
theorem t_clM (kn : List (Nat × Value)) (A : As) (r0 i j m : Nat) (h01 : Nat.beq r0 i = false) (h02 : Nat.beq r0 j = false) (h03 : Nat.beq r0 m = false) (h12 : Nat.beq i j = false) (h13 : Nat.beq i m = false) (h23 : Nat.beq j m = false) (hb : lkG h0 r0 = .bx [.gv i,.gv j]) (hi : lkG h0 i = .row 4 (rows eJ A.is)) (hj : lkG h0 j = .row 1 (rows (eP b ad) A.ps)) (hm : lkG h0 m = .opq (arR b ad (A.sp.map some)) [r0]) (hkn : ∀ x ∈ kn,ad[x.1]? = some x.2) (hps : ∀ p ∈ A.ps,PtOk' A.sp.length p) :
    Conv g ⟨t,h0,n⟩ ⟨t,(r0,.opq (asmR b kn A) [r0]) :: (i,.dead) :: (j,.dead) :: (m,.dead) :: h0,n⟩ := fun a w S ρ F hr hf => by
  have h01 := nbeq h01
  have h02 := nbeq h02
  have h03 := nbeq h03
  have h12 := nbeq h12
  have h13 := nbeq h13
  have h23 := nbeq h23
  obtain ⟨b',off,v1,v2,r1,e1,e2,e3,e4,e5⟩ := rel_bx2 hr hb
  obtain ⟨us,o1,o2,o3⟩ := rel_opq hr hm
  have a1 := one_us o1 o2
  rw [a1] at r1
  have hbb : b' = b.1 ∧ off = b.2 := by
    simp only [Option.some.injEq,Value.pointer.injEq,Addr.mk.injEq] at r1
    exact ⟨r1.1.symm,r1.2.1.symm⟩
  obtain ⟨rfl,rfl⟩ := hbb
  obtain ⟨vL,l1,l2⟩ := rel_rowT hr hi
  obtain ⟨vP,p1,p2⟩ := rel_rowT hr hj
  have ev1 : v1 = vL := by have := e2.1; rw [l1] at this; exact (Option.some.inj this).symm
  have ev2 : v2 = vP := by have := e3.1; rw [p1] at this; exact (Option.some.inj this).symm
  subst ev1 ev2
  refine ⟨S,ρ,fun k => if k = r0 then chF F [r0,i,j,m] else if k = i ∨ k = j ∨ k = m then no else F k,?_,hf⟩
  refine rel_re (ix := [r0,i,j,m]) (up := [(r0,.opq (asmR b kn A) [r0]),(i,.dead),(j,.dead),(m,.dead)]) hr (fun k hk => ?_) (fun k hk => ?_) (fun k hk l hl hkl => ?_) (fun k hk => ?_)
  · simp only [List.mem_cons,List.not_mem_nil,or_false,not_or] at hk
    obtain ⟨h1,h2,h3,h4⟩ := hk
    refine ⟨by simp [h1,h2,h3,h4],?_⟩
    simp only [List.cons_append,List.nil_append,lkG_cons,if_neg h1,if_neg h2,if_neg h3,if_neg h4]
  · try dsimp only
    split
    · exact le_refl _
    · split
      · exact no_le _
      · rename_i h1 h2
        simp only [List.mem_cons,List.not_mem_nil,or_false] at hk
        exact absurd hk (fun hk => hk.elim h1 h2)
  · try dsimp only
    simp only [List.mem_cons,List.not_mem_nil,or_false] at hk hl
    by_cases h1 : k = r0
    · have h2 : l ≠ r0 := fun e => hkl (by rw [h1,e])
      simp only [if_neg h2,if_pos (hl.resolve_left h2)]
      exact dis_no _
    · simp only [if_neg h1,if_pos (hk.resolve_left h1)]
      exact no_dis _
  · by_cases h1 : k = r0
    · subst h1
      simp only [List.cons_append,List.nil_append,lkG_cons,if_true]
      have inF : ∀ {x : Nat},x ∈ [k,i,j,m] → le (F x) (chF F [k,i,j,m]) := fun hx b o hb => ⟨_,hx,hb⟩
      exact .inr ⟨_,a1,[paV b],by simp [a1],rfl,ad,v1,v2,F k,F i,F j,F m,⟨hkn,hps,inF (by simp),inF (by simp),inF (by simp),inF (by simp),hr.dis _ _ h01,hr.dis _ _ h02,hr.dis _ _ h03,hr.dis _ _ h12,hr.dis _ _ h13,hr.dis _ _ h23,e1,e4,e5,l2,p2,o3⟩⟩
    · simp only [List.mem_cons,List.not_mem_nil,or_false] at hk
      refine .inl ?_
      simp only [List.cons_append,List.nil_append,lkG_cons,if_neg h1]
      split
      · rfl
      · split
        · rfl
        · rw [if_pos]
          rcases hk with e | e | e | e
          · exact absurd e h1
          · contradiction
          · contradiction
          · exact e
theorem t_opA {sp : List (Option Int)} {r0 : Nat} {v : Value} {x : Int} (d m i k e : Nat) (hk : n = k) (he : n + 1 = e) (hs : lkS t d = .one (.d (.sc v))) (hm : lkG h0 m = .opq (arR b ad sp) [r0]) (hv : ad[i]? = some v) (hx : sp[i]? = some (some x)) : Conv g ⟨t,h0,n⟩ ⟨(d,.one (.gv k)) :: t,(k,.bx [.d (.sc (.int .i64 x))]) :: (m,.opq (arH b ad sp i) [r0,k]) :: h0,e⟩ := fun a w S ρ F h hf => by
  subst hk he
  have hne := ne_fresh h hf hm
  obtain ⟨us,e1,e2,e3⟩ := rel_opq h hm
  have a1 := one_us e1 e2
  obtain ⟨v',F1,F2,p1,p2,p3,p4,p5,p6⟩ := e3.out (k := i) (c := spD (some x)) (by rw [List.getElem?_map,hx]; rfl)
  rw [hv] at p1
  obtain rfl := Option.some.inj p1
  obtain ⟨ρ',l1,hvn,q1,q2⟩ := rel_ext v h hf
  have hbx : RepG w S ρ' (.bx [.d (.sc (.int .i64 x))]) v F1 := by
    simp only [spD,Rep,if_true] at p5
    obtain ⟨b',off,vs,G,rfl,f1,f2,f3,f4,f5,f6⟩ := p5
    simp only [RepG]
    exact ⟨b',off,vs,rfl,f1,repCs_d (xs := [.sc (.int .i64 x)]) (by
      simp only [Reps,Rep] at f2 ⊢
      obtain ⟨v,us,G1,G2,rfl,_,_,_,h4,h5⟩ := f2
      exact ⟨v,us,no,no,rfl,le_refl _,le_refl _,no_dis _,h4,h5⟩),f3,f6⟩
  have hone : v.oneCell' = true := by
    simp only [RepG] at hbx
    obtain ⟨b',off,vs,rfl,_⟩ := hbx
    rfl
  have h2 := rel_two (gb1 := .bx [.d (.sc (.int .i64 x))]) (gb2 := .opq (arH b ad sp i) [r0,n]) (G1 := F1) (G2 := F2) hne q1 (p2.trans (le_or_right _ _)) (p3.trans (le_or_right _ _)) p4 (.inr ⟨v,hvn,hbx⟩) (by
    obtain ⟨u,hu⟩ := rel_live h hm rfl
    refine .inr ⟨u,l1 _ _ hu,[paV b,v],by simp [l1 _ _ a1,hvn],v,rfl,hv,?_⟩
    have hset : (sp.map spD).set i .junk = ((sp.map spD).set i (.sc v)).set i .junk := by rw [List.set_set]
    rw [hset]
    have hg : ((sp.map spD).set i (.sc v))[i]? = some (.sc v) := by
      rw [List.getElem?_set]
      have hi : i < (sp.map spD).length := by rw [List.length_map]; exact (List.getElem?_eq_some_iff.1 hx).1
      simp [hi] at *
      exact hi
    have := p6.set (x := .junk) (u := v) (H := no) hg (by simp only [Rep]; exact hone) (no_dis _)
    have hvs : ad.set i v = ad := by
      apply List.ext_getElem?; intro q; rw [List.getElem?_set]; split
      · rename_i e; subst e; split
        · exact hv.symm
        · rename_i e; rw [List.getElem?_eq_none (by omega)] at hv; cases hv
      · rfl
    rw [hvs] at this
    exact this.mono (or_le (le_refl _) (no_le _)))
  refine ⟨S,ρ',_,h2.setSlot ?_,q2⟩
  have h1 := q1.slot d
  simp only [hs] at h1
  obtain ⟨s1,s2⟩ := h1
  exact ⟨by rw [hvn,s1],s2⟩
theorem t_clA {sp : List (Option Int)} {r0 : Nat} {y : Int} (k m : Nat) (hkm : Nat.beq m k = false) (hm : lkG h0 m = .opq (arH b ad sp i) [r0,k]) (hk : lkG h0 k = .bx [.d (.sc (.int .i64 y))]) (hi : i < sp.length) : Conv g ⟨t,h0,n⟩ ⟨t,(m,.opq (arR b ad (sp.set i (some y))) [r0]) :: (k,.dead) :: h0,n⟩ := fun a w S ρ F hr hf => by
  have hkm := nbeq hkm
  obtain ⟨us,e1,v,e2,e4,e3⟩ := rel_opq hr hm
  obtain ⟨a1,a2⟩ := two_us e1 e2
  obtain ⟨u,hu⟩ := rel_live hr hm rfl
  rcases hr.root k with h1 | ⟨u',r1,r2⟩
  · simp only [hk] at h1; cases h1
  simp only [hk] at r2
  rw [a2] at r1
  obtain rfl := Option.some.inj r1
  simp only [RepG] at r2
  obtain ⟨b',off,vs,rfl,f1,f2,f3,f4⟩ := r2
  have hbx : Rep w S (spD (some y)) (.pointer (some ⟨b',off,none⟩)) (F k) := by
    simp only [spD,Rep,if_true]
    refine ⟨b',off,vs,no,rfl,f1,?_,f3,no_le _,dis_no _,f4⟩
    have := RepCs.toD (xs := [.sc (.int .i64 y)]) f2 rfl
    exact this
  have hg : ((sp.map spD).set i .junk)[i]? = some .junk := by
    rw [List.getElem?_set]
    simp [hi]
  have h3 := e3.set hg hbx (hr.dis k m (fun e => hkm e.symm))
  have hvs : ad.set i (.pointer (some ⟨b',off,none⟩)) = ad := by
    apply List.ext_getElem?; intro q; rw [List.getElem?_set]; split
    · rename_i e; subst e; split
      · exact e4.symm
      · rename_i e; rw [List.getElem?_eq_none (by omega)] at e4; cases e4
    · rfl
  rw [hvs,List.set_set,← List.map_set] at h3
  exact ⟨S,ρ,_,rel_two (G1 := (F m).or (F k)) (G2 := no) hkm hr (le_refl _) (no_le _) (dis_no _) (.inr ⟨u,hu,[paV b],by simp [a1],rfl,h3⟩) (.inl rfl),hf⟩
theorem rel_newS {x : Int} (r0 k : Nat) (hqk : Nat.beq r0 k = false) (hq : lkG h0 r0 = .opq (asmR b kn A) [r0]) (hk : lkG h0 k = .bx [.d (.sc (.int .i64 x))]) (h : Rel g ⟨t,h0,n⟩ a w S ρ F) :
    ∃ v F',Rel g ⟨t,(r0,.opq (asmR b ((A.sp.length,v) :: kn) ⟨A.is,A.ps,A.sp ++ [x]⟩) [r0]) :: (k,.isv v) :: h0,n⟩ a w S ρ F' := by
  have hqk := nbeq hqk
  obtain ⟨us,e1,e2,ad,vL,vP,G0,G1,G2,G3,hA⟩ := rel_opq h hq
  have a1 := one_us e1 e2
  have hlen : ad.length = A.sp.length := by simpa using hA.rS.length
  rcases h.root k with h1 | ⟨v,r1,r2⟩
  · simp only [hk] at h1; cases h1
  simp only [hk] at r2
  have hbx : Rep w S (spD (some x)) v (F k) := by
    simp only [RepG] at r2
    obtain ⟨b',off,vs,rfl,f1,f2,f3,f4⟩ := r2
    simp only [spD,Rep,if_true]
    refine ⟨b',off,vs,no,rfl,f1,?_,f3,no_le _,dis_no _,f4⟩
    have := RepCs.toD (xs := [.sc (.int .i64 x)]) f2 rfl
    exact this
  have hd : ∀ {G : Foot},le G (F r0) → Foot.dis G (F k) := fun hG => (h.dis r0 k hqk).le hG (le_refl _)
  have h2 : Reps w S (((A.sp ++ [x]).map some).map spD) (ad ++ [v]) (G3.or (F k)) := by
    rw [List.map_append,List.map_append]
    exact hA.rS.append (ds := [spD (some x)]) (us := [v]) (G := F k) ⟨v,[],F k,no,rfl,le_refl _,no_le _,dis_no _,hbx,rfl⟩ (hd hA.f3) (le_or_left _ _) (le_or_right _ _)
  have hor : ∀ {G : Foot},le G (F r0) → le G ((F r0).or (F k)) := fun hG => hG.trans (le_or_left _ _)
  have dor : ∀ {G X : Foot},le G (F r0) → Foot.dis G X → Foot.dis G (X.or (F k)) := fun hG hX b o x y => y.elim (hX b o x) (hd hG b o x)
  refine ⟨v,_,rel_two (G1 := (F r0).or (F k)) (G2 := no) hqk h (le_refl _) (no_le _) (dis_no _) (.inr ⟨_,a1,[paV b],by simp [a1],rfl,ad ++ [v],vL,vP,G0,G1,G2,G3.or (F k),⟨fun y hy => ?_,fun p hp => ⟨fun i hi => ?_,fun i hi => ?_⟩,hor hA.f0,hor hA.f1,hor hA.f2,or_le (hor hA.f3) (le_or_right _ _),hA.d01,hA.d02,dor hA.f0 hA.d03,hA.d12,dor hA.f1 hA.d13,dor hA.f2 hA.d23,hA.li,hA.rn,hA.fr,hA.rL,?_,h2⟩⟩) (.inr ⟨v,r1,rfl⟩)⟩
  · rcases List.mem_cons.1 hy with rfl | hy
    · simp [← hlen]
    · have := hA.kn y hy
      have hl := (List.getElem?_eq_some_iff.1 this).1
      rw [List.getElem?_append_left hl]
      exact this
  · have := (hA.ps p hp).th i hi; simp; omega
  · have := (hA.ps p hp).ot i hi; simp; omega
  · rw [rows_adr (by rw [hlen]; exact hA.ps)]
    exact hA.rP
theorem g_newS {c : Code} {x : Int} (r0 k : Nat) (hqk : Nat.beq r0 k = false) (hq : lkG h0 r0 = .opq (asmR b kn A) [r0]) (hk : lkG h0 k = .bx [.d (.sc (.int .i64 x))]) (hK : ∀ v : Value,GWp P g c ⟨t,(r0,.opq (asmR b ((A.sp.length,v) :: kn) ⟨A.is,A.ps,A.sp ++ [x]⟩) [r0]) :: (k,.isv v) :: h0,n⟩ Q) : GWp P g c ⟨t,h0,n⟩ Q := ⟨fun a w S ρ F h hf => by
  obtain ⟨v,F',q1⟩ := rel_newS r0 k hqk hq hk h
  exact (hK v).run _ _ _ _ _ q1 hf⟩
theorem o_newS {ops : Array Oper} {l : List Oper} {x : Int} (r0 k : Nat) (hqk : Nat.beq r0 k = false) (hq : lkG h0 r0 = .opq (asmR b kn A) [r0]) (hk : lkG h0 k = .bx [.d (.sc (.int .i64 x))]) (hK : ∀ v : Value,GOps P g ops l ⟨t,(r0,.opq (asmR b ((A.sp.length,v) :: kn) ⟨A.is,A.ps,A.sp ++ [x]⟩) [r0]) :: (k,.isv v) :: h0,n⟩ Q) : GOps P g ops l ⟨t,h0,n⟩ Q := ⟨fun a w S ρ F h hf => by
  obtain ⟨v,F',q1⟩ := rel_newS r0 k hqk hq hk h
  exact (hK v).run _ _ _ _ _ q1 hf⟩
theorem t_lessM (kn' : List (Nat × Value)) (r0 : Nat) (hq : lkG h0 r0 = .opq (asmR b kn A) [r0]) (hs : ∀ x ∈ kn',x ∈ kn) : Conv g ⟨t,h0,n⟩ ⟨t,(r0,.opq (asmR b kn' A) [r0]) :: h0,n⟩ :=
  t_opqLe r0 hq fun w S us F ⟨h0,ad,vL,vP,G0,G1,G2,G3,h⟩ => ⟨h0,ad,vL,vP,G0,G1,G2,G3,⟨fun x hx => h.kn x (hs x hx),h.ps,h.f0,h.f1,h.f2,h.f3,h.d01,h.d02,h.d03,h.d12,h.d13,h.d23,h.li,h.rn,h.fr,h.rL,h.rP,h.rS⟩⟩
theorem c_paN {r0 : Nat} (hq : lkG h0 r0 = .opq (asmR b kn A) [r0]) : ∀ a w S ρ F u,Rel g ⟨t,h0,n⟩ a w S ρ F → RepC w S ρ (.gv r0) u → RepC w S ρ (.d (.sc (paV b))) u := fun a w S ρ F u hr h => by
  obtain ⟨us,e1,e2,_⟩ := rel_opq hr hq
  have a1 := one_us e1 e2
  obtain ⟨h1,h2⟩ := h
  rw [a1] at h1
  exact ⟨(Option.some.inj h1).symm,h2⟩
theorem c_paA {sp : List (Option Int)} {r0 : Nat} (hq : lkG h0 q = .opq (arR b ad sp) [r0]) : ∀ a w S ρ F u,Rel g ⟨t,h0,n⟩ a w S ρ F → RepC w S ρ (.d (.sc (paV b))) u → RepC w S ρ (.gv r0) u := fun a w S ρ F u hr h => by
  obtain ⟨us,e1,e2,_⟩ := rel_opq hr hq
  have a1 := one_us e1 e2
  obtain ⟨h1,h2⟩ := h
  exact ⟨by rw [a1,h1],h2⟩
theorem t_arK {sp : List Int} {r0 : Nat} (kn : List (Nat × Value)) (q : Nat) (hq : lkG h0 q = .opq (arR b ad (sp.map some)) [r0]) (hkn : ∀ x ∈ kn,ad[x.1]? = some x.2) : Conv g ⟨t,h0,n⟩ ⟨t,(q,.opq (arK kn sp) []) :: h0,n⟩ := fun a w S ρ F hr hf => by
  obtain ⟨u,hu⟩ := rel_live hr hq rfl
  obtain ⟨us,e1,e2,e3⟩ := rel_opq hr hq
  exact ⟨S,ρ,F,rel_root hr (.inr ⟨u,hu,[],rfl,rfl,ad,hkn,e3⟩),hf⟩
theorem rel_arK {sp : List Int} {i : Nat} {v : Value} (h : Rel g ⟨t,h0,n⟩ a w S ρ F) (hq : lkG h0 q = .opq (arK kn sp) []) (hv : (i,v) ∈ kn) (hi : i < sp.length) : ∃ b' off,v = .pointer (some ⟨b',off,none⟩) ∧ w.cell? ⟨b',off,none⟩ = some (.int .i64 sp[i]) := by
  obtain ⟨us,e1,e2,ad,e3,e4⟩ := rel_opq h hq
  obtain ⟨v',F1,p1,p2,p3⟩ := e4.nth (k := i) (c := spD (some sp[i])) (by rw [List.getElem?_map,List.getElem?_map,List.getElem?_eq_getElem hi]; rfl)
  rw [e3 _ hv] at p1
  obtain rfl := Option.some.inj p1
  simp only [spD,Rep,if_true] at p3
  obtain ⟨b',off,vs,G,e5,f1,f2,f3,f4,f5,f6⟩ := p3
  simp only [Reps,Rep] at f2
  obtain ⟨v1,us1,G1,G2,rfl,_,_,_,⟨rfl,_⟩,rfl⟩ := f2
  exact ⟨b',off,e5,by simpa using f1 0 _ rfl⟩
theorem t_paN {r0 : Nat} (d : Nat) (hs : lkS t d = .one (.gv r0)) (hq : lkG h0 r0 = .opq (asmR b kn A) [r0]) : Conv g ⟨t,h0,n⟩ ⟨(d,.one (.d (.sc (paV b)))) :: t,h0,n⟩ := t_cell1 d hs (c_paN hq)
end
section
variable {P : Program} {g : Gh} {st : St} {b : Ad} {q r0 i : Nat} {kn : List (Nat × Value)} {ps : List Pt} {ad : List Value} {v : Value}
variable {dst : Option Tmp} {ty : TypeId} {pos : String} {after : Array Edge} {guard : Option (Nat × Bool)} {x : Operand} {T U : TypeId}
theorem a_nePN {p : Option Addr} (hc : opd st x = .one (.d (.sc (.pointer p)))) (hT : P.underlying T = some (.pointer (P.pointee T))) : Acts P g ⟨dst,.binOp .neq T x (.const (.pointer none)) U,ty,pos,after,guard⟩ st (.one (boo (!p.isNone))) [] [] := by
  refine acts_of fun A w S ρ F h => ⟨.bool (!p.isNone),?_,rfl,rfl⟩
  show (do pure (.value (← (do eqGuard .neq T x (.const (.pointer none)) (A.eval x) (A.eval (.const (.pointer none))); binOp .neq T (A.eval x) (A.eval (.const (.pointer none)))))) : Sem Next).run P w = _
  rw [opd_sc h hc,show A.eval (.const (.pointer none)) = .pointer none from rfl]
  simp [eqGuard,run_neq_pointer_nil (w := w) T p hT]
theorem a_nkS {d : Addr} (hc : opd st x = .one (.d (.sc (.pointer (some d))))) : Acts P g ⟨dst,.nilCheck x,ty,pos,after,guard⟩ st (.one (.d (.sc (.pointer (some d))))) [] [] := by
  refine acts_of fun a w S ρ F h => ?_
  refine ⟨a.eval x,?_,opd_one h hc⟩
  have e := opd_sc h hc
  rw [e]
  simp [execOp,e]
theorem a_faS {T f b' off : Nat} (hc : opd st x = .one (.d (.sc (.pointer (some ⟨b',off,none⟩))))) (hT : fieldB P T f 0 = true) : Acts P g ⟨dst,.fieldAddr T x f,ty,pos,after,guard⟩ st (.one (.d (.sc (.pointer (some ⟨b',off,none⟩))))) [] [] := by
  refine acts_of fun a w S ρ F h => ?_
  refine ⟨.pointer (some ⟨b',off,none⟩),?_,rfl,rfl⟩
  show (do pure (.value (← Instr.fieldAt T (a.eval x) f)) : Sem Next).run P w = _
  rw [opd_sc h hc]
  simp [run_fieldAt hT]
theorem a_ldS {T : Nat} {sp : List (Option Int)} {y : Int} (q i : Nat) (hc : opd st x = .one (.d (.sc v))) (hq : lkG st.h q = .opq (arR b ad sp) [r0]) (hT : cellB P T = true) (hv : ad[i]? = some v) (hx : sp[i]? = some (some y)) : Acts P g ⟨dst,.load T x,ty,pos,after,guard⟩ st (.one (.d (.sc (.int .i64 y)))) [] [] := by
  refine acts_of fun a w S ρ F h => ?_
  obtain ⟨us,e1,e2,e3⟩ := rel_opq (t := st.t) (n := st.n) h hq
  obtain ⟨v',F1,p1,p2,p3⟩ := e3.nth (k := i) (c := spD (some y)) (by rw [List.getElem?_map,hx]; rfl)
  rw [hv] at p1
  obtain rfl := Option.some.inj p1
  simp only [spD,Rep,if_true] at p3
  obtain ⟨b',off,vs,G,e4,f1,f2,f3,f4,f5,f6⟩ := p3
  refine ⟨.int .i64 y,run_ld ?_,rfl,rfl⟩
  rw [opd_sc h hc,e4]
  simp only [Reps,Rep] at f2
  obtain ⟨v1,us1,G1,G2,rfl,_,_,_,⟨rfl,_⟩,rfl⟩ := f2
  exact run_load_cell hT (by simpa using f1 0 _ rfl)
theorem a_nkK {sp : List Int} (q i : Nat) (hc : opd st x = .one (.d (.sc v))) (hq : lkG st.h q = .opq (arK kn sp) []) (hv : (i,v) ∈ kn) (hi : i < sp.length) : Acts P g ⟨dst,.nilCheck x,ty,pos,after,guard⟩ st (.one (.d (.sc v))) [] [] := by
  refine acts_of fun a w S ρ F h => ?_
  have e := opd_sc h hc
  obtain ⟨b',off,e1,e2⟩ := rel_arK (t := st.t) (n := st.n) h hq hv hi
  refine ⟨a.eval x,?_,opd_one h hc⟩
  rw [e,e1]
  rw [e1] at e
  simp [execOp,e]
theorem a_faK {T f : Nat} {sp : List Int} (q i : Nat) (hc : opd st x = .one (.d (.sc v))) (hq : lkG st.h q = .opq (arK kn sp) []) (hT : fieldB P T f 0 = true) (hv : (i,v) ∈ kn) (hi : i < sp.length) : Acts P g ⟨dst,.fieldAddr T x f,ty,pos,after,guard⟩ st (.one (.d (.sc v))) [] [] := by
  refine acts_of fun a w S ρ F h => ?_
  obtain ⟨b',off,e1,e2⟩ := rel_arK (t := st.t) (n := st.n) h hq hv hi
  refine ⟨.pointer (some ⟨b',off,none⟩),?_,e1.symm,rfl⟩
  show (do pure (.value (← Instr.fieldAt T (a.eval x) f)) : Sem Next).run P w = _
  rw [opd_sc h hc,e1]
  simp [run_fieldAt hT]
theorem a_ldK {T : Nat} {sp : List Int} (q i : Nat) (hc : opd st x = .one (.d (.sc v))) (hq : lkG st.h q = .opq (arK kn sp) []) (hT : cellB P T = true) (hv : (i,v) ∈ kn) (hi : i < sp.length) : Acts P g ⟨dst,.load T x,ty,pos,after,guard⟩ st (.one (.d (.sc (.int .i64 sp[i])))) [] [] := by
  refine acts_of fun a w S ρ F h => ?_
  obtain ⟨b',off,e1,e2⟩ := rel_arK (t := st.t) (n := st.n) h hq hv hi
  refine ⟨.int .i64 sp[i],run_ld ?_,rfl,rfl⟩
  rw [opd_sc h hc,e1]
  exact run_load_cell hT e2
theorem a_nkA {sp : List (Option Int)} (q : Nat) (hc : opd st x = .one (.d (.sc (paV b)))) (hq : lkG st.h q = .opq (arR b ad sp) [r0]) : Acts P g ⟨dst,.nilCheck x,ty,pos,after,guard⟩ st (.one (.gv r0)) [] [] := by
  refine acts_of fun a w S ρ F h => ?_
  have e := opd_sc h hc
  refine ⟨a.eval x,?_,?_⟩
  · rw [e]
    simp [execOp,e]
  · rw [e]
    exact c_paA (t := st.t) (n := st.n) hq a w S ρ F _ h ⟨rfl,rfl⟩
end
end Go.Proofs.YtegpggobfdcafaaGreat
end
section
set_option linter.unusedVariables false
namespace Go.Proofs.YtegpggobfdcafaaGreat
open Go Foot
def qCv (g : Gh) (Q : Exit → St → Prop) : Exit → St → Prop := fun e st => ∃ st',Conv g st st' ∧ Q e st'
theorem g_cv {P : Program} {g : Gh} {c : Code} {st : St} {Q : Exit → St → Prop} (h : GWp P g c st (qCv g Q)) : GWp P g c st Q := ⟨fun a w S ρ F hr hf =>
  wpIn_mono (h.run a w S ρ F hr hf) fun e a w ⟨st,S,ρ,F,h1,h2,st',hc,h3⟩ => let ⟨S',ρ',F',k1,k2⟩ := hc a w S ρ F h1 h2; ⟨st',S',ρ',F',k1,k2,h3⟩⟩
theorem q_cv {g : Gh} {Q : Exit → St → Prop} {e : Exit} {st st' : St} (h : Conv g st st') (hk : qCv g Q e st') : qCv g Q e st :=
  let ⟨st2,h2,h3⟩ := hk
  ⟨st2,fun a w S ρ F hr hf => let ⟨S',ρ',F',k1,k2⟩ := h a w S ρ F hr hf; h2 a w S' ρ' F' k1 k2,h3⟩
theorem q_cv0 {g : Gh} {Q : Exit → St → Prop} {e : Exit} {st : St} (h : Q e st) : qCv g Q e st := ⟨st,fun _ _ S ρ F hr hf => ⟨S,ρ,F,hr,hf⟩,h⟩
end Go.Proofs.YtegpggobfdcafaaGreat
end
section
set_option linter.unusedVariables false
set_option linter.unusedSimpArgs false
set_option maxRecDepth 100000
namespace Go.Proofs.YtegpggobfdcafaaGreat
open Go Foot
theorem row_part {α : Type} {E : Enc α} {l : List α} {i o n : Nat} (hi : i < l.length) (ho : o + n ≤ E.z) : ((rows E l).drop (i * E.z + o)).take n = ((E.enc l[i]).drop o).take n := by
  have hl : (rows E (l.take i)).length = i * E.z := rows_pre rfl (Nat.le_of_lt hi)
  have he := E.len l[i]
  rw [rows_mid hi,List.append_assoc,List.drop_append,hl,List.drop_of_length_le (by omega),List.nil_append,show i * E.z + o - i * E.z = o by omega]
  rw [List.drop_append_of_le_length (by omega),List.take_append_of_le_length (by rw [List.length_drop]; omega)]
section
variable {P : Program} {g : Gh} {st : St} {dst : Option Tmp} {ty : TypeId} {pos : String} {after : Array Edge} {guard : Option (Nat × Bool)} {x y : Operand} {α : Type} {E : Enc α} {l : List α} {z r k i : Nat} {c0 : C}
theorem a_ldE {T : Nat} {c : D} (o : Nat) (hc : opd st x = .one c0) (ht : tgt st c0 = some (r,k)) (hg : lkG st.h r = .row z (rows E l)) (hT : cellB P T = true) (hz : E.z = z) (hk : k = i * z + o) (ho : o < z) (hi : i < l.length) (hq : (E.enc l[i])[o]? = some c) (hno : c.noOwn) :
    Acts P g ⟨dst,.load T x,ty,pos,after,guard⟩ st (.one (.d c)) [] [] := by
  subst hz
  subst hk
  refine a_ld_row hc ht hg hT ?_ hno
  have h := row_part (E := E) (l := l) (n := 1) hi ho
  have h1 := congrArg (fun q => q[0]?) h
  simp only [List.getElem?_take,List.getElem?_drop,Nat.add_zero,Nat.lt_add_one,if_true] at h1
  simpa [hq] using h1
end
end Go.Proofs.YtegpggobfdcafaaGreat
end
section
set_option linter.unusedVariables false
set_option linter.unusedSimpArgs false
set_option maxRecDepth 100000
set_option maxHeartbeats 4000000
namespace Go.Proofs.YtegpggobfdcafaaGreat
open Go Foot
abbrev shJ (l : List Jn) : C := .d (.sl false 4 (rows eJ l))
abbrev roJ (l : List Jn) : GB := .row 4 (rows eJ l)
abbrev asG (b : Ad) (kn : List (Nat × Value)) (A : As) : GB := .opq (asmR b kn A) [0]
@[irreducible] def As.here (A : As) (i : Nat) : As := { A with sp := A.sp.set i A.is.length }
@[irreducible] def As.emit (A : As) (k r : Int) (th ot : Option Nat) : As := ⟨A.is ++ [⟨k,r,A.is.length + 1,0⟩],A.ps ++ [⟨A.is.length,th,ot⟩],A.sp⟩
@[irreducible] def As.spot (A : As) : As := { A with sp := A.sp ++ [0] }
theorem here_is (A : As) (i : Nat) : (A.here i).is = A.is := by unfold As.here; rfl
theorem here_ps (A : As) (i : Nat) : (A.here i).ps = A.ps := by unfold As.here; rfl
theorem here_sp (A : As) (i : Nat) : (A.here i).sp = A.sp.set i A.is.length := by unfold As.here; rfl
theorem emit_is (A : As) (k r : Int) (th ot : Option Nat) : (A.emit k r th ot).is = A.is ++ [⟨k,r,A.is.length + 1,0⟩] := by unfold As.emit; rfl
theorem emit_ps (A : As) (k r : Int) (th ot : Option Nat) : (A.emit k r th ot).ps = A.ps ++ [⟨A.is.length,th,ot⟩] := by unfold As.emit; rfl
theorem emit_sp (A : As) (k r : Int) (th ot : Option Nat) : (A.emit k r th ot).sp = A.sp := by unfold As.emit; rfl
theorem spot_is (A : As) : A.spot.is = A.is := by unfold As.spot; rfl
theorem spot_ps (A : As) : A.spot.ps = A.ps := by unfold As.spot; rfl
theorem spot_sp (A : As) : A.spot.sp = A.sp ++ [0] := by unfold As.spot; rfl
structure AsOk (A : As) : Prop where
  len : A.ps.length = A.is.length
theorem preB257 {p : Prop} (h : p := by first | with_reducible assumption | omega | (simp only [List.length_append,List.length_cons,List.length_nil,List.length_set,List.length_replicate,List.length_take,List.length_drop,List.length_tail,List.length_dropLast,List.length_reverse] at *; omega) | exact mem_len (by assumption) (by omega) | (with_reducible refine Int.le_trans (Int.ofNat_le.2 (trimR_len _)) ?_; simp only [List.length_cons,List.length_tail]; omega) | (exact (ruAt_ok (by assumption) (by assumption) (by assumption)).2.1) | (exact (ruAt_ok (by assumption) (by assumption) (by assumption)).2.1) | (have := vMach_bd (by assumption); omega) | (simp only [List.length_append,List.length_cons,List.length_nil,repW_len,seN_len] at *; omega) | (simp only [mC_ch,mC_tu]; omega) | (have := vTag_bd (by assumption); omega) | (have := (‹Gd _ _›).le; omega) | (exact tgHalts_no (by assumption)) | (exact tgHead (by assumption) (by assumption) (by assumption)) | (exact Int.le_trans (tgStep_gd (by assumption) (by assumption) (by assumption) (by assumption)).le (by decide)) | (exact vTag_r (by assumption)) | (with_reducible refine Int.le_trans (Int.ofNat_le.2 (pushL_len _ _)) ?_; simp only [List.length_dropLast]; omega) | exact ls_at (by assumption) (by omega) | exact pt_gd (by assumption) | exact lv_at (by assumption) (by omega) | exact pt_gd (lv_at (by assumption) (by omega)) | exact (ask_ok (by assumption)).1 | exact (ask_ok (by assumption)).2.1 | exact (ask_ok (by assumption)).2.2.1 | exact (ask_ok (by assumption)).2.2.2 | trivial) : p := h
theorem sizeJ_ok (xs : List Jn) (hx : (xs.length : Int) ≤ 16777216) : Does Tryz.prog 109 [.one (shJ xs)] [] (.one (int xs.length)) [] := by
  refine does_of (k := 0) Tryz.func109 rfl Tryz.ntmps109 rfl rfl fun w F0 S0 ρ0 => ?_
  dsimp only [argT,argH]
  repeat' first|(apply p3;(first|exact pu1|exact puN);exact rfl)|refine cd ?_|fail
  repeat refine cr ?_
  refine ends_id ?_
  refine endK [] (h2 := ?_) (h3 := ?_) (nd := ?_)
  all_goals (repeat' first|exact ce0|refine ce ?_|refine ce2 ?_ ?_|exact SVLe.refl|refine ceb ?_)
  all_goals first | exact (show nodupB _ = true from rfl) | exact Or.inr rfl | (rfl)
theorem here_ok (b : Ad) (kn : List (Nat × Value)) (A : As) (i : Nat) (v : Value) (hv : (i,v) ∈ kn) (hl : (A.is.length : Int) ≤ 100000) : Does Tryz.prog 149 [.one (.gv 0),.one (.d (.sc v))] [asG b kn A] .any [asG b kn (A.here i)] := by
  have e : A.here i = ⟨A.is,A.ps,A.sp.set i A.is.length⟩ := by unfold As.here; rfl
  rw [e]
  refine does_of (k := 1) Tryz.func149 rfl Tryz.ntmps149 rfl rfl fun w F0 S0 ρ0 => ?_
  dsimp only [argT,argH]
  refine g_opM 0 1 2 3 4 rfl rfl rfl rfl rfl fun ad hk => ?_
  have hi := hk.kn _ hv
  dsimp only at hi
  have hil : i < A.sp.length := by have := (List.getElem?_eq_some_iff.1 hi).1; rw [← hk.len]; exact this
  refine g_conv (t_opA (x := A.sp[i]) 1 3 i 4 5 rfl rfl rfl rfl hi (by rw [List.getElem?_map,List.getElem?_eq_getElem hil]; rfl)) ?_
  refine g_cv ?_
  repeat' first|(apply p3;(exact pu1);exact rfl)|refine cd ?_|(apply w3;(exact a_st_bx rfl rfl rfl rfl (fN rfl rfl) (Nat.le_of_ble_eq_true rfl) rfl);exact rfl;refine dS ?_)|(apply c4 0;exact callK1 (θ := []) (hD := (sizeJ_ok _ preB257));exact rfl;exact rfl;exact rfl;refine dM ?_)|fail
  refine q_cv (t_clA 4 3 rfl rfl rfl (by simpa using hil)) ?_
  refine q_cv (t_clM kn ⟨A.is,A.ps,A.sp.set i A.is.length⟩ 0 1 2 3 rfl rfl rfl rfl rfl rfl rfl rfl rfl (by rw [← List.map_set]; rfl) hk.kn (by simpa using hk.ps)) ?_
  refine q_cv0 ?_
  repeat refine cr ?_
  refine ends_id ?_
  refine endK [] (h2 := ?_) (h3 := ?_) (nd := ?_)
  all_goals (repeat' first|exact ce0|refine ce ?_|refine ce2 ?_ ?_|(refine Or.inr (bx_eq rfl rfl ?_);(try dsimp only [C.ren,C.ren.all]);(try exact rfl))|exact SVLe.refl|refine ceb ?_)
  all_goals first | exact (show nodupB _ = true from rfl) | exact Or.inr rfl | (rfl)
def KnO (kn : List (Nat × Value)) : Option Nat → Value → Prop
  | none,v => v = .pointer none
  | some i,v => (i,v) ∈ kn
theorem KnO.adr {kn : List (Nat × Value)} {ad : List Value} (h : ∀ x ∈ kn,ad[x.1]? = some x.2) : ∀ {o : Option Nat} {v : Value},KnO kn o v → adr ad o = v
  | none,v,e => by rw [adr_none]; exact e.symm
  | some i,v,e => adr_some (h _ e)
theorem KnO.lt {kn : List (Nat × Value)} {ad : List Value} (h : ∀ x ∈ kn,ad[x.1]? = some x.2) {o : Option Nat} {v : Value} (e : KnO kn o v) : ∀ i,o = some i → i < ad.length := by
  intro i hi
  subst hi
  exact (List.getElem?_eq_some_iff.1 (h _ e)).1
theorem emit_ok (b : Ad) (kn : List (Nat × Value)) (A : As) (k r : Int) (th ot : Option Nat) (v u : Value) (hv : KnO kn th v) (hu : KnO kn ot u) (hA : AsOk A) (hl : (A.is.length : Int) ≤ 100000) : Does Tryz.prog 206 [.one (.gv 0),.one (int k),.one (int r),.one (.d (.sc v)),.one (.d (.sc u))] [asG b kn A] .any [asG b kn (A.emit k r th ot)] := by
  have e : A.emit k r th ot = ⟨A.is ++ [⟨k,r,A.is.length + 1,0⟩],A.ps ++ [⟨A.is.length,th,ot⟩],A.sp⟩ := by unfold As.emit; rfl
  have hl2 : (A.ps.length : Int) ≤ 100000 := by rw [hA.len]; exact hl
  rw [e]
  refine does_of (k := 1) Tryz.func206 rfl Tryz.ntmps206 rfl rfl fun w F0 S0 ρ0 => ?_
  dsimp only [argT,argH]
  refine g_conv (t_paN 0 rfl rfl) ?_
  repeat' first|(apply n3;exact a_new (gb := .bx _) rfl;exact rfl;refine dA ?_)|refine cdn ?_|refine g_reg (id := 0) ?_|fail
  first | refine g_turn (t_frzB (d := 5) (i := 1) rfl rfl rfl) ?_ | refine o_turn (t_frzB (d := 5) (i := 1) rfl rfl rfl) ?_
  first | refine g_turn (t_frzB (d := 8) (i := 2) rfl rfl rfl) ?_ | refine o_turn (t_frzB (d := 8) (i := 2) rfl rfl rfl) ?_
  first | refine g_turn (t_frzB (d := 9) (i := 3) rfl rfl rfl) ?_ | refine o_turn (t_frzB (d := 9) (i := 3) rfl rfl rfl) ?_
  refine g_opM 0 4 5 6 7 rfl rfl rfl rfl rfl fun ad hk => ?_
  have e1 := hv.adr hk.kn
  have e2 := hu.adr hk.kn
  repeat' first|(apply n3;exact a_new (gb := .bx _) rfl;exact rfl;refine dA ?_)|(apply p3;(first|exact a_nkA 6 rfl rfl|exact puN|exact puL);exact rfl)|refine cdn ?_|refine g_reg (id := 1) ?_|(apply w3;(exact a_st_bx rfl rfl rfl rfl (fN rfl rfl) (Nat.le_of_ble_eq_true rfl) rfl);exact rfl;refine dS ?_)|(apply g_drN (id := 2) okM [[],[],[1],[1,2],[1,2,3],[],[],[],[7],[5,6,7,8],[5,6,7,8,9],[1,2,3,4,5,6,7,8,9,10],[0,1,2,3,4,5,6,7,8,9,10,11],[0,1,2,3,4,5,6,7,8,9,10,11,12],[0,1,2,3,4,5,6,7,8,9,10,11,12,13]] [([],[]),([],[]),([],[]),([],[]),([],[]),([],[]),([],[]),([],[]),([],[]),([],[]),([0],[]),([1],[4]),([],[]),([],[]),([],[0])] 2;(focus (refine dp 0 0 [17,18,19,20,21,22,23,24,25,26,27] [(true,0),(true,1),(false,4)] puL ?_;refine dp 1 0 [16,21,22,23,24,25,26] [(true,0)] puL ?_;refine dp 2 1 [16,21,22,23,24,25,26] [(true,0)] (by exact a_nkA 6 rfl rfl) ?_;refine dp 3 3 [16,21,22,23,24,25,26] [(true,0)] (a_pure (sv := .one _) rfl) ?_;refine dp 4 7 [16,21,22,23,24,25,26] [(true,0)] puL ?_;refine dp 5 0 [16,17,18,19,20,22,23,24] [] pu1 ?_;refine dp 6 0 [16,17,18,19,20,21,23,24] [] pu1 ?_;refine dp 7 0 [16,17,18,19,20,21,22] [] puL ?_;refine dp 8 1 [16,17,18,19,20,21,22] [] (a_add rfl rfl (by omega) (by omega)) ?_;refine dp 9 15 [16,17,18,19,20] [] (a_pure (sv := .agg _) rfl) ?_;refine duE 10 31 [16,17,18,19,20] [] (atN 0 (fun _ => a_litE eJ [⟨_,_,_,_⟩] rfl rfl rfl rfl rfl rfl rfl rfl)) (by exact rfl) (by exact rfl) ?_;refine duE 11 1023 [16] [] (atS 1 (fun _ hj => a_appE (fP rfl) rfl rfl rfl rfl nowR (by (simp <;> omega)) (by decide) hj (by exact rfl)) (by decide)) (by exact rfl) (by exact rfl) ?_;refine dp 12 4095 [] [] (by exact a_nkA 6 rfl rfl) ?_;refine dp 13 8191 [] [] (a_pure (sv := .one _) rfl) ?_;refine duE 14 16383 [] [] (a_st_bx rfl rfl rfl rfl (fN rfl rfl) (Nat.le_of_ble_eq_true rfl) rfl) (by exact rfl) (by exact rfl) ?_;(refine d_nil ?_;refine dN ?_)));any_goals kernel_rfl)|fail
  first | refine g_turn (t_frzB (d := 10) (i := 7) rfl rfl rfl) ?_ | refine o_turn (t_frzB (d := 10) (i := 7) rfl rfl rfl) ?_
  rw [← e1,← e2]
  refine g_cv ?_
  repeat' first|(apply g_drN (id := 3) okM [[],[],[1],[1,2],[1,2,3],[],[5],[1,2,3,4,5,6],[0,1,2,3,4,5,6,7],[0,1,2,3,4,5,6,7,8],[0,1,2,3,4,5,6,7,8,9]] [([],[]),([],[]),([],[]),([],[]),([],[]),([],[]),([0],[]),([1],[5]),([],[]),([],[]),([],[0])] 2;(focus (refine dp 0 0 [31,32,33,34,35,36,37] [(true,0),(true,1),(false,5)] puL ?_;refine dp 1 0 [30,35,36] [(true,0)] puL ?_;refine dp 2 1 [30,35,36] [(true,0)] (by exact a_nkA 6 rfl rfl) ?_;refine dp 3 3 [30,35,36] [(true,0)] (a_pure (sv := .one _) rfl) ?_;refine dp 4 7 [30,35,36] [(true,0)] puL ?_;refine dp 5 0 [30,31,32,33,34] [] (a_pure (sv := .one _) rfl) ?_;refine duE 6 1 [30,31,32,33,34] [] (atN 0 (fun _ => a_litE (eP b ad) [⟨A.is.length,th,ot⟩] rfl rfl rfl rfl rfl rfl rfl rfl)) (by exact rfl) (by exact rfl) ?_;refine duE 7 63 [30] [] (atS 1 (fun _ hj => a_appE (fP rfl) rfl rfl rfl rfl nowR (by (simp <;> omega)) (by decide) hj (by exact rfl)) (by decide)) (by exact rfl) (by exact rfl) ?_;refine dp 8 255 [] [] (by exact a_nkA 6 rfl rfl) ?_;refine dp 9 511 [] [] (a_pure (sv := .one _) rfl) ?_;refine duE 10 1023 [] [] (a_st_bx rfl rfl rfl rfl (fN rfl rfl) (Nat.le_of_ble_eq_true rfl) rfl) (by exact rfl) (by exact rfl) ?_;(refine d_nil ?_;refine dN ?_)));any_goals kernel_rfl)|fail
  refine q_cv (t_clM kn ⟨A.is ++ [⟨k,r,A.is.length + 1,0⟩],A.ps ++ [⟨A.is.length,th,ot⟩],A.sp⟩ 0 9 11 6 rfl rfl rfl rfl rfl rfl rfl rfl rfl rfl hk.kn (fun p hp => ?_)) ?_
  · rcases List.mem_append.1 hp with hp | hp
    · exact hk.ps p hp
    · simp only [List.mem_singleton] at hp
      subst hp
      exact ⟨fun i hi => by rw [← hk.len]; exact hv.lt hk.kn i hi,fun i hi => by rw [← hk.len]; exact hu.lt hk.kn i hi⟩
  refine q_cv0 ?_
  repeat refine cr ?_
  refine ends_id ?_
  refine endK [] (h2 := ?_) (h3 := ?_) (nd := ?_)
  all_goals (repeat' first|exact ce0|refine ce ?_|refine ce2 ?_ ?_|(refine Or.inr (bx_eq rfl rfl ?_);(try dsimp only [C.ren,C.ren.all]);(try exact rfl))|exact SVLe.refl|refine ceb ?_)
  all_goals first | exact (show nodupB _ = true from rfl) | exact Or.inr rfl | (rfl)
theorem emitNN_ok (b : Ad) (kn : List (Nat × Value)) (A : As) (k r : Int) (hA : AsOk A) (hl : (A.is.length : Int) ≤ 100000) : Does Tryz.prog 206 [.one (.gv 0),.one (int k),.one (int r),.one (.d (.sc (.pointer none))),.one (.d (.sc (.pointer none)))] [asG b kn A] .any [asG b kn (A.emit k r none none)] :=
  emit_ok b kn A k r none none _ _ rfl rfl hA hl
theorem emitNS_ok (b : Ad) (kn : List (Nat × Value)) (A : As) (k r : Int) (i : Nat) (v : Value) (hv : (i,v) ∈ kn) (hA : AsOk A) (hl : (A.is.length : Int) ≤ 100000) : Does Tryz.prog 206 [.one (.gv 0),.one (int k),.one (int r),.one (.d (.sc (.pointer none))),.one (.d (.sc v))] [asG b kn A] .any [asG b kn (A.emit k r none (some i))] :=
  emit_ok b kn A k r none (some i) _ _ rfl hv hA hl
theorem emitSN_ok (b : Ad) (kn : List (Nat × Value)) (A : As) (k r : Int) (i : Nat) (v : Value) (hv : (i,v) ∈ kn) (hA : AsOk A) (hl : (A.is.length : Int) ≤ 100000) : Does Tryz.prog 206 [.one (.gv 0),.one (int k),.one (int r),.one (.d (.sc v)),.one (.d (.sc (.pointer none)))] [asG b kn A] .any [asG b kn (A.emit k r (some i) none)] :=
  emit_ok b kn A k r (some i) none _ _ hv rfl hA hl
@[irreducible] def ptT (sp : List Int) (th : Option Nat) (x : Jn) : Jn := match th with
  | none => x
  | some i => { x with t := sp.getD i 0 }
@[irreducible] def ptE (sp : List Int) (ot : Option Nat) (x : Jn) : Jn := match ot with
  | none => x
  | some i => { x with e := sp.getD i 0 }
@[irreducible] def pt1 (sp : List Int) (is : List Jn) (p : Pt) : List Jn := is.modify p.k.toNat fun x => ptE sp p.ot (ptT sp p.th x)
theorem modify_set {α : Type} (l : List α) (k : Nat) (f : α → α) (h : k < l.length) : l.modify k f = l.set k (f l[k]) := by
  apply List.ext_getElem?
  intro i
  rw [List.getElem?_modify,List.getElem?_set]
  by_cases e : k = i
  · subst e; simp [h]
  · simp [e]
theorem patch_ok (b : Ad) (ad : List Value) (p : Pt) (is : List Jn) (sp : List Int) (hp : PtOk' sp.length p) (had : ad.length = sp.length) (hpt : ∀ v ∈ ad,∃ b off,v = .pointer (some ⟨b,off,none⟩)) (h0 : 0 ≤ p.k) (h1 : p.k < is.length) (hl : (is.length : Int) ≤ 400) : Does Tryz.prog 235 [.one (.d (.bx false [.sc (adr ad p.th)])),.one (.d (.bx false [.sc (paV b)])),.one (.d (.bx false [.sc (.int .i64 p.k)])),.one (.d (.bx false [.sc (adr ad p.ot)]))] [.bx [.gv 1,.d .junk],roJ is,.opq (arR b ad (sp.map some)) [0]] .any [.bx [.gv 1,.d .junk],roJ (pt1 sp is p),.opq (arR b ad (sp.map some)) [0]] := by
  have hk : p.k.toNat < is.length := by omega
  have e : pt1 sp is p = is.set p.k.toNat (ptE sp p.ot (ptT sp p.th is[p.k.toNat])) := by unfold pt1; rw [modify_set _ _ _ hk]
  rw [e]
  obtain ⟨k,th,ot⟩ := p
  dsimp only at *
  have hx : ∀ {o : Option Nat} {i : Nat},o = some i → (∀ j,o = some j → j < sp.length) → ∃ b' off,adr ad o = .pointer (some ⟨b',off,none⟩) ∧ ad[i]? = some (.pointer (some ⟨b',off,none⟩)) := by
    intro o i ho hi
    subst ho
    have hi' : i < ad.length := by rw [had]; exact hi i rfl
    obtain ⟨b',off,e⟩ := hpt _ (List.getElem_mem hi')
    refine ⟨b',off,by rw [adr_some (List.getElem?_eq_getElem hi'),e],by rw [List.getElem?_eq_getElem hi',e]⟩
  cases th with
  | none =>
    cases ot with
    | none =>
      have e1 : ptE sp none (ptT sp none is[k.toNat]) = is[k.toNat] := by unfold ptE ptT; rfl
      rw [adr_none,e1,List.set_getElem_self]
      refine does_of (k := 3) Tryz.func235 rfl Tryz.ntmps235 rfl rfl fun w F0 S0 ρ0 => ?_
      dsimp only [argT,argH]
      repeat' first|(apply p3;(first|exact a_nePN rfl rfl|exact puL);exact rfl)|refine cd ?_|fail
      repeat refine cr ?_
      refine ends_id ?_
      refine endK [] (h2 := ?_) (h3 := ?_) (nd := ?_)
      all_goals (repeat' first|exact ce0|refine ce ?_|refine ce2 ?_ ?_|(refine Or.inr (bx_eq rfl rfl ?_);(try dsimp only [C.ren,C.ren.all]);(try exact rfl))|exact SVLe.refl|refine ceb ?_)
      all_goals first | exact (show nodupB _ = true from rfl) | exact Or.inr rfl | (rfl)
    | some j =>
      obtain ⟨b1,o1,e1,e2⟩ := hx rfl hp.ot
      have hj := hp.ot j rfl
      have e3 : ptE sp (some j) (ptT sp none is[k.toNat]) = ⟨is[k.toNat].k,is[k.toNat].r,is[k.toNat].t,sp[j]⟩ := by unfold ptE ptT; simp [List.getD_eq_getElem?_getD,hj]
      have e4 : (sp.map some)[j]? = some (some sp[j]) := by rw [List.getElem?_map,List.getElem?_eq_getElem hj]; rfl
      rw [adr_none,e1,e3]
      refine does_of (k := 3) Tryz.func235 rfl Tryz.ntmps235 rfl rfl fun w F0 S0 ρ0 => ?_
      dsimp only [argT,argH]
      repeat' first|(apply p3;(first|exact a_nePN rfl rfl|exact puL);exact rfl)|refine cd ?_|(apply g_drN (id := 3) okM [[],[0],[0,1],[0,1,2],[],[],[5],[5,6],[5,6,7],[0,1,2,3,4,5,6,7,8],[0,1,2,3,4,5,6,7,8,9],[0,1,2,3,4,5,6,7,8,9,10]] [([],[]),([],[]),([],[]),([],[]),([],[]),([],[]),([],[]),([],[]),([],[]),([],[]),([],[]),([],[1])] 0;(focus (refine dp 0 0 [23,24,25,26,27] [] (by exact puL) ?_;refine dp 1 1 [23,24,25,26,27] [] (by exact a_nkA 2 rfl rfl) ?_;refine dp 2 3 [23,24,25,26,27] [] (by exact a_pure (sv := .one _) rfl) ?_;refine dp 3 7 [23,24,25,26,27] [] (by exact puL) ?_;refine dp 4 0 [19,20,21,22,24,25,26,27] [] (by exact puL) ?_;refine dp 5 0 [19,20,21,22,23] [] (by exact puL) ?_;refine dp 6 1 [19,20,21,22,23] [] (by exact a_nkS rfl) ?_;refine dp 7 3 [19,20,21,22,23] [] (by exact a_faS rfl (by kernel_rfl)) ?_;refine dp 8 7 [19,20,21,22,23] [] (by exact a_ldS 2 j rfl rfl (fC rfl) e2 e4) ?_;refine dp 9 511 [] [] puI ?_;refine dp 10 1023 [] [] (by exact a_pure (sv := .one _) rfl) ?_;refine duE 11 2047 [] [] (by exact a_stF (E := eJ) ⟨_,_,_,_⟩ rfl rfl rfl rfl (fN rfl rfl) (Nat.le_of_ble_eq_true rfl) (Nat.le_of_ble_eq_true rfl) (by first|exact List.getElem?_set_self bnd|exact List.getElem?_eq_getElem bnd) (by (try dsimp only [setRow,List.set_cons_succ,List.set_cons_zero]);first|done|exact rfl) rfl) (by exact rfl) (by exact rfl) ?_;(refine d_nil ?_;refine dN ?_)));any_goals kernel_rfl)|fail
      repeat refine cr ?_
      refine ends_id ?_
      refine endK [] (h2 := ?_) (h3 := ?_) (nd := ?_)
      all_goals (repeat' first|exact ce0|refine ce ?_|refine ce2 ?_ ?_|(refine Or.inr (bx_eq rfl rfl ?_);(try dsimp only [C.ren,C.ren.all]);(try exact rfl))|exact SVLe.refl|refine ceb ?_)
      all_goals first | exact (show nodupB _ = true from rfl) | exact Or.inr rfl | (rfl)
  | some i =>
    obtain ⟨b1,o1,e1,e2⟩ := hx rfl hp.th
    have hi := hp.th i rfl
    have e4 : (sp.map some)[i]? = some (some sp[i]) := by rw [List.getElem?_map,List.getElem?_eq_getElem hi]; rfl
    cases ot with
    | none =>
      have e3 : ptE sp none (ptT sp (some i) is[k.toNat]) = ⟨is[k.toNat].k,is[k.toNat].r,sp[i],is[k.toNat].e⟩ := by unfold ptE ptT; simp [List.getD_eq_getElem?_getD,hi]
      rw [adr_none,e1,e3]
      refine does_of (k := 3) Tryz.func235 rfl Tryz.ntmps235 rfl rfl fun w F0 S0 ρ0 => ?_
      dsimp only [argT,argH]
      repeat' first|(apply p3;(first|exact a_nePN rfl rfl|exact puL);exact rfl)|refine cd ?_|(apply g_drN (id := 1) okM [[],[0],[0,1],[0,1,2],[],[],[5],[5,6],[5,6,7],[0,1,2,3,4,5,6,7,8],[0,1,2,3,4,5,6,7,8,9],[0,1,2,3,4,5,6,7,8,9,10]] [([],[]),([],[]),([],[]),([],[]),([],[]),([],[]),([],[]),([],[]),([],[]),([],[]),([],[]),([],[1])] 0;(focus (refine dp 0 0 [10,11,12,13,14] [] (by exact puL) ?_;refine dp 1 1 [10,11,12,13,14] [] (by exact a_nkA 2 rfl rfl) ?_;refine dp 2 3 [10,11,12,13,14] [] (by exact a_pure (sv := .one _) rfl) ?_;refine dp 3 7 [10,11,12,13,14] [] (by exact puL) ?_;refine dp 4 0 [6,7,8,9,11,12,13,14] [] (by exact puL) ?_;refine dp 5 0 [6,7,8,9,10] [] (by exact puL) ?_;refine dp 6 1 [6,7,8,9,10] [] (by exact a_nkS rfl) ?_;refine dp 7 3 [6,7,8,9,10] [] (by exact a_faS rfl (by kernel_rfl)) ?_;refine dp 8 7 [6,7,8,9,10] [] (by exact a_ldS 2 i rfl rfl (fC rfl) e2 e4) ?_;refine dp 9 511 [] [] puI ?_;refine dp 10 1023 [] [] (by exact a_pure (sv := .one _) rfl) ?_;refine duE 11 2047 [] [] (by exact a_stF (E := eJ) ⟨_,_,_,_⟩ rfl rfl rfl rfl (fN rfl rfl) (Nat.le_of_ble_eq_true rfl) (Nat.le_of_ble_eq_true rfl) (by first|exact List.getElem?_set_self bnd|exact List.getElem?_eq_getElem bnd) (by (try dsimp only [setRow,List.set_cons_succ,List.set_cons_zero]);first|done|exact rfl) rfl) (by exact rfl) (by exact rfl) ?_;(refine d_nil ?_;refine dN ?_)));any_goals kernel_rfl)|fail
      repeat refine cr ?_
      refine ends_id ?_
      refine endK [] (h2 := ?_) (h3 := ?_) (nd := ?_)
      all_goals (repeat' first|exact ce0|refine ce ?_|refine ce2 ?_ ?_|(refine Or.inr (bx_eq rfl rfl ?_);(try dsimp only [C.ren,C.ren.all]);(try exact rfl))|exact SVLe.refl|refine ceb ?_)
      all_goals first | exact (show nodupB _ = true from rfl) | exact Or.inr rfl | (rfl)
    | some j =>
      obtain ⟨b2,o2,f1,f2⟩ := hx rfl hp.ot
      have hj := hp.ot j rfl
      have f4 : (sp.map some)[j]? = some (some sp[j]) := by rw [List.getElem?_map,List.getElem?_eq_getElem hj]; rfl
      have e3 : ptE sp (some j) (ptT sp (some i) is[k.toNat]) = ⟨is[k.toNat].k,is[k.toNat].r,sp[i],sp[j]⟩ := by unfold ptE ptT; simp [List.getD_eq_getElem?_getD,hi,hj]
      have hk2 : k.toNat < (is.set k.toNat ⟨is[k.toNat].k,is[k.toNat].r,sp[i],is[k.toNat].e⟩).length := by simpa using hk
      rw [e1,f1,e3]
      refine does_of (k := 3) Tryz.func235 rfl Tryz.ntmps235 rfl rfl fun w F0 S0 ρ0 => ?_
      dsimp only [argT,argH]
      repeat' first|(apply p3;(first|exact a_nePN rfl rfl|exact puL);exact rfl)|refine cdn ?_|refine g_reg (id := 0) ?_|(apply g_drN (id := 1) okM [[],[0],[0,1],[0,1,2],[],[],[5],[5,6],[5,6,7],[0,1,2,3,4,5,6,7,8],[0,1,2,3,4,5,6,7,8,9],[0,1,2,3,4,5,6,7,8,9,10]] [([],[]),([],[]),([],[]),([],[]),([],[]),([],[]),([],[]),([],[]),([],[]),([],[]),([],[]),([],[1])] 0;(focus (refine dp 0 0 [10,11,12,13,14] [] (by exact puL) ?_;refine dp 1 1 [10,11,12,13,14] [] (by exact a_nkA 2 rfl rfl) ?_;refine dp 2 3 [10,11,12,13,14] [] (by exact a_pure (sv := .one _) rfl) ?_;refine dp 3 7 [10,11,12,13,14] [] (by exact puL) ?_;refine dp 4 0 [6,7,8,9,11,12,13,14] [] (by exact puL) ?_;refine dp 5 0 [6,7,8,9,10] [] (by exact puL) ?_;refine dp 6 1 [6,7,8,9,10] [] (by exact a_nkS rfl) ?_;refine dp 7 3 [6,7,8,9,10] [] (by exact a_faS rfl (by kernel_rfl)) ?_;refine dp 8 7 [6,7,8,9,10] [] (by exact a_ldS 2 i rfl rfl (fC rfl) e2 e4) ?_;refine dp 9 511 [] [] puI ?_;refine dp 10 1023 [] [] (by exact a_pure (sv := .one _) rfl) ?_;refine duE 11 2047 [] [] (by exact a_stF (E := eJ) ⟨_,_,_,_⟩ rfl rfl rfl rfl (fN rfl rfl) (Nat.le_of_ble_eq_true rfl) (Nat.le_of_ble_eq_true rfl) (by first|exact List.getElem?_set_self bnd|exact List.getElem?_eq_getElem bnd) (by (try dsimp only [setRow,List.set_cons_succ,List.set_cons_zero]);first|done|exact rfl) rfl) (by exact rfl) (by exact rfl) ?_;(refine d_nil ?_;refine dN ?_)));any_goals kernel_rfl)|fail
      repeat' first|(apply p3;(first|exact a_nePN rfl rfl|exact puL);exact rfl)|refine cd ?_|(apply g_drN (id := 3) okM [[],[0],[0,1],[0,1,2],[],[],[5],[5,6],[5,6,7],[0,1,2,3,4,5,6,7,8],[0,1,2,3,4,5,6,7,8,9],[0,1,2,3,4,5,6,7,8,9,10]] [([],[]),([],[]),([],[]),([],[]),([],[]),([],[]),([],[]),([],[]),([],[]),([],[]),([],[]),([],[1])] 0;(focus (refine dp 0 0 [23,24,25,26,27] [] (by exact puL) ?_;refine dp 1 1 [23,24,25,26,27] [] (by exact a_nkA 2 rfl rfl) ?_;refine dp 2 3 [23,24,25,26,27] [] (by exact a_pure (sv := .one _) rfl) ?_;refine dp 3 7 [23,24,25,26,27] [] (by exact puL) ?_;refine dp 4 0 [19,20,21,22,24,25,26,27] [] (by exact puL) ?_;refine dp 5 0 [19,20,21,22,23] [] (by exact puL) ?_;refine dp 6 1 [19,20,21,22,23] [] (by exact a_nkS rfl) ?_;refine dp 7 3 [19,20,21,22,23] [] (by exact a_faS rfl (by kernel_rfl)) ?_;refine dp 8 7 [19,20,21,22,23] [] (by exact a_ldS 2 j rfl rfl (fC rfl) f2 f4) ?_;refine dp 9 511 [] [] puI ?_;refine dp 10 1023 [] [] (by exact a_pure (sv := .one _) rfl) ?_;refine duE 11 2047 [] [] (by exact a_stF (E := eJ) ⟨_,_,_,_⟩ rfl rfl rfl rfl (fN rfl rfl) (Nat.le_of_ble_eq_true rfl) (Nat.le_of_ble_eq_true rfl) (by first|exact List.getElem?_set_self bnd|exact List.getElem?_eq_getElem bnd) (by (try dsimp only [setRow,List.set_cons_succ,List.set_cons_zero]);first|done|exact rfl) rfl) (by exact rfl) (by exact rfl) ?_;(refine d_nil ?_;refine dN ?_)));any_goals kernel_rfl)|fail
      repeat refine cr ?_
      refine ends_id ?_
      refine endK [] (h2 := ?_) (h3 := ?_) (nd := ?_)
      all_goals (repeat' first|exact ce0|refine ce ?_|refine ce2 ?_ ?_|(refine Or.inr (bx_eq rfl rfl ?_);(try dsimp only [C.ren,C.ren.all]);(try exact rfl))|exact SVLe.refl|refine ceb ?_)
      all_goals first | exact (show nodupB _ = true from rfl) | exact Or.inr rfl | ((simp [List.getElem_set_self]))
@[irreducible] def ptAll (sp : List Int) (is : List Jn) (ps : List Pt) : List Jn := ps.foldl (pt1 sp) is
theorem ptAll_snoc (sp : List Int) (is : List Jn) (ps : List Pt) (p : Pt) : ptAll sp is (ps ++ [p]) = pt1 sp (ptAll sp is ps) p := by unfold ptAll; rw [List.foldl_append]; rfl
theorem pt1_len (sp : List Int) (is : List Jn) (p : Pt) : (pt1 sp is p).length = is.length := by unfold pt1; simp
theorem ptAll_len (sp : List Int) (is : List Jn) (ps : List Pt) : (ptAll sp is ps).length = is.length := by
  unfold ptAll
  induction ps generalizing is with
  | nil => rfl
  | cons p ps ih => rw [List.foldl_cons,ih,pt1_len]
structure AsPt (A : As) : Prop where
  pt : ∀ p ∈ A.ps,0 ≤ p.k ∧ p.k < A.is.length
theorem programF_ok (b : Ad) (kn : List (Nat × Value)) (A : As) (h : 400 < (A.is.length : Int)) (h2 : (A.is.length : Int) ≤ 100000) : Does Tryz.prog 150 [.one (.gv 0)] [asG b kn A] (.tup [(false,[.gv 1]),(false,[int 5])]) [.dead,roJ []] := by
  refine does_of (k := 1) Tryz.func150 rfl Tryz.ntmps150 rfl rfl fun w F0 S0 ρ0 => ?_
  dsimp only [argT,argH]
  refine g_opM 0 1 2 3 4 rfl rfl rfl rfl rfl fun ad hk => ?_
  repeat' first|(apply n3;exact a_nilO eJ rfl;exact rfl)|(apply p3;(first|exact pu1|exact puN|exact puC);exact rfl)|refine cd ?_|((refine g_cond rfl (fun hc => ?_) (fun hc => ?_)) <;> (try simp only [dcB] at hc) <;> (try first|contradiction|(exfalso;omega)))|fail
  repeat refine cr ?_
  refine ends_id ?_
  refine endK [?_] (h2 := ?_) (h3 := ?_) (nd := ?_)
  rotate_left 1
  all_goals (repeat' first|exact ce0|refine ce ?_|refine ce2 ?_ ?_|exact SVLe.refl|refine ceb ?_)
  all_goals first | exact (show nodupB _ = true from rfl) | exact Or.inr rfl | (rfl)
theorem program_ok (b : Ad) (kn : List (Nat × Value)) (A : As) (h : (A.is.length : Int) ≤ 400) (hA : AsOk A) (hP : AsPt A) : Does Tryz.prog 150 [.one (.gv 0)] [asG b kn A] (.tup [(false,[.gv 1]),(false,[int 0])]) [.dead,roJ (ptAll A.sp A.is A.ps),.opq (arK kn A.sp) []] := by
  have hl2 := hA.len
  refine does_of (k := 1) Tryz.func150 rfl Tryz.ntmps150 rfl rfl fun w F0 S0 ρ0 => ?_
  dsimp only [argT,argH]
  refine g_opM 0 1 2 3 4 rfl rfl rfl rfl rfl fun ad hk => ?_
  repeat' first|(apply n3;exact a_nilO eJ rfl;exact rfl)|(apply p3;(first|exact pu1|exact puN|exact puC);exact rfl)|refine cd ?_|((refine g_cond rfl (fun hc => ?_) (fun hc => ?_)) <;> (try simp only [dcB] at hc) <;> (try first|contradiction|(exfalso;omega)))|fail
  refine g_conv (t_junkB (i := 0) (k := 1) rfl) ?_
  try dsimp only [setRow,List.map_cons,List.map_nil,scC,List.set_cons_zero,List.set_cons_succ]
  refine g_loop_id ?_
  refine loopK [0,2,3,15,16] [0,1,3] (fun x : Int × List Jn => 0 ≤ x.1 ∧ x.1 ≤ A.ps.length ∧ x.2 = ptAll A.sp A.is (A.ps.take x.1.toNat)) (fun x => [(17,.one (int x.1))]) (fun x => [(0,.bx [.gv 1,.d .junk]),(1,roJ x.2),(3,.opq (arR b ad (A.sp.map some)) [0])]) (fun x => (A.ps.length - x.1).toNat) ((0 : Int),A.is) [0,1,2,3,4] (hI := ?_) (hr := ?_)
  · refine ⟨by simp,by simp,?_⟩
    show A.is = ptAll A.sp A.is (A.ps.take 0)
    unfold ptAll
    rfl
  · rintro ⟨i,l⟩ ⟨k0,k1,k2⟩
    dsimp only [List.cons_append,List.nil_append] at *
    skip
    repeat' first|refine cdn ?_|fail
    have hlen : l.length = A.is.length := by rw [k2,ptAll_len]
    by_cases hi : i.toNat < A.ps.length
    · have hpl : (A.ps[i.toNat]).k < l.length := by rw [hlen]; exact (hP.pt _ (List.getElem_mem hi)).2
      have hpm : (l.length : Int) ≤ 400 := by rw [hlen]; exact h
      repeat' first|(apply p3;(first|exact pu1|exact puC|exact a_ldE (E := eP b ad) 0 rfl rfl rfl (fC rfl) rfl rfl (Nat.le_of_ble_eq_true rfl) bnd rfl (by repeat (first|exact trivial|exact rfl|refine And.intro ?_ ?_))|exact a_add rfl rfl (by omega) (by omega)|exact puI);exact rfl)|refine cd ?_|(apply c4 0;exact callK0 (θ := [0,1,3]) (hD := (patch_ok b ad (A.ps[i.toNat]'hi) _ A.sp (hk.ps _ (List.getElem_mem hi)) hk.len hk.ptr (hP.pt _ (List.getElem_mem hi)).1 hpl hpm));exact rfl;exact rfl;exact rfl;refine dM ?_)|((refine g_cond rfl (fun hc => ?_) (fun hc => ?_)) <;> (try simp only [dcB] at hc) <;> (try first|contradiction|(exfalso;omega)))|fail
      refine q_again (i + 1,pt1 A.sp l A.ps[i.toNat]) [0,1,2,3,4] (by exact stk) ?_ ?_
      · refine ⟨by dsimp only; omega,by dsimp only; omega,?_⟩
        dsimp only
        rw [k2,show (i + 1).toNat = i.toNat + 1 by omega,List.take_succ_eq_append_getElem hi,ptAll_snoc]
      · dsimp only; omega
    · skip
      have e : l = ptAll A.sp A.is A.ps := by rw [k2,List.take_of_length_le (by omega)]
      rw [← e]
      refine g_conv (t_arK kn 3 rfl hk.kn) ?_
      repeat' first|(apply p3;(first|exact pu1|exact puC);exact rfl)|refine cd ?_|((refine g_cond rfl (fun hc => ?_) (fun hc => ?_)) <;> (try simp only [dcB] at hc) <;> (try first|contradiction|(exfalso;omega)))|fail
      repeat refine cr ?_
      refine ends_id ?_
      refine endK [1,3] (h2 := ?_) (h3 := ?_) (nd := ?_)
      all_goals (repeat' first|exact ce0|refine ce ?_|refine ce2 ?_ ?_|(refine Or.inr (bx_eq rfl rfl ?_);(try dsimp only [C.ren,C.ren.all]);(try exact rfl))|exact SVLe.refl|refine ceb ?_)
      all_goals first | exact (show nodupB _ = true from rfl) | exact Or.inr rfl | (rfl)
end Go.Proofs.YtegpggobfdcafaaGreat
end
section
set_option linter.unusedVariables false
set_option linter.unusedSimpArgs false
set_option maxRecDepth 100000
set_option maxHeartbeats 4000000
namespace Go.Proofs.YtegpggobfdcafaaGreat
open Go Foot
@[irreducible] def stepL (u : Rule') (l r : List Int) : List Int := if 0 < u.m then pushL l u.w else l.dropLast
@[irreducible] def stepR (u : Rule') (l r : List Int) : List Int := if 0 < u.m then r.dropLast else pushL (pushL r.dropLast u.w) (l.getLastD 0)
theorem pushL_len (l : List Int) (x : Int) : (pushL l x).length ≤ l.length + 1 := by unfold pushL; split <;> simp
theorem preB5 {p : Prop} (h : p := by first | with_reducible assumption | omega | (simp only [List.length_append,List.length_cons,List.length_nil,List.length_set,List.length_replicate,List.length_take,List.length_drop,List.length_tail,List.length_dropLast,List.length_reverse] at *; omega) | exact mem_len (by assumption) (by omega) | (with_reducible refine Int.le_trans (Int.ofNat_le.2 (trimR_len _)) ?_; simp only [List.length_cons,List.length_tail]; omega) | (have := vMach_bd (by assumption); omega) | (with_reducible refine Int.le_trans (Int.ofNat_le.2 (pushL_len _ _)) ?_; simp only [List.length_dropLast]; omega) | trivial) : p := h
theorem step_ok (m : Mach) (s : Int) (l r : List Int) (u : Rule') (hx : (r.length : Int) ≤ 1000) (hy : (l.length : Int) ≤ 1000) (h1 : 0 ≤ s * m.sy) (h2 : s * m.sy < 9223372036854775) (h3 : 0 ≤ r.getLastD 0) (h4 : r.getLastD 0 < 9223372036854775) (h5 : s * m.sy + r.getLastD 0 < m.ru.length) (h6 : m.ru[(s * m.sy + r.getLastD 0).toNat]? = some u) : Does Tryz.prog 100 [.one (.gv 0)] [ruBx m s 1 2,roI l,roI r] (.one (boo (decide ((stepL u l r).length ≤ 200 ∧ (stepR u l r).length ≤ 200)))) [ruBx m u.n 3 4,.dead,.dead,roI (stepL u l r),roI (stepR u l r)] := by
  have h6' := (List.getElem?_eq_some_iff.1 h6).2
  refine does_of (k := 3) Tryz.func100 rfl Tryz.ntmps100 rfl rfl fun w F0 S0 ρ0 => ?_
  dsimp only [argT,argH]
  repeat' first|(apply n3;exact a_new (gb := .bx _) rfl;exact rfl;refine dA ?_)|(apply p3;(first|exact pu1|exact puC|exact puN);exact rfl)|refine cd ?_|(apply w3;(exact a_st_bx rfl rfl rfl rfl (fN rfl rfl) (Nat.le_of_ble_eq_true rfl) rfl);exact rfl;refine dS ?_)|(apply c4 0;exact callK1 (θ := []) (hD := (rule_ok _ _ _ _ preB5 preB5 preB5 preB5 preB5 preB5));exact rfl;exact rfl;exact rfl;refine dM ?_)|(apply c4 1;exact callK1 (θ := [_]) (hD := (pop_ok _ preB5));exact rfl;exact rfl;exact rfl;refine dM ?_)|refine o_no rfl rfl rfl rfl ?_|(apply py3;exact rfl;exact rfl;(first|exact pu1|exact puC|exact puN);exact rfl;exact rfl)|(apply g_drN (id := 4) okM [[],[],[1],[1,2],[1,2,3],[],[5],[1,2,3,4,5,6],[0,1,2,3,4,5,6,7],[0,1,2,3,4,5,6,7,8],[0,1,2,3,4,5,6,7,8,9]] [([],[]),([],[]),([],[]),([],[]),([],[]),([],[]),([],[]),([0],[1]),([],[]),([],[]),([],[0])] 1;(focus (refine dp 0 0 [18,19,20,21,22,23,24] [(true,0),(false,1)] pu1 ?_;refine dp 1 0 [17,22,23] [] pu1 ?_;refine dp 2 1 [17,22,23] [] (a_pure (sv := .one _) rfl) ?_;refine dp 3 3 [17,22,23] [] (a_pure (sv := .one _) rfl) ?_;refine dp 4 7 [17,22,23] [] puL ?_;refine dp 5 0 [17,18,19,20,21] [] (a_pure (sv := .one _) rfl) ?_;refine dp 6 1 [17,18,19,20,21] [] puL ?_;refine duN 7 63 [17] [] (callD1 (n := _) 0 (θ := [_]) (hD := (push_ok _ _ preB5))) (by exact rfl) (by exact rfl) ?_;refine dp 8 255 [] [] (a_pure (sv := .one _) rfl) ?_;refine dp 9 511 [] [] (a_pure (sv := .one _) rfl) ?_;refine duE 10 1023 [] [] (by exact a_st_bx rfl rfl rfl rfl (fN rfl rfl) (Nat.le_of_ble_eq_true rfl) rfl) (by exact rfl) (by exact rfl) ?_;(refine d_nil ?_;refine dN ?_)));any_goals kernel_rfl)|(apply g_drN (id := 5) okM [[],[],[1],[1,2],[1,2,3],[],[5],[1,2,3,4,5,6],[],[8],[8,9],[8,9,10],[1,2,3,4,5,6,7,8,9,10,11],[1,2,3,4,5,6,7,8,9,10,11,12],[0,1,2,3,4,5,6,7,8,9,10,11,12,13],[0,1,2,3,4,5,6,7,8,9,10,11,12,13,14],[0,1,2,3,4,5,6,7,8,9,10,11,12,13,14,15]] [([],[]),([],[]),([],[]),([],[]),([],[]),([],[]),([],[]),([0],[4]),([],[]),([],[]),([],[]),([],[]),([],[]),([1],[5]),([],[]),([],[]),([],[0])] 2;(focus (refine dp 0 0 [28,29,30,31,32,33,34,35,36,37,38,39,40] [(true,0),(false,4),(true,1),(false,5)] pu1 ?_;refine dp 1 0 [27,32,33,35,36,37,38] [] pu1 ?_;refine dp 2 1 [27,32,33,35,36,37,38] [] (a_pure (sv := .one _) rfl) ?_;refine dp 3 3 [27,32,33,35,36,37,38] [] (a_pure (sv := .one _) rfl) ?_;refine dp 4 7 [27,32,33,35,36,37,38] [] puL ?_;refine dp 5 0 [27,28,29,30,31,35,36,37,38] [] (a_pure (sv := .one _) rfl) ?_;refine dp 6 1 [27,28,29,30,31,35,36,37,38] [] puL ?_;refine duN 7 63 [27,35,36,37,38] [] (callD1 (n := _) 0 (θ := [_]) (hD := (push_ok _ _ preB5))) (by exact rfl) (by exact rfl) ?_;refine dp 8 0 [27,28,29,30,31,32,33,34] [(true,0),(false,4)] pu1 ?_;refine dp 9 1 [27,28,29,30,31,32,33,34] [(true,0),(false,4)] (a_pure (sv := .one _) rfl) ?_;refine dp 10 3 [27,28,29,30,31,32,33,34] [(true,0),(false,4)] (a_pure (sv := .one _) rfl) ?_;refine dp 11 7 [27,28,29,30,31,32,33,34] [(true,0),(false,4)] puL ?_;refine dp 12 2047 [27] [] (callD1 (n := _) 1 (θ := []) (hD := (nearest_ok _ preB5))) ?_;refine duN 13 4095 [27] [] (callD1 (n := _) 1 (θ := [_]) (hD := (push_ok _ _ preB5))) (by exact rfl) (by exact rfl) ?_;refine dp 14 16383 [] [] (a_pure (sv := .one _) rfl) ?_;refine dp 15 32767 [] [] (a_pure (sv := .one _) rfl) ?_;refine duE 16 65535 [] [] (by exact a_st_bx rfl rfl rfl rfl (fN rfl rfl) (Nat.le_of_ble_eq_true rfl) rfl) (by exact rfl) (by exact rfl) ?_;(refine d_nil ?_;refine dN ?_)));any_goals kernel_rfl)|((first|refine o_gs rfl rfl (fun hc => ?_) (fun hc => ?_)|refine g_cond rfl (fun hc => ?_) (fun hc => ?_)) <;> (try simp only [dcB] at hc) <;> (try first|contradiction|(exfalso;omega)))|fail
  all_goals (simp only [h6'] at *)
  all_goals
    repeat refine cr ?_
    refine ends_id ?_
    refine endK [?_,?_] (h2 := ?_) (h3 := ?_) (nd := ?_)
    rotate_left 2
    all_goals (repeat' first|exact ce0|refine ce ?_|refine ce2 ?_ ?_|(refine Or.inr (bx_eq rfl rfl ?_);(try dsimp only [C.ren,C.ren.all]);(try exact rfl))|exact SVLe.refl|refine ceb ?_)
    all_goals first | exact (show nodupB _ = true from rfl) | exact Or.inr rfl | (((first | rw [decide_eq_decide] | (symm; rw [decide_eq_false_iff_not]) | skip); simp only [stepL,stepR,if_true,if_false, *]; try omega))
theorem config_ok (m : Mach) (s : Int) (l r : List Int) (hx : (r.length : Int) ≤ 16777216) (hy : (l.length : Int) ≤ 16777216) : Does Tryz.prog 54 [.one (ruD m s l r)] [] (.agg [int s,.gv 0,.gv 1]) [roI l.reverse,roI r.reverse] := by
  refine does_of (k := 0) Tryz.func54 rfl Tryz.ntmps54 rfl rfl fun w F0 S0 ρ0 => ?_
  dsimp only [argT,argH]
  repeat' first|(apply n3;exact a_new (gb := .bx _) rfl;exact rfl;refine dA ?_)|refine cd ?_|(apply g_drN (id := 1) okM [[],[0],[0,1],[0,1,2],[],[4],[4,5],[4,5,6],[4,5,6,7],[],[9],[9,10],[9,10,11],[4,5,6,7,8,9,10,11,12],[0,1,2,3,4,5,6,7,8,9,10,11,12,13],[0,1,2,3,4,5,6,7,8,9,10,11,12,13,14]] [([],[]),([],[]),([],[]),([],[]),([],[]),([],[]),([],[]),([],[]),([0],[]),([],[]),([],[]),([],[]),([],[]),([1],[]),([],[]),([],[0])] 2;(focus (refine dp 0 0 [7,8,9,10,11,12,13,14,15,16] [(true,0),(true,1)] pu1 ?_;refine dp 1 1 [7,8,9,10,11,12,13,14,15,16] [(true,0),(true,1)] (a_pure (sv := .one _) rfl) ?_;refine dp 2 3 [7,8,9,10,11,12,13,14,15,16] [(true,0),(true,1)] (a_pure (sv := .one _) rfl) ?_;refine dp 3 7 [7,8,9,10,11,12,13,14,15,16] [(true,0),(true,1)] puL ?_;refine dp 4 0 [3,4,5,6,12,13,14,15] [] pu1 ?_;refine dp 5 1 [3,4,5,6,12,13,14,15] [] (a_pure (sv := .one _) rfl) ?_;refine dp 6 3 [3,4,5,6,12,13,14,15] [] (a_pure (sv := .one _) rfl) ?_;refine dp 7 7 [3,4,5,6,12,13,14,15] [] puL ?_;refine duN 8 15 [3,4,5,6,12,13,14,15] [] (callD1 (n := _) 0 (θ := []) (hD := (reversed_ok _ preB5))) (by exact rfl) (by exact rfl) ?_;refine dp 9 0 [3,4,5,6,7,8,9,10,11] [(true,0)] pu1 ?_;refine dp 10 1 [3,4,5,6,7,8,9,10,11] [(true,0)] (a_pure (sv := .one _) rfl) ?_;refine dp 11 3 [3,4,5,6,7,8,9,10,11] [(true,0)] (a_pure (sv := .one _) rfl) ?_;refine dp 12 7 [3,4,5,6,7,8,9,10,11] [(true,0)] puL ?_;refine duN 13 511 [3,4,5,6] [] (callD1 (n := _) 1 (θ := []) (hD := (reversed_ok _ preB5))) (by exact rfl) (by exact rfl) ?_;refine dp 14 16383 [] [] (a_pure (sv := .agg _) rfl) ?_;refine duE 15 32767 [] [] (by exact a_st_bx rfl rfl rfl rfl (fN rfl rfl) (Nat.le_of_ble_eq_true rfl) rfl) (by exact rfl) (by exact rfl) ?_;(refine d_nil ?_;refine dN ?_)));any_goals kernel_rfl)|fail
  repeat refine cr ?_
  refine ends_id ?_
  refine endK [?_,?_] (h2 := ?_) (h3 := ?_) (nd := ?_)
  rotate_left 2
  all_goals (repeat' first|exact ce0|refine ce ?_|refine ce2 ?_ ?_|exact SVLe.refl|refine ceb ?_)
  all_goals first | exact (show nodupB _ = true from rfl) | exact Or.inr rfl | (rfl)
theorem l05Halts_ok (m : Mach) (c : Conf) (hc : (c.ri.length : Int) ≤ 16777216) (h1 : 0 ≤ c.st * m.sy) (h2 : c.st * m.sy < 9223372036854775) (h3 : 0 ≤ c.ri.headD 0) (h4 : c.ri.headD 0 < 9223372036854775) (h5 : c.st * m.sy + c.ri.headD 0 < m.ru.length) : Does Tryz.prog 35 [.one (maB m),.one (coB c)] [] (.one (boo (decide (m.ru[(c.st * m.sy + c.ri.headD 0).toNat]'(by omega) = ⟨0,0,-1⟩)))) [] := by
  refine does_of (k := 0) Tryz.func35 rfl Tryz.ntmps35 rfl rfl fun w F0 S0 ρ0 => ?_
  dsimp only [argT,argH]
  repeat' first|(apply p3;exact a_pure (sv := .one _) rfl;exact rfl)|refine cd ?_|(apply g_drN (id := 1) okM [[],[0],[0,1],[0,1,2],[],[],[4,5],[0,1,2,3,4,5,6],[0,1,2,3,4,5,6,7],[4,5,6],[0,1,2,3,4,5,6,7,8,9],[0,1,2,3,4,5,6,7,8,9,10]] [([],[]),([],[]),([],[]),([],[]),([],[]),([],[]),([],[]),([],[]),([],[]),([],[]),([],[]),([],[])] 0;(focus (refine dp 0 0 [9,10,11,14] [] pu1 ?_;refine dp 1 1 [9,10,11,14] [] (a_pure (sv := .one _) rfl) ?_;refine dp 2 3 [9,10,11,14] [] (a_pure (sv := .one _) rfl) ?_;refine dp 3 7 [9,10,11,14] [] puL ?_;refine dp 4 0 [5,6,7,8,10] [] pu1 ?_;refine dp 5 0 [5,6,7,8,9] [] pu1 ?_;refine dp 6 3 [5,6,7,8] [] (callD1 (n := _) 0 (θ := []) (hD := (l05At_ok _ _ preB5 preB5 preB5 preB5 preB5))) ?_;refine dp 7 127 [14] [] puI ?_;refine dp 8 255 [14] [] puL ?_;refine dp 9 28 [5,6,7,8,12,13] [] (callD1 (n := _) 0 (θ := []) (hD := l05None_ok)) ?_;refine dp 10 1023 [] [] (by exact a_eqRule (s := ⟨_,_,_⟩) rfl rfl) ?_;refine dp 11 2047 [] [] pu1 ?_;(refine d_nil ?_;refine dN ?_)));any_goals kernel_rfl)|fail
  repeat refine cr ?_
  refine ends_id ?_
  refine endK [] (h2 := ?_) (h3 := ?_) (nd := ?_)
  all_goals (repeat' first|exact ce0|refine ce ?_|refine ce2 ?_ ?_|exact SVLe.refl|refine ceb ?_)
  all_goals first | exact (show nodupB _ = true from rfl) | exact Or.inr rfl | (rfl)
theorem l05OwnConfig_ok (c : Conf) (hx : (c.le.length : Int) ≤ 16777216) (hy : (c.ri.length : Int) ≤ 16777216) : Does Tryz.prog 34 [.one (coB c)] [] (.agg [int c.st,.gv 0,.gv 1]) [roI c.le,roI c.ri] := by
  refine does_of (k := 0) Tryz.func34 rfl Tryz.ntmps34 rfl rfl fun w F0 S0 ρ0 => ?_
  dsimp only [argT,argH]
  repeat' first|(apply n3;exact a_new (gb := .bx _) rfl;exact rfl;refine dA ?_)|refine cd ?_|(apply g_drN (id := 1) okM [[],[0],[0,1],[0,1,2],[],[4],[4,5],[4,5,6],[4,5,6,7],[],[9],[9,10],[9,10,11],[4,5,6,7,8,9,10,11,12],[0,1,2,3,4,5,6,7,8,9,10,11,12,13],[0,1,2,3,4,5,6,7,8,9,10,11,12,13,14]] [([],[]),([],[]),([],[]),([],[]),([],[]),([],[]),([],[]),([],[]),([0],[]),([],[]),([],[]),([],[]),([],[]),([1],[]),([],[]),([],[0])] 2;(focus (refine dp 0 0 [7,8,9,10,11,12,13,14,15,16] [(true,0),(true,1)] pu1 ?_;refine dp 1 1 [7,8,9,10,11,12,13,14,15,16] [(true,0),(true,1)] (a_pure (sv := .one _) rfl) ?_;refine dp 2 3 [7,8,9,10,11,12,13,14,15,16] [(true,0),(true,1)] (a_pure (sv := .one _) rfl) ?_;refine dp 3 7 [7,8,9,10,11,12,13,14,15,16] [(true,0),(true,1)] puL ?_;refine dp 4 0 [3,4,5,6,12,13,14,15] [] pu1 ?_;refine dp 5 1 [3,4,5,6,12,13,14,15] [] (a_pure (sv := .one _) rfl) ?_;refine dp 6 3 [3,4,5,6,12,13,14,15] [] (a_pure (sv := .one _) rfl) ?_;refine dp 7 7 [3,4,5,6,12,13,14,15] [] puL ?_;refine duN 8 15 [3,4,5,6,12,13,14,15] [] (callD1 (n := _) 0 (θ := []) (hD := (l00Own_ok _ preB5))) (by exact rfl) (by exact rfl) ?_;refine dp 9 0 [3,4,5,6,7,8,9,10,11] [(true,0)] pu1 ?_;refine dp 10 1 [3,4,5,6,7,8,9,10,11] [(true,0)] (a_pure (sv := .one _) rfl) ?_;refine dp 11 3 [3,4,5,6,7,8,9,10,11] [(true,0)] (a_pure (sv := .one _) rfl) ?_;refine dp 12 7 [3,4,5,6,7,8,9,10,11] [(true,0)] puL ?_;refine duN 13 511 [3,4,5,6] [] (callD1 (n := _) 1 (θ := []) (hD := (l00Own_ok _ preB5))) (by exact rfl) (by exact rfl) ?_;refine dp 14 16383 [] [] (a_pure (sv := .agg _) rfl) ?_;refine duE 15 32767 [] [] (by exact a_st_bx rfl rfl rfl rfl (fN rfl rfl) (Nat.le_of_ble_eq_true rfl) rfl) (by exact rfl) (by exact rfl) ?_;(refine d_nil ?_;refine dN ?_)));any_goals kernel_rfl)|fail
  repeat refine cr ?_
  refine ends_id ?_
  refine endK [?_,?_] (h2 := ?_) (h3 := ?_) (nd := ?_)
  rotate_left 2
  all_goals (repeat' first|exact ce0|refine ce ?_|refine ce2 ?_ ?_|exact SVLe.refl|refine ceb ?_)
  all_goals first | exact (show nodupB _ = true from rfl) | exact Or.inr rfl | (rfl)
end Go.Proofs.YtegpggobfdcafaaGreat
end
section
set_option linter.unusedVariables false
set_option linter.unusedSimpArgs false
set_option maxRecDepth 100000
set_option maxHeartbeats 4000000
namespace Go.Proofs.YtegpggobfdcafaaGreat
open Go Foot
theorem vSide_bd {sy : Int} {l : List Int} (h : vSide sy l = true) : (l.length : Int) ≤ 200 ∧ (∀ x ∈ l,0 ≤ x ∧ x ≤ sy - 1) ∧ l.getLastD 1 ≠ 0 := by
  unfold vSide at h
  simp only [Bool.and_eq_true,List.all_eq_true,decide_eq_true_eq] at h
  exact ⟨h.2.1,h.1,h.2.2⟩
theorem vSide_mk {sy : Int} {l : List Int} (h1 : (l.length : Int) ≤ 200) (h2 : ∀ x ∈ l,0 ≤ x ∧ x ≤ sy - 1) (h3 : l.getLastD 1 ≠ 0) : vSide sy l = true := by
  unfold vSide
  simp only [Bool.and_eq_true,List.all_eq_true,decide_eq_true_eq]
  exact ⟨h2,h1,h3⟩
theorem vConf_bd {m : Mach} {c : Conf} (h : vConf m c = true) : (0 ≤ c.st ∧ c.st ≤ m.st - 1) ∧ vSide m.sy c.le = true ∧ vSide m.sy c.ri = true := by
  unfold vConf at h
  simp only [Bool.and_eq_true,decide_eq_true_eq] at h
  exact ⟨h.1.1,h.1.2,h.2⟩
theorem vConf_mk {m : Mach} {c : Conf} (h : (0 ≤ c.st ∧ c.st ≤ m.st - 1) ∧ vSide m.sy c.le = true ∧ vSide m.sy c.ri = true) : vConf m c = true := by
  unfold vConf
  simp only [Bool.and_eq_true,decide_eq_true_eq]
  exact ⟨⟨h.1,h.2.1⟩,h.2.2⟩
abbrev noR : Rule' := ⟨0,0,-1⟩
@[irreducible] def ruAt (m : Mach) (c : Conf) : Rule' := m.ru.getD (c.st * m.sy + c.ri.headD 0).toNat noR
theorem headD_bd {sy : Int} {l : List Int} (hs : 2 ≤ sy) (h : vSide sy l = true) : 0 ≤ l.headD 0 ∧ l.headD 0 ≤ sy - 1 := by
  have := (vSide_bd h).2.1
  cases l with
  | nil => simp; omega
  | cons a l => exact this a (by simp)
theorem at_bd {m : Mach} {c : Conf} (hm : vMach m = true) (hc : vConf m c = true) : 0 ≤ c.st * m.sy ∧ 0 ≤ c.ri.headD 0 ∧ c.ri.headD 0 ≤ 5 ∧ c.st * m.sy + c.ri.headD 0 < m.ru.length ∧ (m.ru.length : Int) ≤ 6000 ∧ c.st ≤ 999 ∧ 0 ≤ c.st ∧ (c.le.length : Int) ≤ 200 ∧ (c.ri.length : Int) ≤ 200 := by
  obtain ⟨⟨h1,h2⟩,⟨h3,h4⟩,h5⟩ := vMach_bd hm
  obtain ⟨⟨h6,h7⟩,h8,h9⟩ := vConf_bd hc
  obtain ⟨h10,h11⟩ := headD_bd h1 h9
  have a1 : c.st * m.sy ≤ (m.st - 1) * m.sy := Int.mul_le_mul_of_nonneg_right h7 (by omega)
  have a2 : (m.st - 1) * m.sy = m.sy * m.st - m.sy := by rw [Int.sub_mul,Int.mul_comm]; omega
  have a3 : m.sy * m.st ≤ 6 * m.st := Int.mul_le_mul_of_nonneg_right h2 (by omega)
  exact ⟨Int.mul_nonneg h6 (by omega),h10,by omega,by omega,by omega,by omega,h6,(vSide_bd h8).1,(vSide_bd h9).1⟩
theorem ruAt_get {m : Mach} {c : Conf} (hm : vMach m = true) (hc : vConf m c = true) : m.ru[(c.st * m.sy + c.ri.headD 0).toNat]? = some (ruAt m c) := by
  have h := at_bd hm hc
  rw [ruAt,List.getD_eq_getElem?_getD,List.getElem?_eq_getElem (by omega)]
  rfl
theorem ruAt_ge {m : Mach} {c : Conf} (hm : vMach m = true) (hc : vConf m c = true) (h : (c.st * m.sy + c.ri.headD 0).toNat < m.ru.length) : m.ru[(c.st * m.sy + c.ri.headD 0).toNat] = ruAt m c :=
  (List.getElem?_eq_some_iff.1 (ruAt_get hm hc)).2
theorem ruAt_ok {m : Mach} {c : Conf} (hm : vMach m = true) (hc : vConf m c = true) (hn : ruAt m c ≠ noR) : (0 ≤ (ruAt m c).w ∧ (ruAt m c).w ≤ m.sy - 1) ∧ ((ruAt m c).m = 1 ∨ (ruAt m c).m = -1) ∧ 0 ≤ (ruAt m c).n ∧ (ruAt m c).n ≤ m.st - 1 := by
  have hg := ruAt_get hm hc
  have := hm
  unfold vMach at this
  rw [Bool.and_eq_true,List.all_eq_true] at this
  have := this.2 _ (List.mem_of_getElem? hg)
  unfold okRule at this
  rw [decide_eq_true_eq] at this
  exact this.resolve_left hn
theorem trimR_id {l : List Int} (h : l.getLastD 1 ≠ 0) : trimR l = l := by
  unfold trimR
  cases hl : l.reverse with
  | nil => rw [List.reverse_eq_nil_iff] at hl; subst hl; rfl
  | cons a r =>
    have : l = r.reverse ++ [a] := by rw [← List.reverse_reverse l,hl,List.reverse_cons]
    subst this
    rw [List.getLastD_concat] at h
    rw [List.dropWhile_cons_of_neg (by simpa using h)]
    simp
theorem trimR_norm (l : List Int) : (trimR l).getLastD 1 ≠ 0 := by
  unfold trimR
  rw [List.getLastD_eq_getLast?,List.getLast?_reverse]
  cases h : l.reverse.dropWhile (· == 0) with
  | nil => decide
  | cons a r =>
    have := List.head?_dropWhile_not (· == (0 : Int)) l.reverse
    rw [h] at this
    simp at this
    simpa using this
theorem trimR_mem {l : List Int} {x : Int} (h : x ∈ trimR l) : x ∈ l := by
  unfold trimR at h
  rw [List.mem_reverse] at h
  exact List.mem_reverse.1 ((List.dropWhile_sublist _).mem h)
theorem trimR_cons {x : Int} {l : List Int} (h : l.getLastD 1 ≠ 0) : trimR (x :: l) = if x = 0 ∧ l = [] then [] else x :: l := by
  split
  · rename_i e
    obtain ⟨rfl,rfl⟩ := e
    decide +kernel
  · rename_i hn
    apply trimR_id
    cases l with
    | nil => simpa using hn
    | cons a l => simpa using h
theorem norm_tail {l : List Int} (h : l.getLastD 1 ≠ 0) : l.tail.getLastD 1 ≠ 0 := by
  cases l with
  | nil => simp
  | cons a l =>
    cases l with
    | nil => simp
    | cons b l => simpa using h
theorem pushL_rev {x : Int} {l : List Int} (h : l.getLastD 1 ≠ 0) : pushL l.reverse x = (trimR (x :: l)).reverse := by
  rw [trimR_cons h]
  unfold pushL
  split
  · rename_i e
    rw [List.reverse_eq_nil_iff] at e
    rw [if_pos e,e.2]
  · rename_i e
    rw [List.reverse_eq_nil_iff] at e
    rw [if_neg e,List.reverse_cons]
theorem getLastD_rev (l : List Int) (d : Int) : l.reverse.getLastD d = l.headD d := by
  rw [List.getLastD_eq_getLast?,List.getLast?_reverse]
  cases l <;> rfl
theorem dropLast_rev (l : List Int) : l.reverse.dropLast = l.tail.reverse := List.dropLast_reverse
theorem stepL_rev {m : Mach} {c : Conf} (hc : vConf m c = true) (u : Rule') : stepL u c.le.reverse c.ri.reverse = (stepS u c).le.reverse := by
  obtain ⟨_,h1,h2⟩ := vConf_bd hc
  unfold stepL stepS
  split
  · exact pushL_rev (vSide_bd h1).2.2
  · exact dropLast_rev _
theorem stepR_rev {m : Mach} {c : Conf} (hc : vConf m c = true) (u : Rule') : stepR u c.le.reverse c.ri.reverse = (stepS u c).ri.reverse := by
  obtain ⟨_,h1,h2⟩ := vConf_bd hc
  unfold stepR stepS
  split
  · exact dropLast_rev _
  · rw [dropLast_rev,pushL_rev (norm_tail (vSide_bd h2).2.2),pushL_rev (trimR_norm _),getLastD_rev]
theorem stepS_n (u : Rule') (c : Conf) : (stepS u c).st = u.n := by unfold stepS; split <;> rfl
theorem stepS_ok {m : Mach} {c : Conf} (hm : vMach m = true) (hc : vConf m c = true) (hn : ruAt m c ≠ noR) (hr : roomS (stepS (ruAt m c) c) = true) : vConf m (stepS (ruAt m c) c) = true := by
  obtain ⟨hw,hmv,hst⟩ := ruAt_ok hm hc hn
  obtain ⟨_,h1,h2⟩ := vConf_bd hc
  have hb := (vMach_bd hm).1
  obtain ⟨a1,a2,a3⟩ := vSide_bd h1
  obtain ⟨b1,b2,b3⟩ := vSide_bd h2
  unfold roomS at hr
  rw [decide_eq_true_eq] at hr
  apply vConf_mk
  rw [stepS_n]
  refine ⟨hst,vSide_mk (by omega) ?_ ?_,vSide_mk (by omega) ?_ ?_⟩
  · unfold stepS
    split
    · intro x hx
      rcases List.mem_cons.1 (trimR_mem hx) with rfl | hx
      · exact hw
      · exact a2 x hx
    · intro x hx
      exact a2 x (List.mem_of_mem_tail hx)
  · unfold stepS
    split
    · exact trimR_norm _
    · exact norm_tail a3
  · unfold stepS
    split
    · intro x hx
      exact b2 x (List.mem_of_mem_tail hx)
    · intro x hx
      rcases List.mem_cons.1 (trimR_mem hx) with rfl | hx
      · exact headD_bd hb.1 h1
      · rcases List.mem_cons.1 (trimR_mem hx) with rfl | hx
        · exact hw
        · exact b2 x (List.mem_of_mem_tail hx)
  · unfold stepS
    split
    · exact norm_tail b3
    · exact trimR_norm _
theorem stepC_ok (m : Mach) (c : Conf) (hm : vMach m = true) (hc : vConf m c = true) : Does Tryz.prog 100 [.one (.gv 0)] [ruBx m c.st 1 2,roI c.le.reverse,roI c.ri.reverse] (.one (boo (roomS (stepS (ruAt m c) c)))) [ruBx m (stepS (ruAt m c) c).st 3 4,.dead,.dead,roI (stepS (ruAt m c) c).le.reverse,roI (stepS (ruAt m c) c).ri.reverse] := by
  have hb := at_bd hm hc
  have := step_ok m c.st c.le.reverse c.ri.reverse (ruAt m c) (by simp; omega) (by simp; omega) (by omega) (by omega) (by rw [getLastD_rev]; omega) (by rw [getLastD_rev]; omega) (by rw [getLastD_rev]; omega) (by rw [getLastD_rev]; exact ruAt_get hm hc)
  rw [stepL_rev hc,stepR_rev hc,List.length_reverse,List.length_reverse,← stepS_n (ruAt m c) c] at this
  unfold roomS
  exact this
theorem ruleC_ok (m : Mach) (c : Conf) (hm : vMach m = true) (hc : vConf m c = true) : Does Tryz.prog 99 [.one (ruD m c.st c.le.reverse c.ri.reverse)] [] (.agg (ruC (ruAt m c))) [] := by
  have hb := at_bd hm hc
  have := rule_ok m c.st c.le.reverse c.ri.reverse (by simp; omega) (by omega) (by omega) (by rw [getLastD_rev]; omega) (by rw [getLastD_rev]; omega) (by rw [getLastD_rev]; omega)
  simp only [getLastD_rev,ruAt_ge hm hc] at this
  exact this
theorem haltsC_ok (m : Mach) (c : Conf) (hm : vMach m = true) (hc : vConf m c = true) : Does Tryz.prog 98 [.one (ruD m c.st c.le.reverse c.ri.reverse)] [] (.one (boo (decide (ruAt m c = noR)))) [] := by
  have hb := at_bd hm hc
  have := halts_ok m c.st c.le.reverse c.ri.reverse (by simp; omega) (by omega) (by omega) (by rw [getLastD_rev]; omega) (by rw [getLastD_rev]; omega) (by rw [getLastD_rev]; omega)
  simp only [getLastD_rev,ruAt_ge hm hc] at this
  exact this
theorem configC_ok (m : Mach) (c : Conf) (hx : (c.le.length : Int) ≤ 16777216) (hy : (c.ri.length : Int) ≤ 16777216) : Does Tryz.prog 54 [.one (ruD m c.st c.le.reverse c.ri.reverse)] [] (.agg [int c.st,.gv 0,.gv 1]) [roI c.le,roI c.ri] := by
  have := config_ok m c.st c.le.reverse c.ri.reverse (by simpa using hy) (by simpa using hx)
  rw [List.reverse_reverse,List.reverse_reverse] at this
  exact this
theorem l05HaltsC_ok (m : Mach) (c : Conf) (hm : vMach m = true) (hc : vConf m c = true) : Does Tryz.prog 35 [.one (maB m),.one (coB c)] [] (.one (boo (decide (ruAt m c = noR)))) [] := by
  have hb := at_bd hm hc
  have := l05Halts_ok m c (by omega) (by omega) (by omega) (by omega) (by omega) (by omega)
  simp only [ruAt_ge hm hc] at this
  exact this
theorem l05AtC_ok (m : Mach) (c : Conf) (hm : vMach m = true) (hc : vConf m c = true) : Does Tryz.prog 89 [.one (maB m),.one (coB c)] [] (.one (int (c.st * m.sy + c.ri.headD 0))) [] := by
  have hb := at_bd hm hc
  exact l05At_ok m c (by omega) (by omega) (by omega) (by omega) (by omega)
theorem l05StepC_ok (m : Mach) (c : Conf) (hm : vMach m = true) (hc : vConf m c = true) : Does Tryz.prog 38 [.one (maB m),.one (coB c)] [] (.tup [(true,[int (stepS (ruAt m c) c).st,.gv 0,.gv 1]),(false,[boo (roomS (stepS (ruAt m c) c))])]) [roI (stepS (ruAt m c) c).le,roI (stepS (ruAt m c) c).ri] := by
  have hb := at_bd hm hc
  exact l05Step_ok m c (ruAt m c) (by omega) (by omega) (by omega) (by omega) (by omega) (by omega) (by omega) (ruAt_get hm hc)
end Go.Proofs.YtegpggobfdcafaaGreat
end
section
set_option linter.unusedVariables false
set_option linter.unusedSimpArgs false
set_option maxRecDepth 100000
set_option maxHeartbeats 4000000
namespace Go.Proofs.YtegpggobfdcafaaGreat
open Go Foot
structure Out (σ : Type) where
  x : σ
  n : Int
  c : Conf
  hd : Int
  halts : Bool
  full : Bool
def runG {σ : Type} (m : Mach) (fc : Conf → Int → σ → σ) (fs : Conf → Int → Rule' → σ → σ) : Nat → Int → Conf → Int → σ → Out σ
  | k,n,c,hd,x =>
    if ruAt m c = noR then ⟨fc c hd x,n,c,hd,true,false⟩ else
    match k with
    | 0 => ⟨fc c hd x,n,c,hd,false,false⟩
    | k + 1 => if roomS (stepS (ruAt m c) c) then runG m fc fs k (n + 1) (stepS (ruAt m c) c) (hd + (ruAt m c).m) (fs c hd (ruAt m c) (fc c hd x)) else ⟨fs c hd (ruAt m c) (fc c hd x),n,c,hd,false,true⟩
section
variable {σ : Type} {m : Mach} {fc : Conf → Int → σ → σ} {fs : Conf → Int → Rule' → σ → σ} {b n hd : Int} {c : Conf} {x : σ} {O : Out σ}
theorem run_halt {k : Nat} (h : ruAt m c = noR) (hO : runG m fc fs k n c hd x = O) : O = ⟨fc c hd x,n,c,hd,true,false⟩ := by
  rw [← hO]; unfold runG; rw [if_pos h]
theorem run_end (h : ¬ ruAt m c = noR) (hn : n = b) (hO : runG m fc fs (b - n).toNat n c hd x = O) : O = ⟨fc c hd x,n,c,hd,false,false⟩ := by
  subst hn
  rw [← hO,show (n - n).toNat = 0 by omega]; unfold runG; rw [if_neg h]
theorem run_full (h : ¬ ruAt m c = noR) (hn : n < b) (hr : roomS (stepS (ruAt m c) c) = false) (hO : runG m fc fs (b - n).toNat n c hd x = O) : O = ⟨fs c hd (ruAt m c) (fc c hd x),n,c,hd,false,true⟩ := by
  rw [← hO,show (b - n).toNat = (b - (n + 1)).toNat + 1 by omega]; unfold runG; rw [if_neg h]; simp [hr]
theorem run_next (h : ¬ ruAt m c = noR) (hn : n < b) (hr : roomS (stepS (ruAt m c) c) = true) (hO : runG m fc fs (b - n).toNat n c hd x = O) : runG m fc fs (b - (n + 1)).toNat (n + 1) (stepS (ruAt m c) c) (hd + (ruAt m c).m) (fs c hd (ruAt m c) (fc c hd x)) = O := by
  rw [← hO,show (b - n).toNat = (b - (n + 1)).toNat + 1 by omega]; conv => rhs; unfold runG
  rw [if_neg h]; simp [hr]
end
theorem ask_ok {m : Mach} {c : Conf} {b : Int} (h : askC m c b = 0) : vMach m = true ∧ vConf m c = true ∧ 1 ≤ b ∧ b ≤ 20000 := by
  unfold askC at h
  split at h
  · rename_i h1
    split at h
    · rename_i h2; exact ⟨h1.1,h1.2,h2.1,h2.2⟩
    · cases h
  · cases h
end Go.Proofs.YtegpggobfdcafaaGreat
end
section
set_option linter.unusedVariables false
set_option linter.unusedSimpArgs false
set_option maxRecDepth 100000
set_option maxHeartbeats 4000000
namespace Go.Proofs.YtegpggobfdcafaaGreat
open Go Foot
theorem preB14 {p : Prop} (h : p := by first | with_reducible assumption | omega | (simp only [List.length_append,List.length_cons,List.length_nil,List.length_set,List.length_replicate,List.length_take,List.length_drop,List.length_tail,List.length_dropLast,List.length_reverse] at *; omega) | exact mem_len (by assumption) (by omega) | (with_reducible refine Int.le_trans (Int.ofNat_le.2 (trimR_len _)) ?_; simp only [List.length_cons,List.length_tail]; omega) | (exact (ruAt_ok (by assumption) (by assumption) (by assumption)).2.1) | (have := vMach_bd (by assumption); omega) | (with_reducible refine Int.le_trans (Int.ofNat_le.2 (pushL_len _ _)) ?_; simp only [List.length_dropLast]; omega) | exact (ask_ok (by assumption)).1 | exact (ask_ok (by assumption)).2.1 | exact (ask_ok (by assumption)).2.2.1 | exact (ask_ok (by assumption)).2.2.2 | trivial) : p := h
theorem mul64_ok (x y : Int) (h1 : 0 ≤ x) (h2 : x ≤ 16777216) (h3 : 0 ≤ y) (h4 : y ≤ 16777216) (h5 : 0 ≤ x * y) (h6 : x * y ≤ 4294967295) : Does Tryz.prog 231 [.one (u64 x),.one (u64 y)] [] (.tup [(false,[u64 0]),(false,[u64 (x * y)])]) [] := by
  have h7 : x * y < 18446744073709551616 := by omega
  refine does_of (k := 0) Tryz.func231 rfl Tryz.ntmps231 rfl rfl fun w F0 S0 ρ0 => ?_
  dsimp only [argT,argH]
  repeat' first|(apply p3;(first|exact pu1|exact u_and rfl rfl (by omega) (by omega)|exact u_shr rfl rfl (by omega) (by omega)|exact u_mul rfl rfl (by first|omega|assumption) (by first|omega|assumption)|exact u_add rfl rfl (by first|omega|assumption) (by first|omega|assumption));exact rfl)|refine cd ?_|fail
  repeat refine cr ?_
  refine ends_id ?_
  refine endK [] (h2 := ?_) (h3 := ?_) (nd := ?_)
  all_goals (repeat' first|exact ce0|refine ce ?_|refine ce2 ?_ ?_|exact SVLe.refl|refine ceb ?_)
  all_goals first | exact (show nodupB _ = true from rfl) | exact Or.inr rfl | (simp)
theorem mulU_ok (x y : Int) (h1 : 0 ≤ x) (h2 : x ≤ 16777216) (h3 : 0 ≤ y) (h4 : y ≤ 16777216) (h5 : 0 ≤ x * y) (h6 : x * y ≤ 4294967295) : Does Tryz.prog 198 [.one (u64 x),.one (u64 y)] [] (.tup [(false,[u64 0]),(false,[u64 (x * y)])]) [] := by
  refine does_of (k := 0) Tryz.func198 rfl Tryz.ntmps198 rfl rfl fun w F0 S0 ρ0 => ?_
  dsimp only [argT,argH]
  repeat' first|(apply p3;(exact pu1);exact rfl)|refine cd ?_|(apply c4 0;exact callK1 (θ := []) (hD := (mul64_ok _ _ preB14 preB14 preB14 preB14 preB14 preB14));exact rfl;exact rfl;exact rfl;refine dM ?_)|fail
  repeat refine cr ?_
  refine ends_id ?_
  refine endK [] (h2 := ?_) (h3 := ?_) (nd := ?_)
  all_goals (repeat' first|exact ce0|refine ce ?_|refine ce2 ?_ ?_|exact SVLe.refl|refine ceb ?_)
  all_goals first | exact (show nodupB _ = true from rfl) | exact Or.inr rfl | (rfl)
end Go.Proofs.YtegpggobfdcafaaGreat
end
section
set_option linter.unusedVariables false
set_option linter.unusedSimpArgs false
set_option maxRecDepth 100000
set_option maxHeartbeats 4000000
namespace Go.Proofs.YtegpggobfdcafaaGreat
open Go Foot Go.RowKit
inductive Pc where
  | lp (f t k : Int)
  | ic (r : Int)
  | no
def pcC : Pc → D
  | .lp f t k => .fn (.func 205) [.bx false [.sc (.int .i64 f)],.bx false [.sc (.int .i64 k)],.bx false [.sc (.int .i64 t)]]
  | .ic r => .fn (.func 208) [.bx false [.sc (.int .i64 r)]]
  | .no => .sc .nilFunc
abbrev ePc : Enc Pc := ⟨1,fun p => [pcC p],fun _ => rfl,by decide⟩
theorem nowPc : ∀ x,D.noOwn.all (ePc.enc x) := by intro x; cases x <;> (repeat (first | exact trivial | exact rfl | refine And.intro ?_ ?_))
abbrev shPc (l : List Pc) : C := .d (.sl false 1 (rows ePc l))
theorem rep1_grw {a : List Pc} {x : Pc} {n k m : Nat} (ha : a.length = n) (h1 : k + m ≤ n) (h2 : m ≤ k) (h3 : a.take k = List.replicate k x) : (a.take k ++ (a.drop 0).take m ++ a.drop (k + m)).take (k + m) = List.replicate (k + m) x ∧ (a.take k ++ (a.drop 0).take m ++ a.drop (k + m)).length = a.length := by
  have h4 : a.take m = List.replicate m x := by
    have := congrArg (List.take m) h3
    simpa [List.take_take,List.take_replicate,Nat.min_eq_left h2] using this
  have hlen : (a.take k ++ (a.drop 0).take m).length = k + m := by rw [List.length_append,List.length_take,List.length_take,List.drop_zero]; omega
  constructor
  · rw [List.take_append_of_le_length (by omega),List.take_of_length_le (by omega),List.drop_zero,h3,h4,List.replicate_append_replicate]
  · rw [List.length_append,hlen,List.length_drop]; omega
theorem preB258 {p : Prop} (h : p := by first | with_reducible assumption | omega | (simp only [List.length_append,List.length_cons,List.length_nil,List.length_set,List.length_replicate,List.length_take,List.length_drop,List.length_tail,List.length_dropLast,List.length_reverse] at *; omega) | exact mem_len (by assumption) (by omega) | (with_reducible refine Int.le_trans (Int.ofNat_le.2 (trimR_len _)) ?_; simp only [List.length_cons,List.length_tail]; omega) | (exact (ruAt_ok (by assumption) (by assumption) (by assumption)).2.1) | (exact (ruAt_ok (by assumption) (by assumption) (by assumption)).2.1) | (have := vMach_bd (by assumption); omega) | (simp only [List.length_append,List.length_cons,List.length_nil,repW_len,seN_len] at *; omega) | (simp only [mC_ch,mC_tu]; omega) | (have := vTag_bd (by assumption); omega) | (have := (‹Gd _ _›).le; omega) | (exact tgHalts_no (by assumption)) | (exact tgHead (by assumption) (by assumption) (by assumption)) | (exact Int.le_trans (tgStep_gd (by assumption) (by assumption) (by assumption) (by assumption)).le (by decide)) | (exact vTag_r (by assumption)) | (with_reducible refine Int.le_trans (Int.ofNat_le.2 (pushL_len _ _)) ?_; simp only [List.length_dropLast]; omega) | exact ls_at (by assumption) (by omega) | exact pt_gd (by assumption) | exact lv_at (by assumption) (by omega) | exact pt_gd (lv_at (by assumption) (by omega)) | exact (ask_ok (by assumption)).1 | exact (ask_ok (by assumption)).2.1 | exact (ask_ok (by assumption)).2.2.1 | exact (ask_ok (by assumption)).2.2.2 | trivial) : p := h
theorem repeatP_ok (x : Pc) (n : Int) (h0 : 0 ≤ n) (h1 : n ≤ 1000) : Does Tryz.prog 207 [.one (shPc [x]),.one (int n)] [] (.one (.gv 0)) [.row 1 (rows ePc (List.replicate n.toNat x))] := by
  have hl : ([x] : List Pc).length = 1 := rfl
  have hx : ∀ k,([x] : List Pc).take (k + 1) = [x] := fun k => by cases k <;> rfl
  have hr : List.replicate 1 x = [x] := rfl
  generalize ([x] : List Pc) = l at hl hx hr
  have hln : ((l.length : Nat) : Int) * n = n := by rw [hl]; omega
  have h5 : 0 ≤ ((l.length : Nat) : Int) * n := by omega
  have h6 : ((l.length : Nat) : Int) * n ≤ 1000 := by omega
  refine does_of (k := 0) Tryz.func207 rfl Tryz.ntmps207 rfl rfl fun w F0 S0 ρ0 => ?_
  dsimp only [argT,argH]
  repeat' first|(apply n3;exact a_make (fE rfl) (fZ rfl) (fP rfl) (by decide) rfl rfl (by omega) rfl (by omega) (by omega) (rows_rep ePc Pc.no _);exact rfl;refine dA ?_)|(apply p3;(first|exact pu1|exact puC|exact puN|exact u_conv rfl Tryz.underlying3 Tryz.underlying176 bnd bnd|exact u_gtr rfl rfl|exact u_vnoc rfl Tryz.underlying176 Tryz.underlying3 bnd bnd);exact rfl)|refine cd ?_|(apply c4 0;exact callK1 (θ := []) (hD := (mulU_ok _ _ preB258 preB258 preB258 preB258 preB258 preB258));exact rfl;exact rfl;exact rfl;refine dM ?_)|(apply c4 0;exact a_copyV rfl rfl rfl rfl (fS rfl) rfl (nowR nowPc) rfl (by exact rfl) (by exact rfl);exact rfl;exact rfl;exact rfl;refine dM ?_)|(apply py3;exact rfl;exact rfl;(first|exact pu1|exact u_gtr rfl rfl);exact rfl;exact rfl)|((refine g_cond rfl (fun hc => ?_) (fun hc => ?_)) <;> (try simp only [dcB] at hc) <;> (try first|contradiction|(exfalso;omega)))|fail
  generalize e0 : (l.length.min (List.replicate (((l.length : Nat) : Int) * n).toNat Pc.no).length) = k0
  generalize e1 : (List.take k0 l ++ List.drop k0 (List.replicate (((l.length : Nat) : Int) * n).toNat Pc.no)) = l0
  have hk0 : (k0 : Int) = min 1 n := by
    rw [← e0,hln,List.length_replicate,hl]
    show ((min 1 n.toNat : Nat) : Int) = _
    omega
  have hl0 : l0.length = n.toNat ∧ l0.take k0 = List.replicate k0 x := by
    by_cases hn : n = 0
    · have hz : k0 = 0 := by omega
      subst hn
      rw [← e1,hz]
      simp
    · have hk : k0 = 1 := by omega
      have t2 : l.take 1 = l := hx 0
      rw [← e1,hk,t2]
      constructor
      · rw [List.length_append,List.length_drop,List.length_replicate,hln,hl]; omega
      · rw [List.take_append_of_le_length (by omega),t2,hr]
  clear e0 e1
  refine g_loop_id ?_
  refine loopK [4,7] [0] (fun y : Int × List Pc => 0 ≤ y.1 ∧ y.1 ≤ n ∧ (0 < n → 0 < y.1) ∧ y.2.length = n.toNat ∧ y.2.take y.1.toNat = List.replicate y.1.toNat x) (fun y => [(8,.one (int y.1))]) (fun y => [(0,.row 1 (rows ePc y.2))]) (fun y => (n - y.1).toNat) ((k0 : Int),l0) [0] (hI := ?_) (hr := ?_)
  · exact ⟨by simp,by dsimp only; omega,fun _ => by dsimp only; omega,hl0.1,by dsimp only; rw [Int.toNat_natCast]; exact hl0.2⟩
  · rintro ⟨k,a⟩ ⟨k1,k2,k3,k4,k5⟩
    dsimp only [List.cons_append,List.nil_append] at *
    skip
    have hm : (k.toNat - 0).min (a.length - k.toNat) = min (k.toNat - 0) (a.length - k.toNat) := rfl
    repeat' first|(apply p3;(first|exact pu1|exact puN|exact puC);exact rfl)|refine cd ?_|(apply g_drN (id := 9) okM [[],[],[],[1,2],[],[],[4,5],[1,2,3,4,5,6],[0,1,2,3,4,5,6,7],[0,1,2,3,4,5,6,7,8]] [([],[]),([],[]),([],[]),([],[]),([],[]),([],[]),([],[]),([],[0]),([],[]),([],[])] 0;(focus (refine dp 0 0 [39,40,41,42,43,44,45] [(false,0)] pu1 ?_;refine dp 1 0 [38,40,42,43,44] [] pu1 ?_;refine dp 2 0 [38,39,42,43,44] [] pu1 ?_;refine dp 3 3 [38,42,43,44] [] (a_slTG rfl rfl rfl (fS rfl) (by omega) (by omega) (by exact rfl)) ?_;refine dp 4 0 [38,39,40,41,43] [] pu1 ?_;refine dp 5 0 [38,39,40,41,42] [] pu1 ?_;refine dp 6 3 [38,39,40,41] [] (a_slHG rfl rfl rfl (fS rfl) (by omega) (by omega) (by exact rfl)) ?_;refine duN 7 63 [38] [] (by exact a_copyG rfl rfl rfl (fS rfl) rfl (nowR nowPc) bnd bnd rfl (by exact rfl) (by exact rfl)) (by exact rfl) (by exact rfl) ?_;refine dp 8 255 [] [] (a_add rfl rfl (by omega) (by omega)) ?_;refine dp 9 511 [] [] pu1 ?_;(refine d_nil ?_;refine dN ?_)));any_goals kernel_rfl)|((refine g_cond rfl (fun hc => ?_) (fun hc => ?_)) <;> (try simp only [dcB] at hc) <;> (try first|contradiction|(exfalso;omega)))|fail
    · have hg := rep1_grw (a := a) (x := x) (n := n.toNat) (k := k.toNat) (m := (k.toNat - 0).min (a.length - k.toNat)) k4 (by omega) (by omega) k5
      have hk : (k + (((k.toNat - 0).min (a.length - k.toNat) : Nat) : Int)).toNat = k.toNat + (k.toNat - 0).min (a.length - k.toNat) := by omega
      refine q_again (k + (((k.toNat - 0).min (a.length - k.toNat) : Nat) : Int),a.take k.toNat ++ (a.drop 0).take ((k.toNat - 0).min (a.length - k.toNat)) ++ a.drop (k.toNat + (k.toNat - 0).min (a.length - k.toNat))) [0] (by exact stk) ?_ ?_
      · exact ⟨by dsimp only; omega,by dsimp only; omega,fun _ => by dsimp only; omega,hg.2.trans k4,by dsimp only; rw [hk]; exact hg.1⟩
      · dsimp only; omega
    · have e : k.toNat = n.toNat := by omega
      rw [e,List.take_of_length_le (by omega)] at k5
      repeat refine cr ?_
      refine ends_id ?_
      refine endK [?_] (h2 := ?_) (h3 := ?_) (nd := ?_)
      rotate_left 1
      all_goals (repeat' first|exact ce0|refine ce ?_|refine ce2 ?_ ?_|(refine Or.inr (bx_eq rfl rfl ?_);(try dsimp only [C.ren,C.ren.all]);(try exact rfl))|exact SVLe.refl|refine ceb ?_)
      all_goals first | exact (show nodupB _ = true from rfl) | exact Or.inr rfl | ((rw [k5]))
theorem loop_ok (f t k : Int) : Does Tryz.prog 154 [.one (int f),.one (int t),.one (int k)] [] (.one (.fn (.func 205) [.d (.bx false [.sc (.int .i64 f)]),.d (.bx false [.sc (.int .i64 k)]),.d (.bx false [.sc (.int .i64 t)])])) [] := by
  refine does_of (k := 0) Tryz.func154 rfl Tryz.ntmps154 rfl rfl fun w F0 S0 ρ0 => ?_
  dsimp only [argT,argH]
  repeat' first|(apply n3;exact a_new (gb := .bx _) rfl;exact rfl;refine dA ?_)|(apply p3;exact pu1;exact rfl)|refine cdn ?_|refine g_reg (id := 0) ?_|fail
  first | refine g_turn (t_frzB (d := 3) (i := 0) rfl rfl rfl) ?_ | refine o_turn (t_frzB (d := 3) (i := 0) rfl rfl rfl) ?_
  first | refine g_turn (t_frzB (d := 4) (i := 1) rfl rfl rfl) ?_ | refine o_turn (t_frzB (d := 4) (i := 1) rfl rfl rfl) ?_
  first | refine g_turn (t_frzB (d := 5) (i := 2) rfl rfl rfl) ?_ | refine o_turn (t_frzB (d := 5) (i := 2) rfl rfl rfl) ?_
  repeat' first|(apply p3;exact pu1;exact rfl)|refine cd ?_|fail
  repeat refine cr ?_
  refine ends_id ?_
  refine endK [] (h2 := ?_) (h3 := ?_) (nd := ?_)
  all_goals (repeat' first|exact ce0|refine ce ?_|refine ce2 ?_ ?_|exact SVLe.refl|refine ceb ?_)
  all_goals first | exact (show nodupB _ = true from rfl) | exact Or.inr rfl | (rfl)
theorem incs_ok (r k : Int) (h0 : 0 ≤ k) (h1 : k ≤ 1000) : Does Tryz.prog 155 [.one (int r),.one (int k)] [] (.one (.gv 0)) [.row 1 (rows ePc (List.replicate k.toNat (.ic r)))] := by
  refine does_of (k := 0) Tryz.func155 rfl Tryz.ntmps155 rfl rfl fun w F0 S0 ρ0 => ?_
  dsimp only [argT,argH]
  repeat' first|(apply n3;exact a_nilO ePc rfl;exact rfl)|(apply n3;exact a_new (gb := .bx _) rfl;exact rfl;refine dA ?_)|refine cdn ?_|refine g_reg (id := 0) ?_|fail
  first | refine g_turn (t_frzB (d := 2) (i := 0) rfl rfl rfl) ?_ | refine o_turn (t_frzB (d := 2) (i := 0) rfl rfl rfl) ?_
  repeat' first|(apply p3;exact a_litF (dst := some 6) ePc [.ic _] rfl rfl rfl rfl rfl rfl rfl rfl (nowR nowPc);exact rfl)|(apply p3;exact pu1;exact rfl)|refine cd ?_|(apply c4 1;exact callK0 (θ := []) (hD := (repeatP_ok _ _ preB258 preB258));exact rfl;exact rfl;exact rfl;refine dM ?_)|fail
  repeat refine cr ?_
  refine ends_id ?_
  refine endK [?_] (h2 := ?_) (h3 := ?_) (nd := ?_)
  rotate_left 1
  all_goals (repeat' first|exact ce0|refine ce ?_|refine ce2 ?_ ?_|(refine Or.inr (bx_eq rfl rfl ?_);(try dsimp only [C.ren,C.ren.all]);(try exact rfl))|exact SVLe.refl|refine ceb ?_)
  all_goals first | exact (show nodupB _ = true from rfl) | exact Or.inr rfl | (rfl)
def incN (t : Int) : Nat → As → As
  | 0,A => A
  | n + 1,A => (incN t n A).emit 0 t none none
theorem incN_ok (t : Int) (A : As) (hA : AsOk A) : ∀ n,AsOk (incN t n A) ∧ (incN t n A).is.length = A.is.length + n
  | 0 => ⟨hA,rfl⟩
  | n + 1 => by
    obtain ⟨h1,h2⟩ := incN_ok t A hA n
    exact ⟨⟨by rw [incN,emit_ps,emit_is]; simp [h1.len]⟩,by rw [incN,emit_is]; simp [h2]; omega⟩
theorem AsOk.here {A : As} (h : AsOk A) (i : Nat) : AsOk (A.here i) := ⟨by rw [here_ps,here_is]; exact h.len⟩
theorem AsOk.spot {A : As} (h : AsOk A) : AsOk A.spot := ⟨by rw [spot_ps,spot_is]; exact h.len⟩
theorem AsOk.emit {A : As} (h : AsOk A) (k r : Int) (th ot : Option Nat) : AsOk (A.emit k r th ot) := ⟨by rw [emit_ps,emit_is]; simp [h.len]⟩
theorem len_here (A : As) (i : Nat) : (A.here i).is.length = A.is.length := by rw [here_is]
theorem len_spot (A : As) : A.spot.is.length = A.is.length := by rw [spot_is]
theorem len_emit (A : As) (k r : Int) (th ot : Option Nat) : (A.emit k r th ot).is.length = A.is.length + 1 := by rw [emit_is]; simp
theorem g_spot {P : Program} {g : Gh} {t : List (Nat × SV)} {h0 : List (Nat × GB)} {n : Nat} {Q : Exit → St → Prop} {b : Ad} {kn : List (Nat × Value)} {A : As} {c : Code} (k : Nat) (hqk : Nat.beq 0 k = false) (hq : lkG h0 0 = asG b kn A) (hk : lkG h0 k = .bx [.d (.sc (.int .i64 0))]) (hK : ∀ v : Value,GWp P g c ⟨t,(0,asG b ((A.sp.length,v) :: kn) A.spot) :: (k,.isv v) :: h0,n⟩ Q) : GWp P g c ⟨t,h0,n⟩ Q := by
  have e : A.spot = ⟨A.is,A.ps,A.sp ++ [0]⟩ := by unfold As.spot; rfl
  rw [e] at hK
  exact g_newS 0 k hqk hq hk hK
@[irreducible] def goL (f t k : Int) (A : As) (x : Nat) : As := (incN t (k - 1).toNat ((A.spot.here A.sp.length).emit 1 f none (some x))).emit 0 t (some A.sp.length) none
theorem loop1_ok (b : Ad) (kn : List (Nat × Value)) (A : As) (f t k : Int) (x : Nat) (v : Value) (hv : (x,v) ∈ kn) (hk : 1 ≤ k) (hk2 : k ≤ 100) (hA : AsOk A) (hl : (A.is.length : Int) ≤ 90000) : Does Tryz.prog 205 [.one (.gv 0),.one (.d (.sc v)),.one (.d (.bx false [.sc (.int .i64 f)])),.one (.d (.bx false [.sc (.int .i64 k)])),.one (.d (.bx false [.sc (.int .i64 t)]))] [asG b kn A] .any [asG b kn (goL f t k A x)] := by
  refine does_of (k := 1) Tryz.func205 rfl Tryz.ntmps205 rfl rfl fun w F0 S0 ρ0 => ?_
  dsimp only [argT,argH]
  repeat' first|(apply n3;exact a_new (gb := .bx _) rfl;exact rfl;refine dA ?_)|(apply p3;exact pu1;exact rfl)|refine cdn ?_|refine g_reg (id := 0) ?_|fail
  refine g_spot 1 rfl rfl rfl fun s => ?_
  refine g_conv (t_isv1 7 1 rfl rfl) ?_
  have h1 := len_here A.spot A.sp.length
  have h2 := len_spot A
  have h3 := hA.spot
  have h4 := h3.here A.sp.length
  have h5 := h4.emit 1 f none (some x)
  have h6 := len_emit (A.spot.here A.sp.length) 1 f none (some x)
  repeat' first|(apply p3;(exact pu1);exact rfl)|refine cd ?_|(apply c4 0;exact callK0 (θ := [_]) (hD := (here_ok _ _ _ A.sp.length s List.mem_cons_self preB258));exact rfl;exact rfl;exact rfl;refine dM ?_)|(apply c4 0;exact callK0 (θ := [_]) (hD := (emitNS_ok _ _ _ _ _ x v (List.mem_cons_of_mem _ hv) h4 preB258));exact rfl;exact rfl;exact rfl;refine dM ?_)|fail
  generalize hB : (A.spot.here A.sp.length).emit 1 f none (some x) = B at h5 h6
  refine g_loop_id ?_
  refine loopK [0,3,4,7] [0,1] (fun y : Int × As => 1 ≤ y.1 ∧ y.1 ≤ k ∧ y.2 = incN t (y.1 - 1).toNat B) (fun y => [(8,.one (int y.1))]) (fun y => [(0,asG b ((A.sp.length,s) :: kn) y.2),(1,.isv s)]) (fun y => (k - y.1).toNat) ((1 : Int),B) [0,1] (hI := ?_) (hr := ?_)
  · exact ⟨by simp,hk,by simp [incN]⟩
  · rintro ⟨i,C⟩ ⟨k0,k1,k2⟩
    dsimp only [List.cons_append,List.nil_append] at *
    skip
    repeat' first|refine cdn ?_|fail
    obtain ⟨c1,c2⟩ := incN_ok t B h5 (i - 1).toNat
    rw [← k2] at c1 c2
    by_cases hi : i < k
    · have c3 := c1
      repeat' first|(apply p3;(first|exact pu1|exact puC|exact a_add rfl rfl (by omega) (by omega));exact rfl)|refine cd ?_|(apply c4 0;exact callK0 (θ := [_]) (hD := (emitNN_ok _ _ _ _ _ preB258 preB258));exact rfl;exact rfl;exact rfl;refine dM ?_)|((refine g_cond rfl (fun hc => ?_) (fun hc => ?_)) <;> (try simp only [dcB] at hc) <;> (try first|contradiction|(exfalso;omega)))|fail
      refine q_again (i + 1,C.emit 0 t none none) [0,1] (by exact stk) ?_ ?_
      · refine ⟨by dsimp only; omega,by dsimp only; omega,?_⟩
        dsimp only
        rw [k2,show (i + 1 - 1).toNat = (i - 1).toNat + 1 by omega,incN]
      · dsimp only; omega
    · have e : C = incN t (k - 1).toNat B := by rw [k2,show i = k by omega]
      have e2 : goL f t k A x = C.emit 0 t (some A.sp.length) none := by rw [e,← hB]; unfold goL; rfl
      rw [e2]
      repeat' first|(apply p3;(first|exact pu1|exact puC);exact rfl)|refine cdn ?_|refine g_reg (id := 4) ?_|((refine g_cond rfl (fun hc => ?_) (fun hc => ?_)) <;> (try simp only [dcB] at hc) <;> (try first|contradiction|(exfalso;omega)))|fail
      refine g_cv ?_
      repeat' first|(apply p3;(exact pu1);exact rfl)|refine cd ?_|(apply c4 0;exact callK0 (θ := [_]) (hD := (emitSN_ok _ _ _ _ _ A.sp.length s List.mem_cons_self c1 preB258));exact rfl;exact rfl;exact rfl;refine dM ?_)|fail
      refine q_cv (t_lessM kn 0 rfl fun y hy => List.mem_cons_of_mem _ hy) ?_
      refine q_cv0 ?_
      repeat refine cr ?_
      refine ends_id ?_
      refine endK [] (h2 := ?_) (h3 := ?_) (nd := ?_)
      all_goals (repeat' first|exact ce0|refine ce ?_|refine ce2 ?_ ?_|(refine Or.inr (bx_eq rfl rfl ?_);(try dsimp only [C.ren,C.ren.all]);(try exact rfl))|exact SVLe.refl|refine ceb ?_)
      all_goals first | exact (show nodupB _ = true from rfl) | exact Or.inr rfl | (rfl)
theorem incs1_ok (b : Ad) (kn : List (Nat × Value)) (A : As) (r : Int) (x : Nat) (v : Value) (hv : (x,v) ∈ kn) (hA : AsOk A) (hl : (A.is.length : Int) ≤ 90000) : Does Tryz.prog 208 [.one (.gv 0),.one (.d (.sc v)),.one (.d (.bx false [.sc (.int .i64 r)]))] [asG b kn A] .any [asG b kn (A.emit 0 r (some x) none)] := by
  refine does_of (k := 1) Tryz.func208 rfl Tryz.ntmps208 rfl rfl fun w F0 S0 ρ0 => ?_
  dsimp only [argT,argH]
  repeat' first|(apply p3;(exact pu1);exact rfl)|refine cd ?_|(apply c4 0;exact callK0 (θ := [_]) (hD := (emitSN_ok _ _ _ _ _ x v hv hA preB258));exact rfl;exact rfl;exact rfl;refine dM ?_)|fail
  repeat refine cr ?_
  refine ends_id ?_
  refine endK [] (h2 := ?_) (h3 := ?_) (nd := ?_)
  all_goals (repeat' first|exact ce0|refine ce ?_|refine ce2 ?_ ?_|(refine Or.inr (bx_eq rfl rfl ?_);(try dsimp only [C.ren,C.ren.all]);(try exact rfl))|exact SVLe.refl|refine ceb ?_)
  all_goals first | exact (show nodupB _ = true from rfl) | exact Or.inr rfl | (rfl)
end Go.Proofs.YtegpggobfdcafaaGreat
end
section
set_option linter.unusedVariables false
set_option linter.unusedSimpArgs false
set_option maxRecDepth 100000
set_option maxHeartbeats 4000000
namespace Go.Proofs.YtegpggobfdcafaaGreat
open Go Foot Go.RowKit
structure PcOk (p : Pc) : Prop where
  lp : ∀ f t k,p = .lp f t k → 1 ≤ k ∧ k ≤ 100
  no : p ≠ .no
@[irreducible] def Pc.go (p : Pc) (A : As) (x : Nat) : As := match p with
  | .lp f t k => goL f t k A x
  | .ic r => A.emit 0 r (some x) none
  | .no => A
def Pc.len : Pc → Nat
  | .lp _ _ k => k.toNat + 1
  | .ic _ => 1
  | .no => 0
theorem go_lp (f t k : Int) (A : As) (x : Nat) : (Pc.lp f t k).go A x = goL f t k A x := by unfold Pc.go; rfl
theorem go_ic (r : Int) (A : As) (x : Nat) : (Pc.ic r).go A x = A.emit 0 r (some x) none := by unfold Pc.go; rfl
theorem go_ok {p : Pc} (hp : PcOk p) {A : As} (hA : AsOk A) (x : Nat) : AsOk (p.go A x) ∧ (p.go A x).is.length = A.is.length + p.len := by
  cases p with
  | no => exact absurd rfl hp.no
  | ic r => rw [go_ic]; exact ⟨hA.emit _ _ _ _,by rw [len_emit]; rfl⟩
  | lp f t k =>
    have hk := hp.lp f t k rfl
    rw [go_lp]
    unfold goL
    obtain ⟨h1,h2⟩ := incN_ok t ((A.spot.here A.sp.length).emit 1 f none (some x)) ((hA.spot.here _).emit _ _ _ _) (k - 1).toNat
    refine ⟨h1.emit _ _ _ _,?_⟩
    rw [len_emit,h2,len_emit,len_here,len_spot]
    simp only [Pc.len]
    omega
theorem pc_len {p : Pc} (hp : PcOk p) : 1 ≤ p.len ∧ p.len ≤ 101 := by
  cases p with
  | no => exact absurd rfl hp.no
  | ic r => simp [Pc.len]
  | lp f t k =>
    have hk := hp.lp f t k rfl
    simp only [Pc.len]
    omega
def chA (A : As) (x : Nat) : List Pc → As
  | [] => A
  | p :: l => match l with
    | [] => p.go A x
    | q :: r => chA ((p.go A.spot A.sp.length).here A.sp.length) x (q :: r)
def lenP (l : List Pc) : Nat := (l.map Pc.len).sum
theorem chA_ok (x : Nat) : ∀ (l : List Pc) (A : As),(∀ p ∈ l,PcOk p) → AsOk A → AsOk (chA A x l) ∧ (chA A x l).is.length = A.is.length + lenP l
  | [],A,_,hA => ⟨hA,by rw [chA]; rfl⟩
  | [p],A,hp,hA => by
    have := go_ok (hp p (by simp)) hA x
    rw [chA]
    exact ⟨this.1,by rw [this.2]; simp [lenP]⟩
  | p :: q :: r,A,hp,hA => by
    have h1 := go_ok (hp p (by simp)) hA.spot A.sp.length
    have h2 := chA_ok x (q :: r) ((p.go A.spot A.sp.length).here A.sp.length) (fun y hy => hp y (List.mem_cons_of_mem _ hy)) (h1.1.here _)
    rw [chA]
    refine ⟨h2.1,?_⟩
    rw [h2.2,len_here,h1.2,len_spot]
    simp only [lenP,List.map_cons,List.sum_cons]
    omega
theorem preB259 {p : Prop} (h : p := by first | with_reducible assumption | omega | (simp only [List.length_append,List.length_cons,List.length_nil,List.length_set,List.length_replicate,List.length_take,List.length_drop,List.length_tail,List.length_dropLast,List.length_reverse] at *; omega) | exact mem_len (by assumption) (by omega) | (with_reducible refine Int.le_trans (Int.ofNat_le.2 (trimR_len _)) ?_; simp only [List.length_cons,List.length_tail]; omega) | (exact (ruAt_ok (by assumption) (by assumption) (by assumption)).2.1) | (exact (ruAt_ok (by assumption) (by assumption) (by assumption)).2.1) | (have := vMach_bd (by assumption); omega) | (simp only [List.length_append,List.length_cons,List.length_nil,repW_len,seN_len] at *; omega) | (simp only [mC_ch,mC_tu]; omega) | (have := vTag_bd (by assumption); omega) | (have := (‹Gd _ _›).le; omega) | (exact tgHalts_no (by assumption)) | (exact tgHead (by assumption) (by assumption) (by assumption)) | (exact Int.le_trans (tgStep_gd (by assumption) (by assumption) (by assumption) (by assumption)).le (by decide)) | (exact vTag_r (by assumption)) | (with_reducible refine Int.le_trans (Int.ofNat_le.2 (pushL_len _ _)) ?_; simp only [List.length_dropLast]; omega) | exact ls_at (by assumption) (by omega) | exact pt_gd (by assumption) | exact lv_at (by assumption) (by omega) | exact pt_gd (lv_at (by assumption) (by omega)) | exact (ask_ok (by assumption)).1 | exact (ask_ok (by assumption)).2.1 | exact (ask_ok (by assumption)).2.2.1 | exact (ask_ok (by assumption)).2.2.2 | trivial) : p := h
theorem chain_ok (b : Ad) (kn : List (Nat × Value)) (A : As) (x : Nat) (v : Value) (pcs : List Pc) (hv : (x,v) ∈ kn) (hp : ∀ p ∈ pcs,PcOk p) (hA : AsOk A) (hl : (A.is.length : Int) ≤ 50000) (hn : (pcs.length : Int) ≤ 100) : Does Tryz.prog 153 [.one (.gv 0),.one (.d (.sc v)),.one (shPc pcs)] [asG b kn A] .any [asG b kn (chA A x pcs)] := by
  refine does_of (k := 1) Tryz.func153 rfl Tryz.ntmps153 rfl rfl fun w F0 S0 ρ0 => ?_
  dsimp only [argT,argH]
  repeat' first|(apply p3;(first|exact pu1|exact puN);exact rfl)|refine cd ?_|fail
  refine g_loop_id ?_
  refine loopK [0,1,2,9,10] [0] (fun y : Int × As × List (Nat × Value) => 0 ≤ y.1 ∧ y.1 ≤ pcs.length ∧ AsOk y.2.1 ∧ (y.2.1.is.length : Int) ≤ 50000 + 101 * y.1 ∧ (∀ z ∈ kn,z ∈ y.2.2) ∧ chA y.2.1 x (pcs.drop y.1.toNat) = chA A x pcs) (fun y => [(11,.one (int y.1))]) (fun y => [(0,asG b y.2.2 y.2.1)]) (fun y => (pcs.length - y.1).toNat) ((0 : Int),A,kn) [0] (hI := ?_) (hr := ?_)
  · exact ⟨by simp,by simp,hA,by simpa using hl,fun _ h => h,rfl⟩
  · rintro ⟨i,B,kn'⟩ ⟨k0,k1,k2,k3,k4,k5⟩
    dsimp only [List.cons_append,List.nil_append] at *
    skip
    repeat' first|refine cdn ?_|fail
    by_cases hi : i.toNat < pcs.length
    · have hpo := hp _ (List.getElem_mem hi)
      have hd : pcs.drop i.toNat = pcs[i.toNat] :: pcs.drop (i.toNat + 1) := List.drop_eq_getElem_cons hi
      generalize hpe : pcs[i.toNat] = p at hpo hd
      have hv' := k4 _ hv
      by_cases hla : i < pcs.length - 1
      · repeat' first|(apply n3;exact a_new (gb := .bx _) rfl;exact rfl;refine dA ?_)|(apply p3;(first|exact pu1|exact puC|exact puN|exact a_sub rfl rfl (by omega) (by omega)|exact puI);exact rfl)|refine cdn ?_|refine g_reg (id := 1) ?_|refine g_reg (id := 2) ?_|refine g_reg (id := 3) ?_|refine g_reg (id := 4) ?_|refine g_reg (id := 5) ?_|((refine g_cond rfl (fun hc => ?_) (fun hc => ?_)) <;> (try simp only [dcB] at hc) <;> (try first|contradiction|(exfalso;omega)))|fail
        refine g_spot 1 rfl rfl rfl fun s => ?_
        refine g_conv (t_isv1 8 1 rfl rfl) ?_
        simp only [hpe]
        have h1 := len_spot B
        have h2 := k2.spot
        have h3 := go_ok hpo h2 B.sp.length
        have h4 := h3.1.here B.sp.length
        have h5 := len_here (p.go B.spot B.sp.length) B.sp.length
        have h6 := (pc_len hpo).2
        have hch : chA ((p.go B.spot B.sp.length).here B.sp.length) x (pcs.drop (i + 1).toNat) = chA A x pcs := by
          rw [← k5,hd,show (i + 1).toNat = i.toNat + 1 by omega,List.drop_eq_getElem_cons (show i.toNat + 1 < pcs.length by omega)]
          rfl
        have hagain : 0 ≤ i + 1 ∧ i + 1 ≤ pcs.length ∧ AsOk ((p.go B.spot B.sp.length).here B.sp.length) ∧ (((p.go B.spot B.sp.length).here B.sp.length).is.length : Int) ≤ 50000 + 101 * (i + 1) ∧ (∀ z ∈ kn,z ∈ (B.sp.length,s) :: kn') ∧ chA ((p.go B.spot B.sp.length).here B.sp.length) x (pcs.drop (i + 1).toNat) = chA A x pcs := ⟨by omega,by omega,h4,by omega,fun z hz => List.mem_cons_of_mem _ (k4 z hz),hch⟩
        have hm : (B.sp.length,s) ∈ (B.sp.length,s) :: kn' := List.mem_cons_self
        cases p with
        | no => exact absurd rfl hpo.no
        | ic r =>
          rw [go_ic] at *
          dsimp only [pcC]
          repeat' first|(apply p3;(first|exact pu1|exact puC|exact puN|exact a_sub rfl rfl (by omega) (by omega)|exact a_add rfl rfl (by omega) (by omega));exact rfl)|refine cd ?_|(apply c4 0;exact callK0 (θ := [0]) (hD := (incs1_ok _ _ _ _ _ _ preB259 preB259 preB259));exact rfl;exact rfl;exact rfl;refine dM ?_)|(apply c4 0;exact callK0 (θ := [_]) (hD := (here_ok _ _ _ B.sp.length s List.mem_cons_self preB259));exact rfl;exact rfl;exact rfl;refine dM ?_)|((refine g_cond rfl (fun hc => ?_) (fun hc => ?_)) <;> (try simp only [dcB] at hc) <;> (try first|contradiction|(exfalso;omega)))|fail
          refine q_again (i + 1,(B.spot.emit 0 r (some B.sp.length) none).here B.sp.length,(B.sp.length,s) :: kn') [0] (by exact stk) ?_ ?_
          · exact hagain
          · dsimp only; omega
        | lp f t k =>
          rw [go_lp] at *
          have hk := hpo.lp f t k rfl
          dsimp only [pcC]
          repeat' first|(apply p3;(first|exact pu1|exact puN|exact puC|exact a_sub rfl rfl (by omega) (by omega)|exact a_add rfl rfl (by omega) (by omega));exact rfl)|refine cd ?_|(apply c4 0;exact callK0 (θ := [0]) (hD := (loop1_ok _ _ _ _ _ _ _ _ preB259 preB259 preB259 preB259 preB259));exact rfl;exact rfl;exact rfl;refine dM ?_)|(apply c4 0;exact callK0 (θ := [_]) (hD := (here_ok _ _ _ B.sp.length s List.mem_cons_self preB259));exact rfl;exact rfl;exact rfl;refine dM ?_)|((refine g_cond rfl (fun hc => ?_) (fun hc => ?_)) <;> (try simp only [dcB] at hc) <;> (try first|contradiction|(exfalso;omega)))|fail
          refine q_again (i + 1,(goL f t k B.spot B.sp.length).here B.sp.length,(B.sp.length,s) :: kn') [0] (by exact stk) ?_ ?_
          · exact hagain
          · dsimp only; omega
      · skip
        repeat' first|(apply p3;(first|exact pu1|exact puN|exact puC|exact a_sub rfl rfl (by omega) (by omega)|exact puI);exact rfl)|refine cdn ?_|refine g_reg (id := 1) ?_|refine g_reg (id := 2) ?_|refine g_reg (id := 3) ?_|refine g_reg (id := 4) ?_|((refine g_cond rfl (fun hc => ?_) (fun hc => ?_)) <;> (try simp only [dcB] at hc) <;> (try first|contradiction|(exfalso;omega)))|fail
        simp only [hpe]
        have h3 := go_ok hpo k2 x
        have h6 := (pc_len hpo).2
        have hnil : pcs.drop (i.toNat + 1) = [] := List.drop_of_length_le (by omega)
        have hch : chA (p.go B x) x (pcs.drop (i + 1).toNat) = chA A x pcs := by
          rw [← k5,hd,show (i + 1).toNat = i.toNat + 1 by omega,hnil]
          rfl
        have hagain : 0 ≤ i + 1 ∧ i + 1 ≤ pcs.length ∧ AsOk (p.go B x) ∧ ((p.go B x).is.length : Int) ≤ 50000 + 101 * (i + 1) ∧ (∀ z ∈ kn,z ∈ kn') ∧ chA (p.go B x) x (pcs.drop (i + 1).toNat) = chA A x pcs := ⟨by omega,by omega,h3.1,by omega,k4,hch⟩
        cases p with
        | no => exact absurd rfl hpo.no
        | ic r =>
          rw [go_ic] at *
          dsimp only [pcC]
          repeat' first|(apply p3;(first|exact pu1|exact puN|exact puC|exact a_sub rfl rfl (by omega) (by omega)|exact a_add rfl rfl (by omega) (by omega));exact rfl)|refine cd ?_|(apply c4 0;exact callK0 (θ := [0]) (hD := (incs1_ok _ _ _ _ _ _ preB259 preB259 preB259));exact rfl;exact rfl;exact rfl;refine dM ?_)|((refine g_cond rfl (fun hc => ?_) (fun hc => ?_)) <;> (try simp only [dcB] at hc) <;> (try first|contradiction|(exfalso;omega)))|fail
          refine q_again (i + 1,B.emit 0 r (some x) none,kn') [0] (by exact stk) ?_ ?_
          · exact hagain
          · dsimp only; omega
        | lp f t k =>
          rw [go_lp] at *
          have hk := hpo.lp f t k rfl
          dsimp only [pcC]
          repeat' first|(apply p3;(first|exact pu1|exact puN|exact puC|exact a_sub rfl rfl (by omega) (by omega)|exact a_add rfl rfl (by omega) (by omega));exact rfl)|refine cd ?_|(apply c4 0;exact callK0 (θ := [0]) (hD := (loop1_ok _ _ _ _ _ _ _ _ preB259 preB259 preB259 preB259 preB259));exact rfl;exact rfl;exact rfl;refine dM ?_)|((refine g_cond rfl (fun hc => ?_) (fun hc => ?_)) <;> (try simp only [dcB] at hc) <;> (try first|contradiction|(exfalso;omega)))|fail
          refine q_again (i + 1,goL f t k B x,kn') [0] (by exact stk) ?_ ?_
          · exact hagain
          · dsimp only; omega
    · skip
      have e : B = chA A x pcs := by rw [← k5,List.drop_of_length_le (by omega)]; rfl
      rw [← e]
      refine g_conv (t_lessM kn 0 rfl k4) ?_
      repeat' first|(apply p3;(exact puC);exact rfl)|refine cd ?_|((refine g_cond rfl (fun hc => ?_) (fun hc => ?_)) <;> (try simp only [dcB] at hc) <;> (try first|contradiction|(exfalso;omega)))|fail
      repeat refine cr ?_
      refine ends_id ?_
      refine endK [] (h2 := ?_) (h3 := ?_) (nd := ?_)
      all_goals (repeat' first|exact ce0|refine ce ?_|refine ce2 ?_ ?_|(refine Or.inr (bx_eq rfl rfl ?_);(try dsimp only [C.ren,C.ren.all]);(try exact rfl))|exact SVLe.refl|refine ceb ?_)
      all_goals first | exact (show nodupB _ = true from rfl) | exact Or.inr rfl | (rfl)
end Go.Proofs.YtegpggobfdcafaaGreat
end
section
set_option linter.unusedVariables false
set_option linter.unusedSimpArgs false
set_option maxRecDepth 100000
set_option maxHeartbeats 4000000
namespace Go.Proofs.YtegpggobfdcafaaGreat
open Go Foot Go.RowKit
def hdsA (f : Int) : Nat → As → As
  | 0,A => A
  | n + 1,A => (hdsA f n A).spot.emit 1 f none (some (hdsA f n A).sp.length)
def bodA : List (As → As) → Nat → As → As
  | [],_,A => A
  | e :: es,i,A => bodA es (i + 1) (e (A.here i))
@[irreducible] def splitA (f t : Int) (es : List (As → As)) (A : As) : As := bodA es (A.sp.length + 1) ((hdsA f es.length (A.spot.here A.sp.length)).emit 0 t (some A.sp.length) none)
theorem hdsA_ok (f : Int) {A : As} (hA : AsOk A) : ∀ n,AsOk (hdsA f n A) ∧ (hdsA f n A).is.length = A.is.length + n ∧ (hdsA f n A).sp.length = A.sp.length + n
  | 0 => ⟨hA,rfl,rfl⟩
  | n + 1 => by
    obtain ⟨h1,h2,h3⟩ := hdsA_ok f hA n
    rw [hdsA]
    exact ⟨h1.spot.emit _ _ _ _,by rw [len_emit,len_spot,h2]; rfl,by rw [emit_sp,spot_sp]; simp [h3]; omega⟩
theorem bodA_ok {K : Nat} : ∀ (es : List (As → As)) (i : Nat) (A : As),(∀ e ∈ es,∀ A',AsOk A' → AsOk (e A') ∧ (e A').is.length ≤ A'.is.length + K) → AsOk A → AsOk (bodA es i A) ∧ (bodA es i A).is.length ≤ A.is.length + es.length * K
  | [],i,A,_,hA => ⟨hA,by simp [bodA]⟩
  | e :: es,i,A,h,hA => by
    have h1 := h e (by simp) _ (hA.here i)
    have h2 := bodA_ok es (i + 1) (e (A.here i)) (fun e' he => h e' (List.mem_cons_of_mem _ he)) h1.1
    rw [bodA]
    refine ⟨h2.1,?_⟩
    have := h1.2
    rw [len_here] at this
    rw [List.length_cons,Nat.add_mul]
    omega
theorem splitA_ok {K : Nat} (f t : Int) (es : List (As → As)) {A : As} (h : ∀ e ∈ es,∀ A',AsOk A' → AsOk (e A') ∧ (e A').is.length ≤ A'.is.length + K) (hA : AsOk A) : AsOk (splitA f t es A) ∧ (splitA f t es A).is.length ≤ A.is.length + (es.length + 1) + es.length * K := by
  unfold splitA
  obtain ⟨h1,h2,h3⟩ := hdsA_ok f (hA.spot.here A.sp.length) es.length
  obtain ⟨h4,h5⟩ := bodA_ok es (A.sp.length + 1) _ h (h1.emit 0 t (some A.sp.length) none)
  rw [len_emit,h2,len_here,len_spot] at h5
  exact ⟨h4,by omega⟩
abbrev eCl {X : Type} (fn : Nat) (cp : X → List D) : Enc X := ⟨1,fun x => [.fn (.func fn) (cp x)],fun _ => rfl,by decide⟩
structure KnS (kn kn' : List (Nat × Value)) : Prop where
  sub : ∀ z ∈ kn,z ∈ kn'
theorem aslD {h : List (Nat × GB)} {ld : List Nat} {f : Nat → Nat} : ∀ ds : List D,ASLe h ld ((ds.map C.d).map SV.one) (((ds.map C.d).map SV.one).map (SV.ren f))
  | [] => .nil
  | d :: ds => .cons .refl (aslD ds)
theorem ltD (n : Nat) : ∀ ds : List D,ltA n ((ds.map C.d).map SV.one) = true
  | [] => rfl
  | d :: ds => by
    show (true && ltA n ((ds.map C.d).map SV.one)) = true
    rw [ltD n ds]; rfl
structure SpI (f : Int) (A1 : As) (kn : List (Nat × Value)) (k0 i : Nat) (B : As) (kn' : List (Nat × Value)) (vs : List Value) : Prop where
  a : B = hdsA f i A1
  k : KnS kn kn'
  v : vs.length = i
  m : ∀ (j : Nat) (h : j < vs.length),(k0 + j,vs[j]) ∈ kn'
theorem preB260 {p : Prop} (h : p := by first | with_reducible assumption | omega | (simp only [List.length_append,List.length_cons,List.length_nil,List.length_set,List.length_replicate,List.length_take,List.length_drop,List.length_tail,List.length_dropLast,List.length_reverse] at *; omega) | exact mem_len (by assumption) (by omega) | (with_reducible refine Int.le_trans (Int.ofNat_le.2 (trimR_len _)) ?_; simp only [List.length_cons,List.length_tail]; omega) | (exact (ruAt_ok (by assumption) (by assumption) (by assumption)).2.1) | (exact (ruAt_ok (by assumption) (by assumption) (by assumption)).2.1) | (have := vMach_bd (by assumption); omega) | (simp only [List.length_append,List.length_cons,List.length_nil,repW_len,seN_len] at *; omega) | (simp only [mC_ch,mC_tu]; omega) | (have := vTag_bd (by assumption); omega) | (have := (‹Gd _ _›).le; omega) | (exact tgHalts_no (by assumption)) | (exact tgHead (by assumption) (by assumption) (by assumption)) | (exact Int.le_trans (tgStep_gd (by assumption) (by assumption) (by assumption) (by assumption)).le (by decide)) | (exact vTag_r (by assumption)) | (with_reducible refine Int.le_trans (Int.ofNat_le.2 (pushL_len _ _)) ?_; simp only [List.length_dropLast]; omega) | exact ls_at (by assumption) (by omega) | exact pt_gd (by assumption) | exact lv_at (by assumption) (by omega) | exact pt_gd (lv_at (by assumption) (by omega)) | exact (ask_ok (by assumption)).1 | exact (ask_ok (by assumption)).2.1 | exact (ask_ok (by assumption)).2.2.1 | exact (ask_ok (by assumption)).2.2.2 | trivial) : p := h
theorem split_ok {X : Type} (b : Ad) (kn : List (Nat × Value)) (A : As) (fr to : Int) (fn : Nat) (cp : X → List D) (ef : X → As → As) (l : List X) (M : Nat) (hE : entB Tryz.prog fn = true) (hno : ∀ x,D.noOwn.all (cp x)) (hC : ∀ x ∈ l,∀ kn' A',KnS kn kn' → AsOk A' → (A'.is.length : Int) ≤ M + 1600 → Does Tryz.prog fn (((cp x).map C.d).map SV.one) [asG b kn' A'] .any [asG b kn' (ef x A')]) (hef : ∀ x ∈ l,∀ A',AsOk A' → AsOk (ef x A') ∧ (ef x A').is.length ≤ A'.is.length + 250) (hA : AsOk A) (hl : (A.is.length : Int) ≤ M) (hM : M ≤ 20000) (hn : (l.length : Int) ≤ 6) : Does Tryz.prog 157 [.one (.gv 0),.one (int fr),.one (int to),.one (.d (.sl false 1 (rows (eCl fn cp) l)))] [asG b kn A] .any [asG b kn (splitA fr to (l.map ef) A)] := by
  refine does_of (k := 1) Tryz.func157 rfl Tryz.ntmps157 rfl rfl fun w F0 S0 ρ0 => ?_
  dsimp only [argT,argH]
  repeat' first|(apply n3;exact a_new (gb := .bx _) rfl;exact rfl;refine dA ?_)|(apply p3;exact pu1;exact rfl)|refine cdn ?_|refine g_reg (id := 0) ?_|fail
  refine g_spot 1 rfl rfl rfl fun s => ?_
  refine g_conv (t_isv1 8 1 rfl rfl) ?_
  have h1 := len_here A.spot A.sp.length
  have h2 := len_spot A
  have h4 := hA.spot.here A.sp.length
  repeat' first|(apply n3;(exact a_litE eVv [] rfl rfl rfl rfl rfl rfl rfl rfl);exact rfl;refine dA ?_)|(apply p3;(first|exact pu1|exact puN);exact rfl)|refine cd ?_|(apply c4 0;exact callK0 (θ := [_]) (hD := (here_ok _ _ _ A.sp.length s List.mem_cons_self preB260));exact rfl;exact rfl;exact rfl;refine dM ?_)|fail
  generalize hA1 : A.spot.here A.sp.length = A1 at h1 h4
  have hs1 : A1.sp.length = A.sp.length + 1 := by rw [← hA1,here_sp,spot_sp]; simp
  refine g_loop_id ?_
  refine loopK [0,1,2,3,8,9,20] [0,2] (fun y : Int × As × List (Nat × Value) × List Value => 0 ≤ y.1 ∧ y.1 ≤ l.length ∧ SpI fr A1 ((A.sp.length,s) :: kn) (A.sp.length + 1) y.1.toNat y.2.1 y.2.2.1 y.2.2.2) (fun y => [(21,.one (int y.1))]) (fun y => [(0,asG b y.2.2.1 y.2.1),(2,.row 1 (rows eVv y.2.2.2))]) (fun y => (l.length - y.1).toNat) ((0 : Int),A1,(A.sp.length,s) :: kn,[]) [0,1,2] (hI := ?_) (hr := ?_)
  · exact ⟨by simp,by simp,rfl,⟨fun _ h => h⟩,rfl,fun j hj => by simp at hj⟩
  · rintro ⟨i,B,kn',vs⟩ ⟨k0,k1,k2⟩
    dsimp only [List.cons_append,List.nil_append] at *
    skip
    repeat' first|(apply n3;exact a_new (gb := .bx _) rfl;exact rfl;refine dA ?_)|(apply p3;(first|exact pu1|exact puC);exact rfl)|refine cdn ?_|refine g_reg (id := 4) ?_|refine g_reg (id := 5) ?_|refine g_reg (id := 9) ?_|((refine g_cond rfl (fun hc => ?_) (fun hc => ?_)) <;> (try simp only [dcB] at hc) <;> (try first|contradiction|(exfalso;omega)))|fail
    · have hok := hdsA_ok fr h4 i.toNat
      have hBe := k2.a
      rw [← hBe] at hok
      obtain ⟨g1,g2,g3⟩ := hok
      refine g_spot 3 rfl rfl rfl fun s2 => ?_
      refine g_conv (t_isv1 10 3 rfl rfl) ?_
      have h5 := g1.spot
      have h6 := len_spot B
      have h7 := k2.v
      repeat' first|(apply n3;(exact a_litE eVv [_] rfl rfl rfl rfl rfl rfl rfl rfl);exact rfl;refine dA ?_)|(apply p3;(first|exact pu1|exact a_add rfl rfl (by omega) (by omega));exact rfl)|refine cd ?_|(apply s3;exact a_appE (fP rfl) rfl rfl rfl rfl nowR (by (simp <;> omega)) (by decide) (by decide) (by exact rfl);exact rfl;exact rfl)|(apply c4 0;exact callK0 (θ := [_]) (hD := (emitNS_ok _ _ _ _ _ B.sp.length s2 List.mem_cons_self h5 preB260));exact rfl;exact rfl;exact rfl;refine dM ?_)|fail
      refine q_again (i + 1,B.spot.emit 1 fr none (some B.sp.length),(B.sp.length,s2) :: kn',vs ++ [s2]) [0,1,5] (by exact stk) ?_ ?_
      · refine ⟨by dsimp only; omega,by dsimp only; omega,?_⟩
        dsimp only
        have ei : (i + 1).toNat = i.toNat + 1 := by omega
        refine ⟨by rw [ei,hdsA,← hBe],⟨fun z hz => List.mem_cons_of_mem _ (k2.k.sub z hz)⟩,by rw [ei]; simp [h7],fun j hj => ?_⟩
        rw [List.getElem_append]
        split
        · rename_i hj2
          exact List.mem_cons_of_mem _ (k2.m j hj2)
        · rename_i hj2
          have ej : j = vs.length := by simp at hj; omega
          have e2 : A.sp.length + 1 + j = B.sp.length := by rw [g3,hs1,ej,h7]
          rw [e2]
          simp
      · dsimp only; omega
    · have hok := hdsA_ok fr h4 l.length
      have hil : i.toNat = l.length := by omega
      have hBe := k2.a
      rw [hil] at hBe
      rw [← hBe] at hok
      obtain ⟨g1,g2,g3⟩ := hok
      have h7 := k2.v
      rw [hil] at h7
      have hs0 := k2.k.sub _ (List.mem_cons_self)
      have h8 := len_emit B 0 to (some A.sp.length) none
      have h9 := g1.emit 0 to (some A.sp.length) none
      have hR : bodA (l.map ef) (A.sp.length + 1) (B.emit 0 to (some A.sp.length) none) = splitA fr to (l.map ef) A := by
        unfold splitA
        rw [hA1,List.length_map,← hBe]
      repeat' first|(apply p3;(first|exact pu1|exact puN);exact rfl)|refine cd ?_|(apply c4 0;exact callK0 (θ := [_]) (hD := (emitSN_ok _ _ _ _ _ A.sp.length s hs0 g1 preB260));exact rfl;exact rfl;exact rfl;refine dM ?_)|fail
      generalize B.emit 0 to (some A.sp.length) none = C0 at h8 h9 hR
      refine g_loop_id ?_
      refine loopK [0,9,38,39] [0] (fun y : Int × As => 0 ≤ y.1 ∧ y.1 ≤ l.length ∧ AsOk y.2 ∧ (y.2.is.length : Int) ≤ M + 7 + 250 * y.1 ∧ bodA ((l.drop y.1.toNat).map ef) (A.sp.length + 1 + y.1.toNat) y.2 = splitA fr to (l.map ef) A) (fun y => [(40,.one (int y.1))]) (fun y => [(0,asG b kn' y.2)]) (fun y => (l.length - y.1).toNat) ((0 : Int),C0) [0,1,2] (hI := ?_) (hr := ?_)
      · exact ⟨by simp,by simp,h9,by dsimp only; omega,by simpa using hR⟩
      · rintro ⟨j,C⟩ ⟨m0,m1,m2,m3,m4⟩
        dsimp only [List.cons_append,List.nil_append] at *
        skip
        repeat' first|refine cdn ?_|fail
        by_cases hj : j.toNat < l.length
        · have hd : l.drop j.toNat = l[j.toNat] :: l.drop (j.toNat + 1) := List.drop_eq_getElem_cons hj
          have hjv : j.toNat < vs.length := by omega
          have hx := List.getElem_mem hj
          generalize hxe : l[j.toNat] = x at hd hx
          have h10 := m2.here (A.sp.length + 1 + j.toNat)
          have h11 := len_here C (A.sp.length + 1 + j.toNat)
          have h12 := hef x hx _ h10
          have hkk : KnS kn kn' := ⟨fun z hz => k2.k.sub z (List.mem_cons_of_mem _ hz)⟩
          repeat' first|(apply p3;(first|exact pu1|exact puC|exact a_ldE (E := eVv) 0 rfl rfl rfl (fC rfl) rfl rfl (Nat.le_of_ble_eq_true rfl) bnd rfl (by first|exact trivial|exact rfl)|exact puI);exact rfl)|refine cdn ?_|refine g_reg (id := 11) ?_|refine g_reg (id := 12) ?_|refine g_reg (id := 13) ?_|(apply c4 0;exact callK0 (θ := [_]) (hD := (here_ok _ _ _ (A.sp.length + 1 + j.toNat) vs[j.toNat] (k2.m j.toNat hjv) preB260));exact rfl;exact rfl;exact rfl;refine dM ?_)|((refine g_cond rfl (fun hc => ?_) (fun hc => ?_)) <;> (try simp only [dcB] at hc) <;> (try first|contradiction|(exfalso;omega)))|fail
          simp only [hxe]
          repeat' first|(apply p3;(first|exact pu1|exact a_add rfl rfl (by omega) (by omega));exact rfl)|refine cd ?_|(apply c4 0;exact callK0 (θ := [0]) (hE := hE) (hD := (hC x hx kn' _ hkk h10 (by omega))) (ha := aslD _) (hlt := (ltD _ _));exact rfl;exact rfl;exact rfl;refine dM ?_)|fail
          refine q_again (j + 1,ef x (C.here (A.sp.length + 1 + j.toNat))) [0,1,2] (by exact stk) ?_ ?_
          · refine ⟨by dsimp only; omega,by dsimp only; omega,h12.1,?_,?_⟩
            · have := h12.2
              dsimp only
              omega
            · dsimp only
              rw [← m4,hd,show (j + 1).toNat = j.toNat + 1 by omega,List.map_cons,bodA]
              rfl
          · dsimp only; omega
        · skip
          have e : C = splitA fr to (l.map ef) A := by rw [← m4,List.drop_of_length_le (by omega)]; rfl
          rw [← e]
          refine g_conv (t_lessM kn 0 rfl fun z hz => k2.k.sub z (List.mem_cons_of_mem _ hz)) ?_
          repeat' first|(apply p3;(exact puC);exact rfl)|refine cd ?_|((refine g_cond rfl (fun hc => ?_) (fun hc => ?_)) <;> (try simp only [dcB] at hc) <;> (try first|contradiction|(exfalso;omega)))|fail
          repeat refine cr ?_
          refine ends_id ?_
          refine endK [] (h2 := ?_) (h3 := ?_) (nd := ?_)
          all_goals (repeat' first|exact ce0|refine ce ?_|refine ce2 ?_ ?_|(refine Or.inr (bx_eq rfl rfl ?_);(try dsimp only [C.ren,C.ren.all]);(try exact rfl))|exact SVLe.refl|refine ceb ?_)
          all_goals first | exact (show nodupB _ = true from rfl) | exact Or.inr rfl | (rfl)
end Go.Proofs.YtegpggobfdcafaaGreat
end
section
set_option linter.unusedVariables false
set_option linter.unusedSimpArgs false
set_option maxRecDepth 100000
set_option maxHeartbeats 4000000
namespace Go.Proofs.YtegpggobfdcafaaGreat
open Go Foot Go.RowKit
theorem does_pa {P : Program} {f : Nat} {b : Ad} {kn : List (Nat × Value)} {A : As} {rest : List SV} {Hs H' : List GB} {res : SV} (h : Does P f (.one (.gv 0) :: rest) (asG b kn A :: Hs) res H') : Does P f (.one (.d (.sc (paV b))) :: rest) (asG b kn A :: Hs) res H' := by
  intro vs w S ρ F hA hG
  refine h vs w S ρ F ?_ hG
  obtain ⟨v,us,rfl,h1,h2⟩ := hA
  refine ⟨v,us,rfl,?_,h2⟩
  rcases hG.roots 0 _ rfl with h0 | ⟨u,r1,us',e1,e2,e3⟩
  · cases h0
  · have a1 := one_us e1 e2
    obtain ⟨rfl,h4⟩ := h1
    exact ⟨a1,h4⟩
theorem does_own {f z : Nat} {b : Ad} {kn : List (Nat × Value)} {A A' : As} {v : Value} {xs : List D} (hno : D.noOwn.all xs) (h : Does Tryz.prog f [.one (.gv 0),.one (.d (.sc v)),.one (.d (.sl false z xs))] [asG b kn A] .any [asG b kn A']) : Does Tryz.prog f [.one (.gv 0),.one (.d (.sc v)),.one (.gv 1)] [asG b kn A,.row z xs] .any [asG b kn A',.dead] := by
  intro vs w S ρ F hA hG
  obtain ⟨v0,us0,rfl,h1,v1,us1,rfl,h2,v2,us2,rfl,h3,rfl⟩ := hA
  rcases hG.roots 0 _ rfl with q0 | ⟨u,r1,r2⟩
  · cases q0
  rcases hG.roots 1 _ rfl with q0 | ⟨u',t1,t2⟩
  · cases q0
  have hS : le S (S.or (F 1)) := le_or_left _ _
  have hv2 : u' = v2 := by have := h3.1; rw [t1] at this; exact Option.some.inj this
  subst hv2
  have hsh : Rep w (S.or (F 1)) (.sl false z xs) u' no := by
    have := (ShutL.no hno)
    exact (Shut1.sl this w S (F 1) (F 1) u' t2 (le_refl _)).keep (Agree.refl _ _) (Agree.refl _ _) (le_refl _) (le_refl _)
  have d01 : Foot.dis (F 0) (F 1) := hG.dis 0 1 (by simp) (by simp) (by decide)
  have g0 : Given w (S.or (F 1)) (fun i => if i = 0 then ρ 0 else none) F [asG b kn A] := by
    refine ⟨fun i gb hi => ?_,fun i hi => ?_,fun i j hi hj hij => ?_,fun i hi => ?_,fun i hi => hG.ex i (by simp at hi ⊢; omega),fun bb o hb => hb.elim (hG.exS bb o) (hG.ex 1 (by simp) bb o),hG.tab.keep (Agree.refl _ _) hS⟩
    · match i,hi with
      | 0,hi =>
        simp only [List.getElem?_cons_zero,Option.some.injEq] at hi
        subst hi
        obtain ⟨us',e1,e2⟩ := r2
        exact .inr ⟨u,by simpa using r1,us',by simpa using e1,(asmR b kn A).keep e2 (Agree.refl _ _) (Agree.refl _ _) hS (le_refl _)⟩
      | i + 1,hi => simp at hi
    · simp at hi; rw [if_neg (by omega)]
    · simp at hi hj; omega
    · simp at hi; subst hi
      exact fun bb o hb hs => hs.elim (hG.disS 0 (by simp) bb o hb) (d01 bb o hb)
  refine (h _ w _ _ F ⟨v0,_,rfl,⟨by simpa using h1.1,h1.2⟩,v1,_,rfl,?_,u',[],rfl,hsh,rfl⟩ g0).mono ?_
  · exact h2
  · rintro e w' ⟨v',S1,ρ',F',rfl,hr,hres⟩
    refine ⟨v',S1.or (F 1),fun i => if i = 1 then ρ 1 else ρ' i,fun i => if i = 0 then F' 0 else no,rfl,?_,trivial⟩
    have hup : le (upTo F 1) (upTo F 2) := fun bb o ⟨i,hi,hb⟩ => ⟨i,by omega,hb⟩
    have hnw : ∀ {X : Foot},le X (newOr w (upTo F 1)) → le X (newOr w (upTo F 2)) := fun hX bb o hb => (hX bb o hb).imp (hup bb o) id
    have hle : Env.le ρ' (fun i => if i = 1 then ρ 1 else ρ' i) := fun i u hi => by
      by_cases h1 : i = 1
      · subst h1; have := hr.new 1 (by simp); rw [this] at hi; cases hi
      · simp only [if_neg h1]; exact hi
    have own0 := hr.own 0 (by simp)
    refine ⟨hr.keeps.mono hup,?_,?_,by simp,fun i u hi hu => ?_,fun i hi => ?_,fun i gb hi => ?_,fun i j hi hj hij => ?_,fun i hi => ?_,fun i hi => ?_,fun i hi bb o hb => ?_⟩
    · exact or_le (hnw hr.newS) (fun bb o hb => .inl ⟨1,by simp,hb⟩)
    · intro bb o hb
      exact hb.elim (hr.exS bb o) fun hb => Nat.lt_of_lt_of_le (hG.ex 1 (by simp) bb o hb) hr.keeps.size
    · by_cases h1 : i = 1
      · subst h1; simpa using hu
      · have h0 : i = 0 := by simp at hi; omega
        subst h0
        have := hr.old 0 u (by simp) (by simpa using hu)
        simpa using this
    · simp at hi
      simp only [if_neg (show i ≠ 1 by omega)]
      exact hr.new i (by simp; omega)
    · match i,hi with
      | 0,hi =>
        simp only [List.getElem?_cons_zero,Option.some.injEq] at hi
        subst hi
        rcases hr.roots 0 _ rfl with q0 | ⟨u2,k1,k2⟩
        · cases q0
        · refine .inr ⟨u2,hle _ _ k1,?_⟩
          simp only [if_true]
          exact k2.keep (Agree.refl _ _) (Agree.refl _ _) (fun bb o hb => hb.elim (fun hb => hb.elim .inl (fun hb => .inr (.inr hb))) (fun hb => .inr (.inl hb))) hle (le_refl _)
      | 1,hi => simp at hi; exact .inl hi.symm
      | i + 2,hi => simp at hi
    · try dsimp only
      by_cases h0 : i = 0
      · have hj0 : j ≠ 0 := fun e => hij (by rw [h0,e])
        simp only [h0,if_true,if_neg hj0]; exact dis_no _
      · simp only [if_neg h0]; exact no_dis _
    · try dsimp only
      by_cases h0 : i = 0
      · subst h0
        simp only [if_true]
        exact fun bb o hb hs => hs.elim (hr.disS 0 (by simp) bb o hb) fun hf => (own0 bb o hb).elim (fun ⟨j,hj,hb'⟩ => by
          have : j = 0 := by simp at hj; omega
          subst this; exact d01 bb o hb' hf) (fun hn => by have := hG.ex 1 (by simp) bb o hf; omega)
      · simp only [if_neg h0]; exact no_dis _
    · try dsimp only
      by_cases h0 : i = 0
      · subst h0; simp only [if_true]; exact hnw own0
      · simp only [if_neg h0]; exact no_le _
    · try dsimp only at hb
      by_cases h0 : i = 0
      · subst h0; simp only [if_true] at hb; exact hr.ex 0 (by simp) bb o hb
      · simp only [if_neg h0] at hb; exact hb.elim
section
variable {P : Program} {g : Gh} {t : List (Nat × SV)} {h0 : List (Nat × GB)} {n : Nat} {a : Act} {w : World} {S : Foot} {ρ : Env} {F : Nat → Foot} {Q : Exit → St → Prop}
theorem rel_mkM {k i j : Nat} (h01 : Nat.beq k i = false) (h02 : Nat.beq k j = false) (h12 : Nat.beq i j = false) (hb : lkG h0 k = .bx [.gv i,.gv j]) (hi : lkG h0 i = .row 4 (rows eJ [])) (hj : lkG h0 j = .row 1 []) (hr : Rel g ⟨t,h0,n⟩ a w S ρ F) :
    ∃ b F',Rel g ⟨t,(k,.opq (asmR b [] ⟨[],[],[]⟩) [k]) :: (i,.dead) :: (j,.dead) :: h0,n⟩ a w S ρ F' := by
  have h01 := nbeq h01
  have h02 := nbeq h02
  have h12 := nbeq h12
  obtain ⟨b',off,v1,v2,r1,e1,e2,e3,e4,e5⟩ := rel_bx2 hr hb
  obtain ⟨vL,l1,l2⟩ := rel_rowT hr hi
  obtain ⟨vP,p1,p2⟩ := rel_rowT hr hj
  have ev1 : v1 = vL := by have := e2.1; rw [l1] at this; exact (Option.some.inj this).symm
  have ev2 : v2 = vP := by have := e3.1; rw [p1] at this; exact (Option.some.inj this).symm
  subst ev1 ev2
  refine ⟨(b',off),fun l => if l = k then chF F [k,i,j] else if l = i ∨ l = j then no else F l,?_⟩
  refine rel_re (ix := [k,i,j]) (up := [(k,.opq (asmR (b',off) [] ⟨[],[],[]⟩) [k]),(i,.dead),(j,.dead)]) hr (fun l hl => ?_) (fun l hl => ?_) (fun l hl m hm hlm => ?_) (fun l hl => ?_)
  · simp only [List.mem_cons,List.not_mem_nil,or_false,not_or] at hl
    obtain ⟨h1,h2,h3⟩ := hl
    refine ⟨by simp [h1,h2,h3],?_⟩
    simp only [List.cons_append,List.nil_append,lkG_cons,if_neg h1,if_neg h2,if_neg h3]
  · try dsimp only
    split
    · exact le_refl _
    · split
      · exact no_le _
      · rename_i h1 h2
        simp only [List.mem_cons,List.not_mem_nil,or_false] at hl
        exact absurd hl (fun hl => hl.elim h1 h2)
  · try dsimp only
    simp only [List.mem_cons,List.not_mem_nil,or_false] at hl hm
    by_cases h1 : l = k
    · have h2 : m ≠ k := fun e => hlm (by rw [h1,e])
      simp only [if_neg h2,if_pos (hm.resolve_left h2)]
      exact dis_no _
    · simp only [if_neg h1,if_pos (hl.resolve_left h1)]
      exact no_dis _
  · by_cases h1 : l = k
    · subst h1
      simp only [List.cons_append,List.nil_append,lkG_cons,if_true]
      have inF : ∀ {x : Nat},x ∈ [l,i,j] → le (F x) (chF F [l,i,j]) := fun hx b o hb => ⟨_,hx,hb⟩
      exact .inr ⟨_,r1,[paV (b',off)],by simp [r1],rfl,[],v1,v2,F l,F i,F j,no,⟨(fun x hx => by cases hx),(fun p hp => by cases hp),inF (by simp),inF (by simp),inF (by simp),no_le _,hr.dis _ _ h01,hr.dis _ _ h02,dis_no _,hr.dis _ _ h12,dis_no _,dis_no _,e1,e4,e5,l2,p2,rfl⟩⟩
    · simp only [List.mem_cons,List.not_mem_nil,or_false] at hl
      refine .inl ?_
      simp only [List.cons_append,List.nil_append,lkG_cons,if_neg h1]
      split
      · rfl
      · rw [if_pos]
        rcases hl with e | e | e
        · exact absurd e h1
        · contradiction
        · exact e
theorem g_mkM {c : Code} (k i j : Nat) (h01 : Nat.beq k i = false) (h02 : Nat.beq k j = false) (h12 : Nat.beq i j = false) (hb : lkG h0 k = .bx [.gv i,.gv j]) (hi : lkG h0 i = .row 4 (rows eJ [])) (hj : lkG h0 j = .row 1 []) (hk : ∀ b : Ad,GWp P g c ⟨t,(k,.opq (asmR b [] ⟨[],[],[]⟩) [k]) :: (i,.dead) :: (j,.dead) :: h0,n⟩ Q) : GWp P g c ⟨t,h0,n⟩ Q := ⟨fun a w S ρ F h hf => by
  obtain ⟨b,F',q1⟩ := rel_mkM h01 h02 h12 hb hi hj h
  exact (hk b).run _ _ _ _ _ q1 hf⟩
end
theorem hereA_ok (b : Ad) (kn : List (Nat × Value)) (A : As) (i : Nat) (v : Value) (hv : (i,v) ∈ kn) (hl : (A.is.length : Int) ≤ 100000) : Does Tryz.prog 149 [.one (.d (.sc (paV b))),.one (.d (.sc v))] [asG b kn A] .any [asG b kn (A.here i)] := does_pa (here_ok b kn A i v hv hl)
theorem chainA_ok (b : Ad) (kn : List (Nat × Value)) (A : As) (x : Nat) (v : Value) (pcs : List Pc) (hv : (x,v) ∈ kn) (hp : ∀ p ∈ pcs,PcOk p) (hA : AsOk A) (hl : (A.is.length : Int) ≤ 50000) (hn : (pcs.length : Int) ≤ 100) : Does Tryz.prog 153 [.one (.d (.sc (paV b))),.one (.d (.sc v)),.one (.gv 1)] [asG b kn A,.row 1 (rows ePc pcs)] .any [asG b kn (chA A x pcs),.dead] := does_pa (does_own (noOwn_rows nowPc) (chain_ok b kn A x v pcs hv hp hA hl hn))
theorem splitX_ok {X : Type} (b : Ad) (kn : List (Nat × Value)) (A : As) (fr to : Int) (fn : Nat) (cp : X → List D) (ef : X → As → As) (l : List X) (M : Nat) (hE : entB Tryz.prog fn = true) (hno : ∀ x,D.noOwn.all (cp x)) (hC : ∀ x ∈ l,∀ kn' A',KnS kn kn' → AsOk A' → (A'.is.length : Int) ≤ M + 1600 → Does Tryz.prog fn (((cp x).map C.d).map SV.one) [asG b kn' A'] .any [asG b kn' (ef x A')]) (hef : ∀ x ∈ l,∀ A',AsOk A' → AsOk (ef x A') ∧ (ef x A').is.length ≤ A'.is.length + 250) (hA : AsOk A) (hl : (A.is.length : Int) ≤ M) (hM : M ≤ 20000) (hn : (l.length : Int) ≤ 6) : Does Tryz.prog 157 [.one (.d (.sc (paV b))),.one (int fr),.one (int to),.one (.d (.sl false 1 (rows (eCl fn cp) l)))] [asG b kn A] .any [asG b kn (splitA fr to (l.map ef) A)] := does_pa (split_ok b kn A fr to fn cp ef l M hE hno hC hef hA hl hM hn)
end Go.Proofs.YtegpggobfdcafaaGreat
end
section
set_option linter.unusedVariables false
set_option linter.unusedSimpArgs false
set_option maxRecDepth 100000
set_option maxHeartbeats 4000000
namespace Go.Proofs.YtegpggobfdcafaaGreat
open Go Foot Go.RowKit
abbrev tailP (sy x : Int) : List Pc := [.lp 2 0 1,.lp 1 2 sy,.lp 2 1 1] ++ List.replicate x.toNat (.ic 1)
theorem pcOk_lp {f t k : Int} (h1 : 1 ≤ k) (h2 : k ≤ 100) : PcOk (.lp f t k) := ⟨fun f' t' k' e => by cases e; exact ⟨h1,h2⟩,by simp⟩
theorem pcOk_ic {r : Int} : PcOk (.ic r) := ⟨fun f' t' k' e => (by cases e),by simp⟩
theorem tailP_ok {sy x : Int} (h1 : 1 ≤ sy) (h2 : sy ≤ 6) : ∀ p ∈ tailP sy x,PcOk p := by
  intro p hp
  rcases List.mem_append.1 hp with hp | hp
  · simp only [List.mem_cons,List.not_mem_nil,or_false] at hp
    rcases hp with rfl | rfl | rfl <;> exact pcOk_lp (by omega) (by omega)
  · rw [(List.mem_replicate.1 hp).2]; exact pcOk_ic
theorem preB262 {p : Prop} (h : p := by first | with_reducible assumption | omega | (simp only [List.length_append,List.length_cons,List.length_nil,List.length_set,List.length_replicate,List.length_take,List.length_drop,List.length_tail,List.length_dropLast,List.length_reverse] at *; omega) | exact mem_len (by assumption) (by omega) | (with_reducible refine Int.le_trans (Int.ofNat_le.2 (trimR_len _)) ?_; simp only [List.length_cons,List.length_tail]; omega) | (exact (ruAt_ok (by assumption) (by assumption) (by assumption)).2.1) | (exact (ruAt_ok (by assumption) (by assumption) (by assumption)).2.1) | (have := vMach_bd (by assumption); omega) | (simp only [List.length_append,List.length_cons,List.length_nil,repW_len,seN_len] at *; omega) | (simp only [mC_ch,mC_tu]; omega) | (have := vTag_bd (by assumption); omega) | (have := (‹Gd _ _›).le; omega) | (exact tgHalts_no (by assumption)) | (exact tgHead (by assumption) (by assumption) (by assumption)) | (exact Int.le_trans (tgStep_gd (by assumption) (by assumption) (by assumption) (by assumption)).le (by decide)) | (exact vTag_r (by assumption)) | (with_reducible refine Int.le_trans (Int.ofNat_le.2 (pushL_len _ _)) ?_; simp only [List.length_dropLast]; omega) | exact ls_at (by assumption) (by omega) | exact pt_gd (by assumption) | exact lv_at (by assumption) (by omega) | exact pt_gd (lv_at (by assumption) (by omega)) | exact (ask_ok (by assumption)).1 | exact (ask_ok (by assumption)).2.1 | exact (ask_ok (by assumption)).2.2.1 | exact (ask_ok (by assumption)).2.2.2 | trivial) : p := h
theorem leftSplit1_ok (b : Ad) (kn : List (Nat × Value)) (A : As) (x : Nat) (v : Value) (sy y : Int) (hv : (x,v) ∈ kn) (h1 : 1 ≤ sy) (h2 : sy ≤ 6) (h3 : 0 ≤ y) (h4 : y ≤ 6) (hA : AsOk A) (hl : (A.is.length : Int) ≤ 50000) : Does Tryz.prog 209 [.one (.d (.bx false [.sc (paV b)])),.one (.d (.bx false [.sc v])),.one (.d (.bx false [.sc (.int .i64 sy)])),.one (.d (.bx false [.sc (.int .i64 y)]))] [asG b kn A] .any [asG b kn (chA A x (tailP sy y))] := by
  have hpc := tailP_ok (x := y) h1 h2
  have hln : ((tailP sy y).length : Int) ≤ 100 := by simp; omega
  refine does_of (k := 1) Tryz.func209 rfl Tryz.ntmps209 rfl rfl fun w F0 S0 ρ0 => ?_
  dsimp only [argT,argH]
  repeat' first|(apply g_drN (id := 0) okM [[],[],[],[],[2,3],[2,3,4],[2,3,4,5],[],[2,3,4,5,7],[2,3,4,5,6,7,8],[0,1,2,3,4,5,6,7,8,9]] [([],[]),([],[]),([],[]),([],[]),([],[]),([],[]),([0],[]),([],[]),([1],[]),([2],[1]),([],[_,_])] 3;(focus (refine dp 0 0 [5,6,7,8,9,10,11,12,13] [(true,0),(true,1),(true,2),(false,1)] puL ?_;refine dp 1 0 [4,6,7,8,9,10,11,12,13] [(true,0),(true,1),(true,2),(false,1)] puL ?_;refine dp 2 0 [4,5,7,11] [] (callD0 (n := _) 0 (θ := []) (hD := (loop_ok _ _ _))) ?_;refine dp 3 0 [4,5,6,11] [] puL ?_;refine dp 4 3 [4,5,11] [] (callD0 (n := _) 0 (θ := []) (hD := (loop_ok _ _ _))) ?_;refine dp 5 7 [4,5,11] [] (callD0 (n := _) 0 (θ := []) (hD := (loop_ok _ _ _))) ?_;refine duE 6 15 [4,5,11,12] [(true,1)] (atN 0 (fun _ => a_litE ePc [.lp _ _ _,.lp _ _ _,.lp _ _ _] rfl rfl rfl rfl rfl rfl rfl rfl)) (by exact rfl) (by exact rfl) ?_;refine dp 7 0 [4,5,6,7,8,9,10] [(true,0)] puL ?_;refine duN 8 61 [4,5,10] [(true,0)] (callD0 (n := _) 1 (θ := []) (hD := (incs_ok _ _ preB262 preB262))) (by exact rfl) (by exact rfl) ?_;refine duE 9 127 [4,5] [] (atS 2 (fun _ hj => a_appE (fP rfl) rfl rfl rfl rfl (nowR nowPc) (by (simp <;> omega)) (by decide) hj (by exact rfl)) (by decide)) (by exact rfl) (by exact rfl) ?_;refine duN 10 1023 [] [] (callD0 (n := _) 3 (θ := [0,3]) (hD := (chainA_ok b kn A x v (tailP sy y) hv hpc hA preB262 hln))) (by exact rfl) (by exact rfl) ?_;(refine d_nil ?_;refine dN ?_)));any_goals kernel_rfl)|fail
  repeat refine cr ?_
  refine ends_id ?_
  refine endK [] (h2 := ?_) (h3 := ?_) (nd := ?_)
  all_goals (repeat' first|exact ce0|refine ce ?_|refine ce2 ?_ ?_|(refine Or.inr (bx_eq rfl rfl ?_);(try dsimp only [C.ren,C.ren.all]);(try exact rfl))|exact SVLe.refl|refine ceb ?_)
  all_goals first | exact (show nodupB _ = true from rfl) | exact Or.inr rfl | (rfl)
def rngI (n : Nat) : List Int := (List.range n).map Int.ofNat
theorem rngI_succ (n : Nat) : rngI (n + 1) = rngI n ++ [(n : Int)] := by unfold rngI; rw [List.range_succ,List.map_append]; rfl
theorem rngI_len (n : Nat) : (rngI n).length = n := by unfold rngI; simp
theorem rngI_mem {n : Nat} {y : Int} (h : y ∈ rngI n) : 0 ≤ y ∧ y < n := by
  unfold rngI at h
  obtain ⟨i,h1,rfl⟩ := List.mem_map.1 h
  have := List.mem_range.1 h1
  exact ⟨Int.natCast_nonneg _,Int.ofNat_lt.2 this⟩
theorem lenP_app (l m : List Pc) : lenP (l ++ m) = lenP l + lenP m := by unfold lenP; simp
theorem lenP_ic (r : Int) : ∀ n,lenP (List.replicate n (.ic r)) = n
  | 0 => rfl
  | n + 1 => by
    have := lenP_ic r n
    unfold lenP at *
    rw [List.replicate_succ,List.map_cons,List.sum_cons,this]
    simp [Pc.len]; omega
theorem lenP_tail (sy y : Int) : lenP (tailP sy y) = 5 + sy.toNat + y.toNat := by
  unfold tailP
  rw [lenP_app,lenP_ic]
  simp [lenP,Pc.len]
  omega
@[irreducible] def leftA (sy : Int) (tg : Nat) (A : As) : As := splitA 0 2 ((rngI sy.toNat).map fun y A => chA A tg (tailP sy y)) A
theorem leftE_ok {sy : Int} (tg : Nat) (h1 : 1 ≤ sy) (h2 : sy ≤ 6) : ∀ y ∈ rngI sy.toNat,∀ A',AsOk A' → AsOk (chA A' tg (tailP sy y)) ∧ (chA A' tg (tailP sy y)).is.length ≤ A'.is.length + 17 := by
  intro y hy A' hA
  have hb := rngI_mem hy
  have := chA_ok tg (tailP sy y) A' (tailP_ok h1 h2) hA
  refine ⟨this.1,?_⟩
  rw [this.2,lenP_tail]
  omega
theorem leftA_ok {sy : Int} (tg : Nat) {A : As} (h1 : 1 ≤ sy) (h2 : sy ≤ 6) (hA : AsOk A) : AsOk (leftA sy tg A) ∧ (leftA sy tg A).is.length ≤ A.is.length + 110 := by
  unfold leftA
  have := splitA_ok (K := 17) 0 2 ((rngI sy.toNat).map fun y A => chA A tg (tailP sy y)) (A := A) (fun e he A' hA' => by
    obtain ⟨y,hy,rfl⟩ := List.mem_map.1 he
    exact leftE_ok tg h1 h2 y hy A' hA') hA
  refine ⟨this.1,?_⟩
  have h3 := this.2
  rw [List.length_map,rngI_len] at h3
  omega
abbrev cpL (b : Ad) (v : Value) (sy : Int) (y : Int) : List D := [.bx false [.sc (paV b)],.bx false [.sc v],.bx false [.sc (.int .i64 sy)],.bx false [.sc (.int .i64 y)]]
theorem leftSplit_ok (b : Ad) (kn : List (Nat × Value)) (A : As) (x : Nat) (v : Value) (sy : Int) (hv : (x,v) ∈ kn) (h1 : 1 ≤ sy) (h2 : sy ≤ 6) (hA : AsOk A) (hl : (A.is.length : Int) ≤ 20000) : Does Tryz.prog 156 [.one (int sy),.one (.d (.sc (paV b))),.one (.d (.sc v))] [asG b kn A] .any [asG b kn (leftA sy x A)] := by
  refine does_of (k := 1) Tryz.func156 rfl Tryz.ntmps156 rfl rfl fun w F0 S0 ρ0 => ?_
  dsimp only [argT,argH]
  repeat' first|(apply n3;exact a_new (gb := .bx _) rfl;exact rfl;refine dA ?_)|refine cdn ?_|refine g_reg (id := 0) ?_|fail
  first | refine g_turn (t_frzB (d := 3) (i := 1) rfl rfl rfl) ?_ | refine o_turn (t_frzB (d := 3) (i := 1) rfl rfl rfl) ?_
  first | refine g_turn (t_frzB (d := 4) (i := 2) rfl rfl rfl) ?_ | refine o_turn (t_frzB (d := 4) (i := 2) rfl rfl rfl) ?_
  first | refine g_turn (t_frzB (d := 5) (i := 3) rfl rfl rfl) ?_ | refine o_turn (t_frzB (d := 5) (i := 3) rfl rfl rfl) ?_
  repeat' first|(apply n3;(exact a_litE (eCl 209 (cpL b v sy)) [] rfl rfl rfl rfl rfl rfl rfl rfl);exact rfl;refine dA ?_)|(apply p3;(exact pu1);exact rfl)|refine cd ?_|fail
  refine g_loop_id ?_
  refine loopK [3,4,5,6,9] [0,4] (fun i : Int => 0 ≤ i ∧ i ≤ sy) (fun i => [(10,.one (int i))]) (fun i => [(0,asG b kn A),(4,.row 1 (rows (eCl 209 (cpL b v sy)) (rngI i.toNat)))]) (fun i => (sy - i).toNat) (0 : Int) [0,1,2,3,4] (hI := ?_) (hr := ?_)
  · exact ⟨by omega,by omega⟩
  · rintro i ⟨k0,k1⟩
    dsimp only [List.cons_append,List.nil_append] at *
    skip
    repeat' first|(apply n3;exact a_new (gb := .bx _) rfl;exact rfl;refine dA ?_)|(apply p3;(first|exact pu1|exact puC);exact rfl)|refine cdn ?_|refine g_reg (id := 3) ?_|refine g_reg (id := 4) ?_|refine g_reg (id := 7) ?_|(apply w3;(exact a_st_bx rfl rfl rfl rfl (fN rfl rfl) (Nat.le_of_ble_eq_true rfl) rfl);exact rfl;refine dS ?_)|((refine g_cond rfl (fun hc => ?_) (fun hc => ?_)) <;> (try simp only [dcB] at hc) <;> (try first|contradiction|(exfalso;omega)))|fail
    · skip
      first | refine g_turn (t_frzB (d := 7) (i := 5) rfl rfl rfl) ?_ | refine o_turn (t_frzB (d := 7) (i := 5) rfl rfl rfl) ?_
      have hrl := rngI_len i.toNat
      repeat' first|(apply n3;(exact a_litE (eCl 209 (cpL b v sy)) [_] rfl rfl rfl rfl rfl rfl rfl rfl);exact rfl;refine dA ?_)|(apply p3;(first|exact pu1|exact a_add rfl rfl (by omega) (by omega));exact rfl)|refine cd ?_|(apply s3;exact a_appE (fP rfl) rfl rfl rfl rfl nowR (by (simp <;> omega)) (by decide) (by decide) (by exact rfl);exact rfl;exact rfl)|fail
      have e : rngI i.toNat ++ [i] = rngI (i + 1).toNat := by rw [show (i + 1).toNat = i.toNat + 1 by omega,rngI_succ,show ((i.toNat : Nat) : Int) = i by omega]
      rw [e]
      refine q_again (i + 1) [0,1,2,3,7] (by exact stk) ?_ ?_
      · exact ⟨by omega,by omega⟩
      · omega
    · have e : i.toNat = sy.toNat := by omega
      rw [e]
      have eL : leftA sy x A = splitA 0 2 ((rngI sy.toNat).map fun y A => chA A x (tailP sy y)) A := by unfold leftA; rfl
      have hlR : ((rngI sy.toNat).length : Int) ≤ 6 := by rw [rngI_len]; omega
      rw [eL]
      first | refine g_turn (t_frzR (d := 19) (i := 4) rfl rfl shutR) ?_ | refine o_turn (t_frzR (d := 19) (i := 4) rfl rfl shutR) ?_
      repeat' first|refine cd ?_|(apply c4 0;exact callK0 (θ := [0]) (hD := (splitX_ok b kn A 0 2 209 (cpL b v sy) (fun y A => chA A x (tailP sy y)) (rngI sy.toNat) 20000 (fQ rfl) (fun _ => by repeat (first|exact trivial|exact rfl|refine And.intro ?_ ?_)) (fun y hy kn' A' hk hA' hl' => leftSplit1_ok b kn' A' x v sy y (hk.sub _ hv) h1 h2 (rngI_mem hy).1 (by have := (rngI_mem hy).2;omega) hA' (by omega)) (fun y hy A' hA' => ⟨(leftE_ok x h1 h2 y hy A' hA').1,by have := (leftE_ok x h1 h2 y hy A' hA').2;omega⟩) hA preB262 (by decide) hlR));exact rfl;exact rfl;exact rfl;refine dM ?_)|fail
      repeat refine cr ?_
      refine ends_id ?_
      refine endK [] (h2 := ?_) (h3 := ?_) (nd := ?_)
      all_goals (repeat' first|exact ce0|refine ce ?_|refine ce2 ?_ ?_|(refine Or.inr (bx_eq rfl rfl ?_);(try dsimp only [C.ren,C.ren.all]);(try exact rfl))|exact SVLe.refl|refine ceb ?_)
      all_goals first | exact (show nodupB _ = true from rfl) | exact Or.inr rfl | (rfl)
end Go.Proofs.YtegpggobfdcafaaGreat
end
section
set_option linter.unusedVariables false
set_option linter.unusedSimpArgs false
set_option maxRecDepth 100000
set_option maxHeartbeats 4000000
namespace Go.Proofs.YtegpggobfdcafaaGreat
open Go Foot Go.RowKit
abbrev haltP (sy x : Int) : List Pc := [.lp 2 1 sy] ++ List.replicate x.toNat (.ic 1)
abbrev rightP (sy x : Int) : List Pc := [.lp 2 1 1,.lp 0 2 sy,.lp 2 0 1] ++ List.replicate x.toNat (.ic 0)
theorem haltP_ok {sy x : Int} (h1 : 1 ≤ sy) (h2 : sy ≤ 6) : ∀ p ∈ haltP sy x,PcOk p := by
  intro p hp
  rcases List.mem_append.1 hp with hp | hp
  · simp only [List.mem_cons,List.not_mem_nil,or_false] at hp
    subst hp
    exact pcOk_lp (by omega) (by omega)
  · rw [(List.mem_replicate.1 hp).2]; exact pcOk_ic
theorem rightP_ok {sy x : Int} (h1 : 1 ≤ sy) (h2 : sy ≤ 6) : ∀ p ∈ rightP sy x,PcOk p := by
  intro p hp
  rcases List.mem_append.1 hp with hp | hp
  · simp only [List.mem_cons,List.not_mem_nil,or_false] at hp
    rcases hp with rfl | rfl | rfl <;> exact pcOk_lp (by omega) (by omega)
  · rw [(List.mem_replicate.1 hp).2]; exact pcOk_ic
theorem lenP_halt (sy y : Int) : lenP (haltP sy y) = 1 + sy.toNat + y.toNat := by
  unfold haltP
  rw [lenP_app,lenP_ic]
  simp [lenP,Pc.len]
  omega
theorem lenP_right (sy y : Int) : lenP (rightP sy y) = 5 + sy.toNat + y.toNat := by
  unfold rightP
  rw [lenP_app,lenP_ic]
  simp [lenP,Pc.len]
  omega
@[irreducible] def secE (m : Mach) (r : Rule') (v : Int) (A : As) : As :=
  if r = noR then chA A m.st.toNat (haltP m.sy v) else if r.m = 1 then chA A r.n.toNat (rightP m.sy r.w) else leftA m.sy r.n.toNat ((chA A.spot A.sp.length (haltP m.sy r.w)).here A.sp.length)
structure RuOk (m : Mach) (r : Rule') : Prop where
  ok : r = noR ∨ ((0 ≤ r.w ∧ r.w ≤ m.sy - 1) ∧ (r.m = 1 ∨ r.m = -1) ∧ 0 ≤ r.n ∧ r.n ≤ m.st - 1)
structure MaOk (m : Mach) : Prop where
  sy : 2 ≤ m.sy ∧ m.sy ≤ 6
  st : 1 ≤ m.st ∧ m.st ≤ 1000
theorem secE_ok {m : Mach} {r : Rule'} {v : Int} (hm : MaOk m) (hr : RuOk m r) (h0 : 0 ≤ v) (h1 : v ≤ m.sy - 1) {A : As} (hA : AsOk A) : AsOk (secE m r v A) ∧ (secE m r v A).is.length ≤ A.is.length + 250 := by
  obtain ⟨⟨s1,s2⟩,s3⟩ := hm
  unfold secE
  split
  · have := chA_ok m.st.toNat (haltP m.sy v) A (haltP_ok (by omega) s2) hA
    refine ⟨this.1,?_⟩
    rw [this.2,lenP_halt]
    omega
  · rename_i hn
    obtain ⟨⟨w1,w2⟩,_,_⟩ := hr.ok.resolve_left hn
    split
    · have := chA_ok r.n.toNat (rightP m.sy r.w) A (rightP_ok (by omega) s2) hA
      refine ⟨this.1,?_⟩
      rw [this.2,lenP_right]
      omega
    · have h3 := chA_ok A.sp.length (haltP m.sy r.w) A.spot (haltP_ok (by omega) s2) hA.spot
      have h4 := leftA_ok r.n.toNat (by omega) s2 (h3.1.here A.sp.length)
      refine ⟨h4.1,?_⟩
      have h5 := h4.2
      rw [len_here,h3.2,len_spot,lenP_halt] at h5
      omega
structure SeOk (m : Mach) (kn : List (Nat × Value)) (vs : List Value) : Prop where
  len : (vs.length : Int) = m.st + 1
  mem : ∀ (j : Nat) (h : j < vs.length),(j,vs[j]) ∈ kn
theorem preB263 {p : Prop} (h : p := by first | with_reducible assumption | omega | (simp only [List.length_append,List.length_cons,List.length_nil,List.length_set,List.length_replicate,List.length_take,List.length_drop,List.length_tail,List.length_dropLast,List.length_reverse] at *; omega) | exact mem_len (by assumption) (by omega) | (with_reducible refine Int.le_trans (Int.ofNat_le.2 (trimR_len _)) ?_; simp only [List.length_cons,List.length_tail]; omega) | (exact (ruAt_ok (by assumption) (by assumption) (by assumption)).2.1) | (exact (ruAt_ok (by assumption) (by assumption) (by assumption)).2.1) | (have := vMach_bd (by assumption); omega) | (simp only [List.length_append,List.length_cons,List.length_nil,repW_len,seN_len] at *; omega) | (simp only [mC_ch,mC_tu]; omega) | (have := vTag_bd (by assumption); omega) | (have := (‹Gd _ _›).le; omega) | (exact tgHalts_no (by assumption)) | (exact tgHead (by assumption) (by assumption) (by assumption)) | (exact Int.le_trans (tgStep_gd (by assumption) (by assumption) (by assumption) (by assumption)).le (by decide)) | (exact vTag_r (by assumption)) | (with_reducible refine Int.le_trans (Int.ofNat_le.2 (pushL_len _ _)) ?_; simp only [List.length_dropLast]; omega) | exact ls_at (by assumption) (by omega) | exact pt_gd (by assumption) | exact lv_at (by assumption) (by omega) | exact pt_gd (lv_at (by assumption) (by omega)) | exact (ask_ok (by assumption)).1 | exact (ask_ok (by assumption)).2.1 | exact (ask_ok (by assumption)).2.2.1 | exact (ask_ok (by assumption)).2.2.2 | trivial) : p := h
theorem machineSection1_ok (b : Ad) (kn : List (Nat × Value)) (A : As) (m : Mach) (r : Rule') (v : Int) (vs : List Value) (hm : MaOk m) (hr : RuOk m r) (hs : SeOk m kn vs) (h3 : 0 ≤ v) (h4 : v ≤ m.sy - 1) (hA : AsOk A) (hl : (A.is.length : Int) ≤ 15000) : Does Tryz.prog 151 [.one (.d (.bx false [.sc (.int .i64 r.w),.sc (.int .i64 r.m),.sc (.int .i64 r.n)])),.one (.d (.bx false [.sc (paV b)])),.one (.d (.bx false [.sl false 1 (rows eVv vs)])),.one (.d (maD m)),.one (.d (.bx false [.sc (.int .i64 m.sy)])),.one (.d (.bx false [.sc (.int .i64 v)]))] [asG b kn A] .any [asG b kn (secE m r v A)] := by
  obtain ⟨ya,yb⟩ := hm.sy
  obtain ⟨yc,yd⟩ := hm.st
  have hvl := hs.len
  by_cases hn : r = noR
  · have e : secE m r v A = chA A m.st.toNat (haltP m.sy v) := by unfold secE; rw [if_pos hn]
    have hst : m.st.toNat < vs.length := by omega
    have hln : ((haltP m.sy v).length : Int) ≤ 100 := by simp; omega
    rw [e]
    refine does_of (k := 1) Tryz.func151 rfl Tryz.ntmps151 rfl rfl fun w F0 S0 ρ0 => ?_
    dsimp only [argT,argH]
    repeat' first|(apply p3;(exact pu1);exact rfl)|refine cd ?_|(apply c4 0;exact callK1 (θ := []) (hD := (isRule_ok _));exact rfl;exact rfl;exact rfl;refine dM ?_)|(apply g_drN (id := 5) okM [[],[],[],[2],[1,2,3],[1,2,3,4],[],[6],[6,7],[],[6,7,9],[6,7,8,9,10],[0,1,2,3,4,5,6,7,8,9,10,11]] [([],[]),([],[]),([],[]),([],[]),([],[]),([],[]),([],[]),([],[]),([0],[]),([],[]),([1],[]),([2],[1]),([],[_,_])] 3;(focus (refine dp 0 0 [35,36,37,38,39,40,41,42,43,44,45] [(true,0),(true,1),(true,2),(false,1)] puL ?_;refine dp 1 0 [34,36,37,40,41,42,43,44,45] [(true,0),(true,1),(true,2),(false,1)] puL ?_;refine dp 2 0 [34,35,40,41,42,43,44,45] [(true,0),(true,1),(true,2),(false,1)] (a_pure (sv := .one _) rfl) ?_;refine dp 3 1 [34,35,40,41,42,43,44,45] [(true,0),(true,1),(true,2),(false,1)] puL ?_;refine dp 4 7 [34,40,41,42,43,44,45] [(true,0),(true,1),(true,2),(false,1)] puI ?_;refine dp 5 15 [34,40,41,42,43,44,45] [(true,0),(true,1),(true,2),(false,1)] (by exact puL) ?_;refine dp 6 0 [34,35,36,37,38,39,43] [] puL ?_;refine dp 7 1 [34,35,36,37,38,39,43] [] (callD0 (n := _) 0 (θ := []) (hD := (loop_ok _ _ _))) ?_;refine duE 8 3 [34,35,36,37,38,39,43,44] [(true,1)] (atN 0 (fun _ => a_litE ePc [.lp _ _ _] rfl rfl rfl rfl rfl rfl rfl rfl)) (by exact rfl) (by exact rfl) ?_;refine dp 9 0 [34,35,36,37,38,39,40,41,42] [(true,0)] puL ?_;refine duN 10 13 [34,35,36,37,38,39,42] [(true,0)] (callD0 (n := _) 1 (θ := []) (hD := (incs_ok _ _ preB263 preB263))) (by exact rfl) (by exact rfl) ?_;refine duE 11 31 [34,35,36,37,38,39] [] (atS 2 (fun _ hj => a_appE (fP rfl) rfl rfl rfl rfl (nowR nowPc) (by (simp <;> omega)) (by decide) hj (by exact rfl)) (by decide)) (by exact rfl) (by exact rfl) ?_;refine duN 12 4095 [] [] (callD0 (n := _) 3 (θ := [0,3]) (hD := (chainA_ok b kn A m.st.toNat vs[m.st.toNat] (haltP m.sy v) (hs.mem _ hst) (haltP_ok (by omega) yb) hA preB263 hln))) (by exact rfl) (by exact rfl) ?_;(refine d_nil ?_;refine dN ?_)));any_goals kernel_rfl)|((refine g_cond rfl (fun hc => ?_) (fun hc => ?_)) <;> (try simp only [dcB] at hc) <;> (try first|contradiction|(exfalso;omega)))|fail
    repeat refine cr ?_
    refine ends_id ?_
    refine endK [] (h2 := ?_) (h3 := ?_) (nd := ?_)
    all_goals (repeat' first|exact ce0|refine ce ?_|refine ce2 ?_ ?_|(refine Or.inr (bx_eq rfl rfl ?_);(try dsimp only [C.ren,C.ren.all]);(try exact rfl))|exact SVLe.refl|refine ceb ?_)
    all_goals first | exact (show nodupB _ = true from rfl) | exact Or.inr rfl | (rfl)
  · obtain ⟨⟨w1,w2⟩,w3,w4,w5⟩ := hr.ok.resolve_left hn
    have hnx : r.n.toNat < vs.length := by omega
    by_cases hm1 : r.m = 1
    · have e : secE m r v A = chA A r.n.toNat (rightP m.sy r.w) := by unfold secE; rw [if_neg hn,if_pos hm1]
      have hln : ((rightP m.sy r.w).length : Int) ≤ 100 := by simp; omega
      rw [e]
      refine does_of (k := 1) Tryz.func151 rfl Tryz.ntmps151 rfl rfl fun w F0 S0 ρ0 => ?_
      dsimp only [argT,argH]
      repeat' first|(apply p3;(first|exact pu1|exact puC);exact rfl)|refine cd ?_|(apply c4 0;exact callK1 (θ := []) (hD := (isRule_ok _));exact rfl;exact rfl;exact rfl;refine dM ?_)|(apply g_drN (id := 7) okM [[],[],[],[2],[1,2,3],[1,2,3,4],[],[],[6,7],[6,7,8],[6,7,8,9],[],[11],[6,7,8,9,11,12],[6,7,8,9,10,11,12,13],[0,1,2,3,4,5,6,7,8,9,10,11,12,13,14]] [([],[]),([],[]),([],[]),([],[]),([],[]),([],[]),([],[]),([],[]),([],[]),([],[]),([0],[]),([],[]),([],[]),([1],[]),([2],[1]),([],[_,_])] 3;(focus (refine dp 0 0 [52,53,54,55,56,57,58,59,60,61,62,63,64,65] [(true,0),(true,1),(true,2),(false,1)] puL ?_;refine dp 1 0 [51,53,54,57,58,59,60,61,62,63,64,65] [(true,0),(true,1),(true,2),(false,1)] puL ?_;refine dp 2 0 [51,52,57,58,59,60,61,62,63,64,65] [(true,0),(true,1),(true,2),(false,1)] (a_pure (sv := .one _) rfl) ?_;refine dp 3 1 [51,52,57,58,59,60,61,62,63,64,65] [(true,0),(true,1),(true,2),(false,1)] puL ?_;refine dp 4 7 [51,57,58,59,60,61,62,63,64,65] [(true,0),(true,1),(true,2),(false,1)] puI ?_;refine dp 5 15 [51,57,58,59,60,61,62,63,64,65] [(true,0),(true,1),(true,2),(false,1)] (by exact puL) ?_;refine dp 6 0 [51,52,53,54,55,56,58,62,63] [] (callD0 (n := _) 0 (θ := []) (hD := (loop_ok _ _ _))) ?_;refine dp 7 0 [51,52,53,54,55,56,57,62,63] [] puL ?_;refine dp 8 3 [51,52,53,54,55,56,62,63] [] (callD0 (n := _) 0 (θ := []) (hD := (loop_ok _ _ _))) ?_;refine dp 9 7 [51,52,53,54,55,56,62,63] [] (callD0 (n := _) 0 (θ := []) (hD := (loop_ok _ _ _))) ?_;refine duE 10 15 [51,52,53,54,55,56,62,63,64] [(true,1)] (atN 0 (fun _ => a_litE ePc [.lp _ _ _,.lp _ _ _,.lp _ _ _] rfl rfl rfl rfl rfl rfl rfl rfl)) (by exact rfl) (by exact rfl) ?_;refine dp 11 0 [51,52,53,54,55,56,57,58,59,60,61] [(true,0)] (a_pure (sv := .one _) rfl) ?_;refine dp 12 1 [51,52,53,54,55,56,57,58,59,60,61] [(true,0)] puL ?_;refine duN 13 123 [51,52,53,54,55,56,61] [(true,0)] (callD0 (n := _) 1 (θ := []) (hD := (incs_ok _ _ preB263 preB263))) (by exact rfl) (by exact rfl) ?_;refine duE 14 255 [51,52,53,54,55,56] [] (atS 2 (fun _ hj => a_appE (fP rfl) rfl rfl rfl rfl (nowR nowPc) (by (simp <;> omega)) (by decide) hj (by exact rfl)) (by decide)) (by exact rfl) (by exact rfl) ?_;refine duN 15 32767 [] [] (callD0 (n := _) 3 (θ := [0,3]) (hD := (chainA_ok b kn A r.n.toNat vs[r.n.toNat] (rightP m.sy r.w) (hs.mem _ hnx) (rightP_ok (by omega) yb) hA preB263 hln))) (by exact rfl) (by exact rfl) ?_;(refine d_nil ?_;refine dN ?_)));any_goals kernel_rfl)|((refine g_cond rfl (fun hc => ?_) (fun hc => ?_)) <;> (try simp only [dcB] at hc) <;> (try first|contradiction|(exfalso;omega)))|fail
      repeat refine cr ?_
      refine ends_id ?_
      refine endK [] (h2 := ?_) (h3 := ?_) (nd := ?_)
      all_goals (repeat' first|exact ce0|refine ce ?_|refine ce2 ?_ ?_|(refine Or.inr (bx_eq rfl rfl ?_);(try dsimp only [C.ren,C.ren.all]);(try exact rfl))|exact SVLe.refl|refine ceb ?_)
      all_goals first | exact (show nodupB _ = true from rfl) | exact Or.inr rfl | (rfl)
    · have e : secE m r v A = leftA m.sy r.n.toNat ((chA A.spot A.sp.length (haltP m.sy r.w)).here A.sp.length) := by unfold secE; rw [if_neg hn,if_neg hm1]
      have hln : ((haltP m.sy r.w).length : Int) ≤ 100 := by simp; omega
      have c1 := len_spot A
      have c2 := chA_ok A.sp.length (haltP m.sy r.w) A.spot (haltP_ok (by omega) yb) hA.spot
      have c3 := lenP_halt m.sy r.w
      have c4' := len_here (chA A.spot A.sp.length (haltP m.sy r.w)) A.sp.length
      have c5 := c2.1.here A.sp.length
      have c6 := hA.spot
      have c7 := c2.2
      have q1 : ((chA A.spot A.sp.length (haltP m.sy r.w)).is.length : Int) ≤ 100000 := by omega
      have q2 : (((chA A.spot A.sp.length (haltP m.sy r.w)).here A.sp.length).is.length : Int) ≤ 20000 := by omega
      rw [e]
      refine does_of (k := 1) Tryz.func151 rfl Tryz.ntmps151 rfl rfl fun w F0 S0 ρ0 => ?_
      dsimp only [argT,argH]
      repeat' first|(apply n3;exact a_new (gb := .bx _) rfl;exact rfl;refine dA ?_)|(apply p3;(first|exact pu1|exact puC);exact rfl)|refine cdn ?_|refine g_reg (id := 4) ?_|refine g_reg (id := 6) ?_|refine g_reg (id := 0) ?_|(apply c4 0;exact callK1 (θ := []) (hD := (isRule_ok _));exact rfl;exact rfl;exact rfl;refine dM ?_)|((refine g_cond rfl (fun hc => ?_) (fun hc => ?_)) <;> (try simp only [dcB] at hc) <;> (try first|contradiction|(exfalso;omega)))|fail
      refine g_spot 1 rfl rfl rfl fun s => ?_
      refine g_conv (t_isv1 6 1 rfl rfl) ?_
      repeat' first|(apply p3;(exact pu1);exact rfl)|refine cdn ?_|refine g_reg (id := 2) ?_|(apply c4 0;exact callK0 (θ := [0]) (hD := (hereA_ok b _ (chA A.spot A.sp.length (haltP m.sy r.w)) A.sp.length s List.mem_cons_self q1));exact rfl;exact rfl;exact rfl;refine dM ?_)|(apply g_drN (id := 1) okM [[],[],[],[2],[2,3],[],[5],[2,3,5,6],[2,3,4,5,6,7],[0,1,2,3,4,5,6,7,8]] [([],[]),([],[]),([],[]),([],[]),([0],[]),([],[]),([],[]),([1],[]),([2],[2]),([],[_,_])] 3;(focus (refine dp 0 0 [10,11,12,13,14,15,16,17] [(true,0),(true,1),(true,2),(false,2)] puL ?_;refine dp 1 0 [9,11,12,13,14,15,16,17] [(true,0),(true,1),(true,2),(false,2)] pu1 ?_;refine dp 2 0 [9,10,14,15] [] puL ?_;refine dp 3 1 [9,10,14,15] [] (callD0 (n := _) 0 (θ := []) (hD := (loop_ok _ _ _))) ?_;refine duE 4 3 [9,10,14,15,16] [(true,1)] (atN 0 (fun _ => a_litE ePc [.lp _ _ _] rfl rfl rfl rfl rfl rfl rfl rfl)) (by exact rfl) (by exact rfl) ?_;refine dp 5 0 [9,10,11,12,13] [(true,0)] (a_pure (sv := .one _) rfl) ?_;refine dp 6 1 [9,10,11,12,13] [(true,0)] puL ?_;refine duN 7 27 [9,10,13] [(true,0)] (callD0 (n := _) 1 (θ := []) (hD := (incs_ok _ _ preB263 preB263))) (by exact rfl) (by exact rfl) ?_;refine duE 8 63 [9,10] [] (atS 2 (fun _ hj => a_appE (fP rfl) rfl rfl rfl rfl (nowR nowPc) (by (simp <;> omega)) (by decide) hj (by exact rfl)) (by decide)) (by exact rfl) (by exact rfl) ?_;refine duN 9 511 [] [] (callD0 (n := _) 3 (θ := [0,4]) (hD := (chainA_ok b ((A.sp.length,s) :: kn) A.spot A.sp.length s (haltP m.sy r.w) List.mem_cons_self (haltP_ok (by omega) yb) c6 preB263 hln))) (by exact rfl) (by exact rfl) ?_;(refine d_nil ?_;refine dN ?_)));any_goals kernel_rfl)|fail
      refine g_cv ?_
      repeat' first|(apply g_drN (id := 3) okM [[],[],[],[],[3],[2,3,4],[2,3,4,5],[0,1,2,3,4,5,6]] [([],[]),([],[]),([],[]),([],[]),([],[]),([],[]),([],[]),([],[_])] 0;(focus (refine dp 0 0 [23,24,25,26,27,28] [] puL ?_;refine dp 1 0 [22,24,25,26,27,28] [] puL ?_;refine dp 2 0 [22,23,25,26] [] puL ?_;refine dp 3 0 [22,23,24] [] (a_pure (sv := .one _) rfl) ?_;refine dp 4 1 [22,23,24] [] puL ?_;refine dp 5 7 [22,23] [] puI ?_;refine dp 6 15 [22,23] [] (by exact puL) ?_;refine duN 7 127 [] [] (callD0 (n := _) 0 (θ := [0]) (hD := (leftSplit_ok b _ ((chA A.spot A.sp.length (haltP m.sy r.w)).here A.sp.length) r.n.toNat vs[r.n.toNat] m.sy (List.mem_cons_of_mem _ (hs.mem _ hnx)) preB263 preB263 c5 q2))) (by exact rfl) (by exact rfl) ?_;(refine d_nil ?_;refine dN ?_)));any_goals kernel_rfl)|fail
      refine q_cv (t_lessM kn 0 rfl fun y hy => List.mem_cons_of_mem _ hy) ?_
      refine q_cv0 ?_
      repeat' first|refine cd ?_|fail
      repeat refine cr ?_
      refine ends_id ?_
      refine endK [] (h2 := ?_) (h3 := ?_) (nd := ?_)
      all_goals (repeat' first|exact ce0|refine ce ?_|refine ce2 ?_ ?_|(refine Or.inr (bx_eq rfl rfl ?_);(try dsimp only [C.ren,C.ren.all]);(try exact rfl))|exact SVLe.refl|refine ceb ?_)
      all_goals first | exact (show nodupB _ = true from rfl) | exact Or.inr rfl | (rfl)
@[irreducible] def ruQ (m : Mach) (q v : Int) : Rule' := m.ru.getD (q * m.sy + v).toNat noR
@[irreducible] def secA (m : Mach) (q : Int) (A : As) : As := splitA 1 2 ((rngI m.sy.toNat).map fun v => secE m (ruQ m q v) v) A
structure MaRu (m : Mach) : Prop where
  ok : MaOk m
  len : (m.ru.length : Int) = m.sy * m.st
  ru : ∀ q v,0 ≤ q → q ≤ m.st - 1 → 0 ≤ v → v ≤ m.sy - 1 → RuOk m (ruQ m q v)
theorem maRu_ix {m : Mach} (hm : MaRu m) {q v : Int} (h1 : 0 ≤ q) (h2 : q ≤ m.st - 1) (h3 : 0 ≤ v) (h4 : v ≤ m.sy - 1) : 0 ≤ q * m.sy ∧ q * m.sy + v < m.ru.length ∧ (m.ru.length : Int) ≤ 6000 := by
  obtain ⟨⟨s1,s2⟩,s3,s4⟩ := hm.ok
  have a1 : q * m.sy ≤ (m.st - 1) * m.sy := Int.mul_le_mul_of_nonneg_right h2 (by omega)
  have a2 : (m.st - 1) * m.sy = m.sy * m.st - m.sy := by rw [Int.sub_mul,Int.mul_comm]; omega
  have a3 : m.sy * m.st ≤ 6 * m.st := Int.mul_le_mul_of_nonneg_right s2 (by omega)
  have := hm.len
  exact ⟨Int.mul_nonneg h1 (by omega),by omega,by omega⟩
theorem ruQ_get {m : Mach} {q v : Int} (h : (q * m.sy + v).toNat < m.ru.length) : m.ru[(q * m.sy + v).toNat] = ruQ m q v := by
  unfold ruQ
  rw [List.getD_eq_getElem?_getD,List.getElem?_eq_getElem h]
  rfl
theorem secA_ok {m : Mach} (hm : MaRu m) {q : Int} (h1 : 0 ≤ q) (h2 : q ≤ m.st - 1) {A : As} (hA : AsOk A) : AsOk (secA m q A) ∧ (secA m q A).is.length ≤ A.is.length + 1600 := by
  obtain ⟨⟨s1,s2⟩,s3,s4⟩ := hm.ok
  unfold secA
  have := splitA_ok (K := 250) 1 2 ((rngI m.sy.toNat).map fun v => secE m (ruQ m q v) v) (A := A) (fun e he A' hA' => by
    obtain ⟨y,hy,rfl⟩ := List.mem_map.1 he
    have hb := rngI_mem hy
    exact secE_ok hm.ok (hm.ru q y h1 h2 hb.1 (by omega)) hb.1 (by omega) hA') hA
  refine ⟨this.1,?_⟩
  have h3 := this.2
  rw [List.length_map,rngI_len] at h3
  omega
abbrev cpS (b : Ad) (vs : List Value) (m : Mach) (q : Int) (v : Int) : List D := [.bx false [.sc (.int .i64 (ruQ m q v).w),.sc (.int .i64 (ruQ m q v).m),.sc (.int .i64 (ruQ m q v).n)],.bx false [.sc (paV b)],.bx false [.sl false 1 (rows eVv vs)],maD m,.bx false [.sc (.int .i64 m.sy)],.bx false [.sc (.int .i64 v)]]
theorem machineSection_ok (b : Ad) (kn : List (Nat × Value)) (A : As) (m : Mach) (q : Int) (vs : List Value) (hm : MaRu m) (hs : SeOk m kn vs) (h1 : 0 ≤ q) (h2 : q ≤ m.st - 1) (hA : AsOk A) (hl : (A.is.length : Int) ≤ 1000) : Does Tryz.prog 97 [.agg (maC m),.one (.gv 0),.one (int q),.one (.d (.sl false 1 (rows eVv vs)))] [asG b kn A] .any [asG b kn (secA m q A)] := by
  obtain ⟨⟨ya,yb⟩,yc,yd⟩ := hm.ok
  refine does_of (k := 1) Tryz.func97 rfl Tryz.ntmps97 rfl rfl fun w F0 S0 ρ0 => ?_
  dsimp only [argT,argH]
  refine g_conv (t_paN 1 rfl rfl) ?_
  repeat' first|(apply n3;exact a_new (gb := .bx _) rfl;exact rfl;refine dA ?_)|refine cdn ?_|refine g_reg (id := 0) ?_|fail
  first | refine g_turn (t_frzB (d := 4) (i := 1) rfl rfl rfl) ?_ | refine o_turn (t_frzB (d := 4) (i := 1) rfl rfl rfl) ?_
  first | refine g_turn (t_frzB (d := 5) (i := 2) rfl rfl rfl) ?_ | refine o_turn (t_frzB (d := 5) (i := 2) rfl rfl rfl) ?_
  first | refine g_turn (t_frzB (d := 7) (i := 3) rfl rfl rfl) ?_ | refine o_turn (t_frzB (d := 7) (i := 3) rfl rfl rfl) ?_
  repeat' first|(apply n3;exact a_new (gb := .bx _) rfl;exact rfl;refine dA ?_)|(apply p3;(exact puL);exact rfl)|refine cdn ?_|refine g_reg (id := 1) ?_|(apply w3;(exact a_st_bx rfl rfl rfl rfl (fN rfl rfl) (Nat.le_of_ble_eq_true rfl) rfl);exact rfl;refine dS ?_)|fail
  first | refine g_turn (t_frzB (d := 8) (i := 4) rfl rfl rfl) ?_ | refine o_turn (t_frzB (d := 8) (i := 4) rfl rfl rfl) ?_
  repeat' first|(apply n3;(exact a_litE (eCl 151 (cpS b vs m q)) [] rfl rfl rfl rfl rfl rfl rfl rfl);exact rfl;refine dA ?_)|(apply p3;(exact pu1);exact rfl)|refine cd ?_|fail
  refine g_loop_id ?_
  refine loopK [2,4,5,7,8,9,15] [0,5] (fun i : Int => 0 ≤ i ∧ i ≤ m.sy) (fun i => [(16,.one (int i))]) (fun i => [(0,asG b kn A),(5,.row 1 (rows (eCl 151 (cpS b vs m q)) (rngI i.toNat)))]) (fun i => (m.sy - i).toNat) (0 : Int) [0,1,2,3,4,5] (hI := ?_) (hr := ?_)
  · exact ⟨by omega,by omega⟩
  · rintro i ⟨k0,k1⟩
    dsimp only [List.cons_append,List.nil_append] at *
    skip
    repeat' first|(apply n3;exact a_new (gb := .bx _) rfl;exact rfl;refine dA ?_)|(apply p3;(first|exact pu1|exact puC);exact rfl)|refine cdn ?_|refine g_reg (id := 4) ?_|refine g_reg (id := 5) ?_|refine g_reg (id := 9) ?_|(apply w3;(exact a_st_bx rfl rfl rfl rfl (fN rfl rfl) (Nat.le_of_ble_eq_true rfl) rfl);exact rfl;refine dS ?_)|((refine g_cond rfl (fun hc => ?_) (fun hc => ?_)) <;> (try simp only [dcB] at hc) <;> (try first|contradiction|(exfalso;omega)))|fail
    · obtain ⟨x1,x2,x3⟩ := maRu_ix hm h1 h2 k0 (show i ≤ m.sy - 1 by omega)
      have hix : (q * m.sy + i).toNat < m.ru.length := by omega
      have hrq := ruQ_get hix
      have hrl := rngI_len i.toNat
      repeat' first|(apply n3;exact a_new (gb := .bx _) rfl;exact rfl;refine dA ?_)|(apply p3;(first|exact pu1|exact a_mulB rfl rfl (by omega) (by omega) (by omega) (by omega)|exact a_add rfl rfl (by omega) (by omega)|exact puI);exact rfl)|refine cdn ?_|refine g_reg (id := 6) ?_|(apply w3;(exact a_st_bx rfl rfl rfl rfl (fN rfl rfl) (Nat.le_of_ble_eq_true rfl) rfl);exact rfl;refine dS ?_)|fail
      simp only [hrq]
      first | refine g_turn (t_frzB (d := 11) (i := 7) rfl rfl rfl) ?_ | refine o_turn (t_frzB (d := 11) (i := 7) rfl rfl rfl) ?_
      first | refine g_turn (t_frzB (d := 10) (i := 6) rfl rfl rfl) ?_ | refine o_turn (t_frzB (d := 10) (i := 6) rfl rfl rfl) ?_
      repeat' first|(apply n3;(exact a_litE (eCl 151 (cpS b vs m q)) [_] rfl rfl rfl rfl rfl rfl rfl rfl);exact rfl;refine dA ?_)|(apply p3;(first|exact pu1|exact a_add rfl rfl (by omega) (by omega));exact rfl)|refine cd ?_|(apply s3;exact a_appE (fP rfl) rfl rfl rfl rfl nowR (by (simp <;> omega)) (by decide) (by decide) (by exact rfl);exact rfl;exact rfl)|fail
      have e : rngI i.toNat ++ [i] = rngI (i + 1).toNat := by rw [show (i + 1).toNat = i.toNat + 1 by omega,rngI_succ,show ((i.toNat : Nat) : Int) = i by omega]
      rw [e]
      refine q_again (i + 1) [0,1,2,3,4,9] (by exact stk) ?_ ?_
      · exact ⟨by omega,by omega⟩
      · omega
    · have e : i.toNat = m.sy.toNat := by omega
      rw [e]
      have eL : secA m q A = splitA 1 2 ((rngI m.sy.toNat).map fun v => secE m (ruQ m q v) v) A := by unfold secA; rfl
      have hlR : ((rngI m.sy.toNat).length : Int) ≤ 6 := by rw [rngI_len]; omega
      have hv : ∀ y ∈ rngI m.sy.toNat,0 ≤ y ∧ y ≤ m.sy - 1 := fun y hy => by have := rngI_mem hy; omega
      rw [eL]
      first | refine g_turn (t_frzR (d := 34) (i := 5) rfl rfl shutR) ?_ | refine o_turn (t_frzR (d := 34) (i := 5) rfl rfl shutR) ?_
      repeat' first|refine cd ?_|(apply c4 0;exact callK0 (θ := [0]) (hD := (splitX_ok b kn A 1 2 151 (cpS b vs m q) (fun v => secE m (ruQ m q v) v) (rngI m.sy.toNat) 1000 (fQ rfl) (fun _ => by repeat (first|exact trivial|exact rfl|refine And.intro ?_ ?_)) (fun y hy kn' A' hk hA' hl' => machineSection1_ok b kn' A' m (ruQ m q y) y vs hm.ok (hm.ru q y h1 h2 (hv y hy).1 (hv y hy).2) ⟨hs.len,fun j hj => hk.sub _ (hs.mem j hj)⟩ (hv y hy).1 (hv y hy).2 hA' (by omega)) (fun y hy A' hA' => secE_ok hm.ok (hm.ru q y h1 h2 (hv y hy).1 (hv y hy).2) (hv y hy).1 (hv y hy).2 hA') hA preB263 (by decide) hlR));exact rfl;exact rfl;exact rfl;refine dM ?_)|fail
      repeat refine cr ?_
      refine ends_id ?_
      refine endK [] (h2 := ?_) (h3 := ?_) (nd := ?_)
      all_goals (repeat' first|exact ce0|refine ce ?_|refine ce2 ?_ ?_|(refine Or.inr (bx_eq rfl rfl ?_);(try dsimp only [C.ren,C.ren.all]);(try exact rfl))|exact SVLe.refl|refine ceb ?_)
      all_goals first | exact (show nodupB _ = true from rfl) | exact Or.inr rfl | (rfl)
end Go.Proofs.YtegpggobfdcafaaGreat
end
section
set_option linter.unusedVariables false
set_option linter.unusedSimpArgs false
set_option maxRecDepth 100000
set_option maxHeartbeats 4000000
namespace Go.Proofs.YtegpggobfdcafaaGreat
open Go Foot Go.RowKit
def secs (m : Mach) : Nat → As
  | 0 => ⟨[],[],List.replicate (m.st + 1).toNat 0⟩
  | k + 1 => secA m k ((secs m k).here k)
theorem secs_ok {m : Mach} (hm : MaRu m) : ∀ k : Nat,(k : Int) ≤ m.st → AsOk (secs m k) ∧ ((secs m k).is.length : Int) ≤ 1600 * k
  | 0,_ => ⟨⟨rfl⟩,by simp [secs]⟩
  | k + 1,hk => by
    obtain ⟨h1,h2⟩ := secs_ok hm k (by omega)
    have h3 := secA_ok hm (q := (k : Int)) (by omega) (by omega) (h1.here k)
    rw [secs]
    refine ⟨h3.1,?_⟩
    have := h3.2
    rw [len_here] at this
    omega
theorem machineToProgram1_ok (b : Ad) (kn : List (Nat × Value)) (A : As) (m : Mach) (q : Int) (vs : List Value) (hm : MaRu m) (hs : SeOk m kn vs) (h1 : 0 ≤ q) (h2 : q ≤ m.st - 1) (hA : AsOk A) (hl : (A.is.length : Int) ≤ 1000) : Does Tryz.prog 96 [.one (.gv 0),.one (int q),.one (.d (.sl false 1 (rows eVv vs))),.one (.d (maD m))] [asG b kn A] .any [asG b kn (secA m q A)] := by
  refine does_of (k := 1) Tryz.func96 rfl Tryz.ntmps96 rfl rfl fun w F0 S0 ρ0 => ?_
  dsimp only [argT,argH]
  repeat' first|(apply p3;(exact pu1);exact rfl)|refine cd ?_|(apply c4 0;exact callK0 (θ := [0]) (hD := (machineSection_ok b kn A m q vs hm hs h1 h2 hA hl));exact rfl;exact rfl;exact rfl;refine dM ?_)|fail
  repeat refine cr ?_
  refine ends_id ?_
  refine endK [] (h2 := ?_) (h3 := ?_) (nd := ?_)
  all_goals (repeat' first|exact ce0|refine ce ?_|refine ce2 ?_ ?_|(refine Or.inr (bx_eq rfl rfl ?_);(try dsimp only [C.ren,C.ren.all]);(try exact rfl))|exact SVLe.refl|refine ceb ?_)
  all_goals first | exact (show nodupB _ = true from rfl) | exact Or.inr rfl | (rfl)
abbrev secF (m : Mach) : C := .d (.fn (.func 96) [maD m])
structure PlI (i : Nat) (kn : List (Nat × Value)) (sp : List Int) (vs : List Value) : Prop where
  sp : sp = List.replicate i 0
  len : vs.length = i
  mem : ∀ (j : Nat) (h : j < vs.length),(j,vs[j]) ∈ kn
theorem plI_next {i : Int} {kn : List (Nat × Value)} {sp : List Int} {vs : List Value} (h0 : 0 ≤ i) (h : PlI i.toNat kn sp vs) (v : Value) : PlI (i + 1).toNat ((sp.length,v) :: kn) (sp ++ [0]) (vs ++ [v]) := by
  have ei : (i + 1).toNat = i.toNat + 1 := by omega
  have hl : sp.length = i.toNat := by rw [h.sp]; simp
  rw [ei]
  refine ⟨by rw [h.sp,List.replicate_succ'],by simp [h.len],fun j hj => ?_⟩
  rw [List.getElem_append]
  split
  · rename_i hj2
    exact List.mem_cons_of_mem _ (h.mem j hj2)
  · rename_i hj2
    have ej : j = sp.length := by have := h.len; simp at hj; omega
    have e1 : ∀ h : j - vs.length < [v].length,[v][j - vs.length] = v := fun h => by simp
    rw [e1,ej]
    exact List.mem_cons_self
theorem secs_bd {m : Mach} (hm : MaRu m) {k : Int} (k0 : 0 ≤ k) (k1 : k ≤ m.st) (h : ∀ j : Nat,(j : Int) < k → ((secs m j).is.length : Int) ≤ 400) : ((secs m k.toNat).is.length : Int) ≤ 2000 := by
  cases hk : k.toNat with
  | zero => simp [secs]
  | succ j =>
    have h1 := secs_ok hm j (by omega)
    have h2 := secA_ok hm (q := (j : Int)) (by omega) (by omega) (h1.1.here j)
    have h3 := h j (by omega)
    rw [secs]
    have := h2.2
    rw [len_here] at this
    omega
theorem sectionedF_ok (m : Mach) (hm : MaRu m) (h : ∃ k : Nat,(k : Int) ≤ m.st ∧ 400 < ((secs m k).is.length : Int)) : Does Tryz.prog 95 [.one (int m.st),.one (secF m)] [] (.tup [(false,[.gv 0]),(false,[.gv 1]),(false,[int 5])]) [roJ [],roI []] := by
  obtain ⟨⟨ya,yb⟩,yc,yd⟩ := hm.ok
  refine does_of (k := 0) Tryz.func95 rfl Tryz.ntmps95 rfl rfl fun w F0 S0 ρ0 => ?_
  dsimp only [argT,argH]
  repeat' first|(apply n3;(first|exact a_new (gb := .bx _) rfl|exact a_litE eVv [] rfl rfl rfl rfl rfl rfl rfl rfl);exact rfl;refine dA ?_)|(apply p3;exact pu1;exact rfl)|refine cdn ?_|refine g_reg (id := 0) ?_|refine g_reg (id := 1) ?_|fail
  refine g_conv (t_nilB (i := 0) (k := 0) (z := 4) rfl rfl rfl (by decide)) ?_
  try dsimp only [setRow,List.map_cons,List.map_nil,scC,List.set_cons_zero,List.set_cons_succ,Nat.reduceAdd]
  refine g_conv (t_nilB (i := 0) (k := 1) (z := 1) rfl rfl rfl (by decide)) ?_
  try dsimp only [setRow,List.map_cons,List.map_nil,scC,List.set_cons_zero,List.set_cons_succ,Nat.reduceAdd]
  refine g_mkM 0 2 3 rfl rfl rfl rfl rfl rfl fun b => ?_
  repeat' first|(apply p3;(first|exact pu1|exact a_add rfl rfl (by omega) (by omega));exact rfl)|refine cdn ?_|refine g_reg (id := 2) ?_|fail
  refine g_loop_id ?_
  refine loopK [0,1,4,5,6,7,8,19] [0,1] (fun y : Int × List (Nat × Value) × List Int × List Value => 0 ≤ y.1 ∧ y.1 ≤ m.st + 1 ∧ PlI y.1.toNat y.2.1 y.2.2.1 y.2.2.2) (fun y => [(20,.one (int y.1))]) (fun y => [(0,asG b y.2.1 ⟨[],[],y.2.2.1⟩),(1,.row 1 (rows eVv y.2.2.2))]) (fun y => (m.st + 1 - y.1).toNat) ((0 : Int),[],[],[]) [0,1,2,3] (hI := ?_) (hr := ?_)
  · exact ⟨by simp,by dsimp only; omega,rfl,rfl,fun j hj => by simp at hj⟩
  · rintro ⟨i,kn,sp,vs⟩ ⟨k0,k1,k2⟩
    dsimp only [List.cons_append,List.nil_append] at *
    skip
    repeat' first|(apply n3;(exact a_new (gb := .bx _) rfl);exact rfl;refine dA ?_)|(apply p3;(first|exact pu1|exact puC);exact rfl)|refine cdn ?_|refine g_reg (id := 3) ?_|refine g_reg (id := 4) ?_|((refine g_cond rfl (fun hc => ?_) (fun hc => ?_)) <;> (try simp only [dcB] at hc) <;> (try first|contradiction|(exfalso;omega)))|fail
    · have hvl := k2.len
      repeat' first|(apply n3;(exact a_litE eVv [_] rfl rfl rfl rfl rfl rfl rfl rfl);exact rfl;refine dA ?_)|(apply p3;(first|exact pu1|exact a_add rfl rfl (by omega) (by omega));exact rfl)|refine cd ?_|(apply s3;(exact a_appE (fP rfl) rfl rfl rfl rfl nowR (by first|omega|(simp <;> omega)) (by decide) (by decide) (by exact rfl));exact rfl;exact rfl)|(refine o_newS 0 4 rfl rfl rfl (fun v => ?_);refine o_conv (t_isv1 24 4 rfl rfl) ?_)|fail
      refine q_again (i + 1,(sp.length,v) :: kn,sp ++ [0],vs ++ [v]) [0,6,2,3] (by exact stk) ?_ ?_
      · refine ⟨by dsimp only; omega,by dsimp only; omega,?_⟩
        exact plI_next k0 k2 v
      · dsimp only; omega
    · have hi : i.toNat = (m.st + 1).toNat := by omega
      rw [hi] at k2
      obtain ⟨e1,e2,e3⟩ := k2
      have hs : SeOk m kn vs := ⟨by omega,e3⟩
      have e0 : (⟨[],[],sp⟩ : As) = secs m 0 := by rw [secs,e1]
      rw [e0]
      first | refine g_turn (t_frzR (d := 8) (i := 1) rfl rfl shutR) ?_ | refine o_turn (t_frzR (d := 8) (i := 1) rfl rfl shutR) ?_
      repeat' first|(apply p3;(exact pu1);exact rfl)|refine cdn ?_|refine g_reg (id := 6) ?_|fail
      refine g_loop_id ?_
      refine loopK [0,1,4,5,6,7,8,28] [0] (fun k : Int => 0 ≤ k ∧ k ≤ m.st ∧ ∀ j : Nat,(j : Int) < k → ((secs m j).is.length : Int) ≤ 400) (fun k => [(29,.one (int k))]) (fun k => [(0,asG b kn (secs m k.toNat))]) (fun k => (m.st - k).toNat) (0 : Int) [0,1,2,3] (hI := ?_) (hr := ?_)
      · exact ⟨by omega,by omega,fun j hj => by omega⟩
      · rintro k ⟨m0,m1,m2⟩
        dsimp only [List.cons_append,List.nil_append] at *
        skip
        repeat' first|(apply p3;(first|exact pu1|exact puC);exact rfl)|refine cdn ?_|refine g_reg (id := 7) ?_|refine g_reg (id := 8) ?_|((refine g_cond rfl (fun hc => ?_) (fun hc => ?_)) <;> (try simp only [dcB] at hc) <;> (try first|contradiction|(exfalso;omega)))|fail
        · obtain ⟨c1',c2'⟩ := secs_ok hm k.toNat (by omega)
          have hb := secs_bd hm m0 m1 m2
          have hkv : k.toNat < vs.length := by omega
          have hbl : ((secs m k.toNat).is.length : Int) ≤ 100000 := by omega
          have hh := len_here (secs m k.toNat) k.toNat
          repeat' first|(apply p3;(first|exact pu1|exact puI);exact rfl)|refine cdn ?_|refine g_reg (id := 9) ?_|(apply c4 0;exact callK0 (θ := [0]) (hD := (here_ok b kn (secs m k.toNat) k.toNat vs[k.toNat] (hs.mem _ hkv) hbl));exact rfl;exact rfl;exact rfl;refine dM ?_)|fail
          refine g_opM 0 4 5 6 7 rfl rfl rfl rfl rfl fun ad hk => ?_
          repeat' first|(apply p3;(first|exact pu1|exact puC|exact puN);exact rfl)|refine cd ?_|fail
          refine g_conv (t_clM kn ((secs m k.toNat).here k.toNat) 0 4 5 6 rfl rfl rfl rfl rfl rfl rfl rfl rfl rfl hk.kn hk.ps) ?_
          have hA2 := c1'.here k.toNat
          have eS : secA m k ((secs m k.toNat).here k.toNat) = secs m (k + 1).toNat := by rw [show (k + 1).toNat = k.toNat + 1 by omega,secs,show ((k.toNat : Nat) : Int) = k by omega]
          have hkm : k ≤ m.st - 1 := by omega
          have hth : ((secs m k.toNat).is.length : Int) ≤ 400 → (((secs m k.toNat).here k.toNat).is.length : Int) ≤ 1000 := fun _ => by omega
          by_cases hbig : 400 < ((secs m k.toNat).is.length : Int)
          · repeat' first|(apply p3;(exact pu1);exact rfl)|refine cd ?_|((refine g_cond rfl (fun hc => ?_) (fun hc => ?_)) <;> (try simp only [dcB] at hc) <;> (try first|contradiction|(exfalso;omega)))|fail
            refine g_conv (t_nil1 (d := 4) (z := 4) rfl (by decide)) ?_
            refine g_conv (t_nil1 (d := 5) (z := 1) rfl (by decide)) ?_
            repeat refine cr ?_
            refine ends_id ?_
            refine endK [?_,?_] (h2 := ?_) (h3 := ?_) (nd := ?_)
            rotate_left 2
            all_goals (repeat' first|exact ce0|refine ce ?_|refine ce2 ?_ ?_|exact SVLe.refl|refine ceb ?_)
            all_goals first | exact (show nodupB _ = true from rfl) | exact Or.inr rfl | (rfl)
          · skip
            repeat' first|(apply p3;(first|exact pu1|exact a_add rfl rfl (by omega) (by omega));exact rfl)|refine cd ?_|(apply c4 0;exact callK0 (θ := [0]) (hD := (machineToProgram1_ok b kn ((secs m k.toNat).here k.toNat) m k vs hm hs m0 hkm hA2 (hth (by omega))));exact rfl;exact rfl;exact rfl;refine dM ?_)|((refine g_cond rfl (fun hc => ?_) (fun hc => ?_)) <;> (try simp only [dcB] at hc) <;> (try first|contradiction|(exfalso;omega)))|fail
            rw [eS]
            refine q_again (k + 1) [0,1,2,3] (by exact stk) ?_ ?_
            · refine ⟨by omega,by omega,fun j hj => ?_⟩
              by_cases hjk : (j : Int) < k
              · exact m2 j hjk
              · have : j = k.toNat := by omega
                subst this
                omega
            · omega
        · have hkst : k.toNat = m.st.toNat := by omega
          have hbig : 400 < ((secs m k.toNat).is.length : Int) := by
            obtain ⟨j,j1,j2⟩ := h
            by_cases hjk : (j : Int) < k
            · have := m2 j hjk; omega
            · have : j = k.toNat := by omega
              subst this
              exact j2
          have hb := secs_bd hm m0 m1 m2
          have hkv : m.st.toNat < vs.length := by omega
          have hbl : ((secs m k.toNat).is.length : Int) ≤ 100000 := by omega
          have hh := len_here (secs m k.toNat) m.st.toNat
          have hp1 : 400 < (((secs m k.toNat).here m.st.toNat).is.length : Int) := by omega
          have hp2 : (((secs m k.toNat).here m.st.toNat).is.length : Int) ≤ 100000 := by omega
          repeat' first|(apply p3;(first|exact pu1|exact a_ne rfl rfl|exact puI);exact rfl)|refine cd ?_|(apply c4 0;exact callK0 (θ := [0]) (hD := (here_ok b kn (secs m k.toNat) m.st.toNat vs[m.st.toNat] (hs.mem _ hkv) hbl));exact rfl;exact rfl;exact rfl;refine dM ?_)|(apply c4 1;exact callK1 (θ := [0]) (hD := (programF_ok b kn ((secs m k.toNat).here m.st.toNat) hp1 hp2));exact rfl;exact rfl;exact rfl;refine dM ?_)|fail
          refine g_conv (t_nil1 (d := 4) (z := 4) rfl (by decide)) ?_
          refine g_conv (t_nil1 (d := 5) (z := 1) rfl (by decide)) ?_
          repeat refine cr ?_
          refine ends_id ?_
          refine endK [?_,?_] (h2 := ?_) (h3 := ?_) (nd := ?_)
          rotate_left 2
          all_goals (repeat' first|exact ce0|refine ce ?_|refine ce2 ?_ ?_|exact SVLe.refl|refine ceb ?_)
          all_goals first | exact (show nodupB _ = true from rfl) | exact Or.inr rfl | (rfl)
end Go.Proofs.YtegpggobfdcafaaGreat
end
section
set_option linter.unusedVariables false
set_option linter.unusedSimpArgs false
set_option maxRecDepth 100000
set_option maxHeartbeats 4000000
namespace Go.Proofs.YtegpggobfdcafaaGreat
open Go Foot Go.RowKit
inductive Blt (A : As) : As → Prop where
  | refl : Blt A A
  | here {B : As} (h : Blt A B) (i : Nat) : Blt A (B.here i)
  | spot {B : As} (h : Blt A B) : Blt A B.spot
  | emit {B : As} (h : Blt A B) (k r : Int) (th ot : Option Nat) : Blt A (B.emit k r th ot)
theorem Blt.trans {A B C : As} (h : Blt A B) (h' : Blt B C) : Blt A C := by
  induction h' with
  | refl => exact h
  | here _ i ih => exact ih.here i
  | spot _ ih => exact ih.spot
  | emit _ k r th ot ih => exact ih.emit k r th ot
theorem incN_b (t : Int) (A : As) : ∀ n,Blt A (incN t n A)
  | 0 => .refl
  | n + 1 => (incN_b t A n).emit _ _ _ _
theorem go_b (p : Pc) (A : As) (x : Nat) : Blt A (p.go A x) := by
  cases p with
  | no => unfold Pc.go; exact .refl
  | ic r => rw [go_ic]; exact Blt.refl.emit _ _ _ _
  | lp f t k =>
    rw [go_lp]
    unfold goL
    exact (((Blt.refl.spot.here _).emit _ _ _ _).trans (incN_b _ _ _)).emit _ _ _ _
theorem chA_b (x : Nat) : ∀ (l : List Pc) (A : As),Blt A (chA A x l)
  | [],A => .refl
  | [p],A => go_b p A x
  | p :: q :: r,A => ((Blt.refl.spot.trans (go_b p A.spot A.sp.length)).here A.sp.length).trans (chA_b x (q :: r) _)
theorem hdsA_b (f : Int) (A : As) : ∀ n,Blt A (hdsA f n A)
  | 0 => .refl
  | n + 1 => (hdsA_b f A n).spot.emit _ _ _ _
theorem bodA_b : ∀ (es : List (As → As)) (i : Nat) (A : As),(∀ e ∈ es,∀ A,Blt A (e A)) → Blt A (bodA es i A)
  | [],_,_,_ => .refl
  | e :: es,i,A,h => ((Blt.refl.here i).trans (h e (by simp) _)).trans (bodA_b es (i + 1) _ fun e' he => h e' (List.mem_cons_of_mem _ he))
theorem splitA_b (f t : Int) (es : List (As → As)) (A : As) (h : ∀ e ∈ es,∀ A,Blt A (e A)) : Blt A (splitA f t es A) := by
  unfold splitA
  exact (((Blt.refl.spot.here _).trans (hdsA_b f _ es.length)).emit _ _ _ _).trans (bodA_b es _ _ h)
theorem leftA_b (sy : Int) (tg : Nat) (A : As) : Blt A (leftA sy tg A) := by
  unfold leftA
  exact splitA_b _ _ _ _ fun e he A => by
    obtain ⟨y,_,rfl⟩ := List.mem_map.1 he
    exact chA_b _ _ _
theorem secE_b (m : Mach) (r : Rule') (v : Int) (A : As) : Blt A (secE m r v A) := by
  unfold secE
  split
  · exact chA_b _ _ _
  · split
    · exact chA_b _ _ _
    · exact ((Blt.refl.spot.trans (chA_b _ _ _)).here _).trans (leftA_b _ _ _)
theorem secA_b (m : Mach) (q : Int) (A : As) : Blt A (secA m q A) := by
  unfold secA
  exact splitA_b _ _ _ _ fun e he A => by
    obtain ⟨y,_,rfl⟩ := List.mem_map.1 he
    exact secE_b _ _ _ _
theorem secs_b (m : Mach) : ∀ k j : Nat,Blt (secs m k) (secs m (k + j))
  | k,0 => .refl
  | k,j + 1 => (secs_b m k j).trans ((Blt.refl.here _).trans (secA_b _ _ _))
theorem Blt.pt {A B : As} (h : Blt A B) (hA : AsPt A) : AsPt B ∧ A.is.length ≤ B.is.length ∧ A.sp.length ≤ B.sp.length := by
  induction h with
  | refl => exact ⟨hA,Nat.le_refl _,Nat.le_refl _⟩
  | here _ i ih => exact ⟨⟨by rw [here_ps,here_is]; exact ih.1.pt⟩,by rw [here_is]; exact ih.2.1,by rw [here_sp,List.length_set]; exact ih.2.2⟩
  | spot _ ih => exact ⟨⟨by rw [spot_ps,spot_is]; exact ih.1.pt⟩,by rw [spot_is]; exact ih.2.1,by rw [spot_sp,List.length_append]; exact Nat.le_trans ih.2.2 (Nat.le_add_right _ _)⟩
  | emit _ k r th ot ih =>
    refine ⟨⟨fun p hp => ?_⟩,by rw [len_emit]; exact Nat.le_succ_of_le ih.2.1,by rw [emit_sp]; exact ih.2.2⟩
    rw [emit_ps] at hp
    rw [len_emit]
    rcases List.mem_append.1 hp with hp | hp
    · have := ih.1.pt p hp; omega
    · simp only [List.mem_singleton] at hp
      subst hp
      dsimp only
      omega
theorem secs_pt (m : Mach) (k : Nat) : AsPt (secs m k) ∧ (m.st + 1).toNat ≤ (secs m k).sp.length := by
  have := (secs_b m 0 k).pt ⟨fun p hp => by simp [secs] at hp⟩
  rw [Nat.zero_add] at this
  refine ⟨this.1,?_⟩
  have h := this.2.2
  simp only [secs,List.length_replicate] at h
  exact h
@[irreducible] def finA (m : Mach) : As := (secs m m.st.toNat).here m.st.toNat
@[irreducible] def prgM (m : Mach) : List Jn := ptAll (finA m).sp (finA m).is (finA m).ps
@[irreducible] def begM (m : Mach) : List Int := (finA m).sp.take m.st.toNat
theorem sectioned_ok (m : Mach) (hm : MaRu m) (h : ∀ k : Nat,(k : Int) ≤ m.st → ((secs m k).is.length : Int) ≤ 400) : Does Tryz.prog 95 [.one (int m.st),.one (secF m)] [] (.tup [(false,[.gv 0]),(false,[.gv 1]),(false,[int 0])]) [roJ (prgM m),roI (begM m)] := by
  obtain ⟨⟨ya,yb⟩,yc,yd⟩ := hm.ok
  refine does_of (k := 0) Tryz.func95 rfl Tryz.ntmps95 rfl rfl fun w F0 S0 ρ0 => ?_
  dsimp only [argT,argH]
  repeat' first|(apply n3;(first|exact a_new (gb := .bx _) rfl|exact a_litE eVv [] rfl rfl rfl rfl rfl rfl rfl rfl);exact rfl;refine dA ?_)|(apply p3;exact pu1;exact rfl)|refine cdn ?_|refine g_reg (id := 0) ?_|refine g_reg (id := 1) ?_|fail
  refine g_conv (t_nilB (i := 0) (k := 0) (z := 4) rfl rfl rfl (by decide)) ?_
  try dsimp only [setRow,List.map_cons,List.map_nil,scC,List.set_cons_zero,List.set_cons_succ,Nat.reduceAdd]
  refine g_conv (t_nilB (i := 0) (k := 1) (z := 1) rfl rfl rfl (by decide)) ?_
  try dsimp only [setRow,List.map_cons,List.map_nil,scC,List.set_cons_zero,List.set_cons_succ,Nat.reduceAdd]
  refine g_mkM 0 2 3 rfl rfl rfl rfl rfl rfl fun b => ?_
  repeat' first|(apply p3;(first|exact pu1|exact a_add rfl rfl (by omega) (by omega));exact rfl)|refine cdn ?_|refine g_reg (id := 2) ?_|fail
  refine g_loop_id ?_
  refine loopK [0,1,4,5,6,7,8,19] [0,1] (fun y : Int × List (Nat × Value) × List Int × List Value => 0 ≤ y.1 ∧ y.1 ≤ m.st + 1 ∧ PlI y.1.toNat y.2.1 y.2.2.1 y.2.2.2) (fun y => [(20,.one (int y.1))]) (fun y => [(0,asG b y.2.1 ⟨[],[],y.2.2.1⟩),(1,.row 1 (rows eVv y.2.2.2))]) (fun y => (m.st + 1 - y.1).toNat) ((0 : Int),[],[],[]) [0,1,2,3] (hI := ?_) (hr := ?_)
  · exact ⟨by simp,by dsimp only; omega,rfl,rfl,fun j hj => by simp at hj⟩
  · rintro ⟨i,kn,sp,vs⟩ ⟨k0,k1,k2⟩
    dsimp only [List.cons_append,List.nil_append] at *
    skip
    repeat' first|(apply n3;(exact a_new (gb := .bx _) rfl);exact rfl;refine dA ?_)|(apply p3;(first|exact pu1|exact puC);exact rfl)|refine cdn ?_|refine g_reg (id := 3) ?_|refine g_reg (id := 4) ?_|((refine g_cond rfl (fun hc => ?_) (fun hc => ?_)) <;> (try simp only [dcB] at hc) <;> (try first|contradiction|(exfalso;omega)))|fail
    · have hvl := k2.len
      repeat' first|(apply n3;(exact a_litE eVv [_] rfl rfl rfl rfl rfl rfl rfl rfl);exact rfl;refine dA ?_)|(apply p3;(first|exact pu1|exact a_add rfl rfl (by omega) (by omega));exact rfl)|refine cd ?_|(apply s3;(exact a_appE (fP rfl) rfl rfl rfl rfl nowR (by first|omega|(simp <;> omega)) (by decide) (by decide) (by exact rfl));exact rfl;exact rfl)|(refine o_newS 0 4 rfl rfl rfl (fun v => ?_);refine o_conv (t_isv1 24 4 rfl rfl) ?_)|fail
      refine q_again (i + 1,(sp.length,v) :: kn,sp ++ [0],vs ++ [v]) [0,6,2,3] (by exact stk) ?_ ?_
      · refine ⟨by dsimp only; omega,by dsimp only; omega,?_⟩
        exact plI_next k0 k2 v
      · dsimp only; omega
    · have hi : i.toNat = (m.st + 1).toNat := by omega
      rw [hi] at k2
      obtain ⟨e1,e2,e3⟩ := k2
      have hs : SeOk m kn vs := ⟨by omega,e3⟩
      have e0 : (⟨[],[],sp⟩ : As) = secs m 0 := by rw [secs,e1]
      rw [e0]
      first | refine g_turn (t_frzR (d := 8) (i := 1) rfl rfl shutR) ?_ | refine o_turn (t_frzR (d := 8) (i := 1) rfl rfl shutR) ?_
      repeat' first|(apply p3;(exact pu1);exact rfl)|refine cdn ?_|refine g_reg (id := 6) ?_|fail
      refine g_loop_id ?_
      refine loopK [0,1,4,5,6,7,8,28] [0] (fun k : Int => 0 ≤ k ∧ k ≤ m.st ∧ ∀ j : Nat,(j : Int) < k → ((secs m j).is.length : Int) ≤ 400) (fun k => [(29,.one (int k))]) (fun k => [(0,asG b kn (secs m k.toNat))]) (fun k => (m.st - k).toNat) (0 : Int) [0,1,2,3] (hI := ?_) (hr := ?_)
      · exact ⟨by omega,by omega,fun j hj => by omega⟩
      · rintro k ⟨m0,m1,m2⟩
        dsimp only [List.cons_append,List.nil_append] at *
        skip
        repeat' first|(apply p3;(first|exact pu1|exact puC);exact rfl)|refine cdn ?_|refine g_reg (id := 7) ?_|refine g_reg (id := 8) ?_|((refine g_cond rfl (fun hc => ?_) (fun hc => ?_)) <;> (try simp only [dcB] at hc) <;> (try first|contradiction|(exfalso;omega)))|fail
        · obtain ⟨c1',c2'⟩ := secs_ok hm k.toNat (by omega)
          have hb := secs_bd hm m0 m1 m2
          have hkv : k.toNat < vs.length := by omega
          have hbl : ((secs m k.toNat).is.length : Int) ≤ 100000 := by omega
          have hh := len_here (secs m k.toNat) k.toNat
          repeat' first|(apply p3;(first|exact pu1|exact puI);exact rfl)|refine cdn ?_|refine g_reg (id := 9) ?_|(apply c4 0;exact callK0 (θ := [0]) (hD := (here_ok b kn (secs m k.toNat) k.toNat vs[k.toNat] (hs.mem _ hkv) hbl));exact rfl;exact rfl;exact rfl;refine dM ?_)|fail
          refine g_opM 0 4 5 6 7 rfl rfl rfl rfl rfl fun ad hk => ?_
          repeat' first|(apply p3;(first|exact pu1|exact puC|exact puN);exact rfl)|refine cd ?_|fail
          refine g_conv (t_clM kn ((secs m k.toNat).here k.toNat) 0 4 5 6 rfl rfl rfl rfl rfl rfl rfl rfl rfl rfl hk.kn hk.ps) ?_
          have hA2 := c1'.here k.toNat
          have eS : secA m k ((secs m k.toNat).here k.toNat) = secs m (k + 1).toNat := by rw [show (k + 1).toNat = k.toNat + 1 by omega,secs,show ((k.toNat : Nat) : Int) = k by omega]
          have hkm : k ≤ m.st - 1 := by omega
          have hth : ((secs m k.toNat).is.length : Int) ≤ 400 → (((secs m k.toNat).here k.toNat).is.length : Int) ≤ 1000 := fun _ => by omega
          have hbig : ((secs m k.toNat).is.length : Int) ≤ 400 := h k.toNat (by omega)
          repeat' first|(apply p3;(first|exact pu1|exact a_add rfl rfl (by omega) (by omega));exact rfl)|refine cd ?_|(apply c4 0;exact callK0 (θ := [0]) (hD := (machineToProgram1_ok b kn ((secs m k.toNat).here k.toNat) m k vs hm hs m0 hkm hA2 (hth (by omega))));exact rfl;exact rfl;exact rfl;refine dM ?_)|((refine g_cond rfl (fun hc => ?_) (fun hc => ?_)) <;> (try simp only [dcB] at hc) <;> (try first|contradiction|(exfalso;omega)))|fail
          rw [eS]
          refine q_again (k + 1) [0,1,2,3] (by exact stk) ?_ ?_
          · refine ⟨by omega,by omega,fun j hj => ?_⟩
            exact h j (by omega)
          · omega
        · have hkst : k.toNat = m.st.toNat := by omega
          have hbig : ((secs m k.toNat).is.length : Int) ≤ 400 := h k.toNat (by omega)
          have hkv : m.st.toNat < vs.length := by omega
          have hbl : ((secs m k.toNat).is.length : Int) ≤ 100000 := by omega
          have hh := len_here (secs m k.toNat) m.st.toNat
          have hp1 : (((secs m k.toNat).here m.st.toNat).is.length : Int) ≤ 400 := by omega
          have hpt := secs_pt m k.toNat
          have hfin : (secs m k.toNat).here m.st.toNat = finA m := by rw [hkst]; unfold finA; rfl
          have hAk := ((secs_ok hm k.toNat (by omega)).1).here m.st.toNat
          have hPk := ((Blt.refl (A := secs m k.toNat)).here m.st.toNat).pt hpt.1
          rw [hfin] at hp1 hAk hPk hh
          have hprg : ptAll (finA m).sp (finA m).is (finA m).ps = prgM m := by unfold prgM; rfl
          repeat' first|(apply p3;(first|exact pu1|exact puI);exact rfl)|refine cdn ?_|refine g_reg (id := 14) ?_|(apply c4 0;exact callK0 (θ := [0]) (hD := (here_ok b kn (secs m k.toNat) m.st.toNat vs[m.st.toNat] (hs.mem _ hkv) hbl));exact rfl;exact rfl;exact rfl;refine dM ?_)|fail
          rw [hfin]
          repeat' first|(apply n3;(exact a_litE eVv [] rfl rfl rfl rfl rfl rfl rfl rfl);exact rfl;refine dA ?_)|(apply p3;(first|exact pu1|exact puN|exact a_ne rfl rfl|exact a_slH rfl rfl rfl (fS rfl) (by omega) (by omega) (by exact rfl));exact rfl)|refine cd ?_|(apply c4 2;exact callK0 (θ := [0]) (hD := (program_ok b kn (finA m) hp1 hAk hPk.1));exact rfl;exact rfl;exact rfl;refine dM ?_)|fail
          rw [hprg]
          have hbeg : begM m = (finA m).sp.take m.st.toNat := by unfold begM; rfl
          have hfl : m.st.toNat < (finA m).sp.length := by
            have := hPk.2.2
            omega
          refine g_loop_id ?_
          refine loopK [4,5,6,10,12,67,68] [4,5,6] (fun j : Int => 0 ≤ j ∧ j ≤ m.st) (fun j => [(69,.one (int j))]) (fun j => [(4,roJ (prgM m)),(5,.opq (arK kn (finA m).sp) []),(6,roI ((finA m).sp.take j.toNat))]) (fun j => (m.st - j).toNat) (0 : Int) [0,1,2,3,4,5,6] (hI := ?_) (hr := ?_)
          · exact ⟨by omega,by omega⟩
          · rintro j ⟨n0,n1'⟩
            dsimp only [List.cons_append,List.nil_append] at *
            skip
            repeat' first|(apply p3;(first|exact pu1|exact puC);exact rfl)|refine cdn ?_|refine g_reg (id := 20) ?_|refine g_reg (id := 24) ?_|((refine g_cond rfl (fun hc => ?_) (fun hc => ?_)) <;> (try simp only [dcB] at hc) <;> (try first|contradiction|(exfalso;omega)))|fail
            · have htl : (vs.take m.st.toNat).length = m.st.toNat := by rw [List.length_take]; omega
              have hjv : j.toNat < vs.length := by omega
              have hmem := hs.mem j.toNat hjv
              have hjl : j.toNat < (finA m).sp.length := by omega
              have hgt : ∀ hh : j.toNat < (vs.take m.st.toNat).length,(vs.take m.st.toNat)[j.toNat] = vs[j.toNat] := fun hh => List.getElem_take
              have htk : ((finA m).sp.take j.toNat).length = j.toNat := by rw [List.length_take]; omega
              repeat' first|(apply p3;(first|exact pu1|exact puI);exact rfl)|refine cdn ?_|refine g_reg (id := 21) ?_|fail
              simp only [hgt]
              repeat' first|(apply n3;(exact a_litE eI [_] rfl rfl rfl rfl rfl rfl rfl rfl);exact rfl;refine dA ?_)|(apply p3;(first|exact pu1|exact a_ldK (v := vs[j.toNat]) 5 j.toNat rfl rfl (fC rfl) hmem hjl|exact a_nkK (v := vs[j.toNat]) 5 j.toNat rfl rfl hmem hjl|exact a_faK (v := vs[j.toNat]) 5 j.toNat rfl rfl (by kernel_rfl) hmem hjl|exact a_add rfl rfl (by omega) (by omega));exact rfl)|refine cd ?_|(apply s3;exact a_appE (fP rfl) rfl rfl rfl rfl nowR (by (simp <;> omega)) (by decide) (by decide) (by exact rfl);exact rfl;exact rfl)|fail
              have e : (finA m).sp.take j.toNat ++ [(finA m).sp[j.toNat]] = (finA m).sp.take (j + 1).toNat := by rw [show (j + 1).toNat = j.toNat + 1 by omega,List.take_succ_eq_append_getElem hjl]
              rw [e]
              refine q_again (j + 1) [0,1,2,3,4,5,8] (by exact stk) ?_ ?_
              · exact ⟨by omega,by omega⟩
              · omega
            · have htl : (vs.take m.st.toNat).length = m.st.toNat := by rw [List.length_take]; omega
              have e : (finA m).sp.take j.toNat = begM m := by rw [hbeg,show j.toNat = m.st.toNat by omega]
              rw [e]
              repeat refine cr ?_
              refine ends_id ?_
              refine endK [?_,?_] (h2 := ?_) (h3 := ?_) (nd := ?_)
              rotate_left 2
              all_goals (repeat' first|exact ce0|refine ce ?_|refine ce2 ?_ ?_|(refine Or.inr (bx_eq rfl rfl ?_);(try dsimp only [C.ren,C.ren.all]);(try exact rfl))|exact SVLe.refl|refine ceb ?_)
              all_goals first | exact (show nodupB _ = true from rfl) | exact Or.inr rfl | (rfl)
theorem maRu_of {m : Mach} (h : vMach m = true) : MaRu m := by
  obtain ⟨⟨h1,h2⟩,⟨h3,h4⟩,h5⟩ := vMach_bd h
  refine ⟨⟨⟨h1,h2⟩,⟨h3,h4⟩⟩,h5,fun q v q1 q2 v1 v2 => ⟨?_⟩⟩
  have a1 : q * m.sy ≤ (m.st - 1) * m.sy := Int.mul_le_mul_of_nonneg_right q2 (by omega)
  have a2 : (m.st - 1) * m.sy = m.sy * m.st - m.sy := by rw [Int.sub_mul,Int.mul_comm]; omega
  have a3 : 0 ≤ q * m.sy := Int.mul_nonneg q1 (by omega)
  have hi : (q * m.sy + v).toNat < m.ru.length := by omega
  have hmem := List.getElem_mem hi
  rw [ruQ_get hi] at hmem
  unfold vMach at h
  rw [Bool.and_eq_true,List.all_eq_true] at h
  have := h.2 _ hmem
  unfold okRule at this
  rw [decide_eq_true_eq] at this
  exact this
@[irreducible] def plen (m : Mach) : Nat := (secs m m.st.toNat).is.length
theorem plen_le (m : Mach) {k : Nat} (hk : (k : Int) ≤ m.st) : (secs m k).is.length ≤ plen m := by
  have h := ((secs_b m k (m.st.toNat - k)).pt (secs_pt m k).1).2.1
  rw [show k + (m.st.toNat - k) = m.st.toNat by omega] at h
  unfold plen
  exact h
@[irreducible] def mtpP (m : Mach) : List Jn := if (plen m : Int) ≤ 400 then prgM m else []
@[irreducible] def mtpB (m : Mach) : List Int := if (plen m : Int) ≤ 400 then begM m else []
@[irreducible] def mtpC (m : Mach) : Int := if (plen m : Int) ≤ 400 then 0 else 5
theorem machineToProgram_ok (m : Mach) (hv : vMach m = true) : Does Tryz.prog 42 [.agg (maC m)] [] (.tup [(false,[.gv 0]),(false,[.gv 1]),(false,[int (mtpC m)])]) [roJ (mtpP m),roI (mtpB m)] := by
  have hm := maRu_of hv
  by_cases hp : (plen m : Int) ≤ 400
  · have e1 : mtpP m = prgM m := by unfold mtpP; rw [if_pos hp]
    have e2 : mtpB m = begM m := by unfold mtpB; rw [if_pos hp]
    have e3 : mtpC m = 0 := by unfold mtpC; rw [if_pos hp]
    rw [e1,e2,e3]
    have hk : ∀ k : Nat,(k : Int) ≤ m.st → ((secs m k).is.length : Int) ≤ 400 := fun k hk => by have := plen_le m hk; omega
    refine does_of (k := 0) Tryz.func42 rfl Tryz.ntmps42 rfl rfl fun w F0 S0 ρ0 => ?_
    dsimp only [argT,argH]
    repeat' first|(apply n3;exact a_new (gb := .bx _) rfl;exact rfl;refine dA ?_)|(apply p3;exact a_pure (sv := .one _) rfl;exact rfl)|refine cdn ?_|refine g_reg (id := 0) ?_|fail
    first | refine g_turn (t_frzB (d := 1) (i := 0) rfl rfl rfl) ?_ | refine o_turn (t_frzB (d := 1) (i := 0) rfl rfl rfl) ?_
    repeat' first|(apply p3;(exact pu1);exact rfl)|refine cd ?_|(apply c4 2;exact callK1 (θ := []) (hD := (sectioned_ok m hm hk));exact rfl;exact rfl;exact rfl;refine dM ?_)|fail
    repeat refine cr ?_
    refine ends_id ?_
    refine endK [?_,?_] (h2 := ?_) (h3 := ?_) (nd := ?_)
    rotate_left 2
    all_goals (repeat' first|exact ce0|refine ce ?_|refine ce2 ?_ ?_|(refine Or.inr (bx_eq rfl rfl ?_);(try dsimp only [C.ren,C.ren.all]);(try exact rfl))|exact SVLe.refl|refine ceb ?_)
    all_goals first | exact (show nodupB _ = true from rfl) | exact Or.inr rfl | (rfl)
  · have e1 : mtpP m = [] := by unfold mtpP; rw [if_neg hp]
    have e2 : mtpB m = [] := by unfold mtpB; rw [if_neg hp]
    have e3 : mtpC m = 5 := by unfold mtpC; rw [if_neg hp]
    rw [e1,e2,e3]
    have hk : ∃ k : Nat,(k : Int) ≤ m.st ∧ 400 < ((secs m k).is.length : Int) := ⟨m.st.toNat,by have := hm.ok.st; omega,by unfold plen at hp; omega⟩
    refine does_of (k := 0) Tryz.func42 rfl Tryz.ntmps42 rfl rfl fun w F0 S0 ρ0 => ?_
    dsimp only [argT,argH]
    repeat' first|(apply n3;exact a_new (gb := .bx _) rfl;exact rfl;refine dA ?_)|(apply p3;exact a_pure (sv := .one _) rfl;exact rfl)|refine cdn ?_|refine g_reg (id := 0) ?_|fail
    first | refine g_turn (t_frzB (d := 1) (i := 0) rfl rfl rfl) ?_ | refine o_turn (t_frzB (d := 1) (i := 0) rfl rfl rfl) ?_
    repeat' first|(apply p3;(exact pu1);exact rfl)|refine cd ?_|(apply c4 2;exact callK1 (θ := []) (hD := (sectionedF_ok m hm hk));exact rfl;exact rfl;exact rfl;refine dM ?_)|fail
    repeat refine cr ?_
    refine ends_id ?_
    refine endK [?_,?_] (h2 := ?_) (h3 := ?_) (nd := ?_)
    rotate_left 2
    all_goals (repeat' first|exact ce0|refine ce ?_|refine ce2 ?_ ?_|(refine Or.inr (bx_eq rfl rfl ?_);(try dsimp only [C.ren,C.ren.all]);(try exact rfl))|exact SVLe.refl|refine ceb ?_)
    all_goals first | exact (show nodupB _ = true from rfl) | exact Or.inr rfl | (rfl)
end Go.Proofs.YtegpggobfdcafaaGreat
end
section
set_option linter.unusedVariables false
set_option linter.unusedSimpArgs false
set_option maxRecDepth 100000
set_option maxHeartbeats 4000000
namespace Go.Proofs.YtegpggobfdcafaaGreat
open Go Foot
@[irreducible] def jn1 (σ : List Int) (x : Jn) (p : Pt) : Jn := ptE σ p.ot (ptT σ p.th x)
@[irreducible] def res (σ : List Int) (A : As) : List Jn := List.zipWith (jn1 σ) A.is A.ps
structure PsOk (A : As) : Prop where
  len : A.ps.length = A.is.length
  ix : ∀ (i : Nat) (h : i < A.ps.length),A.ps[i].k = i
theorem psOk_emit {A : As} (h : PsOk A) (k r : Int) (th ot : Option Nat) : PsOk (A.emit k r th ot) := by
  refine ⟨by rw [emit_ps,emit_is]; simp [h.len],fun i hi => ?_⟩
  simp only [emit_ps] at hi ⊢
  rw [List.getElem_append]
  split
  · exact h.ix i _
  · have : i = A.is.length := by have := h.len; simp at hi; omega
    simp [this]
theorem psOk_here {A : As} (h : PsOk A) (i : Nat) : PsOk (A.here i) := ⟨by rw [here_ps,here_is]; exact h.len,by simp only [here_ps]; exact h.ix⟩
theorem psOk_spot {A : As} (h : PsOk A) : PsOk A.spot := ⟨by rw [spot_ps,spot_is]; exact h.len,by simp only [spot_ps]; exact h.ix⟩
theorem Blt.psOk {A B : As} (h : Blt A B) (hA : PsOk A) : PsOk B := by
  induction h with
  | refl => exact hA
  | here _ i ih => exact psOk_here ih i
  | spot _ ih => exact psOk_spot ih
  | emit _ k r th ot ih => exact psOk_emit ih k r th ot
theorem ptAll_nil (σ : List Int) (is : List Jn) : ptAll σ is [] = is := by unfold ptAll; rfl
theorem zip_mod (σ : List Int) (is : List Jn) (ps : List Pt) (hl : ps.length ≤ is.length) (hk : ∀ (i : Nat) (h : i < ps.length),ps[i].k = i) : ∀ n,n ≤ ps.length → ptAll σ is (ps.take n) = List.zipWith (jn1 σ) (is.take n) (ps.take n) ++ is.drop n
  | 0,_ => by rw [List.take_zero,ptAll_nil]; simp
  | n + 1,hn => by
    have ih := zip_mod σ is ps hl hk n (by omega)
    have hi : n < is.length := by omega
    have hp : n < ps.length := by omega
    have hkp := hk n hp
    rw [List.take_succ_eq_append_getElem hp,ptAll_snoc,ih]
    unfold pt1
    have hlz : (List.zipWith (jn1 σ) (is.take n) (ps.take n)).length = n := by rw [List.length_zipWith,List.length_take,List.length_take]; omega
    rw [hkp,Int.toNat_natCast,modify_set _ _ _ (by rw [List.length_append,hlz,List.length_drop]; omega)]
    have hd : is.drop n = is[n] :: is.drop (n + 1) := List.drop_eq_getElem_cons hi
    rw [List.getElem_append_right (by omega),List.set_append_right _ _ (by omega)]
    simp only [hlz,Nat.sub_self]
    have e0 : (is.drop n)[0]'(by rw [List.length_drop]; omega) = is[n] := by simp
    rw [e0,hd,List.set_cons_zero,List.take_succ_eq_append_getElem hi,List.zipWith_append (by rw [List.length_take,List.length_take]; omega)]
    unfold jn1
    simp
theorem res_all {A : As} (h : PsOk A) (σ : List Int) : ptAll σ A.is A.ps = res σ A := by
  have := zip_mod σ A.is A.ps (by rw [h.len]; exact Nat.le_refl _) h.ix A.ps.length (Nat.le_refl _)
  rw [List.take_of_length_le (Nat.le_refl _),List.take_of_length_le (by rw [h.len]; exact Nat.le_refl _),List.drop_of_length_le (by rw [h.len]; exact Nat.le_refl _),List.append_nil] at this
  unfold res
  exact this
theorem res_here (σ : List Int) (A : As) (i : Nat) : res σ (A.here i) = res σ A := by unfold res; rw [here_is,here_ps]
theorem res_spot (σ : List Int) (A : As) : res σ A.spot = res σ A := by unfold res; rw [spot_is,spot_ps]
theorem res_emit {A : As} (h : PsOk A) (σ : List Int) (k r : Int) (th ot : Option Nat) : res σ (A.emit k r th ot) = res σ A ++ [⟨k,r,match th with | none => A.is.length + 1 | some i => σ.getD i 0,match ot with | none => 0 | some i => σ.getD i 0⟩] := by
  unfold res
  rw [emit_is,emit_ps,List.zipWith_append h.len.symm]
  unfold jn1 ptE ptT
  cases th <;> cases ot <;> rfl
theorem res_len {A : As} (h : PsOk A) (σ : List Int) : (res σ A).length = A.is.length := by unfold res; rw [List.length_zipWith,h.len]; omega
structure Old (A B : As) : Prop where
  len : A.sp.length ≤ B.sp.length
  same : ∀ i,i < A.sp.length → B.sp[i]? = A.sp[i]?
theorem Old.refl (A : As) : Old A A := ⟨Nat.le_refl _,fun _ _ => rfl⟩
theorem Old.trans {A B C : As} (h : Old A B) (h' : Old B C) : Old A C := ⟨Nat.le_trans h.len h'.len,fun i hi => (h'.same i (Nat.lt_of_lt_of_le hi h.len)).trans (h.same i hi)⟩
theorem Old.emit (A : As) (k r : Int) (th ot : Option Nat) : Old A (A.emit k r th ot) := ⟨by rw [emit_sp]; exact Nat.le_refl _,fun i _ => by rw [emit_sp]⟩
theorem Old.spot (A : As) : Old A A.spot := ⟨by rw [spot_sp]; simp,fun i hi => by rw [spot_sp,List.getElem?_append_left hi]⟩
theorem Old.here {A B : As} (h : Old A B) (i : Nat) (hi : A.sp.length ≤ i) : Old A (B.here i) := ⟨by rw [here_sp,List.length_set]; exact h.len,fun j hj => by rw [here_sp,List.getElem?_set_ne (by omega)]; exact h.same j hj⟩
theorem incN_old (t : Int) (A : As) : ∀ n,Old A (incN t n A)
  | 0 => .refl A
  | n + 1 => (incN_old t A n).trans (.emit _ _ _ _ _)
theorem goL_old (f t k : Int) (A : As) (x : Nat) : Old A (goL f t k A x) := by
  unfold goL
  exact ((((Old.spot A).here _ (Nat.le_refl _)).trans (.emit _ _ _ _ _)).trans (incN_old _ _ _)).trans (.emit _ _ _ _ _)
theorem go_old (p : Pc) (A : As) (x : Nat) : Old A (p.go A x) := by
  cases p with
  | no => unfold Pc.go; exact .refl A
  | ic r => rw [go_ic]; exact .emit _ _ _ _ _
  | lp f t k => rw [go_lp]; exact goL_old f t k A x
theorem chA_old (x : Nat) : ∀ (l : List Pc) (A : As),Old A (chA A x l)
  | [],A => .refl A
  | [p],A => go_old p A x
  | p :: q :: r,A => (((Old.spot A).trans (go_old p A.spot A.sp.length)).here _ (Nat.le_refl _)).trans (chA_old x (q :: r) _)
def incC (a t : Int) : Nat → List Jn
  | 0 => []
  | n + 1 => incC a t n ++ [⟨0,t,a + n + 1,0⟩]
def loopC (a f t k E : Int) : List Jn := [⟨1,f,a + 1,E⟩] ++ incC (a + 1) t (k - 1).toNat ++ [⟨0,t,a,0⟩]
def pcK (a : Int) (p : Pc) (E : Int) : List Jn := match p with
  | .lp f t k => loopC a f t k E
  | .ic r => [⟨0,r,E,0⟩]
  | .no => []
def chC (a T : Int) : List Pc → List Jn
  | [] => []
  | p :: l => match l with
    | [] => pcK a p T
    | q :: r => pcK a p (a + p.len) ++ chC (a + p.len) T (q :: r)
structure Agr (σ : List Int) (A B : As) : Prop where
  eq : ∀ i,A.sp.length ≤ i → i < B.sp.length → σ[i]? = B.sp[i]?
theorem Agr.getD {σ : List Int} {A B : As} (h : Agr σ A B) {i : Nat} (h1 : A.sp.length ≤ i) {v : Int} (h2 : B.sp[i]? = some v) : σ.getD i 0 = v := by
  have hi : i < B.sp.length := (List.getElem?_eq_some_iff.1 h2).1
  rw [List.getD_eq_getElem?_getD,h.eq i h1 hi,h2]
  rfl
theorem incN_sp (t : Int) (A : As) : ∀ n,(incN t n A).sp = A.sp
  | 0 => rfl
  | n + 1 => by rw [incN,emit_sp,incN_sp t A n]
theorem incN_res {A : As} (h : PsOk A) (σ : List Int) (t : Int) : ∀ n,PsOk (incN t n A) ∧ (incN t n A).is.length = A.is.length + n ∧ res σ (incN t n A) = res σ A ++ incC A.is.length t n
  | 0 => ⟨h,rfl,by simp [incN,incC]⟩
  | n + 1 => by
    obtain ⟨h1,h2,h3⟩ := incN_res h σ t n
    rw [incN]
    refine ⟨psOk_emit h1 _ _ _ _,by rw [len_emit,h2]; rfl,?_⟩
    rw [res_emit h1,h3,h2,List.append_assoc,incC]
    simp only [Int.natCast_add]
theorem goL_res {A : As} (h : PsOk A) (σ : List Int) (f t k : Int) (x : Nat) (hσ : σ.getD A.sp.length 0 = A.is.length) : res σ (goL f t k A x) = res σ A ++ loopC A.is.length f t k (σ.getD x 0) := by
  unfold goL loopC
  have h1 := psOk_here (psOk_spot h) A.sp.length
  have h2 := psOk_emit h1 1 f none (some x)
  obtain ⟨h3,h4,h5⟩ := incN_res h2 σ t (k - 1).toNat
  rw [res_emit h3,h5,res_emit h1,res_here,res_spot]
  simp only [hσ,len_emit,len_here,len_spot,List.append_assoc,Int.natCast_add,Int.natCast_one,Int.cast_ofNat_Int]
theorem goL_sp (f t k : Int) (A : As) (x : Nat) : (goL f t k A x).sp = A.sp ++ [(A.is.length : Int)] := by
  unfold goL
  rw [emit_sp,incN_sp,emit_sp,here_sp,spot_sp,spot_is]
  simp
theorem go_res {A : As} (h : PsOk A) (σ : List Int) {p : Pc} (hp : PcOk p) (x : Nat) (hσ : Agr σ A (p.go A x)) : res σ (p.go A x) = res σ A ++ pcK A.is.length p (σ.getD x 0) := by
  cases p with
  | no => exact absurd rfl hp.no
  | ic r => rw [go_ic,res_emit h]; rfl
  | lp f t k =>
    rw [go_lp] at hσ ⊢
    refine goL_res h σ f t k x (hσ.getD (Nat.le_refl _) ?_)
    rw [goL_sp]
    simp
theorem chA_res (σ : List Int) (x : Nat) : ∀ (l : List Pc) (A : As),PsOk A → (∀ p ∈ l,PcOk p) → Agr σ A (chA A x l) → res σ (chA A x l) = res σ A ++ chC A.is.length (σ.getD x 0) l
  | [],A,_,_,_ => by simp [chA,chC]
  | [p],A,h,hp,hσ => go_res h σ (hp p (by simp)) x hσ
  | p :: q :: r,A,h,hp,hσ => by
    rw [chA] at hσ ⊢
    rw [chC]
    have hpp := hp p (by simp)
    have g1 := psOk_spot h
    have g2 := (go_b p A.spot A.sp.length).psOk g1
    have g3 := psOk_here g2 A.sp.length
    have o1 := go_old p A.spot A.sp.length
    have o2 := chA_old x (q :: r) ((p.go A.spot A.sp.length).here A.sp.length)
    have l1 : A.spot.sp.length = A.sp.length + 1 := by rw [spot_sp]; simp
    have l2 := o1.len
    have l3 : ((p.go A.spot A.sp.length).here A.sp.length).sp.length = (p.go A.spot A.sp.length).sp.length := by rw [here_sp,List.length_set]
    have l4 := o2.len
    have gl : (p.go A.spot A.sp.length).is.length = A.is.length + p.len := by
      have := (go_ok hpp (A := A.spot) ⟨by rw [spot_ps,spot_is]; exact h.len⟩ A.sp.length).2
      rw [this,len_spot]
    have he : σ.getD A.sp.length 0 = A.is.length + p.len := by
      have := hσ.getD (i := A.sp.length) (Nat.le_refl _) (v := ((p.go A.spot A.sp.length).is.length : Int)) (by
        rw [o2.same _ (by omega),here_sp,List.getElem?_set_self (by omega)])
      rw [this,gl]
      omega
    have a1 : Agr σ A.spot (p.go A.spot A.sp.length) := ⟨fun i h1 h2 => by
      rw [hσ.eq i (by omega) (by omega),o2.same i (by omega),here_sp,List.getElem?_set_ne (by omega)]⟩
    have a2 : Agr σ ((p.go A.spot A.sp.length).here A.sp.length) (chA ((p.go A.spot A.sp.length).here A.sp.length) x (q :: r)) := ⟨fun i h1 h2 => hσ.eq i (by omega) h2⟩
    rw [chA_res σ x (q :: r) _ g3 (fun y hy => hp y (List.mem_cons_of_mem _ hy)) a2,res_here,go_res g1 σ hpp _ a1,res_spot,he,len_here,gl,len_spot,List.append_assoc]
    simp only [Int.natCast_add]
end Go.Proofs.YtegpggobfdcafaaGreat
end
