/- Parts of the proof (14 of 19). -/
import Derived.Test.YtegpggobfdcafaaGreatQ13
section
set_option linter.unusedVariables false
set_option linter.unusedSimpArgs false
namespace Go.Proofs.YtegpggobfdcafaaGreat
open Go Foot
theorem Rel.putLp {g : Gh} {st : St} {a : Act} {w : World} {S : Foot} {ρ : Env} {F : Nat → Foot} {i l : Nat} {r : Loop} (h : Rel g st a w S ρ F) (hl : lkG st.h i = .lp l r) (r' : Loop) :
    Rel g ⟨st.t,(i,.lp l r') :: st.h,st.n⟩ a (w.putObj l (.loop r')) S ρ F := by
  have hroot : ∃ v,ρ i = some v ∧ mapAt w l = some (.loop r) ∧ ∀ o,F i l o := by
    rcases h.root i with h0 | ⟨v,h1,h2⟩
    · rw [hl] at h0; cases h0
    · rw [hl] at h2; exact ⟨v,h1,h2⟩
  obtain ⟨v,e1,e2,e3⟩ := hroot
  have hk := keeps_ob (w := w) (b := l) (ob := .loop r') (by rw [e2]; rfl)
  have hS : Agree w (w.putObj l (.loop r')) S := hk.agree h.exS fun b o hb e => by subst e; exact h.disS i _ o (e3 o) hb
  have hF : ∀ j,j ≠ i → Agree w (w.putObj l (.loop r')) (F j) := fun j hj => hk.agree (h.ex j) fun b o hb e => by subst e; exact h.dis j i hj _ o hb (e3 o)
  have hlt : l < w.heap.size := h.ex i l 0 (e3 0)
  have hm : mapAt (w.putObj l (.loop r')) l = some (.loop r') := by
    unfold mapAt
    rw [World.putObj_heap_same hlt]
  refine ⟨h.size,h.defers.keep fun r2 hr m => ?_,fun j => (h.slot j).keep hS (le_refl _) (Env.le.refl _),fun j => ?_,h.dis,h.disS,h.own,fun j b o hb => by simpa using h.ex j b o hb,fun b o hb => by simpa using h.exS b o hb,
    h.old.trans hk fun b o e => by subst e; exact h.own i _ o (e3 o),h.inS,h.newS,h.pin,h.tab.keep hS (le_refl _),h.fin⟩
  · have hne : r2 ≠ l := fun e => m.F i 0 (e ▸ e3 0)
    exact ⟨by rw [← m.at_]; simp [mapAt,World.putObj_heap_other hne],m.F,m.S,m.lo⟩
  · by_cases hj : j = i
    · subst hj
      refine .inr ⟨v,e1,?_⟩
      simp only [lkG,Nat.beq_refl,cond_true]
      exact ⟨hm,e3⟩
    · simp only [lkG,beq_ne hj,cond_false]
      exact (h.root j).imp id fun ⟨u,h1,h2⟩ => ⟨u,h1,h2.keep (hF j hj) hS (le_refl _) (Env.le.refl _) (le_refl _)⟩
theorem repA_lt {w : World} {S : Foot} {ρ ρ' : Env} : ∀ {as1 : List SV} {vs : List Value},RepA w S ρ as1 vs → ltA 0 as1 = true → RepA w S ρ' as1 vs
  | [],vs,h,_ => h
  | sv :: l,vs,h,hl => by
    simp only [RepA] at h ⊢
    simp only [ltA,Bool.and_eq_true] at hl
    obtain ⟨v,us,rfl,h1,h2⟩ := h
    exact ⟨v,us,rfl,RepS.ltE (fun i hi => absurd hi (Nat.not_lt_zero _)) h1 hl.1,repA_lt h2 hl.2⟩
theorem repA_len {w : World} {S : Foot} {ρ : Env} : ∀ {as1 : List SV} {vs : List Value},RepA w S ρ as1 vs → vs.length = as1.length
  | [],vs,h => by simp only [RepA] at h; subst h; rfl
  | sv :: l,vs,h => by
    simp only [RepA] at h
    obtain ⟨v,us,rfl,h1,h2⟩ := h
    simp [repA_len h2]
def keysB (kq kp n : Nat) (h : List (Nat × GB)) : Bool := h.all fun x => Nat.blt x.1 n && (Nat.blt x.1 kq || Nat.ble kp x.1)
theorem keysB_lk {kq kp n i : Nat} : ∀ {h : List (Nat × GB)},keysB kq kp n h = true → lkG h i = .dead ∨ (i < n ∧ (i < kq ∨ kp ≤ i))
  | [],_ => .inl rfl
  | (j,gb) :: h,hk => by
    simp only [keysB,List.all_cons,Bool.and_eq_true,Bool.or_eq_true] at hk
    simp only [lkG]
    by_cases hij : i = j
    · subst hij
      exact .inr ⟨blt_lt hk.1.1,hk.1.2.imp blt_lt Nat.le_of_ble_eq_true⟩
    · simp only [beq_ne hij,cond_false]
      exact keysB_lk (h := h) hk.2
def renB (f : Nat → Nat) : List (Nat × GB) → Prop
  | [] => True
  | x :: h => x.2.ren f = x.2 ∧ renB f h
theorem renB_lk {f : Nat → Nat} {i : Nat} : ∀ {h : List (Nat × GB)},renB f h → (lkG h i).ren f = lkG h i
  | [],_ => rfl
  | (j,gb) :: h,hk => by
    simp only [lkG]
    cases Nat.beq i j with
    | true => exact hk.1
    | false => exact renB_lk hk.2
def renL (f : Nat → Nat) : List GB → Prop
  | [] => True
  | x :: h => x.ren f = x ∧ renL f h
theorem renL_get {f : Nat → Nat} : ∀ {h : List GB} {i : Nat} {gb : GB},renL f h → h[i]? = some gb → gb.ren f = gb
  | [],i,gb,_,hi => by simp at hi
  | x :: h,0,gb,hk,hi => by simp at hi; subst hi; exact hk.1
  | x :: h,i + 1,gb,hk,hi => renL_get hk.2 (by simpa using hi)
theorem lkG_deads {θ : List Nat} {h : List (Nat × GB)} {i : Nat} (hi : i ∈ θ) : lkG (deads θ ++ h) i = .dead := by
  induction θ with
  | nil => simp at hi
  | cons j θ ih =>
    simp only [deads,List.map_cons,List.cons_append,lkG]
    by_cases hij : i = j
    · subst hij; simp
    · simp only [beq_ne hij,cond_false]
      exact ih (by simpa [hij] using hi)
theorem lkG_deads' {θ : List Nat} {h : List (Nat × GB)} {i : Nat} (hi : i ∉ θ) : lkG (deads θ ++ h) i = lkG h i := lkG_append _ _ _ fun ⟨gb,hm⟩ => by
  simp only [deads,List.mem_map] at hm
  obtain ⟨j,hj,e⟩ := hm
  cases e
  exact hi hj
theorem idx_th {L : List Nat} (hn : nodupB L = true) {j : Nat} (hj : j < L.length) : L.idxOf (thF L j) = j := by
  have e : thF L j = L[j] := by simp [thF,hj]
  have hm : L[j] ∈ L := List.getElem_mem hj
  have h1 : L.idxOf L[j] < L.length := List.idxOf_lt_length_iff.2 hm
  have h2 : L[L.idxOf L[j]] = L[j] := List.getElem_idxOf h1
  rw [e]
  apply Classical.byContradiction
  intro hne
  refine nodupB_inj hn _ j h1 hj hne ?_
  simp [thF,h1,hj,h2]
theorem th_idx {L : List Nat} {i : Nat} (hi : i ∈ L) : L.idxOf i < L.length ∧ thF L (L.idxOf i) = i := by
  have h1 : L.idxOf i < L.length := List.idxOf_lt_length_iff.2 hi
  refine ⟨h1,?_⟩
  simp [thF,h1]
theorem maps_mem {cs θ : List Nat} {ρ ρ' : Env} {us : List Value} {f : Nat → Nat} (h1 : cs.map ρ = us.map some) (h2 : θ.map ρ' = us.map some) (h3 : cs.map f = θ) : ∀ c ∈ cs,∃ u,ρ c = some u ∧ ρ' (f c) = some u := by
  subst h3
  intro c hc
  induction cs generalizing us with
  | nil => simp at hc
  | cons d cs ih =>
    cases us with
    | nil => simp at h1
    | cons u us =>
      simp only [List.map_cons,List.cons.injEq] at h1 h2
      rcases List.mem_cons.1 hc with rfl | hc
      · exact ⟨u,h1.1,h2.1⟩
      · exact ih h1.2 h2.2 hc
section
variable {P : Program} {g : Gh} {tm : Array Value} {ρs : Env} {t0 : List (Nat × SV)} {hx hx' : List (Nat × GB)} {n kq kp l : Nat} {θc θp θu cy : List Nat} {r0 : Loop} {ys : List SV} {HS : List GB} {j : Option Code}
structure RNums (g : Gh) (t0 : List (Nat × SV)) (n kq kp : Nat) (θc θp θu cy : List Nat) (ys : List SV) (HS : List GB) : Prop where
  n_kq : g.k ≤ kq
  n_qp : kq ≤ kp
  n_pn : kp ≤ n
  n_t : allT kq t0 = true
  n_c : θc.all (fun i => Nat.blt i kq) = true
  n_p : θp.all (fun i => θc.any (Nat.beq i)) = true
  n_u : θu.all (fun i => Nat.ble kq i && Nat.blt i kp) = true
  n_nd : nodupB (θp ++ θu) = true
  n_cy : cy.map (thF (n :: (θp ++ θu))) = θp
  n_cyl : cy.all (fun i => Nat.blt i (HS.length + 1)) = true
  n_ys : ltA 0 ys = true
  n_len : HS.length = (θp ++ θu).length
  n_lt : allG (HS.length + 1) HS = true
  n_z : renL (fun i => i - 1 + 1) HS
  n_live : HS.all GB.lives = true
theorem RNums.c' (h : RNums g t0 n kq kp θc θp θu cy ys HS) : ∀ i ∈ θc,i < kq := fun i hi => blt_lt ((List.all_eq_true.1 h.n_c) i hi)
theorem RNums.p' (h : RNums g t0 n kq kp θc θp θu cy ys HS) : ∀ i ∈ θp,i ∈ θc := fun i hi => by
  have := (List.all_eq_true.1 h.n_p) i hi
  rw [List.any_eq_true] at this
  obtain ⟨j,hj,e⟩ := this
  rw [Nat.eq_of_beq_eq_true e]
  exact hj
theorem RNums.u' (h : RNums g t0 n kq kp θc θp θu cy ys HS) : ∀ i ∈ θu,kq ≤ i ∧ i < kp := fun i hi => by
  have := (List.all_eq_true.1 h.n_u) i hi
  rw [Bool.and_eq_true] at this
  exact ⟨Nat.le_of_ble_eq_true this.1,blt_lt this.2⟩
theorem RNums.s' (h : RNums g t0 n kq kp θc θp θu cy ys HS) : ∀ i ∈ θp ++ θu,i < kp := fun i hi => by
  have := h.n_qp
  rcases List.mem_append.1 hi with hi | hi
  · have := h.c' i (h.p' i hi); omega
  · exact (h.u' i hi).2
theorem RNums.ndL (h : RNums g t0 n kq kp θc θp θu cy ys HS) : nodupB (n :: (θp ++ θu)) = true := by
  simp only [nodupB,Bool.and_eq_true,Bool.not_eq_true',List.any_eq_false]
  refine ⟨fun i hi e => ?_,h.n_nd⟩
  have := h.s' i hi
  have := Nat.eq_of_beq_eq_true e
  have := h.n_pn
  omega
theorem round_in {w : World} {S : Foot} {ρy : Env} {Fy : Nat → Foot} {vs : List Value} (hN : RNums g t0 n kq kp θc θp θu cy ys HS) (htm : tm.size = g.n) {ps : List Nat} (hps : ∀ p ∈ ps,p < g.n)
    (hkx : keysB kq kp n hx = true) (hlx : allH n hx = true) (hrx : renB (gapF kq kp n) hx) (hA : RepA w S ρy ys vs) (hG : Given w S ρy Fy (.opq (pk g tm ρs t0 hx n θc θp l r0) cy :: HS)) {us : List Value} {ρ : Env} {Fr : Nat → Foot} (hus : cy.map ρy = us.map some) (hP : Pkd g tm ρs t0 hx n θc θp l r0 w S us (Fy 0) ρ Fr) {v0 : Value} (hv0 : ρy 0 = some v0) :
    ∃ ρ2 F2,Rel ⟨g.n,w,upTo Fy (HS.length + 1),S,kp,ρ2,some l,[]⟩ ⟨parT ps ys t0,(n,.lp l r0) :: (upOf (thF (n :: (θp ++ θu))) 1 HS ++ (deads θc ++ hx)),n + 1⟩ { tmps := (ps.zip vs).foldl (fun tm x => tm.setIfInBounds x.1 x.2) tm,defers := [] } w S ρ2 F2 ∧
      (∀ i,n + 1 ≤ i → ρ2 i = none) ∧ (∀ i,i < kq → ρ2 i = ρ i) ∧ (∀ i,i < HS.length + 1 → ρ2 (thF (n :: (θp ++ θu)) i) = ρy i) := by
  have hndL := hN.ndL
  have hqp := hN.n_qp
  have hpn := hN.n_pn
  have hlenL : (n :: (θp ++ θu)).length = HS.length + 1 := by rw [List.length_cons,← hN.n_len]
  generalize hLe : (n :: (θp ++ θu)) = L at *
  have hmem : ∀ i,i ∈ L ↔ i = n ∨ i ∈ θp ++ θu := fun i => by rw [← hLe]; exact List.mem_cons
  have hidx0 : L.idxOf n = 0 := by rw [← hLe]; simp
  have hidx1 : ∀ i,i ∈ L → i ≠ n → L.idxOf i ≠ 0 := fun i hi hne e => by
    have := (th_idx hi).2
    rw [e] at this
    have e2 : thF L 0 = n := by rw [← hLe]; rfl
    exact hne (this.symm.trans e2)
  let ρ2 : Env := fun i => if i ∈ L then ρy (L.idxOf i) else ρ i
  let F2 : Nat → Foot := fun i => if i ∈ L then (if i = n then fun b o => b = l else Fy (L.idxOf i)) else Fr i
  have hρL : ∀ i,i < HS.length + 1 → ρ2 (thF L i) = ρy i := fun i hi => by
    have hi' : i < L.length := by rw [hlenL]; exact hi
    have hm : thF L i ∈ L := by simp only [thF,List.getD_eq_getElem?_getD,List.getElem?_eq_getElem hi',Option.getD_some]; exact List.getElem_mem hi'
    simp only [ρ2,if_pos hm,idx_th hndL hi']
  have hθp : ∀ i ∈ θp,ρ2 i = ρ i := fun i hi => by
    have hcy := hN.n_cy
    rw [hLe] at hcy
    rw [← hcy] at hi
    obtain ⟨c,hc,rfl⟩ := List.mem_map.1 hi
    obtain ⟨u,e1,e2⟩ := maps_mem hus hP.us hcy c hc
    have hcl := blt_lt ((List.all_eq_true.1 hN.n_cyl) c hc)
    rw [hρL c hcl,e1,e2]
  have hkq : ∀ i,i < kq → ρ2 i = ρ i := fun i hi => by
    by_cases hm : i ∈ L
    · rcases (hmem i).1 hm with rfl | hm'
      · omega
      · rcases List.mem_append.1 hm' with h | h
        · exact hθp i h
        · have := (hN.u' i h).1; omega
    · simp only [ρ2,if_neg hm]
  have hout : ∀ i,(i < kq ∨ kp ≤ i) → i < n → ρ2 i = ρ i := fun i hi hin => by
    rcases hi with hi | hi
    · exact hkq i hi
    · have hm : i ∉ L := fun hm => by
        rcases (hmem i).1 hm with rfl | hm'
        · omega
        · have := hN.s' i hm'; omega
      simp only [ρ2,if_neg hm]
  have hfresh : ∀ i,n + 1 ≤ i → ρ2 i = none := fun i hi => by
    have hm : i ∉ L := fun hm => by
      rcases (hmem i).1 hm with rfl | hm'
      · omega
      · have := hN.s' i hm'; omega
    simp only [ρ2,if_neg hm]
    exact hP.new i (by omega)
  -- groups
  let c : Nat → Nat := fun i => if i ∈ L then L.idxOf i else 0
  have hc : ∀ i,c i < HS.length + 1 := fun i => by
    simp only [c]
    split
    · rename_i hm; have := (th_idx hm).1; omega
    · omega
  have hsub : ∀ i,le (F2 i) (Fy (c i)) := fun i => by
    simp only [F2,c]
    by_cases hm : i ∈ L
    · rw [if_pos hm,if_pos hm]
      by_cases hin : i = n
      · rw [if_pos hin,hin,hidx0]
        rintro b o rfl
        exact hP.hasl o
      · rw [if_neg hin]; exact le_refl _
    · rw [if_neg hm,if_neg hm]; exact hP.le i
  have hlenH : (GB.opq (pk g tm ρs t0 hx n θc θp l r0) cy :: HS).length = HS.length + 1 := rfl
  refine ⟨ρ2,F2,⟨?_,rfl,?_,fun i => ?_,fun i k hik => ?_,fun i => ?_,fun i => ?_,fun i b o hb => ?_,hG.exS,Keeps.refl _ _,le_refl _,fun b o h => .inl h,fun i u _ h => h,hG.tab,n + 1,hfresh⟩,hfresh,hkq,hρL⟩
  · rw [← htm]; exact par_size
  · refine par_rep (repA_lt hA hN.n_ys) (fun p hp => by rw [htm]; exact hps p hp) fun i => ?_
    exact RepS.ltE (ρ := ρ) hkq (hP.slot i) (allT_lk hN.n_t i)
  · simp only [lkG]
    by_cases hin : i = n
    · subst hin
      have hm : i ∈ L := (hmem i).2 (.inl rfl)
      simp only [Nat.beq_refl,cond_true]
      refine .inr ⟨v0,?_,?_⟩
      · simp only [ρ2,if_pos hm,hidx0]; exact hv0
      · simp only [F2,if_pos hm,if_true]
        exact ⟨hP.rcd,fun o => rfl⟩
    simp only [beq_ne hin,cond_false]
    by_cases hki : keyIn (upOf (thF L) 1 HS) i
    · have hmm := lkG_key _ (deads θc ++ hx) i hki
      obtain ⟨k,gb,h1,h2⟩ := upOf_mem hmm
      obtain ⟨e1,e2⟩ := Prod.mk.inj h2
      rw [e2]
      have hk1 : k < HS.length := (List.getElem?_eq_some_iff.1 h1).1
      rcases hG.roots (k + 1) gb (by simpa using h1) with r0 | ⟨u,r1,r2⟩
      · left; rw [r0]; rfl
      · have hi' : i = thF L (k + 1) := by rw [e1,Nat.add_comm]
        have hmL : i ∈ L := by
          rw [hi']; simp only [thF,List.getD_eq_getElem?_getD,List.getElem?_eq_getElem (show k + 1 < L.length by omega),Option.getD_some]; exact List.getElem_mem _
        refine .inr ⟨u,by rw [hi',hρL _ (by omega)]; exact r1,?_⟩
        have hF2 : F2 i = Fy (k + 1) := by
          simp only [F2,if_pos hmL,if_neg hin]
          rw [hi',idx_th hndL (by omega)]
        rw [hF2]
        exact RepG.ren.2 (RepG.ltE (fun j hj => hρL j hj) r2 (allG_get hN.n_lt h1))
    · rw [lkG_append _ _ _ hki]
      have hns : i ∉ θp ++ θu := fun hm => by
        have hm' : i ∈ L := (hmem i).2 (.inr hm)
        obtain ⟨q1,q2⟩ := th_idx hm'
        have q3 := hidx1 i hm' hin
        obtain ⟨gb,hgb⟩ := upOf_has (f := thF L) (H := HS) (k := 1) (i := L.idxOf i - 1) (by omega)
        rw [show 1 + (L.idxOf i - 1) = L.idxOf i by omega,q2] at hgb
        exact hki ⟨gb,hgb⟩
      have hmL : i ∉ L := fun hm => ((hmem i).1 hm).elim hin hns
      by_cases hic : i ∈ θc
      · rw [lkG_deads hic]; exact .inl rfl
      rw [lkG_deads' hic]
      rcases hP.root i hic with h0 | ⟨u,h1,h2⟩
      · exact .inl h0
      · refine .inr ⟨u,by simp only [ρ2,if_neg hmL]; exact h1,?_⟩
        have hF2 : F2 i = Fr i := by simp only [F2,if_neg hmL]
        rw [hF2]
        refine rep_gap h2 (allH_lk hlx i) (renB_lk hrx) ?_ (fun k hk hk' => hout k hk' hk)
        rw [hfresh _ (by omega),hP.new _ (by omega)]
  · by_cases hcc : c i = c k
    · -- both in the group of the loop
      have hz : ∀ q,c q = 0 → (F2 q = (fun b o => b = l) ∧ q = n) ∨ (F2 q = Fr q ∧ q ∉ L) := fun q hq => by
        by_cases hm : q ∈ L
        · by_cases hqn : q = n
          · exact .inl ⟨by simp only [F2,if_pos hm,if_pos hqn],hqn⟩
          · simp only [c,if_pos hm] at hq; exact absurd hq (hidx1 q hm hqn)
        · exact .inr ⟨by simp only [F2,if_neg hm],hm⟩
      by_cases h0 : c i = 0
      · rcases hz i h0 with ⟨e1,q1⟩ | ⟨e1,q1⟩ <;> rcases hz k (hcc ▸ h0) with ⟨e2,q2⟩ | ⟨e2,q2⟩
        · exact absurd (q1.trans q2.symm) hik
        · rw [e1,e2]; rintro b o rfl hb; exact hP.notl k o hb
        · rw [e1,e2]; rintro b o hb rfl; exact hP.notl i o hb
        · rw [e1,e2]; exact hP.dis i k hik
      · have hm : ∀ q,c q ≠ 0 → q ∈ L ∧ c q = L.idxOf q := fun q hq => by
          simp only [c] at hq ⊢
          split at hq
          · rename_i h; exact ⟨h,if_pos h⟩
          · exact absurd rfl hq
        obtain ⟨m1,e1⟩ := hm i h0
        obtain ⟨m2,e2⟩ := hm k (hcc ▸ h0)
        exact absurd (by rw [← (th_idx m1).2,← (th_idx m2).2,← e1,← e2,hcc]) hik
    · exact (hG.dis _ _ (hc i) (hc k) hcc).le (hsub i) (hsub k)
  · exact (hG.disS _ (hc i)).le (hsub i) (le_refl _)
  · exact fun b o hb => .inl ⟨c i,hc i,hsub i b o hb⟩
  · exact hG.ex _ (hc i) b o (hsub i b o hb)
end
end Go.Proofs.YtegpggobfdcafaaGreat
end
section
set_option linter.unusedVariables false
set_option linter.unusedSimpArgs false
namespace Go.Proofs.YtegpggobfdcafaaGreat
open Go Foot
section
variable {P : Program} {g : Gh} {tm : Array Value} {ρs : Env} {t0 : List (Nat × SV)} {hx hx' : List (Nat × GB)} {n kq kp l : Nat} {θc θp θu cy : List Nat} {r0 : Loop} {ys : List SV} {HS : List GB} {j : Option Code}
theorem round_out {w w1 : World} {S S1 : Foot} {ρy ρ ρ0 ρ1 : Env} {Fy Fr F1 : Nat → Foot} {a : Act} {rb rj : Loop} (hN : RNums g t0 n kq kp θc θp θu cy ys HS)
    (hkx : keysB kq kp n hx' = true) (hlx : allH n hx' = true) (hrx : renB (gapF kq kp n) hx') (hG : Given w S ρy Fy (.opq (pk g tm ρs t0 hx n θc θp l r0) cy :: HS)) {us : List Value} (hus : cy.map ρy = us.map some) (hP : Pkd g tm ρs t0 hx n θc θp l r0 w S us (Fy 0) ρ Fr) {v0 : Value} (hv0 : ρy 0 = some v0)
    (hq : ∀ i,i < kq → ρ0 i = ρ i) (hL : ∀ i,i < HS.length + 1 → ρ0 (thF (n :: (θp ++ θu)) i) = ρy i)
    (h : Rel ⟨g.n,w,upTo Fy (HS.length + 1),S,kp,ρ0,some l,[]⟩ ⟨[],(n,.lp l rb) :: (upOf (thF (n :: (θp ++ θu))) 1 HS ++ (deads θc ++ hx')),n + 1⟩ a w1 S1 ρ1 F1) (hf : ∀ i,n + 1 ≤ i → ρ1 i = none) (v : Value) :
    ∃ S2 ρ' F',Ret w (w1.putObj l (.loop rj)) S S2 ρy ρ' Fy F' (HS.length + 1) (.opq (pk g tm ρs t0 hx' n θc θp l rj) cy :: HS) ∧ S.or S2 = S1 := by
  have hndL := hN.ndL
  have hqp := hN.n_qp
  have hpn := hN.n_pn
  have hkq := hN.n_kq
  have hlenL : (n :: (θp ++ θu)).length = HS.length + 1 := by rw [List.length_cons,← hN.n_len]
  have h2 := h.putLp (i := n) (l := l) (r := rb) (by simp [lkG]) rj
  generalize hw2 : w1.putObj l (.loop rj) = w2 at *
  generalize hLe : (n :: (θp ++ θu)) = L at *
  have hmem : ∀ i,i ∈ L ↔ i = n ∨ i ∈ θp ++ θu := fun i => by rw [← hLe]; exact List.mem_cons
  have hth0 : thF L 0 = n := by rw [← hLe]; rfl
  have hmL : ∀ i,i < HS.length + 1 → thF L i ∈ L := fun i hi => by
    simp only [thF,List.getD_eq_getElem?_getD,List.getElem?_eq_getElem (show i < L.length by omega),Option.getD_some]; exact List.getElem_mem _
  have hths : ∀ i,i < HS.length + 1 → i ≠ 0 → thF L i ∈ θp ++ θu := fun i hi hne => by
    rcases (hmem _).1 (hmL i hi) with e | e
    · exact absurd (nodupB_inj hndL i 0 (by omega) (by omega) hne) (by rw [hth0,e]; simp)
    · exact e
  have hns : n ∉ θp ++ θu := fun hm => by have := hN.s' n hm; omega
  -- what is known of the roots that were handed over
  have hlive : ∀ i,i < HS.length → ∃ u,ρy (i + 1) = some u := fun i hi => by
    have hg : (GB.opq (pk g tm ρs t0 hx n θc θp l r0) cy :: HS)[i + 1]? = some HS[i] := by simp [hi]
    rcases hG.roots _ _ hg with e | ⟨u,e,_⟩
    · have := (List.all_eq_true.1 hN.n_live) HS[i] (List.getElem_mem hi)
      rw [e] at this; cases this
    · exact ⟨u,e⟩
  have hpin : ∀ i,i < HS.length + 1 → i ≠ 0 → ρ1 (thF L i) = ρy i := fun i hi hne => by
    obtain ⟨u,e⟩ := hlive (i - 1) (by omega)
    rw [show i - 1 + 1 = i by omega] at e
    rw [e]
    exact h2.pin _ u (hN.s' _ (hths i hi hne)) (by rw [← e]; exact hL i hi)
  let S2 : Foot := fun b o => S1 b o ∧ newOr w (upTo Fy (HS.length + 1)) b o
  have hSS : S.or S2 = S1 := by
    funext b o
    refine propext ⟨fun h => h.elim (h2.inS b o) (fun h => h.1),fun h => ?_⟩
    rcases h2.newS b o h with h' | h'
    · exact .inl h'
    · exact .inr ⟨h,h'⟩
  -- the package
  let ρn : Env := fun i => if n ≤ i ∨ (kq ≤ i ∧ i < kp) then none else ρ1 i
  let Fn : Nat → Foot := fun i => if i ∈ θc ∨ i ∈ L then no else F1 i
  let F0 : Foot := fun b o => ∃ i,i ∉ θp ++ θu ∧ F1 i b o
  let F' : Nat → Foot := fun i => if i = 0 then F0 else F1 (thF L i)
  have hρr : Env.le (fun i => if i < kq then ρ i else none) ρn := fun i u hu => by
    by_cases hi : i < kq
    · simp only [if_pos hi] at hu
      have e0 : ρ0 i = some u := by rw [hq i hi]; exact hu
      have e1 := h2.pin i u (show i < kp by omega) e0
      simp only [ρn,if_neg (show ¬ (n ≤ i ∨ (kq ≤ i ∧ i < kp)) by omega)]
      exact e1
    · simp only [if_neg hi] at hu; cases hu
  have hkp : ∀ i,i ∈ θp → i < kq := fun i hi => hN.c' i (hN.p' i hi)
  have hold : Keeps (upTo Fy (HS.length + 1)) w w2 := h2.old
  have hSag : Agree w w2 S := hold.agree hG.exS fun b o hb ⟨i,hi,hf⟩ => hG.disS i hi b o hf hb
  have hlpr : mapAt w2 l = some (.loop rj) ∧ ∀ o,F1 n l o := by
    have := h2.root n
    simp only [lkG,Nat.beq_refl,cond_true] at this
    rcases this with e | ⟨u,_,e⟩
    · cases e
    · exact e
  have hlk : ∀ i,i ≠ n → i ∉ θp ++ θu → i ∉ θc → lkG ((n,.lp l rj) :: (n,.lp l rb) :: (upOf (thF L) 1 HS ++ (deads θc ++ hx'))) i = lkG hx' i := fun i h1 h3 h4 => by
    simp only [lkG,beq_ne h1,cond_false]
    rw [lkG_append,lkG_deads' h4]
    rintro ⟨gb,hm⟩
    obtain ⟨k,gb',q1,q2⟩ := upOf_mem hm
    obtain ⟨e1,e2⟩ := Prod.mk.inj q2
    have hk := (List.getElem?_eq_some_iff.1 q1).1
    exact h3 (e1 ▸ hths (1 + k) (by omega) (by omega))
  have hpkd : Pkd g tm ρs t0 hx' n θc θp l rj w2 S1 us F0 ρn Fn := by
    refine ⟨fun i => ?_,fun i hic => ?_,fun i k hik => ?_,fun i => ?_,fun i hi => if_pos (.inl hi),fun i o hb => ?_,hlpr.1,fun o => ⟨n,hns,hlpr.2 o⟩,?_,fun i hi => ?_,fun i u hi hu => ?_,fun i hi => if_pos (.inl hi)⟩
    · exact (RepS.ltE (ρ' := fun i => if i < kq then ρ i else none) (fun i hi => if_pos hi) (hP.slot i) (allT_lk hN.n_t i)).keep hSag h2.inS hρr
    · rcases keysB_lk (i := i) hkx with e | ⟨hin,hgap⟩
      · exact .inl e
      have hine : i ≠ n := by omega
      have hins : i ∉ θp ++ θu := fun hm => by
        rcases List.mem_append.1 hm with hm | hm
        · exact hic (hN.p' i hm)
        · have := hN.u' i hm; omega
      have hr := h2.root i
      simp only at hr
      rw [hlk i hine hins hic] at hr
      rcases hr with e | ⟨u,e1,e2⟩
      · exact .inl e
      · refine .inr ⟨u,by simp only [ρn,if_neg (show ¬ (n ≤ i ∨ (kq ≤ i ∧ i < kp)) by omega)]; exact e1,?_⟩
        have hFn : Fn i = F1 i := if_neg fun hm => hm.elim hic fun hm => ((hmem i).1 hm).elim hine hins
        rw [hFn]
        refine rep_gap e2 (allH_lk hlx i) (renB_lk hrx) ?_ fun k hk hk' => by
          simp only [ρn,if_neg (show ¬ (n ≤ k ∨ (kq ≤ k ∧ k < kp)) by omega)]
        rw [hf _ (by omega)]
        exact if_pos (.inl (by omega))
    · simp only [Fn]
      split
      · exact no_dis _
      · split
        · exact dis_no _
        · exact h2.dis i k hik
    · simp only [Fn]
      split
      · exact no_le _
      · rename_i hm
        exact fun b o hb => ⟨i,fun hm' => hm (.inr ((hmem i).2 (.inr hm'))),hb⟩
    · simp only [Fn] at hb
      split at hb
      · exact hb.elim
      · rename_i hm
        exact h2.dis i n (fun e => hm (.inr ((hmem i).2 (.inl e)))) l o hb (hlpr.2 o)
    · refine envs_le hρr ?_
      rw [← hP.us]
      exact List.map_congr_left fun i hi => if_pos (hkp i hi)
    · obtain ⟨u,e1,e2⟩ := hP.val i hi
      exact ⟨u,e1,hρr i u (by simp only [if_pos (hN.c' i hi)]; exact e2)⟩
    · exact hρr i u (by simp only [if_pos (show i < kq by omega)]; exact hP.pin i u hi hu)
  refine ⟨S2,ρy,F',⟨hold,fun b o h => h.2,fun b o h => h2.exS b o h.1,Nat.le_refl _,fun i u _ h => h,fun i hi => hG.new i hi,fun i gb hi => ?_,fun i k hi hk hik => ?_,fun i hi => ?_,fun i hi => ?_,fun i hi => ?_⟩,hSS⟩
  · rw [hSS]
    cases i with
    | zero =>
      simp only [List.getElem?_cons_zero,Option.some.injEq] at hi
      subst hi
      exact .inr ⟨v0,hv0,us,hus,ρn,Fn,hpkd⟩
    | succ i =>
      simp only [List.getElem?_cons_succ] at hi
      have hil : i < HS.length := (List.getElem?_eq_some_iff.1 hi).1
      obtain ⟨u,hu⟩ := hlive i hil
      have hl1 : lkG ((n,.lp l rj) :: (n,.lp l rb) :: (upOf (thF L) 1 HS ++ (deads θc ++ hx'))) (thF L (i + 1)) = gb.ren (thF L) := by
        have hne : thF L (i + 1) ≠ n := fun e => hns (e ▸ hths (i + 1) (by omega) (by omega))
        simp only [lkG,beq_ne hne,cond_false]
        have hki : keyIn (upOf (thF L) 1 HS) (thF L (i + 1)) := by
          obtain ⟨gb',hm⟩ := upOf_has (f := thF L) (H := HS) (k := 1) (i := i) hil
          rw [Nat.add_comm] at hm
          exact ⟨gb',hm⟩
        obtain ⟨k,gb',q1,q2⟩ := upOf_mem (lkG_key _ (deads θc ++ hx') _ hki)
        obtain ⟨e1,e2⟩ := Prod.mk.inj q2
        have hk := (List.getElem?_eq_some_iff.1 q1).1
        have : 1 + k = i + 1 := Classical.byContradiction fun hne' => nodupB_inj hndL (i + 1) (1 + k) (by omega) (by omega) (fun e => hne' e.symm) e1
        rw [e2]
        have : k = i := by omega
        subst this
        rw [hi] at q1
        cases q1
        rfl
      have hr := h2.root (thF L (i + 1))
      simp only at hr
      rw [hl1] at hr
      rcases hr with e | ⟨u',e1,e2⟩
      · have := (List.all_eq_true.1 hN.n_live) gb (List.mem_of_getElem? hi)
        cases gb <;> simp [GB.ren,GB.lives] at e this
      · rw [hpin (i + 1) (by omega) (by omega)] at e1
        refine .inr ⟨u',e1,?_⟩
        show RepG w2 S1 ρy gb u' (if i + 1 = 0 then F0 else F1 (thF L (i + 1)))
        rw [if_neg (by omega)]
        have e3 : RepG w2 S1 (fun k => ρ1 (thF L k)) gb u' (F1 (thF L (i + 1))) := RepG.ren.1 e2
        have hz := renL_get hN.n_z hi
        have e4 : RepG w2 S1 (fun k => ρ1 (thF L (k - 1 + 1))) gb u' (F1 (thF L (i + 1))) := RepG.ren (f := fun k => k - 1 + 1) (ρ := fun k => ρ1 (thF L k)) |>.1 (hz.symm ▸ e3)
        have e5 : RepG w2 S1 (fun k => ρy (k - 1 + 1)) gb u' (F1 (thF L (i + 1))) := RepG.ltE (fun k hk => (hpin (k - 1 + 1) (by omega) (by omega)).symm) e4 (allG_get hN.n_lt hi)
        exact hz ▸ (RepG.ren (f := fun k => k - 1 + 1) (ρ := ρy) |>.2 e5)
  · have hi' : i < HS.length + 1 := hi
    have hk' : k < HS.length + 1 := hk
    have key : ∀ q,q < HS.length + 1 → q ≠ 0 → Foot.dis F0 (F1 (thF L q)) := fun q hq hne b o ⟨i,hi,hb⟩ hb' => h2.dis i (thF L q) (fun e => hi (e ▸ hths q hq hne)) b o hb hb'
    simp only [F']
    by_cases h0 : i = 0
    · rw [if_pos h0,if_neg (by omega)]
      exact key k hk' (by omega)
    · rw [if_neg h0]
      by_cases h1 : k = 0
      · rw [if_pos h1]; exact (key i hi' h0).symm
      · rw [if_neg h1]; exact h2.dis _ _ (nodupB_inj hndL i k (by omega) (by omega) hik)
  · simp only [F']
    split
    · exact fun b o ⟨i,_,hb⟩ hs => h2.disS i b o hb hs.1
    · exact fun b o hb hs => h2.disS _ b o hb hs.1
  · simp only [F']
    split
    · exact fun b o ⟨i,_,hb⟩ => h2.own i b o hb
    · exact h2.own _
  · simp only [F']
    split
    · exact fun b o ⟨i,_,hb⟩ => h2.ex i b o hb
    · exact h2.ex _
theorem yield_ok (hN : RNums g t0 n kq kp θc θp θu cy ys HS) (htm : tm.size = g.n) (htmp : r0.tmps = tm) (hps : ∀ p ∈ r0.params.toList,p < g.n) (hyl : ys.length = r0.params.toList.length)
    (hkx : keysB kq kp n hx = true) (hlx : allH n hx = true) (hrx : renB (gapF kq kp n) hx) (hkx' : keysB kq kp n hx' = true) (hlx' : allH n hx' = true) (hrx' : renB (gapF kq kp n) hx')
    (hr : ∀ (w0 : World) (F0 S0 : Foot) (ρ0 : Env) (r : Loop),GWp P ⟨g.n,w0,F0,S0,kp,ρ0,some l,[]⟩ r0.assign ⟨parT r0.params.toList ys t0,(n,.lp l r) :: (upOf (thF (n :: (θp ++ θu))) 1 HS ++ (deads θc ++ hx)),n + 1⟩
      (qAsg P ⟨g.n,w0,F0,S0,kp,ρ0,some l,[]⟩ r0.body n l r (qRound kp (fun (_ : Unit) => ⟨[],(n,.lp l (busy r)) :: (upOf (thF (n :: (θp ++ θu))) 1 HS ++ (deads θc ++ hx')),n + 1⟩) ((),j)))) :
    DoesW (YC P l) ys (.opq (pk g tm ρs t0 hx n θc θp l (recJ r0 none)) cy :: HS) (.one (.d (.sc (.bool j.isNone)))) (.opq (pk g tm ρs t0 hx' n θc θp l (recJ r0 j)) cy :: HS) := by
  intro vs w S ρy Fy hA hG
  have h0 := hG.roots 0 _ rfl
  rcases h0 with h0 | ⟨v0,hv0,us,hus,ρ,Fr,hP⟩
  · cases h0
  obtain ⟨ρ2,F2,hrel,hfr,hq,hL⟩ := round_in (ps := r0.params.toList) hN htm hps hkx hlx hrx hA hG hus hP hv0
  have hvl : vs.length = r0.params.toList.length := by rw [repA_len hA,hyl]
  have hloop := mapAt_of hP.rcd
  have hrun := run_yield (P := P) (args := vs.toArray) hloop (by simp [recJ]; simpa using hvl)
  have hfold : (((recJ r0 none).params.zip vs.toArray).foldl (fun tmps x => tmps.setIfInBounds x.1 x.2) (recJ r0 none).tmps) = (r0.params.toList.zip vs).foldl (fun tm x => tm.setIfInBounds x.1 x.2) tm := by
    rw [← htmp,← Array.foldl_toList,Array.toList_zip]
    rfl
  refine ⟨_,_,_,_,hrun,roundIn_of_wpIn (F := fen none) trivial ?_⟩
  have hw := (hr w (upTo Fy (HS.length + 1)) S ρ2 (recJ r0 none)).run _ w S ρ2 F2 hrel (fun i hi => hfr i hi)
  rw [← hfold] at hw
  refine wpIn_mono hw ?_
  rintro e a1 w1 ⟨st1,S1,ρ1,F1,hrel1,hf1,hq1⟩
  cases hq1 with
  | go hl hbody =>
    have hlp : mapAt w1 l = some (.loop (recJ r0 none)) := by
      rcases hrel1.root n with e | ⟨u,_,e⟩
      · rw [hl] at e; cases e
      · rw [hl] at e; exact e.1
    have hbeg := run_beginRound (P := P) (mapAt_of hlp) rfl
    refine ⟨_,hbeg,?_⟩
    have hrel1' := hrel1.putLp hl (busy (recJ r0 none))
    refine wpIn_mono (hbody.run a1 _ S1 ρ1 F1 hrel1' hf1) ?_
    rintro e a2 w2 ⟨st2,S2,ρ3,F3,hrel2,hf2,hq2⟩
    have fin : ∀ (θ : List Nat) (jj : Option Code) (s : St),StLe kp θ st2 s → SameSt s ⟨[],(n,.lp l (busy (recJ r0 none))) :: (upOf (thF (n :: (θp ++ θu))) 1 HS ++ (deads θc ++ hx')),n + 1⟩ → jj = j →
        ∃ v w',(Instr.endRound l jj).run P w2 = .ok v w' ∧ ∃ v' S1 ρ' F',Ending.returned v = .returned v' ∧ Ret w w' S S1 ρy ρ' Fy F' (HS.length + 1) (.opq (pk g tm ρs t0 hx' n θc θp l (recJ r0 j)) cy :: HS) ∧ RepS w' (S.or S1) ρ' (.one (.d (.sc (.bool j.isNone)))) v' := by
      rintro θ jj s hle hss rfl
      obtain ⟨ρ4,F4,hrel4',hf4⟩ := hle.rel hrel2
      have hrel4 := hss.rel hrel4'
      have hlp4 : mapAt w2 l = some (.loop (busy (recJ r0 none))) := by
        have := hrel4.root n
        simp only [lkG,Nat.beq_refl,cond_true] at this
        rcases this with e | ⟨u,_,e⟩
        · cases e
        · exact e.1
      obtain ⟨S5,ρ5,F5,hret,_⟩ := round_out (rj := recJ r0 jj) hN hkx' hlx' hrx' hG hus hP hv0 hq hL hrel4 (fun i hi => hf4 i (by rw [hss.n]; exact hi)) v0
      exact ⟨_,_,run_endRound jj (mapAt_of hlp4),_,S5,ρ5,F5,rfl,hret,rfl,rfl⟩
    cases hq2 with
    | next θ hx hl hs => exact fin θ none _ hl hs hx.symm
    | ret θ hx hl hs => exact fin θ (some .ret) _ hl hs hx.symm
    | exit θ hx hl hs => exact fin θ (some (.exit _)) _ hl hs hx.symm
end
end Go.Proofs.YtegpggobfdcafaaGreat
end
section
set_option linter.unusedVariables false
set_option linter.unusedSimpArgs false
namespace Go.Proofs.YtegpggobfdcafaaGreat
open Go Foot
theorem dfs_lt {lo : Nat} {w : World} {S : Foot} {F : Nat → Foot} : ∀ {df ds : List Deferred},Dfs lo w S F df ds → (∀ r,mkd r ∈ df → r < w.heap.size) → ∀ r,mkd r ∈ ds → r < w.heap.size
  | df,[],_,_,r,h => by simp at h
  | df,d :: ds,h,hd,r,hm => by
    simp only [Dfs] at h
    rcases h with ⟨r',e,m,h3,h4⟩ | ⟨df',e,h3,h4⟩
    · rcases List.mem_cons.1 hm with e' | hm
      · rw [e] at e'
        have : r = r' := by
          have := congrArg (fun d => d.target) e'
          simp only [mkd] at this
          cases this; rfl
        subst this
        have := mapAt_of m.at_
        exact (Array.getElem?_eq_some_iff.1 this).1
      · exact dfs_lt h4 hd r hm
    · rcases List.mem_cons.1 hm with e' | hm
      · exact absurd e'.symm (h3 r)
      · exact dfs_lt h4 (fun r hr => hd r (by rw [e]; exact List.mem_cons_of_mem _ hr)) r hm
theorem lkG_sel {h : List (Nat × GB)} : ∀ {θ : List Nat} {i : Nat},(i ∈ θ → lkG (θ.map fun k => (k,lkG h k)) i = lkG h i) ∧ (i ∉ θ → lkG (θ.map fun k => (k,lkG h k)) i = .dead)
  | [],i => ⟨fun h => by simp at h,fun _ => rfl⟩
  | k :: θ,i => by
    simp only [List.map_cons,lkG]
    by_cases hik : i = k
    · subst hik
      simp
    · simp only [beq_ne hik,cond_false,List.mem_cons,hik,false_or]
      exact lkG_sel
theorem us_of {θ : List Nat} {ρ : Env} (h : ∀ i ∈ θ,∃ u,ρ i = some u) : ∃ us : List Value,θ.map ρ = us.map some := by
  induction θ with
  | nil => exact ⟨[],rfl⟩
  | cons i θ ih =>
    obtain ⟨us,e⟩ := ih fun j hj => h j (by simp [hj])
    obtain ⟨u,e'⟩ := h i (by simp)
    exact ⟨u :: us,by simp [e,e']⟩
section
variable {P : Program} {g : Gh}
theorem range_in {a : Act} {w : World} {S : Foot} {ρ : Env} {F : Nat → Foot} {t0 : List (Nat × SV)} {hx : List (Nat × GB)} {n kq : Nat} {θc θp : List Nat} {r0 : Loop} (h : Rel g ⟨t0,hx,n⟩ a w S ρ F) (hf : ∀ i,n ≤ i → ρ i = none) (hkq : g.k ≤ kq) (hqn : kq ≤ n) (hc : ∀ i ∈ θc,i < kq) (hp : ∀ i ∈ θp,i ∈ θc) (hl : ∀ i ∈ θc,∃ u,ρ i = some u) (hdf : g.df = []) :
    ∃ ρI FI,Rel g ⟨t0,(n,.opq (pk g a.tmps ρ t0 hx n θc θp (w.heap.size + 1) r0) θp) :: (θc.map fun k => (k,lkG hx k)),n + 1⟩ { a with defers := [mkd w.heap.size] ++ a.defers } ((w.alloc (.deferred (some []))).alloc (.loop r0)) S ρI FI ∧ (∀ i,n + 1 ≤ i → ρI i = none) ∧ (∀ i,i ≠ n → ρI i = ρ i) := by
  let w1 := (w.alloc (.deferred (some []))).alloc (.loop r0)
  let l := w.heap.size + 1
  have hsz : w1.heap.size = w.heap.size + 2 := by simp [w1]
  have hk : Keeps no w w1 := (keeps_alloc _).trans (keeps_alloc _) (no_le _)
  have hml : mapAt w1 l = some (.loop r0) := by
    have := World.alloc_heap_new (w.alloc (.deferred (some []))) (.loop r0)
    have e : (w.alloc (.deferred (some []))).heap.size = l := by simp [l]
    rw [e] at this
    unfold mapAt
    rw [this]
  have hmr : mapAt w1 w.heap.size = some (.deferred (some [])) := by
    have h1 := World.alloc_heap_new w (.deferred (some []))
    have h2 := (keeps_alloc (w := w.alloc (.deferred (some []))) (.loop r0)).block w.heap.size (by simp) (fun _ h => h)
    unfold mapAt
    rw [h2,h1]
  have hagS : Agree w w1 S := hk.agree h.exS (dis_no _)
  have hagF : ∀ i,Agree w w1 (F i) := fun i => hk.agree (h.ex i) (dis_no _)
  let ρI : Env := fun i => if i = n then some undef else ρ i
  have hle : Env.le ρ ρI := fun i u hu => by
    have : i ≠ n := fun e => by rw [e,hf n (Nat.le_refl _)] at hu; cases hu
    simp only [ρI,if_neg this]; exact hu
  let FU : Foot := fun b o => (∃ k,k ∉ θc ∧ F k b o) ∨ b = l
  let FI : Nat → Foot := fun i => if i = n then FU else if i ∈ θc then F i else no
  have hlS : ∀ o,¬ S l o := fun o hs => by have := h.exS l o hs; omega
  have hlF : ∀ i o,¬ F i l o := fun i o hs => by have := h.ex i l o hs; omega
  have hlpS : ∀ i ∈ θc,i ≠ n := fun i hi => by have := hc i hi; omega
  obtain ⟨us,hus⟩ := us_of (θ := θp) (ρ := ρ) fun i hi => hl i (hp i hi)
  have hlo := h.old.size
  refine ⟨ρI,FI,⟨h.size,?_,fun i => (h.slot i).keep hagS (le_refl _) hle,fun i => ?_,fun i j hij => ?_,fun i => ?_,fun i => ?_,fun i b o hb => ?_,fun b o hb => ?_,h.old.trans hk (no_le _),h.inS,h.newS,fun i u hi hu => ?_,h.tab.keep hagS (le_refl _),n + 1,fun i hi => ?_⟩,fun i hi => ?_,fun i hi => ?_⟩
  · simp only [List.singleton_append,Dfs]
    refine .inl ⟨w.heap.size,rfl,⟨hmr,fun i o hb => ?_,fun o hs => by have := h.exS _ o hs; omega,hlo⟩,fun e he e' => ?_,h.defers.keep fun r hr m => ?_⟩
    · simp only [FI] at hb
      split at hb
      · rcases hb with ⟨k,_,hb⟩ | hb
        · have := h.ex k _ o hb; omega
        · omega
      · split at hb
        · have := h.ex i _ o hb; omega
        · exact hb.elim
    · subst e'
      have := dfs_lt h.defers (by rw [hdf]; intro r hr; simp at hr) _ he
      omega
    · have hrlt := dfs_lt h.defers (by rw [hdf]; intro r hr; simp at hr) _ hr
      refine ⟨?_,fun i o hb => ?_,m.S,m.lo⟩
      · rw [← m.at_]
        unfold mapAt
        rw [hk.block r hrlt (fun _ h => h)]
      · simp only [FI] at hb
        split at hb
        · rcases hb with ⟨k,_,hb⟩ | hb
          · exact m.F k o hb
          · omega
        · split at hb
          · exact m.F i o hb
          · exact hb.elim
  · simp only [lkG]
    by_cases hin : i = n
    · subst hin
      simp only [Nat.beq_refl,cond_true]
      refine .inr ⟨undef,by simp only [ρI,if_true],us,?_,ρ,fun i => if i ∈ θc then no else F i,?_⟩
      · rw [← hus]
        exact List.map_congr_left fun k hk => by simp only [ρI,if_neg (hlpS k (hp k hk))]
      refine ⟨fun i => (h.slot i).keep hagS (le_refl _) (Env.le.refl _),fun k hk => ?_,fun k m hkm => ?_,fun k => ?_,fun k hk => if_pos hk,fun k o hb => ?_,hml,fun o => ?_,hus,fun k hk => ?_,h.pin,hf⟩
      · refine (h.root k).imp id fun ⟨u,h1,h2⟩ => ⟨u,h1,?_⟩
        rw [if_neg hk]
        exact h2.keep (hagF k) hagS (le_refl _) (Env.le.refl _) (le_refl _)
      · split
        · exact no_dis _
        · split
          · exact dis_no _
          · exact h.dis k m hkm
      · split
        · exact no_le _
        · rename_i hk
          simp only [FI,if_true]
          exact fun b o hb => .inl ⟨k,hk,hb⟩
      · split at hb
        · exact hb
        · exact hlF k o hb
      · simp only [FI,if_true]; exact .inr rfl
      · obtain ⟨u,hu⟩ := hl k hk
        exact ⟨u,hu,hu⟩
    · simp only [beq_ne hin,cond_false]
      by_cases hic : i ∈ θc
      · rw [lkG_sel.1 hic]
        refine (h.root i).imp id fun ⟨u,h1,h2⟩ => ⟨u,hle i u h1,?_⟩
        have : FI i = F i := by simp only [FI,if_neg hin,if_pos hic]
        rw [this]
        exact h2.keep (hagF i) hagS (le_refl _) hle (le_refl _)
      · rw [lkG_sel.2 hic]; exact .inl rfl
  · have key : ∀ k,k ∈ θc → Foot.dis FU (F k) := fun k hk b o hb hb' => by
      rcases hb with ⟨m,hm,hb⟩ | rfl
      · exact h.dis m k (fun e => hm (e ▸ hk)) b o hb hb'
      · exact hlF k o hb'
    simp only [FI]
    by_cases h1 : i = n
    · rw [if_pos h1,if_neg (by omega)]
      split
      · rename_i hj; exact key j hj
      · exact dis_no _
    · rw [if_neg h1]
      by_cases h2 : j = n
      · rw [if_pos h2]
        split
        · rename_i hi; exact (key i hi).symm
        · exact no_dis _
      · rw [if_neg h2]
        split
        · split
          · exact h.dis i j hij
          · exact dis_no _
        · exact no_dis _
  · simp only [FI]
    split
    · rintro b o (⟨k,_,hb⟩ | rfl) hs
      · exact h.disS k b o hb hs
      · exact hlS o hs
    · split
      · exact h.disS i
      · exact no_dis _
  · simp only [FI]
    split
    · rintro b o (⟨k,_,hb⟩ | rfl)
      · exact h.own k b o hb
      · exact .inr (by show g.w0.heap.size ≤ l; omega)
    · split
      · exact h.own i
      · exact no_le _
  · show b < w1.heap.size
    rw [hsz]
    simp only [FI] at hb
    split at hb
    · rcases hb with ⟨k,_,hb⟩ | rfl
      · have := h.ex k b o hb; omega
      · omega
    · split at hb
      · have := h.ex i b o hb; omega
      · exact hb.elim
  · show b < w1.heap.size
    rw [hsz]
    have := h.exS b o hb; omega
  · simp only [ρI,if_neg (show i ≠ n by omega)]
    exact h.pin i u hi hu
  · simp only [ρI,if_neg (show i ≠ n by omega)]
    exact hf i (by omega)
  · simp only [ρI,if_neg (show i ≠ n by omega)]
    exact hf i (by omega)
  · simp only [ρI,if_neg hi]
theorem range_out {a : Act} {w : World} {S : Foot} {ρs ρ : Env} {F : Nat → Foot} {t0 : List (Nat × SV)} {hx hr : List (Nat × GB)} {n n' kq kp l : Nat} {θc θp : List Nat} {r1 : Loop} {H' : List GB} {tI : List (Nat × SV)}
    (h : Rel g ⟨tI,(n,.opq (pk g a.tmps ρs t0 hx n θc θp l r1) θp) :: (upOf (calF (n :: θc) (n + 1)) 1 H' ++ hr),n'⟩ a w S ρ F) (hkq : g.k ≤ kq) (hqn : kq ≤ n) (hc : ∀ i ∈ θc,i < kq) (ht : allT kq t0 = true) (hkx : keysB kq kp n hx = true) (hlx : allH n hx = true) (hlH : allG (H'.length + 1) H' = true) (hlen : θc.length ≤ H'.length) (hρ : ∀ i ∈ θc,∀ u,ρs i = some u → ρ i = some u)
    (r2 : Loop) : mapAt w l = some (.loop r1) ∧ ∃ ρF FF,Rel g ⟨t0,upOf (calF (n :: θc) (n + 1)) 1 H' ++ (deads θc ++ hx),n'⟩ a (w.putObj l (.loop r2)) S ρF FF ∧ ∀ i,n ≤ i → ρF i = ρ i := by
  have h0 := h.root n
  simp only [lkG,Nat.beq_refl,cond_true] at h0
  rcases h0 with h0 | ⟨v0,hv0,us,hus,ρ3,Fr,hP⟩
  · cases h0
  refine ⟨hP.rcd,?_⟩
  have hk := keeps_ob (w := w) (b := l) (ob := .loop r2) (by rw [hP.rcd]; rfl)
  have hagS : Agree w (w.putObj l (.loop r2)) S := hk.agree h.exS fun b o hb e => by subst e; exact h.disS n _ o (hP.hasl o) hb
  have hagF : ∀ j,j ≠ n → Agree w (w.putObj l (.loop r2)) (F j) := fun j hj => hk.agree (h.ex j) fun b o hb e => by subst e; exact h.dis j n hj _ o hb (hP.hasl o)
  have hagR : ∀ j,Agree w (w.putObj l (.loop r2)) (Fr j) := fun j => hk.agree (fun b o hb => h.ex n b o (hP.le j b o hb)) fun b o hb e => by subst e; exact hP.notl j o hb
  let ρF : Env := fun i => if i < n then ρ3 i else ρ i
  let FF : Nat → Foot := fun i => if i ∈ θc ∨ n < i then F i else if i = n then no else Fr i
  have hρθ : ∀ i ∈ θc,ρF i = ρ i := fun i hi => by
    have := hc i hi
    obtain ⟨u,e1,e2⟩ := hP.val i hi
    simp only [ρF,if_pos (show i < n by omega),e2,hρ i hi u e1]
  have hcal : ∀ i,i < H'.length + 1 → ρF (calF (n :: θc) (n + 1) i) = ρ (calF (n :: θc) (n + 1) i) := fun i hi => by
    rw [calF_eq]
    cases hb : Nat.blt i (n :: θc).length with
    | true =>
      simp only [cond_true]
      have hi' := blt_lt hb
      have : thF (n :: θc) i ∈ n :: θc := by simp only [thF,List.getD_eq_getElem?_getD,List.getElem?_eq_getElem hi',Option.getD_some]; exact List.getElem_mem _
      rcases List.mem_cons.1 this with e | e
      · rw [e]; simp only [ρF,if_neg (show ¬ n < n by omega)]
      · exact hρθ _ e
    | false =>
      simp only [cond_false,ρF,if_neg (show ¬ n + 1 + (i - (n :: θc).length) < n by omega)]
  have hg : ∀ i,FF i = F i ∧ (i ∈ θc ∨ n < i) ∨ le (FF i) (F n) ∧ (FF i = no ∨ FF i = Fr i) ∧ ¬ (i ∈ θc ∨ n < i) := fun i => by
    simp only [FF]
    split
    · rename_i h; exact .inl ⟨rfl,h⟩
    · rename_i hn
      refine .inr ⟨?_,?_,hn⟩
      · split
        · exact no_le _
        · exact hP.le i
      · split
        · exact .inl rfl
        · exact .inr rfl
  have hlen' := hlen
  refine ⟨ρF,FF,⟨h.size,?_,fun i => ?_,fun i => ?_,fun i k hik => ?_,fun i => ?_,fun i => ?_,fun i b o hb => ?_,fun b o hb => by simpa using h.exS b o hb,h.old.trans hk (fun b o e => by subst e; exact h.own n _ o (hP.hasl o)),h.inS,h.newS,fun i u hi hu => ?_,h.tab.keep hagS (le_refl _),(fun ⟨N,hN⟩ => ⟨max N n,fun i hi => (if_neg (by omega)).trans (hN i (by omega))⟩) h.fin⟩,fun i hi => if_neg (by omega)⟩
  · refine Dfs.keep (F := F) h.defers fun r hr m => ?_
    have hne : r ≠ l := fun e => m.F n 0 (e ▸ hP.hasl 0)
    refine ⟨by rw [← m.at_]; simp [mapAt,World.putObj_heap_other hne],fun i o hb => ?_,m.S,m.lo⟩
    rcases hg i with ⟨e,_⟩ | ⟨e,_⟩
    · rw [e] at hb; exact m.F i o hb
    · exact m.F n o (e r o hb)
  · exact (RepS.ltE (ρ' := ρF) (fun i hi => if_pos (by omega)) (hP.slot i) (allT_lk ht i)).keep hagS (le_refl _) (Env.le.refl _)
  · show lkG (upOf (calF (n :: θc) (n + 1)) 1 H' ++ (deads θc ++ hx)) i = .dead ∨ _
    by_cases hki : keyIn (upOf (calF (n :: θc) (n + 1)) 1 H') i
    · have hm1 := lkG_key _ (deads θc ++ hx) i hki
      have hm2 := lkG_key _ hr i hki
      obtain ⟨k,gb,q1,q2⟩ := upOf_mem hm1
      obtain ⟨e1,e2⟩ := Prod.mk.inj q2
      have hk1 := (List.getElem?_eq_some_iff.1 q1).1
      have hcls : i ∈ θc ∨ n < i := by
        rw [e1,calF_eq]
        cases hb : Nat.blt (1 + k) (n :: θc).length with
        | true =>
          simp only [cond_true]
          have hi' := blt_lt hb
          left
          have : thF (n :: θc) (1 + k) = thF θc k := by rw [Nat.add_comm]; rfl
          rw [this]
          simp only [List.length_cons] at hi'
          simp only [thF,List.getD_eq_getElem?_getD,List.getElem?_eq_getElem (show k < θc.length by omega),Option.getD_some]
          exact List.getElem_mem _
        | false => simp only [cond_false]; right; omega
      have hin : i ≠ n := by
        rcases hcls with h' | h'
        · have := hc i h'; omega
        · omega
      have hlk : lkG ((n,.opq (pk g a.tmps ρs t0 hx n θc θp l r1) θp) :: (upOf (calF (n :: θc) (n + 1)) 1 H' ++ hr)) i = lkG (upOf (calF (n :: θc) (n + 1)) 1 H' ++ (deads θc ++ hx)) i := by
        simp only [lkG,beq_ne hin,cond_false]
        have : ∀ (up x y : List (Nat × GB)),keyIn up i → lkG (up ++ x) i = lkG (up ++ y) i := by
          intro up
          induction up with
          | nil => intro x y ⟨gb,hm⟩; simp at hm
          | cons z up ih =>
            intro x y ⟨gb,hm⟩
            obtain ⟨j,gz⟩ := z
            simp only [List.cons_append,lkG]
            by_cases hij : i = j
            · subst hij; simp
            · simp only [beq_ne hij,cond_false]
              refine ih x y ⟨gb,?_⟩
              rcases List.mem_cons.1 hm with e | hm
              · exact absurd (Prod.mk.inj e).1 hij
              · exact hm
        exact this _ _ _ hki
      have hroot := h.root i
      simp only at hroot
      rw [hlk,e2] at hroot
      rw [e2]
      refine hroot.imp id fun ⟨u,r1,r2⟩ => ⟨u,?_,?_⟩
      · rw [e1,hcal _ (by omega),← e1]; exact r1
      · have hFF : FF i = F i := by simp only [FF,if_pos hcls]
        rw [hFF]
        have r3 := RepG.ren.1 r2
        have r4 : RepG w S (fun k => ρF (calF (n :: θc) (n + 1) k)) gb u (F i) := RepG.ltE (fun j hj => hcal j hj) r3 (allG_get hlH q1)
        exact (RepG.ren.2 r4).keep (hagF i hin) hagS (le_refl _) (Env.le.refl _) (le_refl _)
    · rw [lkG_append _ _ _ hki]
      by_cases hic : i ∈ θc
      · rw [lkG_deads hic]; exact .inl rfl
      rw [lkG_deads' hic]
      rcases keysB_lk (i := i) hkx with e | ⟨hin,_⟩
      · exact .inl e
      refine (hP.root i hic).imp id fun ⟨u,r1,r2⟩ => ⟨u,by simp only [ρF,if_pos hin]; exact r1,?_⟩
      have hFF : FF i = Fr i := by simp only [FF,if_neg (show ¬ (i ∈ θc ∨ n < i) from fun h => h.elim hic (by omega)),if_neg (show i ≠ n by omega)]
      rw [hFF]
      exact (RepG.ltE (ρ' := ρF) (fun j hj => if_pos hj) r2 (allH_lk hlx i)).keep (hagR i) hagS (le_refl _) (Env.le.refl _) (le_refl _)
  · rcases hg i with ⟨e1,q1⟩ | ⟨e1,q1,z1⟩ <;> rcases hg k with ⟨e2,q2⟩ | ⟨e2,q2,z2⟩
    · rw [e1,e2]; exact h.dis i k hik
    · rw [e1]
      have hin : i ≠ n := by
        rcases q1 with h' | h'
        · have := hc i h'; omega
        · omega
      exact (h.dis i n hin).le (le_refl _) e2
    · rw [e2]
      have hkn : k ≠ n := by
        rcases q2 with h' | h'
        · have := hc k h'; omega
        · omega
      exact (h.dis n k (Ne.symm hkn)).le e1 (le_refl _)
    · rcases q1 with q1 | q1
      · rw [q1]; exact no_dis _
      · rcases q2 with q2 | q2
        · rw [q2]; exact dis_no _
        · rw [q1,q2]; exact hP.dis i k hik
  · rcases hg i with ⟨e,_⟩ | ⟨e,_⟩
    · rw [e]; exact h.disS i
    · exact (h.disS n).le e (le_refl _)
  · rcases hg i with ⟨e,_⟩ | ⟨e,_⟩
    · rw [e]; exact h.own i
    · exact e.trans (h.own n)
  · have : b < w.heap.size := by
      rcases hg i with ⟨e,_⟩ | ⟨e,_⟩
      · rw [e] at hb; exact h.ex i b o hb
      · exact h.ex n b o (e b o hb)
    simpa using this
  · simp only [ρF,if_pos (show i < n by omega)]
    exact hP.pin i u hi hu
end
end Go.Proofs.YtegpggobfdcafaaGreat
end
section
set_option linter.unusedVariables false
set_option linter.unusedSimpArgs false
namespace Go.Proofs.YtegpggobfdcafaaGreat
open Go Foot
theorem rootsEq_at {f : Nat → Nat} {st : St} : ∀ {H : List GB} {k : Nat},(∀ i gb,H[i]? = some gb → lkG st.h (f (k + i)) = gb.ren f ∧ GB.lives gb = true) → rootsEq f st k H
  | [],_,_ => trivial
  | gb :: l,k,h => ⟨by simpa using h 0 gb (by simp),rootsEq_at fun i gb' hi => by
      have := h (i + 1) gb' (by simpa using hi)
      rwa [show k + (i + 1) = k + 1 + i by omega] at this⟩
theorem lkG_app (A : List (Nat × GB)) {x y : List (Nat × GB)} (h : ∀ i,lkG x i = lkG y i) (i : Nat) : lkG (A ++ x) i = lkG (A ++ y) i := by
  induction A with
  | nil => exact h i
  | cons z A ih =>
    obtain ⟨j,gb⟩ := z
    simp only [List.cons_append,lkG,ih]
theorem lkG_out {hE h0 : List (Nat × GB)} {i : Nat} (h : ∀ x ∈ hE,x.1 ≠ i) : lkG (hE ++ h0) i = lkG h0 i := by
  refine lkG_append _ _ _ fun ⟨gb,hm⟩ => h _ hm rfl
theorem lkG_nokey {h : List (Nat × GB)} {i : Nat} (hn : ∀ x ∈ h,x.1 ≠ i) : lkG h i = .dead := by
  induction h with
  | nil => rfl
  | cons z h ih =>
    obtain ⟨j,gb⟩ := z
    have hj := hn (j,gb) (by simp)
    simp only [lkG,beq_ne (Ne.symm hj),cond_false]
    exact ih fun x hx => hn x (by simp [hx])
theorem same_out {θc : List Nat} {hs hE h0 : List (Nat × GB)} (h : hE.all (fun x => θc.any (Nat.beq x.1)) = true) (hno : (hs ++ h0).all (fun x => !(θc.any (Nat.beq x.1))) = true) (i : Nat) : lkG (deads θc ++ (hs ++ (hE ++ h0))) i = lkG (hs ++ h0) i := by
  by_cases hi : i ∈ θc
  · rw [lkG_deads hi,lkG_nokey]
    intro x hx e
    have := (List.all_eq_true.1 hno) x hx
    simp only [Bool.not_eq_true',List.any_eq_false] at this
    exact this i hi (by rw [e]; simp)
  · rw [lkG_deads' hi]
    have e : lkG (hE ++ h0) i = lkG h0 i := lkG_out fun x hx e => hi (by
      have := (List.all_eq_true.1 h) x hx
      rw [List.any_eq_true] at this
      obtain ⟨j,hj,hb⟩ := this
      rw [← e,Nat.eq_of_beq_eq_true hb]; exact hj)
    clear hno
    induction hs with
    | nil => exact e
    | cons z hs ih => obtain ⟨j,gb⟩ := z; simp only [List.cons_append,lkG,ih]
inductive PickR : List Nat → List (Nat × GB) → List (Nat × GB) → Prop where
  | nil {t : List (Nat × GB)} : PickR [] t []
  | row {i z : Nat} {l : List Nat} {xs : List D} {t r : List (Nat × GB)} (e : lkG t i = .row z xs) (h : PickR l t r) : PickR (i :: l) t ((i,.row z xs) :: r)
  | sh {i z : Nat} {l : List Nat} {xs : List D} {t r : List (Nat × GB)} (e : lkG t i = .sh z xs) (h : PickR l t r) : PickR (i :: l) t ((i,.sh z xs) :: r)
  | bx {i : Nat} {l : List Nat} {cs : List C} {t r : List (Nat × GB)} (e : lkG t i = .bx cs) (h : PickR l t r) : PickR (i :: l) t ((i,.bx cs) :: r)
  | mp {i : Nat} {l : List Nat} {kv : List (Value × Value)} {t r : List (Nat × GB)} (e : lkG t i = .mp kv) (h : PickR l t r) : PickR (i :: l) t ((i,.mp kv) :: r)
theorem asle_refl {h : List (Nat × GB)} {ld : List Nat} : ∀ l : List SV,ASLe h ld l l
  | [] => .nil
  | _ :: l => .cons .refl (asle_refl l)
section
variable {P : Program} {g : Gh} {Q : Exit → St → Prop}
theorem g_range {X A : Type} {fo : Operand} {ps : Array Tmp} {assign body : Code} {f : Nat} {c0 : C} {cap : List C} {as1 : List SV} {H H' : List GB} {res : SV}
    (kq kp : Nat) (θc θp θu cH cy : List Nat) (hs : X → List (Nat × GB)) {h1 : List (Nat × GB)} {t0 : List (Nat × SV)} {n : Nat}
    (ya : A → List SV) (HS : A → List GB) (bd : X → A → X × Option Code) (Pre : X → A → Prop) (x0 xe : X) (je : Option Code)
    (hrd : g.rd = none) (hdf : g.df = [])
    (hc : opd ⟨t0,hs x0 ++ h1,n⟩ fo = .one c0) (hv : fnv c0 = some (.func f,cap)) (hE : entB P f = true)
    (ha : cap.map SV.one = as1.map (SV.ren (calF (n :: θc) (n + 1)))) (hH : rootsEq (calF (n :: θc) (n + 1)) ⟨t0,hs x0 ++ h1,n⟩ 1 H)
    (hD : ∀ (l : Nat) (R : X → Option Code → Opq),(∀ x a,Pre x a → DoesW (YC P l) (ya a) (.opq (R x none) cy :: HS a) (.one (.d (.sc (.bool (bd x a).2.isNone)))) (.opq (R (bd x a).1 (bd x a).2) cy :: HS a)) →
      Does P f (.one (.d (.fn (.yield l) [])) :: as1) (.opq (R x0 none) cH :: H) res (.opq (R xe je) cH :: H'))
    (hk : H.length = θc.length) (hk' : Nat.ble θc.length H'.length = true) (hθ : nodupB θc = true) (hcH : cH.all (fun i => Nat.blt i (H.length + 1)) = true) (hcHp : cH.map (calF (n :: θc) (n + 1)) = θp)
    (hlt : ltA (H.length + 1) as1 = true) (hltH : allG (H.length + 1) H = true) (hltr : res.lt (H'.length + 1) = true) (hltH' : allG (H'.length + 1) H' = true)
    (hN : ∀ a,RNums g t0 n kq kp θc θp θu cy (ya a) (HS a)) (hqn : Nat.ble kq n = true) (hkq : Nat.ble g.k kq = true) (htk : allT kq t0 = true) (hck : θc.all (fun i => Nat.blt i kq) = true) (hpk : θp.all (fun i => θc.any (Nat.beq i)) = true)
    (hkx : ∀ x,keysB kq kp n (hs x ++ h1) = true) (hlx : ∀ x,allH n (hs x ++ h1) = true) (hrx : ∀ x,renB (gapF kq kp n) (hs x ++ h1))
    (hps : ps.toList.all (fun p => Nat.blt p g.n) = true) (hyl : ∀ a,(ya a).length = ps.toList.length)
    (hr : ∀ x a,Pre x a → ∀ (l : Nat) (w0 : World) (F0 S0 : Foot) (ρ0 : Env) (r : Loop),GWp P ⟨g.n,w0,F0,S0,kp,ρ0,some l,[]⟩ assign ⟨parT ps.toList (ya a) t0,(n,.lp l r) :: (upOf (thF (n :: (θp ++ θu))) 1 (HS a) ++ (deads θc ++ (hs x ++ h1))),n + 1⟩
      (qAsg P ⟨g.n,w0,F0,S0,kp,ρ0,some l,[]⟩ body n l r (qRound kp (fun (x' : X) => ⟨[],(n,.lp l (busy r)) :: (upOf (thF (n :: (θp ++ θu))) 1 (HS a) ++ (deads θc ++ (hs x' ++ h1))),n + 1⟩) (bd x a))))
    (hend : match je with
      | none => Q .normal ⟨t0,upOf (calF (n :: θc) (n + 1)) 1 H' ++ (deads θc ++ (hs xe ++ h1)),n + 1 + (H'.length - θc.length)⟩
      | some c => GWp P g c ⟨t0,upOf (calF (n :: θc) (n + 1)) 1 H' ++ (deads θc ++ (hs xe ++ h1)),n + 1 + (H'.length - θc.length)⟩ Q) :
    GWp P g (.rangeFunc fo ps assign body) ⟨t0,hs x0 ++ h1,n⟩ Q := by
  refine ⟨fun a w S ρ F hrel hf => ?_⟩
  have hqn' := Nat.le_of_ble_eq_true hqn
  have hkq' := Nat.le_of_ble_eq_true hkq
  have hk'' := Nat.le_of_ble_eq_true hk'
  have hc' : ∀ i ∈ θc,i < kq := fun i hi => blt_lt ((List.all_eq_true.1 hck) i hi)
  have hp' : ∀ i ∈ θp,i ∈ θc := fun i hi => by
    have := (List.all_eq_true.1 hpk) i hi
    rw [List.any_eq_true] at this
    obtain ⟨j,hj,e⟩ := this
    rw [Nat.eq_of_beq_eq_true e]
    exact hj
  have hcal : ∀ i,i < θc.length → calF (n :: θc) (n + 1) (1 + i) = thF θc i := fun i hi => by
    rw [calF_eq]
    have : Nat.blt (1 + i) (n :: θc).length = true := Nat.ble_eq_true_of_le (by simp only [List.length_cons]; omega)
    rw [this,Nat.add_comm]; rfl
  have hthm : ∀ i,i < θc.length → thF θc i ∈ θc := fun i hi => by
    simp only [thF,List.getD_eq_getElem?_getD,List.getElem?_eq_getElem hi,Option.getD_some]; exact List.getElem_mem _
  have hlive : ∀ i ∈ θc,∃ u,ρ i = some u := fun i hi => by
    obtain ⟨q1,q2⟩ := th_idx hi
    have hi' : θc.idxOf i < H.length := by omega
    obtain ⟨e1,e2⟩ := rootsEq_get hH (List.getElem?_eq_getElem hi')
    rw [hcal _ q1,q2] at e1
    rcases hrel.root i with r0 | ⟨u,r1,_⟩
    · simp only at r0 e1
      rw [e1] at r0
      cases hg : H[θc.idxOf i] <;> rw [hg] at r0 e2 <;> simp [GB.ren,GB.lives] at r0 e2
    · exact ⟨u,r1⟩
  refine wpIn_rangeFunc fun fn _ => ?_
  let r0 : Loop := { state := .ready,pending := none,fn,tmps := a.tmps,params := ps,assign,body,defers := w.heap.size }
  let l := w.heap.size + 1
  let a1 : Act := { a with defers := [mkd w.heap.size] ++ a.defers }
  let w1 := (w.alloc (.deferred (some []))).alloc (.loop r0)
  obtain ⟨ρI,FI,hrI,hfI,hρI⟩ := range_in (r0 := r0) (θp := θp) hrel hf hkq' hqn' hc' hp' hlive hdf
  obtain ⟨vs,e1,e2⟩ := fnv_eval (opd_one hrel hc) hv
  have henter : (Instr.enterLoop fn a.tmps ps assign body (fen g.rd).round).run P w = .ok (l,[mkd w.heap.size]) w1 := by
    show (Instr.enterLoop fn a.tmps ps assign body g.rd).run P w = _
    rw [hrd]
    exact run_enterLoop_outer fn a.tmps ps assign body
  have hres : (resolve a.eval (rangeCall fo l) 0).run P w1 = .ok { target := .fn (.func f) vs,args := #[.func (.yield l) #[] #[]] } w1 := by
    have e3 : a.eval (.const (.func (.yield l) #[] #[])) = .func (.yield l) #[] #[] := rfl
    simp [resolve,rangeCall,e1,e3,Deferred.ofValue]
  have hinv : (invoke (.fn (.func f) vs) #[.func (.yield l) #[] #[]]).run P w1 = .ok (.enter f (#[Value.func (.yield l) #[] #[]] ++ vs)) w1 := by
    have := run_callFunc hE (#[Value.func (.yield l) #[] #[]] ++ vs) w1
    rw [← this]
    simp [invoke]
  refine ⟨l,[mkd w.heap.size],w1,_,w1,f,_,w1,henter,hres,fun _ _ => trivial,hinv,fen_depth,calls_in ?_⟩
  -- the call
  let R : X → Option Code → Opq := fun x j => pk g a.tmps ρ t0 (hs x ++ h1) n θc θp l (recJ r0 j)
  have hDoes := hD l R fun x aa hpre => yield_ok (r0 := r0) (hN aa) hrel.size rfl (fun p hp => blt_lt ((List.all_eq_true.1 hps) p hp)) (hyl aa) (hkx x) (hlx x) (hrx x) (hkx (bd x aa).1) (hlx (bd x aa).1) (hrx (bd x aa).1)
    fun w0 F0 S0 ρ0 r => g_mono (hr x aa hpre l w0 F0 S0 ρ0 r) fun e st hq => by
      cases hq with
      | go h1 h2 =>
        refine .go h1 (g_mono h2 fun e st hq => ?_)
        cases hq with
        | next θ hx hl hs => exact .next θ hx hl ⟨hs.t,hs.n,hs.h⟩
        | ret θ hx hl hs => exact .ret θ hx hl ⟨hs.t,hs.n,hs.h⟩
        | exit θ hx hl hs => exact .exit θ hx hl ⟨hs.t,hs.n,hs.h⟩
  have hsel : ∀ i ∈ θc,lkG ((n,GB.opq (R x0 none) θp) :: (θc.map fun k => (k,lkG (hs x0 ++ h1) k))) i = lkG (hs x0 ++ h1) i := fun i hi => by
    have := hc' i hi
    simp only [lkG,beq_ne (show i ≠ n by omega),cond_false]
    exact lkG_sel.1 hi
  have hren : ∀ j : Option Code,∀ x,(GB.opq (R x j) cH).ren (calF (n :: θc) (n + 1)) = .opq (R x j) θp := fun j x => by simp only [GB.ren,hcHp]
  have hA : RepA w1 S ρI (.one (.d (.fn (.yield l) [])) :: cap.map .one) (Value.func (.yield l) #[] #[] :: vs.toList) := by
    refine ⟨_,_,rfl,⟨#[],rfl,rfl⟩,repA_one ?_⟩
    have hk : Keeps no w w1 := (keeps_alloc _).trans (keeps_alloc _) (no_le _)
    exact e2.keep (hk.agree hrel.exS (dis_no _)) (le_refl _) fun i u hu => by
      have : i ≠ n := fun e => by rw [e,hf n (Nat.le_refl _)] at hu; cases hu
      rw [hρI i this]; exact hu
  have hup : ∀ i gb,(i,gb) ∈ upOf (calF (n :: θc) (n + 1)) 0 (.opq (R xe je) cH :: H') → (i ∈ n :: θc ∨ (n + 1 ≤ i ∧ i < n + 1 + (H'.length - θc.length))) := fun i gb hm => by
    obtain ⟨k,gb',q1,q2⟩ := upOf_mem hm
    have hk1 := (List.getElem?_eq_some_iff.1 q1).1
    simp only [List.length_cons] at hk1
    obtain ⟨e1,e2⟩ := Prod.mk.inj q2
    rw [e1,Nat.zero_add,calF_eq]
    cases hb : Nat.blt k (n :: θc).length with
    | true =>
      simp only [cond_true]
      have hi' := blt_lt hb
      left
      simp only [thF,List.getD_eq_getElem?_getD,List.getElem?_eq_getElem hi',Option.getD_some]; exact List.getElem_mem _
    | false =>
      simp only [cond_false]
      have : ¬ k < (n :: θc).length := fun hlt => by
        have : Nat.blt k (n :: θc).length = true := Nat.ble_eq_true_of_le hlt
        rw [this] at hb; cases hb
      simp only [List.length_cons] at this ⊢
      right; omega
  have hcall := call_done (Callee := fun vs w R => Calls P f vs.toArray w R) (m := n + 1) (θ := n :: θc) (ld := []) (args := .one (.d (.fn (.yield l) [])) :: cap.map .one) (fun _ _ _ _ h hr => Calls.mono h hr) hDoes
    (.cons .refl (ha ▸ asle_refl _))
    ⟨⟨by
      rw [hren]
      simp only [calF,lkG,Nat.beq_refl,cond_true]
      rfl,rfl⟩,rootsEq_at fun i gb hi => by
        obtain ⟨e1,e2⟩ := rootsEq_get hH hi
        have hil : i < θc.length := by rw [← hk]; exact (List.getElem?_eq_some_iff.1 hi).1
        have hm : calF (n :: θc) (n + 1) (1 + i) ∈ θc := by rw [hcal i hil]; exact hthm i hil
        rw [show 0 + 1 + i = 1 + i by omega]
        refine ⟨?_,e2⟩
        rw [← e1]
        exact hsel _ hm⟩
    (by simp [hk]) (by
      simp only [nodupB,Bool.and_eq_true,Bool.not_eq_true',List.any_eq_false]
      refine ⟨fun i hi e => ?_,hθ⟩
      have := hc' i hi
      have := Nat.eq_of_beq_eq_true e
      omega) (by
      simp only [List.all_cons,Bool.and_eq_true,List.all_eq_true]
      refine ⟨Nat.ble_eq_true_of_le (Nat.le_refl _),fun i hi => Nat.ble_eq_true_of_le ?_⟩
      have := hc' i hi
      show i + 1 ≤ n + 1
      omega) rfl (.inl rfl)
    (by simp only [ltA,Bool.and_eq_true]; exact ⟨rfl,hlt⟩) (by simp only [allG,Bool.and_eq_true]; exact ⟨hcH,hltH⟩) hltr (by
      simp only [allG,Bool.and_eq_true]
      refine ⟨?_,hltH'⟩
      refine List.all_eq_true.2 fun i hi => ?_
      have := blt_lt ((List.all_eq_true.1 hcH) i hi)
      exact Nat.ble_eq_true_of_le (by simp only [List.length_cons]; omega)) rfl rfl hrI
    (fun x hx => by
      rcases hup x.1 x.2 hx with h | h
      · exact .inl h
      · exact .inr (hfI _ h.1)) hA
  rw [show (#[Value.func (.yield l) #[] #[]] ++ vs) = (Value.func (.yield l) #[] #[] :: vs.toList).toArray by simp]
  refine Calls.mono hcall ?_
  rintro e w' ⟨v,S1,ρ',F',rfl,hdone,_⟩
  have hrD := Rel.done hrI hdone (n := n + 1 + (H'.length - θc.length)) (dst := none) (v := v) (sv := .any) (fun _ h => by cases h) trivial
  have hrD' : Rel g ⟨t0,(n,.opq (pk g a.tmps ρ t0 (hs xe ++ h1) n θc θp l (recJ r0 je)) θp) :: (upOf (calF (n :: θc) (n + 1)) 1 H' ++ ((n,GB.opq (R x0 none) θp) :: (θc.map fun k => (k,lkG (hs x0 ++ h1) k)))),n + 1 + (H'.length - θc.length)⟩ a1 w' (S.or S1) ρ' (mrg FI F' (upOf (calF (n :: θc) (n + 1)) 0 (.opq (R xe je) cH :: H'))) := by
    have e : upOf (calF (n :: θc) (n + 1)) 0 (.opq (R xe je) cH :: H') = (n,.opq (R xe je) θp) :: upOf (calF (n :: θc) (n + 1)) 1 H' := by
      simp only [upOf,hren]
      rfl
    rw [e] at hrD ⊢
    exact hrD
  obtain ⟨hml,ρF,FF,hF,hFρ⟩ := range_out (a := a1) (kq := kq) (kp := kp) (r2 := { recJ r0 je with state := .exhausted }) hrD' hkq' hqn' hc' htk (hkx xe) (hlx xe) hltH' hk'' (fun i hi u hu => hdone.sub i u (by
    have := hc' i hi
    rw [hρI i (by omega)]; exact hu))
  have hfF : ∀ i,n + 1 + (H'.length - θc.length) ≤ i → ρF i = none := fun i hi => by
    rw [hFρ i (by omega)]
    refine hdone.dom i (hfI i (by omega)) fun gb hm => ?_
    rcases hup i gb hm with h | h
    · rcases List.mem_cons.1 h with h | h
      · omega
      · have := hc' i h; omega
    · omega
  have hend' := run_endLoop (P := P) (mapAt_of hml) (by simp only [recJ]; split <;> simp)
  refine ⟨_,_,hend',?_⟩
  cases je with
  | none => exact ⟨_,_,_,_,hF,fun i hi => hfF i hi,hend⟩
  | some c => exact hend.run _ _ _ _ _ hF fun i hi => hfF i hi
end
end Go.Proofs.YtegpggobfdcafaaGreat
end
section
set_option linter.unusedVariables false
set_option linter.unusedSimpArgs false
set_option maxRecDepth 100000
namespace Go.Proofs.YtegpggobfdcafaaGreat
open Go Foot
section
variable {g : Gh} {dst : Option Tmp} {ty : TypeId} {pos : String} {after : Array Edge} {guard : Option (Nat × Bool)} {x : Operand} {l : Nat} {c0 : C} {cap : List C} {xs : List Operand} {Ts : Array TypeId} {ags : List SV} {H H' : List GB} {res : SV} {θ : List Nat} {t : List (Nat × SV)} {h : List (Nat × GB)} {n : Nat}
theorem callY (hc : opd ⟨t,h,n⟩ x = .one c0 := by exact rfl) (hv : fnv c0 = some (.yield l,cap) := by exact rfl) (ha : ASLe h [] (xs.map (opd ⟨t,h,n⟩)) (ags.map (SV.ren (calF θ n))) := by (repeat (first | exact ASLe.nil | refine ASLe.cons ?_ ?_ | exact SVLe.refl | refine SVLe.one ?_ | refine SVLe.agg ?_ | exact CsLe.nil | refine CsLe.cons ?_ ?_ | exact CLe.refl | exact CLe.sh rfl | exact CLe.nil (by decide) | refine CLe.fn ?_ | refine CLe.fnD ?_ | refine CLe.ifc ?_ | refine CLe.ifcD ?_)); first | done | fail) (hH : rootsEq (calF θ n) ⟨t,h,n⟩ 0 H := by repeat (first | exact trivial | refine And.intro ?_ ?_ | exact rfl)) (hD : DoesW (YC Tryz.prog l) ags H res H')
    (hk : H.length = θ.length := by exact rfl) (hθ : nodupB θ = true := by exact rfl) (hm : θ.all (fun t => Nat.blt t n) = true := by exact rfl)
    (hlt : ltA H.length ags = true := by exact rfl) (hltH : allG H.length H = true := by exact rfl) (hltr : res.lt H'.length = true := by exact rfl) (hltH' : allG H'.length H' = true := by exact rfl) :
    Acts Tryz.prog g ⟨dst,.call { callee := .value x,args := xs.toArray,argTypes := Ts },ty,pos,after,guard⟩ ⟨t,h,n⟩ (res.ren (calF θ n)) θ (upOf (calF θ n) 0 H') :=
  a_yield (m := n) (ld := []) hD hc hv ha hH hk hθ hm rfl (.inl rfl) hlt hltH hltr hltH' rfl rfl
end
section
variable {g : Gh} {Q : Exit → St → Prop} {t t0 : List (Nat × SV)} {h h0 hE : List (Nat × GB)} {n n1 : Nat}
def thN : List Nat → Nat → Nat
  | [],_ => 0
  | x :: _,0 => x
  | _ :: l,n + 1 => thN l n
theorem thF_eq : thF = thN := by
  funext l
  induction l with
  | nil => funext i; rfl
  | cons x l ih =>
    funext i
    cases i with
    | zero => rfl
    | succ i => exact congrFun ih i
def deadR : List Nat → List (Nat × GB)
  | [] => []
  | i :: l => (i,.dead) :: deadR l
theorem deads_eq : deads = deadR := by
  funext l
  induction l with
  | nil => rfl
  | cons x l ih => simp only [deadR,← ih]; rfl
theorem rangeK {X A : Type} {fo : Operand} {ps : Array Tmp} {assign body : Code} {f : Nat} {c0 : C} {cap : List C} {ags : List SV} {H H' : List GB} {res : SV}
    (live ex : List Nat) (uh : X → List (Nat × GB)) (θ0 : List Nat) (kq kp : Nat) (θc θp θu cH cy : List Nat) (ya : A → List SV) (HS : A → List GB) (bd : X → A → X × Option Code) (Pre : X → A → Prop) (x0 : X) {xe : X} {je : Option Code}
    (hp : Pick live t t0 := by repeat (first | exact Pick.nil | apply Pick.one rfl | apply Pick.agg rfl | apply Pick.tup rfl | apply Pick.any)) (hqE : PickR θc h hE := by repeat (first | exact PickR.nil | apply PickR.bx rfl | apply PickR.row rfl | apply PickR.sh rfl | apply PickR.mp rfl)) (hq : PickH (ex ++ θc) h n1 h0 := by repeat (first | exact PickH.zero | apply PickH.row rfl rfl | apply PickH.sh rfl rfl | apply PickH.bx rfl rfl | apply PickH.mp rfl rfl | apply PickH.lp rfl rfl | apply PickH.bld rfl rfl | apply PickH.opq rfl rfl | apply PickH.out)) (hin : StLe g.k θ0 ⟨t,h,n⟩ ⟨t0,uh x0 ++ (hE ++ h0),n1⟩ := by exact stk)
    (hrd : g.rd = none := by exact rfl) (hdf : g.df = [] := by exact rfl)
    (hc : opd ⟨t0,uh x0 ++ (hE ++ h0),n1⟩ fo = .one c0 := by exact rfl) (hv : fnv c0 = some (.func f,cap) := by exact rfl) (hE' : entB Tryz.prog f = true := by exact fQ rfl)
    (hD : ∀ (l : Nat) (R : X → Option Code → Opq),(∀ x a,Pre x a → DoesW (YC Tryz.prog l) (ya a) (.opq (R x none) cy :: HS a) (.one (.d (.sc (.bool (bd x a).2.isNone)))) (.opq (R (bd x a).1 (bd x a).2) cy :: HS a)) →
      Does Tryz.prog f (.one (.d (.fn (.yield l) [])) :: ags) (.opq (R x0 none) cH :: H) res (.opq (R xe je) cH :: H'))
    (ha : cap.map SV.one = ags.map (SV.ren (calF (n1 :: θc) (n1 + 1))) := by exact rfl) (hH : rootsEq (calF (n1 :: θc) (n1 + 1)) ⟨t0,uh x0 ++ (hE ++ h0),n1⟩ 1 H := by repeat (first | exact trivial | refine And.intro ?_ ?_ | exact rfl))
    (hk : H.length = θc.length := by exact rfl) (hk' : Nat.ble θc.length H'.length = true := by exact rfl) (hθ : nodupB θc = true := by exact rfl) (hcH : cH.all (fun i => Nat.blt i (H.length + 1)) = true := by exact rfl) (hcHp : cH.map (calF (n1 :: θc) (n1 + 1)) = θp := by exact rfl)
    (hlt : ltA (H.length + 1) ags = true := by exact rfl) (hltH : allG (H.length + 1) H = true := by exact rfl) (hltr : res.lt (H'.length + 1) = true := by exact rfl) (hltH' : allG (H'.length + 1) H' = true := by exact rfl)
    (hN : ∀ a,RNums g t0 n1 kq kp θc θp θu cy (ya a) (HS a) := by (intro a; exact ⟨Nat.le_of_ble_eq_true rfl,Nat.le_of_ble_eq_true rfl,Nat.le_of_ble_eq_true rfl,rfl,rfl,rfl,rfl,rfl,rfl,rfl,rfl,rfl,rfl,(by repeat (first | exact trivial | refine And.intro ?_ ?_ | exact rfl)),rfl⟩)) (hqn : Nat.ble kq n1 = true := by exact rfl) (hkq : Nat.ble g.k kq = true := by exact rfl) (htk : allT kq t0 = true := by exact rfl) (hck : θc.all (fun i => Nat.blt i kq) = true := by exact rfl) (hpk : θp.all (fun i => θc.any (Nat.beq i)) = true := by exact rfl)
    (hkx : ∀ x,keysB kq kp n1 (uh x ++ (hE ++ h0)) = true := by (intro x; exact rfl)) (hlx : ∀ x,allH n1 (uh x ++ (hE ++ h0)) = true := by (intro x; exact rfl)) (hrx : ∀ x,renB (gapF kq kp n1) (uh x ++ (hE ++ h0)) := by (intro x; repeat (first | exact trivial | refine And.intro ?_ ?_ | exact rfl)))
    (hno : ∀ x,(uh x ++ h0).all (fun y => !(θc.any (Nat.beq y.1))) = true := by (intro x; exact rfl)) (hEk : hE.all (fun x => θc.any (Nat.beq x.1)) = true := by exact rfl) (hps : ps.toList.all (fun p => Nat.blt p g.n) = true := by exact rfl) (hyl : ∀ a,(ya a).length = ps.toList.length := by (intro a; exact rfl))
    (hr : ∀ x a,Pre x a → ∀ (l : Nat) (w0 : World) (F0 S0 : Foot) (ρ0 : Env) (r : Loop),GWp Tryz.prog ⟨g.n,w0,F0,S0,kp,ρ0,some l,[]⟩ assign ⟨parT ps.toList (ya a) t0,(n1,.lp l r) :: (upOf (thN (n1 :: (θp ++ θu))) 1 (HS a) ++ (uh x ++ h0)),n1 + 1⟩
      (qAsg Tryz.prog ⟨g.n,w0,F0,S0,kp,ρ0,some l,[]⟩ body n1 l r (qRound kp (fun (x' : X) => ⟨[],(n1,.lp l (busy r)) :: (upOf (thN (n1 :: (θp ++ θu))) 1 (HS a) ++ (uh x' ++ h0)),n1 + 1⟩) (bd x a))))
    (hn : je = none → Q .normal ⟨t0,upOf (calF (n1 :: θc) (n1 + 1)) 1 H' ++ (deadR θc ++ (uh xe ++ (hE ++ h0))),n1 + 1 + (H'.length - θc.length)⟩)
    (hs : ∀ c,je = some c → GWp Tryz.prog g c ⟨t0,upOf (calF (n1 :: θc) (n1 + 1)) 1 H' ++ (deadR θc ++ (uh xe ++ (hE ++ h0))),n1 + 1 + (H'.length - θc.length)⟩ Q) :
    GWp Tryz.prog g (.rangeFunc fo ps assign body) ⟨t,h,n⟩ Q := by
  have hS : ∀ (A : List (Nat × GB)) (x : X) (i : Nat),lkG (A ++ (deads θc ++ (uh x ++ (hE ++ h0)))) i = lkG (A ++ (uh x ++ h0)) i := fun A x i => lkG_app A (same_out hEk (hno x)) i
  refine g_le hin (g_range kq kp θc θp θu cH cy uh ya HS bd Pre x0 xe je hrd hdf hc hv hE' ha hH hD hk hk' hθ hcH hcHp hlt hltH hltr hltH' hN hqn hkq htk hck hpk hkx hlx hrx hps hyl (fun x a hp l w0 F0 S0 ρ0 r => ?_) ?_)
  · have := hr x a hp l w0 F0 S0 ρ0 r
    rw [← thF_eq] at this
    have hw := g_mono (Q' := qAsg Tryz.prog ⟨g.n,w0,F0,S0,kp,ρ0,some l,[]⟩ body n1 l r (qRound kp (fun (x' : X) => ⟨[],(n1,.lp l (busy r)) :: (upOf (thF (n1 :: (θp ++ θu))) 1 (HS a) ++ (deads θc ++ (uh x' ++ (hE ++ h0)))),n1 + 1⟩) (bd x a))) this fun e st hq => by
      cases hq with
      | go h1 h2 => exact .go h1 (g_mono h2 fun e st hq => hq.same fun x' => ⟨rfl,rfl,fun i => (hS ((n1,.lp l (busy r)) :: upOf (thF (n1 :: (θp ++ θu))) 1 (HS a)) x' i).symm⟩)
    refine g_same ?_ hw
    exact ⟨rfl,rfl,fun i => hS ((n1,.lp l r) :: upOf (thF (n1 :: (θp ++ θu))) 1 (HS a)) x i⟩
  · rw [← deads_eq] at hn hs
    cases je with
    | none => exact hn rfl
    | some c => exact hs c rfl
theorem q_next {X : Type} {kp : Nat} {T : X → St} {xb : X × Option Code} {st : St} (x : X) (θ : List Nat) (hl : StLe kp θ st (T x)) (hx : xb = (x,none)) : qRound kp T xb .normal st := by subst hx; exact .next θ rfl hl ⟨rfl,rfl,fun _ => rfl⟩
theorem q_ret {X : Type} {kp : Nat} {T : X → St} {xb : X × Option Code} {st : St} (x : X) (θ : List Nat) (hl : StLe kp θ st (T x)) (hx : xb = (x,some .ret)) : qRound kp T xb .ret st := by subst hx; exact .ret θ rfl hl ⟨rfl,rfl,fun _ => rfl⟩
theorem q_exit {X : Type} {kp id : Nat} {T : X → St} {xb : X × Option Code} {st : St} (x : X) (θ : List Nat) (hl : StLe kp θ st (T x)) (hx : xb = (x,some (.exit id))) : qRound kp T xb (.exit id) st := by subst hx; exact .exit θ rfl hl ⟨rfl,rfl,fun _ => rfl⟩
end
end Go.Proofs.YtegpggobfdcafaaGreat
end
section
set_option linter.unusedVariables false
set_option linter.unusedSimpArgs false
set_option maxRecDepth 100000
set_option maxHeartbeats 4000000
namespace Go.Proofs.YtegpggobfdcafaaGreat
open Go Foot
structure ItOut (X : Type) where
  x : X
  j : Option Code
  c : Conf
def itSteps {X : Type} (m : Mach) (bd : X → Conf × Int × Bool → X × Option Code) : Nat → Int → Conf → X → ItOut X
  | k,n,c,x =>
    if (bd x (c,n,true)).2.isSome then ⟨(bd x (c,n,true)).1,(bd x (c,n,true)).2,c⟩ else
    if ruAt m c = noR then ⟨(bd x (c,n,true)).1,none,c⟩ else
    match k with
    | 0 => ⟨(bd x (c,n,true)).1,none,c⟩
    | k + 1 =>
      if roomS (stepS (ruAt m c) c) then itSteps m bd k (n + 1) (stepS (ruAt m c) c) (bd x (c,n,true)).1
      else ⟨(bd (bd x (c,n,true)).1 (stepS (ruAt m c) c,n + 1,false)).1,(bd (bd x (c,n,true)).1 (stepS (ruAt m c) c,n + 1,false)).2,stepS (ruAt m c) c⟩
section
variable {X : Type} {m : Mach} {bd : X → Conf × Int × Bool → X × Option Code} {b n : Int} {c : Conf} {x : X} {O : ItOut X} {k : Nat}
theorem it_out (h : (bd x (c,n,true)).2.isNone = false) (hO : itSteps m bd k n c x = O) : O = ⟨(bd x (c,n,true)).1,(bd x (c,n,true)).2,c⟩ := by
  rw [← hO]; unfold itSteps; rw [if_pos (by cases hh : (bd x (c,n,true)).2 <;> simp_all)]
theorem it_halt (h : (bd x (c,n,true)).2 = none) (hr : ruAt m c = noR) (hO : itSteps m bd k n c x = O) : O = ⟨(bd x (c,n,true)).1,none,c⟩ := by
  rw [← hO]; unfold itSteps; rw [if_neg (by simp [h]),if_pos hr]
theorem it_end (h : (bd x (c,n,true)).2 = none) (hn : ¬ n < b) (hO : itSteps m bd (b - n).toNat n c x = O) : O = ⟨(bd x (c,n,true)).1,none,c⟩ := by
  rw [← hO,show (b - n).toNat = 0 by omega]; unfold itSteps; rw [if_neg (by simp [h])]
  split <;> rfl
theorem it_full (h : (bd x (c,n,true)).2 = none) (hr : ¬ ruAt m c = noR) (hn : n < b) (hf : roomS (stepS (ruAt m c) c) = false) (hO : itSteps m bd (b - n).toNat n c x = O) :
    O = ⟨(bd (bd x (c,n,true)).1 (stepS (ruAt m c) c,n + 1,false)).1,(bd (bd x (c,n,true)).1 (stepS (ruAt m c) c,n + 1,false)).2,stepS (ruAt m c) c⟩ := by
  rw [← hO,show (b - n).toNat = (b - (n + 1)).toNat + 1 by omega]; unfold itSteps; rw [if_neg (by simp [h]),if_neg hr]; simp [hf]
theorem it_next (h : (bd x (c,n,true)).2 = none) (hr : ¬ ruAt m c = noR) (hn : n < b) (hf : roomS (stepS (ruAt m c) c) = true) (hO : itSteps m bd (b - n).toNat n c x = O) : itSteps m bd (b - (n + 1)).toNat (n + 1) (stepS (ruAt m c) c) (bd x (c,n,true)).1 = O := by
  rw [← hO,show (b - n).toNat = (b - (n + 1)).toNat + 1 by omega]; conv => rhs; unfold itSteps
  rw [if_neg (by simp [h]),if_neg hr]; simp [hf]
end
theorem preB30 {p : Prop} (h : p := by first | with_reducible assumption | omega | (simp only [List.length_append,List.length_cons,List.length_nil,List.length_set,List.length_replicate,List.length_take,List.length_drop,List.length_tail,List.length_dropLast,List.length_reverse] at *; omega) | exact mem_len (by assumption) (by omega) | (with_reducible refine Int.le_trans (Int.ofNat_le.2 (trimR_len _)) ?_; simp only [List.length_cons,List.length_tail]; omega) | (exact (ruAt_ok (by assumption) (by assumption) (by assumption)).2.1) | (exact (ruAt_ok (by assumption) (by assumption) (by assumption)).2.1) | (have := vMach_bd (by assumption); omega) | (simp only [mC_ch,mC_tu]; omega) | (with_reducible refine Int.le_trans (Int.ofNat_le.2 (pushL_len _ _)) ?_; simp only [List.length_dropLast]; omega) | exact (ask_ok (by assumption)).1 | exact (ask_ok (by assumption)).2.1 | exact (ask_ok (by assumption)).2.2.1 | exact (ask_ok (by assumption)).2.2.2 | trivial) : p := h
theorem steps_ok (m : Mach) (c : Conf) (b : Int) : Does Tryz.prog 107 [.one (.gv 0),.one (int b)] [ruBx m c.st 1 2,roI c.le.reverse,roI c.ri.reverse] (.one (.fn (.func 164) [.gv 4,.gv 3])) [ruBx m c.st 1 2,roI c.le.reverse,roI c.ri.reverse,.bx [.gv 0],.bx [int b]] := by
  refine does_of (k := 3) Tryz.func107 rfl Tryz.ntmps107 rfl rfl fun w F0 S0 ρ0 => ?_
  dsimp only [argT,argH]
  repeat' first|(apply n3;exact a_new (gb := .bx _) rfl;exact rfl;refine dA ?_)|(apply p3;exact pu1;exact rfl)|refine cd ?_|fail
  repeat refine cr ?_
  refine ends_id ?_
  refine endK [?_,?_] (h2 := ?_) (h3 := ?_) (nd := ?_)
  rotate_left 2
  all_goals (repeat' first|exact ce0|refine ce ?_|refine ce2 ?_ ?_|(refine Or.inr (bx_eq rfl rfl ?_);(try dsimp only [C.ren,C.ren.all]);(try exact rfl))|exact SVLe.refl|refine ceb ?_)
  all_goals first | exact (show nodupB _ = true from rfl) | exact Or.inr rfl | (rfl)
theorem stepsIt_ok (m : Mach) (c : Conf) (b : Int) {X : Type} (l : Nat) (R : X → Option Code → Opq) (bd : X → Conf × Int × Bool → X × Option Code) (Pre : X → Conf × Int × Bool → Prop) (x0 : X) (hm : vMach m = true) (hc : vConf m c = true) (h0 : Pre x0 (c,0,true)) (hb : b ≤ 9223372036854775807) (hst : ∀ x c n,Pre x (c,n,true) → vConf m c = true → (bd x (c,n,true)).2 = none → ruAt m c ≠ noR → n < b → Pre (bd x (c,n,true)).1 (stepS (ruAt m c) c,n + 1,roomS (stepS (ruAt m c) c))) (hY : ∀ x c n room,Pre x (c,n,room) → DoesW (YC Tryz.prog l) [.one (int n),.one (boo room)] [.opq (R x none) [1],ruBx m c.st 2 3,roI c.le.reverse,roI c.ri.reverse] (.one (boo (bd x (c,n,room)).2.isNone)) [.opq (R (bd x (c,n,room)).1 (bd x (c,n,room)).2) [1],ruBx m c.st 2 3,roI c.le.reverse,roI c.ri.reverse]) : Does Tryz.prog 164 [.one (.d (.fn (.yield l) [])),.one (.gv 1),.one (.gv 2)] [.opq (R x0 none) [3],.bx [int b],.bx [.gv 3],ruBx m c.st 4 5,roI c.le.reverse,roI c.ri.reverse] (.tup []) [.opq (R (itSteps m bd b.toNat 0 c x0).x (itSteps m bd b.toNat 0 c x0).j) [3],.bx [int b],.bx [.gv 3],ruBx m (itSteps m bd b.toNat 0 c x0).c.st 6 7,.dead,.dead,roI (itSteps m bd b.toNat 0 c x0).c.le.reverse,roI (itSteps m bd b.toNat 0 c x0).c.ri.reverse]:= by
  generalize hO : itSteps m bd b.toNat 0 c x0 = O
  refine does_of (k := 6) Tryz.func164 rfl Tryz.ntmps164 rfl rfl fun w F0 S0 ρ0 => ?_
  dsimp only [argT,argH]
  repeat' first|(apply p3;(exact pu1);exact rfl)|refine cd ?_|fail
  refine g_conv (t_mvB (i := 4) (j := 3) (k := 4) rfl rfl rfl rfl rfl rfl) ?_
  try dsimp only [setRow,List.map_cons,List.map_nil,scC,List.set_cons_zero,List.set_cons_succ]
  refine g_conv (t_mvB (i := 5) (j := 3) (k := 5) rfl rfl rfl rfl rfl rfl) ?_
  try dsimp only [setRow,List.map_cons,List.map_nil,scC,List.set_cons_zero,List.set_cons_succ]
  refine g_loop_id ?_
  refine loopK [0,1,2] [0,3,6,7] (fun y : X × Conf × Int => Pre y.1 (y.2.1,y.2.2,true) ∧ vConf m y.2.1 = true ∧ 0 ≤ y.2.2 ∧ (y.2.2 ≤ b ∨ y.2.2 = 0) ∧ itSteps m bd (b - y.2.2).toNat y.2.2 y.2.1 y.1 = O) (fun y => [(4,.one (int y.2.2))]) (fun y => [(0,.opq (R y.1 none) [3]),(3,ruBx m y.2.1.st 6 7),(6,roI y.2.1.le.reverse),(7,roI y.2.1.ri.reverse)]) (fun y => (b - y.2.2).toNat) (x0,c,(0 : Int)) [0,1,2,3,4,5,6,7] (hI := ?_) (hr := ?_)
  · exact ⟨h0,hc,by simp,.inr rfl,by rw [Int.sub_zero]; exact hO⟩
  · rintro ⟨x,c,n⟩ ⟨k1,k2,k3,k4,k5⟩
    dsimp only [List.cons_append,List.nil_append] at *
    skip
    repeat' first|(apply p3;(exact pu1);exact rfl)|refine cdn ?_|refine g_reg (id := 1) ?_|(apply c4 0;exact callY (θ := [0,3,6,7]) (hD := (hY _ _ _ _ (by assumption)));exact rfl;exact rfl;exact rfl;refine dM ?_)|refine o_no rfl rfl rfl rfl ?_|(apply py3;exact rfl;exact rfl;(first|exact pu1|exact puC);exact rfl;exact rfl)|(apply cy4 0;exact rfl;exact rfl;exact callK1 (θ := []) (hD := (haltsC_ok _ _ preB30 preB30));exact rfl;exact rfl;exact rfl;exact rfl;refine dM ?_)|((first|refine o_gs rfl rfl (fun hc => ?_) (fun hc => ?_)|refine g_cond rfl (fun hc => ?_) (fun hc => ?_)) <;> (try simp only [dcB] at hc) <;> (try first|contradiction|(exfalso;omega)))|fail
    · have e : (bd x (c,n,true)).2 = none := by cases hh : (bd x (c,n,true)).2 <;> simp_all
      have hnr : ¬ ruAt m c = noR := hc
      have hcn : n < b := by assumption
      have hp := hst x c n k1 k2 e hc hcn
      simp only [e]
      repeat' first|(apply p3;(first|exact pu1|exact a_add rfl rfl (by omega) (by omega));exact rfl)|refine cd ?_|(apply c4 2;exact callK0 (θ := [_,_,_]) (hD := (stepC_ok _ _ preB30 preB30));exact rfl;exact rfl;exact rfl;refine dM ?_)|((refine g_cond rfl (fun hc => ?_) (fun hc => ?_)) <;> (try simp only [dcB] at hc) <;> (try first|contradiction|(exfalso;omega)))|fail
      · have hf : roomS (stepS (ruAt m c) c) = false := by assumption
        rw [hf] at hp
        have hE := it_full e hnr hcn hf k5
        repeat' first|refine cd ?_|(apply c4 0;exact callY (θ := [0,3,8,9]) (hD := (hY _ _ _ _ (by assumption)));exact rfl;exact rfl;exact rfl;refine dM ?_)|fail
        subst hE
        repeat refine cr ?_
        refine ends_id ?_
        refine endK [?_,?_] (h2 := ?_) (h3 := ?_) (nd := ?_)
        rotate_left 2
        all_goals (repeat' first|exact ce0|refine ce ?_|refine ce2 ?_ ?_|(refine Or.inr (bx_eq rfl rfl ?_);(try dsimp only [C.ren,C.ren.all]);(try exact rfl))|exact SVLe.refl|refine ceb ?_)
        all_goals first | exact (show nodupB _ = true from rfl) | exact Or.inr rfl | (rfl)
      · have hf : roomS (stepS (ruAt m c) c) = true := by assumption
        rw [hf] at hp
        have hE := it_next e hnr hcn hf k5
        have hk := stepS_ok hm k2 hnr hf
        skip
        refine q_again ((bd x (c,n,true)).1,stepS (ruAt m c) c,n + 1) [0,1,2,3,4,5,8,9] (by exact stk) ?_ ?_
        · exact ⟨hp,hk,by dsimp only; omega,by dsimp only; omega,hE⟩
        · dsimp only; omega
    · have e : (bd x (c,n,true)).2 = none := by cases hh : (bd x (c,n,true)).2 <;> simp_all
      have hE := it_halt e hc k5
      simp only [e]
      subst hE
      repeat refine cr ?_
      refine ends_id ?_
      refine endK [?_,?_] (h2 := ?_) (h3 := ?_) (nd := ?_)
      rotate_left 2
      all_goals (repeat' first|exact ce0|refine ce ?_|refine ce2 ?_ ?_|(refine Or.inr (bx_eq rfl rfl ?_);(try dsimp only [C.ren,C.ren.all]);(try exact rfl))|exact SVLe.refl|refine ceb ?_)
      all_goals first | exact (show nodupB _ = true from rfl) | exact Or.inr rfl | (rfl)
    · have e : (bd x (c,n,true)).2 = none := by cases hh : (bd x (c,n,true)).2 <;> simp_all
      have hE := it_end e hc k5
      simp only [e]
      subst hE
      repeat refine cr ?_
      refine ends_id ?_
      refine endK [?_,?_] (h2 := ?_) (h3 := ?_) (nd := ?_)
      rotate_left 2
      all_goals (repeat' first|exact ce0|refine ce ?_|refine ce2 ?_ ?_|(refine Or.inr (bx_eq rfl rfl ?_);(try dsimp only [C.ren,C.ren.all]);(try exact rfl))|exact SVLe.refl|refine ceb ?_)
      all_goals first | exact (show nodupB _ = true from rfl) | exact Or.inr rfl | (rfl)
    · have hE := it_out hc k5
      subst hE
      repeat refine cr ?_
      refine ends_id ?_
      refine endK [?_,?_] (h2 := ?_) (h3 := ?_) (nd := ?_)
      rotate_left 2
      all_goals (repeat' first|exact ce0|refine ce ?_|refine ce2 ?_ ?_|(refine Or.inr (bx_eq rfl rfl ?_);(try dsimp only [C.ren,C.ren.all]);(try exact rfl))|exact SVLe.refl|refine ceb ?_)
      all_goals first | exact (show nodupB _ = true from rfl) | exact Or.inr rfl | (rfl)
end Go.Proofs.YtegpggobfdcafaaGreat
end
section
set_option linter.unusedVariables false
set_option linter.unusedSimpArgs false
set_option maxRecDepth 100000
set_option maxHeartbeats 4000000
namespace Go.Proofs.YtegpggobfdcafaaGreat
open Go Foot
def bdRun (x : Int × Bool) (a : Conf × Int × Bool) : (Int × Bool) × Option Code := if a.2.2 then ((a.2.1,x.2),none) else ((x.1,true),some .ret)
@[irreducible] def runIt (m : Mach) (b : Int) (c : Conf) : ItOut (Int × Bool) := itSteps m bdRun b.toNat 0 c (0,false)
@[irreducible] def runMade (O : ItOut (Int × Bool)) : Int := if O.j = none then O.x.1 else 0
@[irreducible] def runHalts (m : Mach) (O : ItOut (Int × Bool)) : Bool := if O.j = none then decide (ruAt m O.c = noR) else false
@[irreducible] def runCode (O : ItOut (Int × Bool)) : Int := if O.j = none then 0 else 5
theorem run_inv {m : Mach} (hm : vMach m = true) : ∀ (k : Nat) (n : Int) (c : Conf) (x : Int × Bool),vConf m c = true → x.2 = false →
    ((itSteps m bdRun k n c x).j = none → vConf m (itSteps m bdRun k n c x).c = true ∧ (itSteps m bdRun k n c x).x.2 = false) ∧ ∀ e,(itSteps m bdRun k n c x).j = some e → e = .ret ∧ (itSteps m bdRun k n c x).x.2 = true
  | k,n,c,x,hc,hx => by
    unfold itSteps
    have e1 : bdRun x (c,n,true) = ((n,x.2),none) := by simp [bdRun]
    rw [e1,hx]
    rw [if_neg (by simp)]
    by_cases hr : ruAt m c = noR
    · rw [if_pos hr]; exact ⟨fun _ => ⟨hc,rfl⟩,fun e h => by cases h⟩
    · rw [if_neg hr]
      cases k with
      | zero => exact ⟨fun _ => ⟨hc,rfl⟩,fun e h => by cases h⟩
      | succ k =>
        simp only
        split
        · rename_i hf
          exact run_inv hm k _ _ _ (stepS_ok hm hc hr hf) rfl
        · refine ⟨fun h => ?_,fun e h => ?_⟩
          · simp [bdRun] at h
          · simp [bdRun] at h ⊢; exact h.symm
theorem preB31 {p : Prop} (h : p := by first | with_reducible assumption | omega | (simp only [List.length_append,List.length_cons,List.length_nil,List.length_set,List.length_replicate,List.length_take,List.length_drop,List.length_tail,List.length_dropLast,List.length_reverse] at *; omega) | exact mem_len (by assumption) (by omega) | (with_reducible refine Int.le_trans (Int.ofNat_le.2 (trimR_len _)) ?_; simp only [List.length_cons,List.length_tail]; omega) | (exact (ruAt_ok (by assumption) (by assumption) (by assumption)).2.1) | (exact (ruAt_ok (by assumption) (by assumption) (by assumption)).2.1) | (have := vMach_bd (by assumption); omega) | (simp only [mC_ch,mC_tu]; omega) | (with_reducible refine Int.le_trans (Int.ofNat_le.2 (pushL_len _ _)) ?_; simp only [List.length_dropLast]; omega) | exact (ask_ok (by assumption)).1 | exact (ask_ok (by assumption)).2.1 | exact (ask_ok (by assumption)).2.2.1 | exact (ask_ok (by assumption)).2.2.2 | trivial) : p := h
theorem run_ok (m : Mach) (c : Conf) (b : Int) (hm : vMach m = true) (hc : vConf m c = true) (hb : b ≤ 9223372036854775807) : Does Tryz.prog 53 [.one (.gv 0),.one (int b)] [ruBx m c.st 1 2,roI c.le.reverse,roI c.ri.reverse] (.tup [(false,[int (runMade (runIt m b c))]),(false,[boo (runHalts m (runIt m b c))]),(false,[int (runCode (runIt m b c))])]) [ruBx m (runIt m b c).c.st 3 4,.dead,.dead,roI (runIt m b c).c.le.reverse,roI (runIt m b c).c.ri.reverse] := by
  have hO : itSteps m bdRun b.toNat 0 c (0,false) = runIt m b c := by unfold runIt; rfl
  generalize runIt m b c = O at *
  refine does_of (k := 3) Tryz.func53 rfl Tryz.ntmps53 rfl rfl fun w F0 S0 ρ0 => ?_
  dsimp only [argT,argH]
  repeat' first|(apply n3;exact a_new (gb := .bx _) rfl;exact rfl;refine dA ?_)|(apply p3;exact pu1;exact rfl)|refine cd ?_|(apply w3;(exact a_st_bx rfl rfl rfl rfl (fN rfl rfl) (Nat.le_of_ble_eq_true rfl) rfl);exact rfl;refine dS ?_)|(apply c4 2;exact callK0 (θ := [_,_,_]) (hD := (steps_ok _ _ _));exact rfl;exact rfl;exact rfl;refine dM ?_)|fail
  refine rangeK [0,4,5,6,7,12] [3,4,5,6] (fun x : Int × Bool => [(3,.bx [int 0]),(4,.bx [boo false]),(5,.bx [int (if x.2 then 5 else 0)]),(6,.bx [int x.1])]) [0,1,2,3,4,5,6,7,8,900,901] 9 11 [8,7,0,1,2] [0] [9,10] [3] [1] (fun a : Conf × Int × Bool => [.one (int a.2.1),.one (boo a.2.2)]) (fun a => [ruBx m a.1.st 2 3,roI a.1.le.reverse,roI a.1.ri.reverse]) bdRun (fun _ _ => True) ((0 : Int),false) (n1 := 11) (hD := fun l R hY => stepsIt_ok m c b l R bdRun (fun _ _ => True) _ hm hc trivial hb (fun _ _ _ _ _ _ _ _ => trivial) (fun x c n room h => hY x (c,n,room) h)) (hr := ?_) (hn := ?_) (hs := ?_)
  · rintro ⟨made,fu⟩ ⟨c,n,room⟩ - lp0 w0 F0 S0 ρ0 rc0
    dsimp only [parT,upOf,deadR,thN,List.map_cons,List.map_nil,SV.ren,List.cons_append,List.nil_append,GB.ren,C.ren,C.ren.all,Nat.reduceAdd] at *
    repeat' first|refine g_seq ?_|refine g_reg ?_|(apply p3;(exact a_pure (sv := .one _) rfl);exact rfl)|refine o_nil ?_|refine q_s ?_|refine qAsg.go rfl ?_|fail
    dsimp only
    repeat' first|(apply p3;exact pu1;exact rfl)|refine cd ?_|(apply w3;(exact a_st_bx rfl rfl rfl rfl (fN rfl rfl) (Nat.le_of_ble_eq_true rfl) rfl);exact rfl;refine dS ?_)|((refine g_cond rfl (fun hc => ?_) (fun hc => ?_)) <;> (try simp only [dcB] at hc) <;> (try first|contradiction|(exfalso;omega)))|fail
    · repeat (first | refine g_ret ?_ | refine q_sr ?_ | refine q_br ?_ | refine g_exit ?_ | refine q_se ?_ | refine q_be rfl ?_ | refine q_bn rfl ?_)
      first | refine q_next (made,true) [0,1,2,3,4,5,6,7,8,9,10,11] (by exact stk) ?_ | refine q_ret (made,true) [0,1,2,3,4,5,6,7,8,9,10,11] (by exact stk) ?_ | refine q_exit (made,true) [0,1,2,3,4,5,6,7,8,9,10,11] (by exact stk) ?_
      simp [bdRun,hc]
    · refine q_next (n,fu) [0,1,2,3,4,5,6,7,8,9,10,11] (by exact stk) ?_
      simp [bdRun,hc]
  · rintro hj
    dsimp only [upOf,deadR,calF,List.cons_append,List.nil_append,GB.ren,C.ren,C.ren.all,List.length_cons,List.length_nil,Nat.reduceAdd,Nat.reduceSub] at *
    skip
    repeat' first|refine cd ?_|fail
    simp only [hO] at hj ⊢
    obtain ⟨h1,h2⟩ := (hO ▸ run_inv hm b.toNat 0 c (0,false) hc rfl).1 hj
    have e1 : runMade O = O.x.1 := by unfold runMade; rw [if_pos hj]
    have e2 : runHalts m O = decide (ruAt m O.c = noR) := by unfold runHalts; rw [if_pos hj]
    have e3 : runCode O = 0 := by unfold runCode; rw [if_pos hj]
    repeat' first|refine cd ?_|(apply g_drN (id := 8) okM [[],[],[1],[0,1,2],[0,1,2,3],[0,1,2,3,4]] [([],[]),([],[]),([],[]),([],[3]),([],[4]),([],[5])] 0;(focus (refine dp 0 0 [19,20] [] puL ?_;refine dp 1 0 [18] [] pu1 ?_;refine dp 2 1 [18] [] (callD1 (n := _) 0 (θ := []) (hD := (haltsC_ok _ _ preB31 preB31))) ?_;refine duE 3 7 [] [] (by exact a_st_bx rfl rfl rfl rfl (fN rfl rfl) (Nat.le_of_ble_eq_true rfl) rfl) (by exact rfl) (by exact rfl) ?_;refine duE 4 15 [] [] (a_st_bx rfl rfl rfl rfl (fN rfl rfl) (Nat.le_of_ble_eq_true rfl) rfl) (by exact rfl) (by exact rfl) ?_;refine duE 5 31 [] [] (by exact a_st_bx rfl rfl rfl rfl (fN rfl rfl) (Nat.le_of_ble_eq_true rfl) rfl) (by exact rfl) (by exact rfl) ?_;(refine d_nil ?_;refine dN ?_)));any_goals kernel_rfl)|fail
    rw [e1,e2,e3]
    repeat refine cr ?_
    refine ends_id ?_
    refine endK [?_,?_] (h2 := ?_) (h3 := ?_) (nd := ?_)
    rotate_left 2
    all_goals (repeat' first|exact ce0|refine ce ?_|refine ce2 ?_ ?_|(refine Or.inr (bx_eq rfl rfl ?_);(try dsimp only [C.ren,C.ren.all]);(try exact rfl))|exact SVLe.refl|refine ceb ?_)
    all_goals first | exact (show nodupB _ = true from rfl) | exact Or.inr rfl | (rfl)
  · rintro c hj
    dsimp only [upOf,deadR,calF,List.cons_append,List.nil_append,GB.ren,C.ren,C.ren.all,List.length_cons,List.length_nil,Nat.reduceAdd,Nat.reduceSub] at *
    skip
    skip
    simp only [hO] at hj ⊢
    obtain ⟨rfl,h2⟩ := (hO ▸ run_inv hm b.toNat 0 _ (0,false) hc rfl).2 _ hj
    have e0 : ¬ O.j = none := by simp [hj]
    have e1 : runMade O = 0 := by unfold runMade; rw [if_neg e0]
    have e2 : runHalts m O = false := by unfold runHalts; rw [if_neg e0]
    have e3 : runCode O = 5 := by unfold runCode; rw [if_neg e0]
    rw [h2,e1,e2,e3]
    skip
    repeat refine cr ?_
    refine ends_id ?_
    refine endK [?_,?_] (h2 := ?_) (h3 := ?_) (nd := ?_)
    rotate_left 2
    all_goals (repeat' first|exact ce0|refine ce ?_|refine ce2 ?_ ?_|(refine Or.inr (bx_eq rfl rfl ?_);(try dsimp only [C.ren,C.ren.all]);(try exact rfl))|exact SVLe.refl|refine ceb ?_)
    all_goals first | exact (show nodupB _ = true from rfl) | exact Or.inr rfl | (rfl)
end Go.Proofs.YtegpggobfdcafaaGreat
end
section
set_option linter.unusedVariables false
set_option linter.unusedSimpArgs false
set_option maxRecDepth 100000
set_option maxHeartbeats 4000000
namespace Go.Proofs.YtegpggobfdcafaaGreat
open Go Foot
theorem stepS_len (u : Rule') (c : Conf) : (stepS u c).le.length ≤ c.le.length + 2 ∧ (stepS u c).ri.length ≤ c.ri.length + 2 := by
  unfold stepS
  split
  · dsimp only
    have := trimR_len (u.w :: c.le)
    rw [List.length_cons] at this
    rw [List.length_tail]
    omega
  · dsimp only
    have h1 := trimR_len (u.w :: c.ri.tail)
    have h2 := trimR_len (c.le.headD 0 :: trimR (u.w :: c.ri.tail))
    rw [List.length_cons,List.length_tail] at h1
    rw [List.length_cons] at h2
    rw [List.length_tail]
    omega
theorem rmV_of {m : Mach} (hm : vMach m = true) : ∀ (k : Nat) (c : Conf),vConf m c = true → c.le.length + 2 * k ≤ 200 → c.ri.length + 2 * k ≤ 200 → rmV m k c
  | 0,c,hc,_,_ => hc
  | k + 1,c,hc,h1,h2 => by
    refine ⟨hc,?_⟩
    by_cases hn : ruAt m c = noR
    · exact .inl hn
    · obtain ⟨l1,l2⟩ := stepS_len (ruAt m c) c
      have hr : roomS (stepS (ruAt m c) c) = true := by
        unfold roomS
        rw [decide_eq_true_eq]
        omega
      exact .inr (rmV_of hm k _ (stepS_ok hm hc hn hr) (by omega) (by omega))
theorem rmV_room {m : Mach} : ∀ {k : Nat} {c : Conf},rmV m k c → vConf m c = true
  | 0,_,h => h
  | _ + 1,_,h => h.1
theorem room_of {m : Mach} {c : Conf} (h : vConf m c = true) : roomS c = true := by
  obtain ⟨_,h1,h2⟩ := vConf_bd h
  have a1 := (vSide_bd h1).1
  have a2 := (vSide_bd h2).1
  unfold roomS
  rw [decide_eq_true_eq]
  omega
theorem run_rm {m : Mach} : ∀ (k : Nat) (c : Conf) (n n0 : Int),rmV m k c → itSteps m bdRun k n c (n0,false) = ⟨(n + rmN m k c,false),none,rmC m k c⟩
  | 0,c,n,n0,h => by
    unfold itSteps
    have e1 : bdRun (n0,false) (c,n,true) = ((n,false),none) := by simp [bdRun]
    rw [e1]
    rw [if_neg (by simp)]
    simp only [rmN,rmC]
    split <;> simp
  | k + 1,c,n,n0,h => by
    unfold itSteps
    have e1 : bdRun (n0,false) (c,n,true) = ((n,false),none) := by simp [bdRun]
    rw [e1]
    rw [if_neg (by simp)]
    by_cases hn : ruAt m c = noR
    · rw [if_pos hn,rmN,rmC,if_pos hn,if_pos hn]
      simp
    · have hr := h.2.resolve_left hn
      rw [if_neg hn]
      simp only
      rw [if_pos (room_of (rmV_room hr)),run_rm k _ (n + 1) n hr,rmN,rmC,if_neg hn,if_neg hn]
      simp only [Int.natCast_add,Int.natCast_one]
      rw [show n + 1 + (rmN m k (stepS (ruAt m c) c) : Int) = n + ((rmN m k (stepS (ruAt m c) c) : Int) + 1) by omega]
theorem costC_N {m : Mach} {c : Conf} (hk : numOk m c = true) : costC m c = costOf m.sy (numN m.sy c.le) (numN m.sy c.ri) (ruAt m c) := by
  unfold numOk at hk
  rw [Bool.and_eq_true] at hk
  unfold costC
  rw [numV_N hk.1,numV_N hk.2]
theorem cAdd_f {m : Mach} {c : Conf} {x : Cs} (h : (cAdd m c x).f = false) : numOk m c = true ∧ x.f = false ∧ (cAdd m c x).s = x.s + costC m c := by
  unfold cAdd at h ⊢
  by_cases hk : numOk m c = true
  · rw [if_pos hk] at h ⊢
    dsimp only at h ⊢
    rw [Bool.or_eq_false_iff] at h
    exact ⟨hk,h.1,rfl⟩
  · rw [if_neg hk] at h
    cases h
theorem cost_rm {m : Mach} (hm : vMach m = true) : ∀ (k : Nat) (c : Conf) (n hd : Int) (x : Cs),rmV m k c → (runG m (ccC m) (ccS m) k n c hd x).full = false ∧ (runG m (ccC m) (ccS m) k n c hd x).halts = decide (ruAt m (rmC m k c) = noR) ∧
    ((runG m (ccC m) (ccS m) k n c hd x).x.f = false → (runG m (ccC m) (ccS m) k n c hd x).x.s = x.s + rmK m k c)
  | 0,c,n,hd,x,h => by
    unfold runG
    by_cases hn : ruAt m c = noR
    · rw [if_pos hn,rmC,rmK,if_pos hn]
      refine ⟨rfl,by simp [hn],fun hf => ?_⟩
      dsimp only at hf ⊢
      rw [ccC_eq,if_pos hn] at hf ⊢
      obtain ⟨a1,a2,a3⟩ := cAdd_f hf
      have hb := costC_bd hm h
      rw [a3,costC_N a1,hn]
      rw [costC_N a1,hn] at hb
      omega
    · rw [if_neg hn,rmC,rmK,if_neg hn]
      refine ⟨rfl,by simp [hn],fun hf => ?_⟩
      dsimp only
      rw [ccC_eq,if_neg hn]
      simp
  | k + 1,c,n,hd,x,h => by
    unfold runG
    by_cases hn : ruAt m c = noR
    · rw [if_pos hn,rmC,rmK,if_pos hn,if_pos hn]
      refine ⟨rfl,by simp [hn],fun hf => ?_⟩
      dsimp only at hf ⊢
      rw [ccC_eq,if_pos hn] at hf ⊢
      obtain ⟨a1,a2,a3⟩ := cAdd_f hf
      have hb := costC_bd hm h.1
      rw [a3,costC_N a1]
      rw [costC_N a1] at hb
      omega
    · have hr := h.2.resolve_left hn
      rw [if_neg hn]
      simp only
      rw [if_pos (room_of (rmV_room hr)),rmC,rmK,if_neg hn,if_neg hn]
      have e : ccS m c hd (ruAt m c) (ccC m c hd x) = cAdd m c x := by rw [ccC_eq,if_neg hn]; unfold ccS; rfl
      rw [e]
      obtain ⟨q1,q2,q3⟩ := cost_rm hm k (stepS (ruAt m c) c) (n + 1) (hd + (ruAt m c).m) (cAdd m c x) hr
      refine ⟨q1,q2,fun hf => ?_⟩
      have hcf : (cAdd m c x).f = false := by
        cases hh : (cAdd m c x).f with
        | false => rfl
        | true => rw [rc_sticky _ _ _ _ _ hh] at hf; cases hf
      obtain ⟨a1,a2,a3⟩ := cAdd_f hcf
      have hb := costC_bd hm h.1
      rw [q3 hf,a3,costC_N a1]
      rw [costC_N a1] at hb
      omega
theorem rmK_ge {m : Mach} (hm : vMach m = true) : ∀ (k : Nat) (c : Conf),rmV m k c → rmN m k c ≤ rmK m k c
  | 0,c,h => by rw [rmN]; omega
  | k + 1,c,h => by
    have hp := (prog_step hm h.1 ⟨0,c⟩).1
    rw [rmN,rmK]
    by_cases hn : ruAt m c = noR
    · rw [if_pos hn]; omega
    · have := rmK_ge hm k _ (h.2.resolve_left hn)
      rw [if_neg hn,if_neg hn]
      omega
end Go.Proofs.YtegpggobfdcafaaGreat
end
section
set_option linter.unusedVariables false
set_option linter.unusedSimpArgs false
set_option maxRecDepth 100000
set_option maxHeartbeats 4000000
namespace Go.Proofs.YtegpggobfdcafaaGreat
open Go Foot
structure Tg where
  de : Int
  wo : List (List Int)
  ha : List Int
end Go.Proofs.YtegpggobfdcafaaGreat
end
section
set_option linter.unusedVariables false
set_option linter.unusedSimpArgs false
set_option linter.unusedSectionVars false
namespace Go.Proofs.YtegpggobfdcafaaGreat
section
variable {α : Type} [DecidableEq α] (f : α → α) (h o : α → Bool)
def itr : Nat → α → α
  | 0,x => x
  | n + 1,x => itr n (f x)
theorem itr_succ (n : Nat) (x : α) : itr f (n + 1) x = f (itr f n x) := by
  induction n generalizing x with
  | zero => rfl
  | succ n ih => rw [itr,ih,itr]
def cSt : Nat → α → α → Nat
  | 0,_,_ => 0
  | k + 1,a,b => bif decide (a = b) then 0 else cSt k (f a) (f b) + 1
variable {f h o}
section
variable {x : α} {i n b B : Nat}
structure Cyc (f : α → α) (x : α) (i b : Nat) : Prop where
  pos : 0 < b
  eq : itr f i x = itr f (i + b) x
  inj : ∀ j k,j < k → k < i + b → itr f j x ≠ itr f k x
theorem itr_add (m n : Nat) (x : α) : itr f (m + n) x = itr f n (itr f m x) := by
  induction m generalizing x with
  | zero => simp [itr]
  | succ m ih => rw [Nat.succ_add,itr,ih,itr]
theorem Cyc.per (c : Cyc f x i b) (m : Nat) (hm : i ≤ m) : itr f (m + b) x = itr f m x := by
  obtain ⟨d,rfl⟩ := Nat.exists_eq_add_of_le hm
  rw [show i + d + b = i + b + d by omega,itr_add (i + b) d,← c.eq,← itr_add]
theorem Cyc.red (c : Cyc f x i b) : ∀ (d : Nat),itr f (i + d) x = itr f (i + d % b) x := by
  intro d
  induction d using Nat.strongRecOn with
  | _ d ih =>
    by_cases hd : d < b
    · rw [Nat.mod_eq_of_lt hd]
    · have := c.per (i + (d - b)) (by omega)
      rw [show i + (d - b) + b = i + d by omega] at this
      rw [this,ih (d - b) (by have := c.pos; omega),← Nat.mod_eq_sub_mod (by omega)]
theorem Cyc.ne (c : Cyc f x i b) {s l : Nat} (hl : 1 ≤ l) (e : itr f s x = itr f (s + l) x) : i ≤ s ∧ b ≤ l := by
  have hb := c.pos
  by_cases hs : i ≤ s
  · refine ⟨hs,?_⟩
    obtain ⟨d,rfl⟩ := Nat.exists_eq_add_of_le hs
    rw [c.red d,show i + d + l = i + (d + l) by omega,c.red (d + l)] at e
    have h1 := Nat.mod_lt d hb
    have h2 := Nat.mod_lt (d + l) hb
    have h3 : d % b = (d + l) % b := by
      rcases Nat.lt_trichotomy (d % b) ((d + l) % b) with h | h | h
      · exact absurd e (c.inj _ _ (by omega) (by omega))
      · exact h
      · exact absurd e.symm (c.inj _ _ (by omega) (by omega))
    have h4 : (d + l - d) % b = 0 := Nat.sub_mod_eq_zero_of_mod_eq h3.symm
    rw [show d + l - d = l by omega] at h4
    exact Nat.le_of_dvd (by omega) (Nat.dvd_of_mod_eq_zero h4)
  · exfalso
    by_cases hn : s + l < i + b
    · exact c.inj s (s + l) (by omega) hn e
    · have h1 : s + l = i + (s + l - i) := by omega
      rw [h1,c.red] at e
      have h2 := Nat.mod_lt (s + l - i) hb
      exact c.inj s _ (by omega) (by omega) e
theorem Cyc.st (c : Cyc f x i b) : ∀ (K s : Nat),s ≤ i → i - s < K → cSt f K (itr f s x) (itr f (s + b) x) = i - s := by
  intro K
  induction K with
  | zero => intro s _ h; omega
  | succ K ih =>
    intro s hs hK
    rw [cSt,← itr_succ f,← itr_succ f]
    by_cases e : itr f s x = itr f (s + b) x
    · have := (c.ne c.pos e).1
      rw [decide_eq_true e]
      simp only [cond_true]
      omega
    · rw [decide_eq_false e]
      have hne : s ≠ i := fun e' => e (by rw [e']; exact c.eq)
      simp only [cond_false]
      rw [show s + b + 1 = s + 1 + b by omega,ih (s + 1) (by omega) (by omega)]
      omega
end
end
end Go.Proofs.YtegpggobfdcafaaGreat
end
