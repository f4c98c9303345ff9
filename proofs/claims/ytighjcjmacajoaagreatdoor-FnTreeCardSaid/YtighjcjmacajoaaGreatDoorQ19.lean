/- Parts of the proof (19 of 24). -/
import Derived.Test.YtighjcjmacajoaaGreatDoorQ18
section
set_option linter.unusedVariables false
set_option linter.unusedSimpArgs false
set_option maxRecDepth 100000
namespace Go.Proofs.YtighjcjmacajoaaGreatDoor
open Go Foot
structure TellsT (HS HT : List GB) : Prop where
  l : HT.length = HS.length
  a : allG (HS.length + 1) HT = true
  z : renL (fun i => i - 1 + 1) HT
section
variable {P : Program} {g : Gh} {tm : Array Value} {ρs : Env} {t0 : List (Nat × SV)} {hx hx' : List (Nat × GB)} {n kq kp l : Nat} {θc θp θu cy : List Nat} {r0 : Loop} {ys : List SV} {HS : List GB} {j : Option Code}
theorem round_outT {HT : List GB} (hT : TellsT HS HT) {w w1 : World} {S S1 : Foot} {ρy ρ ρ0 ρ1 : Env} {Fy Fr F1 : Nat → Foot} {a : Act} {rb rj : Loop} (hN : RNums g t0 n kq kp θc θp θu cy ys HS)
    (hkx : keysB kq kp n hx' = true) (hlx : allH n hx' = true) (hrx : renB (gapF kq kp n) hx') (hG : Given w S ρy Fy (.opq (pk g tm ρs t0 hx n θc θp l r0) cy :: HS)) {us : List Value} (hus : cy.map ρy = us.map some) (hP : Pkd g tm ρs t0 hx n θc θp l r0 w S us (Fy 0) ρ Fr) {v0 : Value} (hv0 : ρy 0 = some v0)
    (hq : ∀ i,i < kq → ρ0 i = ρ i) (hL : ∀ i,i < HS.length + 1 → ρ0 (thF (n :: (θp ++ θu)) i) = ρy i)
    (h : Rel ⟨g.n,w,upTo Fy (HS.length + 1),S,kp,ρ0,some l,[]⟩ ⟨[],(n,.lp l rb) :: (upOf (thF (n :: (θp ++ θu))) 1 HT ++ (deads θc ++ hx')),n + 1⟩ a w1 S1 ρ1 F1) (hf : ∀ i,n + 1 ≤ i → ρ1 i = none) (v : Value) :
    ∃ S2 ρ' F',Ret w (w1.putObj l (.loop rj)) S S2 ρy ρ' Fy F' (HS.length + 1) (.opq (pk g tm ρs t0 hx' n θc θp l rj) cy :: HT) ∧ S.or S2 = S1 := by
  have hndL := hN.ndL
  have hTl := hT.l
  have hqp := hN.n_qp
  have hpn := hN.n_pn
  have hkq := hN.n_kq
  have hlenL : (n :: (θp ++ θu)).length = HS.length + 1 := by rw [List.length_cons,← hN.n_len]
  have h2 := h.putLp (i := n) (l := l) (r := rb) (by simp [lkG]) rj
  generalize hw2 : w1.putObj l (.loop rj) = w2 at *
  generalize hLe : (n :: (θp ++ θu)) = L at *
  have hmem : ∀ i,i ∈ L ↔ i = n ∨ i ∈ θp ++ θu := fun i => by rw [← hLe]; exact List.mem_cons
  have hth0 : thF L 0 = n := by rw [← hLe]; rfl
  have hmL : ∀ i,i < HS.length + 1 → thF L i ∈ L := fun i hi => by
    simp only [thF,List.getD_eq_getElem?_getD,List.getElem?_eq_getElem (show i < L.length by omega),Option.getD_some]; exact List.getElem_mem _
  have hths : ∀ i,i < HS.length + 1 → i ≠ 0 → thF L i ∈ θp ++ θu := fun i hi hne => by
    rcases (hmem _).1 (hmL i hi) with e | e
    · exact absurd (nodupB_inj hndL i 0 (by omega) (by omega) hne) (by rw [hth0,e]; simp)
    · exact e
  have hns : n ∉ θp ++ θu := fun hm => by have := hN.s' n hm; omega
  -- what is known of the roots that were handed over
  have hlive : ∀ i,i < HS.length → ∃ u,ρy (i + 1) = some u := fun i hi => by
    have hg : (GB.opq (pk g tm ρs t0 hx n θc θp l r0) cy :: HS)[i + 1]? = some HS[i] := by simp [hi]
    rcases hG.roots _ _ hg with e | ⟨u,e,_⟩
    · have := (List.all_eq_true.1 hN.n_live) HS[i] (List.getElem_mem hi)
      rw [e] at this; cases this
    · exact ⟨u,e⟩
  have hpin : ∀ i,i < HS.length + 1 → i ≠ 0 → ρ1 (thF L i) = ρy i := fun i hi hne => by
    obtain ⟨u,e⟩ := hlive (i - 1) (by omega)
    rw [show i - 1 + 1 = i by omega] at e
    rw [e]
    exact h2.pin _ u (hN.s' _ (hths i hi hne)) (by rw [← e]; exact hL i hi)
  let S2 : Foot := fun b o => S1 b o ∧ newOr w (upTo Fy (HS.length + 1)) b o
  have hSS : S.or S2 = S1 := by
    funext b o
    refine propext ⟨fun h => h.elim (h2.inS b o) (fun h => h.1),fun h => ?_⟩
    rcases h2.newS b o h with h' | h'
    · exact .inl h'
    · exact .inr ⟨h,h'⟩
  -- the package
  let ρn : Env := fun i => if n ≤ i ∨ (kq ≤ i ∧ i < kp) then none else ρ1 i
  let Fn : Nat → Foot := fun i => if i ∈ θc ∨ i ∈ L then no else F1 i
  let F0 : Foot := fun b o => ∃ i,i ∉ θp ++ θu ∧ F1 i b o
  let F' : Nat → Foot := fun i => if i = 0 then F0 else F1 (thF L i)
  have hρr : Env.le (fun i => if i < kq then ρ i else none) ρn := fun i u hu => by
    by_cases hi : i < kq
    · simp only [if_pos hi] at hu
      have e0 : ρ0 i = some u := by rw [hq i hi]; exact hu
      have e1 := h2.pin i u (show i < kp by omega) e0
      simp only [ρn,if_neg (show ¬ (n ≤ i ∨ (kq ≤ i ∧ i < kp)) by omega)]
      exact e1
    · simp only [if_neg hi] at hu; cases hu
  have hkp : ∀ i,i ∈ θp → i < kq := fun i hi => hN.c' i (hN.p' i hi)
  have hold : Keeps (upTo Fy (HS.length + 1)) w w2 := h2.old
  have hSag : Agree w w2 S := hold.agree hG.exS fun b o hb ⟨i,hi,hf⟩ => hG.disS i hi b o hf hb
  have hlpr : mapAt w2 l = some (.loop rj) ∧ ∀ o,F1 n l o := by
    have := h2.root n
    simp only [lkG,Nat.beq_refl,cond_true] at this
    rcases this with e | ⟨u,_,e⟩
    · cases e
    · exact e
  have hlk : ∀ i,i ≠ n → i ∉ θp ++ θu → i ∉ θc → lkG ((n,.lp l rj) :: (n,.lp l rb) :: (upOf (thF L) 1 HT ++ (deads θc ++ hx'))) i = lkG hx' i := fun i h1 h3 h4 => by
    simp only [lkG,beq_ne h1,cond_false]
    rw [lkG_append,lkG_deads' h4]
    rintro ⟨gb,hm⟩
    obtain ⟨k,gb',q1,q2⟩ := upOf_mem hm
    obtain ⟨e1,e2⟩ := Prod.mk.inj q2
    have hk := (List.getElem?_eq_some_iff.1 q1).1
    exact h3 (e1 ▸ hths (1 + k) (by omega) (by omega))
  have hpkd : Pkd g tm ρs t0 hx' n θc θp l rj w2 S1 us F0 ρn Fn := by
    refine ⟨fun i => ?_,fun i hic => ?_,fun i k hik => ?_,fun i => ?_,fun i hi => if_pos (.inl hi),fun i o hb => ?_,hlpr.1,fun o => ⟨n,hns,hlpr.2 o⟩,?_,fun i hi => ?_,fun i u hi hu => ?_,fun i hi => if_pos (.inl hi)⟩
    · exact (RepS.ltE (ρ' := fun i => if i < kq then ρ i else none) (fun i hi => if_pos hi) (hP.slot i) (allT_lk hN.n_t i)).keep hSag h2.inS hρr
    · rcases keysB_lk (i := i) hkx with e | ⟨hin,hgap⟩
      · exact .inl e
      have hine : i ≠ n := by omega
      have hins : i ∉ θp ++ θu := fun hm => by
        rcases List.mem_append.1 hm with hm | hm
        · exact hic (hN.p' i hm)
        · have := hN.u' i hm; omega
      have hr := h2.root i
      simp only at hr
      rw [hlk i hine hins hic] at hr
      rcases hr with e | ⟨u,e1,e2⟩
      · exact .inl e
      · refine .inr ⟨u,by simp only [ρn,if_neg (show ¬ (n ≤ i ∨ (kq ≤ i ∧ i < kp)) by omega)]; exact e1,?_⟩
        have hFn : Fn i = F1 i := if_neg fun hm => hm.elim hic fun hm => ((hmem i).1 hm).elim hine hins
        rw [hFn]
        refine rep_gap e2 (allH_lk hlx i) (renB_lk hrx) ?_ fun k hk hk' => by
          simp only [ρn,if_neg (show ¬ (n ≤ k ∨ (kq ≤ k ∧ k < kp)) by omega)]
        rw [hf _ (by omega)]
        exact if_pos (.inl (by omega))
    · simp only [Fn]
      split
      · exact no_dis _
      · split
        · exact dis_no _
        · exact h2.dis i k hik
    · simp only [Fn]
      split
      · exact no_le _
      · rename_i hm
        exact fun b o hb => ⟨i,fun hm' => hm (.inr ((hmem i).2 (.inr hm'))),hb⟩
    · simp only [Fn] at hb
      split at hb
      · exact hb.elim
      · rename_i hm
        exact h2.dis i n (fun e => hm (.inr ((hmem i).2 (.inl e)))) l o hb (hlpr.2 o)
    · refine envs_le hρr ?_
      rw [← hP.us]
      exact List.map_congr_left fun i hi => if_pos (hkp i hi)
    · obtain ⟨u,e1,e2⟩ := hP.val i hi
      exact ⟨u,e1,hρr i u (by simp only [if_pos (hN.c' i hi)]; exact e2)⟩
    · exact hρr i u (by simp only [if_pos (show i < kq by omega)]; exact hP.pin i u hi hu)
  refine ⟨S2,ρy,F',⟨hold,fun b o h => h.2,fun b o h => h2.exS b o h.1,(by simp [hTl]),fun i u _ h => h,fun i hi => hG.new i (by simp only [List.length_cons] at hi ⊢; omega),fun i gb hi => ?_,fun i k hi hk hik => ?_,fun i hi => ?_,fun i hi => ?_,fun i hi => ?_⟩,hSS⟩
  · rw [hSS]
    cases i with
    | zero =>
      simp only [List.getElem?_cons_zero,Option.some.injEq] at hi
      subst hi
      exact .inr ⟨v0,hv0,us,hus,ρn,Fn,hpkd⟩
    | succ i =>
      simp only [List.getElem?_cons_succ] at hi
      have hilT : i < HT.length := (List.getElem?_eq_some_iff.1 hi).1
      have hil : i < HS.length := by omega
      obtain ⟨u,hu⟩ := hlive i hil
      have hl1 : lkG ((n,.lp l rj) :: (n,.lp l rb) :: (upOf (thF L) 1 HT ++ (deads θc ++ hx'))) (thF L (i + 1)) = gb.ren (thF L) := by
        have hne : thF L (i + 1) ≠ n := fun e => hns (e ▸ hths (i + 1) (by omega) (by omega))
        simp only [lkG,beq_ne hne,cond_false]
        have hki : keyIn (upOf (thF L) 1 HT) (thF L (i + 1)) := by
          obtain ⟨gb',hm⟩ := upOf_has (f := thF L) (H := HT) (k := 1) (i := i) hilT
          rw [Nat.add_comm] at hm
          exact ⟨gb',hm⟩
        obtain ⟨k,gb',q1,q2⟩ := upOf_mem (lkG_key _ (deads θc ++ hx') _ hki)
        obtain ⟨e1,e2⟩ := Prod.mk.inj q2
        have hk := (List.getElem?_eq_some_iff.1 q1).1
        have : 1 + k = i + 1 := Classical.byContradiction fun hne' => nodupB_inj hndL (i + 1) (1 + k) (by omega) (by omega) (fun e => hne' e.symm) e1
        rw [e2]
        have : k = i := by omega
        subst this
        rw [hi] at q1
        cases q1
        rfl
      have hr := h2.root (thF L (i + 1))
      simp only at hr
      rw [hl1] at hr
      rcases hr with e | ⟨u',e1,e2⟩
      · refine .inl ?_
        cases gb <;> simp [GB.ren] at e ⊢
      · rw [hpin (i + 1) (by omega) (by omega)] at e1
        refine .inr ⟨u',e1,?_⟩
        show RepG w2 S1 ρy gb u' (if i + 1 = 0 then F0 else F1 (thF L (i + 1)))
        rw [if_neg (by omega)]
        have e3 : RepG w2 S1 (fun k => ρ1 (thF L k)) gb u' (F1 (thF L (i + 1))) := RepG.ren.1 e2
        have hz := renL_get hT.z hi
        have e4 : RepG w2 S1 (fun k => ρ1 (thF L (k - 1 + 1))) gb u' (F1 (thF L (i + 1))) := RepG.ren (f := fun k => k - 1 + 1) (ρ := fun k => ρ1 (thF L k)) |>.1 (hz.symm ▸ e3)
        have e5 : RepG w2 S1 (fun k => ρy (k - 1 + 1)) gb u' (F1 (thF L (i + 1))) := RepG.ltE (fun k hk => (hpin (k - 1 + 1) (by omega) (by omega)).symm) e4 (allG_get hT.a hi)
        exact hz ▸ (RepG.ren (f := fun k => k - 1 + 1) (ρ := ρy) |>.2 e5)
  · have hi' : i < HS.length + 1 := by simp only [List.length_cons] at hi; omega
    have hk' : k < HS.length + 1 := by simp only [List.length_cons] at hk; omega
    have key : ∀ q,q < HS.length + 1 → q ≠ 0 → Foot.dis F0 (F1 (thF L q)) := fun q hq hne b o ⟨i,hi,hb⟩ hb' => h2.dis i (thF L q) (fun e => hi (e ▸ hths q hq hne)) b o hb hb'
    simp only [F']
    by_cases h0 : i = 0
    · rw [if_pos h0,if_neg (by omega)]
      exact key k hk' (by omega)
    · rw [if_neg h0]
      by_cases h1 : k = 0
      · rw [if_pos h1]; exact (key i hi' h0).symm
      · rw [if_neg h1]; exact h2.dis _ _ (nodupB_inj hndL i k (by omega) (by omega) hik)
  · simp only [F']
    split
    · exact fun b o ⟨i,_,hb⟩ hs => h2.disS i b o hb hs.1
    · exact fun b o hb hs => h2.disS _ b o hb hs.1
  · simp only [F']
    split
    · exact fun b o ⟨i,_,hb⟩ => h2.own i b o hb
    · exact h2.own _
  · simp only [F']
    split
    · exact fun b o ⟨i,_,hb⟩ => h2.ex i b o hb
    · exact h2.ex _
theorem round_inT {w : World} {S : Foot} {ρy : Env} {Fy : Nat → Foot} {vs : List Value} (hN : RNums g t0 n kq kp θc θp θu cy [] HS) (hys : ltA (HS.length + 1) ys = true) (htm : tm.size = g.n) {ps : List Nat} (hps : ∀ p ∈ ps,p < g.n)
    (hkx : keysB kq kp n hx = true) (hlx : allH n hx = true) (hrx : renB (gapF kq kp n) hx) (hA : RepA w S ρy ys vs) (hG : Given w S ρy Fy (.opq (pk g tm ρs t0 hx n θc θp l r0) cy :: HS)) {us : List Value} {ρ : Env} {Fr : Nat → Foot} (hus : cy.map ρy = us.map some) (hP : Pkd g tm ρs t0 hx n θc θp l r0 w S us (Fy 0) ρ Fr) {v0 : Value} (hv0 : ρy 0 = some v0) :
    ∃ ρ2 F2,Rel ⟨g.n,w,upTo Fy (HS.length + 1),S,kp,ρ2,some l,[]⟩ ⟨parT ps (ys.map (SV.ren (thF (n :: (θp ++ θu))))) t0,(n,.lp l r0) :: (upOf (thF (n :: (θp ++ θu))) 1 HS ++ (deads θc ++ hx)),n + 1⟩ { tmps := (ps.zip vs).foldl (fun tm x => tm.setIfInBounds x.1 x.2) tm,defers := [] } w S ρ2 F2 ∧
      (∀ i,n + 1 ≤ i → ρ2 i = none) ∧ (∀ i,i < kq → ρ2 i = ρ i) ∧ (∀ i,i < HS.length + 1 → ρ2 (thF (n :: (θp ++ θu)) i) = ρy i) := by
  obtain ⟨ρ2,F2,h,h1,h2,h3⟩ := round_in (vs := []) (ps := ps) hN htm hps hkx hlx hrx rfl hG hus hP hv0
  have e1 : parT ps [] t0 = t0 := by cases ps <;> rfl
  rw [e1,List.zip_nil_right,List.foldl_nil] at h
  have hA' : ∀ {ys : List SV} {vs : List Value},ltA (HS.length + 1) ys = true → RepA w S ρy ys vs → RepA w S ρ2 (ys.map (SV.ren (thF (n :: (θp ++ θu))))) vs := by
    intro ys
    induction ys with
    | nil => intro vs _ h; exact h
    | cons y ys ih =>
      intro vs hl h
      simp only [ltA,Bool.and_eq_true] at hl
      simp only [RepA] at h
      obtain ⟨v,us,rfl,q1,q2⟩ := h
      refine ⟨v,us,rfl,RepS.ren.2 (RepS.ltE (fun i hi => h3 i hi) q1 hl.1),ih hl.2 q2⟩
  refine ⟨ρ2,F2,⟨?_,h.defers,?_,h.root,h.dis,h.disS,h.own,h.ex,h.exS,h.old,h.inS,h.newS,h.pin,h.tab,h.fin⟩,h1,h2,h3⟩
  · rw [← htm]; exact par_size
  · exact par_rep (hA' hys hA) (fun p hp => by rw [htm]; exact hps p hp) h.slot
theorem yield_okT {HT : List GB} (hT : TellsT HS HT) (hN : RNums g t0 n kq kp θc θp θu cy [] HS) (hys : ltA (HS.length + 1) ys = true) (htm : tm.size = g.n) (htmp : r0.tmps = tm) (hps : ∀ p ∈ r0.params.toList,p < g.n) (hyl : ys.length = r0.params.toList.length)
    (hkx : keysB kq kp n hx = true) (hlx : allH n hx = true) (hrx : renB (gapF kq kp n) hx) (hkx' : keysB kq kp n hx' = true) (hlx' : allH n hx' = true) (hrx' : renB (gapF kq kp n) hx')
    (hr : ∀ (w0 : World) (F0 S0 : Foot) (ρ0 : Env) (r : Loop),GWp P ⟨g.n,w0,F0,S0,kp,ρ0,some l,[]⟩ r0.assign ⟨parT r0.params.toList (ys.map (SV.ren (thF (n :: (θp ++ θu))))) t0,(n,.lp l r) :: (upOf (thF (n :: (θp ++ θu))) 1 HS ++ (deads θc ++ hx)),n + 1⟩
      (qAsg P ⟨g.n,w0,F0,S0,kp,ρ0,some l,[]⟩ r0.body n l r (qRound kp (fun (_ : Unit) => ⟨[],(n,.lp l (busy r)) :: (upOf (thF (n :: (θp ++ θu))) 1 HT ++ (deads θc ++ hx')),n + 1⟩) ((),j)))) :
    DoesW (YC P l) ys (.opq (pk g tm ρs t0 hx n θc θp l (recJ r0 none)) cy :: HS) (.one (.d (.sc (.bool j.isNone)))) (.opq (pk g tm ρs t0 hx' n θc θp l (recJ r0 j)) cy :: HT) := by
  intro vs w S ρy Fy hA hG
  have h0 := hG.roots 0 _ rfl
  rcases h0 with h0 | ⟨v0,hv0,us,hus,ρ,Fr,hP⟩
  · cases h0
  obtain ⟨ρ2,F2,hrel,hfr,hq,hL⟩ := round_inT (ps := r0.params.toList) hN hys htm hps hkx hlx hrx hA hG hus hP hv0
  have hvl : vs.length = r0.params.toList.length := by rw [repA_len hA,hyl]
  have hloop := mapAt_of hP.rcd
  have hrun := run_yield (P := P) (args := vs.toArray) hloop (by simp [recJ]; simpa using hvl)
  have hfold : (((recJ r0 none).params.zip vs.toArray).foldl (fun tmps x => tmps.setIfInBounds x.1 x.2) (recJ r0 none).tmps) = (r0.params.toList.zip vs).foldl (fun tm x => tm.setIfInBounds x.1 x.2) tm := by
    rw [← htmp,← Array.foldl_toList,Array.toList_zip]
    rfl
  refine ⟨_,_,_,_,hrun,roundIn_of_wpIn (F := fen none) trivial ?_⟩
  have hw := (hr w (upTo Fy (HS.length + 1)) S ρ2 (recJ r0 none)).run _ w S ρ2 F2 hrel (fun i hi => hfr i hi)
  rw [← hfold] at hw
  refine wpIn_mono hw ?_
  rintro e a1 w1 ⟨st1,S1,ρ1,F1,hrel1,hf1,hq1⟩
  cases hq1 with
  | go hl hbody =>
    have hlp : mapAt w1 l = some (.loop (recJ r0 none)) := by
      rcases hrel1.root n with e | ⟨u,_,e⟩
      · rw [hl] at e; cases e
      · rw [hl] at e; exact e.1
    have hbeg := run_beginRound (P := P) (mapAt_of hlp) rfl
    refine ⟨_,hbeg,?_⟩
    have hrel1' := hrel1.putLp hl (busy (recJ r0 none))
    refine wpIn_mono (hbody.run a1 _ S1 ρ1 F1 hrel1' hf1) ?_
    rintro e a2 w2 ⟨st2,S2,ρ3,F3,hrel2,hf2,hq2⟩
    have fin : ∀ (θ : List Nat) (jj : Option Code) (s : St),StLe kp θ st2 s → SameSt s ⟨[],(n,.lp l (busy (recJ r0 none))) :: (upOf (thF (n :: (θp ++ θu))) 1 HT ++ (deads θc ++ hx')),n + 1⟩ → jj = j →
        ∃ v w',(Instr.endRound l jj).run P w2 = .ok v w' ∧ ∃ v' S1 ρ' F',Ending.returned v = .returned v' ∧ Ret w w' S S1 ρy ρ' Fy F' (HS.length + 1) (.opq (pk g tm ρs t0 hx' n θc θp l (recJ r0 j)) cy :: HT) ∧ RepS w' (S.or S1) ρ' (.one (.d (.sc (.bool j.isNone)))) v' := by
      rintro θ jj s hle hss rfl
      obtain ⟨ρ4,F4,hrel4',hf4⟩ := hle.rel hrel2
      have hrel4 := hss.rel hrel4'
      have hlp4 : mapAt w2 l = some (.loop (busy (recJ r0 none))) := by
        have := hrel4.root n
        simp only [lkG,Nat.beq_refl,cond_true] at this
        rcases this with e | ⟨u,_,e⟩
        · cases e
        · exact e.1
      obtain ⟨S5,ρ5,F5,hret,_⟩ := round_outT (rj := recJ r0 jj) hT hN hkx' hlx' hrx' hG hus hP hv0 hq hL hrel4 (fun i hi => hf4 i (by rw [hss.n]; exact hi)) v0
      exact ⟨_,_,run_endRound jj (mapAt_of hlp4),_,S5,ρ5,F5,rfl,hret,rfl,rfl⟩
    cases hq2 with
    | next θ hx hl hs => exact fin θ none _ hl hs hx.symm
    | ret θ hx hl hs => exact fin θ (some .ret) _ hl hs hx.symm
    | exit θ hx hl hs => exact fin θ (some (.exit _)) _ hl hs hx.symm
end
section
variable {P : Program} {g : Gh} {Q : Exit → St → Prop}
theorem g_rangeT {X A : Type} {fo : Operand} {ps : Array Tmp} {assign body : Code} {f : Nat} {c0 : C} {cap : List C} {ags : List SV} {H H' : List GB} {res : SV}
    (kq kp : Nat) (θc θp θu cH cy : List Nat) (hs : X → List (Nat × GB)) {h1 : List (Nat × GB)} {t0 : List (Nat × SV)} {n : Nat}
    (ya : A → List SV) (HS HT : A → List GB) (hT : ∀ a,TellsT (HS a) (HT a)) (bd : X → A → X × Option Code) (Pre : X → A → Prop) (x0 xe : X) (je : Option Code)
    (hrd : g.rd = none) (hdf : g.df = [])
    (hc : opd ⟨t0,hs x0 ++ h1,n⟩ fo = .one c0) (hv : fnv c0 = some (.func f,cap)) (hE : entB P f = true)
    (ha : cap.map SV.one = ags.map (SV.ren (calF (n :: θc) (n + 1)))) (hH : rootsEq (calF (n :: θc) (n + 1)) ⟨t0,hs x0 ++ h1,n⟩ 1 H)
    (hD : ∀ (l : Nat) (R : X → Option Code → Opq),(∀ x a,Pre x a → DoesW (YC P l) (ya a) (.opq (R x none) cy :: HS a) (.one (.d (.sc (.bool (bd x a).2.isNone)))) (.opq (R (bd x a).1 (bd x a).2) cy :: HT a)) →
      Does P f (.one (.d (.fn (.yield l) [])) :: ags) (.opq (R x0 none) cH :: H) res (.opq (R xe je) cH :: H'))
    (hk : H.length = θc.length) (hk' : Nat.ble θc.length H'.length = true) (hθ : nodupB θc = true) (hcH : cH.all (fun i => Nat.blt i (H.length + 1)) = true) (hcHp : cH.map (calF (n :: θc) (n + 1)) = θp)
    (hlt : ltA (H.length + 1) ags = true) (hltH : allG (H.length + 1) H = true) (hltr : res.lt (H'.length + 1) = true) (hltH' : allG (H'.length + 1) H' = true)
    (hN : ∀ a,RNums g t0 n kq kp θc θp θu cy [] (HS a)) (hys : ∀ a,ltA ((HS a).length + 1) (ya a) = true) (hqn : Nat.ble kq n = true) (hkq : Nat.ble g.k kq = true) (htk : allT kq t0 = true) (hck : θc.all (fun i => Nat.blt i kq) = true) (hpk : θp.all (fun i => θc.any (Nat.beq i)) = true)
    (hkx : ∀ x,keysB kq kp n (hs x ++ h1) = true) (hlx : ∀ x,allH n (hs x ++ h1) = true) (hrx : ∀ x,renB (gapF kq kp n) (hs x ++ h1))
    (hps : ps.toList.all (fun p => Nat.blt p g.n) = true) (hyl : ∀ a,(ya a).length = ps.toList.length)
    (hr : ∀ x a,Pre x a → ∀ (l : Nat) (w0 : World) (F0 S0 : Foot) (ρ0 : Env) (r : Loop),GWp P ⟨g.n,w0,F0,S0,kp,ρ0,some l,[]⟩ assign ⟨parT ps.toList ((ya a).map (SV.ren (thF (n :: (θp ++ θu))))) t0,(n,.lp l r) :: (upOf (thF (n :: (θp ++ θu))) 1 (HS a) ++ (deads θc ++ (hs x ++ h1))),n + 1⟩
      (qAsg P ⟨g.n,w0,F0,S0,kp,ρ0,some l,[]⟩ body n l r (qRound kp (fun (x' : X) => ⟨[],(n,.lp l (busy r)) :: (upOf (thF (n :: (θp ++ θu))) 1 (HT a) ++ (deads θc ++ (hs x' ++ h1))),n + 1⟩) (bd x a))))
    (hend : match je with
      | none => Q .normal ⟨t0,upOf (calF (n :: θc) (n + 1)) 1 H' ++ (deads θc ++ (hs xe ++ h1)),n + 1 + (H'.length - θc.length)⟩
      | some c => GWp P g c ⟨t0,upOf (calF (n :: θc) (n + 1)) 1 H' ++ (deads θc ++ (hs xe ++ h1)),n + 1 + (H'.length - θc.length)⟩ Q) :
    GWp P g (.rangeFunc fo ps assign body) ⟨t0,hs x0 ++ h1,n⟩ Q := by
  refine ⟨fun a w S ρ F hrel hf => ?_⟩
  have hqn' := Nat.le_of_ble_eq_true hqn
  have hkq' := Nat.le_of_ble_eq_true hkq
  have hk'' := Nat.le_of_ble_eq_true hk'
  have hc' : ∀ i ∈ θc,i < kq := fun i hi => blt_lt ((List.all_eq_true.1 hck) i hi)
  have hp' : ∀ i ∈ θp,i ∈ θc := fun i hi => by
    have := (List.all_eq_true.1 hpk) i hi
    rw [List.any_eq_true] at this
    obtain ⟨j,hj,e⟩ := this
    rw [Nat.eq_of_beq_eq_true e]
    exact hj
  have hcal : ∀ i,i < θc.length → calF (n :: θc) (n + 1) (1 + i) = thF θc i := fun i hi => by
    rw [calF_eq]
    have : Nat.blt (1 + i) (n :: θc).length = true := Nat.ble_eq_true_of_le (by simp only [List.length_cons]; omega)
    rw [this,Nat.add_comm]; rfl
  have hthm : ∀ i,i < θc.length → thF θc i ∈ θc := fun i hi => by
    simp only [thF,List.getD_eq_getElem?_getD,List.getElem?_eq_getElem hi,Option.getD_some]; exact List.getElem_mem _
  have hlive : ∀ i ∈ θc,∃ u,ρ i = some u := fun i hi => by
    obtain ⟨q1,q2⟩ := th_idx hi
    have hi' : θc.idxOf i < H.length := by omega
    obtain ⟨e1,e2⟩ := rootsEq_get hH (List.getElem?_eq_getElem hi')
    rw [hcal _ q1,q2] at e1
    rcases hrel.root i with r0 | ⟨u,r1,_⟩
    · simp only at r0 e1
      rw [e1] at r0
      cases hg : H[θc.idxOf i] <;> rw [hg] at r0 e2 <;> simp [GB.ren,GB.lives] at r0 e2
    · exact ⟨u,r1⟩
  refine wpIn_rangeFunc fun fn _ => ?_
  let r0 : Loop := { state := .ready,pending := none,fn,tmps := a.tmps,params := ps,assign,body,defers := w.heap.size }
  let l := w.heap.size + 1
  let a1 : Act := { a with defers := [mkd w.heap.size] ++ a.defers }
  let w1 := (w.alloc (.deferred (some []))).alloc (.loop r0)
  obtain ⟨ρI,FI,hrI,hfI,hρI⟩ := range_in (r0 := r0) (θp := θp) hrel hf hkq' hqn' hc' hp' hlive hdf
  obtain ⟨vs,e1,e2⟩ := fnv_eval (opd_one hrel hc) hv
  have henter : (Instr.enterLoop fn a.tmps ps assign body (fen g.rd).round).run P w = .ok (l,[mkd w.heap.size]) w1 := by
    show (Instr.enterLoop fn a.tmps ps assign body g.rd).run P w = _
    rw [hrd]
    exact run_enterLoop_outer fn a.tmps ps assign body
  have hres : (resolve a.eval (rangeCall fo l) 0).run P w1 = .ok { target := .fn (.func f) vs,args := #[.func (.yield l) #[] #[]] } w1 := by
    have e3 : a.eval (.const (.func (.yield l) #[] #[])) = .func (.yield l) #[] #[] := rfl
    simp [resolve,rangeCall,e1,e3,Deferred.ofValue]
  have hinv : (invoke (.fn (.func f) vs) #[.func (.yield l) #[] #[]]).run P w1 = .ok (.enter f (#[Value.func (.yield l) #[] #[]] ++ vs)) w1 := by
    have := run_callFunc hE (#[Value.func (.yield l) #[] #[]] ++ vs) w1
    rw [← this]
    simp [invoke]
  refine ⟨l,[mkd w.heap.size],w1,_,w1,f,_,w1,henter,hres,fun _ _ => trivial,hinv,fen_depth,calls_in ?_⟩
  -- the call
  let R : X → Option Code → Opq := fun x j => pk g a.tmps ρ t0 (hs x ++ h1) n θc θp l (recJ r0 j)
  have hDoes := hD l R fun x aa hpre => yield_okT (r0 := r0) (hT aa) (hN aa) (hys aa) hrel.size rfl (fun p hp => blt_lt ((List.all_eq_true.1 hps) p hp)) (hyl aa) (hkx x) (hlx x) (hrx x) (hkx (bd x aa).1) (hlx (bd x aa).1) (hrx (bd x aa).1)
    fun w0 F0 S0 ρ0 r => g_mono (hr x aa hpre l w0 F0 S0 ρ0 r) fun e st hq => by
      cases hq with
      | go h1 h2 =>
        refine .go h1 (g_mono h2 fun e st hq => ?_)
        cases hq with
        | next θ hx hl hs => exact .next θ hx hl ⟨hs.t,hs.n,hs.h⟩
        | ret θ hx hl hs => exact .ret θ hx hl ⟨hs.t,hs.n,hs.h⟩
        | exit θ hx hl hs => exact .exit θ hx hl ⟨hs.t,hs.n,hs.h⟩
  have hsel : ∀ i ∈ θc,lkG ((n,GB.opq (R x0 none) θp) :: (θc.map fun k => (k,lkG (hs x0 ++ h1) k))) i = lkG (hs x0 ++ h1) i := fun i hi => by
    have := hc' i hi
    simp only [lkG,beq_ne (show i ≠ n by omega),cond_false]
    exact lkG_sel.1 hi
  have hren : ∀ j : Option Code,∀ x,(GB.opq (R x j) cH).ren (calF (n :: θc) (n + 1)) = .opq (R x j) θp := fun j x => by simp only [GB.ren,hcHp]
  have hA : RepA w1 S ρI (.one (.d (.fn (.yield l) [])) :: cap.map .one) (Value.func (.yield l) #[] #[] :: vs.toList) := by
    refine ⟨_,_,rfl,⟨#[],rfl,rfl⟩,repA_one ?_⟩
    have hk : Keeps no w w1 := (keeps_alloc _).trans (keeps_alloc _) (no_le _)
    exact e2.keep (hk.agree hrel.exS (dis_no _)) (le_refl _) fun i u hu => by
      have : i ≠ n := fun e => by rw [e,hf n (Nat.le_refl _)] at hu; cases hu
      rw [hρI i this]; exact hu
  have hup : ∀ i gb,(i,gb) ∈ upOf (calF (n :: θc) (n + 1)) 0 (.opq (R xe je) cH :: H') → (i ∈ n :: θc ∨ (n + 1 ≤ i ∧ i < n + 1 + (H'.length - θc.length))) := fun i gb hm => by
    obtain ⟨k,gb',q1,q2⟩ := upOf_mem hm
    have hk1 := (List.getElem?_eq_some_iff.1 q1).1
    simp only [List.length_cons] at hk1
    obtain ⟨e1,e2⟩ := Prod.mk.inj q2
    rw [e1,Nat.zero_add,calF_eq]
    cases hb : Nat.blt k (n :: θc).length with
    | true =>
      simp only [cond_true]
      have hi' := blt_lt hb
      left
      simp only [thF,List.getD_eq_getElem?_getD,List.getElem?_eq_getElem hi',Option.getD_some]; exact List.getElem_mem _
    | false =>
      simp only [cond_false]
      have : ¬ k < (n :: θc).length := fun hlt => by
        have : Nat.blt k (n :: θc).length = true := Nat.ble_eq_true_of_le hlt
        rw [this] at hb; cases hb
      simp only [List.length_cons] at this ⊢
      right; omega
  have hcall := call_done (Callee := fun vs w R => Calls P f vs.toArray w R) (m := n + 1) (θ := n :: θc) (ld := []) (args := .one (.d (.fn (.yield l) [])) :: cap.map .one) (fun _ _ _ _ h hr => Calls.mono h hr) hDoes
    (.cons .refl (ha ▸ asle_refl _))
    ⟨⟨by
      rw [hren]
      simp only [calF,lkG,Nat.beq_refl,cond_true]
      rfl,rfl⟩,rootsEq_at fun i gb hi => by
        obtain ⟨e1,e2⟩ := rootsEq_get hH hi
        have hil : i < θc.length := by rw [← hk]; exact (List.getElem?_eq_some_iff.1 hi).1
        have hm : calF (n :: θc) (n + 1) (1 + i) ∈ θc := by rw [hcal i hil]; exact hthm i hil
        rw [show 0 + 1 + i = 1 + i by omega]
        refine ⟨?_,e2⟩
        rw [← e1]
        exact hsel _ hm⟩
    (by simp [hk]) (by
      simp only [nodupB,Bool.and_eq_true,Bool.not_eq_true',List.any_eq_false]
      refine ⟨fun i hi e => ?_,hθ⟩
      have := hc' i hi
      have := Nat.eq_of_beq_eq_true e
      omega) (by
      simp only [List.all_cons,Bool.and_eq_true,List.all_eq_true]
      refine ⟨Nat.ble_eq_true_of_le (Nat.le_refl _),fun i hi => Nat.ble_eq_true_of_le ?_⟩
      have := hc' i hi
      show i + 1 ≤ n + 1
      omega) rfl (.inl rfl)
    (by simp only [ltA,Bool.and_eq_true]; exact ⟨rfl,hlt⟩) (by simp only [allG,Bool.and_eq_true]; exact ⟨hcH,hltH⟩) hltr (by
      simp only [allG,Bool.and_eq_true]
      refine ⟨?_,hltH'⟩
      refine List.all_eq_true.2 fun i hi => ?_
      have := blt_lt ((List.all_eq_true.1 hcH) i hi)
      exact Nat.ble_eq_true_of_le (by simp only [List.length_cons]; omega)) rfl rfl hrI
    (fun x hx => by
      rcases hup x.1 x.2 hx with h | h
      · exact .inl h
      · exact .inr (hfI _ h.1)) hA
  rw [show (#[Value.func (.yield l) #[] #[]] ++ vs) = (Value.func (.yield l) #[] #[] :: vs.toList).toArray by simp]
  refine Calls.mono hcall ?_
  rintro e w' ⟨v,S1,ρ',F',rfl,hdone,_⟩
  have hrD := Rel.done hrI hdone (n := n + 1 + (H'.length - θc.length)) (dst := none) (v := v) (sv := .any) (fun _ h => by cases h) trivial
  have hrD' : Rel g ⟨t0,(n,.opq (pk g a.tmps ρ t0 (hs xe ++ h1) n θc θp l (recJ r0 je)) θp) :: (upOf (calF (n :: θc) (n + 1)) 1 H' ++ ((n,GB.opq (R x0 none) θp) :: (θc.map fun k => (k,lkG (hs x0 ++ h1) k)))),n + 1 + (H'.length - θc.length)⟩ a1 w' (S.or S1) ρ' (mrg FI F' (upOf (calF (n :: θc) (n + 1)) 0 (.opq (R xe je) cH :: H'))) := by
    have e : upOf (calF (n :: θc) (n + 1)) 0 (.opq (R xe je) cH :: H') = (n,.opq (R xe je) θp) :: upOf (calF (n :: θc) (n + 1)) 1 H' := by
      simp only [upOf,hren]
      rfl
    rw [e] at hrD ⊢
    exact hrD
  obtain ⟨hml,ρF,FF,hF,hFρ⟩ := range_out (a := a1) (kq := kq) (kp := kp) (r2 := { recJ r0 je with state := .exhausted }) hrD' hkq' hqn' hc' htk (hkx xe) (hlx xe) hltH' hk'' (fun i hi u hu => hdone.sub i u (by
    have := hc' i hi
    rw [hρI i (by omega)]; exact hu))
  have hfF : ∀ i,n + 1 + (H'.length - θc.length) ≤ i → ρF i = none := fun i hi => by
    rw [hFρ i (by omega)]
    refine hdone.dom i (hfI i (by omega)) fun gb hm => ?_
    rcases hup i gb hm with h | h
    · rcases List.mem_cons.1 h with h | h
      · omega
      · have := hc' i h; omega
    · omega
  have hend' := run_endLoop (P := P) (mapAt_of hml) (by simp only [recJ]; split <;> simp)
  refine ⟨_,_,hend',?_⟩
  cases je with
  | none => exact ⟨_,_,_,_,hF,fun i hi => hfF i hi,hend⟩
  | some c => exact hend.run _ _ _ _ _ hF fun i hi => hfF i hi
end
section
variable {g : Gh} {Q : Exit → St → Prop} {t t0 : List (Nat × SV)} {h h0 hE : List (Nat × GB)} {n n1 : Nat}
inductive PickRo : List Nat → List (Nat × GB) → List (Nat × GB) → Prop where
  | nil {t : List (Nat × GB)} : PickRo [] t []
  | row {i z : Nat} {l : List Nat} {xs : List D} {t r : List (Nat × GB)} (e : lkG t i = .row z xs) (h : PickRo l t r) : PickRo (i :: l) t ((i,.row z xs) :: r)
  | sh {i z : Nat} {l : List Nat} {xs : List D} {t r : List (Nat × GB)} (e : lkG t i = .sh z xs) (h : PickRo l t r) : PickRo (i :: l) t ((i,.sh z xs) :: r)
  | bx {i : Nat} {l : List Nat} {cs : List C} {t r : List (Nat × GB)} (e : lkG t i = .bx cs) (h : PickRo l t r) : PickRo (i :: l) t ((i,.bx cs) :: r)
  | mp {i : Nat} {l : List Nat} {kv : List (Value × Value)} {t r : List (Nat × GB)} (e : lkG t i = .mp kv) (h : PickRo l t r) : PickRo (i :: l) t ((i,.mp kv) :: r)
  | opq {i : Nat} {l : List Nat} {R : Opq} {cs : List Nat} {t r : List (Nat × GB)} (e : lkG t i = .opq R cs) (h : PickRo l t r) : PickRo (i :: l) t ((i,.opq R cs) :: r)
theorem rangeT {X A : Type} {fo : Operand} {ps : Array Tmp} {assign body : Code} {f : Nat} {c0 : C} {cap : List C} {ags : List SV} {H H' : List GB} {res : SV}
    (live ex : List Nat) (uh : X → List (Nat × GB)) (θ0 : List Nat) (kq kp : Nat) (θc θp θu cH cy : List Nat) (ya : A → List SV) (HS HT : A → List GB) (bd : X → A → X × Option Code) (Pre : X → A → Prop) (x0 : X) {xe : X} {je : Option Code}
    (hp : Pick live t t0 := by repeat (first | exact Pick.nil | apply Pick.one rfl | apply Pick.agg rfl | apply Pick.tup rfl | apply Pick.any)) (hqE : PickRo θc h hE := by repeat (first | exact PickRo.nil | apply PickRo.bx rfl | apply PickRo.row rfl | apply PickRo.sh rfl | apply PickRo.mp rfl | apply PickRo.opq rfl)) (hq : PickH (ex ++ θc) h n1 h0 := by repeat (first | exact PickH.zero | apply PickH.row rfl rfl | apply PickH.sh rfl rfl | apply PickH.bx rfl rfl | apply PickH.mp rfl rfl | apply PickH.lp rfl rfl | apply PickH.bld rfl rfl | apply PickH.opq rfl rfl | apply PickH.out)) (hin : StLe g.k θ0 ⟨t,h,n⟩ ⟨t0,uh x0 ++ (hE ++ h0),n1⟩ := by exact stk)
    (hrd : g.rd = none := by exact rfl) (hdf : g.df = [] := by exact rfl)
    (hc : opd ⟨t0,uh x0 ++ (hE ++ h0),n1⟩ fo = .one c0 := by exact rfl) (hv : fnv c0 = some (.func f,cap) := by exact rfl) (hE' : entB Tryz.prog f = true := by exact fQ rfl)
    (hD : ∀ (l : Nat) (R : X → Option Code → Opq),(∀ x a,Pre x a → DoesW (YC Tryz.prog l) (ya a) (.opq (R x none) cy :: HS a) (.one (.d (.sc (.bool (bd x a).2.isNone)))) (.opq (R (bd x a).1 (bd x a).2) cy :: HT a)) →
      Does Tryz.prog f (.one (.d (.fn (.yield l) [])) :: ags) (.opq (R x0 none) cH :: H) res (.opq (R xe je) cH :: H'))
    (ha : cap.map SV.one = ags.map (SV.ren (calF (n1 :: θc) (n1 + 1))) := by exact rfl) (hH : rootsEq (calF (n1 :: θc) (n1 + 1)) ⟨t0,uh x0 ++ (hE ++ h0),n1⟩ 1 H := by repeat (first | exact trivial | refine And.intro ?_ ?_ | exact rfl))
    (hk : H.length = θc.length := by exact rfl) (hk' : Nat.ble θc.length H'.length = true := by exact rfl) (hθ : nodupB θc = true := by exact rfl) (hcH : cH.all (fun i => Nat.blt i (H.length + 1)) = true := by exact rfl) (hcHp : cH.map (calF (n1 :: θc) (n1 + 1)) = θp := by exact rfl)
    (hlt : ltA (H.length + 1) ags = true := by exact rfl) (hltH : allG (H.length + 1) H = true := by exact rfl) (hltr : res.lt (H'.length + 1) = true := by exact rfl) (hltH' : allG (H'.length + 1) H' = true := by exact rfl)
    (hys : ∀ a,ltA ((HS a).length + 1) (ya a) = true := by (intro a; exact rfl)) (hN : ∀ a,RNums g t0 n1 kq kp θc θp θu cy [] (HS a) := by (intro a; exact ⟨Nat.le_of_ble_eq_true rfl,Nat.le_of_ble_eq_true rfl,Nat.le_of_ble_eq_true rfl,rfl,rfl,rfl,rfl,rfl,rfl,rfl,rfl,rfl,rfl,(by repeat (first | exact trivial | refine And.intro ?_ ?_ | exact rfl)),rfl⟩)) (hT : ∀ a,TellsT (HS a) (HT a) := by (intro a; exact ⟨rfl,rfl,(by repeat (first | exact trivial | refine And.intro ?_ ?_ | exact rfl))⟩)) (hqn : Nat.ble kq n1 = true := by exact rfl) (hkq : Nat.ble g.k kq = true := by exact rfl) (htk : allT kq t0 = true := by exact rfl) (hck : θc.all (fun i => Nat.blt i kq) = true := by exact rfl) (hpk : θp.all (fun i => θc.any (Nat.beq i)) = true := by exact rfl)
    (hkx : ∀ x,keysB kq kp n1 (uh x ++ (hE ++ h0)) = true := by (intro x; exact rfl)) (hlx : ∀ x,allH n1 (uh x ++ (hE ++ h0)) = true := by (intro x; exact rfl)) (hrx : ∀ x,renB (gapF kq kp n1) (uh x ++ (hE ++ h0)) := by (intro x; repeat (first | exact trivial | refine And.intro ?_ ?_ | exact rfl)))
    (hno : ∀ x,(uh x ++ h0).all (fun y => !(θc.any (Nat.beq y.1))) = true := by (intro x; exact rfl)) (hEk : hE.all (fun x => θc.any (Nat.beq x.1)) = true := by exact rfl) (hps : ps.toList.all (fun p => Nat.blt p g.n) = true := by exact rfl) (hyl : ∀ a,(ya a).length = ps.toList.length := by (intro a; exact rfl))
    (hr : ∀ x a,Pre x a → ∀ (l : Nat) (w0 : World) (F0 S0 : Foot) (ρ0 : Env) (r : Loop),GWp Tryz.prog ⟨g.n,w0,F0,S0,kp,ρ0,some l,[]⟩ assign ⟨parT ps.toList ((ya a).map (SV.ren (thN (n1 :: (θp ++ θu))))) t0,(n1,.lp l r) :: (upOf (thN (n1 :: (θp ++ θu))) 1 (HS a) ++ (uh x ++ h0)),n1 + 1⟩
      (qAsg Tryz.prog ⟨g.n,w0,F0,S0,kp,ρ0,some l,[]⟩ body n1 l r (qRound kp (fun (x' : X) => ⟨[],(n1,.lp l (busy r)) :: (upOf (thN (n1 :: (θp ++ θu))) 1 (HT a) ++ (uh x' ++ h0)),n1 + 1⟩) (bd x a))))
    (hn : je = none → Q .normal ⟨t0,upOf (calF (n1 :: θc) (n1 + 1)) 1 H' ++ (deadR θc ++ (uh xe ++ (hE ++ h0))),n1 + 1 + (H'.length - θc.length)⟩)
    (hs : ∀ c,je = some c → GWp Tryz.prog g c ⟨t0,upOf (calF (n1 :: θc) (n1 + 1)) 1 H' ++ (deadR θc ++ (uh xe ++ (hE ++ h0))),n1 + 1 + (H'.length - θc.length)⟩ Q) :
    GWp Tryz.prog g (.rangeFunc fo ps assign body) ⟨t,h,n⟩ Q := by
  have hS : ∀ (A : List (Nat × GB)) (x : X) (i : Nat),lkG (A ++ (deads θc ++ (uh x ++ (hE ++ h0)))) i = lkG (A ++ (uh x ++ h0)) i := fun A x i => lkG_app A (same_out hEk (hno x)) i
  refine g_le hin (g_rangeT kq kp θc θp θu cH cy uh ya HS HT hT bd Pre x0 xe je hrd hdf hc hv hE' ha hH hD hk hk' hθ hcH hcHp hlt hltH hltr hltH' hN hys hqn hkq htk hck hpk hkx hlx hrx hps hyl (fun x a hp l w0 F0 S0 ρ0 r => ?_) ?_)
  · have := hr x a hp l w0 F0 S0 ρ0 r
    rw [← thF_eq] at this
    have hw := g_mono (Q' := qAsg Tryz.prog ⟨g.n,w0,F0,S0,kp,ρ0,some l,[]⟩ body n1 l r (qRound kp (fun (x' : X) => ⟨[],(n1,.lp l (busy r)) :: (upOf (thF (n1 :: (θp ++ θu))) 1 (HT a) ++ (deads θc ++ (uh x' ++ (hE ++ h0)))),n1 + 1⟩) (bd x a))) this fun e st hq => by
      cases hq with
      | go h1 h2 => exact .go h1 (g_mono h2 fun e st hq => hq.same fun x' => ⟨rfl,rfl,fun i => (hS ((n1,.lp l (busy r)) :: upOf (thF (n1 :: (θp ++ θu))) 1 (HT a)) x' i).symm⟩)
    refine g_same ?_ hw
    exact ⟨rfl,rfl,fun i => hS ((n1,.lp l r) :: upOf (thF (n1 :: (θp ++ θu))) 1 (HS a)) x i⟩
  · rw [← deads_eq] at hn hs
    cases je with
    | none => exact hn rfl
    | some c => exact hs c rfl
end
end Go.Proofs.YtighjcjmacajoaaGreatDoor
end
section
set_option linter.unusedVariables false
set_option linter.unusedSimpArgs false
set_option maxRecDepth 100000
set_option maxHeartbeats 4000000
namespace Go.Proofs.YtighjcjmacajoaaGreatDoor
open Go Foot
def itP {X : Type} (B : Int) (rt : Mach) (bd : X → List Int → X × Option Code) : Nat → X → List Int → X × Option Code
  | 0,x,_ => (x,none)
  | k + 1,x,q => if (bd x q).2.isSome = true then bd x q else match nxP B rt q with
    | none => ((bd x q).1,none)
    | some q' => itP B rt bd k (bd x q).1 q'
section
variable {X : Type} {B : Int} {rt : Mach} {bd : X → List Int → X × Option Code} {k : Nat} {x : X} {q q' : List Int} {O : X × Option Code}
theorem itP_out (h : (bd x q).2.isNone = false) (hO : itP B rt bd (k + 1) x q = O) : O = bd x q := by
  rw [← hO,itP,if_pos (by cases hh : (bd x q).2 <;> simp_all)]
theorem itP_end (h : (bd x q).2 = none) (hn : nxP B rt q = none) (hO : itP B rt bd (k + 1) x q = O) : ((bd x q).1,none) = O := by
  rw [← hO,itP,if_neg (by simp [h]),hn]
theorem itP_next (h : (bd x q).2 = none) (hn : nxP B rt q = some q') (hO : itP B rt bd (k + 1) x q = O) : itP B rt bd k (bd x q).1 q' = O := by
  rw [← hO]; conv => rhs; rw [itP,if_neg (by simp [h]),hn]
end
theorem preB110 {p : Prop} (h : p := by first | with_reducible assumption | omega | (simp only [List.length_append,List.length_cons,List.length_nil,List.length_set,List.length_replicate,List.length_take,List.length_drop,List.length_tail,List.length_dropLast,List.length_reverse] at *; omega) | exact mem_len (by assumption) (by omega) | (with_reducible refine Int.le_trans (Int.ofNat_le.2 (trimR_len _)) ?_; simp only [List.length_cons,List.length_tail]; omega) | (exact (ruAt_ok (by assumption) (by assumption) (by assumption)).2.1) | (exact (ruAt_ok (by assumption) (by assumption) (by assumption)).2.1) | (have := vMach_bd (by assumption); omega) | (simp only [mC_ch,mC_tu]; omega) | (have := vTag_bd (by assumption); omega) | (have := (‹Gd _ _›).le; omega) | (exact tgHalts_no (by assumption)) | (exact tgHead (by assumption) (by assumption) (by assumption)) | (exact Int.le_trans (tgStep_gd (by assumption) (by assumption) (by assumption) (by assumption)).le (by decide)) | (exact vTag_r (by assumption)) | (with_reducible refine Int.le_trans (Int.ofNat_le.2 (pushL_len _ _)) ?_; simp only [List.length_dropLast]; omega) | exact ls_at (by assumption) (by omega) | exact pt_gd (by assumption) | exact lv_at (by assumption) (by omega) | exact pt_gd (lv_at (by assumption) (by omega)) | exact (ask_ok (by assumption)).1 | exact (ask_ok (by assumption)).2.1 | exact (ask_ok (by assumption)).2.2.1 | exact (ask_ok (by assumption)).2.2.2 | trivial) : p := h
theorem paths_ok (st sy B : Int) (p : List Int) : Does Tryz.prog 66 [.one (.gv 0),.one (shI p)] [.bx (foC st sy B 0),foM B sy st 1] (.one (.fn (.func 127) [.gv 3,.gv 2])) [.bx (foC st sy B 0),foM B sy st 1,.bx [.gv 0],.bx [shI p]] := by
  refine does_of (k := 2) Tryz.func66 rfl Tryz.ntmps66 rfl rfl fun w F0 S0 ρ0 => ?_
  dsimp only [argT,argH]
  repeat' first|(apply n3;exact a_new (gb := .bx _) rfl;exact rfl;refine dA ?_)|(apply p3;exact pu1;exact rfl)|refine cd ?_
  repeat refine cr ?_
  refine ends_id ?_
  refine endK [?_,?_] (h2 := ?_) (h3 := ?_) (nd := ?_)
  rotate_left 2
  all_goals (repeat' first|exact ce0|refine ce ?_|refine ce2 ?_ ?_|(refine Or.inr (bx_eq rfl rfl ?_);(try dsimp only [C.ren,C.ren.all]);(try exact rfl))|exact SVLe.refl|refine ceb ?_)
  all_goals first | exact (show nodupB _ = true from rfl) | exact Or.inr rfl | (rfl)
theorem pathsIt_ok (st sy B : Int) (p : List Int) {X : Type} (l : Nat) (R : X → Option Code → Opq) (bd : X → List Int → X × Option Code) (Pre : X → List Int → Prop) (μX : X → Nat) (x0 : X) (m0 : Mach) (h1 : 1 ≤ st) (h2 : st ≤ 6) (h3 : 2 ≤ sy) (h4 : sy ≤ 6) (h5 : 0 ≤ B) (h6 : B ≤ 1000000) (hv : pth B (root sy st) p = some m0) (h0 : Pre x0 p) (hst : ∀ x q q',Pre x q → (bd x q).2 = none → nxP B (root sy st) q = some q' → Pre (bd x q).1 q' ∧ μX (bd x q).1 < μX x) (hY : ∀ x q,Pre x q → DoesW (YC Tryz.prog l) [.one (.gv 1)] [.opq (R x none) [],roI q] (.one (boo (bd x q).2.isNone)) [.opq (R (bd x q).1 (bd x q).2) [],.sh 1 (rows eI q)]) : Does Tryz.prog 127 [.one (.d (.fn (.yield l) [])),.one (.gv 4),.one (.gv 3)] [.opq (R x0 none) [],foM B sy st 1,.bx (foC st sy B 0),.bx [.gv 2],.bx [shI p]] (.tup []) [.opq (R (itP B (root sy st) bd (μX x0 + 1) x0 p).1 (itP B (root sy st) bd (μX x0 + 1) x0 p).2) [],foM B sy st 1,.bx (foC st sy B 0),.bx [.gv 2],.dead] := by
  have hr := root_ok h3 h4 h1 (show st ≤ 1000 by omega)
  have hpl := pth_len hr hv h4 h2 (by omega) (by omega)
  generalize hO : itP B (root sy st) bd (μX x0 + 1) x0 p = O
  refine does_of (k := 5) Tryz.func127 rfl Tryz.ntmps127 rfl rfl fun w F0 S0 ρ0 => ?_
  dsimp only [argT,argH]
  repeat' first|(apply p3;(exact pu1);exact rfl)|refine cd ?_|(apply w3;(exact a_st_bx rfl rfl rfl rfl (fN rfl rfl) (Nat.le_of_ble_eq_true rfl) rfl);exact rfl;refine dS ?_)|(apply c4 1;exact callK1 (θ := []) (hD := (clone_ok _ preB110));exact rfl;exact rfl;exact rfl;refine dM ?_)
  refine g_loop_id ?_
  refine loopK [0,1,2] [0,4,5] (fun y : X × List Int × Bool × Nat => (y.2.2.1 = true → Pre y.1 y.2.1 ∧ (∃ m,pth B (root sy st) y.2.1 = some m) ∧ μX y.1 < y.2.2.2 ∧ itP B (root sy st) bd y.2.2.2 y.1 y.2.1 = O) ∧ (y.2.2.1 = false → (y.1,none) = O)) (fun y => [(4,.one (boo y.2.2.1))]) (fun y => [(0,.opq (R y.1 none) []),(4,.bx [.gv 5]),(5,roI y.2.1)]) (fun y => y.2.2.2) (x0,p,true,μX x0 + 1) [0,1,2,3,4,5] (hI := ?_) (hr := ?_)
  · exact ⟨fun _ => ⟨h0,⟨m0,hv⟩,Nat.lt_succ_self _,hO⟩,fun h => (by cases h)⟩
  · rintro ⟨x,q,ok,k⟩ ⟨k1,k2⟩
    cases ok with
    | false =>
      have hE := k2 rfl
      subst hE
      repeat' first|(apply p3;(exact pu1);exact rfl)|refine cd ?_|refine o_no rfl rfl rfl rfl ?_
      repeat refine cr ?_
      refine ends_id ?_
      refine endK [] (h2 := ?_) (h3 := ?_) (nd := ?_)
      all_goals (repeat' first|exact ce0|refine ce ?_|refine ce2 ?_ ?_|(refine Or.inr (bx_eq rfl rfl ?_);(try dsimp only [C.ren,C.ren.all]);(try exact rfl))|exact SVLe.refl|refine ceb ?_)
      all_goals first | exact (show nodupB _ = true from rfl) | exact Or.inr rfl | (rfl)
    | true =>
      obtain ⟨hp,⟨m,hm⟩,hk,hit⟩ := k1 rfl
      clear k1 k2
      dsimp only at hp hm hk hit
      obtain ⟨k',rfl⟩ : ∃ k',k = k' + 1 := ⟨k - 1,by omega⟩
      have hql := pth_len hr hm h4 h2 (by omega) (by omega)
      have hnx := nxP_is hm
      have hq1 : (q.length : Int) ≤ 1048576 := by omega
      repeat' first|(apply p3;(exact pu1);exact rfl)|refine cd ?_|(apply w3;(exact a_st_bx rfl rfl rfl rfl (fN rfl rfl) (Nat.le_of_ble_eq_true rfl) rfl);exact rfl;refine dS ?_)|(apply c4 1;exact callK0 (θ := [2,1]) (hD := (next_f_ok st sy B q m hq1 preB110 preB110 preB110 preB110 preB110 preB110 hm));exact rfl;exact rfl;exact rfl;refine dM ?_)|(apply py3;exact rfl;exact rfl;(exact pu1);exact rfl;exact rfl)|(apply cy4 0;exact rfl;exact rfl;exact callY (θ := [0,5]) (hD := (hY _ _ (by assumption)));exact rfl;exact rfl;exact rfl;exact rfl;refine dM ?_)|((refine g_cond rfl (fun hc => ?_) (fun hc => ?_)) <;> (try simp only [dcB] at hc) <;> (try first|contradiction|(exfalso;omega)))
      · have e : (bd x q).2 = none := by cases hh : (bd x q).2 <;> simp_all
        simp only [← hnx]
        cases hn : nxP B (root sy st) q with
        | none =>
          have hE := itP_end e hn hit
          simp only [e,Option.isSome_none,Option.getD_none]
          refine q_again ((bd x q).1,[],false,k') [0,1,2,3,4,6] (by exact stk) ?_ ?_
          · exact ⟨fun h => (by cases h),fun _ => hE⟩
          · exact Nat.lt_succ_self _
        | some q' =>
          have hE := itP_next e hn hit
          have hs := hst x q q' hp e hn
          simp only [e,Option.isSome_some,Option.getD_some]
          refine q_again ((bd x q).1,q',true,k') [0,1,2,3,4,6] (by exact stk) ?_ ?_
          · exact ⟨fun _ => ⟨hs.1,nxP_ok hr hm hn,(by dsimp only; omega),hE⟩,fun h => (by cases h)⟩
          · exact Nat.lt_succ_self _
      · have hE := itP_out hc hit
        subst hE
        repeat refine cr ?_
        refine ends_id ?_
        refine endK [] (h2 := ?_) (h3 := ?_) (nd := ?_)
        all_goals (repeat' first|exact ce0|refine ce ?_|refine ce2 ?_ ?_|(refine Or.inr (bx_eq rfl rfl ?_);(try dsimp only [C.ren,C.ren.all]);(try exact rfl))|exact SVLe.refl|refine ceb ?_)
        all_goals first | exact (show nodupB _ = true from rfl) | exact Or.inr rfl | (rfl)
end Go.Proofs.YtighjcjmacajoaaGreatDoor
end
section
set_option linter.unusedVariables false
set_option linter.unusedSimpArgs false
set_option maxRecDepth 100000
set_option maxHeartbeats 4000000
namespace Go.Proofs.YtighjcjmacajoaaGreatDoor
open Go Foot
theorem preB111 {p : Prop} (h : p := by first | with_reducible assumption | omega | (simp only [List.length_append,List.length_cons,List.length_nil,List.length_set,List.length_replicate,List.length_take,List.length_drop,List.length_tail,List.length_dropLast,List.length_reverse] at *; omega) | exact mem_len (by assumption) (by omega) | (with_reducible refine Int.le_trans (Int.ofNat_le.2 (trimR_len _)) ?_; simp only [List.length_cons,List.length_tail]; omega) | (exact (ruAt_ok (by assumption) (by assumption) (by assumption)).2.1) | (exact (ruAt_ok (by assumption) (by assumption) (by assumption)).2.1) | (have := vMach_bd (by assumption); omega) | (simp only [mC_ch,mC_tu]; omega) | (have := vTag_bd (by assumption); omega) | (have := (‹Gd _ _›).le; omega) | (exact tgHalts_no (by assumption)) | (exact tgHead (by assumption) (by assumption) (by assumption)) | (exact Int.le_trans (tgStep_gd (by assumption) (by assumption) (by assumption) (by assumption)).le (by decide)) | (exact vTag_r (by assumption)) | (with_reducible refine Int.le_trans (Int.ofNat_le.2 (pushL_len _ _)) ?_; simp only [List.length_dropLast]; omega) | exact ls_at (by assumption) (by omega) | exact pt_gd (by assumption) | exact lv_at (by assumption) (by omega) | exact pt_gd (lv_at (by assumption) (by omega)) | exact (ask_ok (by assumption)).1 | exact (ask_ok (by assumption)).2.1 | exact (ask_ok (by assumption)).2.2.1 | exact (ask_ok (by assumption)).2.2.2 | trivial) : p := h
theorem sizeV_ok (vs : List Value) (hx : (vs.length : Int) ≤ 16777216) : Does Tryz.prog 67 [.one (.d (.sl false 1 (rows eVv vs)))] [] (.one (int vs.length)) [] := by
  refine does_of (k := 0) Tryz.func67 rfl Tryz.ntmps67 rfl rfl fun w F0 S0 ρ0 => ?_
  dsimp only [argT,argH]
  repeat' first|(apply p3;(first|exact pu1|exact puN);exact rfl)|refine cd ?_
  repeat refine cr ?_
  refine ends_id ?_
  refine endK [] (h2 := ?_) (h3 := ?_) (nd := ?_)
  all_goals (repeat' first|exact ce0|refine ce ?_|refine ce2 ?_ ?_|exact SVLe.refl|refine ceb ?_)
  all_goals first | exact (show nodupB _ = true from rfl) | exact Or.inr rfl | (rfl)
def bdN (many : Int) (ps : List (List Int)) (q : List Int) : List (List Int) × Option Code := (ps ++ [q],if (ps.length : Int) + 1 = many then some (.exit 0) else none)
theorem itP_nfs {B : Int} {rt : Mach} {many : Int} : ∀ (k : Nat) (ps : List (List Int)) (q : List Int),(ps.length : Int) < many → many.toNat - ps.length ≤ k → (itP B rt (bdN many) k ps q).1 = ps ++ nfs B rt (many.toNat - ps.length) q ∧ ∀ c,(itP B rt (bdN many) k ps q).2 = some c → c = .exit 0
  | 0,ps,q,h,hk => by omega
  | k + 1,ps,q,h,hk => by
    rw [itP]
    by_cases hl : (ps.length : Int) + 1 = many
    · rw [if_pos (by simp [bdN,hl])]
      have e : many.toNat - ps.length = 1 := by omega
      rw [e,nfs_one]
      exact ⟨rfl,fun c hc => by simp [bdN,hl] at hc; exact hc.symm⟩
    · rw [if_neg (by simp [bdN,hl])]
      obtain ⟨m,hm⟩ : ∃ m,many.toNat - ps.length = m + 1 := ⟨many.toNat - ps.length - 1,by omega⟩
      rw [hm]
      cases hn : nxP B rt q with
      | none => rw [nfs_none hn]; exact ⟨rfl,fun c hc => by cases hc⟩
      | some q' =>
        rw [nfs_some hn]
        have ih := itP_nfs (B := B) (rt := rt) (many := many) k (ps ++ [q]) q' (by simp; omega) (by simp; omega)
        have e : many.toNat - (ps ++ [q]).length = m := by simp; omega
        rw [e] at ih
        refine ⟨?_,ih.2⟩
        show (itP B rt (bdN many) k (ps ++ [q]) q').1 = _
        rw [ih.1]
        simp
theorem iNodesFrom_ok (st sy B many : Int) (p : List Int) (hp : (p.length : Int) ≤ 1048576) : Does Tryz.prog 22 [.one (int st),.one (int sy),.one (shI p),.one (int many),.one (int B)] [] (.tup [(false,[.gv 0]),(false,[int (nfC st sy B many p)])]) [.row 1 (rows eO1 (nfL st sy B many p))] := by
  by_cases h : askT st sy B = 0
  · obtain ⟨q1,q2,q3,q4⟩ := ask_bd h
    by_cases h2 : 1 ≤ many ∧ many ≤ 400
    · have hls := pthL_pth (B := B) p (root sy st)
      cases hv : pth B (root sy st) p with
      | none =>
        obtain ⟨e1,e2⟩ := nf_none h h2 hv
        rw [e1,e2]
        rw [hv] at hls
        refine does_of (k := 0) Tryz.func22 rfl Tryz.ntmps22 rfl rfl fun w F0 S0 ρ0 => ?_
        dsimp only [argT,argH]
        repeat' first|(apply n3;exact a_nilO eO1 rfl;exact rfl)|(apply n3;exact a_new (gb := .bx _) rfl;exact rfl;refine dA ?_)|(apply p3;(first|exact pu1|exact a_ne rfl rfl);exact rfl)|refine cdn ?_|refine g_reg (id := 0) ?_|refine g_reg (id := 1) ?_|refine g_reg (id := 2) ?_|refine g_reg (id := 4) ?_|(apply c4 0;exact callK1 (θ := []) (hD := (sizesCode_ok _ _ _));exact rfl;exact rfl;exact rfl;refine dM ?_)|(apply c4 0;exact callK1 (θ := []) (hD := (within_ok _ _ _));exact rfl;exact rfl;exact rfl;refine dM ?_)|((refine g_cond rfl (fun hc => ?_) (fun hc => ?_)) <;> (try simp only [dcB] at hc) <;> (try first|contradiction|(exfalso;omega)))
        refine g_conv t_zw ?_
        repeat' first|(apply p3;(exact pu1);exact rfl)|refine cdn ?_|refine g_reg (id := 6) ?_|refine g_reg (id := 7) ?_|(apply c4 2;exact callK0 (θ := []) (hD := (forestOf_ok _ _ _));exact rfl;exact rfl;exact rfl;refine dM ?_)|(apply c4 1;exact callK0 (θ := [3,4]) (hD := (at_f_ok st sy B p preB111 preB111 preB111 preB111 preB111 preB111 preB111));exact rfl;exact rfl;exact rfl;refine dM ?_)
        simp only [hls,Option.isSome_none]
        repeat' first|(apply n3;exact a_nilO eO1 rfl;exact rfl)|(apply p3;(exact pu1);exact rfl)|refine cd ?_
        repeat refine cr ?_
        refine ends_id ?_
        refine endK [?_] (h2 := ?_) (h3 := ?_) (nd := ?_)
        rotate_left 1
        all_goals (repeat' first|exact ce0|refine ce ?_|refine ce2 ?_ ?_|(refine Or.inr (bx_eq rfl rfl ?_);(try dsimp only [C.ren,C.ren.all]);(try exact rfl))|exact SVLe.refl|refine ceb ?_)
        all_goals first | exact (show nodupB _ = true from rfl) | exact Or.inr rfl | (rfl)
      | some m =>
        obtain ⟨e1,e2⟩ := nf_ok h h2 hv
        have hr := root_ok q2.1 q2.2 q1.1 (show st ≤ 1000 by omega)
        rw [hv] at hls
        have hres := itP_nfs (B := B) (rt := root sy st) (many := many) (many.toNat + 1) [] p (by simp; omega) (by simp)
        simp only [List.length_nil,Nat.sub_zero,List.nil_append] at hres
        rw [e1,e2,← hres.1]
        have hres2 := hres.2
        clear hres e1 e2
        refine does_of (k := 0) Tryz.func22 rfl Tryz.ntmps22 rfl rfl fun w F0 S0 ρ0 => ?_
        dsimp only [argT,argH]
        repeat' first|(apply n3;exact a_nilO eO1 rfl;exact rfl)|(apply n3;exact a_new (gb := .bx _) rfl;exact rfl;refine dA ?_)|(apply p3;(first|exact pu1|exact a_ne rfl rfl);exact rfl)|refine cdn ?_|refine g_reg (id := 0) ?_|refine g_reg (id := 1) ?_|refine g_reg (id := 2) ?_|refine g_reg (id := 4) ?_|(apply c4 0;exact callK1 (θ := []) (hD := (sizesCode_ok _ _ _));exact rfl;exact rfl;exact rfl;refine dM ?_)|(apply c4 0;exact callK1 (θ := []) (hD := (within_ok _ _ _));exact rfl;exact rfl;exact rfl;refine dM ?_)|((refine g_cond rfl (fun hc => ?_) (fun hc => ?_)) <;> (try simp only [dcB] at hc) <;> (try first|contradiction|(exfalso;omega)))
        refine g_conv t_zw ?_
        repeat' first|(apply p3;(exact pu1);exact rfl)|refine cdn ?_|refine g_reg (id := 6) ?_|refine g_reg (id := 7) ?_|(apply c4 2;exact callK0 (θ := []) (hD := (forestOf_ok _ _ _));exact rfl;exact rfl;exact rfl;refine dM ?_)|(apply c4 1;exact callK0 (θ := [3,4]) (hD := (at_f_ok st sy B p preB111 preB111 preB111 preB111 preB111 preB111 preB111));exact rfl;exact rfl;exact rfl;refine dM ?_)
        simp only [hls,Option.isSome_some]
        repeat' first|(apply n3;(first|exact a_new (gb := .bx _) rfl|exact a_litE eW [] rfl rfl rfl rfl rfl rfl rfl rfl);exact rfl;refine dA ?_)|(apply p3;(exact pu1);exact rfl)|refine cd ?_|(apply w3;exact a_st_bx rfl rfl rfl rfl (fN rfl rfl) (Nat.le_of_ble_eq_true rfl) rfl;exact rfl;refine dS ?_)|(apply c4 2;exact callK0 (θ := [_,_]) (hD := (paths_ok _ _ _ _));exact rfl;exact rfl;exact rfl;refine dM ?_)
        refine g_conv t_zw ?_
        refine g_conv (t_mvB (i := 6) (j := 7) (k := 0) rfl rfl rfl rfl rfl rfl) ?_
        try dsimp only [setRow,List.map_cons,List.map_nil,scC,List.set_cons_zero,List.set_cons_succ]
        refine g_conv (t_mkT (i := 11) (q := 2) rfl rfl) ?_
        refine rangeT [8,10,11,16,43] [7,10,11] (fun ps : List (List Int) => [(7,.bx [.gv 11]),(11,thR _ ps 11)]) [0,1,2,3,4,5,6,7,8,9,900,11] 10 11 [4,3,8,9] [] [10] [] [] (fun _ : List Int => [.one (.gv 1)]) (fun q => [roI q]) (fun q => [.sh 1 (rows eI q)]) (bdN many) (fun ps _ => (ps.length : Int) < many) ([] : List (List Int)) (n1 := 12) (hD := fun l R hY => pathsIt_ok st sy B p l R (bdN many) (fun ps _ => (ps.length : Int) < many) (fun ps => many.toNat - ps.length) [] m q1.1 q1.2 q2.1 q2.2 preB111 preB111 hv (by simp; omega) (fun ps q q' hp he hn => ⟨by simp [bdN] at he ⊢; omega,by simp [bdN]; omega⟩) (fun x q h => hY x q h)) (hr := ?_) (hn := ?_) (hs := ?_)
        · rintro ps q hps lp0 w0 F0 S0 ρ0 rc0
          dsimp only [parT,upOf,deadR,thN,List.map_cons,List.map_nil,SV.ren,List.cons_append,List.nil_append,GB.ren,C.ren,C.ren.all,Nat.reduceAdd] at *
          repeat' first|refine g_reg ?_|(apply p3;(exact a_pure (sv := .one _) rfl);exact rfl)|refine o_nil ?_|refine qAsg.go rfl ?_
          dsimp only
          repeat' first|refine cdn ?_
          refine g_openT (i := 11) rfl rfl (fun vs hvs => ?_)
          repeat' first|(apply n3;exact a_litQ (fP rfl) (by decide) rfl (by decide) rfl rfl rfl;exact rfl;refine dA ?_)|(apply p3;(exact pu1);exact rfl)|refine cdn ?_|refine g_reg (id := 13) ?_|(apply s3;exact a_appQ (fP rfl) rfl rfl rfl rfl qno bndQ bndQ (by decide);exact rfl;exact rfl)|(apply w3;exact a_st_bx rfl rfl rfl rfl (fN rfl rfl) (Nat.le_of_ble_eq_true rfl) rfl;exact rfl;refine dS ?_)
          refine g_turn (t_appT (j := 15) (q := 13) (r := 10) (p := q) rfl rfl rfl rfl rfl rfl) ?_
          refine g_openT (i := 15) rfl rfl (fun vs2 hvs2 => ?_)
          have hv2 : (vs2.length : Int) = ps.length + 1 := by rw [hvs2]; simp
          repeat' first|refine cd ?_|(apply g_drN (id := 14) okM [[],[0],[],[0,1,2]] [([],[]),([],[]),([],[]),([],[])] 0;(focus (refine dp 0 0 [51] [] puL ?_;refine dp 1 1 [51] [] (by exact callD1 (n := _) 0 (θ := []) (hD := (sizeV_ok _ preB111))) ?_;refine dp 2 0 [49,50] [] puL ?_;refine dp 3 7 [] [] (by exact puC) ?_;(refine d_nil ?_;refine dN ?_)));any_goals kernel_rfl)
          refine g_conv (t_shutT (j := 15) (q := 16) rfl rfl (Kept.all hvs2) rfl) ?_
          repeat' first|refine cd ?_|((refine g_cond rfl (fun hc => ?_) (fun hc => ?_)) <;> (try simp only [dcB] at hc) <;> (try first|contradiction|(exfalso;omega)))
          · repeat (first | refine g_ret ?_ | refine q_sr ?_ | refine q_br ?_ | refine g_exit ?_ | refine q_se ?_ | refine q_be rfl ?_ | refine q_bn rfl ?_)
            first | refine q_next (ps ++ [q]) [0,1,2,3,4,5,6,7,8,9,10,15,12] (by exact stk) ?_ | refine q_ret (ps ++ [q]) [0,1,2,3,4,5,6,7,8,9,10,15,12] (by exact stk) ?_ | refine q_exit (ps ++ [q]) [0,1,2,3,4,5,6,7,8,9,10,15,12] (by exact stk) ?_
            simp [bdN,show (ps.length : Int) + 1 = many by omega]
          · refine q_next (ps ++ [q]) [0,1,2,3,4,5,6,7,8,9,10,15,12] (by exact stk) ?_
            simp [bdN,show ¬ (ps.length : Int) + 1 = many by omega]
        · rintro hj
          dsimp only [upOf,deadR,calF,List.cons_append,List.nil_append,GB.ren,C.ren,C.ren.all,List.length_cons,List.length_nil,Nat.reduceAdd,Nat.reduceSub] at *
          skip
          repeat' first|(apply p3;(exact pu1);exact rfl)|refine cd ?_
          skip
          refine g_turn (t_thaw (i := 11) (t' := [(10,.one (.gv 11)),(11,.one (int 0))]) rfl ⟨.inr rfl,.inr rfl,trivial⟩ ⟨trivial,trivial,trivial⟩) ?_
          repeat refine cr ?_
          refine ends_id ?_
          refine endK [?_] (h2 := ?_) (h3 := ?_) (nd := ?_)
          rotate_left 1
          all_goals (repeat' first|exact ce0|refine ce ?_|refine ce2 ?_ ?_|(refine Or.inr (bx_eq rfl rfl ?_);(try dsimp only [C.ren,C.ren.all]);(try exact rfl))|exact SVLe.refl|refine ceb ?_)
          all_goals first | exact (show nodupB _ = true from rfl) | exact Or.inr rfl | (rfl)
        · rintro c hj
          dsimp only [upOf,deadR,calF,List.cons_append,List.nil_append,GB.ren,C.ren,C.ren.all,List.length_cons,List.length_nil,Nat.reduceAdd,Nat.reduceSub] at *
          skip
          skip
          obtain rfl := hres2 _ hj
          repeat' first|(apply p3;(exact pu1);exact rfl)|refine cd ?_
          refine g_turn (t_thaw (i := 11) (t' := [(10,.one (.gv 11)),(11,.one (int 0))]) rfl ⟨.inr rfl,.inr rfl,trivial⟩ ⟨trivial,trivial,trivial⟩) ?_
          repeat refine cr ?_
          refine ends_id ?_
          refine endK [?_] (h2 := ?_) (h3 := ?_) (nd := ?_)
          rotate_left 1
          all_goals (repeat' first|exact ce0|refine ce ?_|refine ce2 ?_ ?_|(refine Or.inr (bx_eq rfl rfl ?_);(try dsimp only [C.ren,C.ren.all]);(try exact rfl))|exact SVLe.refl|refine ceb ?_)
          all_goals first | exact (show nodupB _ = true from rfl) | exact Or.inr rfl | (rfl)
    · obtain ⟨e1,e2⟩ := nf_many (p := p) h h2
      rw [e1,e2]
      refine does_of (k := 0) Tryz.func22 rfl Tryz.ntmps22 rfl rfl fun w F0 S0 ρ0 => ?_
      dsimp only [argT,argH]
      repeat' first|(apply n3;exact a_nilO eO1 rfl;exact rfl)|(apply n3;(exact a_new (gb := .bx _) rfl);exact rfl;refine dA ?_)|(apply p3;(first|exact pu1|exact a_ne rfl rfl);exact rfl)|refine cd ?_|(apply c4 0;exact callK1 (θ := []) (hD := (sizesCode_ok _ _ _));exact rfl;exact rfl;exact rfl;refine dM ?_)|(apply c4 0;exact callK1 (θ := []) (hD := (within_ok _ _ _));exact rfl;exact rfl;exact rfl;refine dM ?_)|((refine g_cond rfl (fun hc => ?_) (fun hc => ?_)) <;> (try simp only [dcB] at hc) <;> (try first|contradiction|(exfalso;omega)))
      repeat refine cr ?_
      refine ends_id ?_
      refine endK [?_] (h2 := ?_) (h3 := ?_) (nd := ?_)
      rotate_left 1
      all_goals (repeat' first|exact ce0|refine ce ?_|refine ce2 ?_ ?_|(refine Or.inr (bx_eq rfl rfl ?_);(try dsimp only [C.ren,C.ren.all]);(try exact rfl))|exact SVLe.refl|refine ceb ?_)
      all_goals first | exact (show nodupB _ = true from rfl) | exact Or.inr rfl | (rfl)
  · obtain ⟨e1,e2⟩ := nf_ask (many := many) (p := p) h
    rw [e1,e2]
    refine does_of (k := 0) Tryz.func22 rfl Tryz.ntmps22 rfl rfl fun w F0 S0 ρ0 => ?_
    dsimp only [argT,argH]
    repeat' first|(apply n3;exact a_nilO eO1 rfl;exact rfl)|(apply n3;(exact a_new (gb := .bx _) rfl);exact rfl;refine dA ?_)|(apply p3;(first|exact pu1|exact a_ne rfl rfl);exact rfl)|refine cd ?_|(apply c4 0;exact callK1 (θ := []) (hD := (sizesCode_ok _ _ _));exact rfl;exact rfl;exact rfl;refine dM ?_)|((refine g_cond rfl (fun hc => ?_) (fun hc => ?_)) <;> (try simp only [dcB] at hc) <;> (try first|contradiction|(exfalso;omega)))
    repeat refine cr ?_
    refine ends_id ?_
    refine endK [?_] (h2 := ?_) (h3 := ?_) (nd := ?_)
    rotate_left 1
    all_goals (repeat' first|exact ce0|refine ce ?_|refine ce2 ?_ ?_|(refine Or.inr (bx_eq rfl rfl ?_);(try dsimp only [C.ren,C.ren.all]);(try exact rfl))|exact SVLe.refl|refine ceb ?_)
    all_goals first | exact (show nodupB _ = true from rfl) | exact Or.inr rfl | (rfl)
end Go.Proofs.YtighjcjmacajoaaGreatDoor
end
section
set_option linter.unusedVariables false
set_option linter.unusedSimpArgs false
set_option maxRecDepth 100000
namespace Go.Proofs.YtighjcjmacajoaaGreatDoor
open Go Foot
@[irreducible] def mulW (a b : Int) : Int := IntKind.u64.wrap (a * b)
@[irreducible] def addW (a b : Int) : Int := IntKind.u64.wrap (a + b)
@[irreducible] def cnvW (a : Int) : Int := IntKind.u64.wrap a
@[irreducible] def shrW (a b : Int) : Int := a.fdiv (2 ^ min b.toNat IntKind.u64.bits)
@[irreducible] def andW (a b : Int) : Int := IntKind.u64.wrap ((BitVec.ofInt IntKind.u64.bits a &&& BitVec.ofInt IntKind.u64.bits b).toNat : Nat)
theorem andW_le (a : Int) : 0 ≤ andW a 255 ∧ andW a 255 ≤ 255 := by
  have h : (BitVec.ofInt IntKind.u64.bits a &&& BitVec.ofInt IntKind.u64.bits 255).toNat ≤ 255 := by
    show (BitVec.ofInt 64 a &&& BitVec.ofInt 64 255).toNat ≤ 255
    rw [BitVec.toNat_and]
    have h5 : (BitVec.ofInt 64 255).toNat = 255 := by decide
    rw [h5]
    exact Nat.and_le_right
  unfold andW
  rw [wrapU (by omega) (by omega)]
  omega
section
variable {P : Program} {g : Gh} {st : St}
variable {dst : Option Tmp} {ty : TypeId} {pos : String} {after : Array Edge} {guard : Option (Nat × Bool)} {x y : Operand} {T U : TypeId} {a b : Int}
theorem w_mul (e1 : opd st x = .one (u64 a)) (e2 : opd st y = .one (u64 b)) : Acts P g ⟨dst,.binOp .mul T x y U,ty,pos,after,guard⟩ st (.one (u64 (mulW a b))) [] [] := by
  unfold mulW
  exact a_bin (op := .mul) e1 e2 rfl trivial
theorem w_add (e1 : opd st x = .one (u64 a)) (e2 : opd st y = .one (u64 b)) : Acts P g ⟨dst,.binOp .add T x y U,ty,pos,after,guard⟩ st (.one (u64 (addW a b))) [] [] := by
  unfold addW
  exact a_bin (op := .add) e1 e2 rfl trivial
theorem w_and (e1 : opd st x = .one (u64 a)) (e2 : opd st y = .one (u64 b)) : Acts P g ⟨dst,.binOp .and T x y U,ty,pos,after,guard⟩ st (.one (u64 (andW a b))) [] [] := by
  unfold andW
  exact a_bin (op := .and) e1 e2 rfl trivial
theorem w_shr (e1 : opd st x = .one (u64 a)) (e2 : opd st y = .one (u64 b)) (h : 0 ≤ b) : Acts P g ⟨dst,.binOp .shr T x y U,ty,pos,after,guard⟩ st (.one (u64 (shrW a b))) [] [] := by
  unfold shrW
  exact a_bin (op := .shr) e1 e2 rfl h
theorem w_cnv (e1 : opd st x = .one (int a)) (hT : P.underlying T = some (.int .i64)) (hU : P.underlying U = some (.int .u64)) : Acts P g ⟨dst,.convert T U x,ty,pos,after,guard⟩ st (.one (u64 (cnvW a))) [] [] := by
  unfold cnvW
  exact a_conv e1 (by rw [hT]; rfl) hU
end
end Go.Proofs.YtighjcjmacajoaaGreatDoor
end
section
set_option linter.unusedVariables false
set_option linter.unusedSimpArgs false
set_option maxRecDepth 100000
set_option maxHeartbeats 4000000
namespace Go.Proofs.YtighjcjmacajoaaGreatDoor
open Go Foot
abbrev shY (l : List Int) : C := .d (.sl false 1 (rows eY l))
structure Src where
  co : List Int
  pl : Int
  sd : Int
abbrev srB (s : Src) : GB := .bx [shY s.co,int s.pl,u64 s.sd]
structure SrOk (s : Src) : Prop where
  n : (s.co.length : Int) ≤ 9223372036854775807
  p : 0 ≤ s.pl ∧ s.pl ≤ 1000000000000000000
  b : ∀ x ∈ s.co,0 ≤ x ∧ x ≤ 255
@[irreducible] def nxB (s : Src) : Int := if s.pl < s.co.length then s.co.getD s.pl.toNat 0 else 0
@[irreducible] def nxS (s : Src) : Src := ⟨s.co,s.pl + 1,addW (addW (mulW s.sd 6364136223846793005) (cnvW (nxB s))) 1442695040888963407⟩
@[irreducible] def nxV (s : Src) : Int := if s.pl + 1 ≤ s.co.length then nxB s else andW (shrW (nxS s).sd 40) 255
theorem nxB_bd {s : Src} (g : SrOk s) : 0 ≤ nxB s ∧ nxB s ≤ 255 := by
  unfold nxB
  split
  · rename_i h
    have := g.p
    rw [List.getD_eq_getElem?_getD,List.getElem?_eq_getElem (by omega)]
    exact g.b _ (List.getElem_mem _)
  · omega
theorem nxV_bd {s : Src} (g : SrOk s) : 0 ≤ nxV s ∧ nxV s ≤ 255 := by
  unfold nxV
  split
  · exact nxB_bd g
  · exact andW_le _
theorem preB76 {p : Prop} (h : p := by first | with_reducible assumption | omega | (simp only [List.length_append,List.length_cons,List.length_nil,List.length_set,List.length_replicate,List.length_take,List.length_drop,List.length_tail,List.length_dropLast,List.length_reverse] at *; omega) | exact mem_len (by assumption) (by omega) | (with_reducible refine Int.le_trans (Int.ofNat_le.2 (trimR_len _)) ?_; simp only [List.length_cons,List.length_tail]; omega) | (exact (ruAt_ok (by assumption) (by assumption) (by assumption)).2.1) | (exact (ruAt_ok (by assumption) (by assumption) (by assumption)).2.1) | (have := vMach_bd (by assumption); omega) | (simp only [mC_ch,mC_tu]; omega) | (have := vTag_bd (by assumption); omega) | (have := (‹Gd _ _›).le; omega) | (exact tgHalts_no (by assumption)) | (exact tgHead (by assumption) (by assumption) (by assumption)) | (exact Int.le_trans (tgStep_gd (by assumption) (by assumption) (by assumption) (by assumption)).le (by decide)) | (exact vTag_r (by assumption)) | (with_reducible refine Int.le_trans (Int.ofNat_le.2 (pushL_len _ _)) ?_; simp only [List.length_dropLast]; omega) | exact ls_at (by assumption) (by omega) | exact pt_gd (by assumption) | exact lv_at (by assumption) (by omega) | exact pt_gd (lv_at (by assumption) (by omega)) | exact (ask_ok (by assumption)).1 | exact (ask_ok (by assumption)).2.1 | exact (ask_ok (by assumption)).2.2.1 | exact (ask_ok (by assumption)).2.2.2 | trivial) : p := h
theorem srcFrom_ok (l : List Int) : Does Tryz.prog 39 [.one (shY l)] [] (.one (.gv 0)) [srB ⟨l,0,0⟩] := by
  refine does_of (k := 0) Tryz.func39 rfl Tryz.ntmps39 rfl rfl fun w F0 S0 ρ0 => ?_
  dsimp only [argT,argH]
  repeat' first|(apply n3;exact a_new (gb := .bx _) rfl;exact rfl;refine dA ?_)|(apply p3;exact pu1;exact rfl)|refine cd ?_
  repeat refine cr ?_
  refine ends_id ?_
  refine endK [?_] (h2 := ?_) (h3 := ?_) (nd := ?_)
  rotate_left 1
  all_goals (repeat' first|exact ce0|refine ce ?_|refine ce2 ?_ ?_|(refine Or.inr (bx_eq rfl rfl ?_);(try dsimp only [C.ren,C.ren.all]);(try exact rfl))|exact SVLe.refl|refine ceb ?_)
  all_goals first | exact (show nodupB _ = true from rfl) | exact Or.inr rfl | (rfl)
theorem nxS_eq {s : Src} {b : Int} (h : nxB s = b) : nxS s = ⟨s.co,s.pl + 1,addW (addW (mulW s.sd 6364136223846793005) (cnvW b)) 1442695040888963407⟩ := by unfold nxS; rw [h]
theorem srcNext_ok (s : Src) (g : SrOk s) : Does Tryz.prog 100 [.one (.gv 0)] [srB s] (.one (int (nxV s))) [srB (nxS s)] := by
  have hp := g.p
  have hn := g.n
  by_cases hl : s.pl < s.co.length
  · have hg := g.b _ (List.getElem_mem (show s.pl.toNat < s.co.length by omega))
    have hb : nxB s = s.co[s.pl.toNat]'(by omega) := by
      unfold nxB
      rw [if_pos hl,List.getD_eq_getElem?_getD,List.getElem?_eq_getElem (by omega)]
      rfl
    have hv : nxV s = s.co[s.pl.toNat]'(by omega) := by unfold nxV; rw [if_pos (by omega),hb]
    rw [hv,nxS_eq hb]
    refine does_of (k := 1) Tryz.func100 rfl Tryz.ntmps100 rfl rfl fun w F0 S0 ρ0 => ?_
    dsimp only [argT,argH]
    repeat' first|(apply p3;(first|exact pu1|exact a_add rfl rfl (by omega) (by omega)|exact w_mul rfl rfl|exact w_cnv rfl Tryz.underlying3 Tryz.underlying143|exact w_add rfl rfl);exact rfl)|refine cd ?_|(apply w3;(exact a_st_bx rfl rfl rfl rfl (fN rfl rfl) (Nat.le_of_ble_eq_true rfl) rfl);exact rfl;refine dS ?_)|(apply g_drN (id := 2) okM [[],[0],[0,1],[0,1,2],[],[4],[4,5],[4,5,6],[4,5,6,7],[0,1,2,3,4,5,6,7,8]] [([],[]),([],[]),([],[]),([],[]),([],[]),([],[]),([],[]),([],[]),([],[]),([],[])] 0;(focus (refine dp 0 0 [8,9,10,11,12] [] pu1 ?_;refine dp 1 1 [8,9,10,11,12] [] (a_pure (sv := .one _) rfl) ?_;refine dp 2 3 [8,9,10,11,12] [] (a_pure (sv := .one _) rfl) ?_;refine dp 3 7 [8,9,10,11,12] [] puL ?_;refine dp 4 0 [4,5,6,7] [] pu1 ?_;refine dp 5 1 [4,5,6,7] [] (a_pure (sv := .one _) rfl) ?_;refine dp 6 3 [4,5,6,7] [] (a_pure (sv := .one _) rfl) ?_;refine dp 7 7 [4,5,6,7] [] puL ?_;refine dp 8 15 [4,5,6,7] [] (by exact puN) ?_;refine dp 9 511 [] [] puC ?_;(refine d_nil ?_;refine dN ?_)));any_goals kernel_rfl)|(apply g_drN (id := 3) okM [[],[0],[0,1],[0,1,2],[],[4],[4,5],[4,5,6],[0,1,2,3,4,5,6,7],[0,1,2,3,4,5,6,7,8],[0,1,2,3,4,5,6,7,8,9],[0,1,2,3,4,5,6,7,8,9,10]] [([],[]),([],[]),([],[]),([],[]),([],[]),([],[]),([],[]),([],[]),([],[]),([],[]),([],[]),([],[])] 0;(focus (refine dp 0 0 [18,19,20,21] [] pu1 ?_;refine dp 1 1 [18,19,20,21] [] (a_pure (sv := .one _) rfl) ?_;refine dp 2 3 [18,19,20,21] [] (a_pure (sv := .one _) rfl) ?_;refine dp 3 7 [18,19,20,21] [] puL ?_;refine dp 4 0 [14,15,16,17] [] pu1 ?_;refine dp 5 1 [14,15,16,17] [] (a_pure (sv := .one _) rfl) ?_;refine dp 6 3 [14,15,16,17] [] (a_pure (sv := .one _) rfl) ?_;refine dp 7 7 [14,15,16,17] [] puL ?_;refine dp 8 255 [] [] puI ?_;refine dp 9 511 [] [] (by exact a_pure (sv := .one _) rfl) ?_;refine dp 10 1023 [] [] (a_of8 rfl Tryz.underlying5 Tryz.underlying3 (by omega) (by omega)) ?_;refine dp 11 2047 [] [] pu1 ?_;(refine d_nil ?_;refine dN ?_)));any_goals kernel_rfl)|(apply g_drN (id := 6) okM [[],[0],[0,1],[0,1,2],[],[4],[4,5],[4,5,6],[4,5,6,7],[0,1,2,3,4,5,6,7,8]] [([],[]),([],[]),([],[]),([],[]),([],[]),([],[]),([],[]),([],[]),([],[]),([],[])] 0;(focus (refine dp 0 0 [48,49,50,51,52] [] pu1 ?_;refine dp 1 1 [48,49,50,51,52] [] (a_pure (sv := .one _) rfl) ?_;refine dp 2 3 [48,49,50,51,52] [] (a_pure (sv := .one _) rfl) ?_;refine dp 3 7 [48,49,50,51,52] [] puL ?_;refine dp 4 0 [44,45,46,47] [] pu1 ?_;refine dp 5 1 [44,45,46,47] [] (a_pure (sv := .one _) rfl) ?_;refine dp 6 3 [44,45,46,47] [] (a_pure (sv := .one _) rfl) ?_;refine dp 7 7 [44,45,46,47] [] puL ?_;refine dp 8 15 [44,45,46,47] [] (by exact puN) ?_;refine dp 9 511 [] [] puC ?_;(refine d_nil ?_;refine dN ?_)));any_goals kernel_rfl)|((refine g_cond rfl (fun hc => ?_) (fun hc => ?_)) <;> (try simp only [dcB] at hc) <;> (try first|contradiction|(exfalso;omega)))
    repeat refine cr ?_
    refine ends_id ?_
    refine endK [] (h2 := ?_) (h3 := ?_) (nd := ?_)
    all_goals (repeat' first|exact ce0|refine ce ?_|refine ce2 ?_ ?_|(refine Or.inr (bx_eq rfl rfl ?_);(try dsimp only [C.ren,C.ren.all]);(try exact rfl))|exact SVLe.refl|refine ceb ?_)
    all_goals first | exact (show nodupB _ = true from rfl) | exact Or.inr rfl | (rfl)
  · have hb : nxB s = 0 := by unfold nxB; rw [if_neg hl]
    have hv : nxV s = andW (shrW (nxS s).sd 40) 255 := by unfold nxV; rw [if_neg (by omega)]
    rw [nxS_eq hb] at hv ⊢
    rw [hv]
    have h9 := andW_le (shrW (addW (addW (mulW s.sd 6364136223846793005) (cnvW 0)) 1442695040888963407) 40)
    refine does_of (k := 1) Tryz.func100 rfl Tryz.ntmps100 rfl rfl fun w F0 S0 ρ0 => ?_
    dsimp only [argT,argH]
    repeat' first|(apply p3;(first|exact pu1|exact a_add rfl rfl (by omega) (by omega)|exact w_mul rfl rfl|exact w_cnv rfl Tryz.underlying3 Tryz.underlying143|exact w_add rfl rfl|exact w_shr rfl rfl (by decide)|exact w_and rfl rfl|exact u_vnoc rfl Tryz.underlying143 Tryz.underlying2 bnd bnd);exact rfl)|refine cd ?_|(apply w3;(exact a_st_bx rfl rfl rfl rfl (fN rfl rfl) (Nat.le_of_ble_eq_true rfl) rfl);exact rfl;refine dS ?_)|(apply g_drN (id := 2) okM [[],[0],[0,1],[0,1,2],[],[4],[4,5],[4,5,6],[4,5,6,7],[0,1,2,3,4,5,6,7,8]] [([],[]),([],[]),([],[]),([],[]),([],[]),([],[]),([],[]),([],[]),([],[]),([],[])] 0;(focus (refine dp 0 0 [8,9,10,11,12] [] pu1 ?_;refine dp 1 1 [8,9,10,11,12] [] (a_pure (sv := .one _) rfl) ?_;refine dp 2 3 [8,9,10,11,12] [] (a_pure (sv := .one _) rfl) ?_;refine dp 3 7 [8,9,10,11,12] [] puL ?_;refine dp 4 0 [4,5,6,7] [] pu1 ?_;refine dp 5 1 [4,5,6,7] [] (a_pure (sv := .one _) rfl) ?_;refine dp 6 3 [4,5,6,7] [] (a_pure (sv := .one _) rfl) ?_;refine dp 7 7 [4,5,6,7] [] puL ?_;refine dp 8 15 [4,5,6,7] [] (by exact puN) ?_;refine dp 9 511 [] [] puC ?_;(refine d_nil ?_;refine dN ?_)));any_goals kernel_rfl)|(apply g_drN (id := 6) okM [[],[0],[0,1],[0,1,2],[],[4],[4,5],[4,5,6],[4,5,6,7],[0,1,2,3,4,5,6,7,8]] [([],[]),([],[]),([],[]),([],[]),([],[]),([],[]),([],[]),([],[]),([],[]),([],[])] 0;(focus (refine dp 0 0 [48,49,50,51,52] [] pu1 ?_;refine dp 1 1 [48,49,50,51,52] [] (a_pure (sv := .one _) rfl) ?_;refine dp 2 3 [48,49,50,51,52] [] (a_pure (sv := .one _) rfl) ?_;refine dp 3 7 [48,49,50,51,52] [] puL ?_;refine dp 4 0 [44,45,46,47] [] pu1 ?_;refine dp 5 1 [44,45,46,47] [] (a_pure (sv := .one _) rfl) ?_;refine dp 6 3 [44,45,46,47] [] (a_pure (sv := .one _) rfl) ?_;refine dp 7 7 [44,45,46,47] [] puL ?_;refine dp 8 15 [44,45,46,47] [] (by exact puN) ?_;refine dp 9 511 [] [] puC ?_;(refine d_nil ?_;refine dN ?_)));any_goals kernel_rfl)|((refine g_cond rfl (fun hc => ?_) (fun hc => ?_)) <;> (try simp only [dcB] at hc) <;> (try first|contradiction|(exfalso;omega)))
    repeat refine cr ?_
    refine ends_id ?_
    refine endK [] (h2 := ?_) (h3 := ?_) (nd := ?_)
    all_goals (repeat' first|exact ce0|refine ce ?_|refine ce2 ?_ ?_|(refine Or.inr (bx_eq rfl rfl ?_);(try dsimp only [C.ren,C.ren.all]);(try exact rfl))|exact SVLe.refl|refine ceb ?_)
    all_goals first | exact (show nodupB _ = true from rfl) | exact Or.inr rfl | (rfl)
@[irreducible] def pkS (s : Src) (n : Int) : Src := if n ≤ 1 then s else if 200 < n then nxS (nxS s) else nxS s
@[irreducible] def pkV (s : Src) (n : Int) : Int := if n ≤ 1 then 0 else if 200 < n then (nxV s * 256 + nxV (nxS s)) % n else nxV s % n
theorem sr_next {s : Src} (g : SrOk s) (h : s.pl ≤ 999999999999999999) : SrOk (nxS s) := by
  unfold nxS
  exact ⟨g.n,⟨by have := g.p; dsimp only; omega,by dsimp only; omega⟩,g.b⟩
theorem nxS_pl (s : Src) : (nxS s).pl = s.pl + 1 := by unfold nxS; rfl
theorem pkS_pl (s : Src) (n : Int) : s.pl ≤ (pkS s n).pl ∧ (pkS s n).pl ≤ s.pl + 2 := by
  unfold pkS
  split
  · omega
  · split
    · rw [nxS_pl,nxS_pl]; omega
    · rw [nxS_pl]; omega
theorem sr_pick {s : Src} {n : Int} (g : SrOk s) (h : s.pl ≤ 999999999999999998) : SrOk (pkS s n) := by
  unfold pkS
  split
  · exact g
  · split
    · exact sr_next (sr_next g (by omega)) (by rw [nxS_pl]; omega)
    · exact sr_next g (by omega)
theorem pkV_bd {s : Src} {n : Int} (g : SrOk s) (h : 1 ≤ n) : 0 ≤ pkV s n ∧ pkV s n < n := by
  unfold pkV
  split
  · omega
  · split
    · exact ⟨Int.emod_nonneg _ (by omega),Int.emod_lt_of_pos _ (by omega)⟩
    · exact ⟨Int.emod_nonneg _ (by omega),Int.emod_lt_of_pos _ (by omega)⟩
theorem srcPick_ok (s : Src) (n : Int) (g : SrOk s) (h : s.pl ≤ 999999999999999998) (h1 : n ≤ 1000000) : Does Tryz.prog 41 [.one (.gv 0),.one (int n)] [srB s] (.one (int (pkV s n))) [srB (pkS s n)] := by
  have g2 := sr_next g (by omega)
  have hb := nxV_bd g
  have hb2 := nxV_bd g2
  by_cases hn : n ≤ 1
  · rw [show pkV s n = 0 by unfold pkV; rw [if_pos hn],show pkS s n = s by unfold pkS; rw [if_pos hn]]
    refine does_of (k := 1) Tryz.func41 rfl Tryz.ntmps41 rfl rfl fun w F0 S0 ρ0 => ?_
    dsimp only [argT,argH]
    repeat' first|(apply p3;(first|exact pu1|exact puC);exact rfl)|refine cd ?_|((refine g_cond rfl (fun hc => ?_) (fun hc => ?_)) <;> (try simp only [dcB] at hc) <;> (try first|contradiction|(exfalso;omega)))
    repeat refine cr ?_
    refine ends_id ?_
    refine endK [] (h2 := ?_) (h3 := ?_) (nd := ?_)
    all_goals (repeat' first|exact ce0|refine ce ?_|refine ce2 ?_ ?_|(refine Or.inr (bx_eq rfl rfl ?_);(try dsimp only [C.ren,C.ren.all]);(try exact rfl))|exact SVLe.refl|refine ceb ?_)
    all_goals first | exact (show nodupB _ = true from rfl) | exact Or.inr rfl | (rfl)
  · by_cases hn2 : 200 < n
    · rw [show pkV s n = (nxV s * 256 + nxV (nxS s)) % n by unfold pkV; rw [if_neg hn,if_pos hn2],show pkS s n = nxS (nxS s) by unfold pkS; rw [if_neg hn,if_pos hn2]]
      refine does_of (k := 1) Tryz.func41 rfl Tryz.ntmps41 rfl rfl fun w F0 S0 ρ0 => ?_
      dsimp only [argT,argH]
      repeat' first|(apply p3;(first|exact pu1|exact puC|exact a_mulB rfl rfl (by omega) (by omega) (by omega) (by omega)|exact a_add rfl rfl (by omega) (by omega)|exact a_rem rfl rfl (by omega) (by omega) (by omega));exact rfl)|refine cd ?_|(apply c4 0;exact callK0 (θ := [_]) (hD := (srcNext_ok _ preB76));exact rfl;exact rfl;exact rfl;refine dM ?_)|((refine g_cond rfl (fun hc => ?_) (fun hc => ?_)) <;> (try simp only [dcB] at hc) <;> (try first|contradiction|(exfalso;omega)))
      repeat refine cr ?_
      refine ends_id ?_
      refine endK [] (h2 := ?_) (h3 := ?_) (nd := ?_)
      all_goals (repeat' first|exact ce0|refine ce ?_|refine ce2 ?_ ?_|(refine Or.inr (bx_eq rfl rfl ?_);(try dsimp only [C.ren,C.ren.all]);(try exact rfl))|exact SVLe.refl|refine ceb ?_)
      all_goals first | exact (show nodupB _ = true from rfl) | exact Or.inr rfl | (rfl)
    · rw [show pkV s n = nxV s % n by unfold pkV; rw [if_neg hn,if_neg hn2],show pkS s n = nxS s by unfold pkS; rw [if_neg hn,if_neg hn2]]
      refine does_of (k := 1) Tryz.func41 rfl Tryz.ntmps41 rfl rfl fun w F0 S0 ρ0 => ?_
      dsimp only [argT,argH]
      repeat' first|(apply p3;(first|exact pu1|exact puC|exact a_rem rfl rfl (by omega) (by omega) (by omega));exact rfl)|refine cd ?_|(apply c4 0;exact callK0 (θ := [_]) (hD := (srcNext_ok _ preB76));exact rfl;exact rfl;exact rfl;refine dM ?_)|((refine g_cond rfl (fun hc => ?_) (fun hc => ?_)) <;> (try simp only [dcB] at hc) <;> (try first|contradiction|(exfalso;omega)))
      repeat refine cr ?_
      refine ends_id ?_
      refine endK [] (h2 := ?_) (h3 := ?_) (nd := ?_)
      all_goals (repeat' first|exact ce0|refine ce ?_|refine ce2 ?_ ?_|(refine Or.inr (bx_eq rfl rfl ?_);(try dsimp only [C.ren,C.ren.all]);(try exact rfl))|exact SVLe.refl|refine ceb ?_)
      all_goals first | exact (show nodupB _ = true from rfl) | exact Or.inr rfl | (rfl)
end Go.Proofs.YtighjcjmacajoaaGreatDoor
end
section
set_option linter.unusedVariables false
set_option linter.unusedSimpArgs false
set_option maxRecDepth 100000
set_option maxHeartbeats 4000000
namespace Go.Proofs.YtighjcjmacajoaaGreatDoor
open Go Foot
@[irreducible] def dsR (s : Src) (sy st : Int) : Rule' := if pkV (pkS (pkS (pkS s sy) 2) st) 7 = 0 then noR else ⟨pkV s sy,2 * pkV (pkS s sy) 2 - 1,pkV (pkS (pkS s sy) 2) st⟩
@[irreducible] def dsS (s : Src) (sy st : Int) : Src := pkS (pkS (pkS (pkS s sy) 2) st) 7
def dsF (sy st : Int) : Nat → Src → List Rule' → List Rule' × Src
  | 0,s,r => (r,s)
  | n + 1,s,r => dsF sy st n (dsS s sy st) (r ++ [dsR s sy st])
@[irreducible] def dsO (s : Src) (sy st : Int) : List Rule' × Src := dsF sy st (sy * st).toNat s []
end Go.Proofs.YtighjcjmacajoaaGreatDoor
end
section
set_option linter.unusedVariables false
set_option linter.unusedSimpArgs false
set_option maxRecDepth 100000
set_option maxHeartbeats 4000000
namespace Go.Proofs.YtighjcjmacajoaaGreatDoor
open Go Foot
@[irreducible] def smS (s : Src) : Src := pkS s 2
@[irreducible] def smT (s : Src) : Int := 1 + pkV s 2
@[irreducible] def sm1 (s : Src) : Src := (dsO (smS s) 2 (smT s)).2
@[irreducible] def sm2 (s : Src) : Src := pkS (sm1 s) (smT s)
end Go.Proofs.YtighjcjmacajoaaGreatDoor
end
section
set_option linter.unusedVariables false
set_option linter.unusedSimpArgs false
set_option maxRecDepth 100000
set_option maxHeartbeats 4000000
namespace Go.Proofs.YtighjcjmacajoaaGreatDoor
open Go Foot
end Go.Proofs.YtighjcjmacajoaaGreatDoor
end
section
set_option linter.unusedVariables false
set_option linter.unusedSimpArgs false
set_option maxRecDepth 100000
set_option maxHeartbeats 4000000
namespace Go.Proofs.YtighjcjmacajoaaGreatDoor
open Go Foot
end Go.Proofs.YtighjcjmacajoaaGreatDoor
end
section
set_option linter.unusedVariables false
set_option linter.unusedSimpArgs false
set_option maxRecDepth 100000
set_option maxHeartbeats 4000000
namespace Go.Proofs.YtighjcjmacajoaaGreatDoor
open Go Foot
end Go.Proofs.YtighjcjmacajoaaGreatDoor
end
section
set_option linter.unusedVariables false
set_option linter.unusedSimpArgs false
set_option maxRecDepth 100000
set_option maxHeartbeats 4000000
namespace Go.Proofs.YtighjcjmacajoaaGreatDoor
open Go Foot
end Go.Proofs.YtighjcjmacajoaaGreatDoor
end
section
set_option linter.unusedVariables false
set_option linter.unusedSimpArgs false
set_option maxRecDepth 100000
set_option maxHeartbeats 4000000
namespace Go.Proofs.YtighjcjmacajoaaGreatDoor
open Go Foot
theorem b10Long_ok (l : List Int) (hx : (l.length : Int) ≤ 9223372036854775807) : Does Tryz.prog 8 [.one (shY l)] [] (.one (boo (decide ((l.length : Int) > 1048576)))) [] := by
  refine does_of (k := 0) Tryz.func8 rfl Tryz.ntmps8 rfl rfl fun w F0 S0 ρ0 => ?_
  dsimp only [argT,argH]
  repeat' first|(apply p3;(first|exact pu1|exact puN|exact puC);exact rfl)|refine cd ?_
  repeat refine cr ?_
  refine ends_id ?_
  refine endK [] (h2 := ?_) (h3 := ?_) (nd := ?_)
  all_goals (repeat' first|exact ce0|refine ce ?_|refine ce2 ?_ ?_|exact SVLe.refl|refine ceb ?_)
  all_goals first | exact (show nodupB _ = true from rfl) | exact Or.inr rfl | (rfl)
theorem b10Nums_ok (xs ys : List Int) (hx : (xs.length : Int) ≤ 16777216) (hy : (ys.length : Int) ≤ 16777216) : Does Tryz.prog 14 [.one (shI xs),.one (shI ys)] [] (.one (boo (eqI xs ys))) [] := by
  refine does_of (k := 0) Tryz.func14 rfl Tryz.ntmps14 rfl rfl fun w F0 S0 ρ0 => ?_
  dsimp only [argT,argH]
  repeat' first|(apply p3;(first|exact pu1|exact puN|exact a_ne rfl rfl);exact rfl)|refine cd ?_|((refine g_cond rfl (fun hc => ?_) (fun hc => ?_)) <;> (try simp only [dcB] at hc) <;> (try first|contradiction|(exfalso;omega)))
  · repeat refine cr ?_
    refine ends_id ?_
    refine endK [] (h2 := ?_) (h3 := ?_) (nd := ?_)
    all_goals (repeat' first|exact ce0|refine ce ?_|refine ce2 ?_ ?_|exact SVLe.refl|refine ceb ?_)
    all_goals first | exact (show nodupB _ = true from rfl) | exact Or.inr rfl | ((symm; unfold eqI; rw [decide_eq_false_iff_not]; rintro rfl; omega))
  refine g_loop_id ?_
  refine loopK [0,1,4] [] (fun i : Int => 0 ≤ i ∧ i ≤ xs.length ∧ xs.take i.toNat = ys.take i.toNat) (fun i => [(5,.one (int i))]) (fun _ => []) (fun i => (xs.length - i).toNat) (0 : Int) [] (hI := ?_) (hr := ?_)
  · exact ⟨by simp,by simp,by simp⟩
  · rintro i ⟨h0,h1,h2⟩
    dsimp only [List.cons_append,List.nil_append] at *
    skip
    repeat' first|(apply p3;(first|exact pu1|exact puN|exact puC|exact a_add rfl rfl (by omega) (by omega));exact rfl)|refine cd ?_|(apply g_drN (id := 6) okM [[],[],[0,1],[0,1,2],[],[],[4,5],[4,5,6],[0,1,2,3,4,5,6,7]] [([],[]),([],[]),([],[]),([],[]),([],[]),([],[]),([],[]),([],[]),([],[])] 0;(focus (refine dp 0 0 [18,21,22,23,24] [] pu1 ?_;refine dp 1 0 [17,21,22,23,24] [] pu1 ?_;refine dp 2 3 [21,22,23,24] [] puI ?_;refine dp 3 7 [21,22,23,24] [] puL ?_;refine dp 4 0 [17,18,19,20,22] [] pu1 ?_;refine dp 5 0 [17,18,19,20,21] [] pu1 ?_;refine dp 6 3 [17,18,19,20] [] puI ?_;refine dp 7 7 [17,18,19,20] [] puL ?_;refine dp 8 255 [] [] (by exact a_ne rfl rfl) ?_;(refine d_nil ?_;refine dN ?_)));any_goals kernel_rfl)|((refine g_cond rfl (fun hc => ?_) (fun hc => ?_)) <;> (try simp only [dcB] at hc) <;> (try first|contradiction|(exfalso;omega)))
    · repeat refine cr ?_
      refine ends_id ?_
      refine endK [] (h2 := ?_) (h3 := ?_) (nd := ?_)
      all_goals (repeat' first|exact ce0|refine ce ?_|refine ce2 ?_ ?_|exact SVLe.refl|refine ceb ?_)
      all_goals first | exact (show nodupB _ = true from rfl) | exact Or.inr rfl | ((symm; unfold eqI; rw [decide_eq_false_iff_not]; rintro rfl; simp_all))
    · refine q_again (i + 1) [] (by exact stk) ?_ ?_
      · exact ⟨by omega,by omega,take_next h0 (by omega) (by omega) h2 (by simp_all)⟩
      · omega
    · have hl := take_end (by omega) (by omega) h2
      repeat refine cr ?_
      refine ends_id ?_
      refine endK [] (h2 := ?_) (h3 := ?_) (nd := ?_)
      all_goals (repeat' first|exact ce0|refine ce ?_|refine ce2 ?_ ?_|exact SVLe.refl|refine ceb ?_)
      all_goals first | exact (show nodupB _ = true from rfl) | exact Or.inr rfl | ((symm; unfold eqI; rw [decide_eq_true_eq]; exact hl))
end Go.Proofs.YtighjcjmacajoaaGreatDoor
end
section
set_option linter.unusedVariables false
set_option linter.unusedSimpArgs false
set_option maxRecDepth 100000
set_option maxHeartbeats 4000000
namespace Go.Proofs.YtighjcjmacajoaaGreatDoor
open Go Foot
end Go.Proofs.YtighjcjmacajoaaGreatDoor
end
section
set_option linter.unusedVariables false
set_option linter.unusedSimpArgs false
set_option maxRecDepth 100000
set_option maxHeartbeats 4000000
namespace Go.Proofs.YtighjcjmacajoaaGreatDoor
open Go Foot
section
variable {P : Program} {g : Gh} {st : St} {dst : Option Tmp} {ty : TypeId} {pos : String} {after : Array Edge} {guard : Option (Nat × Bool)} {x y z : Operand} {T U : TypeId} {a b : Int}
end
end Go.Proofs.YtighjcjmacajoaaGreatDoor
end
section
set_option linter.unusedVariables false
set_option linter.unusedSimpArgs false
set_option maxRecDepth 100000
set_option maxHeartbeats 4000000
namespace Go.Proofs.YtighjcjmacajoaaGreatDoor
open Go Foot
end Go.Proofs.YtighjcjmacajoaaGreatDoor
end
section
set_option linter.unusedVariables false
set_option linter.unusedSimpArgs false
set_option maxRecDepth 100000
set_option maxHeartbeats 4000000
namespace Go.Proofs.YtighjcjmacajoaaGreatDoor
open Go Foot
end Go.Proofs.YtighjcjmacajoaaGreatDoor
end
