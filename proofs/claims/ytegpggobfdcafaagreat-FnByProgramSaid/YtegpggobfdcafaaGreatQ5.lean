/- Parts of the proof (5 of 19). -/
import Derived.RangeFuncRecord
import Derived.Test.YtegpggobfdcafaaGreatQ4
section
set_option linter.unusedVariables false
set_option linter.unusedSimpArgs false
namespace Go.Proofs.YtegpggobfdcafaaGreat
open Go Foot
def RepA (w : World) (S : Foot) (ρ : Env) : List SV → List Value → Prop
  | [],vs => vs = []
  | sv :: l,vs => ∃ v us,vs = v :: us ∧ RepS w S ρ sv v ∧ RepA w S ρ l us
def upTo (F : Nat → Foot) (k : Nat) : Foot := fun b o => ∃ i,i < k ∧ F i b o
def Roots (w : World) (S : Foot) (ρ : Env) (H : List GB) (F : Nat → Foot) : Prop := ∀ i gb,H[i]? = some gb → gb = .dead ∨ ∃ v,ρ i = some v ∧ RepG w S ρ gb v (F i)
structure Ret (w w' : World) (S S1 : Foot) (ρ ρ' : Env) (F F' : Nat → Foot) (k : Nat) (H' : List GB) : Prop where
  keeps : Keeps (upTo F k) w w'
  newS : le S1 (newOr w (upTo F k))
  exS : ∀ b o,S1 b o → b < w'.heap.size
  len : k ≤ H'.length
  old : ∀ i u,i < k → ρ i = some u → ρ' i = some u
  new : ∀ i,H'.length ≤ i → ρ' i = none
  roots : Roots w' (S.or S1) ρ' H' F'
  dis : ∀ i j,i < H'.length → j < H'.length → i ≠ j → Foot.dis (F' i) (F' j)
  disS : ∀ i,i < H'.length → Foot.dis (F' i) S1
  own : ∀ i,i < H'.length → le (F' i) (newOr w (upTo F k))
  ex : ∀ i,i < H'.length → ∀ b o,F' i b o → b < w'.heap.size
structure Given (w : World) (S : Foot) (ρ : Env) (F : Nat → Foot) (H : List GB) : Prop where
  roots : Roots w S ρ H F
  new : ∀ i,H.length ≤ i → ρ i = none
  dis : ∀ i j,i < H.length → j < H.length → i ≠ j → Foot.dis (F i) (F j)
  disS : ∀ i,i < H.length → Foot.dis (F i) S
  ex : ∀ i,i < H.length → ∀ b o,F i b o → b < w.heap.size
  exS : ∀ b o,S b o → b < w.heap.size
  tab : Tabs w S
def DoesW (Callee : List Value → World → (Ending → World → Prop) → Prop) (args : List SV) (H : List GB) (res : SV) (H' : List GB) : Prop :=
  ∀ (vs : List Value) (w : World) (S : Foot) (ρ : Env) (F : Nat → Foot),RepA w S ρ args vs → Given w S ρ F H →
    Callee vs w fun e w' => ∃ v S1 ρ' F',e = .returned v ∧ Ret w w' S S1 ρ ρ' F F' H.length H' ∧ RepS w' (S.or S1) ρ' res v
def Does (P : Program) (f : FuncId) (args : List SV) (H : List GB) (res : SV) (H' : List GB) : Prop :=
  ∀ (vs : List Value) (w : World) (S : Foot) (ρ : Env) (F : Nat → Foot),RepA w S ρ args vs → Given w S ρ F H →
    Calls P f vs.toArray w fun e w' => ∃ v S1 ρ' F',e = .returned v ∧ Ret w w' S S1 ρ ρ' F F' H.length H' ∧ RepS w' (S.or S1) ρ' res v
inductive ResOk (P : Program) (st : St) : ResultVar → Bool → List C → Prop where
  | one {t : Nat} {c : C} (h : lkS st.t t = .one c) : ResOk P st (.tmp t) false [c]
  | agg {t : Nat} {cs : List C} (h : lkS st.t t = .agg cs) : ResOk P st (.tmp t) true cs
  | cell {a T i k : Nat} {c0 c : C} {cs : List C} (h : lkS st.t a = .one c0) (ht : tgt st c0 = some (i,k)) (hg : lkG st.h i = .bx cs) (hT : cellB P T = true) (hr : cs[k]? = some c) : ResOk P st (.cell a T) false [c]
  | cells {a T i k n : Nat} {c0 : C} {cs cs' : List C} (h : lkS st.t a = .one c0) (ht : tgt st c0 = some (i,k)) (hg : lkG st.h i = .bx cs) (hT : aggB P T n = true) (hr : k + n ≤ cs.length) (he : (cs.drop k).take n = cs') : ResOk P st (.cell a T) true cs'
inductive RessOk (P : Program) (st : St) : List ResultVar → List (Bool × List C) → Prop where
  | nil : RessOk P st [] []
  | cons {r : ResultVar} {ag : Bool} {cs : List C} {rs : List ResultVar} {l : List (Bool × List C)} (h : ResOk P st r ag cs) (t : RessOk P st rs l) : RessOk P st (r :: rs) ((ag,cs) :: l)
def resSV : List (Bool × List C) → SV
  | [(true,cs)] => .agg cs
  | [(false,[c])] => .one c
  | l => .tup l
section
variable {P : Program} {g : Gh} {st : St} {a : Act} {w : World} {S : Foot} {ρ : Env} {F : Nat → Foot}
theorem run_loadVar {t : Nat} {v : Value} {b off : Nat} (h : (Instr.loadAt t (.pointer (some ⟨b,off,none⟩))).run P w = .ok v w) : (do loadVar t (← asAddr (.pointer (some ⟨b,off,none⟩))) : Sem Value).run P w = .ok v w := by
  have : (do loadVar t (← asAddr (.pointer (some ⟨b,off,none⟩))) : Sem Value) = loadVar t ⟨b,off,none⟩ := rfl
  rw [this]
  simpa [Instr.loadAt,Instr.sureAddr] using h
theorem ResOk.run {r : ResultVar} {ag : Bool} {cs : List C} (hr : ResOk P st r ag cs) (h : Rel g st a w S ρ F) :
    ∃ v,((match r with | .tmp t => pure (a.tmps.getD t undef) | .cell x t => do loadVar t (← asAddr (a.tmps.getD x undef)) : Sem Value)).run P w = .ok v w ∧ RepU w S ρ ag cs v := by
  cases hr with
  | one e =>
    rename_i t c
    have := h.slot t
    rw [e] at this
    exact ⟨_,rfl,by simp only [RepU,Bool.false_eq_true,if_false]; exact ⟨_,[],rfl,this,rfl⟩⟩
  | agg e =>
    rename_i t
    have := h.slot t
    rw [e] at this
    exact ⟨_,rfl,by simp only [RepU,if_true]; exact this⟩
  | cell e ht hg hT hr =>
    rename_i x T i k c0 c cs
    have h0 := h.slot x
    rw [e] at h0
    obtain ⟨b,off,vs,e1,e2,e3,e4,e5,e6⟩ := h.tgt_bx h0 ht hg
    obtain ⟨v,hv,hv'⟩ := e4.nth hr
    refine ⟨v,?_,by simp only [RepU,Bool.false_eq_true,if_false]; exact ⟨_,[],rfl,hv',rfl⟩⟩
    simp only [e1]
    exact run_loadVar (run_load_cell hT (e3 k v hv))
  | cells e ht hg hT hr he =>
    rename_i x T i k n c0 cs
    subst he
    have h0 := h.slot x
    rw [e] at h0
    obtain ⟨b,off,vs,e1,e2,e3,e4,e5,e6⟩ := h.tgt_bx h0 ht hg
    have hlen := e4.length
    refine ⟨.agg ((vs.drop k).take n).toArray,?_,by simp only [RepU,if_true]; exact ⟨_,rfl,by simpa using (e4.drop k).take n⟩⟩
    simp only [e1]
    exact run_loadVar (run_load_agg hT ((e3.drop k).take n) (by simp; omega))
theorem RessOk.run {rs : List ResultVar} {l : List (Bool × List C)} (hr : RessOk P st rs l) (h : Rel g st a w S ρ F) :
    ∃ vs,(rs.mapM fun (r : ResultVar) => (match r with | .tmp t => pure (a.tmps.getD t undef) | .cell x t => do loadVar t (← asAddr (a.tmps.getD x undef)) : Sem Value)).run P w = .ok vs w ∧ RepT w S ρ l vs := by
  induction hr with
  | nil => exact ⟨[],by simp,rfl⟩
  | cons h1 t ih =>
    obtain ⟨v,e1,e2⟩ := h1.run h
    obtain ⟨vs,e3,e4⟩ := ih
    refine ⟨v :: vs,?_,⟨v,vs,rfl,e2,e4⟩⟩
    haveI := sem_lawful
    rw [List.mapM_cons]
    simp only [Sem.run_bind,e1,Result.andThen_ok,e3]
    simp
theorem results_run {fn : Func} {l : List (Bool × List C)} (hr : RessOk P st fn.results.toList l) (h : Rel g st a w S ρ F) : ∃ v,(results fn a.tmps).run P w = .ok v w ∧ RepS w S ρ (resSV l) v := by
  obtain ⟨vs,e1,e2⟩ := hr.run h
  have hm : (fn.results.mapM fun (r : ResultVar) => (match r with | .tmp t => pure (a.tmps.getD t undef) | .cell x t => do loadVar t (← asAddr (a.tmps.getD x undef)) : Sem Value)).run P w = .ok vs.toArray w := by
    haveI := sem_lawful
    rw [Array.mapM_eq_mapM_toList]
    have : ∀ (x : Sem (List Value)),(List.toArray <$> x).run P w = (x.run P w).andThen fun l w' => .ok l.toArray w' := fun x => by
      show (Sem.bind x (fun y => Sem.pure y.toArray)).run P w = _
      exact Sem.run_bind _ _ _ _
    rw [this,e1]
    rfl
  have hlen : vs.length = l.length := by
    clear hm e1 hr
    induction l generalizing vs with
    | nil => simp only [RepT] at e2; subst e2; rfl
    | cons x l ih => obtain ⟨ag,cs⟩ := x; simp only [RepT] at e2; obtain ⟨u,us,rfl,_,e3⟩ := e2; simp [ih us e3]
  refine ⟨if h : vs.toArray.size = 1 then vs.toArray[0] else .tuple vs.toArray,?_,?_⟩
  · unfold results
    refine (Sem.run_bind _ _ _ _).trans ?_
    refine (congrArg (fun r => Result.andThen r _) hm).trans ?_
    rfl
  · have tup : ∀ l' : List (Bool × List C),RepT w S ρ l' vs → vs.length ≠ 1 → RepS w S ρ (.tup l') (if h : vs.toArray.size = 1 then vs.toArray[0] else .tuple vs.toArray) := fun l' h1 h2 => by
      rw [dif_neg (by simpa using h2)]
      exact ⟨vs.toArray,rfl,by simpa using h1⟩
    match l,e2,hlen with
    | [],e2,hlen => exact tup _ e2 (by simp [hlen])
    | [(ag,cs)],e2,hlen =>
      simp only [RepT] at e2
      obtain ⟨u,us,rfl,h1,rfl⟩ := e2
      rw [dif_pos (by simp)]
      cases ag with
      | true => simp only [RepU,if_true] at h1; exact h1
      | false =>
        simp only [RepU,Bool.false_eq_true,if_false] at h1
        match cs,h1 with
        | [],h1 => simp [RepCs] at h1
        | [c],h1 =>
          simp only [RepCs] at h1
          obtain ⟨v,us',e,h2,h3⟩ := h1
          simp only [List.cons.injEq] at e
          obtain ⟨rfl,_⟩ := e
          exact h2
        | c :: c' :: cs,h1 =>
          simp only [RepCs] at h1
          obtain ⟨v,us',e,h2,v',us'',e',_⟩ := h1
          simp only [List.cons.injEq] at e
          rw [← e.2] at e'
          cases e'
    | x :: y :: l,e2,hlen => exact (by simp only [resSV]; exact tup _ e2 (by simp [hlen]))
end
def argT : Nat → List SV → List (Nat × SV)
  | _,[] => []
  | k,sv :: l => (k,sv) :: argT (k + 1) l
def argH : Nat → List GB → List (Nat × GB)
  | _,[] => []
  | k,gb :: l => (k,gb) :: argH (k + 1) l
theorem argT_lk {w : World} {S : Foot} {ρ : Env} {u : Nat → Value} : ∀ {args : List SV} {vs : List Value} {k : Nat},RepA w S ρ args vs → (∀ i,i < vs.length → u (k + i) = vs.getD i undef) → ∀ i,RepS w S ρ (lkS (argT k args) i) (u i)
  | [],vs,k,h,hu,i => trivial
  | sv :: l,vs,k,h,hu,i => by
    simp only [RepA] at h
    obtain ⟨v,us,rfl,h1,h2⟩ := h
    simp only [argT,lkS]
    by_cases hi : i = k
    · subst hi
      have hb : Nat.beq i i = true := by simp
      simp only [hb,cond_true]
      have := hu 0 (by simp)
      simp only [Nat.add_zero,List.getD_cons_zero] at this
      rw [this]
      exact h1
    · simp only [beq_ne hi,cond_false]
      refine argT_lk h2 (fun j hj => ?_) i
      have := hu (j + 1) (by simpa using hj)
      rw [show k + 1 + j = k + (j + 1) by omega,this]
      simp
theorem argH_lk : ∀ {H : List GB} {k i : Nat},lkG (argH k H) i = .dead ∨ (k ≤ i ∧ H[i - k]? = some (lkG (argH k H) i))
  | [],k,i => .inl rfl
  | gb :: l,k,i => by
    simp only [argH,lkG]
    by_cases hi : i = k
    · subst hi
      have hb : Nat.beq i i = true := by simp
      simp only [hb,cond_true]
      exact .inr ⟨Nat.le_refl _,by simp⟩
    · simp only [beq_ne hi,cond_false]
      rcases argH_lk (H := l) (k := k + 1) (i := i) with h | ⟨h1,h2⟩
      · exact .inl h
      · refine .inr ⟨by omega,?_⟩
        rw [show i - k = (i - (k + 1)) + 1 by omega,List.getElem?_cons_succ]
        exact h2
def resF (k : Nat) (ids : List Nat) (i : Nat) : Nat := bif Nat.blt i k then i else ids.getD (i - k) 0
def rootsLe (f : Nat → Nat) (st : St) : Nat → List GB → Prop
  | _,[] => True
  | i,gb :: l => (gb = .dead ∨ lkG st.h (f i) = gb.ren f) ∧ rootsLe f st (i + 1) l
theorem rootsLe_get {f : Nat → Nat} {st : St} : ∀ {H : List GB} {k i : Nat} {gb : GB},rootsLe f st k H → H[i]? = some gb → gb = .dead ∨ lkG st.h (f (k + i)) = gb.ren f
  | [],k,i,gb,_,h => by simp at h
  | g0 :: l,k,0,gb,h,hi => by simp at hi; subst hi; exact h.1
  | g0 :: l,k,i + 1,gb,h,hi => by
    have := rootsLe_get h.2 (i := i) (by simpa using hi)
    rwa [show k + (i + 1) = k + 1 + i by omega]
def allG (n : Nat) : List GB → Bool
  | [] => true
  | gb :: r => gb.lt n && allG n r
theorem allG_get {n : Nat} : ∀ {H : List GB} {i : Nat} {gb : GB},allG n H = true → H[i]? = some gb → gb.lt n = true
  | [],i,gb,_,h => by simp at h
  | g0 :: l,0,gb,h,hi => by simp only [allG,Bool.and_eq_true] at h; simp at hi; subst hi; exact h.1
  | g0 :: l,i + 1,gb,h,hi => by simp only [allG,Bool.and_eq_true] at h; exact allG_get h.2 (by simpa using hi)
def GB.lives : GB → Bool
  | .dead => false
  | _ => true
def liveIds (f : Nat → Nat) : Nat → List GB → List Nat
  | _,[] => []
  | i,gb :: l => bif gb.lives then f i :: liveIds f (i + 1) l else liveIds f (i + 1) l
theorem liveIds_mem {f : Nat → Nat} : ∀ {H : List GB} {k i : Nat} {gb : GB},H[i]? = some gb → gb.lives = true → f (k + i) ∈ liveIds f k H
  | [],k,i,gb,h,_ => by simp at h
  | g0 :: l,k,0,gb,h,hl => by simp at h; subst h; simp only [liveIds,hl,cond_true]; simp
  | g0 :: l,k,i + 1,gb,h,hl => by
    have := liveIds_mem (f := f) (k := k + 1) (i := i) (by simpa using h) hl
    rw [show k + 1 + i = k + (i + 1) by omega] at this
    simp only [liveIds]
    cases g0.lives with
    | true => exact List.mem_cons_of_mem _ this
    | false => exact this
theorem liveIds_inj {f : Nat → Nat} : ∀ {H : List GB} {k i j : Nat} {gi gj : GB},nodupB (liveIds f k H) = true → H[i]? = some gi → gi.lives = true → H[j]? = some gj → gj.lives = true → i ≠ j → f (k + i) ≠ f (k + j)
  | [],k,i,j,gi,gj,_,h,_,_,_,_ => by simp at h
  | g0 :: l,k,i,j,gi,gj,hn,hi,hli,hj,hlj,hij => by
    have key : ∀ m gm,l[m]? = some gm → gm.lives = true → g0.lives = true → f (k + (m + 1)) ≠ f k := by
      intro m gm hm hlm h0 e
      simp only [liveIds,h0,cond_true,nodupB,Bool.and_eq_true,Bool.not_eq_true',List.any_eq_false] at hn
      have := liveIds_mem (f := f) (k := k + 1) (i := m) hm hlm
      rw [show k + 1 + m = k + (m + 1) by omega] at this
      exact hn.1 _ this (by rw [e]; simp)
    have hn' : nodupB (liveIds f (k + 1) l) = true := by
      simp only [liveIds] at hn
      cases h0 : g0.lives with
      | true => rw [h0] at hn; simp only [cond_true,nodupB,Bool.and_eq_true] at hn; exact hn.2
      | false => rw [h0] at hn; exact hn
    cases i with
    | zero =>
      simp at hi
      subst hi
      cases j with
      | zero => exact absurd rfl hij
      | succ j => exact fun e => key j gj (by simpa using hj) hlj hli e.symm
    | succ i =>
      cases j with
      | zero => simp at hj; subst hj; exact fun e => key i gi (by simpa using hi) hli hlj e
      | succ j =>
        have := liveIds_inj (k := k + 1) (i := i) (j := j) hn' (by simpa using hi) hli (by simpa using hj) hlj (by omega)
        rw [show k + 1 + i = k + (i + 1) by omega,show k + 1 + j = k + (j + 1) by omega] at this
        exact this
theorem keeps_ob {w : World} {b : Nat} {ob : Obj} (hb : (mapAt w b).isSome = true) : Keeps (fun b' _ => b' = b) w (w.putObj b ob) := by
  refine ⟨rfl,rfl,rfl,by simp,fun b' _ hn => World.putObj_heap_other (hn 0),fun b' o _ hn => ?_⟩
  have := World.putObj_heap_other (w := w) (o := ob) hn
  simp [World.cell?,World.frozen?,mapAt,this]
theorem Rel.unmark {g : Gh} {st : St} {a : Act} {w : World} {S : Foot} {ρ : Env} {F : Nat → Foot} {r : Nat} {ds : List Deferred} (h : Rel g st a w S ρ F) (m : MarkOk g.w0.heap.size w S F r) (hd : Dfs g.w0.heap.size w S F g.df ds) (hne : ∀ e ∈ ds,e ≠ mkd r) :
    Rel g st { a with defers := ds } (w.putObj r (.deferred none)) S ρ F := by
  have hk := keeps_ob (w := w) (b := r) (ob := .deferred none) (by rw [m.at_]; rfl)
  have hS : Agree w (w.putObj r (.deferred none)) S := hk.agree h.exS fun b o hb e => by subst e; exact m.S o hb
  have hF : ∀ i,Agree w (w.putObj r (.deferred none)) (F i) := fun i => hk.agree (h.ex i) fun b o hb e => by subst e; exact m.F i o hb
  refine ⟨h.size,hd.keep fun r' hr m' => ?_,fun i => (h.slot i).keep hS (le_refl _) (Env.le.refl _),fun i => (h.root i).imp id fun ⟨u,h1,h2⟩ => ⟨u,h1,h2.keep (hF i) hS (le_refl _) (Env.le.refl _) (le_refl _)⟩,h.dis,h.disS,h.own,fun i b o hb => by simpa using h.ex i b o hb,fun b o hb => by simpa using h.exS b o hb,
    h.old.trans hk fun b o e => .inr (by subst e; exact m.lo),h.inS,h.newS,h.pin,h.tab.keep hS (le_refl _),h.fin⟩
  have hne' : r' ≠ r := fun e => hne _ hr (by rw [e])
  exact ⟨by rw [← m'.at_]; simp [mapAt,World.putObj_heap_other hne'],m'.F,m'.S,m'.lo⟩
theorem leaves_marks {P : Program} {fn : Func} {R : Ending → World → Prop} {g : Gh} {st : St} {S : Foot} {ρ : Env} {F : Nat → Foot} (hg : g.df = []) (hR : ∀ a w,Rel g st a w S ρ F → ∃ v,(results fn a.tmps).run P w = .ok v w ∧ R (.returned v) w) : ∀ (ds : List Deferred) (a : Act) (w : World),a.defers = ds → Rel g st a w S ρ F → LeavesInM (fen none) 0 P fn a.tmps R ds .returning w
  | [],a,w,_,h => by
    obtain ⟨v,h1,h2⟩ := hR a w h
    exact ⟨v,h1,h2⟩
  | d :: ds,a,w,e,h => by
    have hd := h.defers
    rw [e,hg] at hd
    simp only [Dfs] at hd
    rcases hd with ⟨r,e1,m,h2,h3⟩ | ⟨df',e1,_⟩
    · subst e1
      refine ⟨by simp,.inl ⟨r,w.putObj r (.deferred none),rfl,run_takeDeferred (mapAt_of m.at_),?_⟩⟩
      exact leaves_marks hg hR ds { a with defers := ds } _ rfl (h.unmark m (hg ▸ h3) h2)
    · cases e1
def Ends (P : Program) (fn : Func) (k : Nat) (res : SV) (H' : List GB) : Exit → St → Prop := fun e st =>
  (e = .normal ∨ e = .ret) ∧ ∃ l ids,RessOk P st fn.results.toList l ∧ SVLe st.h [] (resSV l) (res.ren (resF k ids)) ∧ rootsLe (resF k ids) st 0 H' ∧ H'.length = k + ids.length ∧ nodupB (liveIds (resF k ids) 0 H') = true ∧ res.lt H'.length = true ∧ allG H'.length H' = true
theorem does_of0 {P : Program} {f : FuncId} {fn : Func} {c : Code} {n : Nat} {args : List SV} {H H' : List GB} {res : SV} (hf : P.funcs[f]? = some fn) (hb : fn.body = some c) (hn : fn.ntmps = n) (hargs : Nat.ble args.length n = true)
    (h : ∀ w F0 S0 ρ0,GWp P ⟨n,w,F0,S0,H.length,ρ0,none,[]⟩ c ⟨argT 0 args,argH 0 H,H.length⟩ (Ends P fn H.length res H')) : Does P f args H res H' := by
  intro vs w S ρ F hA hG
  have hargs2 := Nat.le_of_ble_eq_true hargs
  clear hargs
  have hargs := hargs2
  clear hargs2
  refine callsIn_wide.1 (callsIn_of_wp_marks (n := 0) (F := fen none) hf hb trivial ?_)
  have hlen : vs.length = args.length := by
    clear h hargs
    induction args generalizing vs with
    | nil => simp only [RepA] at hA; subst hA; rfl
    | cons x l ih => simp only [RepA] at hA; obtain ⟨u,us,rfl,_,e3⟩ := hA; simp [ih us e3]
  have hsz : (vs.toArray ++ Array.replicate (fn.ntmps - vs.toArray.size) undef).size = n := by simp; omega
  let F1 : Nat → Foot := fun i => if i < H.length then F i else no
  have hrel : Rel ⟨n,w,upTo F H.length,S,H.length,ρ,none,[]⟩ ⟨argT 0 args,argH 0 H,H.length⟩ { tmps := vs.toArray ++ Array.replicate (fn.ntmps - vs.toArray.size) undef,defers := [] } w S ρ F1 := by
    refine ⟨hsz,rfl,fun i => ?_,fun i => ?_,fun i j hij => ?_,fun i => ?_,fun i => ?_,fun i b o hb => ?_,hG.exS,Keeps.refl _ _,le_refl _,fun b o h => .inl h,fun i u _ h => h,hG.tab,H.length,fun i hi => hG.new i hi⟩
    · refine argT_lk (u := fun i => (vs.toArray ++ Array.replicate (fn.ntmps - vs.toArray.size) undef).getD i undef) hA (fun j hj => ?_) i
      simp only [Nat.zero_add,Array.getD_eq_getD_getElem?,List.getD_eq_getElem?_getD]
      rw [Array.getElem?_append_left (by simpa using hj)]
      simp
    · rcases argH_lk (H := H) (k := 0) (i := i) with h0 | ⟨_,h1⟩
      · exact .inl h0
      · have hi : i < H.length := (List.getElem?_eq_some_iff.1 h1).1
        rcases hG.roots i _ h1 with h2 | ⟨v,h2,h3⟩
        · exact .inl h2
        · refine .inr ⟨v,h2,?_⟩
          simp only [F1,if_pos hi]
          exact h3
    · simp only [F1]
      by_cases hi : i < H.length <;> by_cases hj : j < H.length
      · rw [if_pos hi,if_pos hj]; exact hG.dis i j hi hj hij
      · rw [if_neg hj]; exact dis_no _
      · rw [if_neg hi]; exact no_dis _
      · rw [if_neg hj]; exact dis_no _
    · simp only [F1]
      by_cases hi : i < H.length
      · rw [if_pos hi]; exact hG.disS i hi
      · rw [if_neg hi]; exact no_dis _
    · simp only [F1]
      by_cases hi : i < H.length
      · rw [if_pos hi]; exact fun b o hb => .inl ⟨i,hi,hb⟩
      · rw [if_neg hi]; exact no_le _
    · simp only [F1] at hb
      by_cases hi : i < H.length
      · rw [if_pos hi] at hb; exact hG.ex i hi b o hb
      · rw [if_neg hi] at hb; exact hb.elim
  refine wpIn_mono ((h w (upTo F H.length) S ρ).run _ w S ρ F1 hrel (fun i hi => hG.new i hi)) ?_
  rintro e a0 w0 ⟨st,S',ρ',F',hrel0,hfr,he,l,ids,h1,h2,h3,h4,h5,h7,h8⟩
  suffices hR : ∀ a' w',Rel ⟨n,w,upTo F H.length,S,H.length,ρ,none,[]⟩ st a' w' S' ρ' F' → ∃ v,(results fn a'.tmps).run P w' = .ok v w' ∧ ∃ v0 S1 ρ' F',Ending.returned v = .returned v0 ∧ Ret w w' S S1 ρ ρ' F F' H.length H' ∧ RepS w' (S.or S1) ρ' res v0 by
    have := leaves_marks (R := fun e w' => ∃ v0 S1 ρ' F',e = .returned v0 ∧ Ret w w' S S1 ρ ρ' F F' H.length H' ∧ RepS w' (S.or S1) ρ' res v0) rfl hR a0.defers a0 w0 rfl hrel0
    rcases he with rfl | rfl
    · exact this
    · exact this
  intro a' w' hrel'
  obtain ⟨v,hv1,hv2⟩ := results_run h1 hrel'
  have hv3 := RepS.ren.1 (h2.rep0 hrel' hv2)
  let f' := resF H.length ids
  let S1 : Foot := fun b o => S' b o ∧ newOr w (upTo F H.length) b o
  have hSS : S.or S1 = S' := by
    funext b o
    refine propext ⟨fun h => h.elim (hrel'.inS b o) (fun h => h.1),fun h => ?_⟩
    rcases hrel'.newS b o h with h' | h'
    · exact .inl h'
    · exact .inr ⟨h,h'⟩
  let ρ2 : Env := fun i => if i < H'.length then ρ' (f' i) else none
  have hr2 : ∀ i,i < H'.length → ρ2 i = (fun i => ρ' (f' i)) i := fun i hi => if_pos hi
  let F3 : Nat → Foot := fun i => match H'[i]? with | some gb => bif gb.lives then F' (f' i) else no | none => no
  have hF3 : ∀ i,F3 i = no ∨ (F3 i = F' (f' i) ∧ ∃ gb,H'[i]? = some gb ∧ gb.lives = true) := by
    intro i
    simp only [F3]
    cases hg : H'[i]? with
    | none => exact .inl rfl
    | some gb =>
      cases hl : gb.lives with
      | true => exact .inr ⟨by simp [hl],gb,rfl,hl⟩
      | false => exact .inl (by simp [hl])
  have hret : Ret w w' S S1 ρ ρ2 F F3 H.length H' := by
    refine ⟨hrel'.old,fun b o h => h.2,fun b o h => hrel'.exS b o h.1,by omega,fun i u hi hu => ?_,fun i hi => if_neg (by omega),fun i gb hi => ?_,fun i j hi hj hij => ?_,fun i hi => ?_,fun i hi => ?_,fun i hi => ?_⟩
    · have e1 : f' i = i := by
        show resF H.length ids i = i
        unfold resF
        have : Nat.blt i H.length = true := Nat.ble_eq_true_of_le hi
        rw [this]
        rfl
      show (if i < H'.length then ρ' (f' i) else none) = some u
      rw [if_pos (by omega),e1]
      exact hrel'.pin i u hi hu
    · have hil : i < H'.length := (List.getElem?_eq_some_iff.1 hi).1
      rw [hSS]
      rcases rootsLe_get h3 hi with h0 | h0
      · exact .inl h0
      · rw [Nat.zero_add] at h0
        rcases hrel'.root (f' i) with r0 | ⟨u,r1,r2⟩
        · rw [h0] at r0
          refine .inl ?_
          cases gb <;> first | rfl | (simp [GB.ren] at r0)
        · rw [h0] at r2
          cases hl : gb.lives with
          | false =>
            refine .inl ?_
            cases gb <;> first | rfl | (simp [GB.lives] at hl)
          | true =>
            have e' : F3 i = F' (f' i) := by simp only [F3,hi,hl,cond_true]
            exact .inr ⟨u,(hr2 i hil).trans r1,by rw [e']; exact RepG.ltE hr2 (RepG.ren.1 r2) (allG_get h8 hi)⟩
    · rcases hF3 i with e | ⟨e,gi,hgi,hli⟩
      · rw [e]; exact no_dis _
      · rcases hF3 j with e' | ⟨e',gj,hgj,hlj⟩
        · rw [e']; exact dis_no _
        · rw [e,e']
          have := liveIds_inj (f := resF H.length ids) (k := 0) h5 hgi hli hgj hlj hij
          rw [Nat.zero_add,Nat.zero_add] at this
          exact hrel'.dis _ _ this
    · rcases hF3 i with e | ⟨e,_⟩
      · rw [e]; exact no_dis _
      · rw [e]; exact fun b o hb hs => hrel'.disS _ b o hb hs.1
    · rcases hF3 i with e | ⟨e,_⟩
      · rw [e]; exact no_le _
      · rw [e]; exact hrel'.own _
    · rcases hF3 i with e | ⟨e,_⟩
      · rw [e]; exact fun b o hb => hb.elim
      · rw [e]; exact hrel'.ex _
  have hres : ∃ v0 S1 ρ' F',Ending.returned v = .returned v0 ∧ Ret w w' S S1 ρ ρ' F F' H.length H' ∧ RepS w' (S.or S1) ρ' res v0 := ⟨v,S1,ρ2,_,rfl,hret,by rw [hSS]; exact RepS.ltE hr2 hv3 h7⟩
  exact ⟨v,hv1,hres⟩
theorem does_of {P : Program} {f : FuncId} {fn : Func} {c : Code} {n k : Nat} {args : List SV} {H H' : List GB} {res : SV} (hf : P.funcs[f]? = some fn) (hb : fn.body = some c) (hn : fn.ntmps = n) (hargs : Nat.ble args.length n = true) (hk : H.length = k)
    (h : ∀ w F0 S0 ρ0,GWp P ⟨n,w,F0,S0,k,ρ0,none,[]⟩ c ⟨argT 0 args,argH 0 H,k⟩ (Ends P fn k res H')) : Does P f args H res H' := by
  subst hk
  exact does_of0 hf hb hn hargs h
end Go.Proofs.YtegpggobfdcafaaGreat
end
section
set_option linter.unusedVariables false
set_option linter.unusedSimpArgs false
namespace Go.Proofs.YtegpggobfdcafaaGreat
open Go Foot
def D.plain : D → Prop
  | .bx o xs => o = true ∧ all xs
  | .sl o _ xs => o = true ∧ all xs
  | .ifc _ _ cs => all cs
  | .fn _ cs => all cs
  | _ => True
where
  all : List D → Prop
  | [] => True
  | c :: cs => c.plain ∧ all cs
def C.plain : C → Prop
  | .d x => x.plain
  | .ifc _ _ cs => all cs
  | .fn _ cs => all cs
  | _ => True
where
  all : List C → Prop
  | [] => True
  | c :: cs => c.plain ∧ all cs
def tPlain : List (Bool × List C) → Prop
  | [] => True
  | (_,cs) :: l => C.plain.all cs ∧ tPlain l
def SV.plain : SV → Prop
  | .one c => c.plain
  | .agg cs => C.plain.all cs
  | .tup l => tPlain l
  | .any => True
def GB.plain : GB → Prop
  | .dead => True
  | .bx cs => C.plain.all cs
  | .row _ xs => D.plain.all xs
  | .sh _ _ => False
  | .mp _ => True
  | .isv _ => True
  | .it _ _ _ _ => True
  | .opq _ _ => False
  | .bld _ _ _ => True
  | .lp _ _ => True
def plainH : List GB → Prop
  | [] => True
  | gb :: l => gb.plain ∧ plainH l
section
variable {w : World} {S S' F : Foot} {ρ : Env}
mutual
theorem Rep.plain : ∀ {c : D} {v : Value} {F : Foot},Rep w S c v F → c.plain → Rep w S' c v F
  | .sc _,v,F,h,_ => h
  | .bx o row,v,F,h,hp => by
    have h1 : o = true := hp.1
    have h2 : D.plain.all row := hp.2
    subst h1
    simp only [Rep,if_true] at h ⊢
    obtain ⟨b,off,vs,G,e,hl,hr,ho⟩ := h
    exact ⟨b,off,vs,G,e,hl,Reps.plain hr h2,ho⟩
  | .sl o z row,v,F,h,hp => by
    have h1 : o = true := hp.1
    have h2 : D.plain.all row := hp.2
    subst h1
    simp only [Rep,if_true] at h ⊢
    obtain ⟨a,len,cap,e,h3,h4,h5,h6⟩ := h
    refine ⟨a,len,cap,e,h3,h4,h5,h6.imp id ?_⟩
    rintro ⟨b,off,vs,G,e,hl,hr,ho⟩
    exact ⟨b,off,vs,G,e,hl,Reps.plain hr h2,ho⟩
  | .ifc t ag cs,v,F,h,hp => by
    simp only [Rep] at h ⊢
    obtain ⟨u,rfl,h⟩ := h
    refine ⟨u,rfl,?_⟩
    cases ag with
    | true => simp only [if_true] at h ⊢; obtain ⟨vs,rfl,h⟩ := h; exact ⟨vs,rfl,Reps.plain h hp⟩
    | false => simp only [Bool.false_eq_true,if_false] at h ⊢; exact Reps.plain h hp
  | .fn f cs,v,F,h,hp => by
    simp only [Rep] at h ⊢
    obtain ⟨vs,rfl,h⟩ := h
    exact ⟨vs,rfl,Reps.plain h hp⟩
  | .junk,v,F,h,_ => h
theorem Reps.plain : ∀ {cs : List D} {vs : List Value} {F : Foot},Reps w S cs vs F → D.plain.all cs → Reps w S' cs vs F
  | [],vs,F,h,_ => h
  | c :: cs,vs,F,h,hp => by
    simp only [Reps] at h ⊢
    obtain ⟨v,us,F1,F2,rfl,h1,h2,h3,h4,h5⟩ := h
    exact ⟨v,us,F1,F2,rfl,h1,h2,h3,Rep.plain h4 hp.1,Reps.plain h5 hp.2⟩
end
mutual
theorem RepC.plain : ∀ {c : C} {v : Value},RepC w S ρ c v → c.plain → RepC w S' ρ c v
  | .d x,v,h,hp => Rep.plain h hp
  | .gv g,v,h,_ => h
  | .gp g o,v,h,_ => h
  | .gs g z lo hi,v,h,_ => h
  | .ifc t ag cs,v,h,hp => by
    simp only [RepC] at h ⊢
    obtain ⟨u,rfl,h⟩ := h
    refine ⟨u,rfl,?_⟩
    cases ag with
    | true => simp only [if_true] at h ⊢; obtain ⟨vs,rfl,h⟩ := h; exact ⟨vs,rfl,RepCs.plain h hp⟩
    | false => simp only [Bool.false_eq_true,if_false] at h ⊢; exact RepCs.plain h hp
  | .fn f cs,v,h,hp => by
    simp only [RepC] at h ⊢
    obtain ⟨vs,rfl,h⟩ := h
    exact ⟨vs,rfl,RepCs.plain h hp⟩
theorem RepCs.plain : ∀ {cs : List C} {vs : List Value},RepCs w S ρ cs vs → C.plain.all cs → RepCs w S' ρ cs vs
  | [],vs,h,_ => h
  | c :: cs,vs,h,hp => by
    simp only [RepCs] at h ⊢
    obtain ⟨v,us,rfl,h1,h2⟩ := h
    exact ⟨v,us,rfl,RepC.plain h1 hp.1,RepCs.plain h2 hp.2⟩
end
theorem RepT.plain : ∀ {l : List (Bool × List C)} {vs : List Value},RepT w S ρ l vs → tPlain l → RepT w S' ρ l vs
  | [],vs,h,_ => h
  | (ag,cs) :: l,vs,h,hp => by
    simp only [RepT] at h ⊢
    obtain ⟨v,us,rfl,h1,h2⟩ := h
    refine ⟨v,us,rfl,?_,RepT.plain h2 hp.2⟩
    unfold RepU at *
    cases ag with
    | true => simp only [if_true] at *; obtain ⟨vs,rfl,h⟩ := h1; exact ⟨vs,rfl,h.plain hp.1⟩
    | false => simp only [Bool.false_eq_true,if_false] at *; exact h1.plain hp.1
theorem RepS.plain {sv : SV} {v : Value} (h : RepS w S ρ sv v) (hp : sv.plain) : RepS w S' ρ sv v := by
  cases sv with
  | one c => exact RepC.plain h hp
  | agg cs => obtain ⟨vs,rfl,h⟩ := h; exact ⟨vs,rfl,h.plain hp⟩
  | tup l => obtain ⟨vs,rfl,h⟩ := h; exact ⟨vs,rfl,h.plain hp⟩
  | any => trivial
theorem RepG.plain {gb : GB} {v : Value} (h : RepG w S ρ gb v F) (hp : gb.plain) : RepG w S' ρ gb v F := by
  cases gb with
  | dead => trivial
  | bx cs =>
    simp only [RepG] at h ⊢
    obtain ⟨b,off,vs,h1,h2,h3,h4⟩ := h
    exact ⟨b,off,vs,h1,h2,h3.plain hp,h4⟩
  | row z xs =>
    simp only [RepG,Rep,if_true] at h ⊢
    obtain ⟨a,len,cap,h1,h2,h3,h4,h5⟩ := h
    refine ⟨a,len,cap,h1,h2,h3,h4,h5.imp id ?_⟩
    rintro ⟨b,off,vs,G,e1,e2,e3,e4⟩
    exact ⟨b,off,vs,G,e1,e2,e3.plain hp,e4⟩
  | sh z xs => exact hp.elim
  | mp kv => exact h
  | isv v0 => exact h
  | it b kv todo cur => exact h
  | opq R cs => exact hp.elim
  | bld T e l => exact h
  | lp l r => exact h
end
theorem plainH_get : ∀ {H : List GB} {i : Nat} {gb : GB},plainH H → H[i]? = some gb → gb.plain
  | [],i,gb,_,h => by simp at h
  | g0 :: l,0,gb,h,hi => by simp at hi; subst hi; exact h.1
  | g0 :: l,i + 1,gb,h,hi => plainH_get h.2 (by simpa using hi)
def calF : List Nat → Nat → Nat → Nat
  | [],m,i => m + i
  | t :: _,_,0 => t
  | _ :: θ,m,i + 1 => calF θ m i
theorem calF_eq : ∀ (θ : List Nat) (m i : Nat),calF θ m i = bif Nat.blt i θ.length then thF θ i else m + (i - θ.length)
  | [],m,i => by
    have : Nat.blt i 0 = false := by cases i <;> rfl
    simp [calF,this]
  | t :: θ,m,0 => rfl
  | t :: θ,m,i + 1 => by
    have e : Nat.blt (i + 1) (t :: θ).length = Nat.blt i θ.length := rfl
    rw [calF,calF_eq θ m i,e,List.length_cons,show i + 1 - (θ.length + 1) = i - θ.length by omega]
    rfl
def upOf (f : Nat → Nat) : Nat → List GB → List (Nat × GB)
  | _,[] => []
  | k,gb :: l => (f k,gb.ren f) :: upOf f (k + 1) l
theorem upOf_mem {f : Nat → Nat} : ∀ {H : List GB} {k : Nat} {x : Nat × GB},x ∈ upOf f k H → ∃ i gb,H[i]? = some gb ∧ x = (f (k + i),gb.ren f)
  | [],k,x,h => by simp [upOf] at h
  | g0 :: l,k,x,h => by
    simp only [upOf,List.mem_cons] at h
    rcases h with rfl | h
    · exact ⟨0,g0,by simp,by simp⟩
    · obtain ⟨i,gb,h1,h2⟩ := upOf_mem h
      exact ⟨i + 1,gb,by simpa using h1,by rw [h2,show k + 1 + i = k + (i + 1) by omega]⟩
theorem upOf_has {f : Nat → Nat} : ∀ {H : List GB} {k i : Nat},i < H.length → ∃ gb,(f (k + i),gb) ∈ upOf f k H
  | [],k,i,h => by simp at h
  | g0 :: l,k,0,h => ⟨_,by simp [upOf]; exact .inl rfl⟩
  | g0 :: l,k,i + 1,h => by
    obtain ⟨gb,hm⟩ := upOf_has (f := f) (H := l) (k := k + 1) (i := i) (by simpa using h)
    exact ⟨gb,by rw [show k + (i + 1) = k + 1 + i by omega]; simp [upOf,hm]⟩
def rootsEq (f : Nat → Nat) (st : St) : Nat → List GB → Prop
  | _,[] => True
  | i,gb :: l => (lkG st.h (f i) = gb.ren f ∧ gb.lives = true) ∧ rootsEq f st (i + 1) l
theorem rootsEq_get {f : Nat → Nat} {st : St} : ∀ {H : List GB} {k i : Nat} {gb : GB},rootsEq f st k H → H[i]? = some gb → lkG st.h (f (k + i)) = gb.ren f ∧ GB.lives gb = true
  | [],k,i,gb,_,h => by simp at h
  | g0 :: l,k,0,gb,h,hi => by simp at hi; subst hi; exact h.1
  | g0 :: l,k,i + 1,gb,h,hi => by
    have := rootsEq_get h.2 (i := i) (by simpa using hi)
    rwa [show k + (i + 1) = k + 1 + i by omega]
def fnv : C → Option (Fn × List C)
  | .d (.fn f ds) => some (f,ds.map C.d)
  | .fn f cs => some (f,cs)
  | _ => none
def entB (P : Program) (f : Nat) : Bool := match P.funcs[f]? with
  | some fn => fn.body.isSome && !(fn.name == "runtime.NumGoroutine")
  | none => false
def ltA (n : Nat) : List SV → Bool
  | [] => true
  | sv :: l => sv.lt n && ltA n l
section
variable {P : Program} {g : Gh} {st : St} {sv : SV}
theorem ASLe.rep {a : Act} {w : World} {S : Foot} {ρ : Env} {F : Nat → Foot} {ld : List Nat} {as1 as' : List SV} (hl : ASLe st.h ld as1 as') (h : Rel g st a w S ρ F) : ∀ {vs : List Value},RepA w S ρ as1 vs → RepA w (S.or (chF F ld)) ρ as' vs := by
  induction hl with
  | nil => exact fun h => h
  | cons a b ih =>
    intro vs hc
    simp only [RepA] at hc
    obtain ⟨v,us,rfl,h1,h2⟩ := hc
    exact ⟨v,us,rfl,a.rep h h1,ih h2⟩
theorem repA_ren {w : World} {S : Foot} {ρ ρ' : Env} {f : Nat → Nat} {n : Nat} (hr : ∀ i,i < n → ρ' i = ρ (f i)) : ∀ {as1 : List SV} {vs : List Value},RepA w S ρ (as1.map (SV.ren f)) vs → ltA n as1 = true → RepA w S ρ' as1 vs
  | [],vs,h,_ => h
  | sv :: l,vs,h,hl => by
    simp only [List.map_cons,RepA] at h
    simp only [ltA,Bool.and_eq_true] at hl
    obtain ⟨v,us,rfl,h1,h2⟩ := h
    exact ⟨v,us,rfl,RepS.ltE hr (RepS.ren.1 h1) hl.1,repA_ren hr h2 hl.2⟩
theorem repA_opd {a : Act} {w : World} {S : Foot} {ρ : Env} {F : Nat → Foot} (h : Rel g st a w S ρ F) : ∀ (xs : List Operand),RepA w S ρ (xs.map (opd st)) (xs.map a.eval)
  | [] => rfl
  | x :: xs => ⟨_,_,rfl,h.opd x,repA_opd h xs⟩
theorem repA_app {w : World} {S : Foot} {ρ : Env} : ∀ {as1 bs : List SV} {vs us : List Value},RepA w S ρ as1 vs → RepA w S ρ bs us → RepA w S ρ (as1 ++ bs) (vs ++ us)
  | [],bs,vs,us,h,h' => by simp only [RepA] at h; subst h; exact h'
  | sv :: l,bs,vs,us,h,h' => by
    simp only [RepA] at h
    obtain ⟨v,vs',rfl,h1,h2⟩ := h
    exact ⟨v,vs' ++ us,rfl,h1,repA_app h2 h'⟩
theorem repA_one {w : World} {S : Foot} {ρ : Env} : ∀ {cs : List C} {vs : List Value},RepCs w S ρ cs vs → RepA w S ρ (cs.map .one) vs
  | [],vs,h => h
  | c :: cs,vs,h => by
    simp only [RepCs] at h
    obtain ⟨v,us,rfl,h1,h2⟩ := h
    exact ⟨v,us,rfl,h1,repA_one h2⟩
theorem fnv_eval {w : World} {S : Foot} {ρ : Env} {c : C} {v : Value} {f : Fn} {cap : List C} (h : RepC w S ρ c v) (hv : fnv c = some (f,cap)) : ∃ vs,v = .func f #[] vs ∧ RepCs w S ρ cap vs.toList := by
  unfold fnv at hv
  split at hv
  · simp only [Option.some.injEq,Prod.mk.injEq] at hv
    obtain ⟨rfl,rfl⟩ := hv
    simp only [RepC,Rep] at h
    obtain ⟨vs,rfl,h⟩ := h
    exact ⟨vs,rfl,repCs_d h⟩
  · simp only [Option.some.injEq,Prod.mk.injEq] at hv
    obtain ⟨rfl,rfl⟩ := hv
    simp only [RepC] at h
    obtain ⟨vs,rfl,h⟩ := h
    exact ⟨vs,rfl,h⟩
  · cases hv
theorem call_done {m : Nat} {as1 args : List SV} {H H' : List GB} {res : SV} {θ ld : List Nat} {up : List (Nat × GB)} {Callee : List Value → World → (Ending → World → Prop) → Prop} (hmono : ∀ (vs : List Value) (w : World) (R R' : Ending → World → Prop),Callee vs w R → (∀ e w',R e w' → R' e w') → Callee vs w R')
    (hD : DoesW Callee as1 H res H') (ha : ASLe st.h ld args (as1.map (SV.ren (calF θ m)))) (hH : rootsEq (calF θ m) st 0 H) (hk : H.length = θ.length) (hθ : nodupB θ = true) (hm : θ.all (fun t => Nat.blt t m) = true) (hld : ld.all (fun i => !(θ.any (Nat.beq i))) = true)
    (hpl : ld = [] ∨ (res.plain ∧ plainH H')) (hlt : ltA H.length as1 = true) (hltH : allG H.length H = true) (hltr : res.lt H'.length = true) (hltH' : allG H'.length H' = true) (hsv : res.ren (calF θ m) = sv) (hup : upOf (calF θ m) 0 H' = up)
    {a : Act} {w : World} {S : Foot} {ρ : Env} {F : Nat → Foot} (h : Rel g st a w S ρ F) (hfr : ∀ x ∈ up,x.1 ∈ θ ∨ ρ x.1 = none) {vs : List Value} (hr2 : RepA w S ρ args vs) :
    Callee vs w fun e w' => ∃ v S1 ρ' F',e = .returned v ∧ Done w w' S S1 ρ ρ' F F' θ up ∧ RepS w' (S.or S1) ρ' sv v := by
  subst hsv hup
  have hA := ha.rep h hr2
  let k := θ.length
  let Sc : Foot := S.or (chF F ld)
  have cal1 : ∀ i,i < k → calF θ m i = thF θ i := fun i hi => by
    rw [calF_eq]
    have : Nat.blt i θ.length = true := Nat.ble_eq_true_of_le hi
    rw [this]; rfl
  have cal2 : ∀ i,k ≤ i → calF θ m i = m + (i - k) := fun i hi => by
    rw [calF_eq]
    have : Nat.blt i θ.length = false := by
      cases hb : Nat.blt i θ.length with
      | false => rfl
      | true => have := blt_lt hb; omega
    rw [this]; rfl
  have thmem : ∀ i,i < k → thF θ i ∈ θ := fun i hi => by simp [thF,show i < θ.length from hi]
  have thlt : ∀ i,i < k → thF θ i < m := fun i hi => blt_lt ((List.all_eq_true.1 hm) _ (thmem i hi))
  have calinj : ∀ i j,i ≠ j → calF θ m i ≠ calF θ m j := by
    intro i j hij
    rcases Nat.lt_or_ge i k with hi | hi <;> rcases Nat.lt_or_ge j k with hj | hj
    · rw [cal1 i hi,cal1 j hj]; exact nodupB_inj hθ i j hi hj hij
    · rw [cal1 i hi,cal2 j hj]; have := thlt i hi; omega
    · rw [cal2 i hi,cal1 j hj]; have := thlt j hj; omega
    · rw [cal2 i hi,cal2 j hj]; omega
  have live : ∀ i,i < k → ∃ u,ρ (thF θ i) = some u := by
    intro i hi
    have hi' : i < H.length := by rw [hk]; exact hi
    obtain ⟨e1,e2⟩ := rootsEq_get hH (List.getElem?_eq_getElem hi')
    rw [Nat.zero_add,cal1 i hi] at e1
    rcases h.root (thF θ i) with r0 | ⟨u,r1,_⟩
    · rw [e1] at r0
      cases hg : H[i] <;> rw [hg] at r0 e2 <;> simp [GB.ren,GB.lives] at r0 e2
    · exact ⟨u,r1⟩
  let ρc : Env := fun i => if i < k then ρ (thF θ i) else none
  let Fc : Nat → Foot := fun i => F (thF θ i)
  have hrc : ∀ i,i < H.length → ρc i = ρ (calF θ m i) := fun i hi => by
    have hi' : i < k := by rw [hk] at hi; exact hi
    simp only [ρc,if_pos hi',cal1 i hi']
  have hldθ : ∀ j ∈ ld,∀ i,i < k → j ≠ thF θ i := by
    intro j hj i hi e
    have := (List.all_eq_true.1 hld) j hj
    simp only [Bool.not_eq_true',List.any_eq_false] at this
    exact this _ (thmem i hi) (by rw [e]; simp)
  have hdisSc : ∀ i,i < k → Foot.dis (F (thF θ i)) Sc := by
    intro i hi b o hb hs
    rcases hs with hs | ⟨j,hj,hs⟩
    · exact h.disS _ b o hb hs
    · exact h.dis _ _ (hldθ j hj i hi).symm b o hb hs
  have hgiven : Given w Sc ρc Fc H := by
    refine ⟨fun i gb hi => ?_,fun i hi => if_neg (by rw [hk] at hi; exact Nat.not_lt.2 hi),fun i j hi hj hij => ?_,fun i hi => ?_,fun i hi => h.ex _,fun b o hb => ?_,h.tab.keep (Agree.refl _ _) (le_or_left _ _)⟩
    · have hil : i < H.length := (List.getElem?_eq_some_iff.1 hi).1
      have hik : i < k := by rw [hk] at hil; exact hil
      obtain ⟨e1,e2⟩ := rootsEq_get hH hi
      rw [Nat.zero_add] at e1
      rcases h.root (calF θ m i) with r0 | ⟨u,r1,r2⟩
      · rw [e1] at r0
        refine .inl ?_
        cases gb <;> first | rfl | (simp [GB.ren] at r0)
      · rw [e1] at r2
        refine .inr ⟨u,(hrc i hil).trans r1,?_⟩
        rw [cal1 i hik] at r2
        exact (RepG.ltE hrc (RepG.ren.1 r2) (allG_get hltH hi)).keep (Agree.refl _ _) (Agree.refl _ _) (le_or_left _ _) (Env.le.refl _) (le_refl _)
    · exact h.dis _ _ (nodupB_inj hθ i j (by rw [hk] at hi; exact hi) (by rw [hk] at hj; exact hj) hij)
    · exact hdisSc i (by rw [hk] at hi; exact hi)
    · exact hb.elim (h.exS b o) (fun ⟨j,_,hj⟩ => h.ex j b o hj)
  have hcall := hD vs w Sc ρc Fc (repA_ren hrc hA hlt) hgiven
  refine hmono _ _ _ _ hcall ?_
  rintro e w' ⟨v,S1,ρ',F',rfl,hret,hres⟩
  have hup : upTo Fc H.length = chF F θ := by
    funext b o
    refine propext ⟨fun ⟨i,hi,hb⟩ => ⟨_,thmem i (by rw [hk] at hi; exact hi),hb⟩,fun ⟨t,ht,hb⟩ => ?_⟩
    obtain ⟨i,hi,rfl⟩ := List.getElem_of_mem ht
    refine ⟨i,by rw [hk]; exact hi,?_⟩
    simp only [Fc,thF,List.getD_eq_getElem?_getD,List.getElem?_eq_getElem hi,Option.getD_some]
    exact hb
  let ρ2 : Env := fun i => if m ≤ i ∧ i < m + (H'.length - k) then ρ' (k + (i - m)) else ρ i
  let F2 : Nat → Foot := fun x b o => ∃ j,j < H'.length ∧ calF θ m j = x ∧ F' j b o
  have hF2 : ∀ j,j < H'.length → F2 (calF θ m j) = F' j := fun j hj => by
    funext b o
    refine propext ⟨fun ⟨j',h1,h2,h3⟩ => ?_,fun h => ⟨j,hj,rfl,h⟩⟩
    by_cases e : j' = j
    · rw [← e]; exact h3
    · exact absurd h2 (calinj j' j e)
  have hkl : k ≤ H'.length := by have := hret.len; omega
  have hρ2 : ∀ j,j < H'.length → ρ' j = ρ2 (calF θ m j) := by
    intro j hj
    rcases Nat.lt_or_ge j k with hjk | hjk
    · obtain ⟨u,hu⟩ := live j hjk
      have h1 := hret.old j u (by rw [hk]; exact hjk) (by simp only [ρc,if_pos hjk]; exact hu)
      have h2 := thlt j hjk
      simp only [ρ2,cal1 j hjk]
      rw [if_neg (by omega),h1,hu]
    · simp only [ρ2,cal2 j hjk]
      rw [if_pos (by omega),show k + (m + (j - k) - m) = j by omega]
  have hnew : ∀ j,k ≤ j → j < H'.length → ρ (m + (j - k)) = none := by
    intro j hj1 hj2
    obtain ⟨gb,hmem⟩ := upOf_has (f := calF θ m) (H := H') (k := 0) (i := j) hj2
    rw [Nat.zero_add,cal2 j hj1] at hmem
    rcases hfr _ hmem with h1 | h1
    · have := blt_lt ((List.all_eq_true.1 hm) _ h1)
      simp only at this
      omega
    · exact h1
  have hdone : Done w w' S S1 ρ ρ2 F F2 θ (upOf (calF θ m) 0 H') := by
    refine ⟨fun t ht => ?_,by rw [← hup]; exact hret.keeps,by rw [← hup]; exact hret.newS,hret.exS,fun i u hu => ?_,fun i hi hn => ?_,fun x hx => ?_,fun x hx => ?_,fun x hx => ?_,fun x hx => ?_,fun x hx y hy hxy => ?_⟩
    · obtain ⟨i,hi,rfl⟩ := List.getElem_of_mem ht
      obtain ⟨gb,hmem⟩ := upOf_has (f := calF θ m) (H := H') (k := 0) (i := i) (by omega)
      rw [Nat.zero_add,cal1 i hi] at hmem
      refine ⟨gb,?_⟩
      have : thF θ i = θ[i] := by simp [thF,hi]
      rwa [this] at hmem
    · by_cases hc : m ≤ i ∧ i < m + (H'.length - k)
      · have := hnew (k + (i - m)) (by omega) (by omega)
        rw [show m + (k + (i - m) - k) = i by omega,hu] at this
        cases this
      · simp only [ρ2,if_neg hc]; exact hu
    · by_cases hc : m ≤ i ∧ i < m + (H'.length - k)
      · obtain ⟨gb,hmem⟩ := upOf_has (f := calF θ m) (H := H') (k := 0) (i := k + (i - m)) (by omega)
        rw [Nat.zero_add,cal2 _ (by omega),show m + (k + (i - m) - k) = i by omega] at hmem
        exact absurd hmem (hn gb)
      · simp only [ρ2,if_neg hc]; exact hi
    · obtain ⟨i,gb,h1,rfl⟩ := upOf_mem hx
      rw [Nat.zero_add]
      have hil : i < H'.length := (List.getElem?_eq_some_iff.1 h1).1
      rcases hret.roots i gb h1 with r0 | ⟨u,r1,r2⟩
      · refine .inl ?_
        rw [r0]; rfl
      · refine .inr ⟨u,(hρ2 i hil).symm.trans r1,?_⟩
        show RepG w' (S.or S1) ρ2 (gb.ren (calF θ m)) u (F2 (calF θ m i))
        rw [hF2 i hil]
        refine RepG.ren.2 (RepG.ltE (ρ := ρ') (fun j hj => (hρ2 j hj).symm) ?_ (allG_get hltH' h1))
        rcases hpl with rfl | ⟨_,hp⟩
        · have : Sc = S := by show S.or (chF F []) = S; rw [chF_nil,or_no]
          rw [this] at r2
          exact r2
        · exact r2.plain (plainH_get hp h1)
    · obtain ⟨i,gb,h1,rfl⟩ := upOf_mem hx
      rw [Nat.zero_add]
      have hil : i < H'.length := (List.getElem?_eq_some_iff.1 h1).1
      show le (F2 (calF θ m i)) _
      rw [hF2 i hil,← hup]
      exact hret.own i hil
    · obtain ⟨i,gb,h1,rfl⟩ := upOf_mem hx
      rw [Nat.zero_add]
      have hil : i < H'.length := (List.getElem?_eq_some_iff.1 h1).1
      show ∀ b o,F2 (calF θ m i) b o → _
      rw [hF2 i hil]
      exact hret.ex i hil
    · obtain ⟨i,gb,h1,rfl⟩ := upOf_mem hx
      rw [Nat.zero_add]
      have hil : i < H'.length := (List.getElem?_eq_some_iff.1 h1).1
      show Foot.dis (F2 (calF θ m i)) S1
      rw [hF2 i hil]
      exact hret.disS i hil
    · obtain ⟨i,gb,h1,rfl⟩ := upOf_mem hx
      obtain ⟨j,gb',h2,rfl⟩ := upOf_mem hy
      simp only [Nat.zero_add] at hxy ⊢
      have hil : i < H'.length := (List.getElem?_eq_some_iff.1 h1).1
      have hjl : j < H'.length := (List.getElem?_eq_some_iff.1 h2).1
      rw [hF2 i hil,hF2 j hjl]
      exact hret.dis i j hil hjl (fun e => hxy (by rw [e]))
  refine ⟨v,S1,ρ2,F2,rfl,hdone,RepS.ren.2 (RepS.ltE (ρ := ρ') (fun j hj => (hρ2 j hj).symm) ?_ hltr)⟩
  rcases hpl with rfl | ⟨hp,_⟩
  · have : Sc = S := by show S.or (chF F []) = S; rw [chF_nil,or_no]
    rw [this] at hres
    exact hres
  · exact hres.plain hp
theorem call_any {m : Nat} {as1 args : List SV} {H H' : List GB} {res : SV} {θ ld : List Nat} {up : List (Nat × GB)} {o : Oper} {Callee : List Value → World → (Ending → World → Prop) → Prop} (hmono : ∀ (vs : List Value) (w : World) (R R' : Ending → World → Prop),Callee vs w R → (∀ e w',R e w' → R' e w') → Callee vs w R')
    (hD : DoesW Callee as1 H res H') (ha : ASLe st.h ld args (as1.map (SV.ren (calF θ m)))) (hH : rootsEq (calF θ m) st 0 H) (hk : H.length = θ.length) (hθ : nodupB θ = true) (hm : θ.all (fun t => Nat.blt t m) = true) (hld : ld.all (fun i => !(θ.any (Nat.beq i))) = true)
    (hpl : ld = [] ∨ (res.plain ∧ plainH H')) (hlt : ltA H.length as1 = true) (hltH : allG H.length H = true) (hltr : res.lt H'.length = true) (hltH' : allG H'.length H' = true) (hsv : res.ren (calF θ m) = sv) (hup : upOf (calF θ m) 0 H' = up)
    (hrun : ∀ a w S ρ F,Rel g st a w S ρ F → ∃ vs,RepA w S ρ args vs ∧ ∀ R K Q,Callee vs w R → (∀ e w',R e w' → ∃ v,e = .returned v ∧ K (a.put o.dst v) w') → o.wpIn (fen g.rd) 0 P a w K Q) : Acts P g o st sv θ up := by
  refine ⟨fun a w S ρ F h hfr K Q hK => ?_⟩
  obtain ⟨vs,hr1,hr2⟩ := hrun a w S ρ F h
  refine hr2 _ K Q (call_done hmono hD ha hH hk hθ hm hld hpl hlt hltH hltr hltH' hsv hup h hfr hr1) ?_
  rintro e w' ⟨v,S1,ρ',F',rfl,hd,hres⟩
  exact ⟨v,rfl,hK v w' S1 ρ' F' hd hres⟩
theorem call_core {f m : Nat} {as1 args : List SV} {H H' : List GB} {res : SV} {θ ld : List Nat} {up : List (Nat × GB)} {o : Oper}
    (hD : Does P f as1 H res H') (ha : ASLe st.h ld args (as1.map (SV.ren (calF θ m)))) (hH : rootsEq (calF θ m) st 0 H) (hk : H.length = θ.length) (hθ : nodupB θ = true) (hm : θ.all (fun t => Nat.blt t m) = true) (hld : ld.all (fun i => !(θ.any (Nat.beq i))) = true)
    (hpl : ld = [] ∨ (res.plain ∧ plainH H')) (hlt : ltA H.length as1 = true) (hltH : allG H.length H = true) (hltr : res.lt H'.length = true) (hltH' : allG H'.length H' = true) (hsv : res.ren (calF θ m) = sv) (hup : upOf (calF θ m) 0 H' = up)
    (hrun : ∀ a w S ρ F,Rel g st a w S ρ F → ∃ vs,(execOp a.eval o).run P w = .ok (.enter f vs.toArray) w ∧ RepA w S ρ args vs) : Acts P g o st sv θ up := by
  refine call_any (Callee := fun vs w R => Calls P f vs.toArray w R) (fun _ _ _ _ h hr => Calls.mono h hr) hD ha hH hk hθ hm hld hpl hlt hltH hltr hltH' hsv hup fun a w S ρ F h => ?_
  obtain ⟨vs,e1,e2⟩ := hrun a w S ρ F h
  refine ⟨vs,e2,fun R K Q hc hR => ?_⟩
  refine oper_in (not_defer e1 (fun _ h => nomatch h)) ?_
  rw [e1,Oper.uponIn_enter]
  refine ⟨fen_depth,calls_in (Calls.mono hc ?_)⟩
  intro e w' hr
  obtain ⟨v,rfl,hk⟩ := hR e w' hr
  exact hk
variable {dst : Option Tmp} {ty : TypeId} {pos : String} {after : Array Edge} {guard : Option (Nat × Bool)} {x : Operand}
theorem run_callFunc {f : Nat} (hE : entB P f = true) (args : Array Value) (w : World) : (callFunc f args).run P w = .ok (.enter f args) w := by
  unfold entB at hE
  split at hE
  · rename_i fn hf
    simp only [Bool.and_eq_true,Bool.not_eq_true'] at hE
    obtain ⟨h1,h2⟩ := hE
    have h1' : fn.body.isNone = false := by cases hb : fn.body <;> simp_all
    have h3 : ¬ fn.name = "runtime.NumGoroutine" := by simpa using h2
    have h4 : ¬ fn.body = none := by intro e; rw [e] at h1; cases h1
    simp [callFunc,program,Sem.run,hf,h3,h4]
  · cases hE
theorem a_call {f m : Nat} {c0 : C} {cap : List C} {xs : List Operand} {Ts : Array TypeId} {as1 : List SV} {H H' : List GB} {res : SV} {θ ld : List Nat} {up : List (Nat × GB)}
    (hD : Does P f as1 H res H') (hc : opd st x = .one c0) (hv : fnv c0 = some (.func f,cap)) (hE : entB P f = true)
    (ha : ASLe st.h ld (xs.map (opd st) ++ cap.map .one) (as1.map (SV.ren (calF θ m)))) (hH : rootsEq (calF θ m) st 0 H) (hk : H.length = θ.length) (hθ : nodupB θ = true) (hm : θ.all (fun t => Nat.blt t m) = true) (hld : ld.all (fun i => !(θ.any (Nat.beq i))) = true)
    (hpl : ld = [] ∨ (res.plain ∧ plainH H')) (hlt : ltA H.length as1 = true) (hltH : allG H.length H = true) (hltr : res.lt H'.length = true) (hltH' : allG H'.length H' = true) (hsv : res.ren (calF θ m) = sv) (hup : upOf (calF θ m) 0 H' = up) :
    Acts P g ⟨dst,.call { callee := .value x,args := xs.toArray,argTypes := Ts },ty,pos,after,guard⟩ st sv θ up := by
  refine call_core hD ha hH hk hθ hm hld hpl hlt hltH hltr hltH' hsv hup fun a w S ρ F h => ?_
  obtain ⟨vs,e1,e2⟩ := fnv_eval (opd_one h hc) hv
  refine ⟨xs.map a.eval ++ vs.toList,?_,repA_app (repA_opd h xs) (repA_one e2)⟩
  have : (execOp a.eval ⟨dst,.call { callee := .value x,args := xs.toArray,argTypes := Ts },ty,pos,after,guard⟩).run P w = (callFunc f ((xs.map a.eval).toArray ++ vs)).run P w := by
    simp [execOp,resolve,e1,Deferred.ofValue,invoke]
  rw [this,run_callFunc hE]
  congr 2
  simp
theorem a_invk {f m Ty : Nat} {c1 : C} {name : String} {xs : List Operand} {Ts : Array TypeId} {as1 : List SV} {H H' : List GB} {res : SV} {θ ld : List Nat} {up : List (Nat × GB)}
    (hD : Does P f as1 H res H') (hc : opd st x = .one (.ifc Ty false [c1])) (hM : ∀ (v : Value) (w : World),(method (P.types.size + Made.depth) Ty v name).run P w = .ok (f,v) w) (hE : entB P f = true)
    (ha : ASLe st.h ld (.one c1 :: xs.map (opd st)) (as1.map (SV.ren (calF θ m)))) (hH : rootsEq (calF θ m) st 0 H) (hk : H.length = θ.length) (hθ : nodupB θ = true) (hm : θ.all (fun t => Nat.blt t m) = true) (hld : ld.all (fun i => !(θ.any (Nat.beq i))) = true)
    (hpl : ld = [] ∨ (res.plain ∧ plainH H')) (hlt : ltA H.length as1 = true) (hltH : allG H.length H = true) (hltr : res.lt H'.length = true) (hltH' : allG H'.length H' = true) (hsv : res.ren (calF θ m) = sv) (hup : upOf (calF θ m) 0 H' = up) :
    Acts P g ⟨dst,.call { callee := .invoke x name,args := xs.toArray,argTypes := Ts },ty,pos,after,guard⟩ st sv θ up := by
  refine call_core hD ha hH hk hθ hm hld hpl hlt hltH hltr hltH' hsv hup fun a w S ρ F h => ?_
  have h1 := opd_one h hc
  simp only [RepC,Bool.false_eq_true,if_false] at h1
  obtain ⟨u,e1,h2⟩ := h1
  simp only [RepCs] at h2
  obtain ⟨v,us,e2,h3,h4⟩ := h2
  simp only [List.cons.injEq] at e2
  obtain ⟨rfl,rfl⟩ := e2
  refine ⟨u :: xs.map a.eval,?_,⟨u,_,rfl,h3,repA_opd h xs⟩⟩
  have : (execOp a.eval ⟨dst,.call { callee := .invoke x name,args := xs.toArray,argTypes := Ts },ty,pos,after,guard⟩).run P w = (callFunc f (u :: xs.map a.eval).toArray).run P w := by
    have e3 : (#[Value.iface Ty u] ++ (xs.map a.eval).toArray).extract 1 (#[Value.iface Ty u] ++ (xs.map a.eval).toArray).size = (xs.map a.eval).toArray := by
      simp only [List.append_toArray,List.singleton_append,List.extract_toArray,List.extract_eq_take_drop,List.size_toArray,List.length_cons,List.length_map,Nat.add_sub_cancel,List.drop_succ_cons,List.drop_zero]
      congr 1
      exact List.take_of_length_le (by simp)
    have e4 : (callMethod (Value.iface Ty u) name (xs.map a.eval).toArray).run P w = (callFunc f (u :: xs.map a.eval).toArray).run P w := by
      show (do let (f,receiver) ← method ((← program).types.size + Made.depth) Ty u name; callFunc f (#[receiver] ++ (xs.map a.eval).toArray) : Sem Next).run P w = _
      rw [Sem.run_bind,run_program,Result.andThen_ok,Sem.run_bind,hM,Result.andThen_ok]
      simp
    rw [← e4]
    show (do let d ← resolve a.eval { callee := .invoke x name,args := xs.toArray,argTypes := Ts } ty; invoke d.target d.args : Sem Next).run P w = _
    have e5 : (resolve a.eval { callee := .invoke x name,args := xs.toArray,argTypes := Ts } ty) = pure { target := .fn (.method name) #[],args := #[Value.iface Ty u] ++ (xs.map a.eval).toArray } := by
      simp only [resolve,e1,List.map_toArray]
    rw [e5,pure_bind]
    show (invoke (.fn (.method name) #[]) (#[Value.iface Ty u] ++ (xs.map a.eval).toArray)).run P w = _
    simp only [invoke]
    have e6 : (#[Value.iface Ty u] ++ (xs.map a.eval).toArray)[0]? = some (Value.iface Ty u) := by simp
    rw [e6]
    simp only []
    rw [e3]
  rw [this,run_callFunc hE]
theorem a_callS {f : Nat} {c0 : C} {cap : List C} {xs : List Operand} {Ts : Array TypeId} {as1 : List SV} {H H' : List GB} {res : SV} {θ ld : List Nat} {t : List (Nat × SV)} {h : List (Nat × GB)} {n : Nat}
    (hD : Does P f as1 H res H') (hc : opd ⟨t,h,n⟩ x = .one c0) (hv : fnv c0 = some (.func f,cap)) (hE : entB P f = true)
    (ha : ASLe h ld (xs.map (opd ⟨t,h,n⟩) ++ cap.map .one) (as1.map (SV.ren (calF θ n)))) (hH : rootsEq (calF θ n) ⟨t,h,n⟩ 0 H) (hk : H.length = θ.length) (hθ : nodupB θ = true) (hm : θ.all (fun t => Nat.blt t n) = true) (hld : ld.all (fun i => !(θ.any (Nat.beq i))) = true)
    (hpl : ld = [] ∨ (res.plain ∧ plainH H')) (hlt : ltA H.length as1 = true) (hltH : allG H.length H = true) (hltr : res.lt H'.length = true) (hltH' : allG H'.length H' = true) :
    Acts P g ⟨dst,.call { callee := .value x,args := xs.toArray,argTypes := Ts },ty,pos,after,guard⟩ ⟨t,h,n⟩ (res.ren (calF θ n)) θ (upOf (calF θ n) 0 H') :=
  a_call hD hc hv hE ha hH hk hθ hm hld hpl hlt hltH hltr hltH' rfl rfl
end
end Go.Proofs.YtegpggobfdcafaaGreat
end
section
set_option linter.unusedVariables false
set_option linter.unusedSimpArgs false
namespace Go.Proofs.YtegpggobfdcafaaGreat
open Go Foot
def memB (x : Nat) (l : List Nat) : Bool := l.any (Nat.beq x)
theorem memB_iff {x : Nat} {l : List Nat} : memB x l = true ↔ x ∈ l := by
  unfold memB
  rw [List.any_eq_true]
  exact ⟨fun ⟨y,h1,h2⟩ => by rw [Nat.eq_of_beq_eq_true h2]; exact h1,fun h => ⟨x,h,by simp⟩⟩
theorem memB_not {x : Nat} {l : List Nat} (h : memB x l = false) : x ∉ l := fun hm => by rw [memB_iff.2 hm] at h; cases h
def dirs (o : Oper) : List Nat := (o.after.toList.filter fun e => Region.binds .any e).map Edge.on
def befOk (bf : List (List Nat)) : Nat → List Oper → Bool
  | _,[] => true
  | i,o :: l => (dirs o).all (fun k => Nat.blt k i) && (bf.getD i []).all (fun k => Nat.blt k i && (memB k (dirs o) || (dirs o).any (fun d => memB k (bf.getD d [])))) && befOk bf (i + 1) l
def unord (bf : List (List Nat)) (i j : Nat) : Bool := !Nat.beq i j && !memB i (bf.getD j []) && !memB j (bf.getD i [])
def dstNe (a b : Option Nat) : Bool := match a,b with
  | some x,some y => !Nat.beq x y
  | _,_ => true
def disB (l m : List Nat) : Bool := l.all fun x => !memB x m
structure Rs where
  dst : Option Nat
  sv : SV
  ch : List Nat
  up : List (Nat × GB)
abbrev Keys := List (List Nat × List Nat)
def Keys.nw (kk : Keys) (i : Nat) : List Nat := (kk.getD i ([],[])).1
def Keys.ck (kk : Keys) (i : Nat) : List Nat := (kk.getD i ([],[])).2
def pairOk (bf : List (List Nat)) (kk : Keys) (i j : Nat) (oi oj : Oper) : Bool :=
  disB (kk.nw i) (kk.nw j) && (disB (kk.ck i) (kk.nw j) || memB j (bf.getD i [])) && (!unord bf i j || (dstNe oi.dst oj.dst && disB (kk.nw i ++ kk.ck i) (kk.nw j ++ kk.ck j)))
def rowOk (bf : List (List Nat)) (kk : Keys) (i : Nat) (oi : Oper) : Nat → List Oper → Bool
  | _,[] => true
  | j,oj :: l => (Nat.beq i j || pairOk bf kk i j oi oj) && rowOk bf kk i oi (j + 1) l
def indepOk (bf : List (List Nat)) (kk : Keys) (ops : List Oper) : Nat → List Oper → Bool
  | _,[] => true
  | i,o :: l => rowOk bf kk i o 0 ops && indepOk bf kk ops (i + 1) l
def newOk (n n' : Nat) : Keys → Bool
  | [] => Nat.ble n n'
  | (nw,ck) :: l => nw.all (fun x => Nat.ble n x && Nat.blt x n') && ck.all (fun x => Nat.blt x n') && newOk n n' l
def mixT (D : Nat → Bool) : Nat → List Rs → List (Nat × SV) → List (Nat × SV)
  | _,[],t => t
  | i,r :: l,t => mixT D (i + 1) l (bif D i then (match r.dst with | some d => (d,r.sv) :: t | none => t) else t)
def mixH (D : Nat → Bool) : Nat → List Rs → List (Nat × GB) → List (Nat × GB)
  | _,[],t => t
  | i,r :: l,t => mixH D (i + 1) l (bif D i then r.up ++ t else t)
def maskT (bf : List (List Nat)) (i : Nat) : Nat → List Oper → List (Nat × SV) → List (Nat × SV)
  | _,[],t => t
  | j,o :: l,t => bif unord bf i j then (match o.dst with | some d => (d,.any) :: maskT bf i (j + 1) l t | none => maskT bf i (j + 1) l t) else maskT bf i (j + 1) l t
def deadL : List Nat → List (Nat × GB) → List (Nat × GB)
  | [],t => t
  | x :: l,t => (x,.dead) :: deadL l t
def maskH (bf : List (List Nat)) (kk : Keys) (i : Nat) : Nat → List Oper → List (Nat × GB) → List (Nat × GB)
  | _,[],t => t
  | j,o :: l,t => bif unord bf i j then deadL (kk.nw j ++ kk.ck j) (maskH bf kk i (j + 1) l t) else maskH bf kk i (j + 1) l t
def minSt (bf : List (List Nat)) (kk : Keys) (ops : List Oper) (st : St) (rs : List Rs) (i : Nat) : St :=
  ⟨maskT bf i 0 ops (mixT (fun k => memB k (bf.getD i [])) 0 rs st.t),maskH bf kk i 0 ops (mixH (fun k => memB k (bf.getD i [])) 0 rs st.h),st.n⟩
def upIn (l : List Nat) : List (Nat × GB) → Prop
  | [] => True
  | (x,_) :: r => x ∈ l ∧ upIn l r
theorem upIn_mem {l : List Nat} : ∀ {up : List (Nat × GB)},upIn l up → ∀ x ∈ up,x.1 ∈ l
  | [],_,_,h => by simp at h
  | (i,_) :: r,h,x,hx => by
    rcases List.mem_cons.1 hx with rfl | hx
    · exact h.1
    · exact upIn_mem h.2 x hx
def OpOk (P : Program) (g : Gh) (bf : List (List Nat)) (kk : Keys) (ops : List Oper) (st : St) (rs : List Rs) (i : Nat) (o : Oper) (r : Rs) : Prop :=
  r.dst = o.dst ∧ (∀ d,o.dst = some d → d < g.n) ∧ r.ch = kk.ck i ∧ upIn (kk.nw i ++ kk.ck i) r.up ∧
  ((o.guard = none ∧ Acts P g o (minSt bf kk ops st rs i) r.sv r.ch r.up) ∨
   (∃ j d b,o.guard = some (j,b) ∧ ((ops.toArray)[j]?).bind (·.dst) = some d ∧ d < g.n ∧ lkS (minSt bf kk ops st rs i).t d = .one (.d (.sc (.bool b))) ∧ Acts P g o (minSt bf kk ops st rs i) r.sv r.ch r.up) ∨
   (∃ j d b,o.guard = some (j,b) ∧ ((ops.toArray)[j]?).bind (·.dst) = some d ∧ d < g.n ∧ skips b (lkS (minSt bf kk ops st rs i).t d) = true ∧ r.sv = .tup [] ∧ r.up = [] ∧ r.ch = []))
def GDraw (P : Program) (g : Gh) (bf : List (List Nat)) (kk : Keys) (ops : List Oper) (st : St) (n' : Nat) (Q : Exit → St → Prop) : List Oper → List Rs → Prop
  | [],rs => Q .normal ⟨mixT (fun _ => true) 0 rs st.t,mixH (fun _ => true) 0 rs st.h,n'⟩
  | o :: l,rs => ∃ r,OpOk P g bf kk ops st rs rs.length o r ∧ GDraw P g bf kk ops st n' Q l (rs ++ [r])
section
theorem mixT_app (D : Nat → Bool) : ∀ (l m : List Rs) (i : Nat) (t : List (Nat × SV)),mixT D i (l ++ m) t = mixT D (i + l.length) m (mixT D i l t)
  | [],m,i,t => rfl
  | r :: l,m,i,t => by simp only [List.cons_append,mixT,List.length_cons]; rw [mixT_app D l m (i + 1)]; congr 1; omega
theorem mixH_app (D : Nat → Bool) : ∀ (l m : List Rs) (i : Nat) (t : List (Nat × GB)),mixH D i (l ++ m) t = mixH D (i + l.length) m (mixH D i l t)
  | [],m,i,t => rfl
  | r :: l,m,i,t => by simp only [List.cons_append,mixH,List.length_cons]; rw [mixH_app D l m (i + 1)]; congr 1; omega
theorem mixT_no {D : Nat → Bool} : ∀ (l : List Rs) (i : Nat) (t : List (Nat × SV)),(∀ k,i ≤ k → D k = false) → mixT D i l t = t
  | [],i,t,_ => rfl
  | r :: l,i,t,h => by simp only [mixT,h i (Nat.le_refl _),cond_false]; exact mixT_no l (i + 1) t (fun k hk => h k (by omega))
theorem mixH_no {D : Nat → Bool} : ∀ (l : List Rs) (i : Nat) (t : List (Nat × GB)),(∀ k,i ≤ k → D k = false) → mixH D i l t = t
  | [],i,t,_ => rfl
  | r :: l,i,t,h => by simp only [mixH,h i (Nat.le_refl _),cond_false]; exact mixH_no l (i + 1) t (fun k hk => h k (by omega))
theorem mixT_agree {D E : Nat → Bool} {s : Nat} : ∀ (l : List Rs) (i : Nat) (t t' : List (Nat × SV)),lkS t s = lkS t' s → (∀ k r,l[k]? = some r → D (i + k) ≠ E (i + k) → r.dst ≠ some s) → lkS (mixT D i l t) s = lkS (mixT E i l t') s
  | [],i,t,t',ht,_ => ht
  | r :: l,i,t,t',ht,h => by
    simp only [mixT]
    refine mixT_agree l (i + 1) _ _ ?_ (fun k r' hk hne => h (k + 1) r' (by simpa using hk) (by rwa [show i + (k + 1) = i + 1 + k by omega]))
    have h0 := h 0 r (by simp)
    rw [Nat.add_zero] at h0
    cases hd : r.dst with
    | none => cases D i <;> cases E i <;> exact ht
    | some d =>
      cases hD : D i <;> cases hE : E i <;> simp only [cond_true,cond_false,lkS]
      · exact ht
      · have hne : s ≠ d := fun e => h0 (by rw [hD,hE]; decide) (by rw [hd,e])
        rw [beq_ne hne]; exact ht
      · have hne : s ≠ d := fun e => h0 (by rw [hD,hE]; decide) (by rw [hd,e])
        rw [beq_ne hne]; exact ht
      · rw [ht]
theorem mixH_agree {D E : Nat → Bool} {s : Nat} : ∀ (l : List Rs) (i : Nat) (t t' : List (Nat × GB)),lkG t s = lkG t' s → (∀ k r,l[k]? = some r → D (i + k) ≠ E (i + k) → ¬ keyIn r.up s) → lkG (mixH D i l t) s = lkG (mixH E i l t') s
  | [],i,t,t',ht,_ => ht
  | r :: l,i,t,t',ht,h => by
    simp only [mixH]
    refine mixH_agree l (i + 1) _ _ ?_ (fun k r' hk hne => h (k + 1) r' (by simpa using hk) (by rwa [show i + (k + 1) = i + 1 + k by omega]))
    have h0 := h 0 r (by simp)
    rw [Nat.add_zero] at h0
    have happ : ∀ (up : List (Nat × GB)) (a b : List (Nat × GB)),lkG a s = lkG b s → lkG (up ++ a) s = lkG (up ++ b) s := by
      intro up
      induction up with
      | nil => exact fun a b h => h
      | cons x up ih =>
        obtain ⟨j,gb⟩ := x
        intro a b h
        simp only [List.cons_append,lkG]
        rw [ih a b h]
    cases hD : D i <;> cases hE : E i <;> simp only [cond_true,cond_false]
    · exact ht
    · rw [lkG_append _ _ _ (h0 (by rw [hD,hE]; decide))]; exact ht
    · rw [lkG_append _ _ _ (h0 (by rw [hD,hE]; decide))]; exact ht
    · exact happ _ _ _ ht
theorem maskT_lk {bf : List (List Nat)} {i s : Nat} : ∀ (l : List Oper) (j : Nat) (t : List (Nat × SV)),lkS (maskT bf i j l t) s = .any ∨ (lkS (maskT bf i j l t) s = lkS t s ∧ ∀ k o,l[k]? = some o → unord bf i (j + k) = true → o.dst ≠ some s)
  | [],j,t => .inr ⟨rfl,by simp⟩
  | o :: l,j,t => by
    simp only [maskT]
    have ih := maskT_lk (bf := bf) (i := i) (s := s) l (j + 1) t
    have lift : (∀ k o,l[k]? = some o → unord bf i (j + 1 + k) = true → o.dst ≠ some s) → (unord bf i j = true → o.dst ≠ some s) → ∀ k o',(o :: l)[k]? = some o' → unord bf i (j + k) = true → o'.dst ≠ some s := by
      intro h1 h2 k o' hk hu
      cases k with
      | zero => simp at hk; subst hk; exact h2 hu
      | succ k => exact h1 k o' (by simpa using hk) (by rwa [show j + 1 + k = j + (k + 1) by omega])
    cases hu : unord bf i j with
    | false =>
      simp only [cond_false]
      exact ih.imp id (fun ⟨a,b⟩ => ⟨a,lift b (fun h => by rw [hu] at h; cases h)⟩)
    | true =>
      simp only [cond_true]
      cases hd : o.dst with
      | none => exact ih.imp id (fun ⟨a,b⟩ => ⟨a,lift b (fun _ => by rw [hd]; simp)⟩)
      | some d =>
        simp only [lkS]
        by_cases hs : s = d
        · subst hs
          have hb : Nat.beq s s = true := by simp
          rw [hb]
          exact .inl rfl
        · rw [beq_ne hs]
          exact ih.imp id (fun ⟨a,b⟩ => ⟨a,lift b (fun _ => by rw [hd]; simpa using fun e => hs e.symm)⟩)
theorem deadL_lk {s : Nat} : ∀ (l : List Nat) (t : List (Nat × GB)),lkG (deadL l t) s = .dead ∨ (lkG (deadL l t) s = lkG t s ∧ s ∉ l)
  | [],t => .inr ⟨rfl,by simp⟩
  | x :: l,t => by
    simp only [deadL,lkG]
    by_cases hs : s = x
    · subst hs
      have hb : Nat.beq s s = true := by simp
      rw [hb]
      exact .inl rfl
    · rw [beq_ne hs]
      exact (deadL_lk l t).imp id (fun ⟨a,b⟩ => ⟨a,by simp [hs,b]⟩)
theorem maskH_lk {bf : List (List Nat)} {kk : Keys} {i s : Nat} : ∀ (l : List Oper) (j : Nat) (t : List (Nat × GB)),lkG (maskH bf kk i j l t) s = .dead ∨ (lkG (maskH bf kk i j l t) s = lkG t s ∧ ∀ k,k < l.length → unord bf i (j + k) = true → s ∉ kk.nw (j + k) ++ kk.ck (j + k))
  | [],j,t => .inr ⟨rfl,by simp⟩
  | o :: l,j,t => by
    simp only [maskH]
    have ih := maskH_lk (bf := bf) (kk := kk) (i := i) (s := s) l (j + 1) t
    have lift : (∀ k,k < l.length → unord bf i (j + 1 + k) = true → s ∉ kk.nw (j + 1 + k) ++ kk.ck (j + 1 + k)) → (unord bf i j = true → s ∉ kk.nw j ++ kk.ck j) → ∀ k,k < (o :: l).length → unord bf i (j + k) = true → s ∉ kk.nw (j + k) ++ kk.ck (j + k) := by
      intro h1 h2 k hk hu
      cases k with
      | zero => exact h2 hu
      | succ k =>
        have := h1 k (by simpa using hk)
        rw [show j + 1 + k = j + (k + 1) by omega] at this
        exact this hu
    cases hu : unord bf i j with
    | false =>
      simp only [cond_false]
      exact ih.imp id (fun ⟨a,b⟩ => ⟨a,lift b (fun h => by rw [hu] at h; cases h)⟩)
    | true =>
      simp only [cond_true]
      rcases deadL_lk (s := s) (kk.nw j ++ kk.ck j) (maskH bf kk i (j + 1) l t) with h | ⟨h1,h2⟩
      · exact .inl h
      · rw [h1]
        exact ih.imp id (fun ⟨a,b⟩ => ⟨a,lift b (fun _ => h2)⟩)
theorem mixT_last {D : Nat → Bool} {s d : Nat} {sv : SV} : ∀ (l : List Rs) (i : Nat) (t : List (Nat × SV)),(∀ k r,l[k]? = some r → D (i + k) = true → r.dst ≠ some d) → lkS (mixT D i l ((d,sv) :: t)) s = lkS ((d,sv) :: mixT D i l t) s
  | [],i,t,_ => rfl
  | r :: l,i,t,h => by
    simp only [mixT]
    have h0 := h 0 r (by simp)
    rw [Nat.add_zero] at h0
    have ih := fun t => mixT_last (D := D) (s := s) (d := d) (sv := sv) l (i + 1) t (fun k r' hk hd => h (k + 1) r' (by simpa using hk) (by rwa [show i + (k + 1) = i + 1 + k by omega]))
    cases hD : D i with
    | false => simp only [cond_false]; exact ih t
    | true =>
      simp only [cond_true]
      cases hr : r.dst with
      | none => simp only; exact ih t
      | some e =>
        simp only
        have hne : e ≠ d := fun he => h0 hD (by rw [hr,he])
        rw [← ih ((e,r.sv) :: t)]
        refine mixT_agree l (i + 1) _ _ ?_ (fun k r' _ hx => absurd rfl hx)
        simp only [lkS]
        by_cases h1 : s = e
        · have h2 : s ≠ d := fun e' => hne (h1.symm.trans e')
          rw [beq_ne h2]
          subst h1
          simp
        · by_cases h2 : s = d
          · subst h2; rw [beq_ne h1]; simp
          · rw [beq_ne h1,beq_ne h2]; simp
theorem mixH_last {D : Nat → Bool} {s : Nat} {up : List (Nat × GB)} : ∀ (l : List Rs) (i : Nat) (t : List (Nat × GB)),(∀ k r,l[k]? = some r → D (i + k) = true → ∀ x,keyIn up x → ¬ keyIn r.up x) → lkG (mixH D i l (up ++ t)) s = lkG (up ++ mixH D i l t) s
  | [],i,t,_ => rfl
  | r :: l,i,t,h => by
    simp only [mixH]
    have h0 := h 0 r (by simp)
    rw [Nat.add_zero] at h0
    have ih := fun t => mixH_last (D := D) (s := s) (up := up) l (i + 1) t (fun k r' hk hd => h (k + 1) r' (by simpa using hk) (by rwa [show i + (k + 1) = i + 1 + k by omega]))
    cases hD : D i with
    | false => simp only [cond_false]; exact ih t
    | true =>
      simp only [cond_true]
      rw [← ih (r.up ++ t)]
      refine mixH_agree l (i + 1) _ _ ?_ (fun k r' _ hx => absurd rfl hx)
      by_cases h1 : keyIn up s
      · have h2 := h0 hD s h1
        rw [lkG_append _ _ _ h2]
        have : ∀ (u a b : List (Nat × GB)),keyIn u s → lkG (u ++ a) s = lkG (u ++ b) s := by
          intro u
          induction u with
          | nil => rintro a b ⟨_,hm⟩; simp at hm
          | cons y u ih =>
            obtain ⟨j,gb⟩ := y
            intro a b hk
            simp only [List.cons_append,lkG]
            by_cases hj : s = j
            · subst hj; simp
            · rw [beq_ne hj]
              refine ih a b ?_
              obtain ⟨gb',hm⟩ := hk
              rcases List.mem_cons.1 hm with e | hm
              · exact absurd (Prod.mk.inj e).1 hj
              · exact ⟨gb',hm⟩
        exact this _ _ _ h1
      · rw [lkG_append up _ _ h1]
        by_cases h2 : keyIn r.up s
        · have : ∀ (u a b : List (Nat × GB)),lkG a s = lkG b s → lkG (u ++ a) s = lkG (u ++ b) s := by
            intro u
            induction u with
            | nil => exact fun a b h => h
            | cons x up ih =>
              obtain ⟨j,gb⟩ := x
              intro a b h
              simp only [List.cons_append,lkG]
              rw [ih a b h]
          exact this _ _ _ (lkG_append up t s h1)
        · rw [lkG_append _ _ _ h2,lkG_append _ _ _ h2,lkG_append _ _ _ h1]
end
end Go.Proofs.YtegpggobfdcafaaGreat
end
section
set_option linter.unusedVariables false
set_option linter.unusedSimpArgs false
namespace Go.Proofs.YtegpggobfdcafaaGreat
open Go Foot
def unl (listed : Array Bool) : Nat → Nat
  | 0 => 0
  | k + 1 => unl listed k + if listed.getD k true then 0 else 1
theorem unl_set {listed : Array Bool} {i : Nat} (hi : listed.getD i true = false) : ∀ k,(i < k → unl (listed.setIfInBounds i true) k + 1 = unl listed k) ∧ (k ≤ i → unl (listed.setIfInBounds i true) k = unl listed k)
  | 0 => ⟨fun h => by omega,fun _ => rfl⟩
  | k + 1 => by
    obtain ⟨h1,h2⟩ := unl_set hi k
    have hlt : i < listed.size := by
      rcases Nat.lt_or_ge i listed.size with h | h
      · exact h
      · simp [Array.getElem?_eq_none h] at hi
    refine ⟨fun h => ?_,fun h => ?_⟩
    · by_cases e : i = k
      · subst e
        simp only [unl,h2 (Nat.le_refl _),hi]
        simp [hlt]
      · simp only [unl,getD_set_ne true e]
        have := h1 (by omega)
        omega
    · simp only [unl,getD_set_ne true (show i ≠ k by omega),h2 (by omega)]
theorem unl_zero {listed : Array Bool} : ∀ k,unl listed k = 0 → ∀ i,i < k → listed.getD i true = true
  | 0,_,i,h => by omega
  | k + 1,h,i,hi => by
    simp only [unl] at h
    by_cases e : i = k
    · subst e
      cases hb : listed.getD i true with
      | true => rfl
      | false => rw [hb] at h; simp at h
    · exact unl_zero k (by omega) i (by omega)
theorem unl_fresh (n : Nat) : ∀ k,k ≤ n → unl (Array.replicate n false) k = k
  | 0,_ => rfl
  | k + 1,h => by
    have : k < n := by omega
    simp only [unl,unl_fresh n k (by omega)]
    simp [this]
theorem befOk_get {bf : List (List Nat)} : ∀ {l : List Oper} {i k : Nat} {o : Oper},befOk bf i l = true → l[k]? = some o →
    (∀ d ∈ dirs o,d < i + k) ∧ ∀ m ∈ bf.getD (i + k) [],m < i + k ∧ (m ∈ dirs o ∨ ∃ d ∈ dirs o,m ∈ bf.getD d [])
  | [],i,k,o,_,h => by simp at h
  | o0 :: l,i,0,o,h,hk => by
    simp at hk
    subst hk
    simp only [befOk,Bool.and_eq_true,List.all_eq_true] at h
    obtain ⟨⟨h1,h2⟩,_⟩ := h
    refine ⟨fun d hd => blt_lt (h1 d hd),fun m hm => ?_⟩
    have := h2 m hm
    simp only [Bool.or_eq_true,List.any_eq_true] at this
    exact ⟨blt_lt this.1,this.2.imp memB_iff.1 (fun ⟨d,a,b⟩ => ⟨d,a,memB_iff.1 b⟩)⟩
  | o0 :: l,i,k + 1,o,h,hk => by
    simp only [befOk,Bool.and_eq_true] at h
    have := befOk_get (i := i + 1) (k := k) h.2 (by simpa using hk)
    rwa [show i + 1 + k = i + (k + 1) by omega] at this
theorem rowOk_get {bf : List (List Nat)} {kk : Keys} {i : Nat} {oi : Oper} : ∀ {l : List Oper} {j k : Nat} {o : Oper},rowOk bf kk i oi j l = true → l[k]? = some o → i ≠ j + k → pairOk bf kk i (j + k) oi o = true
  | [],j,k,o,_,h,_ => by simp at h
  | o0 :: l,j,0,o,h,hk,hne => by
    simp at hk
    subst hk
    simp only [rowOk,Bool.and_eq_true,Bool.or_eq_true] at h
    exact h.1.resolve_left (fun e => hne (by have := Nat.eq_of_beq_eq_true e; omega))
  | o0 :: l,j,k + 1,o,h,hk,hne => by
    simp only [rowOk,Bool.and_eq_true] at h
    have := rowOk_get (j := j + 1) (k := k) h.2 (by simpa using hk) (by omega)
    rwa [show j + 1 + k = j + (k + 1) by omega] at this
theorem indepOk_get {bf : List (List Nat)} {kk : Keys} {ops : List Oper} : ∀ {l : List Oper} {i k : Nat} {o : Oper},indepOk bf kk ops i l = true → l[k]? = some o → rowOk bf kk (i + k) o 0 ops = true
  | [],i,k,o,_,h => by simp at h
  | o0 :: l,i,0,o,h,hk => by
    simp at hk
    subst hk
    simp only [indepOk,Bool.and_eq_true] at h
    exact h.1
  | o0 :: l,i,k + 1,o,h,hk => by
    simp only [indepOk,Bool.and_eq_true] at h
    have := indepOk_get (i := i + 1) (k := k) h.2 (by simpa using hk)
    rwa [show i + 1 + k = i + (k + 1) by omega] at this
theorem disB_spec {l m : List Nat} (h : disB l m = true) : ∀ x ∈ l,x ∉ m := by
  intro x hx hm
  have := (List.all_eq_true.1 h) x hx
  rw [memB_iff.2 hm] at this
  cases this
theorem newOk_get {n n' : Nat} : ∀ {kk : Keys},newOk n n' kk = true → n ≤ n' ∧ (∀ i,∀ x ∈ kk.nw i,n ≤ x ∧ x < n') ∧ ∀ i,∀ x ∈ kk.ck i,x < n'
  | [],h => ⟨Nat.le_of_ble_eq_true h,fun i x hx => by simp [Keys.nw] at hx,fun i x hx => by simp [Keys.ck] at hx⟩
  | (nw,ck) :: l,h => by
    simp only [newOk,Bool.and_eq_true,List.all_eq_true] at h
    obtain ⟨⟨h1,h1'⟩,h2⟩ := h
    obtain ⟨h3,h4,h5⟩ := newOk_get h2
    refine ⟨h3,fun i x hx => ?_,fun i x hx => ?_⟩
    · cases i with
      | zero =>
        have := h1 x (by simpa [Keys.nw] using hx)
        exact ⟨Nat.le_of_ble_eq_true this.1,blt_lt this.2⟩
      | succ i => exact h4 i x (by simpa [Keys.nw] using hx)
    · cases i with
      | zero => exact blt_lt (h1' x (by simpa [Keys.ck] using hx))
      | succ i => exact h5 i x (by simpa [Keys.ck] using hx)
theorem gdraw_all {P : Program} {g : Gh} {bf : List (List Nat)} {kk : Keys} {ops : List Oper} {st : St} {n' : Nat} {Q : Exit → St → Prop} : ∀ (l : List Oper) (rs : List Rs),GDraw P g bf kk ops st n' Q l rs →
    ∃ rs',rs'.length = rs.length + l.length ∧ rs'.take rs.length = rs ∧ (∀ i o,l[i]? = some o → ∃ r,rs'[rs.length + i]? = some r ∧ OpOk P g bf kk ops st (rs'.take (rs.length + i)) (rs.length + i) o r) ∧ Q .normal ⟨mixT (fun _ => true) 0 rs' st.t,mixH (fun _ => true) 0 rs' st.h,n'⟩
  | [],rs,h => ⟨rs,by simp,by simp,by simp,h⟩
  | o :: l,rs,h => by
    obtain ⟨r,h1,h2⟩ := h
    obtain ⟨rs',e1,e2,e3,e4⟩ := gdraw_all l _ h2
    simp only [List.length_append,List.length_cons,List.length_nil] at e1 e2 e3
    have htake : rs'.take rs.length = rs := by
      have := congrArg (List.take rs.length) e2
      rw [List.take_take,List.take_append_of_le_length (Nat.le_refl _),List.take_length,show min rs.length (rs.length + (0 + 1)) = rs.length by omega] at this
      exact this
    refine ⟨rs',by simp; omega,htake,?_,e4⟩
    intro i o' hi
    cases i with
    | zero =>
      simp at hi
      subst hi
      refine ⟨r,?_,by rw [Nat.add_zero,htake]; exact h1⟩
      rw [Nat.add_zero]
      have h3 : (rs'.take (rs.length + (0 + 1)))[rs.length]? = some r := by rw [e2]; simp
      rw [List.getElem?_take] at h3
      rw [if_pos (by omega)] at h3
      exact h3
    | succ i =>
      have := e3 i o' (by simpa using hi)
      rwa [show rs.length + (0 + 1) + i = rs.length + (i + 1) by omega] at this
section
variable {P : Program} {g : Gh} {bf : List (List Nat)} {kk : Keys} {ops : List Oper} {st : St} {n' : Nat} {Q : Exit → St → Prop}
def stD (st : St) (rs : List Rs) (n' : Nat) (D : Nat → Bool) : St := ⟨mixT D 0 rs st.t,mixH D 0 rs st.h,n'⟩
theorem g_draw {id : Nat} (hm : P.follows .mixedOrders = true) (bf : List (List Nat)) (kk : Keys) (n' : Nat) {ops : List Oper} (hbf : befOk bf 0 ops = true) (hin : indepOk bf kk ops 0 ops = true) (hnw : newOk st.n n' kk = true)
    (h : GDraw P g bf kk ops st n' Q ops []) : GWp P g (.region id ops.toArray true) st Q := by
  refine ⟨fun a0 w0 S0 ρ0 F0 hrel0 hfr0 => ?_⟩
  obtain ⟨rs,hlen,-,hops,hQ⟩ := gdraw_all ops [] h
  simp only [List.length_nil,Nat.zero_add] at hlen hops
  obtain ⟨hnn,hnwk,hckk⟩ := newOk_get hnw
  refine wpIn_region_any hm ?_
  have opAt : ∀ i : Nat,ops.toArray[i]? = ops[i]? := fun i => by simp
  have bfAt : ∀ i o,ops[i]? = some o → (∀ d ∈ dirs o,d < i) ∧ ∀ m ∈ bf.getD i [],m < i ∧ (m ∈ dirs o ∨ ∃ d ∈ dirs o,m ∈ bf.getD d []) := fun i o ho => by
    have := befOk_get hbf ho
    rwa [Nat.zero_add] at this
  have pairAt : ∀ i j oi oj,ops[i]? = some oi → ops[j]? = some oj → i ≠ j → pairOk bf kk i j oi oj = true := fun i j oi oj hi hj hij => by
    have := indepOk_get hin hi
    rw [Nat.zero_add] at this
    have := rowOk_get this hj (by rw [Nat.zero_add]; exact hij)
    rwa [Nat.zero_add] at this
  have rsAt : ∀ i r,rs[i]? = some r → ∃ o,ops[i]? = some o ∧ OpOk P g bf kk ops st (rs.take i) i o r := by
    intro i r hr
    have hi : i < ops.length := by have := (List.getElem?_eq_some_iff.1 hr).1; omega
    obtain ⟨r',e1,e2⟩ := hops i _ (List.getElem?_eq_getElem hi)
    rw [hr] at e1
    cases e1
    exact ⟨_,List.getElem?_eq_getElem hi,e2⟩
  have key : ∀ (fuel : Nat) (listed : Array Bool) (a : Act) (w : World) (S : Foot) (ρ : Env) (F : Nat → Foot),listed.size = ops.length → unl listed ops.length = fuel →
      (∀ j,listed.getD j false = true → ∀ k ∈ bf.getD j [],listed.getD k false = true) → Rel g (stD st rs n' fun i => listed.getD i false) a w S ρ F →
      (∀ j,j < ops.length → listed.getD j false = false → ∀ x ∈ kk.nw j,ρ x = none) → (∀ x,n' ≤ x → ρ x = none) → wpAnyIn (fen g.rd) 0 P .any ops.toArray (GQ g Q) fuel listed a w := by
    intro fuel
    induction fuel with
    | zero =>
      intro listed a w S ρ F hsz hun hcl hrel hfr hfr'
      have hall := unl_zero _ hun
      refine ⟨?_,?_⟩
      · cases hr : Region.ready .any ops.toArray listed with
        | nil => rfl
        | cons i l =>
          have : i ∈ Region.ready .any ops.toArray listed := by rw [hr]; simp
          obtain ⟨h1,o,h2,_⟩ := mem_ready.1 this
          rw [opAt] at h2
          have := hall i (List.getElem?_eq_some_iff.1 h2).1
          rw [h1] at this
          cases this
      · refine ⟨⟨mixT (fun _ => true) 0 rs st.t,mixH (fun _ => true) 0 rs st.h,n'⟩,S,ρ,F,hrel.same (fun s => ?_) (fun s => ?_),hfr',hQ⟩
        · refine mixT_agree rs 0 _ _ rfl (fun k r hk hne => ?_)
          have hk' : k < ops.length := by have := (List.getElem?_eq_some_iff.1 hk).1; omega
          have := hall k hk'
          rw [Nat.zero_add] at hne
          have hkl : k < listed.size := by omega
          simp [hkl] at this hne
          exact absurd this (by simp [hne])
        · refine mixH_agree rs 0 _ _ rfl (fun k r hk hne => ?_)
          have hk' : k < ops.length := by have := (List.getElem?_eq_some_iff.1 hk).1; omega
          have := hall k hk'
          rw [Nat.zero_add] at hne
          have hkl : k < listed.size := by omega
          simp [hkl] at this hne
          exact absurd this (by simp [hne])
    | succ fuel ih =>
      intro listed a w S ρ F hsz hun hcl hrel hfr hfr'
      have lst : ∀ j,j < ops.length → listed.getD j true = listed.getD j false := fun j hj => by
        have : j < listed.size := by omega
        simp [this]
      refine ⟨fun hr => ?_,fun i hi => ?_⟩
      · -- all are listed
        exfalso
        have hall : ∀ n j,j < n → j < ops.length → listed.getD j true = true := by
          intro n
          induction n with
          | zero => intro j hj; omega
          | succ n ihn =>
            intro j hj hjl
            cases hb : listed.getD j true with
            | true => rfl
            | false =>
              have : j ∈ Region.ready .any ops.toArray listed := by
                refine mem_ready.2 ⟨hb,ops[j],by rw [opAt]; exact List.getElem?_eq_getElem hjl,fun e he hbd => ?_⟩
                have hd : e.on ∈ dirs ops[j] := List.mem_map.2 ⟨e,List.mem_filter.2 ⟨by simpa using he,hbd⟩,rfl⟩
                have hlt := (bfAt j _ (List.getElem?_eq_getElem hjl)).1 _ hd
                rw [← lst e.on (by omega)]
                exact ihn e.on (by omega) (by omega)
              rw [hr] at this
              cases this
        have : ∀ k,k ≤ ops.length → unl listed k = 0 := by
          intro k
          induction k with
          | zero => exact fun _ => rfl
          | succ k ihk => intro hk; simp only [unl,ihk (by omega),hall (k + 1) k (by omega) (by omega)]; rfl
        rw [this _ (Nat.le_refl _)] at hun
        cases hun
      · obtain ⟨hni,o,ho,hdeps⟩ := mem_ready.1 hi
        rw [opAt] at ho
        have hil : i < ops.length := (List.getElem?_eq_some_iff.1 ho).1
        have hni' : listed.getD i false = false := by rw [← lst i hil]; exact hni
        obtain ⟨r,hr,hok⟩ := hops i o ho
        obtain ⟨hdst,hdn,hch,hupin,hcase⟩ := hok
        have hil2 : i < rs.length := by omega
        -- what comes before is listed
        have hdirs : ∀ d ∈ dirs o,listed.getD d false = true := by
          intro d hd
          obtain ⟨e,he,rfl⟩ := List.mem_map.1 hd
          obtain ⟨he1,he2⟩ := List.mem_filter.1 he
          exact hdeps e (by simpa using he1) he2
        have hbef : ∀ m ∈ bf.getD i [],listed.getD m false = true := by
          intro m hmm
          rcases ((bfAt i o ho).2 m hmm).2 with h1 | ⟨d,h1,h2⟩
          · exact hdirs m h1
          · exact hcl d (hdirs d h1) m h2
        have hun2 : ∀ j,listed.getD j false = true → j ∉ bf.getD i [] → unord bf i j = true := by
          intro j hj hnb
          have hij : i ≠ j := fun e => by rw [e,hj] at hni'; cases hni'
          have h1 : i ∉ bf.getD j [] := fun hmm => by rw [hcl j hj i hmm] at hni'; cases hni'
          have e1 : memB i (bf.getD j []) = false := by cases hb : memB i (bf.getD j []) with | false => rfl | true => exact absurd (memB_iff.1 hb) h1
          have e2 : memB j (bf.getD i []) = false := by cases hb : memB j (bf.getD i []) with | false => rfl | true => exact absurd (memB_iff.1 hb) hnb
          simp only [unord,e1,e2,beq_ne hij]
          rfl
        have hmin : Rel g (minSt bf kk ops st (rs.take i) i) a w S ρ F := by
          have hpre : ∀ k,i ≤ k → memB k (bf.getD i []) = false := by
            intro k hk
            cases hb : memB k (bf.getD i []) with
            | false => rfl
            | true => have := ((bfAt i o ho).2 k (memB_iff.1 hb)).1; omega
          have e1 : mixT (fun k => memB k (bf.getD i [])) 0 (rs.take i) st.t = mixT (fun k => memB k (bf.getD i [])) 0 rs st.t := by
            conv => rhs; rw [← List.take_append_drop i rs]
            rw [mixT_app]
            exact (mixT_no (rs.drop i) _ _ (fun k hk => hpre k (by simp at hk; omega))).symm
          have e2 : mixH (fun k => memB k (bf.getD i [])) 0 (rs.take i) st.h = mixH (fun k => memB k (bf.getD i [])) 0 rs st.h := by
            conv => rhs; rw [← List.take_append_drop i rs]
            rw [mixH_app]
            exact (mixH_no (rs.drop i) _ _ (fun k hk => hpre k (by simp at hk; omega))).symm
          refine hrel.weaken (fun s => ?_) (fun s => ?_)
          · show lkS (maskT bf i 0 ops _) s = .any ∨ lkS (maskT bf i 0 ops _) s = lkS (mixT _ 0 rs st.t) s
            rw [e1]
            rcases maskT_lk (bf := bf) (i := i) (s := s) ops 0 (mixT (fun k => memB k (bf.getD i [])) 0 rs st.t) with h1 | ⟨h1,h2⟩
            · exact .inl h1
            · refine .inr (h1.trans (mixT_agree rs 0 _ _ rfl (fun k r' hk hne => ?_)))
              obtain ⟨ok,hok1,hok2⟩ := rsAt k r' hk
              rw [Nat.zero_add] at hne
              rw [hok2.1]
              have hkl : listed.getD k false = true ∧ k ∉ bf.getD i [] := by
                cases hb : memB k (bf.getD i []) with
                | true => rw [hb,hbef k (memB_iff.1 hb)] at hne; exact absurd rfl hne
                | false =>
                  rw [hb] at hne
                  refine ⟨?_,memB_not hb⟩
                  cases hl : listed.getD k false with
                  | true => rfl
                  | false => rw [hl] at hne; exact absurd rfl hne
              have := h2 k ok hok1
              rw [Nat.zero_add] at this
              exact this (hun2 k hkl.1 hkl.2)
          · show lkG (maskH bf kk i 0 ops _) s = .dead ∨ lkG (maskH bf kk i 0 ops _) s = lkG (mixH _ 0 rs st.h) s
            rw [e2]
            rcases maskH_lk (bf := bf) (kk := kk) (i := i) (s := s) ops 0 (mixH (fun k => memB k (bf.getD i [])) 0 rs st.h) with h1 | ⟨h1,h2⟩
            · exact .inl h1
            · refine .inr (h1.trans (mixH_agree rs 0 _ _ rfl (fun k r' hk hne => ?_)))
              obtain ⟨ok,hok1,hok2⟩ := rsAt k r' hk
              rw [Nat.zero_add] at hne
              have hkl : listed.getD k false = true ∧ k ∉ bf.getD i [] := by
                cases hb : memB k (bf.getD i []) with
                | true => rw [hb,hbef k (memB_iff.1 hb)] at hne; exact absurd rfl hne
                | false =>
                  rw [hb] at hne
                  refine ⟨?_,memB_not hb⟩
                  cases hl : listed.getD k false with
                  | true => rfl
                  | false => rw [hl] at hne; exact absurd rfl hne
              have := h2 k (List.getElem?_eq_some_iff.1 hok1).1
              rw [Nat.zero_add] at this
              have hno := this (hun2 k hkl.1 hkl.2)
              rintro ⟨gb,hmem⟩
              exact hno (upIn_mem hok2.2.2.2.1 _ hmem)
        -- what follows
        have hcl' : ∀ j,(listed.setIfInBounds i true).getD j false = true → ∀ k ∈ bf.getD j [],(listed.setIfInBounds i true).getD k false = true := by
          intro j hj k hk
          by_cases hji : i = j
          · subst hji; exact getD_set_true (hbef k hk)
          · rw [getD_set_ne false hji] at hj
            exact getD_set_true (hcl j hj k hk)
        have hset : ∀ k,(listed.setIfInBounds i true).getD k false = (bif Nat.beq k i then true else listed.getD k false) := by
          intro k
          by_cases hki : k = i
          · subst hki
            have : k < listed.size := by omega
            simp [this]
          · rw [getD_set_ne false (Ne.symm hki),beq_ne hki]; rfl
        have next : ∀ v w' S1 ρ' F' (sv : SV) (ch : List Nat) (up : List (Nat × GB)),r.sv = sv → r.ch = ch → r.up = up → Done w w' S S1 ρ ρ' F F' ch up → RepS w' (S.or S1) ρ' sv v →
            wpAnyIn (fen g.rd) 0 P .any ops.toArray (GQ g Q) fuel (listed.setIfInBounds i true) (a.put o.dst v) w' := by
          intro v w' S1 ρ' F' sv ch up hsv hchh hupp hdone hv
          subst hsv hchh hupp
          have hrel' := hrel.done (n := n') hdone hdn hv
          refine ih _ _ _ _ _ _ (by simp; omega) ?_ hcl' (hrel'.same (fun s => ?_) (fun s => ?_)) ?_ ?_
          · have := (unl_set hni ops.length).1 hil
            omega
          · -- slots
            show lkS (mixT (fun k => (listed.setIfInBounds i true).getD k false) 0 rs st.t) s = lkS (match o.dst with | some d => (d,r.sv) :: mixT (fun k => listed.getD k false) 0 rs st.t | none => mixT (fun k => listed.getD k false) 0 rs st.t) s
            have hsplit : rs = rs.take i ++ r :: rs.drop (i + 1) := by
              have e := List.getElem_cons_drop hil2
              have hre : rs[i] = r := by rw [List.getElem?_eq_getElem hil2] at hr; exact Option.some.inj hr
              rw [hre] at e
              rw [e,List.take_append_drop]
            have htl : (rs.take i).length = i := by simp; omega
            have post : ∀ k r',(rs.drop (i + 1))[k]? = some r' → rs[i + 1 + k]? = some r' := fun k r' hk => by rw [List.getElem?_drop] at hk; exact hk
            have preag : ∀ t,lkS (mixT (fun k => (listed.setIfInBounds i true).getD k false) 0 (rs.take i) t) s = lkS (mixT (fun k => listed.getD k false) 0 (rs.take i) t) s := fun t => mixT_agree _ 0 _ _ rfl (fun k r' hk hne => by
              have hki : k < i := by have := (List.getElem?_eq_some_iff.1 hk).1; omega
              rw [Nat.zero_add,hset,beq_ne (i := k) (j := i) (by omega)] at hne
              exact absurd rfl hne)
            have hD' : (fun k => (listed.setIfInBounds i true).getD k false) i = true := (hset i).trans (by simp)
            have hD : (fun k => listed.getD k false) i = false := hni'
            rw [hsplit,mixT_app,mixT_app,htl,Nat.zero_add]
            simp only [mixT,hD',hD,cond_true,cond_false]
            have postag : ∀ t t',lkS t s = lkS t' s → lkS (mixT (fun k => (listed.setIfInBounds i true).getD k false) (i + 1) (rs.drop (i + 1)) t) s = lkS (mixT (fun k => listed.getD k false) (i + 1) (rs.drop (i + 1)) t') s := fun t t' ht => mixT_agree _ _ _ _ ht (fun k r' hk hne => by
              rw [hset,beq_ne (i := i + 1 + k) (j := i) (by omega)] at hne
              exact absurd rfl hne)
            rw [hdst]
            cases hd : o.dst with
            | none => exact postag _ _ (preag _)
            | some d =>
              simp only
              rw [postag _ ((d,r.sv) :: mixT (fun k => listed.getD k false) 0 (rs.take i) st.t) (by simp only [lkS]; rw [preag])]
              refine mixT_last _ _ _ (fun k r' hk hD'' => ?_)
              obtain ⟨ok,hok1,hok2⟩ := rsAt _ r' (post k r' hk)
              rw [hok2.1]
              have hnb : i + 1 + k ∉ bf.getD i [] := fun hmm => by have := ((bfAt i o ho).2 _ hmm).1; omega
              have hu := hun2 _ hD'' hnb
              have hp := pairAt i (i + 1 + k) o ok ho hok1 (by omega)
              simp only [pairOk,hu,Bool.not_true,Bool.false_or,Bool.and_eq_true] at hp
              intro e
              have := hp.2.1
              rw [hd,e] at this
              simp [dstNe] at this
          · -- roots
            show lkG (mixH (fun k => (listed.setIfInBounds i true).getD k false) 0 rs st.h) s = lkG (r.up ++ mixH (fun k => listed.getD k false) 0 rs st.h) s
            have hsplit : rs = rs.take i ++ r :: rs.drop (i + 1) := by
              have e := List.getElem_cons_drop hil2
              have hre : rs[i] = r := by rw [List.getElem?_eq_getElem hil2] at hr; exact Option.some.inj hr
              rw [hre] at e
              rw [e,List.take_append_drop]
            have htl : (rs.take i).length = i := by simp; omega
            have post : ∀ k r',(rs.drop (i + 1))[k]? = some r' → rs[i + 1 + k]? = some r' := fun k r' hk => by rw [List.getElem?_drop] at hk; exact hk
            have preag : ∀ s t,lkG (mixH (fun k => (listed.setIfInBounds i true).getD k false) 0 (rs.take i) t) s = lkG (mixH (fun k => listed.getD k false) 0 (rs.take i) t) s := fun s t => mixH_agree _ 0 _ _ rfl (fun k r' hk hne => by
              have hki : k < i := by have := (List.getElem?_eq_some_iff.1 hk).1; omega
              rw [Nat.zero_add,hset,beq_ne (i := k) (j := i) (by omega)] at hne
              exact absurd rfl hne)
            have hD' : (fun k => (listed.setIfInBounds i true).getD k false) i = true := (hset i).trans (by simp)
            have hD : (fun k => listed.getD k false) i = false := hni'
            have happ : ∀ (u a b : List (Nat × GB)),lkG a s = lkG b s → lkG (u ++ a) s = lkG (u ++ b) s := by
              intro u
              induction u with
              | nil => exact fun a b h => h
              | cons x up ih =>
                obtain ⟨j,gb⟩ := x
                intro a b h
                simp only [List.cons_append,lkG]
                rw [ih a b h]
            have lhs : mixH (fun k => (listed.setIfInBounds i true).getD k false) 0 rs st.h = mixH (fun k => (listed.setIfInBounds i true).getD k false) (i + 1) (rs.drop (i + 1)) (r.up ++ mixH (fun k => (listed.setIfInBounds i true).getD k false) 0 (rs.take i) st.h) := by
              conv => lhs; rw [hsplit]
              rw [mixH_app,htl,Nat.zero_add]
              simp only [mixH,hD',cond_true]
            have rhs : mixH (fun k => listed.getD k false) 0 rs st.h = mixH (fun k => listed.getD k false) (i + 1) (rs.drop (i + 1)) (mixH (fun k => listed.getD k false) 0 (rs.take i) st.h) := by
              conv => lhs; rw [hsplit]
              rw [mixH_app,htl,Nat.zero_add]
              simp only [mixH,hD,cond_false]
            rw [lhs,rhs]
            have postag : ∀ t t',lkG t s = lkG t' s → lkG (mixH (fun k => (listed.setIfInBounds i true).getD k false) (i + 1) (rs.drop (i + 1)) t) s = lkG (mixH (fun k => listed.getD k false) (i + 1) (rs.drop (i + 1)) t') s := fun t t' ht => mixH_agree _ _ _ _ ht (fun k r' hk hne => by
              rw [hset,beq_ne (i := i + 1 + k) (j := i) (by omega)] at hne
              exact absurd rfl hne)
            rw [postag _ (r.up ++ mixH (fun k => listed.getD k false) 0 (rs.take i) st.h) (happ _ _ _ (preag s _))]
            refine mixH_last _ _ _ (fun k r' hk hD'' x hx => ?_)
            obtain ⟨ok,hok1,hok2⟩ := rsAt _ r' (post k r' hk)
            have hnb : i + 1 + k ∉ bf.getD i [] := fun hmm => by have := ((bfAt i o ho).2 _ hmm).1; omega
            have hu := hun2 _ hD'' hnb
            have hp := pairAt i (i + 1 + k) o ok ho hok1 (by omega)
            simp only [pairOk,hu,Bool.not_true,Bool.false_or,Bool.and_eq_true] at hp
            obtain ⟨gb,hgb⟩ := hx
            rintro ⟨gb',hgb'⟩
            exact disB_spec hp.2.2 x (upIn_mem hupin _ hgb) (upIn_mem hok2.2.2.2.1 _ hgb')
          · -- new roots of the others
            intro j hjl hj x hx
            have hij : i ≠ j := fun e => by subst e; rw [hset] at hj; simp at hj
            have hj' : listed.getD j false = false := by rw [getD_set_ne false hij] at hj; exact hj
            refine hdone.dom x (hfr j hjl hj' x hx) (fun gb hmem => ?_)
            have hxin := upIn_mem hupin _ hmem
            have hp := pairAt i j o ops[j] ho (List.getElem?_eq_getElem hjl) hij
            simp only [pairOk,Bool.and_eq_true,Bool.or_eq_true] at hp
            rcases List.mem_append.1 hxin with h1 | h1
            · exact disB_spec hp.1.1 x h1 hx
            · rcases hp.1.2 with h2 | h2
              · exact disB_spec h2 x h1 hx
              · rw [hbef j (memB_iff.1 h2)] at hj'
                cases hj'
          · intro x hx
            refine hdone.dom x (hfr' x hx) (fun gb hmem => ?_)
            rcases List.mem_append.1 (upIn_mem hupin _ hmem) with h1 | h1
            · have := (hnwk i x h1).2; omega
            · have := hckk i x h1; omega
        unfold wpOpIn
        rw [opAt,ho]
        have hpre : ∀ (hchr : r.ch = kk.ck i),∀ x ∈ r.up,x.1 ∈ r.ch ∨ ρ x.1 = none := by
          intro hchr x hx
          rcases List.mem_append.1 (upIn_mem hupin x hx) with h1 | h1
          · exact .inr (hfr i hil hni' x.1 h1)
          · exact .inl (by rw [hchr]; exact h1)
        rcases hcase with ⟨hg,hacts⟩ | ⟨j,d,b,hg,hj,hdl,hlk,hacts⟩ | ⟨j,d,b,hg,hj,hdl,hlk,hsv,hup0,hch0⟩
        · simp only [Region.wanted,hg,if_true]
          exact hacts.run a w S ρ F hmin (hpre hch) _ _ (fun v w' S1 ρ' F' h1 h2 => next v w' S1 ρ' F' _ _ _ rfl rfl rfl h1 h2)
        · simp only [Region.wanted,hg,yielded_of hmin hj hdl hlk,beq_self_eq_true,if_true]
          exact hacts.run a w S ρ F hmin (hpre hch) _ _ (fun v w' S1 ρ' F' h1 h2 => next v w' S1 ρ' F' _ _ _ rfl rfl rfl h1 h2)
        · simp only [Region.wanted,hg,unyielded hmin hj hdl hlk,Bool.false_eq_true,if_false]
          exact ⟨fun _ _ => trivial,next undef w no ρ F (.tup []) [] [] hsv hch0 hup0 (Done.nil w S ρ F) rep_undef⟩
  refine key ops.toArray.size _ a0 _ S0 ρ0 F0 (by simp) (by simpa using unl_fresh ops.length ops.length (Nat.le_refl _)) (fun j hj => ?_) ?_ (fun j _ _ x hx => hfr0 x (hnwk j x hx).1) (fun x hx => hfr0 x (by omega))
  · have : (Array.replicate ops.toArray.size false).getD j false = false := by
      simp only [Array.getD_eq_getD_getElem?,Array.getElem?_replicate]
      split <;> rfl
    rw [this] at hj
    cases hj
  · have hD : ∀ k,(Array.replicate ops.toArray.size false).getD k false = false := by
      intro k
      simp only [Array.getD_eq_getD_getElem?,Array.getElem?_replicate]
      split <;> rfl
    refine hrel0.drew.same (fun s => ?_) (fun s => ?_)
    · show lkS (mixT _ 0 rs st.t) s = _
      rw [mixT_no rs 0 st.t (fun k _ => hD k)]
    · show lkG (mixH _ 0 rs st.h) s = _
      rw [mixH_no rs 0 st.h (fun k _ => hD k)]
end
end Go.Proofs.YtegpggobfdcafaaGreat
end
section
set_option linter.unusedVariables false
set_option linter.unusedSimpArgs false
namespace Go.Proofs.YtegpggobfdcafaaGreat
open Go Foot
def lk1 : List Nat → Nat → Bool
  | [],_ => false
  | x :: l,i => bif Nat.beq i x then true else lk1 l i
def lk2 {β : Type} : List (Nat × β) → Nat → Option β
  | [],_ => none
  | (x,y) :: l,i => bif Nat.beq i x then some y else lk2 l i
def lk3 : List (Nat × Nat × Nat) → Nat → Nat → Option Nat
  | [],_,_ => none
  | (x,y,z) :: l,i,j => bif Nat.beq i x && Nat.beq j y then some z else lk3 l i j
theorem lk1_all {p : Nat → Bool} : ∀ {l : List Nat} {i : Nat},l.all p = true → lk1 l i = true → p i = true
  | [],_,_,h => by cases h
  | x :: l,i,h,hi => by
    simp only [List.all_cons,Bool.and_eq_true] at h
    simp only [lk1] at hi
    cases hb : Nat.beq i x with
    | true => rw [Nat.eq_of_beq_eq_true hb]; exact h.1
    | false => rw [hb] at hi; exact lk1_all h.2 hi
theorem lk2_all {β : Type} {p : Nat → β → Bool} : ∀ {l : List (Nat × β)} {i : Nat} {y : β},l.all (fun x => p x.1 x.2) = true → lk2 l i = some y → p i y = true
  | [],_,_,_,h => by cases h
  | (x,z) :: l,i,y,h,hi => by
    simp only [List.all_cons,Bool.and_eq_true] at h
    simp only [lk2] at hi
    cases hb : Nat.beq i x with
    | true =>
      rw [hb] at hi
      simp only [cond_true,Option.some.injEq] at hi
      rw [Nat.eq_of_beq_eq_true hb,← hi]
      exact h.1
    | false => rw [hb] at hi; exact lk2_all h.2 hi
theorem lk22_all {p : Nat → Nat → Nat → Bool} {l : List (Nat × Nat × Nat)} {i y z : Nat} (h : l.all (fun x => p x.1 x.2.1 x.2.2) = true) (hi : lk2 l i = some (y,z)) : p i y z = true :=
  lk2_all (p := fun i x => p i x.1 x.2) (y := (y,z)) h hi
theorem lk3_all {p : Nat → Nat → Nat → Bool} : ∀ {l : List (Nat × Nat × Nat)} {i j k : Nat},l.all (fun x => p x.1 x.2.1 x.2.2) = true → lk3 l i j = some k → p i j k = true
  | [],_,_,_,_,h => by cases h
  | (x,y,z) :: l,i,j,k,h,hi => by
    simp only [List.all_cons,Bool.and_eq_true] at h
    simp only [lk3] at hi
    cases hb : Nat.beq i x && Nat.beq j y with
    | true =>
      rw [hb] at hi
      simp only [cond_true,Option.some.injEq] at hi
      simp only [Bool.and_eq_true] at hb
      rw [Nat.eq_of_beq_eq_true hb.1,Nat.eq_of_beq_eq_true hb.2,← hi]
      exact h.1
    | false => rw [hb] at hi; exact lk3_all h.2 hi
def elemB (P : Program) (T e : Nat) : Bool := match P.underlying T with
  | some (.slice e') => Nat.beq e' e
  | _ => false
theorem elemB_spec {P : Program} {T e : Nat} (h : elemB P T e = true) : P.underlying T = some (.slice e) := by
  unfold elemB at h
  split at h
  · rename_i e' hu; rw [hu,Nat.eq_of_beq_eq_true h]
  · cases h
def strB (P : Program) (T : Nat) : Bool := match P.underlying T with
  | some .string => true
  | _ => false
theorem strB_spec {P : Program} {T : Nat} (h : strB P T = true) : P.underlying T = some .string := by
  unfold strB at h
  split at h
  · rename_i hu; exact hu
  · cases h
def allZ (P : Program) : List (Nat × List Value) → Prop
  | [] => True
  | (T,vs) :: l => zeroC P T = some vs ∧ allZ P l
theorem allZ_get {P : Program} : ∀ {l : List (Nat × List Value)} {T : Nat} {vs : List Value},allZ P l → lk2 l T = some vs → zeroC P T = some vs
  | [],_,_,_,h => by cases h
  | (x,z) :: l,i,y,h,hi => by
    simp only [lk2] at hi
    cases hb : Nat.beq i x with
    | true =>
      rw [hb] at hi
      simp only [cond_true,Option.some.injEq] at hi
      rw [Nat.eq_of_beq_eq_true hb,← hi]
      exact h.1
    | false => rw [hb] at hi; exact allZ_get h.2 hi
theorem wrap64 {n : Int} (h1 : -9223372036854775808 ≤ n) (h2 : n < 9223372036854775808) : IntKind.i64.wrap n = n := by
  simp only [IntKind.wrap,IntKind.signed,IntKind.bits]
  simp
  omega
abbrev int (n : Int) : C := .d (.sc (.int .i64 n))
abbrev boo (b : Bool) : C := .d (.sc (.bool b))
section
variable {P : Program} {g : Gh} {st : St} {dst : Option Tmp} {ty : TypeId} {pos : String} {after : Array Edge} {guard : Option (Nat × Bool)} {x y z : Operand} {T U : TypeId} {a b : Int}
theorem a_add (e1 : opd st x = .one (int a)) (e2 : opd st y = .one (int b)) (h1 : -9223372036854775808 ≤ a + b) (h2 : a + b < 9223372036854775808) : Acts P g ⟨dst,.binOp .add T x y U,ty,pos,after,guard⟩ st (.one (int (a + b))) [] [] := by
  have := a_bin (P := P) (g := g) (dst := dst) (T := T) (U := U) (ty := ty) (pos := pos) (after := after) (guard := guard) (op := .add) e1 e2 rfl trivial
  rwa [wrap64 h1 h2] at this
theorem a_sub (e1 : opd st x = .one (int a)) (e2 : opd st y = .one (int b)) (h1 : -9223372036854775808 ≤ a - b) (h2 : a - b < 9223372036854775808) : Acts P g ⟨dst,.binOp .sub T x y U,ty,pos,after,guard⟩ st (.one (int (a - b))) [] [] := by
  have := a_bin (P := P) (g := g) (dst := dst) (T := T) (U := U) (ty := ty) (pos := pos) (after := after) (guard := guard) (op := .sub) e1 e2 rfl trivial
  rwa [wrap64 h1 h2] at this
theorem a_mul (e1 : opd st x = .one (int a)) (e2 : opd st y = .one (int b)) (h1 : -9223372036854775808 ≤ a * b) (h2 : a * b < 9223372036854775808) : Acts P g ⟨dst,.binOp .mul T x y U,ty,pos,after,guard⟩ st (.one (int (a * b))) [] [] := by
  have := a_bin (P := P) (g := g) (dst := dst) (T := T) (U := U) (ty := ty) (pos := pos) (after := after) (guard := guard) (op := .mul) e1 e2 rfl trivial
  rwa [wrap64 h1 h2] at this
theorem a_cmp {op : BinOp} {p : Prop} [Decidable p] {v : Value} (e1 : opd st x = .one (int a)) (e2 : opd st y = .one (int b)) (hv : binV op (.int .i64 a) (.int .i64 b) = some v) (ho : binOb op (.int .i64 a) (.int .i64 b)) (hb : v = .bool (decide p)) : Acts P g ⟨dst,.binOp op T x y U,ty,pos,after,guard⟩ st (.one (boo (decide p))) [] [] := by
  subst hb
  exact a_bin e1 e2 hv ho
end
structure Enc (α : Type) where
  z : Nat
  enc : α → List D
  len : ∀ x,(enc x).length = z
  pos : 0 < z
def rows {α : Type} (E : Enc α) (l : List α) : List D := l.flatMap E.enc
theorem rows_len {α : Type} (E : Enc α) (l : List α) : (rows E l).length = l.length * E.z := by
  unfold rows
  induction l with
  | nil => simp
  | cons x l ih => simp only [List.flatMap_cons,List.length_append,ih,E.len,List.length_cons,Nat.add_mul,Nat.one_mul]; omega
theorem cnt_rows' {α : Type} (E : Enc α) (l : List α) : cnt E.z (rows E l) = l.length := by unfold cnt; rw [rows_len]; exact Nat.mul_div_cancel _ E.pos
theorem cnt_rows {α : Type} (E : Enc α) (l : List α) : ((cnt E.z (rows E l) : Nat) : Int) = (l.length : Int) := by rw [cnt_rows']
theorem cnt_lt {α : Type} {E : Enc α} {l : List α} {i : Int} (h : i < l.length) : i < (cnt E.z (rows E l) : Nat) := by rw [cnt_rows']; exact h
theorem rows_drop {α : Type} (E : Enc α) : ∀ (l : List α) (i : Nat),(rows E l).drop (i * E.z) = rows E (l.drop i)
  | l,0 => by simp
  | [],i + 1 => by simp [rows]
  | x :: l,i + 1 => by
    have e : rows E (x :: l) = E.enc x ++ rows E l := by simp [rows]
    rw [e,show (i + 1) * E.z = (E.enc x).length + i * E.z by rw [E.len,Nat.add_mul,Nat.one_mul]; omega,List.drop_append,List.drop_of_length_le (by omega)]
    simp [rows_drop E l i]
theorem rows_take {α : Type} (E : Enc α) : ∀ (l : List α) (i : Nat),(rows E l).take (i * E.z) = rows E (l.take i)
  | l,0 => by simp [rows]
  | [],i + 1 => by simp [rows]
  | x :: l,i + 1 => by
    have e : rows E (x :: l) = E.enc x ++ rows E l := by simp [rows]
    rw [e,show (i + 1) * E.z = (E.enc x).length + i * E.z by rw [E.len,Nat.add_mul,Nat.one_mul]; omega,List.take_append,List.take_of_length_le (by omega)]
    simp only [Nat.add_sub_cancel_left,rows_take E l i,List.take_succ_cons]
    simp [rows]
theorem rows_app {α : Type} (E : Enc α) (l m : List α) : rows E l ++ rows E m = rows E (l ++ m) := by simp [rows]
theorem elem_rows' {α : Type} {E : Enc α} {l : List α} {i : Nat} (h : i < l.length) : elem E.z (rows E l) i = E.enc l[i] := by
  unfold elem
  rw [rows_drop,List.drop_eq_getElem_cons h]
  have e : rows E (l[i] :: l.drop (i + 1)) = E.enc l[i] ++ rows E (l.drop (i + 1)) := by unfold rows; rw [List.flatMap_cons]
  rw [e,List.take_append_of_le_length (by rw [E.len]; exact Nat.le_refl _),List.take_of_length_le (by rw [E.len]; exact Nat.le_refl _)]
theorem elem_rows {α : Type} {E : Enc α} {l : List α} {i : Int} (h : i.toNat < l.length) : elem E.z (rows E l) i.toNat = E.enc l[i.toNat] := elem_rows' h
theorem noOwn_rows {α : Type} {E : Enc α} {l : List α} (h : ∀ x,D.noOwn.all (E.enc x)) : D.noOwn.all (rows E l) := by
  unfold rows
  induction l with
  | nil => trivial
  | cons x l ih => simp only [List.flatMap_cons]; exact noOwn_append (h x) ih
theorem ShutL.rows {α : Type} {Eo E : Enc α} {l : List α} (h : ∀ x,ShutL (Eo.enc x) (E.enc x)) (hz : Eo.z = E.z := by rfl) : ShutL (rows Eo l) (rows E l) := by
  unfold Go.Proofs.YtegpggobfdcafaaGreat.rows
  induction l with
  | nil => exact ShutL.nil
  | cons x l ih => simp only [List.flatMap_cons]; exact ShutL.app (h x) ih (by rw [Eo.len,E.len,hz])
theorem plain_append : ∀ {a b : List D},D.plain.all a → D.plain.all b → D.plain.all (a ++ b)
  | [],_,_,h => h
  | _ :: _,_,h,h' => ⟨h.1,plain_append h.2 h'⟩
theorem plain_rows {α : Type} {E : Enc α} {l : List α} (h : ∀ x,D.plain.all (E.enc x)) : D.plain.all (rows E l) := by
  unfold rows
  induction l with
  | nil => trivial
  | cons x l ih => simp only [List.flatMap_cons]; exact plain_append (h x) ih
abbrev eI : Enc Int := ⟨1,fun n => [.sc (.int .i64 n)],fun _ => rfl,by decide⟩
section
variable {P : Program} {g : Gh} {t : List (Nat × SV)} {h : List (Nat × GB)} {n : Nat} {Q : Exit → St → Prop} {ops : Array Oper} {l : List Oper}
theorem o_p {d : Nat} {op : Op} {ty : TypeId} {pos : String} {after : Array Edge} {sv : SV} (hd : Nat.blt d g.n = true) (ha : Acts P g ⟨some d,op,ty,pos,after,none⟩ ⟨t,h,n⟩ sv [] []) (hk : GOps P g ops l ⟨(d,sv) :: t,h,n⟩ Q) : GOps P g ops (⟨some d,op,ty,pos,after,none⟩ :: l) ⟨t,h,n⟩ Q :=
  o_act (n := n) rfl ha (fun d' e => by cases e; exact blt_lt hd) (by simp) (Nat.le_refl n) hk
theorem o_n {d : Nat} {op : Op} {ty : TypeId} {pos : String} {after : Array Edge} {sv : SV} {gb : GB} (hd : Nat.blt d g.n = true) (ha : Acts P g ⟨some d,op,ty,pos,after,none⟩ ⟨t,h,n⟩ sv [] [(n,gb)]) (hk : GOps P g ops l ⟨(d,sv) :: t,(n,gb) :: h,n + 1⟩ Q) : GOps P g ops (⟨some d,op,ty,pos,after,none⟩ :: l) ⟨t,h,n⟩ Q :=
  o_act (n := n + 1) rfl ha (fun d' e => by cases e; exact blt_lt hd) (by simp) ⟨.inr ⟨Nat.le_refl n,Nat.lt_succ_self n⟩,Nat.le_succ n⟩ hk
theorem o_s {d i : Nat} {op : Op} {ty : TypeId} {pos : String} {after : Array Edge} {sv : SV} {gb : GB} (hd : Nat.blt d g.n = true) (hl : (lkG h i).lives = true) (ha : Acts P g ⟨some d,op,ty,pos,after,none⟩ ⟨t,h,n⟩ sv [i] [(n,gb),(i,.dead)]) (hk : GOps P g ops l ⟨(d,sv) :: t,(n,gb) :: (i,.dead) :: h,n + 1⟩ Q) : GOps P g ops (⟨some d,op,ty,pos,after,none⟩ :: l) ⟨t,h,n⟩ Q :=
  o_act (n := n + 1) rfl ha (fun d' e => by cases e; exact blt_lt hd) (fun j hj => by simp at hj; subst hj; intro e; simp only [e] at hl; cases hl) ⟨.inr ⟨Nat.le_refl n,Nat.lt_succ_self n⟩,.inl (by simp),Nat.le_succ n⟩ hk
theorem o_w {i : Nat} {op : Op} {ty : TypeId} {pos : String} {after : Array Edge} {gb : GB} (hl : (lkG h i).lives = true) (ha : Acts P g ⟨none,op,ty,pos,after,none⟩ ⟨t,h,n⟩ .any [i] [(i,gb)]) (hk : GOps P g ops l ⟨t,(i,gb) :: h,n⟩ Q) : GOps P g ops (⟨none,op,ty,pos,after,none⟩ :: l) ⟨t,h,n⟩ Q :=
  o_act (n := n) rfl ha (fun d' e => by cases e) (fun j hj => by simp at hj; subst hj; intro e; simp only [e] at hl; cases hl) ⟨.inl (by simp),Nat.le_refl n⟩ hk
theorem o_c {d : Nat} {op : Op} {ty : TypeId} {pos : String} {after : Array Edge} {sv : SV} {θ : List Nat} {up : List (Nat × GB)} {n' : Nat} (hd : Nat.blt d g.n = true) (hl : θ.all (fun i => (lkG h i).lives) = true) (ha : Acts P g ⟨some d,op,ty,pos,after,none⟩ ⟨t,h,n⟩ sv θ up) (hu : upOk n n' θ up) (hk : GOps P g ops l ⟨(d,sv) :: t,up ++ h,n'⟩ Q) : GOps P g ops (⟨some d,op,ty,pos,after,none⟩ :: l) ⟨t,h,n⟩ Q :=
  o_act (n := n') rfl ha (fun d' e => by cases e; exact blt_lt hd) (fun j hj e => by have := (List.all_eq_true.1 hl) j hj; simp only [e] at this; cases this) hu hk
theorem o_py {d j d' : Nat} {b : Bool} {op : Op} {ty : TypeId} {pos : String} {after : Array Edge} {sv : SV} (hj : (ops[j]?).bind (·.dst) = some d') (hb : lkS t d' = .one (boo b)) (hdd : Nat.blt d' g.n = true) (hd : Nat.blt d g.n = true) (ha : Acts P g ⟨some d,op,ty,pos,after,some (j,b)⟩ ⟨t,h,n⟩ sv [] []) (hk : GOps P g ops l ⟨(d,sv) :: t,h,n⟩ Q) : GOps P g ops (⟨some d,op,ty,pos,after,some (j,b)⟩ :: l) ⟨t,h,n⟩ Q :=
  o_act_yes (n := n) rfl hj (blt_lt hdd) hb ha (fun d' e => by cases e; exact blt_lt hd) (by simp) (Nat.le_refl n) hk
theorem o_cy {d j d' : Nat} {b : Bool} {op : Op} {ty : TypeId} {pos : String} {after : Array Edge} {sv : SV} {θ : List Nat} {up : List (Nat × GB)} {n' : Nat} (hj : (ops[j]?).bind (·.dst) = some d') (hb : lkS t d' = .one (boo b)) (hdd : Nat.blt d' g.n = true) (hd : Nat.blt d g.n = true) (hl : θ.all (fun i => (lkG h i).lives) = true) (ha : Acts P g ⟨some d,op,ty,pos,after,some (j,b)⟩ ⟨t,h,n⟩ sv θ up) (hu : upOk n n' θ up) (hk : GOps P g ops l ⟨(d,sv) :: t,up ++ h,n'⟩ Q) : GOps P g ops (⟨some d,op,ty,pos,after,some (j,b)⟩ :: l) ⟨t,h,n⟩ Q :=
  o_act_yes (n := n') rfl hj (blt_lt hdd) hb ha (fun d' e => by cases e; exact blt_lt hd) (fun j hj e => by have := (List.all_eq_true.1 hl) j hj; simp only [e] at this; cases this) hu hk
theorem o_no {d j d' : Nat} {b : Bool} {op : Op} {ty : TypeId} {pos : String} {after : Array Edge} (hj : (ops[j]?).bind (·.dst) = some d') (hb : skips b (lkS t d') = true) (hdd : Nat.blt d' g.n = true) (hd : Nat.blt d g.n = true) (hk : GOps P g ops l ⟨(d,.tup []) :: t,h,n⟩ Q) : GOps P g ops (⟨some d,op,ty,pos,after,some (j,b)⟩ :: l) ⟨t,h,n⟩ Q :=
  o_act_no rfl hj (blt_lt hdd) hb (fun d' e => by cases e; exact blt_lt hd) hk
theorem o_split (d : Nat) {b : Bool} (hb : lkS t d = .one (boo b)) (ht : b = true → GOps P g ops l ⟨(d,.one (boo true)) :: t,h,n⟩ Q) (hf : b = false → GOps P g ops l ⟨(d,.one (boo false)) :: t,h,n⟩ Q) : GOps P g ops l ⟨t,h,n⟩ Q := by
  have same : ∀ i,lkS ((d,.one (boo b)) :: t) i = lkS t i := fun i => by
    simp only [lkS]
    by_cases hi : i = d
    · subst hi; simp [hb]
    · rw [beq_ne hi]; rfl
  refine ⟨fun a w S ρ F hr hfr => ?_⟩
  have hr' : Rel g ⟨(d,.one (boo b)) :: t,h,n⟩ a w S ρ F := hr.same same (fun _ => rfl)
  cases b with
  | true => exact (ht rfl).run a w S ρ F hr' hfr
  | false => exact (hf rfl).run a w S ρ F hr' hfr
theorem g_if_t {c : Operand} {x y : Code} (hc : opd ⟨t,h,n⟩ c = .one (boo true)) (hk : GWp P g x ⟨t,h,n⟩ Q) : GWp P g (.cond c x y) ⟨t,h,n⟩ Q := g_cond hc (fun _ => hk) (fun e => by cases e)
theorem g_if_f {c : Operand} {x y : Code} (hc : opd ⟨t,h,n⟩ c = .one (boo false)) (hk : GWp P g y ⟨t,h,n⟩ Q) : GWp P g (.cond c x y) ⟨t,h,n⟩ Q := g_cond hc (fun e => by cases e) (fun _ => hk)
theorem g_reg {id : Nat} {l : List Oper} (hk : GOps P g l.toArray l ⟨t,h,n⟩ Q) : GWp P g (.region id l.toArray false) ⟨t,h,n⟩ Q := g_region hk
end
section
variable {P : Program} {g : Gh} {t : List (Nat × SV)} {h : List (Nat × GB)} {n : Nat} {Q : Exit → St → Prop} {ops : Array Oper} {l : List Oper} {st : St} {y : Code}
theorem q_s (hk : GWp P g y st Q) : qSeq P g y Q .normal st := .go hk
theorem q_sr (hk : Q .ret st) : qSeq P g y Q .ret st := .out (by simp) hk
theorem q_se {id : Nat} (hk : Q (.exit id) st) : qSeq P g y Q (.exit id) st := .out (by simp) hk
theorem q_b {id : Nat} (hk : Q .normal st) : qBlk id Q .normal st := .out (fun _ e => by cases e) hk
theorem q_br {id : Nat} (hk : Q .ret st) : qBlk id Q .ret st := .out (fun _ e => by cases e) hk
theorem q_be {id id' : Nat} (hb : Nat.beq id' id = true) (hk : Q .normal st) : qBlk id Q (.exit id') st := .hit hb hk
theorem q_bn {id id' : Nat} (hb : Nat.beq id' id = false) (hk : Q (.exit id') st) : qBlk id Q (.exit id') st := .out (fun _ e => by cases e; exact hb) hk
theorem q_lr {α : Type} {k : Nat} {I : α → Prop} {T : α → St} {μ : α → Nat} {m : Nat} (hk : Q .ret st) : qLoop k I T μ m Q .ret st := .out (by simp) hk
theorem q_le {α : Type} {k : Nat} {I : α → Prop} {T : α → St} {μ : α → Nat} {m id : Nat} (hk : Q (.exit id) st) : qLoop k I T μ m Q (.exit id) st := .out (by simp) hk
theorem q_cr {α : Type} {k : Nat} {I : α → Prop} {T : α → St} (hk : Q .ret st) : qCut k I T Q .ret st := .out (by simp) hk
theorem q_ce {α : Type} {k : Nat} {I : α → Prop} {T : α → St} {id : Nat} (hk : Q (.exit id) st) : qCut k I T Q (.exit id) st := .out (by simp) hk
theorem o_gs {d j d' : Nat} {b b' : Bool} {op : Op} {ty : TypeId} {pos : String} {after : Array Edge} (hj : (ops[j]?).bind (·.dst) = some d') (hb : lkS t d' = .one (boo b')) (ht : b' = true → GOps P g ops (⟨some d,op,ty,pos,after,some (j,b)⟩ :: l) ⟨(d',.one (boo true)) :: t,h,n⟩ Q) (hf : b' = false → GOps P g ops (⟨some d,op,ty,pos,after,some (j,b)⟩ :: l) ⟨(d',.one (boo false)) :: t,h,n⟩ Q) : GOps P g ops (⟨some d,op,ty,pos,after,some (j,b)⟩ :: l) ⟨t,h,n⟩ Q := o_split d' hb ht hf
theorem sle_b {hh : List (Nat × GB)} {ld : List Nat} {b b' : Bool} (e : b = b') : SVLe hh ld (.one (boo b)) (.one (boo b')) := by subst e; exact .refl
theorem sle_i {hh : List (Nat × GB)} {ld : List Nat} {b b' : Int} (e : b = b') : SVLe hh ld (.one (int b)) (.one (int b')) := by subst e; exact .refl
end
end Go.Proofs.YtegpggobfdcafaaGreat
end
