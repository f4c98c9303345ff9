/- Parts of the proof (3 of 19). -/
import Derived.Orders
import Derived.OrdersIn
import Derived.TacticsIn
import Derived.Test.YtegpggobfdcafaaGreatQ2
section
set_option linter.unusedVariables false
set_option linter.unusedSimpArgs false
namespace Go.Proofs.YtegpggobfdcafaaGreat
open Go Foot
def chF (F : Nat → Foot) (ch : List Nat) : Foot := fun b o => ∃ g ∈ ch,F g b o
structure Done (w w' : World) (S S1 : Foot) (ρ ρ' : Env) (F F' : Nat → Foot) (ch : List Nat) (up : List (Nat × GB)) : Prop where
  cov : ∀ g ∈ ch,∃ gb,(g,gb) ∈ up
  keeps : Keeps (chF F ch) w w'
  newS : le S1 (newOr w (chF F ch))
  exS : ∀ b o,S1 b o → b < w'.heap.size
  sub : Env.le ρ ρ'
  dom : ∀ i,ρ i = none → (∀ gb,(i,gb) ∉ up) → ρ' i = none
  rep : ∀ x ∈ up,x.2 = .dead ∨ ∃ u,ρ' x.1 = some u ∧ RepG w' (S.or S1) ρ' x.2 u (F' x.1)
  own : ∀ x ∈ up,le (F' x.1) (newOr w (chF F ch))
  ex : ∀ x ∈ up,∀ b o,F' x.1 b o → b < w'.heap.size
  disS : ∀ x ∈ up,Foot.dis (F' x.1) S1
  dis : ∀ x ∈ up,∀ y ∈ up,x.1 ≠ y.1 → Foot.dis (F' x.1) (F' y.1)
def keyIn (up : List (Nat × GB)) (i : Nat) : Prop := ∃ gb,(i,gb) ∈ up
open Classical in
noncomputable def mrg (F F' : Nat → Foot) (up : List (Nat × GB)) : Nat → Foot := fun i => if keyIn up i then F' i else F i
def St.eff (st : St) (dst : Option Nat) (sv : SV) (up : List (Nat × GB)) (n : Nat) : St :=
  ⟨match dst with | some d => (d,sv) :: st.t | none => st.t,up ++ st.h,n⟩
abbrev fen (r : Option Nat) : Fence := { Fence.wide with round := r }
theorem fen_depth {r : Option Nat} {p : Prop} (h : (fen r).depth.isSome = true) : p := by cases h
theorem oper_in {P : Program} {r : Option Nat} {o : Oper} {a : Act} {w : World} {K : Act → World → Prop} {Q : Exit → Act → World → Prop} (hd : ∀ c,o.op ≠ .defer c) (h : o.uponIn (fen r) 0 P a K Q ((execOp a.eval o).run P w)) : o.wpIn (fen r) 0 P a w K Q := by
  refine ⟨fun _ _ => trivial,?_⟩
  have : Oper.semAt (fen r).round a.eval o = execOp a.eval o := by
    cases r with
    | none => rfl
    | some l => exact Oper.semAt_some l _ _ hd
  rw [this]
  exact h
theorem calls_in {P : Program} {r : Option Nat} {f : FuncId} {vs : Array Value} {w : World} {R : Ending → World → Prop} (h : Calls P f vs w R) : CallsIn (fen r) (0 - 1) P f vs w R := by
  have := callsIn_wide (n := 0 - 1).2 h
  cases r with
  | none => exact this
  | some l => exact this
theorem not_defer {P : Program} {o : Oper} {ρ : Operand → Value} {w w' : World} {x : Next} (h1 : (execOp ρ o).run P w = .ok x w') (hx : ∀ d,x ≠ .defer d) : ∀ c,o.op ≠ .defer c := by
  intro c e
  obtain ⟨od,oo,ot,op,oa,og⟩ := o
  simp only at e
  subst e
  unfold execOp at h1
  simp only [Sem.run_bind] at h1
  cases hr : (resolve ρ c ot).run P w with
  | ok d w1 =>
    rw [hr] at h1
    simp [Result.andThen] at h1
    exact hx d h1.1.symm
  | halt y w1 => rw [hr] at h1; simp [Result.andThen] at h1
structure Acts (P : Program) (g : Gh) (o : Oper) (st : St) (sv : SV) (ch : List Nat) (up : List (Nat × GB)) : Prop where
  run : ∀ a w S ρ F,Rel g st a w S ρ F → (∀ x ∈ up,x.1 ∈ ch ∨ ρ x.1 = none) → ∀ K Q,
    (∀ v w' S1 ρ' F',Done w w' S S1 ρ ρ' F F' ch up → RepS w' (S.or S1) ρ' sv v → K (a.put o.dst v) w') → o.wpIn (fen g.rd) 0 P a w K Q
theorem beq_ne {i j : Nat} (h : i ≠ j) : Nat.beq i j = false := by
  cases hb : Nat.beq i j with
  | false => rfl
  | true => exact absurd (Nat.eq_of_beq_eq_true hb) h
theorem getD_put (a : Act) {d : Nat} (v : Value) (hd : d < a.tmps.size) (i : Nat) : (a.put (some d) v).tmps.getD i undef = if i = d then v else a.tmps.getD i undef := by
  simp only [Act.put,Array.getD_eq_getD_getElem?]
  by_cases h : i = d
  · subst h
    simp [hd]
  · rw [Array.getElem?_setIfInBounds_ne (Ne.symm h)]
    simp [h]
theorem lkG_append (up h : List (Nat × GB)) (i : Nat) (hi : ¬ keyIn up i) : lkG (up ++ h) i = lkG h i := by
  induction up with
  | nil => rfl
  | cons x up ih =>
    obtain ⟨j,gb⟩ := x
    have hne : i ≠ j := fun e => hi ⟨gb,by subst e; simp⟩
    have hb : Nat.beq i j = false := beq_ne hne
    simp only [List.cons_append,lkG,hb,cond_false]
    exact ih fun ⟨gb',hm⟩ => hi ⟨gb',by simp [hm]⟩
theorem lkG_key (up h : List (Nat × GB)) (i : Nat) (hi : keyIn up i) : (i,lkG (up ++ h) i) ∈ up := by
  induction up with
  | nil => obtain ⟨_,hm⟩ := hi; simp at hm
  | cons x up ih =>
    obtain ⟨j,gb⟩ := x
    by_cases hne : i = j
    · subst hne
      have hb : Nat.beq i i = true := by simp
      simp [lkG,hb]
    · have hb : Nat.beq i j = false := beq_ne hne
      simp only [List.cons_append,lkG,hb,cond_false]
      refine List.mem_cons_of_mem _ (ih ?_)
      obtain ⟨gb',hm⟩ := hi
      rcases List.mem_cons.1 hm with e | hm
      · exact absurd (Prod.mk.inj e).1 hne
      · exact ⟨gb',hm⟩
section
variable {P : Program} {g : Gh} {st st' : St} {a a' : Act} {w w' : World} {S S1 : Foot} {ρ ρ' : Env} {F F' : Nat → Foot} {ch : List Nat} {up : List (Nat × GB)} {sv : SV} {o : Oper}
theorem keys_bd (up : List (Nat × GB)) : ∃ M,∀ x ∈ up,x.1 < M := by
  induction up with
  | nil => exact ⟨0,fun x hx => by simp at hx⟩
  | cons y up ih =>
    obtain ⟨M,hM⟩ := ih
    refine ⟨max M (y.1 + 1),fun x hx => ?_⟩
    rcases List.mem_cons.1 hx with rfl | hx
    · omega
    · have := hM x hx; omega
theorem Done.fin (hd : Done w w' S S1 ρ ρ' F F' ch up) (h : ∃ N,∀ i,N ≤ i → ρ i = none) : ∃ N,∀ i,N ≤ i → ρ' i = none := by
  obtain ⟨N,hN⟩ := h
  obtain ⟨M,hM⟩ := keys_bd up
  refine ⟨max N M,fun i hi => hd.dom i (hN i (by omega)) fun gb hm => ?_⟩
  have := hM _ hm
  simp only at this
  omega
theorem Rel.done (h : Rel g st a w S ρ F) (hd : Done w w' S S1 ρ ρ' F F' ch up) {n : Nat} {dst : Option Nat} {v : Value} (hdst : ∀ d,dst = some d → d < g.n) (hv : RepS w' (S.or S1) ρ' sv v) :
    Rel g (st.eff dst sv up n) (a.put dst v) w' (S.or S1) ρ' (mrg F F' up) := by
  have hchF : ∀ i,¬ keyIn up i → Foot.dis (F i) (chF F ch) := by
    rintro i hi b o hb ⟨j,hj,hjb⟩
    by_cases hij : i = j
    · subst hij; exact hi (hd.cov i hj)
    · exact h.dis i j hij b o hb hjb
  have hSch : Foot.dis S (chF F ch) := fun b o hs ⟨j,_,hj⟩ => h.disS j b o hj hs
  have hagS : Agree w w' S := hd.keeps.agree h.exS hSch
  have hagF : ∀ i,¬ keyIn up i → Agree w w' (F i) := fun i hi => hd.keeps.agree (h.ex i) (hchF i hi)
  have hm1 : ∀ i,keyIn up i → mrg F F' up i = F' i := fun i hi => by simp [mrg,hi]
  have hm2 : ∀ i,¬ keyIn up i → mrg F F' up i = F i := fun i hi => by simp [mrg,hi]
  have hnew : le (newOr w (chF F ch)) (newOr g.w0 g.F0) := by
    rintro b o (⟨j,_,hj⟩ | hb)
    · exact h.own j b o hj
    · exact .inr (Nat.le_trans h.old.size hb)
  have hFnew : ∀ i,¬ keyIn up i → Foot.dis (F i) (newOr w (chF F ch)) := by
    rintro i hi b o hb (hc | hc)
    · exact hchF i hi b o hb hc
    · have := h.ex i b o hb; omega
  have hSnew : Foot.dis S (newOr w (chF F ch)) := by
    rintro b o hb (hc | hc)
    · exact hSch b o hb hc
    · have := h.exS b o hb; omega
  refine ⟨?_,?_,fun i => ?_,fun i => ?_,fun i j hij => ?_,fun i => ?_,fun i => ?_,fun i b o hb => ?_,fun b o hb => ?_,?_,?_,fun b o hb => ?_,fun i u hi hu => hd.sub _ _ (h.pin i u hi hu),h.tab.keep hagS (le_or_left _ _),hd.fin h.fin⟩
  · rw [← h.size]; cases dst <;> simp [Act.put]
  · have e : (a.put dst v).defers = a.defers := by cases dst <;> rfl
    rw [e]
    refine h.defers.keep fun r _ m => ?_
    have hlt : r < w.heap.size := (Array.getElem?_eq_some_iff.1 (mapAt_of m.at_)).1
    refine ⟨(hd.keeps.cell r 0 hlt fun ⟨j,_,hj⟩ => m.F j 0 hj).2.2.trans m.at_,fun i o hi => ?_,fun o ho => ?_,m.lo⟩
    · by_cases hk : keyIn up i
      · rw [hm1 i hk] at hi
        obtain ⟨x,hx⟩ := hk
        rcases hd.own _ hx r o hi with ⟨j,_,hj⟩ | hj
        · exact m.F j o hj
        · omega
      · rw [hm2 i hk] at hi; exact m.F i o hi
    · rcases ho with ho | ho
      · exact m.S o ho
      · rcases hd.newS r o ho with ⟨j,_,hj⟩ | hj
        · exact m.F j o hj
        · omega
  · cases dst with
    | none => exact (h.slot i).keep hagS (le_or_left _ _) hd.sub
    | some d =>
      rw [getD_put a v (by rw [h.size]; exact hdst d rfl)]
      simp only [St.eff,lkS]
      by_cases hi : i = d
      · subst hi
        have hb : Nat.beq i i = true := by simp
        simp only [hb,cond_true,if_true]
        exact hv
      · have hb : Nat.beq i d = false := beq_ne hi
        simp only [hb,cond_false,if_neg hi]
        exact (h.slot i).keep hagS (le_or_left _ _) hd.sub
  · by_cases hi : keyIn up i
    · have hk := lkG_key up st.h i hi
      rw [hm1 i hi]
      exact hd.rep _ hk
    · rw [hm2 i hi]
      show lkG (up ++ st.h) i = .dead ∨ _
      simp only [St.eff,lkG_append up st.h i hi]
      rcases h.root i with h0 | ⟨u,h1,h2⟩
      · exact .inl h0
      · exact .inr ⟨u,hd.sub _ _ h1,h2.keep (hagF i hi) hagS (le_or_left _ _) hd.sub (le_refl _)⟩
  · by_cases hi : keyIn up i <;> by_cases hj : keyIn up j
    · rw [hm1 i hi,hm1 j hj]
      obtain ⟨x,hx⟩ := hi
      obtain ⟨y,hy⟩ := hj
      exact hd.dis _ hx _ hy hij
    · rw [hm1 i hi,hm2 j hj]
      obtain ⟨x,hx⟩ := hi
      exact (hFnew j hj).symm.le (hd.own _ hx) (le_refl _)
    · rw [hm2 i hi,hm1 j hj]
      obtain ⟨y,hy⟩ := hj
      exact (hFnew i hi).le (le_refl _) (hd.own _ hy)
    · rw [hm2 i hi,hm2 j hj]; exact h.dis i j hij
  · by_cases hi : keyIn up i
    · rw [hm1 i hi]
      obtain ⟨x,hx⟩ := hi
      exact fun b o hb hs => hs.elim (fun hs => hSnew b o hs (hd.own _ hx b o hb)) (fun hs => hd.disS _ hx b o hb hs)
    · rw [hm2 i hi]
      exact fun b o hb hs => hs.elim (fun hs => h.disS i b o hb hs) (fun hs => hFnew i hi b o hb (hd.newS b o hs))
  · by_cases hi : keyIn up i
    · rw [hm1 i hi]
      obtain ⟨x,hx⟩ := hi
      exact (hd.own _ hx).trans hnew
    · rw [hm2 i hi]; exact h.own i
  · by_cases hi : keyIn up i
    · rw [hm1 i hi] at hb
      obtain ⟨x,hx⟩ := hi
      exact hd.ex _ hx b o hb
    · rw [hm2 i hi] at hb
      exact Nat.lt_of_lt_of_le (h.ex i b o hb) hd.keeps.size
  · exact hb.elim (fun hb => Nat.lt_of_lt_of_le (h.exS b o hb) hd.keeps.size) (hd.exS b o)
  · exact h.old.trans hd.keeps (fun b o ⟨j,_,hj⟩ => h.own j b o hj)
  · exact h.inS.trans (le_or_left _ _)
  · exact hb.elim (h.newS b o) (fun hb => .inr (hnew b o (hd.newS b o hb)))
theorem Done.nil (w : World) (S : Foot) (ρ : Env) (F : Nat → Foot) : Done w w S no ρ ρ F F [] [] :=
  ⟨by simp,Keeps.refl _ _,no_le _,fun _ _ h => h.elim,Env.le.refl _,fun _ h _ => h,by simp,by simp,by simp,by simp,by simp⟩
theorem or_no (F : Foot) : F.or no = F := by funext b o; simp [Foot.or,no]
theorem acts_of (h : ∀ a w S ρ F,Rel g st a w S ρ F → ∃ v,(execOp a.eval o).run P w = .ok (.value v) w ∧ RepS w S ρ sv v) : Acts P g o st sv [] [] := by
  refine ⟨fun a w S ρ F hr _ K Q hK => ?_⟩
  obtain ⟨v,h1,h2⟩ := h a w S ρ F hr
  refine oper_in (not_defer h1 (fun _ h => nomatch h)) ?_
  rw [h1]
  exact hK v w no ρ F (Done.nil w S ρ F) (by rw [or_no]; exact h2)
theorem Rel.weaken (h : Rel g st a w S ρ F) (hs : ∀ i,lkS st'.t i = .any ∨ lkS st'.t i = lkS st.t i) (hg : ∀ i,lkG st'.h i = .dead ∨ lkG st'.h i = lkG st.h i) : Rel g st' a w S ρ F :=
  ⟨h.size,h.defers,fun i => (hs i).elim (fun e => by rw [e]; trivial) (fun e => by rw [e]; exact h.slot i),fun i => (hg i).elim .inl (fun e => by rw [e]; exact h.root i),h.dis,h.disS,h.own,h.ex,h.exS,h.old,h.inS,h.newS,h.pin,h.tab,h.fin⟩
theorem Rel.same (h : Rel g st a w S ρ F) (hs : ∀ i,lkS st'.t i = lkS st.t i) (hg : ∀ i,lkG st'.h i = lkG st.h i) : Rel g st' a w S ρ F := h.weaken (fun i => .inr (hs i)) (fun i => .inr (hg i))
theorem Rep.drew : ∀ {c : D} {v : Value} {F : Foot},Rep w S c v F → Rep { w with drawn := w.drawn + 1 } S c v F := fun h => h.keep (w' := { w with drawn := w.drawn + 1 }) (fun _ _ _ => ⟨rfl,rfl,rfl⟩) (fun _ _ _ => ⟨rfl,rfl,rfl⟩) (le_refl _) (le_refl _)
theorem Rel.drew (h : Rel g st a w S ρ F) : Rel g st a { w with drawn := w.drawn + 1 } S ρ F := by
  have ha : ∀ X,Agree w { w with drawn := w.drawn + 1 } X := fun _ _ _ _ => ⟨rfl,rfl,rfl⟩
  exact ⟨h.size,h.defers.keep fun _ _ m => ⟨m.at_,m.F,m.S,m.lo⟩,fun i => (h.slot i).keep (ha _) (le_refl _) (Env.le.refl _),fun i => (h.root i).imp id (fun ⟨u,h1,h2⟩ => ⟨u,h1,h2.keep (ha _) (ha _) (le_refl _) (Env.le.refl _) (le_refl _)⟩),h.dis,h.disS,h.own,h.ex,h.exS,
    ⟨h.old.os,h.old.tape,h.old.output,h.old.size,h.old.block,h.old.cell⟩,h.inS,h.newS,h.pin,h.tab.keep (ha _) (le_refl _),h.fin⟩
end
def GQ (g : Gh) (Q : Exit → St → Prop) : Exit → Act → World → Prop := fun e a w => ∃ st S ρ F,Rel g st a w S ρ F ∧ Fresh st ρ ∧ Q e st
structure GWp (P : Program) (g : Gh) (c : Code) (st : St) (Q : Exit → St → Prop) : Prop where
  run : ∀ a w S ρ F,Rel g st a w S ρ F → Fresh st ρ → c.wpIn (fen g.rd) 0 P (GQ g Q) a w
structure GOps (P : Program) (g : Gh) (ops : Array Oper) (l : List Oper) (st : St) (Q : Exit → St → Prop) : Prop where
  run : ∀ a w S ρ F,Rel g st a w S ρ F → Fresh st ρ → wpListIn (fen g.rd) 0 P ops (GQ g Q) l a w
inductive qSeq (P : Program) (g : Gh) (y : Code) (Q : Exit → St → Prop) : Exit → St → Prop where
  | go {st : St} (h : GWp P g y st Q) : qSeq P g y Q .normal st
  | out {e : Exit} {st : St} (hne : e ≠ .normal) (h : Q e st) : qSeq P g y Q e st
inductive qBlk (id : Nat) (Q : Exit → St → Prop) : Exit → St → Prop where
  | hit {id' : Nat} {st : St} (hb : Nat.beq id' id = true) (h : Q .normal st) : qBlk id Q (.exit id') st
  | out {e : Exit} {st : St} (hb : ∀ i,e = .exit i → Nat.beq i id = false) (h : Q e st) : qBlk id Q e st
section
variable {P : Program} {g : Gh} {st st' : St} {Q : Exit → St → Prop}
theorem g_mono {c : Code} {Q' : Exit → St → Prop} (h : GWp P g c st Q) (hq : ∀ e st,Q e st → Q' e st) : GWp P g c st Q' := ⟨fun a w S ρ F hr hf =>
  wpIn_mono (h.run a w S ρ F hr hf) fun e a w ⟨st,S,ρ,F,h1,h2,h3⟩ => ⟨st,S,ρ,F,h1,h2,hq e st h3⟩⟩
theorem g_skip (h : Q .normal st) : GWp P g .skip st Q := ⟨fun a w S ρ F hr hf => wpIn_skip ⟨st,S,ρ,F,hr,hf,h⟩⟩
theorem g_ret (h : Q .ret st) : GWp P g .ret st Q := ⟨fun a w S ρ F hr hf => wpIn_ret ⟨st,S,ρ,F,hr,hf,h⟩⟩
theorem g_exit {id : Nat} (h : Q (.exit id) st) : GWp P g (.exit id) st Q := ⟨fun a w S ρ F hr hf => wpIn_exit ⟨st,S,ρ,F,hr,hf,h⟩⟩
theorem g_seq {x y : Code} (h : GWp P g x st (qSeq P g y Q)) : GWp P g (.seq x y) st Q := by
  refine ⟨fun a w S ρ F hr hf => ?_⟩
  refine wpIn_seq (wpIn_mono (h.run a w S ρ F hr hf) ?_)
  rintro e a w ⟨st,S,ρ,F,h1,h2,h3⟩
  cases h3 with
  | go h3 => exact h3.run a w S ρ F h1 h2
  | out hne h3 =>
    cases e with
    | normal => exact absurd rfl hne
    | _ => exact ⟨st,S,ρ,F,h1,h2,h3⟩
theorem g_block {id : Nat} {c : Code} (h : GWp P g c st (qBlk id Q)) : GWp P g (.block id c) st Q := by
  refine ⟨fun a w S ρ F hr hf => ?_⟩
  refine wpIn_block (wpIn_mono (h.run a w S ρ F hr hf) ?_)
  rintro e a w ⟨st,S,ρ,F,h1,h2,h3⟩
  cases h3 with
  | hit hb h3 =>
    rename_i id'
    simp only [Exit.inBlock,if_pos (Nat.eq_of_beq_eq_true hb)]
    exact ⟨st,S,ρ,F,h1,h2,h3⟩
  | out hb h3 =>
    cases e with
    | exit id' =>
      have hne : id' ≠ id := fun e => by have := hb id' rfl; rw [e] at this; simp at this
      simp only [Exit.inBlock,if_neg hne]
      exact ⟨st,S,ρ,F,h1,h2,h3⟩
    | _ => exact ⟨st,S,ρ,F,h1,h2,h3⟩
theorem bool_of {a : Act} {w : World} {S : Foot} {ρ : Env} {F : Nat → Foot} (hr : Rel g st a w S ρ F) {c : Operand} {b : Bool} (hc : opd st c = .one (.d (.sc (.bool b)))) : a.eval c = .bool b := by
  have := hr.opd c
  rw [hc] at this
  exact this.1
theorem g_cond {c : Operand} {x y : Code} {b : Bool} (hc : opd st c = .one (.d (.sc (.bool b)))) (ht : b = true → GWp P g x st Q) (hf : b = false → GWp P g y st Q) : GWp P g (.cond c x y) st Q := by
  refine ⟨fun a w S ρ F hr hfr => ?_⟩
  exact wpIn_cond_split (bool_of hr hc) (fun h => (ht h).run a w S ρ F hr hfr) (fun h => (hf h).run a w S ρ F hr hfr)
theorem g_region {id : Nat} {l : List Oper} (h : GOps P g l.toArray l st Q) : GWp P g (.region id l.toArray false) st Q := ⟨fun a w S ρ F hr hf => wpIn_region_lit (h.run a w S ρ F hr hf)⟩
theorem o_nil {ops : Array Oper} (h : Q .normal st) : GOps P g ops [] st Q := ⟨fun a w S ρ F hr hf => ⟨st,S,ρ,F,hr,hf,h⟩⟩
def upOk (n n' : Nat) (ch : List Nat) : List (Nat × GB) → Prop
  | [] => n ≤ n'
  | (i,_) :: r => (i ∈ ch ∨ (n ≤ i ∧ i < n')) ∧ upOk n n' ch r
theorem upOk_mem {n n' : Nat} {ch : List Nat} : ∀ {up : List (Nat × GB)},upOk n n' ch up → ∀ x ∈ up,x.1 ∈ ch ∨ (n ≤ x.1 ∧ x.1 < n')
  | [],_,_,h => by simp at h
  | (i,_) :: r,h,x,hx => by
    rcases List.mem_cons.1 hx with rfl | hx
    · exact h.1
    · exact upOk_mem h.2 x hx
theorem upOk_le {n n' : Nat} {ch : List Nat} : ∀ {up : List (Nat × GB)},upOk n n' ch up → n ≤ n'
  | [],h => h
  | (i,_) :: r,h => upOk_le h.2
theorem fresh_done {w w' : World} {S S1 : Foot} {ρ ρ' : Env} {F F' : Nat → Foot} {ch : List Nat} {up : List (Nat × GB)} {n : Nat} {dst : Option Nat} {sv : SV} {a : Act} (hr : Rel g st a w S ρ F) (hf : Fresh st ρ) (hchl : ∀ i ∈ ch,lkG st.h i ≠ .dead) (hu : upOk st.n n ch up) (hd : Done w w' S S1 ρ ρ' F F' ch up) : Fresh (st.eff dst sv up n) ρ' := by
  intro i hi
  have hi' : n ≤ i := hi
  have hn := upOk_le hu
  refine hd.dom i (hf i (by omega)) fun gb hm => ?_
  rcases upOk_mem hu _ hm with h | h
  · rcases hr.root i with h0 | ⟨u,h1,_⟩
    · exact hchl i h h0
    · rw [hf i (by omega)] at h1; cases h1
  · simp only at h; omega
theorem o_act {ops : Array Oper} {l : List Oper} {o : Oper} {sv : SV} {ch : List Nat} {up : List (Nat × GB)} {n : Nat} (hg : o.guard = none) (h : Acts P g o st sv ch up) (hd : ∀ d,o.dst = some d → d < g.n) (hchl : ∀ i ∈ ch,lkG st.h i ≠ .dead) (hu : upOk st.n n ch up)
    (hk : GOps P g ops l (st.eff o.dst sv up n) Q) : GOps P g ops (o :: l) st Q := by
  refine ⟨fun a w S ρ F hr hf => ?_⟩
  refine wpListIn_plain hg fun K hK => ?_
  refine h.run a w S ρ F hr (fun x hx => (upOk_mem hu x hx).imp id (fun h => hf _ h.1)) K _ ?_
  intro v w' S1 ρ' F' hdone hv
  exact hK _ _ (hk.run _ _ _ _ _ (hr.done hdone hd hv) (fresh_done hr hf hchl hu hdone))
theorem yielded_of {a : Act} {w : World} {S : Foot} {ρ : Env} {F : Nat → Foot} (hr : Rel g st a w S ρ F) {ops : Array Oper} {j d : Nat} {b : Bool} (hj : (ops[j]?).bind (·.dst) = some d) (hd : d < g.n) (hb : lkS st.t d = .one (.d (.sc (.bool b)))) : yielded ops a.tmps j = some b := by
  have h1 := hr.slot d
  rw [hb] at h1
  have h2 : a.tmps[d]? = some (.bool b) := by
    have hlt : d < a.tmps.size := by rw [hr.size]; exact hd
    have h3 := h1.1
    simp only [Array.getD_eq_getD_getElem?,Array.getElem?_eq_getElem hlt,Option.getD_some] at h3
    rw [Array.getElem?_eq_getElem hlt,h3]
  simp [yielded,hj,h2]
def skips (b : Bool) : SV → Bool
  | .one (.d (.sc (.bool b'))) => !(b' == b)
  | .tup [] => true
  | _ => false
theorem unyielded {a : Act} {w : World} {S : Foot} {ρ : Env} {F : Nat → Foot} (hr : Rel g st a w S ρ F) {ops : Array Oper} {j d : Nat} {b : Bool} (hj : (ops[j]?).bind (·.dst) = some d) (hd : d < g.n) (hb : skips b (lkS st.t d) = true) : (yielded ops a.tmps j == some b) = false := by
  have hlt : d < a.tmps.size := by rw [hr.size]; exact hd
  cases hs : lkS st.t d with
  | one c =>
    cases c with
    | d x =>
      cases x with
      | sc v =>
        cases v with
        | bool b' =>
          rw [yielded_of hr hj hd hs]
          rw [hs] at hb
          simp only [skips,Bool.not_eq_true'] at hb
          simpa using hb
        | _ => rw [hs] at hb; simp [skips] at hb
      | _ => rw [hs] at hb; simp [skips] at hb
    | _ => rw [hs] at hb; simp [skips] at hb
  | tup l =>
    cases l with
    | nil =>
      have h1 := hr.slot d
      rw [hs] at h1
      obtain ⟨us,e,h2⟩ := h1
      have h3 : a.tmps[d]? = some (.tuple us) := by
        simp only [Array.getD_eq_getD_getElem?,Array.getElem?_eq_getElem hlt,Option.getD_some] at e
        rw [Array.getElem?_eq_getElem hlt,e]
      simp [yielded,hj,h3]
    | cons x l => rw [hs] at hb; simp [skips] at hb
  | agg l => rw [hs] at hb; simp [skips] at hb
  | any => rw [hs] at hb; simp [skips] at hb
theorem rep_undef {w : World} {S : Foot} {ρ : Env} : RepS w S ρ (.tup []) undef := ⟨#[],rfl,rfl⟩
theorem o_act_yes {ops : Array Oper} {l : List Oper} {o : Oper} {sv : SV} {ch : List Nat} {up : List (Nat × GB)} {n j d : Nat} {b : Bool} (hg : o.guard = some (j,b)) (hj : (ops[j]?).bind (·.dst) = some d) (hdn : d < g.n) (hb : lkS st.t d = .one (.d (.sc (.bool b))))
    (h : Acts P g o st sv ch up) (hd : ∀ d,o.dst = some d → d < g.n) (hchl : ∀ i ∈ ch,lkG st.h i ≠ .dead) (hu : upOk st.n n ch up)
    (hk : GOps P g ops l (st.eff o.dst sv up n) Q) : GOps P g ops (o :: l) st Q := by
  refine ⟨fun a w S ρ F hr hf => ?_⟩
  refine wpListIn_step fun K hK => ?_
  simp only [Region.wanted,hg,yielded_of hr hj hdn hb,beq_self_eq_true,if_true]
  refine h.run a w S ρ F hr (fun x hx => (upOk_mem hu x hx).imp id (fun h => hf _ h.1)) K _ ?_
  intro v w' S1 ρ' F' hdone hv
  exact hK _ _ (hk.run _ _ _ _ _ (hr.done hdone hd hv) (fresh_done hr hf hchl hu hdone))
theorem o_act_no {ops : Array Oper} {l : List Oper} {o : Oper} {j d : Nat} {b : Bool} (hg : o.guard = some (j,b)) (hj : (ops[j]?).bind (·.dst) = some d) (hdn : d < g.n) (hb : skips b (lkS st.t d) = true)
    (hd : ∀ d,o.dst = some d → d < g.n)
    (hk : GOps P g ops l (st.eff o.dst (.tup []) [] st.n) Q) : GOps P g ops (o :: l) st Q := by
  refine ⟨fun a w S ρ F hr hf => ?_⟩
  refine wpListIn_step fun K hK => ?_
  simp only [Region.wanted,hg,unyielded hr hj hdn hb,Bool.false_eq_true,if_false]
  have h1 := hr.done (n := st.n) (Done.nil w S ρ F) (dst := o.dst) (v := undef) (sv := .tup []) hd rep_undef
  exact ⟨fun _ _ => trivial,hK _ _ (hk.run _ _ _ _ _ h1 (fun i hi => hf i hi))⟩
end
end Go.Proofs.YtegpggobfdcafaaGreat
end
section
set_option linter.unusedVariables false
set_option linter.unusedSimpArgs false
namespace Go.Proofs.YtegpggobfdcafaaGreat
open Go Foot
def fieldB (P : Program) (s f off : Nat) : Bool := match P.underlying s with
  | some (.struct fs) => match fs[f]? with
    | some fd => Nat.beq fd.offset off && (match P.info? fd.type with | some i => !Nat.beq i.size 0 | none => false)
    | none => false
  | _ => false
def cellB (P : Program) (t : Nat) : Bool := match P.underlying t with
  | some (.struct _) | some (.array _ _) | none => false
  | some _ => match P.info? t with | some i => Nat.beq i.size 1 | none => false
def aggB (P : Program) (t n : Nat) : Bool := match P.underlying t with
  | some (.struct _) | some (.array _ _) => match P.info? t with | some i => Nat.beq i.size n | none => false
  | _ => false
def sliceB (P : Program) (t sz : Nat) : Bool := match P.underlying t with
  | some (.slice e) => match P.info? e with | some i => Nat.beq i.size sz | none => false
  | _ => false
section
variable {P : Program} {w : World}
theorem addr_add (b o n : Nat) : (⟨b,o,none⟩ : Addr).add n = ⟨b,o + n,none⟩ := by
  unfold Addr.add
  split
  · rename_i h; subst h; rfl
  · rfl
theorem run_fieldAt {s f off b o : Nat} (hT : fieldB P s f off = true) : (Instr.fieldAt s (.pointer (some ⟨b,o,none⟩)) f).run P w = .ok (.pointer (some ⟨b,o + off,none⟩)) w := by
  unfold fieldB at hT
  split at hT
  · rename_i fs hu
    split at hT
    · rename_i fd hf
      simp only [Bool.and_eq_true] at hT
      obtain ⟨h1,h2⟩ := hT
      obtain rfl := Nat.eq_of_beq_eq_true h1
      split at h2
      · rename_i i hi
        have hi0 : i.size ≠ 0 := by intro e; rw [e] at h2; exact absurd h2 (by decide)
        simp [Instr.fieldAt,run_underlying hu,hf,Instr.sureAddr,fieldPlace,sizeOf,typeInfo,hi,hi0,addr_add]
      · cases h2
    · cases hT
  · cases hT
theorem isAgg_cell {t : Nat} (hT : cellB P t = true) (w : World) : (isAgg t).run P w = .ok false w := by
  unfold cellB at hT
  unfold isAgg
  split at hT
  · cases hT
  · cases hT
  · cases hT
  · rename_i d h1 h2 h3 h4
    simp only [Sem.run_bind,run_underlying h4,Result.andThen_ok]
    first | rfl | (split <;> first | rfl | (rename_i h; cases h4; first | exact absurd rfl (h2 _) | exact absurd rfl (h3 _ _)))
theorem isAgg_agg {t n : Nat} (hT : aggB P t n = true) (w : World) : (isAgg t).run P w = .ok true w := by
  unfold aggB at hT
  unfold isAgg
  split at hT
  · rename_i h4
    simp only [Sem.run_bind,run_underlying h4,Result.andThen_ok]
    rfl
  · rename_i h4
    simp only [Sem.run_bind,run_underlying h4,Result.andThen_ok]
    rfl
  · cases hT
theorem sizeOf_agg {t n : Nat} (hT : aggB P t n = true) (w : World) : (sizeOf t).run P w = .ok n w := by
  unfold aggB at hT
  split at hT
  · split at hT
    · rename_i i hi
      have : i.size = n := by simpa using hT
      simp [sizeOf,typeInfo,hi,this]
    · cases hT
  · split at hT
    · rename_i i hi
      have : i.size = n := by simpa using hT
      simp [sizeOf,typeInfo,hi,this]
    · cases hT
  · cases hT
theorem run_loadCells (b : Nat) : ∀ (n i off : Nat) (vs : List Value) (acc : Array Value),lies w b (off + i) vs → vs.length = n → (loadCellsFrom ⟨b,off,none⟩ i n acc).run P w = .ok (acc ++ vs.toArray) w
  | 0,i,off,vs,acc,_,hn => by
    have : vs = [] := by cases vs with | nil => rfl | cons _ _ => simp at hn
    subst this
    simp [loadCellsFrom]
  | n + 1,i,off,vs,acc,hl,hn => by
    cases vs with
    | nil => simp at hn
    | cons v vs =>
      have h0 : w.cell? ⟨b,off + i,none⟩ = some v := by simpa using hl 0 v rfl
      have ih := run_loadCells b n (i + 1) off vs (acc.push v) (by intro j u hu; have := hl (j + 1) u (by simpa using hu); rw [show off + (i + 1) + j = off + i + (j + 1) by omega]; exact this) (by simpa using hn)
      unfold loadCellsFrom
      rw [addr_add]
      simp only [Sem.run_bind,load,Sem.run,h0,Result.andThen_ok,ih]
      congr 1
      simp
theorem run_load_cell {t b off : Nat} {v : Value} (hT : cellB P t = true) (hc : w.cell? ⟨b,off,none⟩ = some v) : (Instr.loadAt t (.pointer (some ⟨b,off,none⟩))).run P w = .ok v w := by
  simp [Instr.loadAt,Instr.sureAddr,loadVar,isAgg_cell hT,hc,go_sem]
theorem run_load_agg {t b off n : Nat} {vs : List Value} (hT : aggB P t n = true) (hl : lies w b off vs) (hn : vs.length = n) : (Instr.loadAt t (.pointer (some ⟨b,off,none⟩))).run P w = .ok (.agg vs.toArray) w := by
  have := run_loadCells (P := P) (w := w) b n 0 off vs #[] (by simpa using hl) hn
  simp [Instr.loadAt,Instr.sureAddr,loadVar,isAgg_agg hT,sizeOf_agg hT,loadCells,this]
theorem run_indexAt {t sz b o n cap : Nat} {k : IntKind} {i : Int} (hT : sliceB P t sz = true) (h0 : 0 ≤ i) (hn : i < n) :
    (Instr.indexAt t (.slice (some ⟨b,o,none⟩) n cap) (.int k i)).run P w = .ok (.pointer (some ⟨b,o + i.toNat * sz,none⟩)) w := by
  unfold sliceB at hT
  split at hT
  · rename_i e hu
    split at hT
    · rename_i inf hi'
      have hs : inf.size = sz := by simpa using hT
      subst hs
      simp [Instr.indexAt,asIntOf,run_underlying hu,h0,hn,sizeOf,typeInfo,hi',addr_add]
    · cases hT
  · cases hT
def binV (op : BinOp) (x y : Value) : Option Value := match x,y with
  | .int k a,.int k' b => match op with
    | .shl => some (.int k (k.wrap (a * 2 ^ min b.toNat k.bits)))
    | .shr => some (.int k (a.fdiv (2 ^ min b.toNat k.bits)))
    | op => if k = k' then (match op with
      | .add => some (.int k (k.wrap (a + b)))
      | .sub => some (.int k (k.wrap (a - b)))
      | .mul => some (.int k (k.wrap (a * b)))
      | .quo => some (.int k (k.wrap (a.tdiv b)))
      | .rem => some (.int k (a.tmod b))
      | .eql => some (.bool (decide (a = b)))
      | .neq => some (.bool (!decide (a = b)))
      | .lss => some (.bool (decide (a < b)))
      | .leq => some (.bool (decide (a ≤ b)))
      | .gtr => some (.bool (decide (b < a)))
      | .geq => some (.bool (decide (b ≤ a)))
      | .and => some (.int k (k.wrap (BitVec.ofInt k.bits a &&& BitVec.ofInt k.bits b).toNat))
      | .or => some (.int k (k.wrap (BitVec.ofInt k.bits a ||| BitVec.ofInt k.bits b).toNat))
      | .xor => some (.int k (k.wrap (BitVec.ofInt k.bits a ^^^ BitVec.ofInt k.bits b).toNat))
      | .andNot => some (.int k (k.wrap (BitVec.ofInt k.bits a &&& ~~~BitVec.ofInt k.bits b).toNat))
      | _ => none) else none
  | .string a,.string b => match op with
    | .add => some (.string (a ++ b))
    | .eql => some (.bool (a.toList == b.toList))
    | .neq => some (.bool (!(a.toList == b.toList)))
    | .lss => some (.bool (Op.bytesLess a.toList b.toList))
    | .leq => some (.bool (Op.bytesLess a.toList b.toList || a.toList == b.toList))
    | .gtr => some (.bool (!(Op.bytesLess a.toList b.toList || a.toList == b.toList)))
    | .geq => some (.bool (!Op.bytesLess a.toList b.toList))
    | _ => none
  | _,_ => none
def binOb (op : BinOp) (x y : Value) : Prop := match op,x,y with
  | .quo,.int _ _,.int _ b => b ≠ 0
  | .rem,.int _ _,.int _ b => b ≠ 0
  | .shl,.int _ _,.int _ b => 0 ≤ b
  | .shr,.int _ _,.int _ b => 0 ≤ b
  | .add,.string a,.string b => a.size + b.size ≤ 9223372036854775807
  | _,_,_ => True
theorem run_bin {op : BinOp} {x y v : Value} (t : TypeId) (h : binV op x y = some v) (ho : binOb op x y) : (binOp op t x y).run P w = .ok v w := by
  cases x with
  | int k a =>
    cases y with
    | int k' b =>
      by_cases hk : k = k'
      · subst hk
        cases op <;> simp only [binV,if_true,Option.some.injEq,reduceCtorEq] at h <;> subst h <;> simp only [binOb] at ho <;> simp [binOp,Op.intArith,Op.intDiv,Op.intBits,Op.intCmp,Op.shift,ho,go_sem] <;> first | rfl | (split <;> first | omega | rfl)
      · cases op <;> simp only [binV,hk,if_false,Option.some.injEq,reduceCtorEq] at h <;> subst h <;> simp only [binOb] at ho <;> simp [binOp,Op.shift,go_sem] <;> exact ho
    | _ => simp [binV] at h
  | string a =>
    cases y with
    | string b =>
      cases op <;> simp only [binV,Option.some.injEq,reduceCtorEq] at h <;> subst h <;> simp only [binOb] at ho <;> simp [binOp,Op.stringOp]
      omega
    | _ => simp [binV] at h
  | _ => simp [binV] at h
theorem run_guard {op : BinOp} {x y v : Value} (t : TypeId) (p q : Operand) (h : binV op x y = some v) : (eqGuard op t p q x y).run P w = .ok () w := by
  unfold eqGuard
  cases x with
  | int k a => cases y <;> first | (cases op <;> simp) | simp [binV] at h
  | string a => cases y <;> first | (cases op <;> simp) | simp [binV] at h
  | _ => simp [binV] at h
def unV (op : UnOp) (x : Value) : Option Value := match op,x with
  | .not,.bool b => some (.bool (!b))
  | .neg,.int k n => some (.int k (k.wrap (0 - n)))
  | _,_ => none
theorem run_un {op : UnOp} {x v : Value} (h : unV op x = some v) : (Op.unary op x).run P w = .ok v w := by
  cases op <;> cases x <;> simp [unV] at h <;> subst h <;> simp [Op.unary,Op.intArith]
end
def cnt (z : Nat) (row : List D) : Nat := row.length / z
def elem (z : Nat) (row : List D) (i : Nat) : List D := (row.drop (i * z)).take z
def shv (st : St) : C → Option (Nat × List D)
  | .d (.sl false z xs) => some (z,xs)
  | .gv g => match lkG st.h g with
    | .sh z xs => some (z,xs)
    | _ => none
  | _ => none
def slv (st : St) : C → Option (Nat × List D)
  | .d (.sl _ z xs) => some (z,xs)
  | .gv g => match lkG st.h g with
    | .sh z xs => some (z,xs)
    | .row z xs => some (z,xs)
    | _ => none
  | _ => none
def tgt (st : St) : C → Option (Nat × Nat)
  | .gp g o => some (g,o)
  | .gv g => match lkG st.h g with
    | .bx _ => some (g,0)
    | _ => none
  | _ => none
section
variable {P : Program} {g : Gh} {o : Oper} {st : St} {sv : SV} {a : Act} {w : World} {S : Foot} {ρ : Env} {F : Nat → Foot}
theorem Rel.shv (h : Rel g st a w S ρ F) {c : C} {v : Value} {z : Nat} {xs : List D} (hc : RepC w S ρ c v) (hs : shv st c = some (z,xs)) : Rep w S (.sl false z xs) v no := by
  unfold Go.Proofs.YtegpggobfdcafaaGreat.shv at hs
  split at hs
  · simp only [Option.some.injEq,Prod.mk.injEq] at hs
    obtain ⟨rfl,rfl⟩ := hs
    exact hc
  · rename_i i
    split at hs
    · rename_i z' xs' hk
      simp only [Option.some.injEq,Prod.mk.injEq] at hs
      obtain ⟨rfl,rfl⟩ := hs
      rcases h.root i with h0 | ⟨u,h1,h2⟩
      · rw [hk] at h0; cases h0
      · rw [hk] at h2
        rw [hc.1] at h1
        cases h1
        exact h2
    · cases hs
  · cases hs
theorem Rel.slv (h : Rel g st a w S ρ F) {c : C} {v : Value} {z : Nat} {xs : List D} (hc : RepC w S ρ c v) (hs : slv st c = some (z,xs)) : ∃ ow G,Rep w S (.sl ow z xs) v G := by
  unfold Go.Proofs.YtegpggobfdcafaaGreat.slv at hs
  split at hs
  · rename_i ow z' xs'
    simp only [Option.some.injEq,Prod.mk.injEq] at hs
    obtain ⟨rfl,rfl⟩ := hs
    exact ⟨ow,no,hc⟩
  · rename_i i
    split at hs
    · rename_i z' xs' hk
      simp only [Option.some.injEq,Prod.mk.injEq] at hs
      obtain ⟨rfl,rfl⟩ := hs
      rcases h.root i with h0 | ⟨u,h1,h2⟩
      · rw [hk] at h0; cases h0
      · rw [hk] at h2
        rw [hc.1] at h1
        cases h1
        exact ⟨false,no,h2⟩
    · rename_i z' xs' hk
      simp only [Option.some.injEq,Prod.mk.injEq] at hs
      obtain ⟨rfl,rfl⟩ := hs
      rcases h.root i with h0 | ⟨u,h1,h2⟩
      · rw [hk] at h0; cases h0
      · rw [hk] at h2
        rw [hc.1] at h1
        cases h1
        exact ⟨true,F i,h2⟩
    · cases hs
  · cases hs
theorem sl_len {ow : Bool} {z : Nat} {xs : List D} {v : Value} {G : Foot} (h : Rep w S (.sl ow z xs) v G) : ∃ ad len cap,v = .slice ad len cap ∧ xs.length = len * z ∧ 0 < z ∧ len ≤ cap ∧ cnt z xs = len := by
  simp only [Rep] at h
  obtain ⟨ad,len,cap,rfl,h1,h2,h3,_⟩ := h
  exact ⟨ad,len,cap,rfl,h1,h2,h3,by unfold cnt; rw [h1]; exact Nat.mul_div_cancel _ h2⟩
theorem Rel.tgt_bx (h : Rel g st a w S ρ F) {c : C} {v : Value} {i k : Nat} {cs : List C} (hc : RepC w S ρ c v) (ht : tgt st c = some (i,k)) (hg : lkG st.h i = .bx cs) :
    ∃ b off vs,v = .pointer (some ⟨b,off + k,none⟩) ∧ ρ i = some (.pointer (some ⟨b,off,none⟩)) ∧ lies w b off vs ∧ RepCs w S ρ cs vs ∧ le (rng b off cs.length) (F i) ∧ free w b off cs.length := by
  rcases h.root i with h0 | ⟨u,h1,h2⟩
  · rw [hg] at h0; cases h0
  rw [hg] at h2
  simp only [RepG] at h2
  obtain ⟨b,off,vs,rfl,e1,e2,e3,e4⟩ := h2
  unfold Go.Proofs.YtegpggobfdcafaaGreat.tgt at ht
  split at ht
  · simp only [Option.some.injEq,Prod.mk.injEq] at ht
    obtain ⟨rfl,rfl⟩ := ht
    simp only [RepC] at hc
    obtain ⟨u,b',off',f1,f2,rfl⟩ := hc
    rw [h1] at f1
    cases f1
    simp only [base,Option.some.injEq,Prod.mk.injEq] at f2
    obtain ⟨rfl,rfl⟩ := f2
    exact ⟨b,off,vs,rfl,h1,e1,e2,e3,e4⟩
  · split at ht
    · simp only [Option.some.injEq,Prod.mk.injEq] at ht
      obtain ⟨rfl,rfl⟩ := ht
      have := hc.1
      rw [h1] at this
      cases this
      exact ⟨b,off,vs,rfl,h1,e1,e2,e3,e4⟩
    · cases ht
  · cases ht
theorem Rel.tgt_row (h : Rel g st a w S ρ F) {c : C} {v : Value} {i k z : Nat} {xs : List D} (hc : RepC w S ρ c v) (ht : tgt st c = some (i,k)) (hg : lkG st.h i = .row z xs) (hk : k < xs.length) :
    ∃ b off vs G len cap,v = .pointer (some ⟨b,off + k,none⟩) ∧ ρ i = some (.slice (some ⟨b,off,none⟩) len cap) ∧ xs.length = len * z ∧ 0 < z ∧ len ≤ cap ∧ lies w b off vs ∧ Reps w S xs vs G ∧ le (rng b off (cap * z)) (F i) ∧ le G (F i) ∧ Foot.dis (rng b off (cap * z)) G ∧ free w b off (cap * z) := by
  rcases h.root i with h0 | ⟨u,h1,h2⟩
  · rw [hg] at h0; cases h0
  rw [hg] at h2
  simp only [RepG,Rep,if_true] at h2
  obtain ⟨ad,len,cap,rfl,e1,e2,e3,e4⟩ := h2
  rcases e4 with ⟨rfl,_⟩ | ⟨b,off,vs,G,rfl,f1,f2,f3,f4,f5,f6⟩
  · have : len = 0 := by omega
    subst this
    simp at e1
    subst e1
    simp at hk
  unfold Go.Proofs.YtegpggobfdcafaaGreat.tgt at ht
  split at ht
  · simp only [Option.some.injEq,Prod.mk.injEq] at ht
    obtain ⟨rfl,rfl⟩ := ht
    simp only [RepC] at hc
    obtain ⟨u,b',off',k1,k2,rfl⟩ := hc
    rw [h1] at k1
    cases k1
    simp only [base,Option.some.injEq,Prod.mk.injEq] at k2
    obtain ⟨rfl,rfl⟩ := k2
    exact ⟨b,off,vs,G,len,cap,rfl,h1,e1,e2,e3,f1,f2,f3,f4,f5,f6⟩
  · split at ht
    · rename_i hk'
      simp only [Option.some.injEq,Prod.mk.injEq] at ht
      obtain ⟨rfl,rfl⟩ := ht
      rw [hg] at hk'
      cases hk'
    · cases ht
  · cases ht
theorem opd_sc (h : Rel g st a w S ρ F) {x : Operand} {v : Value} (hv : opd st x = .one (.d (.sc v))) : a.eval x = v := by
  have := h.opd x
  rw [hv] at this
  exact this.1
theorem opd_one (h : Rel g st a w S ρ F) {x : Operand} {c : C} (hv : opd st x = .one c) : RepC w S ρ c (a.eval x) := by
  have := h.opd x
  rw [hv] at this
  exact this
section
variable {dst : Option Tmp} {ty : TypeId} {pos : String} {after : Array Edge} {guard : Option (Nat × Bool)} {x y z : Operand}
theorem a_move (hv : opd st x = sv) : Acts P g ⟨dst,.move x,ty,pos,after,guard⟩ st sv [] [] := acts_of fun a w S ρ F h => ⟨_,rfl,hv ▸ h.opd x⟩
theorem a_assign (hv : opd st x = sv) : Acts P g ⟨dst,.assign x,ty,pos,after,guard⟩ st sv [] [] := acts_of fun a w S ρ F h => ⟨_,rfl,hv ▸ h.opd x⟩
theorem a_pick {b : Bool} (hb : opd st x = .one (.d (.sc (.bool b)))) (hv : (bif b then opd st y else opd st z) = sv) : Acts P g ⟨dst,.pick x y z,ty,pos,after,guard⟩ st sv [] [] := by
  refine acts_of fun a w S ρ F h => ⟨bif b then a.eval y else a.eval z,?_,?_⟩
  · have e := opd_sc h hb
    show (do pure (.value (if ← asBool (a.eval x) then a.eval y else a.eval z)) : Sem Next).run P w = _
    rw [e]
    cases b <;> simp [asBool]
  · subst hv
    cases b
    · exact h.opd z
    · exact h.opd y
theorem a_bin {op : BinOp} {T U : TypeId} {v1 v2 v : Value} (e1 : opd st x = .one (.d (.sc v1))) (e2 : opd st y = .one (.d (.sc v2))) (hv : binV op v1 v2 = some v) (ho : binOb op v1 v2) :
    Acts P g ⟨dst,.binOp op T x y U,ty,pos,after,guard⟩ st (.one (.d (.sc v))) [] [] := by
  refine acts_of fun a w S ρ F h => ⟨v,?_,⟨rfl,?_⟩⟩
  · show (do pure (.value (← (do eqGuard op T x y (a.eval x) (a.eval y); binOp op T (a.eval x) (a.eval y)))) : Sem Next).run P w = _
    rw [opd_sc h e1,opd_sc h e2]
    simp [run_guard T x y hv,run_bin T hv ho]
  · cases v1 <;> cases v2 <;> simp only [binV,reduceCtorEq] at hv
    · cases op <;> simp only [Option.some.injEq,reduceCtorEq] at hv <;> (try split at hv) <;> first | (simp at hv; done) | (simp at hv; subst hv; rfl) | (subst hv; rfl)
    · cases op <;> simp only [Option.some.injEq,reduceCtorEq] at hv <;> subst hv <;> rfl
theorem a_un {op : UnOp} {T : TypeId} {v1 v : Value} (e1 : opd st x = .one (.d (.sc v1))) (hv : unV op v1 = some v) : Acts P g ⟨dst,.unOp op T x,ty,pos,after,guard⟩ st (.one (.d (.sc v))) [] [] := by
  refine acts_of fun a w S ρ F h => ⟨v,?_,⟨rfl,?_⟩⟩
  · show (do pure (.value (← Op.unary op (a.eval x))) : Sem Next).run P w = _
    rw [opd_sc h e1]
    simp [run_un hv]
  · cases op <;> cases v1 <;> simp [unV] at hv <;> subst hv <;> rfl
def intT (P : Program) (T : Nat) (k : IntKind) : Prop := P.underlying T = some (.int k)
theorem a_conv {T U : TypeId} {k k' : IntKind} {n : Int} (e1 : opd st x = .one (.d (.sc (.int k' n)))) (hT : (P.underlying T).isSome = true) (hU : intT P U k) : Acts P g ⟨dst,.convert T U x,ty,pos,after,guard⟩ st (.one (.d (.sc (.int k (k.wrap n))))) [] [] := by
  refine acts_of fun a w S ρ F h => ⟨.int k (k.wrap n),?_,⟨rfl,rfl⟩⟩
  show (do pure (.value (← convert T U (a.eval x))) : Sem Next).run P w = _
  rw [opd_sc h e1]
  cases hu : P.underlying T with
  | none => rw [hu] at hT; cases hT
  | some dd => simp [convert,run_underlying hu,run_underlying hU,Conv.intToInt]
def isPtr (st : St) : C → Bool
  | .d (.bx _ _) => true
  | .gp _ _ => true
  | .gv g => match lkG st.h g with
    | .bx _ => true
    | _ => false
  | _ => false
theorem Rel.ptr (h : Rel g st a w S ρ F) {c : C} {v : Value} (hr : RepC w S ρ c v) (hp : isPtr st c = true) : ∃ ad,v = .pointer (some ad) := by
  unfold isPtr at hp
  split at hp
  · simp only [RepC,Rep] at hr
    obtain ⟨b,off,vs,G,rfl,_⟩ := hr
    exact ⟨_,rfl⟩
  · simp only [RepC] at hr
    obtain ⟨u,b,off,_,_,rfl⟩ := hr
    exact ⟨_,rfl⟩
  · rename_i i
    split at hp
    · rename_i cs hk
      rcases h.root i with h0 | ⟨u,h1,h2⟩
      · rw [hk] at h0; cases h0
      · rw [hk] at h2
        simp only [RepG] at h2
        obtain ⟨b,off,vs,rfl,_⟩ := h2
        have := hr.1
        rw [h1] at this
        cases this
        exact ⟨_,rfl⟩
    · cases hp
  · cases hp
theorem a_nil {c : C} (hc : opd st x = .one c) (hp : isPtr st c = true) : Acts P g ⟨dst,.nilCheck x,ty,pos,after,guard⟩ st (.one c) [] [] := by
  refine acts_of fun a w S ρ F h => ?_
  have h1 := opd_one h hc
  obtain ⟨ad,he⟩ := h.ptr h1 hp
  refine ⟨a.eval x,?_,h1⟩
  rw [he]
  simp [execOp,he]
theorem a_fa_imm {T f off : Nat} {row row' : List D} (hc : opd st x = .one (.d (.bx false row))) (hT : fieldB P T f off = true) (hr : row.drop off = row') : Acts P g ⟨dst,.fieldAddr T x f,ty,pos,after,guard⟩ st (.one (.d (.bx false row'))) [] [] := by
  subst hr
  refine acts_of fun a w S ρ F h => ?_
  have h1 := opd_one h hc
  simp only [RepS,RepC,Rep,Bool.false_eq_true,if_false] at h1 ⊢
  obtain ⟨b,of0,vs,G,he,hl,hrs,hle,rfl⟩ := h1
  refine ⟨.pointer (some ⟨b,of0 + off,none⟩),?_,⟨b,of0 + off,vs.drop off,no,rfl,hl.drop off,hrs.drop off,?_,rfl⟩⟩
  · show (do pure (.value (← Instr.fieldAt T (a.eval x) f)) : Sem Next).run P w = _
    rw [he]
    simp [run_fieldAt hT]
  · rintro b' o' ⟨rfl,h1,h2⟩
    simp only [List.length_drop] at h2
    exact hle _ _ ⟨rfl,by omega,by omega⟩
theorem a_fa_gp {T f off i k k' : Nat} (hc : opd st x = .one (.gp i k)) (hT : fieldB P T f off = true) (hk : k + off = k') : Acts P g ⟨dst,.fieldAddr T x f,ty,pos,after,guard⟩ st (.one (.gp i k')) [] [] := by
  subst hk
  refine acts_of fun a w S ρ F h => ?_
  have h1 := opd_one h hc
  simp only [RepC] at h1
  obtain ⟨u,b,of0,e1,e2,e3⟩ := h1
  refine ⟨.pointer (some ⟨b,of0 + k + off,none⟩),?_,⟨u,b,of0,e1,e2,by rw [Nat.add_assoc]⟩⟩
  show (do pure (.value (← Instr.fieldAt T (a.eval x) f)) : Sem Next).run P w = _
  rw [e3]
  simp [run_fieldAt hT]
theorem a_fa_gv {T f off i : Nat} {cs : List C} (hc : opd st x = .one (.gv i)) (hg : lkG st.h i = .bx cs) (hT : fieldB P T f off = true) : Acts P g ⟨dst,.fieldAddr T x f,ty,pos,after,guard⟩ st (.one (.gp i off)) [] [] := by
  refine acts_of fun a w S ρ F h => ?_
  have h1 := opd_one h hc
  obtain ⟨b,of0,vs,e1,e2,_⟩ := h.tgt_bx (k := 0) h1 (by simp [tgt,hg]) hg
  refine ⟨.pointer (some ⟨b,of0 + off,none⟩),?_,⟨_,b,of0,e2,rfl,rfl⟩⟩
  show (do pure (.value (← Instr.fieldAt T (a.eval x) f)) : Sem Next).run P w = _
  rw [e1]
  simp [run_fieldAt hT]
theorem a_ia_imm {T zz : Nat} {c : C} {row es : List D} {k : IntKind} {i : Int} (hc : opd st x = .one c) (hs : shv st c = some (zz,row)) (hi : opd st y = .one (.d (.sc (.int k i)))) (hT : sliceB P T zz = true) (h0 : 0 ≤ i) (hn : i < cnt zz row) (he : elem zz row i.toNat = es) :
    Acts P g ⟨dst,.indexAddr T x y,ty,pos,after,guard⟩ st (.one (.d (.bx false es))) [] [] := by
  subst he
  refine acts_of fun a w S ρ F h => ?_
  have h1 := h.shv (opd_one h hc) hs
  obtain ⟨_,_,_,hv,hlr,hz,_,hcn⟩ := sl_len h1
  simp only [RepS,RepC,Rep,Bool.false_eq_true,if_false] at h1 ⊢
  obtain ⟨ad,len,cap,he,hlr',hz',hlc,h2⟩ := h1
  rw [hv] at he
  simp only [Value.slice.injEq] at he
  obtain ⟨rfl,rfl,rfl⟩ := he
  have hlt : i.toNat < cnt zz row := by omega
  rw [hcn] at hlt hn
  rcases h2 with ⟨rfl,_⟩ | ⟨b,of0,vs,G,rfl,hl,hrs,hle,rfl⟩
  · omega
  have hmul : i.toNat * zz + zz ≤ row.length := by
    rw [hlr]
    have := Nat.mul_le_mul_right zz (Nat.succ_le_of_lt hlt)
    rw [Nat.succ_mul] at this
    exact this
  refine ⟨.pointer (some ⟨b,of0 + i.toNat * zz,none⟩),?_,⟨b,of0 + i.toNat * zz,(vs.drop (i.toNat * zz)).take zz,no,rfl,(hl.drop _).take _,(hrs.drop _).take _,?_,rfl⟩⟩
  · show (do pure (.value (← Instr.indexAt T (a.eval x) (a.eval y))) : Sem Next).run P w = _
    rw [opd_sc h hi,hv]
    simp [run_indexAt hT h0 hn]
  · rintro b' o' ⟨rfl,h1,h2⟩
    simp only [elem,List.length_take,List.length_drop] at h2
    exact hle _ _ ⟨rfl,by omega,by omega⟩
theorem a_ia_own {T zz j kk : Nat} {row : List D} {k : IntKind} {i : Int} (hc : opd st x = .one (.gv j)) (hg : lkG st.h j = .row zz row) (hi : opd st y = .one (.d (.sc (.int k i)))) (hT : sliceB P T zz = true)
    (h0 : 0 ≤ i) (hn : i < cnt zz row) (hk : i.toNat * zz = kk) : Acts P g ⟨dst,.indexAddr T x y,ty,pos,after,guard⟩ st (.one (.gp j kk)) [] [] := by
  subst hk
  refine acts_of fun a w S ρ F h => ?_
  have h1 := opd_one h hc
  rcases h.root j with h0 | ⟨u,e1,e2⟩
  · rw [hg] at h0; cases h0
  rw [hg] at e2
  obtain ⟨ad,len,cap,hv,hlr,hz,hlc,hcn⟩ := sl_len (show Rep w S (.sl true zz row) u (F j) from e2)
  have h1' := h1.1
  rw [e1] at h1'
  cases h1'
  simp only [RepG,Rep,if_true] at e2
  obtain ⟨ad',len',cap',he,_,_,_,h2⟩ := e2
  rw [hv] at he
  simp only [Value.slice.injEq] at he
  obtain ⟨rfl,rfl,rfl⟩ := he
  have hlt : i.toNat < cnt zz row := by omega
  rw [hcn] at hlt hn
  rcases h2 with ⟨rfl,_⟩ | ⟨b,of0,vs,G,rfl,hl,hrs,_⟩
  · omega
  refine ⟨.pointer (some ⟨b,of0 + i.toNat * zz,none⟩),?_,⟨_,b,of0,e1,by rw [hv]; rfl,rfl⟩⟩
  show (do pure (.value (← Instr.indexAt T (a.eval x) (a.eval y))) : Sem Next).run P w = _
  rw [opd_sc h hi,hv]
  simp [run_indexAt hT h0 hn]
theorem a_len {T zz zz' : Nat} {c : C} {row : List D} {n : Int} (hc : opd st x = .one c) (hs : slv st c = some (zz,row)) (hT : sliceB P T zz' = true) (hn : ((cnt zz row : Nat) : Int) = n) :
    Acts P g ⟨dst,.call { callee := .builtin .len,args := #[x],argTypes := #[T] },ty,pos,after,guard⟩ st (.one (.d (.sc (.int .i64 n)))) [] [] := by
  subst hn
  refine acts_of fun a w S ρ F h => ?_
  obtain ⟨ow,G,h1⟩ := h.slv (opd_one h hc) hs
  obtain ⟨ad,len,cap,hv,hlr,hz,_,hcn⟩ := sl_len h1
  refine ⟨.int .i64 (cnt zz row),?_,⟨rfl,rfl⟩⟩
  unfold sliceB at hT
  split at hT
  · rename_i e hu
    rw [hcn]
    simp [execOp,resolve,invoke,builtin,hv,Builtin.len_,goInt,run_underlying hu]
  · cases hT
theorem a_len_nil {T zz' : Nat} (hc : opd st x = .one (.d (.sc (.slice none 0 0)))) (hT : sliceB P T zz' = true) :
    Acts P g ⟨dst,.call { callee := .builtin .len,args := #[x],argTypes := #[T] },ty,pos,after,guard⟩ st (.one (.d (.sc (.int .i64 0)))) [] [] := by
  refine acts_of fun a w S ρ F h => ?_
  refine ⟨.int .i64 0,?_,⟨rfl,rfl⟩⟩
  unfold sliceB at hT
  split at hT
  · rename_i e hu
    simp [execOp,resolve,invoke,builtin,opd_sc h hc,Builtin.len_,goInt,run_underlying hu]
  · cases hT
theorem a_len_str {T : Nat} {s : ByteArray} (hc : opd st x = .one (.d (.sc (.string s)))) (hT : P.underlying T = some .string) :
    Acts P g ⟨dst,.call { callee := .builtin .len,args := #[x],argTypes := #[T] },ty,pos,after,guard⟩ st (.one (.d (.sc (.int .i64 s.size)))) [] [] := by
  refine acts_of fun a w S ρ F h => ?_
  refine ⟨.int .i64 s.size,?_,⟨rfl,rfl⟩⟩
  simp [execOp,resolve,invoke,builtin,opd_sc h hc,Builtin.len_,goInt,run_underlying hT]
theorem run_ld {a : Act} {w : World} {T : Nat} {v : Value} (h : (Instr.loadAt T (a.eval x)).run P w = .ok v w) : (execOp a.eval ⟨dst,.load T x,ty,pos,after,guard⟩).run P w = .ok (.value v) w := by
  show (do pure (.value (← Instr.loadAt T (a.eval x))) : Sem Next).run P w = _
  simp [h]
theorem a_ld_imm {T : Nat} {row : List D} {c : D} (hc : opd st x = .one (.d (.bx false row))) (hT : cellB P T = true) (hr : row[0]? = some c) : Acts P g ⟨dst,.load T x,ty,pos,after,guard⟩ st (.one (.d c)) [] [] := by
  refine acts_of fun a w S ρ F h => ?_
  have h1 := opd_one h hc
  simp only [RepC,Rep,Bool.false_eq_true,if_false] at h1
  obtain ⟨b,of0,vs,G,he,hl,hrs,hle,rfl⟩ := h1
  obtain ⟨v,hv,hv'⟩ := hrs.nthNo hr
  refine ⟨v,run_ld ?_,hv'⟩
  rw [he]
  exact run_load_cell hT (by simpa using hl 0 v hv)
theorem a_lds_imm {T n : Nat} {row : List D} {cs : List C} (hc : opd st x = .one (.d (.bx false row))) (hT : aggB P T n = true) (hr : n ≤ row.length) (he : (row.take n).map C.d = cs) : Acts P g ⟨dst,.load T x,ty,pos,after,guard⟩ st (.agg cs) [] [] := by
  subst he
  refine acts_of fun a w S ρ F h => ?_
  have h1 := opd_one h hc
  simp only [RepC,Rep,Bool.false_eq_true,if_false] at h1
  obtain ⟨b,of0,vs,G,he,hl,hrs,hle,rfl⟩ := h1
  have hlen := hrs.length
  refine ⟨.agg (vs.take n).toArray,run_ld ?_,⟨_,rfl,by simpa using repCs_d (hrs.take n)⟩⟩
  rw [he]
  exact run_load_agg hT (hl.take n) (by simp; omega)
theorem a_ld_bx {T i k : Nat} {c0 c : C} {cs : List C} (hc : opd st x = .one c0) (ht : tgt st c0 = some (i,k)) (hg : lkG st.h i = .bx cs) (hT : cellB P T = true) (hr : cs[k]? = some c) : Acts P g ⟨dst,.load T x,ty,pos,after,guard⟩ st (.one c) [] [] := by
  refine acts_of fun a w S ρ F h => ?_
  obtain ⟨b,off,vs,e1,e2,e3,e4,e5,e6⟩ := h.tgt_bx (opd_one h hc) ht hg
  obtain ⟨v,hv,hv'⟩ := e4.nth hr
  refine ⟨v,run_ld ?_,hv'⟩
  rw [e1]
  exact run_load_cell hT (e3 k v hv)
theorem a_lds_bx {T i k n : Nat} {c0 : C} {cs cs' : List C} (hc : opd st x = .one c0) (ht : tgt st c0 = some (i,k)) (hg : lkG st.h i = .bx cs) (hT : aggB P T n = true) (hr : k + n ≤ cs.length) (he : (cs.drop k).take n = cs') : Acts P g ⟨dst,.load T x,ty,pos,after,guard⟩ st (.agg cs') [] [] := by
  subst he
  refine acts_of fun a w S ρ F h => ?_
  obtain ⟨b,off,vs,e1,e2,e3,e4,e5,e6⟩ := h.tgt_bx (opd_one h hc) ht hg
  have hlen := e4.length
  refine ⟨.agg ((vs.drop k).take n).toArray,run_ld ?_,⟨_,rfl,by simpa using (e4.drop k).take n⟩⟩
  rw [e1]
  exact run_load_agg hT ((e3.drop k).take n) (by simp; omega)
theorem a_ld_row {T i k zz : Nat} {c0 : C} {c : D} {xs : List D} (hc : opd st x = .one c0) (ht : tgt st c0 = some (i,k)) (hg : lkG st.h i = .row zz xs) (hT : cellB P T = true) (hr : xs[k]? = some c) (hno : c.noOwn) : Acts P g ⟨dst,.load T x,ty,pos,after,guard⟩ st (.one (.d c)) [] [] := by
  refine acts_of fun a w S ρ F h => ?_
  have hk : k < xs.length := (List.getElem?_eq_some_iff.1 hr).1
  obtain ⟨b,off,vs,G,len,cap,e1,e2,e3,e4,e5,e6,e7,e8⟩ := h.tgt_row (opd_one h hc) ht hg hk
  obtain ⟨v,F1,hv,hle,hv'⟩ := e7.nth hr
  refine ⟨v,run_ld ?_,hv'.noOwn hno⟩
  rw [e1]
  exact run_load_cell hT (e6 k v hv)
theorem a_extract {l : List (Bool × List C)} {k : Nat} {ag : Bool} {cs : List C} (hc : opd st x = .tup l) (hk : l[k]? = some (ag,cs)) (hv : (match ag,cs with | true,cs => SV.agg cs | false,[c] => .one c | _,_ => .any) = sv) :
    Acts P g ⟨dst,.extract x k,ty,pos,after,guard⟩ st sv [] [] := by
  refine acts_of fun a w S ρ F h => ?_
  have h1 := h.opd x
  rw [hc] at h1
  obtain ⟨us,he,h1⟩ := h1
  obtain ⟨u,hu,hr⟩ := h1.nth hk
  have hu' : us[k]? = some u := by simpa using hu
  refine ⟨u,?_,?_⟩
  · show (do pure (.value (← Instr.extract (a.eval x) k)) : Sem Next).run P w = _
    rw [he]
    simp [Instr.extract,hu']
  · subst hv
    cases ag with
    | true =>
      simp only [RepU,if_true] at hr
      exact hr
    | false =>
      simp only [RepU,Bool.false_eq_true,if_false] at hr
      match cs,hr with
      | [],hr => trivial
      | [c],hr =>
        simp only [RepCs] at hr
        obtain ⟨v,us',e,h2,h3⟩ := hr
        simp only [List.cons.injEq] at e
        obtain ⟨rfl,_⟩ := e
        exact h2
      | _ :: _ :: _,hr => trivial
end
end
end Go.Proofs.YtegpggobfdcafaaGreat
end
