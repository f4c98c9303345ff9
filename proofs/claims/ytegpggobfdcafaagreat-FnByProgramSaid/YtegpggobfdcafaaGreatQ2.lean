/- Parts of the proof (2 of 19). -/
import Derived.Below
import Derived.Lib.FrozenHead
import Derived.Lib.UnsafeStr
import Derived.Test.YtegpggobfdcafaaGreatQ1
section
set_option linter.unusedVariables false
set_option linter.unusedSimpArgs false
namespace Go.Proofs.YtegpggobfdcafaaGreat
open Go Foot
inductive C where
  | d (x : D)
  | gv (g : Nat)
  | gp (g : Nat) (o : Nat)
  | gs (g z lo hi : Nat)
  | ifc (t : Nat) (ag : Bool) (cs : List C)
  | fn (f : Fn) (cs : List C)
inductive SV where
  | one (c : C)
  | agg (cs : List C)
  | tup (vs : List (Bool × List C))
  | any
structure Opq where
  p : World → Foot → List Value → Foot → Prop
  keep : ∀ {w w' : World} {S S' F F' : Foot} {us : List Value},p w S us F → Agree w w' F → Agree w w' S → le S S' → le F F' → p w' S' us F'
inductive GB where
  | dead
  | bx (cs : List C)
  | row (z : Nat) (xs : List D)
  | sh (z : Nat) (xs : List D)
  | mp (kv : List (Value × Value))
  | isv (v : Value)
  | it (b : Nat) (kv todo : List (Value × Value)) (cur : Option (Value × Value))
  | opq (R : Opq) (cs : List Nat)
  | bld (T e : Nat) (l : List UInt8)
  | lp (l : Nat) (r : Loop)
abbrev Env := Nat → Option Value
def Env.le (ρ ρ' : Env) : Prop := ∀ i u,ρ i = some u → ρ' i = some u
theorem Env.le.refl (ρ : Env) : Env.le ρ ρ := fun _ _ h => h
theorem Env.le.trans {a b c : Env} (h : Env.le a b) (h' : Env.le b c) : Env.le a c := fun i u x => h' i u (h i u x)
theorem envs_le {ρ ρ' : Env} (h : Env.le ρ ρ') : ∀ {cs : List Nat} {us : List Value},cs.map ρ = us.map some → cs.map ρ' = us.map some
  | [],[],_ => rfl
  | [],_ :: _,e => by cases e
  | _ :: _,[],e => by cases e
  | c :: cs,u :: us,e => by
    simp only [List.map_cons,List.cons.injEq] at e ⊢
    exact ⟨h c u e.1,envs_le h e.2⟩
mutual
def RepC (w : World) (S : Foot) (ρ : Env) : C → Value → Prop
  | .d x,v => Rep w S x v no
  | .gv g,v => ρ g = some v ∧ v.oneCell' = true
  | .gp g o,v => ∃ u b off,ρ g = some u ∧ base u = some (b,off) ∧ v = .pointer (some ⟨b,off + o,none⟩)
  | .gs g z lo hi,v => ∃ ad len cap,ρ g = some (.slice ad len cap) ∧ lo ≤ hi ∧ hi ≤ cap ∧ v = .slice (if cap = lo then ad else ad.map (·.add (lo * z))) (hi - lo) (cap - lo)
  | .ifc t ag cs,v => ∃ u,v = .iface t u ∧ (if ag then ∃ vs,u = .agg vs ∧ RepCs w S ρ cs vs.toList else RepCs w S ρ cs [u])
  | .fn f cs,v => ∃ vs,v = .func f #[] vs ∧ RepCs w S ρ cs vs.toList
def RepCs (w : World) (S : Foot) (ρ : Env) : List C → List Value → Prop
  | [],vs => vs = []
  | c :: cs,vs => ∃ v us,vs = v :: us ∧ RepC w S ρ c v ∧ RepCs w S ρ cs us
end
def RepU (w : World) (S : Foot) (ρ : Env) (ag : Bool) (cs : List C) (u : Value) : Prop :=
  if ag then ∃ vs,u = .agg vs ∧ RepCs w S ρ cs vs.toList else RepCs w S ρ cs [u]
def RepT (w : World) (S : Foot) (ρ : Env) : List (Bool × List C) → List Value → Prop
  | [],us => us = []
  | (ag,cs) :: l,us => ∃ u vs,us = u :: vs ∧ RepU w S ρ ag cs u ∧ RepT w S ρ l vs
def RepS (w : World) (S : Foot) (ρ : Env) : SV → Value → Prop
  | .one c,v => RepC w S ρ c v
  | .agg cs,v => ∃ vs,v = .agg vs ∧ RepCs w S ρ cs vs.toList
  | .tup l,v => ∃ us,v = .tuple us ∧ RepT w S ρ l us.toList
  | .any,_ => True
def BldAt (w : World) (T e : Nat) (l : List UInt8) (b : Nat) (F : Foot) : Prop :=
  ∃ p v,(p = .pointer none ∨ p = .pointer (some ⟨b,0,none⟩)) ∧ w.heap[b]? = some (.cells #[p,v] T (0,0)) ∧ w.ownsRowF 0 e 1 v l.length (Lib.byteCells l) ∧ v.ownBlock ≠ some b ∧ (∀ o,F b o) ∧ ∀ g,v.ownBlock = some g → ∀ o,F g o
def RepG (w : World) (S : Foot) (ρ : Env) : GB → Value → Foot → Prop
  | .dead,_,_ => True
  | .bx cs,v,F => ∃ b off vs,v = .pointer (some ⟨b,off,none⟩) ∧ lies w b off vs ∧ RepCs w S ρ cs vs ∧ le (rng b off cs.length) F ∧ free w b off cs.length
  | .row z xs,v,F => Rep w S (.sl true z xs) v F
  | .sh z xs,v,_ => Rep w S (.sl false z xs) v no
  | .mp kv,v,F => ∃ b es c,v = .map (some b) ∧ mapAt w b = some (.map es c) ∧ es.toList.map (fun e => (e.key,e.val)) = kv ∧ stamps es c ∧ ∀ o,F b o
  | .isv v0,v,_ => v = v0
  | .it b kv todo cur,v,F => ∃ r es c since seen c0,v = .pointer (some ⟨r,0,none⟩) ∧ r ≠ b ∧ mapAt w b = some (.map es c) ∧ es.toList.map (fun e => (e.key,e.val)) = kv ∧ stamps es c ∧
      mapAt w r = some (.mapIter (some b) since seen c0) ∧ (∀ x ∈ es.toList,x.born < since) ∧ since ≤ c0 ∧ since ≤ c ∧ (es.toList.filter fun e => !seen.contains e.born).map (fun e => (e.key,e.val)) = todo ∧
      (∀ p,cur = some p → c0 = c ∧ ∃ e sn,e ∈ es.toList ∧ seen = Array.push sn e.born ∧ (e.key,e.val) = p) ∧ ∀ o,F b o ∧ F r o
  | .opq R cs,_,F => ∃ us,cs.map ρ = us.map some ∧ R.p w S us F
  | .bld T e l,v,F => ∃ b,v = .pointer (some ⟨b,0,none⟩) ∧ BldAt w T e l b F
  | .lp l r,_,F => mapAt w l = some (.loop r) ∧ ∀ o,F l o
section
variable {w w' : World} {S S' F F' : Foot} {ρ ρ' : Env}
theorem RepC.one {c : C} {v : Value} (h : RepC w S ρ c v) : v.oneCell' = true := by
  cases c with
  | d x => exact Rep.one h
  | gv g => exact h.2
  | gp g o => simp only [RepC] at h; obtain ⟨u,b,off,_,_,rfl⟩ := h; rfl
  | gs g z lo hi => simp only [RepC] at h; obtain ⟨ad,len,cap,_,_,_,rfl⟩ := h; rfl
  | ifc t ag cs => simp only [RepC] at h; obtain ⟨u,rfl,_⟩ := h; rfl
  | fn f cs => simp only [RepC] at h; obtain ⟨u,rfl,_⟩ := h; rfl
theorem RepCs.length {cs : List C} : ∀ {vs : List Value},RepCs w S ρ cs vs → vs.length = cs.length := by
  induction cs with
  | nil => intro vs h; simp only [RepCs] at h; subst h; rfl
  | cons c cs ih =>
    intro vs h
    simp only [RepCs] at h
    obtain ⟨v,us,rfl,_,h2⟩ := h
    simp [ih h2]
mutual
theorem RepC.keep : ∀ {c : C} {v : Value},RepC w S ρ c v → Agree w w' S → le S S' → Env.le ρ ρ' → RepC w' S' ρ' c v
  | .d x,v,h,hS,hle,_ => Rep.keep h (Agree.no) hS hle (le_refl _)
  | .gv g,v,h,_,_,hr => ⟨hr _ _ h.1,h.2⟩
  | .gp g o,v,h,_,_,hr => by
    simp only [RepC] at h ⊢
    obtain ⟨u,b,off,h1,h2,h3⟩ := h
    exact ⟨u,b,off,hr _ _ h1,h2,h3⟩
  | .gs g z lo hi,v,h,_,_,hr => by
    simp only [RepC] at h ⊢
    obtain ⟨ad,len,cap,h1,h2⟩ := h
    exact ⟨ad,len,cap,hr _ _ h1,h2⟩
  | .ifc t ag cs,v,h,hS,hle,hr => by
    simp only [RepC] at h ⊢
    obtain ⟨u,rfl,h⟩ := h
    refine ⟨u,rfl,?_⟩
    cases ag with
    | true =>
      simp only [if_true] at h ⊢
      obtain ⟨vs,rfl,h⟩ := h
      exact ⟨vs,rfl,RepCs.keep h hS hle hr⟩
    | false =>
      simp only [Bool.false_eq_true,if_false] at h ⊢
      exact RepCs.keep h hS hle hr
  | .fn f cs,v,h,hS,hle,hr => by
    simp only [RepC] at h ⊢
    obtain ⟨vs,rfl,h⟩ := h
    exact ⟨vs,rfl,RepCs.keep h hS hle hr⟩
theorem RepCs.keep : ∀ {cs : List C} {vs : List Value},RepCs w S ρ cs vs → Agree w w' S → le S S' → Env.le ρ ρ' → RepCs w' S' ρ' cs vs
  | [],vs,h,_,_,_ => h
  | c :: cs,vs,h,hS,hle,hr => by
    simp only [RepCs] at h ⊢
    obtain ⟨v,us,rfl,h1,h2⟩ := h
    exact ⟨v,us,rfl,RepC.keep h1 hS hle hr,RepCs.keep h2 hS hle hr⟩
end
theorem RepU.keep {ag : Bool} {cs : List C} {u : Value} (h : RepU w S ρ ag cs u) (hS : Agree w w' S) (hle : le S S') (hr : Env.le ρ ρ') : RepU w' S' ρ' ag cs u := by
  unfold RepU at *
  cases ag with
  | true =>
    simp only [if_true] at *
    obtain ⟨vs,rfl,h⟩ := h
    exact ⟨vs,rfl,h.keep hS hle hr⟩
  | false =>
    simp only [Bool.false_eq_true,if_false] at *
    exact h.keep hS hle hr
theorem RepT.keep : ∀ {l : List (Bool × List C)} {us : List Value},RepT w S ρ l us → Agree w w' S → le S S' → Env.le ρ ρ' → RepT w' S' ρ' l us
  | [],us,h,_,_,_ => h
  | (ag,cs) :: l,us,h,hS,hle,hr => by
    simp only [RepT] at h ⊢
    obtain ⟨u,vs,rfl,h1,h2⟩ := h
    exact ⟨u,vs,rfl,h1.keep hS hle hr,h2.keep hS hle hr⟩
theorem RepS.keep {sv : SV} {v : Value} (h : RepS w S ρ sv v) (hS : Agree w w' S) (hle : le S S') (hr : Env.le ρ ρ') : RepS w' S' ρ' sv v := by
  cases sv with
  | one c => exact RepC.keep h hS hle hr
  | agg cs => obtain ⟨vs,rfl,h⟩ := h; exact ⟨vs,rfl,h.keep hS hle hr⟩
  | tup l => obtain ⟨us,rfl,h⟩ := h; exact ⟨us,rfl,h.keep hS hle hr⟩
  | any => trivial
theorem heap_agree {b : Nat} {cs : Array Value} {T : TypeId} {fr : Nat × Nat} (hb : w.heap[b]? = some (.cells cs T fr)) (hF : ∀ o,F b o) (h : Agree w w' F) : w'.heap[b]? = some (.cells cs T fr) :=
  cells_same hb (h b 0 (hF 0)).2.2 fun o => (h b o (hF o)).1
theorem BldAt.keep {T e b : Nat} {l : List UInt8} (h : BldAt w T e l b F) (hF : Agree w w' F) (hf : le F F') : BldAt w' T e l b F' := by
  obtain ⟨p,v,h1,h2,⟨h3,h3'⟩,h4,h5,h6⟩ := h
  refine ⟨p,v,h1,heap_agree h2 h5 hF,⟨h3,h3'.imp id ?_⟩,h4,fun o => hf _ _ (h5 o),fun g hg o => hf _ _ (h6 g hg o)⟩
  rintro ⟨g,cap,cur,fz,rfl,k2,k3,k4⟩
  exact ⟨g,cap,cur,fz,rfl,k2,heap_agree k3 (h6 g rfl) hF,k4⟩
theorem RepG.keep {gb : GB} {v : Value} (h : RepG w S ρ gb v F) (hF : Agree w w' F) (hS : Agree w w' S) (hle : le S S') (hr : Env.le ρ ρ') (hf : le F F') : RepG w' S' ρ' gb v F' := by
  cases gb with
  | dead => trivial
  | bx cs =>
    simp only [RepG] at h ⊢
    obtain ⟨b,off,vs,rfl,h1,h2,h3,h4⟩ := h
    have hl := h2.length
    exact ⟨b,off,vs,rfl,h1.keep (hF.le (hl ▸ h3)),h2.keep hS hle hr,h3.trans hf,h4.keep (hF.le h3)⟩
  | row z xs => exact Rep.keep h hF hS hle hf
  | sh z xs => exact Rep.keep h Agree.no hS hle (le_refl _)
  | mp kv =>
    simp only [RepG] at h ⊢
    obtain ⟨b,es,c,rfl,h2,h3,h5,h4⟩ := h
    exact ⟨b,es,c,rfl,by rw [(hF b 0 (h4 0)).2.2,h2],h3,h5,fun o => hf _ _ (h4 o)⟩
  | isv v0 => exact h
  | it b kv todo cur =>
    simp only [RepG] at h ⊢
    obtain ⟨r,es,c,since,seen,c0,rfl,h1,h2,h3,h4,h5,h6,h7,h8,h9,h10,h11⟩ := h
    exact ⟨r,es,c,since,seen,c0,rfl,h1,by rw [(hF b 0 (h11 0).1).2.2,h2],h3,h4,by rw [(hF r 0 (h11 0).2).2.2,h5],h6,h7,h8,h9,h10,fun o => ⟨hf _ _ (h11 o).1,hf _ _ (h11 o).2⟩⟩
  | opq R cs => obtain ⟨us,h1,h2⟩ := h; exact ⟨us,envs_le hr h1,R.keep h2 hF hS hle hf⟩
  | bld T e l => obtain ⟨b,h1,h2⟩ := h; exact ⟨b,h1,h2.keep hF hf⟩
  | lp l r => exact ⟨by rw [(hF l 0 (h.2 0)).2.2,h.1],fun o => hf _ _ (h.2 o)⟩
theorem RepCs.nth : ∀ {cs : List C} {vs : List Value} {k : Nat} {c : C},RepCs w S ρ cs vs → cs[k]? = some c → ∃ v,vs[k]? = some v ∧ RepC w S ρ c v
  | [],_,_,_,_,h => by simp at h
  | c0 :: cs,vs,0,c,hr,hk => by
    simp only [RepCs] at hr
    obtain ⟨v0,us,rfl,h1,h2⟩ := hr
    simp at hk
    subst hk
    exact ⟨v0,by simp,h1⟩
  | c0 :: cs,vs,k + 1,c,hr,hk => by
    simp only [RepCs] at hr
    obtain ⟨v0,us,rfl,h1,h2⟩ := hr
    simp at hk
    obtain ⟨v,hv,hr⟩ := RepCs.nth h2 hk
    exact ⟨v,by simpa using hv,hr⟩
theorem RepCs.set : ∀ {cs : List C} {vs : List Value} {k : Nat} {c : C} {u : Value},RepCs w S ρ cs vs → RepC w S ρ c u → RepCs w S ρ (cs.set k c) (vs.set k u)
  | [],vs,k,c,u,h,_ => by simp only [RepCs] at h; subst h; simp [RepCs]
  | c0 :: cs,vs,0,c,u,hr,hc => by
    simp only [RepCs] at hr
    obtain ⟨v0,us,rfl,h1,h2⟩ := hr
    exact ⟨u,us,rfl,hc,h2⟩
  | c0 :: cs,vs,k + 1,c,u,hr,hc => by
    simp only [RepCs] at hr
    obtain ⟨v0,us,rfl,h1,h2⟩ := hr
    exact ⟨v0,us.set k u,rfl,h1,RepCs.set h2 hc⟩
theorem RepCs.take : ∀ {cs : List C} {vs : List Value} (n : Nat),RepCs w S ρ cs vs → RepCs w S ρ (cs.take n) (vs.take n)
  | [],vs,n,h => by simp only [RepCs] at h; subst h; simp [RepCs]
  | c :: cs,vs,0,h => by simp [RepCs]
  | c :: cs,vs,n + 1,h => by
    simp only [RepCs] at h
    obtain ⟨v,us,rfl,h1,h2⟩ := h
    exact ⟨v,us.take n,rfl,h1,RepCs.take n h2⟩
theorem RepCs.drop : ∀ {cs : List C} {vs : List Value} (n : Nat),RepCs w S ρ cs vs → RepCs w S ρ (cs.drop n) (vs.drop n)
  | [],vs,n,h => by simp only [RepCs] at h; subst h; simp [RepCs]
  | c :: cs,vs,0,h => by simpa using h
  | c :: cs,vs,n + 1,h => by
    simp only [RepCs] at h
    obtain ⟨v,us,rfl,h1,h2⟩ := h
    simpa using RepCs.drop n h2
theorem RepCs.append : ∀ {cs ds : List C} {vs us : List Value},RepCs w S ρ cs vs → RepCs w S ρ ds us → RepCs w S ρ (cs ++ ds) (vs ++ us)
  | [],ds,vs,us,h,h' => by simp only [RepCs] at h; subst h; exact h'
  | c :: cs,ds,vs,us,h,h' => by
    simp only [RepCs] at h
    obtain ⟨v,vs',rfl,h1,h2⟩ := h
    exact ⟨v,vs' ++ us,rfl,h1,RepCs.append h2 h'⟩
theorem RepT.nth : ∀ {l : List (Bool × List C)} {us : List Value} {k : Nat} {ag : Bool} {cs : List C},RepT w S ρ l us → l[k]? = some (ag,cs) → ∃ u,us[k]? = some u ∧ RepU w S ρ ag cs u
  | [],_,_,_,_,_,h => by simp at h
  | (ag0,cs0) :: l,us,0,ag,cs,hr,hk => by
    simp only [RepT] at hr
    obtain ⟨u,vs,rfl,h1,h2⟩ := hr
    simp at hk
    obtain ⟨rfl,rfl⟩ := hk
    exact ⟨u,by simp,h1⟩
  | (ag0,cs0) :: l,us,k + 1,ag,cs,hr,hk => by
    simp only [RepT] at hr
    obtain ⟨u,vs,rfl,h1,h2⟩ := hr
    simp at hk
    obtain ⟨v,hv,hr⟩ := RepT.nth h2 hk
    exact ⟨v,by simpa using hv,hr⟩
def C.toD : C → Option D
  | .d x => some x
  | .ifc t ag cs => match all cs with | some xs => some (.ifc t ag xs) | none => none
  | .fn f cs => match all cs with | some xs => some (.fn f xs) | none => none
  | _ => none
where
  all : List C → Option (List D)
  | [] => some []
  | c :: cs => match c.toD,all cs with | some x,some xs => some (x :: xs) | _,_ => none
mutual
theorem RepC.toD : ∀ {c : C} {x : D} {v : Value},RepC w S ρ c v → c.toD = some x → Rep w S x v no
  | .d x,y,v,h,e => by simp only [C.toD,Option.some.injEq] at e; subst e; exact h
  | .gv g,y,v,h,e => by simp [C.toD] at e
  | .gp g o,y,v,h,e => by simp [C.toD] at e
  | .gs g z lo hi,y,v,h,e => by simp [C.toD] at e
  | .ifc t ag cs,y,v,h,e => by
    simp only [C.toD] at e
    cases hx : C.toD.all cs with
    | none => rw [hx] at e; cases e
    | some xs =>
      rw [hx] at e
      simp only [Option.some.injEq] at e
      subst e
      simp only [RepC] at h
      simp only [Rep]
      obtain ⟨u,rfl,h⟩ := h
      refine ⟨u,rfl,?_⟩
      cases ag with
      | true =>
        simp only [if_true] at h ⊢
        obtain ⟨vs,rfl,h⟩ := h
        exact ⟨vs,rfl,RepCs.toD h hx⟩
      | false =>
        simp only [Bool.false_eq_true,if_false] at h ⊢
        exact RepCs.toD h hx
  | .fn f cs,y,v,h,e => by
    simp only [C.toD] at e
    cases hx : C.toD.all cs with
    | none => rw [hx] at e; cases e
    | some xs =>
      rw [hx] at e
      simp only [Option.some.injEq] at e
      subst e
      simp only [RepC] at h
      simp only [Rep]
      obtain ⟨vs,rfl,h⟩ := h
      exact ⟨vs,rfl,RepCs.toD h hx⟩
theorem RepCs.toD : ∀ {cs : List C} {xs : List D} {vs : List Value},RepCs w S ρ cs vs → C.toD.all cs = some xs → Reps w S xs vs no
  | [],xs,vs,h,e => by simp only [C.toD.all,Option.some.injEq] at e; subst e; exact h
  | c :: cs,xs,vs,h,e => by
    simp only [C.toD.all] at e
    split at e
    · rename_i x xs' h1 h2
      simp only [Option.some.injEq] at e
      subst e
      simp only [RepCs] at h
      obtain ⟨v,us,rfl,h3,h4⟩ := h
      exact ⟨v,us,no,no,rfl,le_refl _,le_refl _,no_dis _,RepC.toD h3 h1,RepCs.toD h4 h2⟩
    · cases e
end
theorem repCs_d : ∀ {xs : List D} {vs : List Value},Reps w S xs vs no → RepCs w S ρ (xs.map C.d) vs
  | [],vs,h => h
  | x :: xs,vs,h => by
    simp only [Reps] at h
    obtain ⟨v,us,F1,F2,rfl,h1,h2,h3,h4,h5⟩ := h
    exact ⟨v,us,rfl,h4.mono h1,repCs_d (h5.mono h2)⟩
end
structure Keeps (F0 : Foot) (w w' : World) : Prop where
  os : w'.os = w.os
  tape : w'.tape = w.tape
  output : w'.output = w.output
  size : w.heap.size ≤ w'.heap.size
  block : ∀ b,b < w.heap.size → (∀ o,¬ F0 b o) → w'.heap[b]? = w.heap[b]?
  cell : ∀ b o,b < w.heap.size → ¬ F0 b o → w'.cell? ⟨b,o,none⟩ = w.cell? ⟨b,o,none⟩ ∧ w'.frozen? ⟨b,o,none⟩ = w.frozen? ⟨b,o,none⟩ ∧ mapAt w' b = mapAt w b
theorem Keeps.refl (F0 : Foot) (w : World) : Keeps F0 w w := ⟨rfl,rfl,rfl,Nat.le_refl _,fun _ _ _ => rfl,fun _ _ _ _ => ⟨rfl,rfl,rfl⟩⟩
def newOr (w : World) (F0 : Foot) : Foot := fun b o => F0 b o ∨ w.heap.size ≤ b
theorem Keeps.trans {F0 F1 : Foot} {w w1 w2 : World} (h : Keeps F0 w w1) (h' : Keeps F1 w1 w2) (hF : le F1 (newOr w F0)) : Keeps F0 w w2 := by
  have hnot : ∀ b o,b < w.heap.size → ¬ F0 b o → ¬ F1 b o := fun b o hb hn hf => (hF b o hf).elim hn (fun h => by omega)
  refine ⟨h'.os.trans h.os,h'.tape.trans h.tape,h'.output.trans h.output,Nat.le_trans h.size h'.size,fun b hb hn => ?_,fun b o hb hn => ?_⟩
  · rw [h'.block b (Nat.lt_of_lt_of_le hb h.size) (fun o => hnot b o hb (hn o)),h.block b hb hn]
  · have h1 := h.cell b o hb hn
    have h2 := h'.cell b o (Nat.lt_of_lt_of_le hb h.size) (hnot b o hb hn)
    exact ⟨h2.1.trans h1.1,h2.2.1.trans h1.2.1,h2.2.2.trans h1.2.2⟩
theorem Keeps.agree {F0 X : Foot} {w w' : World} (h : Keeps F0 w w') (hx : ∀ b o,X b o → b < w.heap.size) (hd : dis X F0) : Agree w w' X := fun b o hb => h.cell b o (hx b o hb) (fun hf => hd b o hb hf)
theorem Keeps.mono {F0 F1 : Foot} {w w' : World} (h : Keeps F0 w w') (hle : le F0 F1) : Keeps F1 w w' :=
  ⟨h.os,h.tape,h.output,h.size,fun b hb hn => h.block b hb (fun o hf => hn o (hle b o hf)),fun b o hb hn => h.cell b o hb (fun hf => hn (hle b o hf))⟩
structure St where
  t : List (Nat × SV)
  h : List (Nat × GB)
  n : Nat
def lkS : List (Nat × SV) → Nat → SV
  | [],_ => .any
  | (j,x) :: r,i => bif Nat.beq i j then x else lkS r i
def lkG : List (Nat × GB) → Nat → GB
  | [],_ => .dead
  | (j,x) :: r,i => bif Nat.beq i j then x else lkG r i
structure Gh where
  n : Nat
  w0 : World
  F0 : Foot
  S0 : Foot
  k : Nat
  ρ0 : Env
  /-- the record of the loop whose round this is -/
  rd : Option Nat
  /-- the calls that are put off -/
  df : List Deferred
def mkd (r : Nat) : Deferred := { target := .collected r,args := #[] }
structure MarkOk (lo : Nat) (w : World) (S : Foot) (F : Nat → Foot) (r : Nat) : Prop where
  at_ : mapAt w r = some (.deferred (some []))
  F : ∀ i o,¬ F i r o
  S : ∀ o,¬ S r o
  lo : lo ≤ r
def Dfs (lo : Nat) (w : World) (S : Foot) (F : Nat → Foot) (df : List Deferred) : List Deferred → Prop
  | [] => df = []
  | d :: ds => (∃ r,d = mkd r ∧ MarkOk lo w S F r ∧ (∀ e ∈ ds,e ≠ d) ∧ Dfs lo w S F df ds) ∨ (∃ df',df = d :: df' ∧ (∀ r,d ≠ mkd r) ∧ Dfs lo w S F df' ds)
theorem Dfs.keep {lo : Nat} {w w' : World} {S S' : Foot} {F F' : Nat → Foot} : ∀ {df ds : List Deferred},Dfs lo w S F df ds → (∀ r,mkd r ∈ ds → MarkOk lo w S F r → MarkOk lo w' S' F' r) → Dfs lo w' S' F' df ds
  | df,[],h,_ => h
  | df,d :: ds,h,hm => by
    simp only [Dfs] at h ⊢
    rcases h with ⟨r,e,h1,h3,h4⟩ | ⟨df',e,h1,h2⟩
    · exact .inl ⟨r,e,hm r (by simp [e]) h1,h3,Dfs.keep h4 fun r hr => hm r (List.mem_cons_of_mem _ hr)⟩
    · exact .inr ⟨df',e,h1,Dfs.keep h2 fun r hr => hm r (List.mem_cons_of_mem _ hr)⟩
theorem Dfs.same {lo : Nat} {w : World} {S : Foot} {F F' : Nat → Foot} {df ds : List Deferred} (h : Dfs lo w S F df ds) (hF : ∀ i r o,F' i r o → ∃ j,F j r o) : Dfs lo w S F' df ds :=
  h.keep fun r _ m => ⟨m.at_,fun i o hi => (hF i r o hi).elim fun j hj => m.F j o hj,m.S,m.lo⟩
structure Rel (g : Gh) (st : St) (a : Act) (w : World) (S : Foot) (ρ : Env) (F : Nat → Foot) : Prop where
  size : a.tmps.size = g.n
  defers : Dfs g.w0.heap.size w S F g.df a.defers
  slot : ∀ i,RepS w S ρ (lkS st.t i) (a.tmps.getD i undef)
  root : ∀ i,lkG st.h i = .dead ∨ ∃ v,ρ i = some v ∧ RepG w S ρ (lkG st.h i) v (F i)
  dis : ∀ i j,i ≠ j → Foot.dis (F i) (F j)
  disS : ∀ i,Foot.dis (F i) S
  own : ∀ i,le (F i) (newOr g.w0 g.F0)
  ex : ∀ i b o,F i b o → b < w.heap.size
  exS : ∀ b o,S b o → b < w.heap.size
  old : Keeps g.F0 g.w0 w
  inS : le g.S0 S
  newS : ∀ b o,S b o → g.S0 b o ∨ newOr g.w0 g.F0 b o
  pin : ∀ i u,i < g.k → g.ρ0 i = some u → ρ i = some u
  tab : Tabs w S
  fin : ∃ N,∀ i,N ≤ i → ρ i = none
def Fresh (st : St) (ρ : Env) : Prop := ∀ i,st.n ≤ i → ρ i = none
def cst (v : Value) : SV := match v with
  | .agg vs => bif vs.toList.all Value.oneCell' then .agg (vs.toList.map fun v => .d (.sc v)) else .any
  | .tuple _ => .any
  | v => .one (.d (.sc v))
def opd (st : St) : Operand → SV
  | .tmp i => lkS st.t i
  | .const v => cst v
  | .func f => .one (.d (.fn (.func f) []))
  | .global g => .one (.d (.sc (.pointer (some ⟨g,0,none⟩))))
section
variable {w w' : World} {S S' F F' : Foot} {ρ ρ' : Env}
theorem repCs_sc : ∀ {vs : List Value},vs.all Value.oneCell' = true → RepCs w S ρ (vs.map fun v => .d (.sc v)) vs
  | [],_ => rfl
  | v :: vs,h => by
    simp only [List.all_cons,Bool.and_eq_true] at h
    exact ⟨v,vs,rfl,⟨rfl,h.1⟩,repCs_sc h.2⟩
theorem cst_rep (v : Value) : RepS w S ρ (cst v) v := by
  unfold cst
  split
  · rename_i vs
    cases h : vs.toList.all Value.oneCell' with
    | true => exact ⟨vs,rfl,repCs_sc h⟩
    | false => trivial
  · trivial
  · rename_i h1 h2
    refine ⟨rfl,?_⟩
    cases v <;> simp_all [Value.oneCell']
theorem Rel.opd {g : Gh} {st : St} {a : Act} {F : Nat → Foot} (h : Rel g st a w S ρ F) (x : Operand) : RepS w S ρ (opd st x) (a.eval x) := by
  cases x with
  | tmp i => exact h.slot i
  | const v => exact cst_rep v
  | func f => exact ⟨#[],rfl,rfl⟩
  | global i => exact ⟨rfl,rfl⟩
end
end Go.Proofs.YtegpggobfdcafaaGreat
end
