/- Parts of the proof (1 of 19). -/
import Derived.WalkKit
section
set_option linter.unusedVariables false
set_option linter.unusedSimpArgs false
namespace Go.Proofs.YtegpggobfdcafaaGreat
open Go
abbrev Foot := Nat → Nat → Prop
def Foot.no : Foot := fun _ _ => False
def Foot.rng (b lo n : Nat) : Foot := fun b' o => b' = b ∧ lo ≤ o ∧ o < lo + n
def Foot.or (F G : Foot) : Foot := fun b o => F b o ∨ G b o
def Foot.le (F G : Foot) : Prop := ∀ b o,F b o → G b o
def Foot.dis (F G : Foot) : Prop := ∀ b o,F b o → G b o → False
open Foot
theorem le_refl (F : Foot) : le F F := fun _ _ h => h
theorem Foot.le.trans {F G H : Foot} (h : le F G) (h' : le G H) : le F H := fun b o x => h' b o (h b o x)
theorem le_or_left (F G : Foot) : le F (F.or G) := fun _ _ h => .inl h
theorem le_or_right (F G : Foot) : le G (F.or G) := fun _ _ h => .inr h
theorem or_le {F G H : Foot} (h : le F H) (h' : le G H) : le (F.or G) H := fun b o x => x.elim (h b o) (h' b o)
theorem no_le (F : Foot) : le no F := fun _ _ h => h.elim
theorem Foot.dis.symm {F G : Foot} (h : dis F G) : dis G F := fun b o x y => h b o y x
theorem Foot.dis.le {F G F' G' : Foot} (h : dis F G) (h1 : Foot.le F' F) (h2 : Foot.le G' G) : dis F' G' := fun b o x y => h b o (h1 b o x) (h2 b o y)
theorem dis_or {F G H : Foot} (h : dis F H) (h' : dis G H) : dis (F.or G) H := fun b o x y => x.elim (fun x => h b o x y) (fun x => h' b o x y)
theorem dis_no (F : Foot) : dis F no := fun _ _ _ h => h
theorem no_dis (F : Foot) : dis no F := fun _ _ h _ => h
theorem rng_le {b off m n : Nat} (h : m ≤ n) : le (rng b off m) (rng b off n) := fun _ _ ⟨a,b,c⟩ => ⟨a,b,by omega⟩
inductive D where
  | sc (v : Value)
  | bx (own : Bool) (row : List D)
  | sl (own : Bool) (z : Nat) (row : List D)
  | ifc (t : Nat) (ag : Bool) (cs : List D)
  | fn (f : Fn) (cs : List D)
  | junk
def base : Value → Option (Nat × Nat)
  | .pointer (some ⟨b,o,none⟩) => some (b,o)
  | .slice (some ⟨b,o,none⟩) _ _ => some (b,o)
  | _ => none
def lies (w : World) (b off : Nat) (vs : List Value) : Prop := ∀ (i : Nat) (v : Value),vs[i]? = some v → w.cell? ⟨b,off + i,none⟩ = some v
def free (w : World) (b off n : Nat) : Prop := ∀ i,i < n → (w.cell? ⟨b,off + i,none⟩).isSome = true ∧ w.frozen? ⟨b,off + i,none⟩ = false
mutual
def Rep (w : World) (S : Foot) : D → Value → Foot → Prop
  | .sc v',v,_ => v = v' ∧ v.oneCell' = true
  | .bx o row,v,F => ∃ b off vs G,v = .pointer (some ⟨b,off,none⟩) ∧ lies w b off vs ∧ Reps w S row vs G ∧
      (if o then le (rng b off row.length) F ∧ le G F ∧ dis (rng b off row.length) G ∧ free w b off row.length
       else le (rng b off row.length) S ∧ G = no)
  | .sl o z row,v,F => ∃ a len cap,v = .slice a len cap ∧ row.length = len * z ∧ 0 < z ∧ len ≤ cap ∧
      ((cap = 0 ∧ (o = true → a = none)) ∨ ∃ b off vs G,a = some ⟨b,off,none⟩ ∧ lies w b off vs ∧ Reps w S row vs G ∧
        (if o then le (rng b off (cap * z)) F ∧ le G F ∧ dis (rng b off (cap * z)) G ∧ free w b off (cap * z)
         else le (rng b off row.length) S ∧ G = no))
  | .ifc t ag cs,v,F => ∃ u,v = .iface t u ∧ (if ag then ∃ vs,u = .agg vs ∧ Reps w S cs vs.toList F else Reps w S cs [u] F)
  | .fn f cs,v,F => ∃ vs,v = .func f #[] vs ∧ Reps w S cs vs.toList F
  | .junk,v,_ => v.oneCell' = true
def Reps (w : World) (S : Foot) : List D → List Value → Foot → Prop
  | [],vs,_ => vs = []
  | c :: cs,vs,F => ∃ v us F1 F2,vs = v :: us ∧ le F1 F ∧ le F2 F ∧ dis F1 F2 ∧ Rep w S c v F1 ∧ Reps w S cs us F2
end
section
variable {w w' : World} {S S' F F' G : Foot}
theorem Rep.one {c : D} {v : Value} (h : Rep w S c v F) : v.oneCell' = true := by
  cases c with
  | sc _ => exact h.1 ▸ h.2
  | bx o row => simp only [Rep] at h; obtain ⟨b,off,vs,G,rfl,_⟩ := h; rfl
  | sl o z row => simp only [Rep] at h; obtain ⟨a,l,c,rfl,_⟩ := h; rfl
  | ifc t ag cs => simp only [Rep] at h; obtain ⟨u,rfl,_⟩ := h; rfl
  | fn f cs => simp only [Rep] at h; obtain ⟨u,rfl,_⟩ := h; rfl
  | junk => exact h
theorem Reps.length {cs : List D} : ∀ {vs : List Value} {F : Foot},Reps w S cs vs F → vs.length = cs.length := by
  induction cs with
  | nil => intro vs F h; simp only [Reps] at h; subst h; rfl
  | cons c cs ih =>
    intro vs F h
    simp only [Reps] at h
    obtain ⟨v,us,F1,F2,rfl,_,_,_,_,h2⟩ := h
    simp [ih h2]
def mapAt (w : World) (b : Nat) : Option Obj := match w.heap[b]? with
  | some (.map es c) => some (.map es c)
  | some (.mapIter m s seen c) => some (.mapIter m s seen c)
  | some (.loop r) => some (.loop r)
  | some (.deferred d) => some (.deferred d)
  | some (.stringIter s p) => some (.stringIter s p)
  | some (.cells cs T fr) => some (.cells (cs.map fun _ => .bool false) T fr)
  | _ => none
theorem mapAt_of {w : World} {b : Nat} {o : Obj} (h : mapAt w b = some o) (ho : (match o with | .cells _ _ _ => false | _ => true) = true := by rfl) : w.heap[b]? = some o := by
  unfold mapAt at h
  split at h
  all_goals first | (cases h; done) | (cases h; cases ho; done) | (rename_i he; rw [he]; exact h)
theorem cells_same {w w' : World} {b : Nat} {cs : Array Value} {T : TypeId} {fr : Nat × Nat} (hb : w.heap[b]? = some (.cells cs T fr)) (hm : mapAt w' b = mapAt w b) (hc : ∀ o,w'.cell? ⟨b,o,none⟩ = w.cell? ⟨b,o,none⟩) : w'.heap[b]? = some (.cells cs T fr) := by
  unfold mapAt at hm
  rw [hb] at hm
  simp only at hm
  split at hm
  all_goals try (cases hm; done)
  rename_i cs' T' fr' he
  injection hm with hm
  injection hm with h1 h2 h3
  subst h2 h3
  rw [he]
  have hs : cs'.size = cs.size := by have := congrArg Array.size h1; simpa using this
  have : cs' = cs := by
    apply Array.ext hs
    intro i h1 h2
    have := hc i
    simp only [World.cell?,he,hb,Option.isSome_none,Bool.false_eq_true,if_false] at this
    rw [Array.getElem?_eq_getElem h1,Array.getElem?_eq_getElem h2] at this
    exact Option.some.inj this
  rw [this]
def tabs : List (Nat × (Array Value → Prop)) := []
def stamps (es : Array MapEntry) (c : Nat) : Prop := (es.toList.map (·.born)).Nodup ∧ ∀ x ∈ es.toList,x.born < c
def Agree (w w' : World) (X : Foot) : Prop := ∀ b o,X b o → w'.cell? ⟨b,o,none⟩ = w.cell? ⟨b,o,none⟩ ∧ w'.frozen? ⟨b,o,none⟩ = w.frozen? ⟨b,o,none⟩ ∧ mapAt w' b = mapAt w b
theorem Agree.le {X Y : Foot} (h : Agree w w' X) (hy : Foot.le Y X) : Agree w w' Y := fun b o x => h b o (hy b o x)
theorem Agree.refl (w : World) (X : Foot) : Agree w w X := fun _ _ _ => ⟨rfl,rfl,rfl⟩
theorem Agree.trans {w'' : World} {X : Foot} (h : Agree w w' X) (h' : Agree w' w'' X) : Agree w w'' X := fun b o x => ⟨(h' b o x).1.trans (h b o x).1,(h' b o x).2.1.trans (h b o x).2.1,(h' b o x).2.2.trans (h b o x).2.2⟩
theorem Agree.or {X Y : Foot} (h : Agree w w' X) (h' : Agree w w' Y) : Agree w w' (X.or Y) := fun b o x => x.elim (h b o) (h' b o)
theorem Agree.no : Agree w w' no := fun _ _ h => h.elim
theorem lies.keep {b off : Nat} {vs : List Value} (h : lies w b off vs) (ha : Agree w w' (rng b off vs.length)) : lies w' b off vs := by
  intro i v hv
  have hi : i < vs.length := (List.getElem?_eq_some_iff.1 hv).1
  rw [(ha b (off + i) ⟨rfl,by omega,by omega⟩).1]
  exact h i v hv
theorem free.keep {b off n : Nat} (h : free w b off n) (ha : Agree w w' (rng b off n)) : free w' b off n := by
  intro i hi
  obtain ⟨h1,h2,_⟩ := ha b (off + i) ⟨rfl,by omega,by omega⟩
  rw [h1,h2]
  exact h i hi
def Tabs (w : World) (S : Foot) : Prop := ∀ t ∈ tabs,(∃ cs T fr,w.heap[t.1]? = some (.cells cs T fr) ∧ t.2 cs) ∧ ∀ o,S t.1 o
theorem Tabs.keep (h : Tabs w S) (ha : Agree w w' S) (hS : le S S') : Tabs w' S' := fun t ht => by
  obtain ⟨⟨cs,T,fr,h1,h3⟩,h2⟩ := h t ht
  exact ⟨⟨cs,T,fr,cells_same h1 (ha t.1 0 (h2 0)).2.2 fun o => (ha t.1 o (h2 o)).1,h3⟩,fun o => hS _ _ (h2 o)⟩
mutual
theorem Rep.keep : ∀ {c : D} {v : Value} {F F' : Foot},Rep w S c v F → Agree w w' F → Agree w w' S → le S S' → le F F' → Rep w' S' c v F'
  | .sc v',v,F,F',h,_,_,_,_ => h
  | .bx o row,v,F,F',h,hF,hS,hle,hf => by
    simp only [Rep] at h ⊢
    obtain ⟨b,off,vs,G,rfl,hl,hr,ho⟩ := h
    have hlen := hr.length
    cases o with
    | true =>
      simp only [if_true] at ho ⊢
      obtain ⟨h1,h2,h3,h4⟩ := ho
      exact ⟨b,off,vs,G,rfl,hl.keep (hF.le (hlen ▸ h1)),Reps.keep hr (hF.le h2) hS hle (le_refl _),h1.trans hf,h2.trans hf,h3,h4.keep (hF.le h1)⟩
    | false =>
      simp only [Bool.false_eq_true,if_false] at ho ⊢
      obtain ⟨h1,rfl⟩ := ho
      exact ⟨b,off,vs,no,rfl,hl.keep (hS.le (hlen ▸ h1)),Reps.keep hr (fun _ _ h => h.elim) hS hle (le_refl _),h1.trans hle,rfl⟩
  | .sl o z row,v,F,F',h,hF,hS,hle,hf => by
    simp only [Rep] at h ⊢
    obtain ⟨a,len,cap,rfl,hlr,hz,hc,ho⟩ := h
    refine ⟨a,len,cap,rfl,hlr,hz,hc,?_⟩
    rcases ho with ho | ⟨b,off,vs,G,rfl,hl,hr,ho⟩
    · exact .inl ho
    have hlen := hr.length
    refine .inr ?_
    cases o with
    | true =>
      simp only [if_true] at ho ⊢
      obtain ⟨h1,h2,h3,h4⟩ := ho
      have hle' : vs.length ≤ cap * z := by rw [hlen,hlr]; exact Nat.mul_le_mul_right _ hc
      exact ⟨b,off,vs,G,rfl,hl.keep (hF.le ((rng_le hle').trans h1)),Reps.keep hr (hF.le h2) hS hle (le_refl _),h1.trans hf,h2.trans hf,h3,h4.keep (hF.le h1)⟩
    | false =>
      simp only [Bool.false_eq_true,if_false] at ho ⊢
      obtain ⟨h1,rfl⟩ := ho
      exact ⟨b,off,vs,no,rfl,hl.keep (hS.le (hlen ▸ h1)),Reps.keep hr (fun _ _ h => h.elim) hS hle (le_refl _),h1.trans hle,rfl⟩
  | .ifc t ag cs,v,F,F',h,hF,hS,hle,hf => by
    simp only [Rep] at h ⊢
    obtain ⟨u,rfl,h⟩ := h
    refine ⟨u,rfl,?_⟩
    cases ag with
    | true =>
      simp only [if_true] at h ⊢
      obtain ⟨vs,rfl,h⟩ := h
      exact ⟨vs,rfl,Reps.keep h hF hS hle hf⟩
    | false =>
      simp only [Bool.false_eq_true,if_false] at h ⊢
      exact Reps.keep h hF hS hle hf
  | .fn f cs,v,F,F',h,hF,hS,hle,hf => by
    simp only [Rep] at h ⊢
    obtain ⟨vs,rfl,h⟩ := h
    exact ⟨vs,rfl,Reps.keep h hF hS hle hf⟩
  | .junk,v,F,F',h,_,_,_,_ => h
theorem Reps.keep : ∀ {cs : List D} {vs : List Value} {F F' : Foot},Reps w S cs vs F → Agree w w' F → Agree w w' S → le S S' → le F F' → Reps w' S' cs vs F'
  | [],vs,F,F',h,_,_,_,_ => h
  | c :: cs,vs,F,F',h,hF,hS,hle,hf => by
    simp only [Reps] at h ⊢
    obtain ⟨v,us,F1,F2,rfl,h1,h2,h3,h4,h5⟩ := h
    exact ⟨v,us,F1,F2,rfl,h1.trans hf,h2.trans hf,h3,Rep.keep h4 (hF.le h1) hS hle (le_refl _),Reps.keep h5 (hF.le h2) hS hle (le_refl _)⟩
end
theorem Rep.mono {c : D} {v : Value} (h : Rep w S c v F) (hf : le F F') : Rep w S c v F' := h.keep (Agree.refl _ _) (Agree.refl _ _) (le_refl _) hf
theorem Reps.mono {cs : List D} {vs : List Value} (h : Reps w S cs vs F) (hf : le F F') : Reps w S cs vs F' := h.keep (Agree.refl _ _) (Agree.refl _ _) (le_refl _) hf
theorem Reps.append : ∀ {cs ds : List D} {vs us : List Value} {F G H : Foot},Reps w S cs vs F → Reps w S ds us G → dis F G → le F H → le G H → Reps w S (cs ++ ds) (vs ++ us) H
  | [],ds,vs,us,F,G,H,h,h',_,_,hg => by
    simp only [Reps] at h
    subst h
    exact h'.mono hg
  | c :: cs,ds,vs,us,F,G,H,h,h',hd,hf,hg => by
    simp only [Reps] at h
    obtain ⟨v,vs',F1,F2,rfl,h1,h2,h3,h4,h5⟩ := h
    simp only [List.cons_append,Reps]
    refine ⟨v,vs' ++ us,F1,F2.or G,rfl,h1.trans hf,or_le (h2.trans hf) hg,?_,h4,Reps.append h5 h' (hd.le h2 (le_refl _)) (le_or_left _ _) (le_or_right _ _)⟩
    exact fun b o x y => y.elim (fun y => h3 b o x y) (fun y => hd b o (h1 b o x) y)
theorem Reps.take : ∀ {cs : List D} {vs : List Value} {G : Foot} (n : Nat),Reps w S cs vs G → Reps w S (cs.take n) (vs.take n) G
  | [],vs,G,n,h => by simp only [Reps] at h; subst h; simp [Reps]
  | c :: cs,vs,G,0,h => by simp [Reps]
  | c :: cs,vs,G,n + 1,h => by
    simp only [Reps] at h
    obtain ⟨v,us,F1,F2,rfl,h1,h2,h3,h4,h5⟩ := h
    simp only [List.take_succ_cons,Reps]
    exact ⟨v,us.take n,F1,F2,rfl,h1,h2,h3,h4,Reps.take n h5⟩
theorem Reps.drop : ∀ {cs : List D} {vs : List Value} {G : Foot} (n : Nat),Reps w S cs vs G → Reps w S (cs.drop n) (vs.drop n) G
  | [],vs,G,n,h => by simp only [Reps] at h; subst h; simp [Reps]
  | c :: cs,vs,G,0,h => by simpa using h
  | c :: cs,vs,G,n + 1,h => by
    simp only [Reps] at h
    obtain ⟨v,us,F1,F2,rfl,h1,h2,h3,h4,h5⟩ := h
    simp only [List.drop_succ_cons]
    exact (Reps.drop n h5).mono h2
theorem lies.drop {b off : Nat} {vs : List Value} (h : lies w b off vs) (n : Nat) : lies w b (off + n) (vs.drop n) := by
  intro i v hv
  rw [List.getElem?_drop] at hv
  have := h _ _ hv
  rwa [← Nat.add_assoc] at this
theorem lies.take {b off : Nat} {vs : List Value} (h : lies w b off vs) (n : Nat) : lies w b off (vs.take n) := by
  intro i v hv
  rw [List.getElem?_take] at hv
  split at hv
  · exact h _ _ hv
  · cases hv
theorem Reps.nth : ∀ {cs : List D} {vs : List Value} {F : Foot} {k : Nat} {c : D},Reps w S cs vs F → cs[k]? = some c → ∃ v F1,vs[k]? = some v ∧ le F1 F ∧ Rep w S c v F1
  | [],_,_,_,_,_,h => by simp at h
  | c0 :: cs,vs,F,0,c,hr,hk => by
    simp only [Reps] at hr
    obtain ⟨v0,us,F1,F2,rfl,h1,h2,h3,h4,h5⟩ := hr
    simp at hk
    subst hk
    exact ⟨v0,F1,by simp,h1,h4⟩
  | c0 :: cs,vs,F,k + 1,c,hr,hk => by
    simp only [Reps] at hr
    obtain ⟨v0,us,F1,F2,rfl,h1,h2,h3,h4,h5⟩ := hr
    simp at hk
    obtain ⟨v,F',hv,hle,hr⟩ := Reps.nth h5 hk
    exact ⟨v,F',by simpa using hv,hle.trans h2,hr⟩
theorem Reps.set : ∀ {cs : List D} {vs : List Value} {F : Foot} {k : Nat} {c x : D} {u : Value} {H : Foot},Reps w S cs vs F → cs[k]? = some c → Rep w S x u H → dis H F → Reps w S (cs.set k x) (vs.set k u) (F.or H)
  | [],_,_,_,_,_,_,_,_,h,_,_ => by simp at h
  | c0 :: cs,vs,F,0,c,x,u,H,hr,hk,hx,hd => by
    simp only [Reps] at hr
    obtain ⟨v0,us,F1,F2,rfl,h1,h2,h3,h4,h5⟩ := hr
    simp only [List.set_cons_zero,Reps]
    exact ⟨u,us,H,F2,rfl,le_or_right _ _,fun b o x => .inl (h2 b o x),hd.le (le_refl _) h2,hx,h5⟩
  | c0 :: cs,vs,F,k + 1,c,x,u,H,hr,hk,hx,hd => by
    simp only [Reps] at hr
    obtain ⟨v0,us,F1,F2,rfl,h1,h2,h3,h4,h5⟩ := hr
    simp at hk
    simp only [List.set_cons_succ,Reps]
    refine ⟨v0,us.set k u,F1,F2.or H,rfl,fun b o x => .inl (h1 b o x),fun b o x => x.elim (fun x => .inl (h2 b o x)) .inr,?_,h4,Reps.set h5 hk hx (hd.le (le_refl _) h2)⟩
    exact fun b o x y => y.elim (fun y => h3 b o x y) (fun y => hd b o y (h1 b o x))
def D.noOwn : D → Prop
  | .bx o _ => o = false
  | .sl o _ _ => o = false
  | .ifc _ _ cs => all cs
  | .fn _ cs => all cs
  | _ => True
where
  all : List D → Prop
  | [] => True
  | c :: cs => c.noOwn ∧ all cs
mutual
theorem Rep.noOwn : ∀ {c : D} {v : Value} {F : Foot},Rep w S c v F → c.noOwn → Rep w S c v no
  | .sc _,v,F,h,_ => h
  | .bx o row,v,F,h,ho => by
    simp only [D.noOwn] at ho
    subst ho
    simp only [Rep,Bool.false_eq_true,if_false] at h ⊢
    exact h
  | .sl o z row,v,F,h,ho => by
    simp only [D.noOwn] at ho
    subst ho
    simp only [Rep,Bool.false_eq_true,if_false] at h ⊢
    exact h
  | .ifc t ag cs,v,F,h,ho => by
    simp only [D.noOwn] at ho
    simp only [Rep] at h ⊢
    obtain ⟨u,rfl,h⟩ := h
    refine ⟨u,rfl,?_⟩
    cases ag with
    | true =>
      simp only [if_true] at h ⊢
      obtain ⟨vs,rfl,h⟩ := h
      exact ⟨vs,rfl,Reps.noOwn h ho⟩
    | false =>
      simp only [Bool.false_eq_true,if_false] at h ⊢
      exact Reps.noOwn h ho
  | .fn f cs,v,F,h,ho => by
    simp only [D.noOwn] at ho
    simp only [Rep] at h ⊢
    obtain ⟨vs,rfl,h⟩ := h
    exact ⟨vs,rfl,Reps.noOwn h ho⟩
  | .junk,v,F,h,_ => h
theorem Reps.noOwn : ∀ {cs : List D} {vs : List Value} {F : Foot},Reps w S cs vs F → D.noOwn.all cs → Reps w S cs vs no
  | [],vs,F,h,_ => h
  | c :: cs,vs,F,h,ho => by
    simp only [D.noOwn.all] at ho
    simp only [Reps] at h ⊢
    obtain ⟨v,us,F1,F2,rfl,h1,h2,h3,h4,h5⟩ := h
    exact ⟨v,us,no,no,rfl,le_refl _,le_refl _,no_dis _,Rep.noOwn h4 ho.1,Reps.noOwn h5 ho.2⟩
end
theorem noOwn_append : ∀ {a b : List D},D.noOwn.all a → D.noOwn.all b → D.noOwn.all (a ++ b)
  | [],_,_,h => h
  | _ :: _,_,h,h' => ⟨h.1,noOwn_append h.2 h'⟩
theorem noOwn_mem : ∀ {a : List D},(∀ x ∈ a,x.noOwn) → D.noOwn.all a
  | [],_ => trivial
  | x :: a,h => ⟨h x (by simp),noOwn_mem fun y hy => h y (by simp [hy])⟩
theorem noOwn_of_mem : ∀ {a : List D},D.noOwn.all a → ∀ x ∈ a,x.noOwn
  | [],_,_,h => by simp at h
  | x :: a,h,y,hy => by
    rcases List.mem_cons.1 hy with rfl | hy
    · exact h.1
    · exact noOwn_of_mem h.2 y hy
theorem Reps.nthNo {cs : List D} {vs : List Value} {k : Nat} {c : D} (h : Reps w S cs vs no) (hk : cs[k]? = some c) : ∃ v,vs[k]? = some v ∧ Rep w S c v no := by
  obtain ⟨v,F1,h1,h2,h3⟩ := h.nth hk
  exact ⟨v,h1,h3.mono h2⟩
end
end Go.Proofs.YtegpggobfdcafaaGreat
end
