/- Parts of the proof (4 of 19). -/
import Derived.ArgAppend
import Derived.Test.YtegpggobfdcafaaGreatQ3
section
set_option linter.unusedVariables false
set_option linter.unusedSimpArgs false
namespace Go.Proofs.YtegpggobfdcafaaGreat
open Go Foot
section
variable {w w' : World} {S F F' : Foot} {ρ ρ' : Env}
theorem cell_set_same {b o : Nat} {v u : Value} (h : w.cell? ⟨b,o,none⟩ = some v) : (w.setCell ⟨b,o,none⟩ u).cell? ⟨b,o,none⟩ = some u := by
  unfold World.cell? at h ⊢
  unfold World.setCell
  simp only [Array.getElem?_modify]
  cases hb : w.heap[b]? with
  | none => rw [hb] at h; simp at h
  | some ob =>
    rw [hb] at h
    cases ob <;> simp at h
    rename_i c e fr
    simp only [if_true,Option.map_some]
    have hlt : o < c.size := (Array.getElem?_eq_some_iff.1 h).1
    simp [hlt]
theorem cell_set_ne {b o b' o' : Nat} {u : Value} (h : ¬ (b' = b ∧ o' = o)) : (w.setCell ⟨b,o,none⟩ u).cell? ⟨b',o',none⟩ = w.cell? ⟨b',o',none⟩ := by
  unfold World.cell? World.setCell
  simp only [Array.getElem?_modify]
  by_cases hb : b = b'
  · subst hb
    have ho : o ≠ o' := fun e => h ⟨rfl,e.symm⟩
    cases hh : w.heap[b]? with
    | none => simp
    | some ob => cases ob <;> simp [ho]
  · simp [hb]
theorem frozen_set {b o b' o' : Nat} {u : Value} : (w.setCell ⟨b,o,none⟩ u).frozen? ⟨b',o',none⟩ = w.frozen? ⟨b',o',none⟩ := by
  unfold World.frozen? World.setCell
  simp only [Array.getElem?_modify]
  by_cases hb : b = b'
  · subst hb
    cases hh : w.heap[b]? with
    | none => simp
    | some ob => cases ob <;> simp
  · simp [hb]
theorem map_set {b o b' : Nat} {u : Value} : mapAt (w.setCell ⟨b,o,none⟩ u) b' = mapAt w b' := by
  unfold mapAt
  simp only [World.setCell,Array.getElem?_modify]
  by_cases hb : b = b'
  · subst hb
    simp only [if_true]
    cases hh : w.heap[b]? with
    | none => rfl
    | some ob =>
      cases ob with
      | cells cs T fr =>
        simp only [Option.map_some,Option.some.injEq,Obj.cells.injEq,and_true]
        apply Array.ext (by simp)
        intro i h1 h2
        rw [Array.getElem_map,Array.getElem_map]
      | _ => rfl
  · simp only [if_neg hb]
theorem keeps_set (b o : Nat) (u : Value) : Keeps (fun b' o' => b' = b ∧ o' = o) w (w.setCell ⟨b,o,none⟩ u) := by
  refine ⟨rfl,rfl,rfl,by simp [World.setCell],fun b' hb hn => ?_,fun b' o' hb hn => ⟨cell_set_ne hn,frozen_set,map_set⟩⟩
  have : b ≠ b' := fun e => hn o ⟨e.symm,rfl⟩
  simp [World.setCell,Array.getElem?_modify,this]
theorem heap_alloc (ob : Obj) : (w.alloc ob).heap = w.heap.push ob := rfl
theorem run_newRow {P : Program} (e : TypeId) (cs : Array Value) : (newRow e cs).run P w = .ok ⟨w.heap.size,0,none⟩ (w.alloc (.cells cs e)) := rfl
theorem keeps_alloc (ob : Obj) : Keeps no w (w.alloc ob) := by
  have hh : ∀ b,b < w.heap.size → (w.alloc ob).heap[b]? = w.heap[b]? := fun b hb => by rw [heap_alloc]; simp [Array.getElem?_push,Nat.ne_of_lt hb]
  refine ⟨rfl,rfl,rfl,by simp,fun b hb _ => hh b hb,fun b o hb _ => ?_⟩
  simp [World.cell?,World.frozen?,mapAt,hh b hb]
theorem lies_alloc (vs : List Value) (e : TypeId) : lies (w.alloc (.cells vs.toArray e)) w.heap.size 0 vs := by
  intro i v hv
  simp [World.cell?,heap_alloc,hv]
theorem free_alloc (vs : List Value) (e : TypeId) : free (w.alloc (.cells vs.toArray e)) w.heap.size 0 vs.length := by
  intro i hi
  simp [World.cell?,World.frozen?,heap_alloc,hi]
theorem keeps_sets (b : Nat) : ∀ (us : List Value) (o : Nat) (w : World),Keeps (rng b o us.length) w (w.setCells b o us)
  | [],o,w => Keeps.refl _ _
  | u :: us,o,w => by
    have h1 := (keeps_set (w := w) b o u).mono (F1 := rng b o (us.length + 1)) (by rintro b' o' ⟨rfl,rfl⟩; exact ⟨rfl,by omega,by omega⟩)
    have h2 := (keeps_sets b us (o + 1) (w.setCell ⟨b,o,none⟩ u)).mono (F1 := rng b o (us.length + 1)) (by rintro b' o' ⟨rfl,h1,h2⟩; exact ⟨rfl,by omega,by omega⟩)
    exact h1.trans h2 (fun b' o' h => .inl h)
theorem keeps_drew : Keeps no w w.drew := ⟨rfl,rfl,rfl,Nat.le_refl _,fun _ _ _ => rfl,fun _ _ _ _ => ⟨rfl,rfl,rfl⟩⟩
theorem Done.new {g : Nat} {gb : GB} {u : Value} {S S1 : Foot} {Fs : Nat → Foot} {G : Foot} (hk : Keeps no w w') (hn : ρ g = none) (hr : ∀ ρ',Env.le ρ ρ' → ρ' g = some u → RepG w' S ρ' gb u G) (hG : ∀ b o,G b o → w.heap.size ≤ b ∧ b < w'.heap.size) :
    Done w w' S no ρ (fun i => if i = g then some u else ρ i) Fs (fun i => if i = g then G else Fs i) [] [(g,gb)] := by
  have hsub : Env.le ρ (fun i => if i = g then some u else ρ i) := by
    intro i x hx
    by_cases hi : i = g
    · subst hi; rw [hn] at hx; cases hx
    · simp [hi,hx]
  refine ⟨by simp,hk.mono (no_le _),no_le _,fun _ _ h => h.elim,hsub,?_,?_,?_,?_,?_,?_⟩
  · intro i hi hm
    have : i ≠ g := fun e => hm gb (by subst e; simp)
    simp [this,hi]
  · intro x hx
    obtain rfl : x = (g,gb) := by simpa using hx
    refine .inr ⟨u,by simp,?_⟩
    rw [or_no]
    simp only [if_true]
    exact hr _ hsub (by simp)
  · intro x hx
    obtain rfl : x = (g,gb) := by simpa using hx
    simp only [if_true]
    exact fun b o hb => .inr (hG b o hb).1
  · intro x hx
    obtain rfl : x = (g,gb) := by simpa using hx
    simp only [if_true]
    exact fun b o hb => (hG b o hb).2
  · exact fun _ _ => dis_no _
  · intro x hx y hy hne
    obtain rfl : x = (g,gb) := by simpa using hx
    obtain rfl : y = (g,gb) := by simpa using hy
    exact absurd rfl hne
theorem Done.chg {g : Nat} {gb : GB} {u : Value} {S : Foot} {Fs : Nat → Foot} {G : Foot} (hk : Keeps (Fs g) w w') (hu : ρ g = some u) (hr : RepG w' S ρ gb u G) (hG : ∀ b o,G b o → (Fs g b o ∨ w.heap.size ≤ b) ∧ b < w'.heap.size) :
    Done w w' S no ρ ρ Fs (fun i => if i = g then G else Fs i) [g] [(g,gb)] := by
  refine ⟨by simp,hk.mono (fun b o h => ⟨g,by simp,h⟩),no_le _,fun _ _ h => h.elim,Env.le.refl _,fun _ h _ => h,?_,?_,?_,?_,?_⟩
  · intro x hx
    obtain rfl : x = (g,gb) := by simpa using hx
    refine .inr ⟨u,hu,?_⟩
    rw [or_no]
    simp only [if_true]
    exact hr
  · intro x hx
    obtain rfl : x = (g,gb) := by simpa using hx
    simp only [if_true]
    exact fun b o hb => (hG b o hb).1.imp (fun h => ⟨g,by simp,h⟩) id
  · intro x hx
    obtain rfl : x = (g,gb) := by simpa using hx
    simp only [if_true]
    exact fun b o hb => (hG b o hb).2
  · exact fun _ _ => dis_no _
  · intro x hx y hy hne
    obtain rfl : x = (g,gb) := by simpa using hx
    obtain rfl : y = (g,gb) := by simpa using hy
    exact absurd rfl hne
theorem Done.swapU {g g' : Nat} {gb : GB} {u u' : Value} {S : Foot} {Fs : Nat → Foot} {G : Foot} (hk : Keeps (Fs g) w w') (hu : ρ g = some u) (hn : ρ g' = none) (hr : ∀ ρ',Env.le ρ ρ' → ρ' g' = some u' → RepG w' S ρ' gb u' G) (hG : ∀ b o,G b o → (Fs g b o ∨ w.heap.size ≤ b) ∧ b < w'.heap.size) :
    Done w w' S no ρ (fun i => if i = g' then some u' else ρ i) Fs (fun i => if i = g' then G else if i = g then no else Fs i) [g] [(g',gb),(g,.dead)] := by
  have hne : g ≠ g' := by rintro rfl; rw [hn] at hu; cases hu
  have hsub : Env.le ρ (fun i => if i = g' then some u' else ρ i) := by
    intro i x hx
    by_cases hi : i = g'
    · subst hi; rw [hn] at hx; cases hx
    · simp [hi,hx]
  have hno : ∀ {b o : Nat},¬ (no b o) := fun h => h
  refine ⟨fun i hi => ⟨.dead,by simp at hi; subst hi; simp⟩,hk.mono (fun b o h => ⟨g,by simp,h⟩),no_le _,fun _ _ h => h.elim,hsub,?_,?_,?_,?_,fun _ _ => dis_no _,?_⟩
  · intro i hi hm
    have : i ≠ g' := fun e => hm gb (by subst e; simp)
    simp [this,hi]
  · intro x hx
    rw [or_no]
    simp only [List.mem_cons,List.not_mem_nil,or_false] at hx
    rcases hx with rfl | rfl
    · refine .inr ⟨u',by simp,?_⟩
      simp only [if_true]
      exact hr _ hsub (by simp)
    · exact .inl rfl
  · intro x hx
    simp only [List.mem_cons,List.not_mem_nil,or_false] at hx
    rcases hx with rfl | rfl
    · simp only [if_true]
      exact fun b o hb => (hG b o hb).1.imp (fun h => ⟨g,by simp,h⟩) id
    · simp only [if_neg hne,if_true]
      exact no_le _
  · intro x hx
    simp only [List.mem_cons,List.not_mem_nil,or_false] at hx
    rcases hx with rfl | rfl
    · simp only [if_true]
      exact fun b o hb => (hG b o hb).2
    · simp only [if_neg hne,if_true]
      exact fun b o hb => hb.elim
  · intro x hx y hy hxy
    simp only [List.mem_cons,List.not_mem_nil,or_false] at hx hy
    rcases hx with rfl | rfl <;> rcases hy with rfl | rfl
    · exact absurd rfl hxy
    · simp only [if_neg hne,if_true]; exact dis_no _
    · simp only [if_neg hne,if_true]; exact no_dis _
    · exact absurd rfl hxy
theorem Done.swap {g g' : Nat} {gb : GB} {u u' : Value} {S : Foot} {Fs : Nat → Foot} {G : Foot} (hk : Keeps (Fs g) w w') (hu : ρ g = some u) (hn : ρ g' = none) (hr : ∀ ρ',Env.le ρ ρ' → RepG w' S ρ' gb u' G) (hG : ∀ b o,G b o → (Fs g b o ∨ w.heap.size ≤ b) ∧ b < w'.heap.size) :
    Done w w' S no ρ (fun i => if i = g' then some u' else ρ i) Fs (fun i => if i = g' then G else if i = g then no else Fs i) [g] [(g',gb),(g,.dead)] :=
  Done.swapU hk hu hn (fun ρ' hl _ => hr ρ' hl) hG
end
def zeroC (P : Program) (T : Nat) : Option (List Value) := match P.info? T with
  | some i => match i.zero with
    | some v => bif v.cells.toList.all Value.oneCell' then some v.cells.toList else none
    | none => none
  | none => none
def scC : Value → C := fun v => .d (.sc v)
def scD : Value → D := fun v => .sc v
def SV.cells : SV → Option (List C)
  | .one c => some [c]
  | .agg cs => some cs
  | _ => none
theorem RepS.cells {w : World} {S : Foot} {ρ : Env} {sv : SV} {v : Value} {cs : List C} (h : RepS w S ρ sv v) (hc : sv.cells = some cs) : RepCs w S ρ cs v.cells.toList := by
  cases sv with
  | one c =>
    simp only [SV.cells,Option.some.injEq] at hc
    subst hc
    have h1 : RepC w S ρ c v := h
    have ho := h1.one
    have : v.cells.toList = [v] := by cases v <;> simp_all [Value.cells,Value.oneCell']
    rw [this]
    exact ⟨v,[],rfl,h1,rfl⟩
  | agg cs' =>
    simp only [SV.cells,Option.some.injEq] at hc
    subst hc
    obtain ⟨vs,rfl,h⟩ := h
    exact h
  | _ => cases hc
theorem reps_sc {w : World} {S : Foot} : ∀ {vs : List Value},vs.all Value.oneCell' = true → Reps w S (vs.map scD) vs no
  | [],_ => rfl
  | v :: vs,h => by
    simp only [List.all_cons,Bool.and_eq_true] at h
    exact ⟨v,vs,no,no,rfl,le_refl _,le_refl _,no_dis _,⟨rfl,h.1⟩,reps_sc h.2⟩
def sizeB (P : Program) (t n : Nat) : Bool := match P.info? t with | some i => Nat.beq i.size n | none => false
def setRow {α : Type} : List α → Nat → List α → List α
  | cs,_,[] => cs
  | cs,off,x :: xs => setRow (cs.set off x) (off + 1) xs
theorem setRow_length {α : Type} : ∀ (xs : List α) (cs : List α) (off : Nat),(setRow cs off xs).length = cs.length
  | [],_,_ => rfl
  | x :: xs,cs,off => by simp [setRow,setRow_length xs]
theorem RepCs.setRow {w : World} {S : Foot} {ρ : Env} : ∀ {xs : List C} {us : List Value} {cs : List C} {vs : List Value} {off : Nat},RepCs w S ρ cs vs → RepCs w S ρ xs us → RepCs w S ρ (setRow cs off xs) (setRow vs off us)
  | [],us,cs,vs,off,h,hx => by simp only [RepCs] at hx; subst hx; exact h
  | x :: xs,us,cs,vs,off,h,hx => by
    simp only [RepCs] at hx
    obtain ⟨v0,us,rfl,h1,h2⟩ := hx
    exact RepCs.setRow (off := off + 1) (h.set (k := off) h1) h2
section
variable {P : Program} {w : World}
theorem run_storeAt {T b off : Nat} {v : Value} {w' : World} (hT : sizeB P T v.cells.size = true) (h : (storeCells ⟨b,off,none⟩ v.cells.toList 0).run P w = .ok () w') : (Instr.storeAt T (.pointer (some ⟨b,off,none⟩)) v).run P w = .ok () w' := by
  unfold sizeB at hT
  split at hT
  · rename_i i hi
    have hs : i.size = v.cells.size := Nat.eq_of_beq_eq_true hT
    simp [Instr.storeAt,Instr.sureAddr,storeVar,sizeOf,typeInfo,hi,hs,h]
  · cases hT
theorem setRow_get {α : Type} : ∀ (us vs : List α) (off k : Nat),off + us.length ≤ vs.length → (setRow vs off us)[k]? = if off ≤ k ∧ k < off + us.length then us[k - off]? else vs[k]?
  | [],vs,off,k,_ => by simp only [setRow,List.length_nil,Nat.add_zero]; rw [if_neg (by omega)]
  | u :: us,vs,off,k,h => by
    simp only [List.length_cons] at h
    have ih := setRow_get us (vs.set off u) (off + 1) k (by simp; omega)
    simp only [setRow,ih,List.length_cons]
    by_cases h1 : off + 1 ≤ k ∧ k < off + 1 + us.length
    · rw [if_pos h1,if_pos (by omega),show k - off = (k - (off + 1)) + 1 by omega,List.getElem?_cons_succ]
    · rw [if_neg h1]
      by_cases h2 : k = off
      · subst h2
        rw [if_pos (by omega),List.getElem?_set_self (by omega)]
        simp
      · rw [if_neg (by omega),List.getElem?_set_ne (Ne.symm h2)]
theorem run_stores (b : Nat) : ∀ (us : List Value) (k off : Nat) (w : World),(∀ u ∈ us,u.oneCell' = true) → free w b (off + k) us.length →
    ∃ w',(storeCells ⟨b,off,none⟩ us k).run P w = .ok () w' ∧ Keeps (rng b (off + k) us.length) w w' ∧ (∀ i u,us[i]? = some u → w'.cell? ⟨b,off + k + i,none⟩ = some u) ∧ (∀ b' o',w'.frozen? ⟨b',o',none⟩ = w.frozen? ⟨b',o',none⟩) ∧ w'.heap.size = w.heap.size
  | [],k,off,w,_,_ => ⟨w,by simp [storeCells],Keeps.refl _ _,by simp,fun _ _ => rfl,rfl⟩
  | u :: us,k,off,w,h1,hf => by
    have hf0 := hf 0 (by simp)
    rw [Nat.add_zero] at hf0
    obtain ⟨v,hv⟩ := Option.isSome_iff_exists.1 hf0.1
    have hu1 := h1 u List.mem_cons_self
    have hfr : free (w.setCell ⟨b,off + k,none⟩ u) b (off + (k + 1)) us.length := by
      intro i hi
      have := hf (i + 1) (by simp; omega)
      rw [show off + (k + 1) + i = off + k + (i + 1) by omega,frozen_set]
      refine ⟨?_,this.2⟩
      rw [cell_set_ne (by omega)]
      exact this.1
    obtain ⟨w',e1,e2,e3,e4,e5⟩ := run_stores b us (k + 1) off (w.setCell ⟨b,off + k,none⟩ u) (fun x hx => h1 x (List.mem_cons_of_mem _ hx)) hfr
    have hk1 := (keeps_set (w := w) b (off + k) u).mono (F1 := rng b (off + k) (us.length + 1)) (by rintro b' o' ⟨rfl,rfl⟩; exact ⟨rfl,by omega,by omega⟩)
    have hk2 := e2.mono (F1 := rng b (off + k) (us.length + 1)) (by rintro b' o' ⟨rfl,h1,h2⟩; exact ⟨rfl,by omega,by omega⟩)
    refine ⟨w',?_,hk1.trans hk2 (fun b' o' h => .inl h),?_,?_,?_⟩
    · unfold storeCells
      rw [addr_add]
      simp only [Sem.run_bind,store]
      have : (Sem.store .plain ⟨b,off + k,none⟩ u (Sem.pure ())).run P w = .ok () (w.setCell ⟨b,off + k,none⟩ u) := by
        cases u <;> simp_all [Sem.run,Value.oneCell']
      first
        | (rw [this]; simp only [Result.andThen_ok]; exact e1)
        | (simp only [this,Result.andThen_ok]; exact e1)
    · intro i x hx
      cases i with
      | zero =>
        simp at hx
        subst hx
        rw [Nat.add_zero]
        have hb : b < (w.setCell ⟨b,off + k,none⟩ u).heap.size := by
          have : b < w.heap.size := by
            unfold World.cell? at hv
            cases hh : w.heap[b]? with
            | none => rw [hh] at hv; simp at hv
            | some ob => exact (Array.getElem?_eq_some_iff.1 hh).1
          simpa [World.setCell] using this
        rw [(e2.cell b (off + k) hb (by rintro ⟨_,h,_⟩; omega)).1]
        exact cell_set_same hv
      | succ i =>
        have := e3 i x (by simpa using hx)
        rw [show off + k + (i + 1) = off + (k + 1) + i by omega]
        exact this
    · intro b' o'; rw [e4,frozen_set]
    · rw [e5]; simp [World.setCell]
end
section
variable {P : Program} {g : Gh} {st : St} {sv : SV}
variable {dst : Option Tmp} {ty : TypeId} {pos : String} {after : Array Edge} {guard : Option (Nat × Bool)} {x y z : Operand}
theorem RepCs.one {w : World} {S : Foot} {ρ : Env} {cs : List C} {vs : List Value} (h : RepCs w S ρ cs vs) : ∀ u ∈ vs,u.oneCell' = true := by
  intro u hu
  obtain ⟨k,hk,rfl⟩ := List.getElem_of_mem hu
  have hl := h.length
  obtain ⟨v,hv,hr⟩ := h.nth (List.getElem?_eq_getElem (by omega : k < cs.length))
  rw [List.getElem?_eq_getElem hk] at hv
  cases hv
  exact hr.one
theorem Reps.one {w : World} {S F : Foot} {cs : List D} {vs : List Value} (h : Reps w S cs vs F) : ∀ u ∈ vs,u.oneCell' = true := by
  intro u hu
  obtain ⟨k,hk,rfl⟩ := List.getElem_of_mem hu
  have hl := h.length
  obtain ⟨v,F1,hv,_,hr⟩ := h.nth (List.getElem?_eq_getElem (by omega : k < cs.length))
  rw [List.getElem?_eq_getElem hk] at hv
  cases hv
  exact hr.one
theorem repG_new {w : World} {S : Foot} {ρ : Env} {cs : List C} {vs : List Value} (e : TypeId) (hS : ∀ b o,S b o → b < w.heap.size) (h : RepCs w S ρ cs vs) (ρ' : Env) (hl : Env.le ρ ρ') :
    RepG (w.alloc (.cells vs.toArray e)) S ρ' (.bx cs) (.pointer (some ⟨w.heap.size,0,none⟩)) (rng w.heap.size 0 cs.length) := by
  have hlen := h.length
  exact ⟨w.heap.size,0,vs,rfl,lies_alloc vs e,h.keep ((keeps_alloc _).agree hS (dis_no _)) (le_refl _) hl,le_refl _,hlen ▸ free_alloc vs e⟩
theorem a_alloc {T i : Nat} {vs : List Value} {cs : List C} (hT : zeroC P T = some vs) (hcs : vs.map scC = cs) : Acts P g ⟨dst,.alloc T,ty,pos,after,guard⟩ st (.one (.gv i)) [] [(i,.bx cs)] := by
  subst hcs
  refine ⟨fun a w S ρ F h hn K Q hK => ?_⟩
  have hn' : ρ i = none := by simpa using hn (i,.bx (vs.map scC)) (by simp)
  clear hn
  unfold zeroC at hT
  split at hT
  case h_2 => cases hT
  rename_i inf hi
  split at hT
  case h_2 => cases hT
  rename_i zv hz
  cases hb : zv.cells.toList.all Value.oneCell' with
  | false => rw [hb] at hT; cases hT
  | true =>
    rw [hb] at hT
    simp only [cond_true,Option.some.injEq] at hT
    subst hT
    have hrun : (execOp a.eval ⟨dst,.alloc T,ty,pos,after,guard⟩).run P w = .ok (.value (.pointer (some ⟨w.heap.size,0,none⟩))) (w.alloc (.cells zv.cells.toList.toArray T)) := by
      simp [execOp,Instr.alloc,zeroValue,typeInfo,hi,hz,run_newRow,go_sem]
    refine oper_in (fun _ h => nomatch h) ?_
    rw [hrun,Oper.uponIn_value]
    exact hK _ _ no _ _ (Done.new (S1 := no) (keeps_alloc _) hn' (fun ρ' hl _ => repG_new T h.exS (repCs_sc hb) ρ' hl) (by rintro b o ⟨rfl,_,_⟩; simp)) ⟨by simp,rfl⟩
theorem a_box {T i : Nat} {cs : List C} (hs : (opd st x).cells = some cs) : Acts P g ⟨dst,.box T x,ty,pos,after,guard⟩ st (.one (.gv i)) [] [(i,.bx cs)] := by
  refine ⟨fun a w S ρ F h hn K Q hK => ?_⟩
  have hn : ρ i = none := by simpa using hn (i,.bx cs) (by simp)
  have hc := (h.opd x).cells hs
  have hrun : (execOp a.eval ⟨dst,.box T x,ty,pos,after,guard⟩).run P w = .ok (.value (.pointer (some ⟨w.heap.size,0,none⟩))) (w.alloc (.cells (a.eval x).cells.toList.toArray T)) := by
    show (do pure (.value (← Instr.box T (a.eval x))) : Sem Next).run P w = _
    simp [Instr.box,run_newRow,go_sem]
  refine oper_in (fun _ h => nomatch h) ?_
  rw [hrun,Oper.uponIn_value]
  exact hK _ _ no _ _ (Done.new (S1 := no) (keeps_alloc _) hn (fun ρ' hl _ => repG_new T h.exS hc ρ' hl) (by rintro b o ⟨rfl,_,_⟩; simp)) ⟨by simp,rfl⟩
theorem lies_stored {w w' : World} {b off k : Nat} {vs us : List Value} {F0 : Foot} (hl : lies w b off vs) (hb : vs ≠ [] → b < w.heap.size) (hk : Keeps (rng b (off + k) us.length) w w') (hc : ∀ i u,us[i]? = some u → w'.cell? ⟨b,off + k + i,none⟩ = some u) (hkn : k + us.length ≤ vs.length) : lies w' b off (setRow vs k us) := by
  intro i v hv
  rw [setRow_get us vs k i hkn] at hv
  split at hv
  · rename_i hin
    have := hc (i - k) v hv
    rw [show off + k + (i - k) = off + i by omega] at this
    exact this
  · rename_i hout
    have hne : vs ≠ [] := by rintro rfl; simp at hv
    rw [(hk.cell b (off + i) (hb hne) (by rintro ⟨_,h1,h2⟩; exact hout ⟨by omega,by omega⟩)).1]
    exact hl i v hv
theorem free_stored {w w' : World} {b off k n : Nat} {us : List Value} (hf : free w b off n) (hb : 0 < n → b < w.heap.size) (hk : Keeps (rng b (off + k) us.length) w w') (hc : ∀ i u,us[i]? = some u → w'.cell? ⟨b,off + k + i,none⟩ = some u) (hfr : ∀ b' o',w'.frozen? ⟨b',o',none⟩ = w.frozen? ⟨b',o',none⟩) : free w' b off n := by
  intro i hi
  rw [hfr]
  refine ⟨?_,(hf i hi).2⟩
  by_cases hin : k ≤ i ∧ i < k + us.length
  · have := hc (i - k) _ (List.getElem?_eq_getElem (by omega : i - k < us.length))
    rw [show off + k + (i - k) = off + i by omega] at this
    rw [this]
    rfl
  · rw [(hk.cell b (off + i) (hb (by omega)) (by rintro ⟨_,h1,h2⟩; exact hin ⟨by omega,by omega⟩)).1]
    exact (hf i hi).1
theorem run_st {a : Act} {w w' : World} {T : Nat} (h : (Instr.storeAt T (a.eval x) (a.eval y)).run P w = .ok () w') : (execOp a.eval ⟨dst,.store T x y,ty,pos,after,guard⟩).run P w = .ok .skip w' := by
  show (do Instr.storeAt T (a.eval x) (a.eval y); pure .skip : Sem Next).run P w = _
  simp [h]
theorem block_lt {w : World} {b o : Nat} (h : (w.cell? ⟨b,o,none⟩).isSome = true) : b < w.heap.size := by
  unfold World.cell? at h
  cases hh : w.heap[b]? with
  | none => rw [hh] at h; simp at h
  | some ob => exact (Array.getElem?_eq_some_iff.1 hh).1
theorem a_st_bx {T i k : Nat} {c0 : C} {cs xs cs' : List C} (hc : opd st x = .one c0) (ht : tgt st c0 = some (i,k)) (hg : lkG st.h i = .bx cs) (hs : (opd st y).cells = some xs) (hT : sizeB P T xs.length = true) (hk : k + xs.length ≤ cs.length) (he : setRow cs k xs = cs') :
    Acts P g ⟨none,.store T x y,ty,pos,after,guard⟩ st .any [i] [(i,.bx cs')] := by
  subst he
  refine ⟨fun a w S ρ F h _ K Q hK => ?_⟩
  obtain ⟨b,off,vs,e1,e2,e3,e4,e5,e6⟩ := h.tgt_bx (opd_one h hc) ht hg
  have hy := (h.opd y).cells hs
  have hyl := hy.length
  have hvl := e4.length
  have hfr : free w b (off + k) (a.eval y).cells.toList.length := by
    intro j hj
    have := e6 (k + j) (by omega)
    rwa [← Nat.add_assoc] at this
  obtain ⟨w',r1,r2,r3,r4,r5⟩ := run_stores (P := P) b (a.eval y).cells.toList 0 (off + k) w hy.one (by simpa using hfr)
  rw [Nat.add_zero] at r2 r3
  have hrun := run_st (P := P) (x := x) (y := y) (T := T) (dst := none) (ty := ty) (pos := pos) (after := after) (guard := guard) (a := a) (w := w) (w' := w') (by rw [e1]; exact run_storeAt (by rw [← Array.length_toList,hyl]; exact hT) r1)
  refine oper_in (fun _ h => nomatch h) ?_
  rw [hrun,Oper.uponIn_skip]
  have hin : le (rng b (off + k) (a.eval y).cells.toList.length) (F i) := fun b' o' ⟨q1,q2,q3⟩ => e5 b' o' ⟨q1,by omega,by omega⟩
  have hk' := r2.mono hin
  have hbl : 0 < cs.length → b < w.heap.size := fun h0 => block_lt (e6 0 h0).1
  have hagS : Agree w w' S := hk'.agree h.exS (fun b o hb hf => h.disS i b o hf hb)
  refine hK undef w' no ρ _ (Done.chg (G := F i) hk' e2 ?_ (fun b o hb => ⟨.inl hb,by rw [r5]; exact h.ex i b o hb⟩)) trivial
  refine ⟨b,off,setRow vs k (a.eval y).cells.toList,rfl,lies_stored (F0 := no) e3 (fun hne => hbl (by rw [← hvl]; exact List.length_pos_iff.2 hne)) r2 r3 (by omega),(RepCs.setRow e4 hy).keep hagS (le_refl _) (Env.le.refl _),?_,?_⟩
  · rw [setRow_length]; exact e5
  · rw [setRow_length]; exact free_stored e6 hbl r2 r3 r4
theorem Reps.setRow {w : World} {S : Foot} : ∀ {xs : List D} {us : List Value} {cs : List D} {vs : List Value} {off : Nat} {G : Foot},Reps w S cs vs G → Reps w S xs us no → off + xs.length ≤ cs.length → Reps w S (setRow cs off xs) (setRow vs off us) G
  | [],us,cs,vs,off,G,h,hx,_ => by simp only [Reps] at hx; subst hx; exact h
  | x :: xs,us,cs,vs,off,G,h,hx,hl => by
    simp only [Reps] at hx
    obtain ⟨v0,us,F1,F2,rfl,h1,h2,h3,h4,h5⟩ := hx
    simp only [List.length_cons] at hl
    have := h.set (k := off) (List.getElem?_eq_getElem (by omega)) (h4.mono h1) (no_dis _)
    rw [or_no] at this
    exact Reps.setRow (off := off + 1) this (h5.mono h2) (by simp; omega)
def cD (h : List (Nat × GB)) : C → Option D
  | .gv g => match lkG h g with
    | .sh z xs => some (.sl false z xs)
    | _ => none
  | c => c.toD
def allD (h : List (Nat × GB)) : List C → Option (List D)
  | [] => some []
  | c :: cs => match cD h c,allD h cs with | some x,some xs => some (x :: xs) | _,_ => none
theorem rel_cD {a : Act} {w : World} {S : Foot} {ρ : Env} {F : Nat → Foot} (h : Rel g st a w S ρ F) {c : C} {v : Value} {x : D} (hc : RepC w S ρ c v) (hx : cD st.h c = some x) : Rep w S x v no := by
  cases c with
  | gv i =>
    simp only [cD] at hx
    split at hx
    · rename_i z xs hk
      cases hx
      exact h.shv hc (by simp [shv,hk])
    · cases hx
  | d y => exact RepC.toD hc hx
  | gp i o => exact RepC.toD hc hx
  | gs g z lo hi => exact RepC.toD hc hx
  | ifc t ag cs => exact RepC.toD hc hx
  | fn f cs => exact RepC.toD hc hx
theorem rel_allD {a : Act} {w : World} {S : Foot} {ρ : Env} {F : Nat → Foot} (h : Rel g st a w S ρ F) : ∀ {cs : List C} {vs : List Value} {xs : List D},RepCs w S ρ cs vs → allD st.h cs = some xs → Reps w S xs vs no
  | [],vs,xs,hc,hx => by simp only [allD,Option.some.injEq] at hx; subst hx; exact hc
  | c :: cs,vs,xs,hc,hx => by
    simp only [allD] at hx
    split at hx
    · rename_i x xs' h1 h2
      cases hx
      simp only [RepCs] at hc
      obtain ⟨v,us,rfl,h3,h4⟩ := hc
      exact ⟨v,us,no,no,rfl,le_refl _,le_refl _,no_dis _,rel_cD h h3 h1,rel_allD h h4 h2⟩
    · cases hx
theorem a_st_row {T i k zz : Nat} {c0 : C} {xs : List C} {ds ys ys' : List D} (hc : opd st x = .one c0) (ht : tgt st c0 = some (i,k)) (hg : lkG st.h i = .row zz ys) (hs : (opd st y).cells = some xs) (hd : allD st.h xs = some ds) (hT : sizeB P T ds.length = true) (h0 : 0 < ds.length) (hk : k + ds.length ≤ ys.length) (he : setRow ys k ds = ys') :
    Acts P g ⟨none,.store T x y,ty,pos,after,guard⟩ st .any [i] [(i,.row zz ys')] := by
  subst he
  refine ⟨fun a w S ρ F h _ K Q hK => ?_⟩
  obtain ⟨b,off,vs,G,len,cap,e1,e2,e3,e4,e5,e6,e7,e8,e9,e10,e11⟩ := h.tgt_row (opd_one h hc) ht hg (by omega)
  have hy := rel_allD h ((h.opd y).cells hs) hd
  have hyl := hy.length
  have hvl := e7.length
  have hcap : ys.length ≤ cap * zz := by rw [e3]; exact Nat.mul_le_mul_right _ e5
  have hfr : free w b (off + k) (a.eval y).cells.toList.length := by
    intro j hj
    have := e11 (k + j) (by omega)
    rwa [← Nat.add_assoc] at this
  obtain ⟨w',r1,r2,r3,r4,r5⟩ := run_stores (P := P) b (a.eval y).cells.toList 0 (off + k) w hy.one (by simpa using hfr)
  rw [Nat.add_zero] at r2 r3
  have hrun := run_st (P := P) (x := x) (y := y) (T := T) (dst := none) (ty := ty) (pos := pos) (after := after) (guard := guard) (a := a) (w := w) (w' := w') (by rw [e1]; exact run_storeAt (by rw [← Array.length_toList,hyl]; exact hT) r1)
  refine oper_in (fun _ h => nomatch h) ?_
  rw [hrun,Oper.uponIn_skip]
  have hin : le (rng b (off + k) (a.eval y).cells.toList.length) (F i) := fun b' o' ⟨q1,q2,q3⟩ => e8 b' o' ⟨q1,by omega,by omega⟩
  have hk' := r2.mono hin
  have hbl : b < w.heap.size := block_lt (e11 0 (by omega)).1
  have hagS : Agree w w' S := hk'.agree h.exS (fun b o hb hf => h.disS i b o hf hb)
  have hagG : Agree w w' G := r2.agree (fun b o hb => h.ex i b o (e9 b o hb)) (fun b' o' hb ⟨q1,q2,q3⟩ => e10 b' o' ⟨q1,by omega,by omega⟩ hb)
  refine hK undef w' no ρ _ (Done.chg (G := F i) hk' e2 ?_ (fun b o hb => ⟨.inl hb,by rw [r5]; exact h.ex i b o hb⟩)) trivial
  simp only [RepG,Rep,if_true]
  refine ⟨_,len,cap,rfl,by rw [setRow_length]; exact e3,e4,e5,.inr ⟨b,off,setRow vs k (a.eval y).cells.toList,G,rfl,lies_stored (F0 := no) e6 (fun _ => hbl) r2 r3 (by omega),(Reps.setRow e7 hy hk).keep hagG hagS (le_refl _) (le_refl _),e8,e9,e10,?_⟩⟩
  exact free_stored e11 (fun _ => hbl) r2 r3 r4
end
end Go.Proofs.YtegpggobfdcafaaGreat
end
section
set_option linter.unusedVariables false
set_option linter.unusedSimpArgs false
namespace Go.Proofs.YtegpggobfdcafaaGreat
open Go Foot
section
variable {P : Program} {w w' : World} {S F G : Foot}
def appB (P : Program) (T z bytes : Nat) : Bool := match P.underlying T with
  | some (.slice e) => match P.info? e with
    | some i => Nat.beq i.size z && Nat.beq i.bytes bytes && (match i.zero with | some v => Nat.beq v.cells.size z | none => false)
    | none => false
  | _ => false
theorem rep_append {T ty z bytes : Nat} (hT : appB P T z bytes = true) {row row2 : List D} {us : List Value} {v : Value} {a2 : Option Addr} {n2 c2 : Nat} (hr : Rep w S (.sl true z row) v F)
    (hsrc : n2 = 0 ∨ ∃ b2 off2,a2 = some ⟨b2,off2,none⟩ ∧ lies w b2 off2 us) (hus : Reps w S row2 us G) (hl2 : row2.length = n2 * z) (hGF : dis G F)
    (hF : ∀ b o,F b o → b < w.heap.size) (hG : ∀ b o,G b o → b < w.heap.size) (hS : ∀ b o,S b o → b < w.heap.size) (hFS : dis F S)
    (h63 : cnt z row + n2 ≤ 9223372036854775807) (hby : (cnt z row + n2) * bytes ≤ 140737488355328) :
    ∃ v' w' F',(Builtin.append_ #[T,T] ty #[v,.slice a2 n2 c2]).run P w = .ok v' w' ∧ Keeps F w w' ∧ Rep w' S (.sl true z (row ++ row2)) v' F' ∧
      (∀ b o,F' b o → (F b o ∨ G b o ∨ w.heap.size ≤ b) ∧ b < w'.heap.size) := by
  unfold appB at hT
  split at hT
  case h_2 => cases hT
  rename_i e hu
  split at hT
  case h_2 => cases hT
  rename_i i hi
  simp only [Bool.and_eq_true] at hT
  obtain ⟨⟨hz1,hb1⟩,hz3⟩ := hT
  have hz1 := Nat.eq_of_beq_eq_true hz1
  have hb1 := Nat.eq_of_beq_eq_true hb1
  subst hz1 hb1
  split at hz3
  case h_2 => cases hz3
  rename_i zv hzv
  have hzs := Nat.eq_of_beq_eq_true hz3
  have hul := hus.length
  have h1c : ∀ u ∈ us,u.oneCell' = true := hus.one
  simp only [Rep,if_true] at hr
  obtain ⟨ad,len,cap,rfl,hlr,hz,hlc,hr⟩ := hr
  have hcn : cnt i.size row = len := by unfold cnt; rw [hlr]; exact Nat.mul_div_cancel _ hz
  rw [hcn] at h63 hby
  have hrowlen : (row ++ row2).length = (len + n2) * i.size := by rw [List.length_append,hlr,hl2,Nat.add_mul]
  by_cases hroom : len + n2 ≤ cap
  · -- room
    rcases hr with ⟨rfl,ha⟩ | ⟨b,off,vs,G0,rfl,hl,hrs,h1,h2,h3,h4⟩
    · obtain rfl := ha (by trivial)
      have hlen0 : len = 0 := by omega
      have hn0 : n2 = 0 := by omega
      subst hlen0 hn0
      have hrow : row = [] := by simpa using hlr
      have hrow2 : row2 = [] := by simpa using hl2
      subst hrow hrow2
      refine ⟨.slice none 0 0,w,no,?_,Keeps.refl _ _,?_,fun _ _ hb => hb.elim⟩
      · rcases hsrc with _ | ⟨b2,off2,rfl,_⟩
        · cases a2 <;> simp [Builtin.append_,run_underlying hu,sizeOf,typeInfo,hi,Builtin.lenOf,Builtin.firstCells,loadCells,loadCellsFrom]
        · simp [Builtin.append_,run_underlying hu,sizeOf,typeInfo,hi,Builtin.lenOf,Builtin.firstCells,loadCells,loadCellsFrom]
      · simp only [Rep,if_true]
        exact ⟨none,0,0,rfl,by simp,hz,Nat.le_refl _,.inl ⟨rfl,fun _ => rfl⟩⟩
    · have hvl := hrs.length
      have hspan : len * i.size + us.length ≤ cap * i.size := by
        rw [hul,hl2,← Nat.add_mul]
        exact Nat.mul_le_mul_right _ hroom
      have hsub : le (rng b (off + len * i.size) us.length) F := fun b' o' ⟨e1,e2,e3⟩ => h1 _ _ ⟨e1,by omega,by omega⟩
      have hk := (keeps_sets b us (off + len * i.size) w).mono hsub
      have hrun : (Builtin.append_ #[T,T] ty #[.slice (some ⟨b,off,none⟩) len cap,.slice a2 n2 c2]).run P w = .ok (.slice (some ⟨b,off,none⟩) (len + n2) cap) (w.setCells b (off + len * i.size) us) := by
        rcases hsrc with rfl | ⟨b2,off2,rfl,hl'⟩
        · have : us = [] := by cases us with | nil => rfl | cons _ _ => simp at hul hl2; rw [hl2] at hul; simp at hul
          subst this
          cases a2 <;> simp [Builtin.append_,run_underlying hu,sizeOf,typeInfo,hi,Builtin.lenOf,Builtin.firstCells,loadCells,loadCellsFrom,hlc,storeCells,World.setCells]
        · exact run_append_room_cells (P := P) w T ty e i hu hi b off len cap ⟨b2,off2,none⟩ n2 c2 us (hul.trans hl2) (fun j u hj => by rw [addr_add]; exact hl' j u hj) h1c hroom
            (fun j hj => by rw [Nat.add_assoc]; exact (h4 _ (by omega)).1) (fun j hj => by rw [Nat.add_assoc]; exact (h4 _ (by omega)).2)
      refine ⟨_,_,F.or G,hrun,hk,?_,fun b' o' hb => ⟨hb.elim .inl (fun h => .inr (.inl h)),Nat.lt_of_lt_of_le (hb.elim (hF _ _) (hG _ _)) hk.size⟩⟩
      have hagS : Agree w (w.setCells b (off + len * i.size) us) S := hk.agree hS hFS.symm
      have hagG : Agree w (w.setCells b (off + len * i.size) us) G := hk.agree hG hGF
      have hagR : ∀ X : Foot,(∀ b o,X b o → b < w.heap.size) → dis X (rng b (off + len * i.size) us.length) → Agree w (w.setCells b (off + len * i.size) us) X := fun X hx hd => (keeps_sets b us (off + len * i.size) w).agree hx hd
      have hagG0 : Agree w (w.setCells b (off + len * i.size) us) G0 := hagR G0 (fun b' o' hb => hF _ _ (h2 _ _ hb)) (fun b' o' hb hb' => h3 b' o' (by obtain ⟨e1,e2,e3⟩ := hb'; exact ⟨e1,by omega,by omega⟩) hb)
      simp only [Rep,if_true]
      refine ⟨some ⟨b,off,none⟩,len + n2,cap,rfl,hrowlen,hz,hroom,.inr ⟨b,off,vs ++ us,G0.or G,rfl,?_,Reps.append (Reps.keep hrs hagG0 hagS (le_refl _) (le_refl _)) (Reps.keep hus hagG hagS (le_refl _) (le_refl _)) (hGF.symm.le h2 (le_refl _)) (le_or_left _ _) (le_or_right _ _),fun b' o' hb => .inl (h1 _ _ hb),or_le (h2.trans (le_or_left _ _)) (le_or_right _ _),?_,?_⟩⟩
      · intro k u hk'
        rw [List.getElem?_append] at hk'
        split at hk'
        · rename_i hlt
          have hag := hagR (rng b off vs.length) (fun b' o' ⟨e1,e2,e3⟩ => hF b' o' (h1 _ _ ⟨e1,by omega,by omega⟩)) (fun b' o' ⟨_,_,e3⟩ ⟨_,e5,_⟩ => by omega)
          rw [(hag b (off + k) ⟨rfl,by omega,by omega⟩).1]
          exact hl k u hk'
        · rename_i hge
          have hj : k - vs.length < us.length := (List.getElem?_eq_some_iff.1 hk').1
          have := World.cell?_setCells_in b us (off + len * i.size) w (fun j hj => by rw [Nat.add_assoc]; exact (h4 _ (by omega)).1) (k - vs.length) hj
          rw [show off + k = off + len * i.size + (k - vs.length) by omega]
          rw [this]
          rw [List.getElem?_eq_getElem hj] at hk'
          exact hk'
      · exact fun b' o' h5 h6 => h6.elim (fun h6 => h3 b' o' h5 h6) (fun h6 => hGF b' o' h6 (h1 _ _ h5))
      · intro k hk'
        rw [World.frozen?_setCells]
        refine ⟨?_,(h4 k hk').2⟩
        by_cases hin : len * i.size ≤ k ∧ k < len * i.size + us.length
        · have := World.cell?_setCells_in b us (off + len * i.size) w (fun j hj => by rw [Nat.add_assoc]; exact (h4 _ (by omega)).1) (k - len * i.size) (by omega)
          rw [show off + k = off + len * i.size + (k - len * i.size) by omega,this]
          rfl
        · rw [World.cell?_setCells_out b us (off + len * i.size) w ⟨b,off + k,none⟩ (fun _ _ => by show off + k < off + len * i.size ∨ off + len * i.size + us.length ≤ off + k; omega)]
          exact (h4 k hk').1
  · -- grows
    have hn2 : 0 < n2 := by omega
    obtain ⟨b2,off2,rfl,hl'⟩ : ∃ b2 off2,a2 = some ⟨b2,off2,none⟩ ∧ lies w b2 off2 us := by
      rcases hsrc with h | h
      · omega
      · exact h
    have hge := grownCap_ge w (len + n2) cap e
    have key : ∃ vs G0,vs.length = row.length ∧ Reps w S row vs G0 ∧ le G0 F ∧ ∃ W,W = w.drew.alloc (.cells (vs.toArray ++ us.toArray ++ Builtin.zeroCells zv.cells (grownCap w (len + n2) cap e - (len + n2))) e) ∧
        (Builtin.append_ #[T,T] ty #[.slice ad len cap,.slice (some ⟨b2,off2,none⟩) n2 c2]).run P w = .ok (.slice (some ⟨w.heap.size,0,none⟩) (len + n2) (grownCap w (len + n2) cap e)) W := by
      rcases hr with ⟨rfl,ha⟩ | ⟨b,off,vs,G0,rfl,hl,hrs,h1,h2,h3,h4⟩
      · obtain rfl := ha (by trivial)
        have hlen0 : len = 0 := by omega
        subst hlen0
        have hrow : row = [] := by simpa using hlr
        subst hrow
        refine ⟨[],no,rfl,by simp [Reps],no_le _,_,rfl,?_⟩
        have hby' : n2 * i.bytes ≤ 140737488355328 := by simpa using hby
        have := run_append_nil (P := P) w T ty e i zv hu hi hzv ⟨b2,off2,none⟩ n2 c2 us (hul.trans hl2) (fun j u hj => by rw [addr_add]; exact hl' j u hj) hn2 (by omega) (by omega)
        simpa using this
      · have hvl := hrs.length
        refine ⟨vs,G0,hvl,hrs,h2,_,rfl,?_⟩
        exact run_append_grow (P := P) w T ty e i zv hu hi hzv ⟨b,off,none⟩ len cap vs (hvl.trans hlr) (fun j u hj => by rw [addr_add]; exact hl j u hj) ⟨b2,off2,none⟩ n2 c2 us (hul.trans hl2) (fun j u hj => by rw [addr_add]; exact hl' j u hj) (by omega) (by omega) (growslice_fits (by omega) hby)
    obtain ⟨vs,G0,hvl,hrs,hG0,W,hW,hrun⟩ := key
    have hk : Keeps no w W := by
      rw [hW]
      exact keeps_drew.trans (keeps_alloc _) (no_le _)
    have hsz : W.heap.size = w.heap.size + 1 := by rw [hW,heap_alloc,Array.size_push]; rfl
    have hcells : W.heap[w.heap.size]? = some (.cells (vs.toArray ++ us.toArray ++ Builtin.zeroCells zv.cells (grownCap w (len + n2) cap e - (len + n2))) e) := by
      rw [hW,heap_alloc]
      exact Array.getElem?_push_size
    have hfull : (vs.toArray ++ us.toArray ++ Builtin.zeroCells zv.cells (grownCap w (len + n2) cap e - (len + n2))).size = grownCap w (len + n2) cap e * i.size := by
      simp only [Array.size_append,List.size_toArray,size_zeroCells,hzs,hvl,hlr,hul,hl2,← Nat.add_mul]
      congr 1
      omega
    refine ⟨_,W,(rng w.heap.size 0 (grownCap w (len + n2) cap e * i.size)).or (G0.or G),hrun,hk.mono (no_le _),?_,?_⟩
    · simp only [Rep,if_true]
      refine ⟨some ⟨w.heap.size,0,none⟩,len + n2,_,rfl,hrowlen,hz,hge,.inr ⟨w.heap.size,0,vs ++ us,G0.or G,rfl,?_,Reps.append (Reps.keep hrs (hk.agree (fun b o hb => hF _ _ (hG0 _ _ hb)) (dis_no _)) (hk.agree hS (dis_no _)) (le_refl _) (le_refl _)) (Reps.keep hus (hk.agree hG (dis_no _)) (hk.agree hS (dis_no _)) (le_refl _) (le_refl _)) (hGF.symm.le hG0 (le_refl _)) (le_or_left _ _) (le_or_right _ _),le_or_left _ _,le_or_right _ _,?_,?_⟩⟩
      · intro k u hk'
        have hkl : k < (vs ++ us).length := (List.getElem?_eq_some_iff.1 hk').1
        simp only [World.cell?,hcells]
        simp only [Nat.zero_add,Option.isSome_none,Bool.false_eq_true,if_false]
        rw [Array.getElem?_append_left (by simpa using hkl)]
        simpa using hk'
      · rintro b' o' ⟨rfl,_,_⟩ hb
        have : w.heap.size < w.heap.size := hb.elim (fun hb => hF _ _ (hG0 _ _ hb)) (fun hb => hG _ _ hb)
        omega
      · intro k hk'
        have : k < (vs.toArray ++ us.toArray ++ Builtin.zeroCells zv.cells (grownCap w (len + n2) cap e - (len + n2))).size := by rw [hfull]; exact hk'
        simp only [World.cell?,World.frozen?,hcells,Nat.zero_add]
        simp only [Option.isSome_none,Bool.false_eq_true,if_false]
        rw [Array.getElem?_eq_getElem this]
        simp
    · rintro b' o' (⟨rfl,_,_⟩ | hb)
      · exact ⟨.inr (.inr (Nat.le_refl _)),by omega⟩
      · refine ⟨hb.elim (fun h => .inl (hG0 _ _ h)) (fun h => .inr (.inl h)),?_⟩
        have := hb.elim (fun h => hF _ _ (hG0 _ _ h)) (fun h => hG _ _ h)
        omega
end
section
variable {P : Program} {g : Gh} {st : St} {sv : SV}
variable {dst : Option Tmp} {ty : TypeId} {pos : String} {after : Array Edge} {guard : Option (Nat × Bool)} {x y z : Operand}
theorem rel_src {a : Act} {w : World} {S : Foot} {ρ : Env} {F : Nat → Foot} (h : Rel g st a w S ρ F) {c : C} {v : Value} {z : Nat} {row : List D} (hc : RepC w S ρ c v) (hs : slv st c = some (z,row)) (hno : D.noOwn.all row) :
    ∃ ad len cap us,v = .slice ad len cap ∧ row.length = len * z ∧ 0 < z ∧ cnt z row = len ∧ (len = 0 ∨ ∃ b off,ad = some ⟨b,off,none⟩ ∧ lies w b off us) ∧ Reps w S row us no := by
  obtain ⟨ow,G,h1⟩ := h.slv hc hs
  obtain ⟨ad,len,cap,hv,hlr,hz,hlc,hcn⟩ := sl_len h1
  simp only [Rep] at h1
  obtain ⟨ad',len',cap',he,hlr',_,hlc',h2⟩ := h1
  rw [hv] at he
  simp only [Value.slice.injEq] at he
  obtain ⟨rfl,rfl,rfl⟩ := he
  rcases h2 with ⟨rfl,_⟩ | ⟨b,off,vs,G0,rfl,hl,hr,_⟩
  · have : len = 0 := by omega
    subst this
    have : row = [] := by simpa using hlr
    subst this
    exact ⟨_,0,0,[],hv,by simp,hz,hcn,.inl rfl,rfl⟩
  · exact ⟨_,len,cap,vs,hv,hlr,hz,hcn,.inr ⟨b,off,rfl,hl⟩,hr.noOwn hno⟩
theorem run_app {a : Act} {w w' : World} {T : Nat} {v v1 v2 : Value} (e1 : a.eval x = v1) (e2 : a.eval y = v2) (h : (Builtin.append_ #[T,T] ty #[v1,v2]).run P w = .ok v w') : (execOp a.eval ⟨dst,.call { callee := .builtin .append,args := #[x,y],argTypes := #[T,T] },ty,pos,after,guard⟩).run P w = .ok (.value v) w' := by
  simp only [execOp,resolve,invoke,builtin]
  simp [e1,e2,h,builtin]
theorem a_appG {T i j zz bytes n2 : Nat} {row : List D} {gb : GB} (hT : appB P T zz bytes = true) (hx : opd st x = .one (.gv i)) (hg : lkG st.h i = .row zz row) (hji : ¬ j = i)
    (hsrc : ∀ a w S ρ F,Rel g st a w S ρ F → ∃ ad len cap us row2,a.eval y = .slice ad len cap ∧ row2.length = len * zz ∧ n2 = len ∧ (len = 0 ∨ ∃ b off,ad = some ⟨b,off,none⟩ ∧ lies w b off us) ∧ Reps w S row2 us no ∧ ∀ ρ' u w' F',Env.le ρ ρ' → ρ' j = some u → Rep w' S (.sl true zz (row ++ row2)) u F' → RepG w' S ρ' gb u F')
    (h63 : cnt zz row + n2 ≤ 9223372036854775807) (hby : (cnt zz row + n2) * bytes ≤ 140737488355328) :
    Acts P g ⟨dst,.call { callee := .builtin .append,args := #[x,y],argTypes := #[T,T] },ty,pos,after,guard⟩ st (.one (.gv j)) [i] [(j,gb),(i,.dead)] := by
  refine ⟨fun a w S ρ F h hn K Q hK => ?_⟩
  have hn' : ρ j = none := by simpa [hji] using hn (j,gb) (by simp)
  rcases h.root i with h0 | ⟨u,r1,r2⟩
  · rw [hg] at h0; cases h0
  rw [hg] at r2
  have hx1 := (opd_one h hx).1
  rw [r1] at hx1
  simp only [Option.some.injEq] at hx1
  obtain ⟨ad,len,cap,us,row2,e1,e2,e4,e5,e6,hgb⟩ := hsrc _ _ _ _ _ h
  rw [e4] at h63 hby
  obtain ⟨v',w',F',q1,q2,q3,q4⟩ := rep_append (ty := ty) (c2 := cap) hT (show Rep w S (.sl true zz row) u (F i) from r2) e5 e6 e2 (no_dis _) (h.ex i) (fun _ _ h => h.elim) h.exS (h.disS i) h63 hby
  have hrun := run_app (dst := dst) (pos := pos) (after := after) (guard := guard) hx1.symm e1 q1
  refine oper_in (fun _ h => nomatch h) ?_
  rw [hrun,Oper.uponIn_value]
  refine hK v' w' no _ _ (Done.swapU (G := F') q2 r1 hn' (fun ρ' hl hu => hgb _ _ _ _ hl hu q3) (fun b o hb => ⟨(q4 b o hb).1.imp id (fun h => h.elim (fun h => h.elim) id),(q4 b o hb).2⟩)) ⟨by simp,q3.one⟩
theorem a_app {T i j zz bytes : Nat} {c2 : C} {row row2 row' : List D} (hT : appB P T zz bytes = true) (hx : opd st x = .one (.gv i)) (hg : lkG st.h i = .row zz row) (hy : opd st y = .one c2) (hs : slv st c2 = some (zz,row2)) (hno : D.noOwn.all row2)
    (h63 : cnt zz row + cnt zz row2 ≤ 9223372036854775807) (hby : (cnt zz row + cnt zz row2) * bytes ≤ 140737488355328) (he : row ++ row2 = row') (hji : ¬ j = i) :
    Acts P g ⟨dst,.call { callee := .builtin .append,args := #[x,y],argTypes := #[T,T] },ty,pos,after,guard⟩ st (.one (.gv j)) [i] [(j,.row zz row'),(i,.dead)] := by
  subst he
  refine a_appG (n2 := cnt zz row2) hT hx hg hji (fun a w S ρ F h => ?_) h63 hby
  obtain ⟨ad,len,cap,us,e1,e2,e3,e4,e5,e6⟩ := rel_src h (opd_one h hy) hs hno
  exact ⟨ad,len,cap,us,row2,e1,e2,e4,e5,e6,fun _ _ _ _ _ _ hr => hr⟩
def bndOk (st : St) (dflt : Nat) : Option Operand → Nat → Prop
  | none,n => n = dflt
  | some x,n => ∃ k i,opd st x = .one (.d (.sc (.int k i))) ∧ 0 ≤ i ∧ i.toNat = n
theorem run_slice {w : World} {T z len cap l u : Nat} {ad : Option Addr} {lo hi : Option Value} (hT : sliceB P T z = true) (hlo : (lo = none ∧ l = 0) ∨ ∃ k,lo = some (.int k l)) (hhi : (hi = none ∧ u = len) ∨ ∃ k,hi = some (.int k u)) (h1 : l ≤ u) (h2 : u ≤ len) (h3 : len ≤ cap) :
    (Instr.sliceAt T (.slice ad len cap) lo hi none).run P w = .ok (.slice (if cap = l then ad else ad.map (·.add (l * z))) (u - l) (cap - l)) w := by
  unfold sliceB at hT
  split at hT
  · rename_i e hu
    split at hT
    · rename_i i hi'
      have hs := Nat.eq_of_beq_eq_true hT
      subst hs
      have a1 : (u : Int) ≤ cap := by omega
      have a2 : (l : Int) ≤ u := by omega
      have a3 : (l : Int) ≤ len := by omega
      have b1 : u ≤ cap := by omega
      have b2 : ¬ cap < u := by omega
      have b3 : ¬ u < l := by omega
      have b4 : l ≤ len := by omega
      have b5 : ¬ len < l := by omega
      rcases hlo with ⟨rfl,rfl⟩ | ⟨k,rfl⟩ <;> rcases hhi with ⟨rfl,rfl⟩ | ⟨k',rfl⟩ <;>
        simp [Instr.sliceAt,run_underlying hu,Instr.slice,Instr.sliceBounds,Instr.sliceBound,asIntOf,sizeOf,typeInfo,hi',a1,a2,a3,b1,b2,b3,b4,b5,h1,h3]
    · cases hT
  · cases hT
theorem bnd_eval {a : Act} {w : World} {S : Foot} {ρ : Env} {F : Nat → Foot} (h : Rel g st a w S ρ F) {dflt n : Nat} {x : Option Operand} (hb : bndOk st dflt x n) : (x.map a.eval = none ∧ n = dflt) ∨ ∃ k,x.map a.eval = some (.int k n) := by
  cases x with
  | none => exact .inl ⟨rfl,hb⟩
  | some x =>
    obtain ⟨k,i,h1,h2,h3⟩ := hb
    have : i = (n : Int) := by omega
    subst this
    exact .inr ⟨k,by simp [opd_sc h h1]⟩
theorem a_slice_imm {T zz l u : Nat} {c : C} {row es : List D} {lo hi : Option Operand} (hc : opd st x = .one c) (hs : shv st c = some (zz,row)) (hlo : bndOk st 0 lo l) (hhi : bndOk st (cnt zz row) hi u) (hT : sliceB P T zz = true) (h1 : l ≤ u) (h2 : u ≤ cnt zz row) (he : (row.drop (l * zz)).take ((u - l) * zz) = es) :
    Acts P g ⟨dst,.slice T x lo hi none,ty,pos,after,guard⟩ st (.one (.d (.sl false zz es))) [] [] := by
  subst he
  refine acts_of fun a w S ρ F h => ?_
  have hx1 := h.shv (opd_one h hc) hs
  obtain ⟨ad,len,cap,hv,hlr,hz,hlc,hcn⟩ := sl_len hx1
  simp only [RepS,RepC,Rep,Bool.false_eq_true,if_false] at hx1 ⊢
  obtain ⟨ad',len',cap',he,hlr',hz',hlc',h2'⟩ := hx1
  rw [hv] at he
  simp only [Value.slice.injEq] at he
  obtain ⟨e1,e2,e3⟩ := he
  subst e1 e2 e3
  rw [hcn] at hhi h2
  have hm : (u - l) * zz + l * zz = u * zz := by rw [← Nat.add_mul]; congr 1; omega
  have hm2 : u * zz ≤ row.length := by rw [hlr]; exact Nat.mul_le_mul_right _ h2
  refine ⟨.slice (if cap = l then ad else ad.map (·.add (l * zz))) (u - l) (cap - l),?_,⟨_,u - l,cap - l,rfl,?_,hz,by omega,?_⟩⟩
  · show (do pure (.value (← Instr.sliceAt T (a.eval x) (lo.map a.eval) (hi.map a.eval) (none.map a.eval))) : Sem Next).run P w = _
    rw [hv]
    have := run_slice (P := P) (w := w) (ad := ad) (cap := cap) hT (bnd_eval h hlo) (bnd_eval h hhi) h1 h2 hlc
    simp only [Option.map_none,Sem.run_bind,this]
    rfl
  · simp only [List.length_take,List.length_drop]; omega
  · rcases h2' with ⟨rfl,_⟩ | ⟨b,of0,vs,G,rfl,hl,hrs,hle,rfl⟩
    · exact .inl ⟨by omega,fun h => by cases h⟩
    · refine .inr ?_
      split
      · rename_i hcl
        have hul : u - l = 0 := by omega
        refine ⟨b,of0,[],no,rfl,fun i v hv => by simp at hv,?_,?_,rfl⟩
        · rw [hul]; simp [Reps]
        · rw [hul]; simp only [Nat.zero_mul,List.take_zero,List.length_nil]; rintro b' o' ⟨_,e1,e2⟩; omega
      · refine ⟨b,of0 + l * zz,(vs.drop (l * zz)).take ((u - l) * zz),no,by simp [addr_add],(hl.drop _).take _,(hrs.drop _).take _,?_,rfl⟩
        rintro b' o' ⟨rfl,e1,e2⟩
        simp only [List.length_take,List.length_drop] at e2
        exact hle _ _ ⟨rfl,by omega,by omega⟩
theorem a_slice_own {T zz l u i j : Nat} {row es : List D} {lo hi : Option Operand} (hx : opd st x = .one (.gv i)) (hg : lkG st.h i = .row zz row) (hlo : bndOk st 0 lo l) (hhi : bndOk st (cnt zz row) hi u) (hT : sliceB P T zz = true) (h1 : l ≤ u) (h2 : u ≤ cnt zz row) (he : (row.drop (l * zz)).take ((u - l) * zz) = es) (hji : ¬ j = i) :
    Acts P g ⟨dst,.slice T x lo hi none,ty,pos,after,guard⟩ st (.one (.gv j)) [i] [(j,.row zz es),(i,.dead)] := by
  subst he
  refine ⟨fun a w S ρ F h hn K Q hK => ?_⟩
  have hn' : ρ j = none := by simpa [hji] using hn (j,.row zz ((row.drop (l * zz)).take ((u - l) * zz))) (by simp)
  rcases h.root i with h0 | ⟨uu,r1,r2⟩
  · rw [hg] at h0; cases h0
  rw [hg] at r2
  have hx1 := (opd_one h hx).1
  rw [r1] at hx1
  simp only [Option.some.injEq] at hx1
  simp only [RepG,Rep,if_true] at r2
  obtain ⟨ad,len,cap,he,hlr,hz,hlc,hr⟩ := r2
  have hcn : cnt zz row = len := by unfold cnt; rw [hlr]; exact Nat.mul_div_cancel _ hz
  rw [hcn] at hhi h2
  have hm : (u - l) * zz + l * zz = u * zz := by rw [← Nat.add_mul]; congr 1; omega
  have hm2 : u * zz ≤ row.length := by rw [hlr]; exact Nat.mul_le_mul_right _ h2
  have hm3 : (cap - l) * zz + l * zz = cap * zz := by rw [← Nat.add_mul]; congr 1; omega
  have hrun : (execOp a.eval ⟨dst,.slice T x lo hi none,ty,pos,after,guard⟩).run P w = .ok (.value (.slice (if cap = l then ad else ad.map (·.add (l * zz))) (u - l) (cap - l))) w := by
    show (do pure (.value (← Instr.sliceAt T (a.eval x) (lo.map a.eval) (hi.map a.eval) (none.map a.eval))) : Sem Next).run P w = _
    rw [← hx1,he]
    have := run_slice (P := P) (w := w) (ad := ad) (cap := cap) hT (bnd_eval h hlo) (bnd_eval h hhi) h1 h2 hlc
    simp only [Option.map_none,Sem.run_bind,this]
    rfl
  refine oper_in (fun _ h => nomatch h) ?_
  rw [hrun,Oper.uponIn_value]
  have hrep : Rep w S (.sl true zz ((row.drop (l * zz)).take ((u - l) * zz))) (.slice (if cap = l then ad else ad.map (·.add (l * zz))) (u - l) (cap - l)) (F i) := by
    simp only [Rep,if_true]
    refine ⟨_,u - l,cap - l,rfl,?_,hz,by omega,?_⟩
    · simp only [List.length_take,List.length_drop]; omega
    · rcases hr with ⟨rfl,ha⟩ | ⟨b,of0,vs,G,rfl,hl,hrs,g1,g2,g3,g4⟩
      · obtain rfl := ha (by trivial)
        exact .inl ⟨by omega,fun _ => by split <;> rfl⟩
      · refine .inr ?_
        split
        · rename_i hcl
          have hul : u - l = 0 := by omega
          refine ⟨b,of0,[],no,rfl,fun i v hv => by simp at hv,?_,?_,no_le _,dis_no _,?_⟩
          · rw [hul]; simp [Reps]
          · rw [hcl]; simp only [Nat.sub_self,Nat.zero_mul]; rintro b' o' ⟨_,e1,e2⟩; omega
          · rw [hcl]; intro i hi; simp at hi
        · refine ⟨b,of0 + l * zz,(vs.drop (l * zz)).take ((u - l) * zz),G,by simp [addr_add],(hl.drop _).take _,(hrs.drop _).take _,?_,g2,?_,?_⟩
          · rintro b' o' ⟨rfl,e1,e2⟩
            exact g1 _ _ ⟨rfl,by omega,by omega⟩
          · rintro b' o' ⟨rfl,e1,e2⟩ hb
            exact g3 _ _ ⟨rfl,by omega,by omega⟩ hb
          · intro i hi
            have := g4 (l * zz + i) (by omega)
            rw [← Nat.add_assoc] at this
            exact this
  exact hK _ w no _ _ (Done.swap (G := F i) (Keeps.refl _ _) r1 hn' (fun ρ' hl => hrep) (fun b o hb => ⟨.inl hb,h.ex i b o hb⟩)) ⟨by simp,hrep.one⟩
theorem a_max {Ts : Array TypeId} {k k' : IntKind} {n m : Int} (e1 : opd st x = .one (.d (.sc (.int k n)))) (e2 : opd st y = .one (.d (.sc (.int k' m)))) :
    Acts P g ⟨dst,.call { callee := .builtin .max,args := #[x,y],argTypes := Ts },ty,pos,after,guard⟩ st (.one (.d (.sc (.int k (if m > n then m else n))))) [] [] := by
  refine acts_of fun a w S ρ F h => ⟨_,?_,⟨rfl,rfl⟩⟩
  simp [execOp,resolve,invoke,builtin,opd_sc h e1,opd_sc h e2,Builtin.max_,Builtin.max2]
def noIfc (P : Program) (T : Nat) : Bool := match P.underlying T with
  | some (.interface _) => false
  | some _ => true
  | none => false
theorem a_ifc {T : Nat} {c : C} (hc : opd st x = .one c) (hT : noIfc P T = true) : Acts P g ⟨dst,.makeInterface T x,ty,pos,after,guard⟩ st (.one (.ifc T false [c])) [] [] := by
  refine acts_of fun a w S ρ F h => ⟨.iface T (a.eval x),?_,⟨_,rfl,by simp only [Bool.false_eq_true,if_false]; exact ⟨_,[],rfl,opd_one h hc,rfl⟩⟩⟩
  show (do pure (.value (← Instr.makeInterface T (a.eval x))) : Sem Next).run P w = _
  unfold noIfc at hT
  split at hT
  · cases hT
  · rename_i d hd hu
    unfold Instr.makeInterface
    simp only [Sem.run_bind,run_underlying hu,Result.andThen_ok]
    first
      | rfl
      | (split
         · rename_i m; exact absurd rfl (hd m)
         · rfl)
  · cases hT
theorem a_ifcs {T : Nat} {cs : List C} (hc : opd st x = .agg cs) (hT : noIfc P T = true) : Acts P g ⟨dst,.makeInterface T x,ty,pos,after,guard⟩ st (.one (.ifc T true cs)) [] [] := by
  refine acts_of fun a w S ρ F h => ⟨.iface T (a.eval x),?_,⟨_,rfl,by have := h.opd x; rw [hc] at this; simp only [if_true]; exact this⟩⟩
  show (do pure (.value (← Instr.makeInterface T (a.eval x))) : Sem Next).run P w = _
  unfold noIfc at hT
  split at hT
  · cases hT
  · rename_i d hd hu
    unfold Instr.makeInterface
    simp only [Sem.run_bind,run_underlying hu,Result.andThen_ok]
    first
      | rfl
      | (split
         · rename_i m; exact absurd rfl (hd m)
         · rfl)
  · cases hT
def oneCells (st : St) : List Operand → Option (List C)
  | [] => some []
  | x :: xs => match opd st x,oneCells st xs with
    | .one c,some cs => some (c :: cs)
    | _,_ => none
theorem rel_oneCells {a : Act} {w : World} {S : Foot} {ρ : Env} {F : Nat → Foot} (h : Rel g st a w S ρ F) : ∀ {xs : List Operand} {cs : List C},oneCells st xs = some cs → RepCs w S ρ cs (xs.map a.eval)
  | [],cs,hc => by simp only [oneCells,Option.some.injEq] at hc; subst hc; rfl
  | x :: xs,cs,hc => by
    simp only [oneCells] at hc
    split at hc
    · rename_i c cs' h1 h2
      cases hc
      exact ⟨_,_,rfl,opd_one h h1,rel_oneCells h h2⟩
    · cases hc
theorem a_fn {f : Fn} {cap : List Operand} {cs : List C} (hc : oneCells st cap = some cs) : Acts P g ⟨dst,.makeFunc f #[] cap.toArray,ty,pos,after,guard⟩ st (.one (.fn f cs)) [] [] := by
  refine acts_of fun a w S ρ F h => ⟨.func f #[] (cap.map a.eval).toArray,?_,⟨_,rfl,by simpa using rel_oneCells h hc⟩⟩
  show (do pure (.value (← Instr.makeFunc f (#[].map a.eval) (cap.toArray.map a.eval))) : Sem Next).run P w = _
  simp [Instr.makeFunc]
end
def Turn (g : Gh) (st st' : St) : Prop := st.n ≤ st'.n ∧ ∀ a w S ρ F,Rel g st a w S ρ F → ∃ S' F',Rel g st' a w S' ρ F'
theorem g_turn {P : Program} {g : Gh} {st st' : St} {c : Code} {Q : Exit → St → Prop} (h : Turn g st st') (hk : GWp P g c st' Q) : GWp P g c st Q := ⟨fun a w S ρ F hr hf =>
  let ⟨S',F',h'⟩ := h.2 a w S ρ F hr; hk.run a w S' ρ F' h' (fun i hi => hf i (Nat.le_trans h.1 hi))⟩
theorem o_turn {P : Program} {g : Gh} {st st' : St} {ops : Array Oper} {l : List Oper} {Q : Exit → St → Prop} (h : Turn g st st') (hk : GOps P g ops l st' Q) : GOps P g ops l st Q := ⟨fun a w S ρ F hr hf =>
  let ⟨S',F',h'⟩ := h.2 a w S ρ F hr; hk.run a w S' ρ F' h' (fun i hi => hf i (Nat.le_trans h.1 hi))⟩
theorem sl_freeze {w : World} {S G : Foot} {z : Nat} {xs : List D} {v : Value} (h : Rep w S (.sl true z xs) v G) (hno : D.noOwn.all xs) : Rep w (S.or G) (.sl false z xs) v no := by
  simp only [Rep,if_true,Bool.false_eq_true,if_false] at h ⊢
  obtain ⟨a,len,cap,rfl,h1,h2,h3,h4⟩ := h
  refine ⟨a,len,cap,rfl,h1,h2,h3,h4.imp (fun x => ⟨x.1,fun h => h.elim⟩) ?_⟩
  rintro ⟨b,off,vs,G0,rfl,e1,e2,e3,e4,e5,e6⟩
  refine ⟨b,off,vs,no,rfl,e1,(e2.noOwn hno).keep Agree.no (Agree.refl _ _) (le_or_left _ _) (le_refl _),?_,rfl⟩
  have : xs.length ≤ cap * z := by rw [h1]; exact Nat.mul_le_mul_right _ h3
  exact ((rng_le this).trans e3).trans (le_or_right _ _)
section
variable {w : World} {S : Foot}
def Shut1 (x y : D) : Prop := ∀ (w : World) (S G F : Foot) (v : Value),Rep w S x v F → le F G → Rep w (S.or G) y v no
def ShutL (xs ys : List D) : Prop := ∀ (w : World) (S G F : Foot) (vs : List Value),Reps w S xs vs F → le F G → Reps w (S.or G) ys vs no
theorem Shut1.no {x : D} (h : x.noOwn) : Shut1 x x := fun w S G F v hr _ => (hr.noOwn h).keep Agree.no (Agree.refl _ _) (le_or_left _ _) (le_refl _)
theorem ShutL.no {xs : List D} (h : D.noOwn.all xs) : ShutL xs xs := fun w S G F v hr _ => (hr.noOwn h).keep Agree.no (Agree.refl _ _) (le_or_left _ _) (le_refl _)
theorem ShutL.nil : ShutL [] [] := fun w S G F v hr _ => hr
theorem ShutL.cons {x y : D} {xs ys : List D} (h : Shut1 x y) (h' : ShutL xs ys) : ShutL (x :: xs) (y :: ys) := by
  intro w S G F vs hr hle
  simp only [Reps] at hr ⊢
  obtain ⟨v,us,F1,F2,rfl,h1,h2,h3,h4,h5⟩ := hr
  exact ⟨v,us,Foot.no,Foot.no,rfl,le_refl _,le_refl _,no_dis _,h _ _ _ _ _ h4 (h1.trans hle),h' _ _ _ _ _ h5 (h2.trans hle)⟩
theorem ShutL.app {xs ys xs' ys' : List D} (h : ShutL xs ys) (h' : ShutL xs' ys') (hl : xs.length = ys.length) : ShutL (xs ++ xs') (ys ++ ys') := by
  intro w S G F vs hr hle
  have h1 := hr.take xs.length
  have h2 := hr.drop xs.length
  rw [List.take_left'] at h1 <;> try rfl
  rw [List.drop_left'] at h2 <;> try rfl
  have := Reps.append (h _ _ _ _ _ h1 hle) (h' _ _ _ _ _ h2 hle) (no_dis _) (le_refl _) (le_refl _)
  rwa [List.take_append_drop] at this
theorem ShutL.len {xs ys : List D} {w : World} {S F : Foot} {vs : List Value} (h : ShutL xs ys) (hr : Reps w S xs vs F) : xs.length = ys.length := by
  have h1 := hr.length
  have h2 := (h _ _ F _ _ hr (le_refl _)).length
  omega
theorem Shut1.sl {o : Bool} {z : Nat} {r r' : List D} (h : ShutL r r') : Shut1 (.sl o z r) (.sl false z r') := by
  intro w S G F v hr hle
  simp only [Rep,Bool.false_eq_true,if_false] at hr ⊢
  obtain ⟨a,len,cap,rfl,h1,h2,h3,h4⟩ := hr
  rcases h4 with ⟨h4,h5⟩ | ⟨b,off,vs,G0,rfl,e1,e2,e3⟩
  · have : r = [] := by
      have : len = 0 := by omega
      subst this
      simpa using h1
    subst this
    have hl := h.len (w := w) (S := S) (F := Foot.no) (vs := []) rfl
    have : r' = [] := by
      cases r' with
      | nil => rfl
      | cons _ _ => simp at hl
    subst this
    exact ⟨a,len,cap,rfl,h1,h2,h3,.inl ⟨h4,fun h => h.elim⟩⟩
  · have hl := h.len e2
    refine ⟨_,len,cap,rfl,by rw [← hl]; exact h1,h2,h3,.inr ⟨b,off,vs,Foot.no,rfl,e1,?_,?_,rfl⟩⟩
    · cases o with
      | true => simp only [if_true] at e3; exact h _ _ _ _ _ e2 (e3.2.1.trans hle)
      | false =>
        simp only [Bool.false_eq_true,if_false] at e3
        obtain ⟨_,rfl⟩ := e3
        exact h _ _ _ _ _ e2 (no_le _)
    · rw [← hl]
      cases o with
      | true =>
        simp only [if_true] at e3
        have : r.length ≤ cap * z := by rw [h1]; exact Nat.mul_le_mul_right _ h3
        exact ((rng_le this).trans e3.1).trans (hle.trans (le_or_right _ _))
      | false =>
        simp only [Bool.false_eq_true,if_false] at e3
        exact e3.1.trans (le_or_left _ _)
theorem Shut1.bx {o : Bool} {r r' : List D} (h : ShutL r r') : Shut1 (.bx o r) (.bx false r') := by
  intro w S G F v hr hle
  simp only [Rep,Bool.false_eq_true,if_false] at hr ⊢
  obtain ⟨b,off,vs,G0,rfl,e1,e2,e3⟩ := hr
  have hl := h.len e2
  refine ⟨b,off,vs,Foot.no,rfl,e1,?_,?_,rfl⟩
  · cases o with
    | true => simp only [if_true] at e3; exact h _ _ _ _ _ e2 (e3.2.1.trans hle)
    | false =>
      simp only [Bool.false_eq_true,if_false] at e3
      obtain ⟨_,rfl⟩ := e3
      exact h _ _ _ _ _ e2 (no_le _)
  · rw [← hl]
    cases o with
    | true => simp only [if_true] at e3; exact e3.1.trans (hle.trans (le_or_right _ _))
    | false =>
      simp only [Bool.false_eq_true,if_false] at e3
      exact e3.1.trans (le_or_left _ _)
end
theorem t_freezeD {g : Gh} {t : List (Nat × SV)} {h : List (Nat × GB)} {n i z : Nat} {xs ys : List D} (hg : lkG h i = .row z xs) (hs : ShutL xs ys) : Turn g ⟨t,h,n⟩ ⟨t,(i,.sh z ys) :: h,n⟩ := by
  refine ⟨Nat.le_refl _,fun a w S ρ F hr => ⟨S.or (F i),fun j => if j = i then no else F j,?_⟩⟩
  have hS : le S (S.or (F i)) := le_or_left _ _
  refine ⟨hr.size,hr.defers.keep fun r _ m => ⟨m.at_,fun j o hj => (by split at hj; exact hj.elim; exact m.F j o hj),fun o ho => ho.elim (m.S o) (m.F i o),m.lo⟩,fun j => (hr.slot j).keep (Agree.refl _ _) hS (Env.le.refl _),fun j => ?_,fun j k hjk => ?_,fun j => ?_,fun j => ?_,fun j b o hb => ?_,fun b o hb => ?_,hr.old,hr.inS.trans hS,fun b o hb => ?_,hr.pin,hr.tab.keep (Agree.refl _ _) hS,hr.fin⟩
  · simp only [lkG]
    by_cases hj : j = i
    · subst hj
      have hb : Nat.beq j j = true := by simp
      simp only [hb,cond_true,if_true]
      rcases hr.root j with h0 | ⟨u,r1,r2⟩
      · simp only [hg] at h0; cases h0
      · simp only [hg] at r2
        exact .inr ⟨u,r1,Shut1.sl hs _ _ _ _ _ r2 (le_refl _)⟩
    · have hb : Nat.beq j i = false := beq_ne hj
      simp only [hb,cond_false,if_neg hj]
      rcases hr.root j with h0 | ⟨u,r1,r2⟩
      · exact .inl h0
      · exact .inr ⟨u,r1,r2.keep (Agree.refl _ _) (Agree.refl _ _) hS (Env.le.refl _) (le_refl _)⟩
  · by_cases hj : j = i
    · simp only [hj,if_true]; exact no_dis _
    · by_cases hk : k = i
      · simp only [hk,if_true]; exact dis_no _
      · simp only [if_neg hj,if_neg hk]; exact hr.dis j k hjk
  · by_cases hj : j = i
    · simp only [hj,if_true]; exact no_dis _
    · simp only [if_neg hj]
      exact fun b o hb hs => hs.elim (fun hs => hr.disS j b o hb hs) (fun hs => hr.dis j i hj b o hb hs)
  · by_cases hj : j = i
    · simp only [hj,if_true]; exact no_le _
    · simp only [if_neg hj]; exact hr.own j
  · by_cases hj : j = i
    · simp only [hj,if_true] at hb; exact hb.elim
    · simp only [if_neg hj] at hb; exact hr.ex j b o hb
  · exact hb.elim (hr.exS b o) (hr.ex i b o)
  · exact hb.elim (hr.newS b o) (fun hb => .inr (hr.own i b o hb))
theorem t_freeze {g : Gh} {t : List (Nat × SV)} {h : List (Nat × GB)} {n i z : Nat} {xs : List D} (hg : lkG h i = .row z xs) (hno : D.noOwn.all xs) : Turn g ⟨t,h,n⟩ ⟨t,(i,.sh z xs) :: h,n⟩ := t_freezeD hg (.no hno)
end Go.Proofs.YtegpggobfdcafaaGreat
end
section
set_option linter.unusedVariables false
set_option linter.unusedSimpArgs false
namespace Go.Proofs.YtegpggobfdcafaaGreat
open Go Foot
section
variable {P : Program} {w : World}
theorem sem_bind_pure {α : Type} (x : Sem α) : Sem.bind x Sem.pure = x := by
  induction x <;> simp only [Sem.bind, *]
theorem sem_bind_assoc {α β γ : Type} (x : Sem α) (f : α → Sem β) (k : β → Sem γ) : Sem.bind (Sem.bind x f) k = Sem.bind x (fun a => Sem.bind (f a) k) := by
  induction x <;> simp only [Sem.bind, *]
theorem sem_lawful : LawfulMonad Sem := LawfulMonad.mk' Sem (id_map := fun x => sem_bind_pure x) (pure_bind := fun x f => rfl) (bind_assoc := fun x f k => sem_bind_assoc x f k)
theorem run_lmapM {α β : Type} (k : α → Sem β) (g : α → β) : ∀ (fs : List α),(∀ f ∈ fs,(k f).run P w = .ok (g f) w) → (fs.mapM k).run P w = .ok (fs.map g) w
  | [],_ => by simp
  | f :: fs,hf => by
    haveI := sem_lawful
    rw [List.mapM_cons]
    simp only [Sem.run_bind,hf f List.mem_cons_self,Result.andThen_ok,run_lmapM k g fs (fun x hx => hf x (List.mem_cons_of_mem _ hx))]
    simp
theorem run_mapM {α β : Type} (fs : Array α) (k : α → Sem β) (g : α → β) (hf : ∀ f ∈ fs,(k f).run P w = .ok (g f) w) : (fs.mapM k).run P w = .ok (fs.map g) w := by
  haveI := sem_lawful
  rw [Array.mapM_eq_mapM_toList]
  show (Sem.bind (fs.toList.mapM k) (fun x => Sem.pure x.toArray)).run P w = _
  have h := run_lmapM (P := P) (w := w) k g fs.toList (fun f hx => hf f (by simpa using hx))
  have : (Sem.bind (fs.toList.mapM k) (fun x => Sem.pure x.toArray)).run P w = _ := Sem.run_bind _ _ _ _
  rw [this,h]
  simp only [Result.andThen_ok,Sem.run]
  congr 1
  apply Array.ext'
  simp
def sizeN (P : Program) (t : Nat) : Nat := match P.info? t with | some i => i.size | none => 0
end
inductive All2 {α β : Type} (R : α → β → Prop) : List α → List β → Prop where
  | nil : All2 R [] []
  | cons {a : α} {b : β} {as1 : List α} {bs : List β} (h : R a b) (t : All2 R as1 bs) : All2 R (a :: as1) (b :: bs)
def fillC : List C → List (Nat × Nat × List C) → Option (List C)
  | zs,[] => some zs
  | zs,(off,sz,cs) :: l => bif Nat.beq cs.length sz && Nat.ble (off + sz) zs.length then fillC (setRow zs off cs) l else none
theorem fold_setRow : ∀ (l : List Value) (k off : Nat) (cs : Array Value),(l.zipIdx k).foldl (fun cs (c,j) => cs.setIfInBounds (off + j) c) cs = (setRow cs.toList (off + k) l).toArray
  | [],k,off,cs => by simp [setRow]
  | x :: l,k,off,cs => by
    have := fold_setRow l (k + 1) off (cs.setIfInBounds (off + k) x)
    simp only [List.zipIdx_cons,List.foldl_cons,setRow]
    rw [this]
    simp [Nat.add_assoc]
theorem fold_setRowA (v : Array Value) (off : Nat) (cs : Array Value) : v.zipIdx.foldl (fun cs (c,j) => cs.setIfInBounds (off + j) c) cs = (setRow cs.toList off v.toList).toArray := by
  have := fold_setRow v.toList 0 off cs
  rw [← Array.foldl_toList,Array.toList_zipIdx,this]
  rfl
section
variable {w : World} {S F : Foot} {ρ : Env}
theorem fill_ok {place : Nat → Option (Nat × Nat)} : ∀ {l : List (Nat × Nat × List C)} {ps : List (Nat × Value)} {zs cs : List C} {vs : List Value},fillC zs l = some cs → RepCs w S ρ zs vs →
    All2 (fun (p : Nat × Value) (q : Nat × Nat × List C) => place p.1 = some (q.1,q.2.1) ∧ RepCs w S ρ q.2.2 p.2.cells.toList) ps l →
    ∃ us,Instr.fill place vs.toArray ps = some us.toArray ∧ RepCs w S ρ cs us
  | [],ps,zs,cs,vs,h,hz,hp => by
    cases hp
    simp only [fillC,Option.some.injEq] at h
    subst h
    exact ⟨vs,rfl,hz⟩
  | (off,sz,c) :: l,ps,zs,cs,vs,h,hz,hp => by
    cases hp with
    | cons h1 h2 =>
      rename_i p ps
      obtain ⟨i,v⟩ := p
      simp only [fillC] at h
      cases hb : Nat.beq c.length sz && Nat.ble (off + sz) zs.length with
      | false => rw [hb] at h; simp at h
      | true =>
        rw [hb] at h
        simp only [cond_true] at h
        simp only [Bool.and_eq_true] at hb
        have hb1 := Nat.eq_of_beq_eq_true hb.1
        have hb2 := Nat.le_of_ble_eq_true hb.2
        have hl := h1.2.length
        have hl2 := hz.length
        simp only at h1 hl
        have hvs : v.cells.size = sz := by rw [← hb1,← hl]; simp
        obtain ⟨us,e1,e2⟩ := fill_ok (place := place) h (RepCs.setRow (off := off) hz h1.2) h2
        refine ⟨us,?_,e2⟩
        simp only [Instr.fill,h1.1]
        have : ¬ (v.cells.size ≠ sz || off + v.cells.size > vs.toArray.size) = true := by
          simp only [hvs,ne_eq,not_true_eq_false,decide_false,Bool.false_or,decide_eq_true_eq,List.size_toArray,hl2]
          omega
        simp only [this,Bool.false_eq_true,if_false]
        rw [fold_setRowA]
        exact e1
end
section
variable {P : Program} {g : Gh} {st : St} {sv : SV}
variable {dst : Option Tmp} {ty : TypeId} {pos : String} {after : Array Edge} {guard : Option (Nat × Bool)} {x y z : Operand}
def fieldsB (P : Program) (T : Nat) (l : List (Nat × Nat)) : Bool := match P.underlying T with
  | some (.struct fs) => fs.all (fun f => match P.info? f.type with | some _ => true | none => false) && (fs.toList.map fun f => (f.offset,sizeN P f.type)) == l
  | _ => false
def partCells (st : St) (l : List (Nat × Nat)) : List (Nat × Operand) → Option (List (Nat × Nat × List C))
  | [] => some []
  | (i,x) :: ps => match l[i]?,(opd st x).cells,partCells st l ps with
    | some (off,sz),some cs,some r => some ((off,sz,cs) :: r)
    | _,_,_ => none
theorem rel_parts {a : Act} {w : World} {S : Foot} {ρ : Env} {F : Nat → Foot} (h : Rel g st a w S ρ F) {l : List (Nat × Nat)} {place : Nat → Option (Nat × Nat)} (hpl : ∀ i,place i = l[i]?) : ∀ {ps : List (Nat × Operand)} {r : List (Nat × Nat × List C)},partCells st l ps = some r →
    All2 (fun (p : Nat × Value) (q : Nat × Nat × List C) => place p.1 = some (q.1,q.2.1) ∧ RepCs w S ρ q.2.2 p.2.cells.toList) (ps.map (fun (i,x) => (i,a.eval x))) r
  | [],r,hr => by
    simp only [partCells,Option.some.injEq] at hr
    subst hr
    exact .nil
  | (i,x) :: ps,r,hr => by
    simp only [partCells] at hr
    split at hr
    · rename_i off sz cs r' h0 h1 h2
      simp only [Option.some.injEq] at hr
      subst hr
      exact .cons ⟨(hpl i).trans h0,(h.opd x).cells h1⟩ (rel_parts h hpl h2)
    · cases hr
theorem zeroC_spec {T : Nat} {vs : List Value} (hT : zeroC P T = some vs) : ∃ inf zv,P.info? T = some inf ∧ inf.zero = some zv ∧ zv.cells.toList = vs ∧ vs.all Value.oneCell' = true := by
  unfold zeroC at hT
  split at hT
  case h_2 => cases hT
  rename_i inf hi
  split at hT
  case h_2 => cases hT
  rename_i zv hz
  cases hb : zv.cells.toList.all Value.oneCell' with
  | false => rw [hb] at hT; cases hT
  | true =>
    rw [hb] at hT
    simp only [cond_true,Option.some.injEq] at hT
    exact ⟨inf,zv,hi,hz,hT,hT ▸ hb⟩
theorem a_build {T : Nat} {ps : List (Nat × Operand)} {l : List (Nat × Nat)} {r : List (Nat × Nat × List C)} {vs : List Value} {cs : List C} (hT : zeroC P T = some vs) (hP : fieldsB P T l = true) (hr : partCells st l ps = some r) (hf : fillC (vs.map scC) r = some cs) :
    Acts P g ⟨dst,.build T ps.toArray,ty,pos,after,guard⟩ st (.agg cs) [] [] := by
  refine acts_of fun a w S ρ F h => ?_
  obtain ⟨inf,zv,hi,hz,rfl,hall⟩ := zeroC_spec hT
  unfold fieldsB at hP
  split at hP
  case h_2 => cases hP
  rename_i fs hu
  simp only [Bool.and_eq_true,Array.all_eq_true'] at hP
  obtain ⟨hP1,hP2⟩ := hP
  have hP2 : (fs.toList.map fun f => (f.offset,sizeN P f.type)) = l := by simpa using hP2
  have hplace : ∀ i : Nat,(fun i : Nat => (fs.map fun f => (f.offset,sizeN P f.type))[i]?) i = l[i]? := by
    intro i
    rw [← hP2]
    simp
  have hpa := rel_parts h (place := fun i : Nat => (fs.map fun f => (f.offset,sizeN P f.type))[i]?) hplace hr
  obtain ⟨us,e1,e2⟩ := fill_ok hf (repCs_sc (w := w) (S := S) (ρ := ρ) hall) hpa
  have hmap : (fs.mapM (fun (f : Field) => Prod.mk f.offset <$> sizeOf f.type)).run P w = .ok (fs.map fun f => (f.offset,sizeN P f.type)) w := by
    refine run_mapM fs _ _ fun f hf => ?_
    have := hP1 f hf
    split at this
    · rename_i i hi
      show (do pure (f.offset,← sizeOf f.type) : Sem (Nat × Nat)).run P w = _
      simp [sizeOf,typeInfo,hi,sizeN]
    · cases this
  refine ⟨.agg us.toArray,?_,⟨us.toArray,rfl,by simpa using e2⟩⟩
  show (do pure (.value (← Instr.build T (ps.toArray.map fun (i,x) => (i,a.eval x)))) : Sem Next).run P w = _
  have ezv : zv.cells.toList.toArray = zv.cells := by simp
  rw [ezv] at e1
  simp only [Instr.build,zeroValue,typeInfo,Sem.run_bind,hi]
  simp only [run_underlying hu,Sem.run_bind,hz]
  have e2 : Instr.fill (fun x => Option.map (fun f => (f.offset,sizeN P f.type)) fs[x]?) zv.cells (List.map (fun x : Nat × Operand => (x.fst,a.eval x.snd)) ps) = some us.toArray := by
    rw [← e1]
    congr 1
    funext i
    exact (Array.getElem?_map ..).symm
  simp [hi,hz,run_underlying hu,hmap]
  rw [e2]
  simp
theorem setRow_mid {α : Type} : ∀ (xs p r : List α),xs.length ≤ r.length → setRow (p ++ r) p.length xs = p ++ xs ++ r.drop xs.length
  | [],p,r,_ => by simp [setRow]
  | x :: xs,p,r,h => by
    cases r with
    | nil => simp at h
    | cons y r =>
      have ih := setRow_mid xs (p ++ [x]) r (by simpa using h)
      simp only [setRow]
      have e : (p ++ y :: r).set p.length x = (p ++ [x]) ++ r := by
        rw [List.set_append_right _ _ (Nat.le_refl _)]
        simp
      rw [e]
      have e2 : p.length + 1 = (p ++ [x]).length := by simp
      rw [e2,ih]
      simp
theorem fill_full {z : Nat} : ∀ (us : List Value) (k : Nat) (p r : List Value),p.length = k * z → r.length = us.length * z → (∀ u ∈ us,u.cells.size = z) →
    Instr.fill (fun i => some (i * z,z)) (p ++ r).toArray ((us.zipIdx k).map fun x => (x.2,x.1)) = some (p ++ (us.map fun u => u.cells.toList).flatten).toArray
  | [],k,p,r,hp,hr,_ => by
    have : r = [] := by simpa using hr
    subst this
    simp [Instr.fill]
  | u :: us,k,p,r,hp,hr,hu => by
    have hz := hu u List.mem_cons_self
    have hzl : u.cells.toList.length = z := by simpa using hz
    have hrl : r.length = z + us.length * z := by rw [hr,List.length_cons,Nat.add_mul,Nat.one_mul,Nat.add_comm]
    simp only [List.zipIdx_cons,List.map_cons,Instr.fill]
    have hc : ¬ (u.cells.size ≠ z || k * z + u.cells.size > (p ++ r).toArray.size) = true := by
      simp only [hz,ne_eq,not_true_eq_false,decide_false,Bool.false_or,decide_eq_true_eq,List.size_toArray,List.length_append,hp]
      omega
    simp only [hc,Bool.false_eq_true,if_false]
    rw [fold_setRowA]
    have e := setRow_mid u.cells.toList p r (by omega)
    rw [hp] at e
    simp only [e]
    have ih := fill_full us (k + 1) (p ++ u.cells.toList) (r.drop u.cells.toList.length) (by simp only [List.length_append,hp,hzl,Nat.add_mul,Nat.one_mul]) (by simp only [List.length_drop,hzl,hrl]; omega) (fun x hx => hu x (List.mem_cons_of_mem _ hx))
    rw [ih]
    simp
def repRow {α : Type} (zs : List α) (n : Nat) : List α := (List.replicate n zs).flatten
theorem repRow_len {α : Type} (zs : List α) (n : Nat) : (repRow zs n).length = n * zs.length := by simp [repRow]
theorem repRow_map {α β : Type} (f : α → β) (zs : List α) (n : Nat) : (repRow zs n).map f = repRow (zs.map f) n := by simp [repRow]
theorem zero_row (zero : Array Value) (n : Nat) : ((Array.range (n * zero.size)).map (zero[· % zero.size]!)).toList = repRow zero.toList n := by
  induction n with
  | zero => simp [repRow]
  | succ n ih =>
    have e : repRow zero.toList (n + 1) = repRow zero.toList n ++ zero.toList := by
      unfold repRow
      rw [List.replicate_succ']
      simp
    rw [e,← ih]
    simp only [Array.toList_map,Array.toList_range]
    rw [show (n + 1) * zero.size = n * zero.size + zero.size by rw [Nat.add_mul,Nat.one_mul],List.range_add,List.map_append]
    congr 1
    apply List.ext_getElem?
    intro i
    simp only [List.getElem?_map,List.map_map]
    by_cases hi : i < zero.size
    · rw [List.getElem?_range hi]
      have : (n * zero.size + i) % zero.size = i := by rw [Nat.mul_comm,Nat.mul_add_mod]; exact Nat.mod_eq_of_lt hi
      simp [this,hi]
    · have h1 : (List.range zero.size)[i]? = none := by rw [List.getElem?_eq_none_iff]; simp; omega
      have h2 : zero.toList[i]? = none := by rw [List.getElem?_eq_none_iff]; simp; omega
      rw [h1,h2]
      rfl
theorem rep_new_sl {w : World} {S : Foot} {cs : List D} {vs : List Value} {z n : Nat} (e : TypeId) (h : Reps w S cs vs no) (hS : ∀ b o,S b o → b < w.heap.size) (hz : 0 < z) (hn : cs.length = n * z) :
    Rep (w.alloc (.cells vs.toArray e)) S (.sl true z cs) (.slice (some ⟨w.heap.size,0,none⟩) n n) (rng w.heap.size 0 cs.length) := by
  have hk := keeps_alloc (w := w) (.cells vs.toArray e)
  have hl := h.length
  simp only [Rep,if_true]
  refine ⟨_,n,n,rfl,hn,hz,Nat.le_refl _,.inr ⟨w.heap.size,0,vs,no,rfl,lies_alloc vs e,h.keep Agree.no (hk.agree hS (dis_no _)) (le_refl _) (le_refl _),?_,no_le _,dis_no _,?_⟩⟩
  · rw [← hn]; exact le_refl _
  · rw [← hn,← hl]; exact free_alloc vs e
theorem a_make {T e i zz bytes n : Nat} {vs : List Value} {row : List D} {k1 k2 : IntKind} {m : Int} (hu : P.underlying T = some (.slice e)) (hT : zeroC P e = some vs) (hT2 : appB P T zz bytes = true) (hz0 : 0 < zz)
    (hxv : opd st x = .one (.d (.sc (.int k1 m)))) (hyv : opd st y = .one (.d (.sc (.int k2 m)))) (hm : 0 ≤ m) (hmn : m.toNat = n) (hn : m < 9223372036854775808) (hb : n * bytes ≤ 281474976710656) (hrow : repRow (vs.map scD) n = row) :
    Acts P g ⟨dst,.makeSlice T x y,ty,pos,after,guard⟩ st (.one (.gv i)) [] [(i,.row zz row)] := by
  subst hrow
  have hmn' : m = (n : Int) := by omega
  subst hmn'
  clear hmn hm
  refine ⟨fun a w S ρ F h hfr K Q hK => ?_⟩
  have hfr' : ρ i = none := by simpa using hfr _ (List.mem_singleton.2 rfl)
  clear hfr
  obtain ⟨inf,zv,hi,hz,rfl,hall⟩ := zeroC_spec hT
  unfold appB at hT2
  rw [hu] at hT2
  simp only [hi,hz,Bool.and_eq_true] at hT2
  obtain ⟨⟨h1,h2⟩,h3⟩ := hT2
  have h1 := Nat.eq_of_beq_eq_true h1
  have h2 := Nat.eq_of_beq_eq_true h2
  have h3 := Nat.eq_of_beq_eq_true h3
  subst h1 h2
  have hw : IntKind.i64.wrap (n : Int) = n := by
    simp only [IntKind.wrap,IntKind.signed,IntKind.bits]
    simp
    omega
  have hcells : ((Array.range (n * inf.size)).map (zv.cells[· % zv.cells.size]!)) = (repRow zv.cells.toList n).toArray := by
    apply Array.ext'
    rw [← h3,zero_row]
  have hcells0 : n * inf.size = 0 → (repRow zv.cells.toList n) = [] := by
    intro h0
    apply List.eq_nil_of_length_eq_zero
    rw [repRow_len]
    simp [h3,h0]
  have hb' : ¬ (2 ^ 48 < (inf.bytes : Int) * n) := by
    have : ((n * inf.bytes : Nat) : Int) ≤ ((281474976710656 : Nat) : Int) := Int.ofNat_le.2 hb
    rw [Nat.mul_comm,Int.natCast_mul] at this
    exact Int.not_lt.2 this
  have hrun : (execOp a.eval ⟨dst,.makeSlice T x y,ty,pos,after,guard⟩).run P w = .ok (.value (.slice (some ⟨w.heap.size,0,none⟩) n n)) (w.alloc (.cells (repRow zv.cells.toList n).toArray e)) := by
    show (do pure (.value (← Instr.makeSlice T (a.eval x) (a.eval y))) : Sem Next).run P w = _
    rw [opd_sc h hxv,opd_sc h hyv]
    have hnn : ¬ ((n : Int) < 0) := by omega
    unfold Instr.makeSlice
    simp only [Sem.run_bind,run_underlying hu,Result.andThen_ok,asInt,typeInfo,hi]
    simp only [go_sem,Sem.run_bind,Sem.run_pure,Result.andThen_ok,hw,hi,hnn,hb',decide_false,Bool.or_false,Bool.or_self,Int.lt_irrefl,gt_iff_lt,Bool.false_eq_true,if_false,Int.toNat_natCast,askRoom,sizeOf,typeInfo]
    have hb2 : ¬ ((281474976710656 : Int) < inf.bytes * n) := hb'
    by_cases h0 : n * inf.size = 0
    · have hr0 : Array.map (fun _ => (default : Value)) (Array.range 0) = (repRow zv.cells.toList n).toArray := by rw [hcells0 h0]; simp
      simp [h0,run_newRow,hi,hb2]
      first
        | exact congrArg (fun c => w.alloc (.cells c e)) hr0
        | exact congrArg (fun c => Result.ok (Next.value (Value.slice (some ⟨w.heap.size,0,none⟩) n n)) (w.alloc (.cells c e))) hr0
    · simp [h0,hi,hz,zeroValue,typeInfo,run_newRow,hb2]
      first
        | exact congrArg (fun c => w.alloc (.cells c e)) hcells
        | exact congrArg (fun c => Result.ok (Next.value (Value.slice (some ⟨w.heap.size,0,none⟩) n n)) (w.alloc (.cells c e))) hcells
  refine oper_in (fun _ h => nomatch h) ?_
  rw [hrun,Oper.uponIn_value]
  have hallr : (repRow zv.cells.toList n).all Value.oneCell' = true := by
    rw [List.all_eq_true] at hall ⊢
    intro u hu
    simp only [repRow,List.mem_flatten,List.mem_replicate] at hu
    obtain ⟨l,⟨_,rfl⟩,hu⟩ := hu
    exact hall u hu
  have hrep := rep_new_sl (w := w) (S := S) (z := inf.size) (n := n) e (reps_sc hallr) h.exS hz0 (by rw [List.length_map,repRow_len]; simp [h3])
  rw [repRow_map] at hrep
  refine hK _ _ no _ _ (Done.new (S1 := no) (keeps_alloc _) hfr' (fun ρ' hl _ => hrep) ?_) ⟨by simp,rfl⟩
  rintro b o ⟨rfl,_,_⟩
  simp
def catCells (st : St) (z : Nat) : List (Nat × Operand) → Option (List C)
  | [] => some []
  | (_,x) :: l => match (opd st x).cells,catCells st z l with
    | some cs,some r => bif Nat.beq cs.length z then some (cs ++ r) else none
    | _,_ => none
theorem rel_cat {a : Act} {w : World} {S : Foot} {ρ : Env} {F : Nat → Foot} (h : Rel g st a w S ρ F) {z : Nat} : ∀ {xs : List (Nat × Operand)} {cs : List C},catCells st z xs = some cs →
    RepCs w S ρ cs (((xs.map (·.2)).map a.eval).map fun u => u.cells.toList).flatten ∧ (∀ u ∈ (xs.map (·.2)).map a.eval,u.cells.size = z) ∧ cs.length = xs.length * z
  | [],cs,hc => by
    simp only [catCells,Option.some.injEq] at hc
    subst hc
    exact ⟨rfl,by simp,by simp⟩
  | (i,x) :: xs,cs,hc => by
    simp only [catCells] at hc
    split at hc
    · rename_i cs1 r h1 h2
      cases hb : Nat.beq cs1.length z with
      | false => rw [hb] at hc; cases hc
      | true =>
        rw [hb] at hc
        simp only [cond_true,Option.some.injEq] at hc
        subst hc
        have hz := Nat.eq_of_beq_eq_true hb
        obtain ⟨i1,i2,i3⟩ := rel_cat h h2
        have h3 := (h.opd x).cells h1
        have hl := h3.length
        refine ⟨by simpa using RepCs.append h3 i1,?_,?_⟩
        · intro u hu
          simp only [List.map_cons,List.mem_cons] at hu
          rcases hu with rfl | hu
          · rw [← hz,← hl]; simp
          · exact i2 u hu
        · simp only [List.length_append,i3,hz,List.length_cons,Nat.add_mul,Nat.one_mul]
          omega
    · cases hc
def inOrder : Nat → List (Nat × Operand) → Bool
  | _,[] => true
  | k,(i,_) :: l => Nat.beq i k && inOrder (k + 1) l
theorem inOrder_eq {f : Operand → Value} : ∀ {l : List (Nat × Operand)} {k : Nat},inOrder k l = true → l.map (fun x => (x.1,f x.2)) = (((l.map (·.2)).map f).zipIdx k).map fun x => (x.2,x.1)
  | [],_,_ => rfl
  | (i,x) :: l,k,h => by
    simp only [inOrder,Bool.and_eq_true] at h
    have := Nat.eq_of_beq_eq_true h.1
    subst this
    simp [inOrder_eq (f := f) h.2]
theorem a_litG {T z bytes n i : Nat} {ps : List (Nat × Operand)} {cs : List C} {gb : GB} (hT : appB P T z bytes = true) (hz0 : 0 < z) (hn : ps.length = n) (hsm : n * z ≤ 16777216) (ho : inOrder 0 ps = true) (hc : catCells st z ps = some cs) 
    (hd : ∀ a w S ρ F,Rel g st a w S ρ F → ∀ vs,RepCs w S ρ cs vs → ∃ row,Reps w S row vs no ∧ ∀ ρ' u w' F',Env.le ρ ρ' → ρ' i = some u → Rep w' S (.sl true z row) u F' → RepG w' S ρ' gb u F') :
    Acts P g ⟨dst,.buildSlice T n ps.toArray,ty,pos,after,guard⟩ st (.one (.gv i)) [] [(i,gb)] := by
  refine ⟨fun a w S ρ F h hfr K Q hK => ?_⟩
  have hfr' : ρ i = none := by simpa using hfr _ (List.mem_singleton.2 rfl)
  clear hfr
  obtain ⟨h1,h2,h3⟩ := rel_cat h hc
  obtain ⟨row,h1,hgb⟩ := hd _ _ _ _ _ h _ h1
  have hl1 := h1.length
  unfold appB at hT
  split at hT
  case h_2 => cases hT
  rename_i e hu
  split at hT
  case h_2 => cases hT
  rename_i inf hi
  simp only [Bool.and_eq_true] at hT
  obtain ⟨⟨hz1,hb1⟩,hz3⟩ := hT
  have hz1 := Nat.eq_of_beq_eq_true hz1
  subst hz1
  split at hz3
  case h_2 => cases hz3
  rename_i zv hzv
  generalize hvs : ((ps.map (·.2)).map a.eval |>.map fun u => u.cells.toList).flatten = vs at h1 hl1
  have hvl : vs.length = n * inf.size := by
    rw [← hvs,List.length_flatten,List.map_map]
    have : ∀ l : List Value,(∀ u ∈ l,u.cells.size = inf.size) → (l.map (List.length ∘ fun u : Value => u.cells.toList)).sum = l.length * inf.size := by
      intro l
      induction l with
      | nil => simp
      | cons u l ih =>
        intro hu
        simp only [List.map_cons,List.sum_cons,Function.comp,Array.length_toList,hu u List.mem_cons_self,List.length_cons,Nat.add_mul,Nat.one_mul]
        have := ih (fun x hx => hu x (List.mem_cons_of_mem _ hx))
        simp only [Function.comp_def,Array.length_toList] at this ⊢
        omega
    rw [this _ h2]
    simp [hn]
  have hfill : ∀ A : Array Value,A.size = n * inf.size → Instr.fill (fun j => some (j * inf.size,inf.size)) A (ps.toArray.map fun (j,x) => (j,a.eval x)).toList = some vs.toArray := by
    intro A hA
    have e1 : (ps.toArray.map fun (j,x) => (j,a.eval x)).toList = ps.map (fun x => (x.1,a.eval x.2)) := by simp
    rw [e1,inOrder_eq (f := a.eval) ho]
    have := fill_full (z := inf.size) ((ps.map (·.2)).map a.eval) 0 [] A.toList (by simp) (by simp [hA,hn]) h2
    rw [hvs] at this
    simpa using this
  have hrun : (execOp a.eval ⟨dst,.buildSlice T n ps.toArray,ty,pos,after,guard⟩).run P w = .ok (.value (.slice (some ⟨w.heap.size,0,none⟩) n n)) (w.alloc (.cells vs.toArray e)) := by
    show (do pure (.value (← Instr.buildSlice T n (ps.toArray.map fun (j,x) => (j,a.eval x)))) : Sem Next).run P w = _
    generalize (ps.toArray.map fun (j,x) => (j,a.eval x)) = PS at hfill ⊢
    have hsm' : ¬ (n * inf.size > 16777216) := by omega
    unfold Instr.buildSlice
    by_cases h0 : n * inf.size = 0
    · have hf := hfill (Array.map (fun _ => default) (Array.range 0)) (by simp [h0])
      simp [run_underlying hu,sizeOf,typeInfo,hi,h0,hf,run_newRow]
    · have hf := hfill (Array.map (fun x => zv.cells[x % zv.cells.size]!) (Array.range (n * inf.size))) (by simp)
      generalize hC : zv.cells = CC at hf
      simp [run_underlying hu,sizeOf,typeInfo,hi,h0,hsm',zeroValue,hzv,hC,hf,run_newRow]
  refine oper_in (fun _ h => nomatch h) ?_
  rw [hrun,Oper.uponIn_value]
  have hrep := rep_new_sl (w := w) (S := S) (z := inf.size) (n := n) e h1 h.exS hz0 (by rw [← hl1,hvl])
  refine hK _ _ no _ _ (Done.new (S1 := no) (keeps_alloc _) hfr' (fun ρ' hl hu => hgb _ _ _ _ hl hu hrep) ?_) ⟨by simp,rfl⟩
  rintro b o ⟨rfl,_,_⟩
  simp
theorem a_lit {T z bytes n i : Nat} {ps : List (Nat × Operand)} {cs : List C} {row : List D} (hT : appB P T z bytes = true) (hz0 : 0 < z) (hn : ps.length = n) (hsm : n * z ≤ 16777216) (ho : inOrder 0 ps = true) (hc : catCells st z ps = some cs) (hd : allD st.h cs = some row) :
    Acts P g ⟨dst,.buildSlice T n ps.toArray,ty,pos,after,guard⟩ st (.one (.gv i)) [] [(i,.row z row)] :=
  a_litG hT hz0 hn hsm ho hc fun a w S ρ F h vs hv => ⟨row,rel_allD h hv hd,fun _ _ _ _ _ _ hr => hr⟩
end
end Go.Proofs.YtegpggobfdcafaaGreat
end
section
set_option linter.unusedVariables false
set_option linter.unusedSimpArgs false
namespace Go.Proofs.YtegpggobfdcafaaGreat
open Go Foot
def C.ren (f : Nat → Nat) : C → C
  | .d x => .d x
  | .gv g => .gv (f g)
  | .gp g o => .gp (f g) o
  | .gs g z lo hi => .gs (f g) z lo hi
  | .ifc t ag cs => .ifc t ag (all cs)
  | .fn k cs => .fn k (all cs)
where
  all : List C → List C
  | [] => []
  | c :: cs => c.ren f :: all cs
def tRen (f : Nat → Nat) : List (Bool × List C) → List (Bool × List C)
  | [] => []
  | (ag,cs) :: l => (ag,C.ren.all f cs) :: tRen f l
def SV.ren (f : Nat → Nat) : SV → SV
  | .one c => .one (c.ren f)
  | .agg cs => .agg (C.ren.all f cs)
  | .tup l => .tup (tRen f l)
  | .any => .any
def GB.ren (f : Nat → Nat) : GB → GB
  | .bx cs => .bx (C.ren.all f cs)
  | .opq R cs => .opq R (cs.map f)
  | gb => gb
section
variable {w w' : World} {S S' F F' : Foot} {ρ ρ' : Env} {f : Nat → Nat}
mutual
theorem RepC.ren : ∀ {c : C} {v : Value},RepC w S ρ (c.ren f) v ↔ RepC w S (fun i => ρ (f i)) c v
  | .d x,v => Iff.rfl
  | .gv g,v => Iff.rfl
  | .gp g o,v => Iff.rfl
  | .gs g z lo hi,v => Iff.rfl
  | .ifc t ag cs,v => by
    simp only [C.ren,RepC]
    cases ag with
    | true => simp only [if_true]; exact ⟨fun ⟨u,h1,vs,h2,h3⟩ => ⟨u,h1,vs,h2,RepCs.ren.1 h3⟩,fun ⟨u,h1,vs,h2,h3⟩ => ⟨u,h1,vs,h2,RepCs.ren.2 h3⟩⟩
    | false => simp only [Bool.false_eq_true,if_false]; exact ⟨fun ⟨u,h1,h3⟩ => ⟨u,h1,RepCs.ren.1 h3⟩,fun ⟨u,h1,h3⟩ => ⟨u,h1,RepCs.ren.2 h3⟩⟩
  | .fn k cs,v => by
    simp only [C.ren,RepC]
    exact ⟨fun ⟨vs,h2,h3⟩ => ⟨vs,h2,RepCs.ren.1 h3⟩,fun ⟨vs,h2,h3⟩ => ⟨vs,h2,RepCs.ren.2 h3⟩⟩
theorem RepCs.ren : ∀ {cs : List C} {vs : List Value},RepCs w S ρ (C.ren.all f cs) vs ↔ RepCs w S (fun i => ρ (f i)) cs vs
  | [],vs => Iff.rfl
  | c :: cs,vs => by
    simp only [C.ren.all,RepCs]
    exact ⟨fun ⟨v,us,h1,h2,h3⟩ => ⟨v,us,h1,RepC.ren.1 h2,RepCs.ren.1 h3⟩,fun ⟨v,us,h1,h2,h3⟩ => ⟨v,us,h1,RepC.ren.2 h2,RepCs.ren.2 h3⟩⟩
end
theorem RepU.ren {ag : Bool} {cs : List C} {v : Value} : RepU w S ρ ag (C.ren.all f cs) v ↔ RepU w S (fun i => ρ (f i)) ag cs v := by
  unfold RepU
  cases ag with
  | true => simp only [if_true]; exact ⟨fun ⟨vs,h2,h3⟩ => ⟨vs,h2,RepCs.ren.1 h3⟩,fun ⟨vs,h2,h3⟩ => ⟨vs,h2,RepCs.ren.2 h3⟩⟩
  | false => simp only [Bool.false_eq_true,if_false]; exact RepCs.ren
theorem RepT.ren : ∀ {l : List (Bool × List C)} {vs : List Value},RepT w S ρ (tRen f l) vs ↔ RepT w S (fun i => ρ (f i)) l vs
  | [],vs => Iff.rfl
  | (ag,cs) :: l,vs => by
    simp only [tRen,RepT]
    exact ⟨fun ⟨v,us,h1,h2,h3⟩ => ⟨v,us,h1,RepU.ren.1 h2,RepT.ren.1 h3⟩,fun ⟨v,us,h1,h2,h3⟩ => ⟨v,us,h1,RepU.ren.2 h2,RepT.ren.2 h3⟩⟩
theorem RepS.ren {sv : SV} {v : Value} : RepS w S ρ (sv.ren f) v ↔ RepS w S (fun i => ρ (f i)) sv v := by
  cases sv with
  | one c => exact RepC.ren
  | agg cs => exact ⟨fun ⟨vs,h2,h3⟩ => ⟨vs,h2,RepCs.ren.1 h3⟩,fun ⟨vs,h2,h3⟩ => ⟨vs,h2,RepCs.ren.2 h3⟩⟩
  | tup l => exact ⟨fun ⟨vs,h2,h3⟩ => ⟨vs,h2,RepT.ren.1 h3⟩,fun ⟨vs,h2,h3⟩ => ⟨vs,h2,RepT.ren.2 h3⟩⟩
  | any => exact Iff.rfl
theorem renAll_length (cs : List C) : (C.ren.all f cs).length = cs.length := by induction cs with | nil => rfl | cons c cs ih => simp [C.ren.all,ih]
theorem RepG.ren {gb : GB} {v : Value} : RepG w S ρ (gb.ren f) v F ↔ RepG w S (fun i => ρ (f i)) gb v F := by
  cases gb with
  | bx cs =>
    simp only [GB.ren,RepG,renAll_length]
    exact ⟨fun ⟨b,off,vs,h1,h2,h3,h4⟩ => ⟨b,off,vs,h1,h2,RepCs.ren.1 h3,h4⟩,fun ⟨b,off,vs,h1,h2,h3,h4⟩ => ⟨b,off,vs,h1,h2,RepCs.ren.2 h3,h4⟩⟩
  | opq R cs =>
    simp only [GB.ren,RepG,List.map_map]
    exact Iff.rfl
  | _ => exact Iff.rfl
end
mutual
/-- What a cell may be taken for; `ld`: own roots that are lent. -/
inductive CLe (h : List (Nat × GB)) (ld : List Nat) : C → C → Prop where
  | refl {c : C} : CLe h ld c c
  | sh {g z : Nat} {xs : List D} (e : lkG h g = .sh z xs) : CLe h ld (.gv g) (.d (.sl false z xs))
  | nil {z : Nat} (hz : 0 < z) : CLe h ld (.d (.sc (.slice none 0 0))) (.d (.sl false z []))
  | lend {g z : Nat} {xs : List D} (hg : g ∈ ld) (e : lkG h g = .row z xs) (hno : D.noOwn.all xs) : CLe h ld (.gv g) (.d (.sl false z xs))
  | lendD {g z : Nat} {xs ys : List D} (hg : g ∈ ld) (e : lkG h g = .row z xs) (hs : ShutL xs ys) : CLe h ld (.gv g) (.d (.sl false z ys))
  | lendR {g o n z : Nat} {xs ys : List D} (hg : g ∈ ld) (e : lkG h g = .row z xs) (hn : 0 < n) (ho : o + n ≤ xs.length) (hs : ShutL ((xs.drop o).take n) ys) : CLe h ld (.gp g o) (.d (.bx false ys))
  | lendV {g : Nat} {cs : List C} {xs : List D} (hg : g ∈ ld) (e : lkG h g = .bx cs) (a : CsLe h ld cs (xs.map C.d)) : CLe h ld (.gv g) (.d (.bx false xs))
  | lendP {g o : Nat} {cs cs' : List C} {ys : List D} (hg : g ∈ ld) (e : lkG h g = .bx cs) (hy : cs.drop o = cs') (a : CsLe h ld cs' (ys.map C.d)) : CLe h ld (.gp g o) (.d (.bx false ys))
  | fn {f : Fn} {cs cs' : List C} (a : CsLe h ld cs cs') : CLe h ld (.fn f cs) (.fn f cs')
  | ifc {t : Nat} {ag : Bool} {cs cs' : List C} (a : CsLe h ld cs cs') : CLe h ld (.ifc t ag cs) (.ifc t ag cs')
  | fnD {f : Fn} {cs : List C} {ds : List D} (a : CsLe h ld cs (ds.map C.d)) : CLe h ld (.fn f cs) (.d (.fn f ds))
  | ifcD {t : Nat} {ag : Bool} {cs : List C} {ds : List D} (a : CsLe h ld cs (ds.map C.d)) : CLe h ld (.ifc t ag cs) (.d (.ifc t ag ds))
inductive CsLe (h : List (Nat × GB)) (ld : List Nat) : List C → List C → Prop where
  | nil : CsLe h ld [] []
  | cons {c c' : C} {cs cs' : List C} (a : CLe h ld c c') (b : CsLe h ld cs cs') : CsLe h ld (c :: cs) (c' :: cs')
end
inductive TLe (h : List (Nat × GB)) (ld : List Nat) : List (Bool × List C) → List (Bool × List C) → Prop where
  | nil : TLe h ld [] []
  | cons {ag : Bool} {cs cs' : List C} {l l' : List (Bool × List C)} (a : CsLe h ld cs cs') (b : TLe h ld l l') : TLe h ld ((ag,cs) :: l) ((ag,cs') :: l')
inductive SVLe (h : List (Nat × GB)) (ld : List Nat) : SV → SV → Prop where
  | tup {l l' : List (Bool × List C)} (a : TLe h ld l l') : SVLe h ld (.tup l) (.tup l')
  | refl {sv : SV} : SVLe h ld sv sv
  | any {sv : SV} : SVLe h ld sv .any
  | one {c c' : C} (a : CLe h ld c c') : SVLe h ld (.one c) (.one c')
  | agg {cs cs' : List C} (a : CsLe h ld cs cs') : SVLe h ld (.agg cs) (.agg cs')
inductive ASLe (h : List (Nat × GB)) (ld : List Nat) : List SV → List SV → Prop where
  | nil : ASLe h ld [] []
  | cons {c c' : SV} {cs cs' : List SV} (a : SVLe h ld c c') (b : ASLe h ld cs cs') : ASLe h ld (c :: cs) (c' :: cs')
section
variable {g : Gh} {st st' : St} {a : Act} {w : World} {S : Foot} {ρ : Env} {F : Nat → Foot} {ld : List Nat}
theorem reps_of : ∀ {xs : List D} {vs : List Value},RepCs w S ρ (xs.map C.d) vs → Reps w S xs vs no
  | [],vs,h => h
  | x :: xs,vs,h => by
    simp only [List.map_cons,RepCs] at h
    obtain ⟨v,us,rfl,h1,h2⟩ := h
    exact ⟨v,us,no,no,rfl,le_refl _,le_refl _,no_dis _,h1,reps_of h2⟩
theorem cle_sh {i z : Nat} {xs : List D} {v : Value} (h : Rel g st a w S ρ F) (e : lkG st.h i = .sh z xs) (hc : RepC w S ρ (.gv i) v) : RepC w (S.or (chF F ld)) ρ (.d (.sl false z xs)) v :=
  RepC.keep (c := .d _) (h.shv hc (by simp [shv,e])) (Agree.refl _ _) (le_or_left _ _) (Env.le.refl ρ)
theorem cle_nil {z : Nat} {v : Value} (hz : 0 < z) (hc : RepC w S ρ (.d (.sc (.slice none 0 0))) v) : RepC w (S.or (chF F ld)) ρ (.d (.sl false z [])) v := by
  obtain ⟨rfl,_⟩ := hc
  simp only [RepC,Rep]
  exact ⟨none,0,0,rfl,by simp,hz,Nat.le_refl _,.inl ⟨rfl,fun _ => rfl⟩⟩
theorem cle_lend {i z : Nat} {xs : List D} {v : Value} (h : Rel g st a w S ρ F) (hg : i ∈ ld) (e : lkG st.h i = .row z xs) (hno : D.noOwn.all xs) (hc : RepC w S ρ (.gv i) v) : RepC w (S.or (chF F ld)) ρ (.d (.sl false z xs)) v := by
  rcases h.root i with h0 | ⟨u,r1,r2⟩
  · rw [e] at h0; cases h0
  rw [e] at r2
  have := hc.1
  rw [r1] at this
  cases this
  exact (sl_freeze r2 hno).keep Agree.no (Agree.refl _ _) (fun b o hb => hb.imp id (fun hb => ⟨i,hg,hb⟩)) (le_refl _)
theorem cle_lendD {i z : Nat} {xs ys : List D} {v : Value} (h : Rel g st a w S ρ F) (hg : i ∈ ld) (e : lkG st.h i = .row z xs) (hs : ShutL xs ys) (hc : RepC w S ρ (.gv i) v) : RepC w (S.or (chF F ld)) ρ (.d (.sl false z ys)) v := by
  rcases h.root i with h0 | ⟨u,r1,r2⟩
  · rw [e] at h0; cases h0
  rw [e] at r2
  have := hc.1
  rw [r1] at this
  cases this
  exact (Shut1.sl hs _ _ _ _ _ r2 (le_refl _)).keep Agree.no (Agree.refl _ _) (fun b o hb => hb.imp id (fun hb => ⟨i,hg,hb⟩)) (le_refl _)
theorem cle_lendR {i o n z : Nat} {xs ys : List D} {v : Value} (h : Rel g st a w S ρ F) (hg : i ∈ ld) (e : lkG st.h i = .row z xs) (hn : 0 < n) (ho : o + n ≤ xs.length) (hs : ShutL ((xs.drop o).take n) ys) (hc : RepC w S ρ (.gp i o) v) : RepC w (S.or (chF F ld)) ρ (.d (.bx false ys)) v := by
  obtain ⟨b,off,vs,G,len,cap,e1,e2,e3,e4,e5,e6,e7,e8,e9,e10,e11⟩ := h.tgt_row (i := i) (k := o) hc rfl e (by omega)
  have h1 := (e7.drop o).take n
  have hl := hs.len h1
  have h2 := hs _ _ _ _ _ h1 e9
  simp only [RepC,Rep,Bool.false_eq_true,if_false]
  refine ⟨b,off + o,(vs.drop o).take n,no,e1,(e6.drop o).take n,h2.keep Agree.no (Agree.refl _ _) (fun b o hb => hb.imp id (fun hb => ⟨i,hg,hb⟩)) (le_refl _),?_,rfl⟩
  rintro b' o' ⟨q1,q2,q3⟩
  have hcap : xs.length ≤ cap * z := by rw [e3]; exact Nat.mul_le_mul_right _ e5
  rw [List.length_take,List.length_drop] at hl
  exact .inr ⟨i,hg,e8 _ _ ⟨q1,by omega,by omega⟩⟩
theorem CsLe.length {h : List (Nat × GB)} : ∀ {cs cs' : List C},CsLe h ld cs cs' → cs.length = cs'.length
  | _,_,.nil => rfl
  | _,_,.cons a b => by simp [CsLe.length b]
theorem bx_lend {cs cs' : List C} {ys : List D} {i k : Nat} {v : Value} (h : Rel g st a w S ρ F) (hi : i ∈ ld) (e : lkG st.h i = .bx cs) (hy : cs.drop k = cs') (hlen : cs'.length = ys.length) (hrep : ∀ {vs : List Value},RepCs w S ρ cs' vs → RepCs w (S.or (chF F ld)) ρ (ys.map C.d) vs) (ht : RepC w S ρ (.gp i k) v) : Rep w (S.or (chF F ld)) (.bx false ys) v no := by
  subst hy
  obtain ⟨b,off,vs,e1,e2,e3,e4,e5,e6⟩ := h.tgt_bx (i := i) (k := k) ht rfl e
  have hr := reps_of (hrep (e4.drop k))
  simp only [Rep,Bool.false_eq_true,if_false]
  refine ⟨b,off + k,vs.drop k,no,e1,e3.drop k,hr,?_,rfl⟩
  rintro b' o' ⟨q1,q2,q3⟩
  rw [List.length_drop] at hlen
  exact .inr ⟨i,hi,e5 _ _ ⟨q1,by omega,by omega⟩⟩
theorem gv_gp {i : Nat} {cs : List C} {v : Value} (h : Rel g st a w S ρ F) (e : lkG st.h i = .bx cs) (hc : RepC w S ρ (.gv i) v) : RepC w S ρ (.gp i 0) v := by
  obtain ⟨b,off,vs,e1,e2,_⟩ := h.tgt_bx (k := 0) hc (by simp [tgt,e]) e
  exact ⟨_,b,off,e2,rfl,e1⟩
mutual
theorem CLe.rep : ∀ {c c' : C} {v : Value},CLe st.h ld c c' → Rel g st a w S ρ F → RepC w S ρ c v → RepC w (S.or (chF F ld)) ρ c' v
  | _,_,_,.refl,_,hc => hc.keep (Agree.refl _ _) (le_or_left _ _) (Env.le.refl _)
  | _,_,_,.sh e,h,hc => cle_sh h e hc
  | _,_,_,.nil hz,h,hc => cle_nil hz hc
  | _,_,_,.lend hg e hno,h,hc => cle_lend h hg e hno hc
  | _,_,_,.lendD hg e hs,h,hc => cle_lendD h hg e hs hc
  | _,_,_,.lendR hg e hn ho hs,h,hc => cle_lendR h hg e hn ho hs hc
  | _,_,_,.lendV hg e a,h,hc => bx_lend (k := 0) h hg e List.drop_zero (by have := a.length; simpa using this) (fun hr => CsLe.rep a h hr) (gv_gp h e hc)
  | _,_,_,.lendP hg e hy a,h,hc => bx_lend h hg e hy (by have := a.length; simpa using this) (fun hr => CsLe.rep a h hr) hc
  | _,_,v,.fn a,h,hc => by
    simp only [RepC] at hc ⊢
    obtain ⟨vs,rfl,hc⟩ := hc
    exact ⟨vs,rfl,CsLe.rep a h hc⟩
  | _,_,v,.ifc (ag := ag) a,h,hc => by
    simp only [RepC] at hc ⊢
    obtain ⟨u,rfl,hc⟩ := hc
    refine ⟨u,rfl,?_⟩
    cases ag with
    | true =>
      simp only [if_true] at hc ⊢
      obtain ⟨vs,rfl,hc⟩ := hc
      exact ⟨vs,rfl,CsLe.rep a h hc⟩
    | false =>
      simp only [Bool.false_eq_true,if_false] at hc ⊢
      exact CsLe.rep a h hc
  | _,_,v,.fnD a,h,hc => by
    simp only [RepC] at hc
    simp only [RepC,Rep]
    obtain ⟨vs,rfl,hc⟩ := hc
    exact ⟨vs,rfl,reps_of (CsLe.rep a h hc)⟩
  | _,_,v,.ifcD (ag := ag) a,h,hc => by
    simp only [RepC] at hc
    simp only [RepC,Rep]
    obtain ⟨u,rfl,hc⟩ := hc
    refine ⟨u,rfl,?_⟩
    cases ag with
    | true =>
      simp only [if_true] at hc ⊢
      obtain ⟨vs,rfl,hc⟩ := hc
      exact ⟨vs,rfl,reps_of (CsLe.rep a h hc)⟩
    | false =>
      simp only [Bool.false_eq_true,if_false] at hc ⊢
      exact reps_of (CsLe.rep a h hc)
theorem CsLe.rep : ∀ {cs cs' : List C} {vs : List Value},CsLe st.h ld cs cs' → Rel g st a w S ρ F → RepCs w S ρ cs vs → RepCs w (S.or (chF F ld)) ρ cs' vs
  | _,_,_,.nil,_,hc => hc
  | _,_,vs,.cons a b,h,hc => by
    simp only [RepCs] at hc ⊢
    obtain ⟨v,us,rfl,h1,h2⟩ := hc
    exact ⟨v,us,rfl,CLe.rep a h h1,CsLe.rep b h h2⟩
end
theorem TLe.rep {l l' : List (Bool × List C)} (hl : TLe st.h ld l l') (h : Rel g st a w S ρ F) : ∀ {us : List Value},RepT w S ρ l us → RepT w (S.or (chF F ld)) ρ l' us := by
  induction hl with
  | nil => exact fun h => h
  | @cons ag cs cs' l l' a b ih =>
    intro us hu
    simp only [RepT] at hu ⊢
    obtain ⟨u,vs,rfl,h1,h2⟩ := hu
    refine ⟨u,vs,rfl,?_,ih h2⟩
    unfold RepU at h1 ⊢
    cases ag with
    | true =>
      simp only [if_true] at h1 ⊢
      obtain ⟨ws,rfl,h1⟩ := h1
      exact ⟨ws,rfl,a.rep h h1⟩
    | false =>
      simp only [Bool.false_eq_true,if_false] at h1 ⊢
      exact a.rep h h1
theorem SVLe.rep {sv sv' : SV} {v : Value} (hl : SVLe st.h ld sv sv') (h : Rel g st a w S ρ F) (hc : RepS w S ρ sv v) : RepS w (S.or (chF F ld)) ρ sv' v := by
  cases hl with
  | refl => exact hc.keep (Agree.refl _ _) (le_or_left _ _) (Env.le.refl _)
  | any => trivial
  | one a => exact a.rep h hc
  | agg a => obtain ⟨vs,rfl,hc⟩ := hc; exact ⟨vs,rfl,a.rep h hc⟩
  | tup a => obtain ⟨us,rfl,hc⟩ := hc; exact ⟨us,rfl,a.rep h hc⟩
theorem chF_nil (F : Nat → Foot) : chF F [] = no := by funext b o; simp [chF,no]
theorem SVLe.rep0 {sv sv' : SV} {v : Value} (hl : SVLe st.h [] sv sv') (h : Rel g st a w S ρ F) (hc : RepS w S ρ sv v) : RepS w S ρ sv' v := by
  have := hl.rep h hc
  rwa [chF_nil,or_no] at this
theorem blt_lt {a b : Nat} (h : Nat.blt a b = true) : a < b := Nat.le_of_ble_eq_true h
def thF (θ : List Nat) (i : Nat) : Nat := θ.getD i 0
def leT (f : Nat → Nat) (st : St) : List (Nat × SV) → Prop
  | [] => True
  | (i,sv) :: r => SVLe st.h [] (lkS st.t i) (sv.ren f) ∧ leT f st r
def leH (f : Nat → Nat) (n : Nat) (st : St) : List (Nat × GB) → Prop
  | [] => True
  | (i,gb) :: r => (Nat.blt i n = true ∧ lkG st.h (f i) = gb.ren f) ∧ leH f n st r
theorem leT_lk {f : Nat → Nat} : ∀ {t : List (Nat × SV)},leT f st t → ∀ i,SVLe st.h [] (lkS st.t i) ((lkS t i).ren f)
  | [],_,i => .any
  | (j,sv) :: r,h,i => by
    simp only [lkS]
    by_cases hij : i = j
    · subst hij
      have hb : Nat.beq i i = true := by simp
      simp only [hb,cond_true]
      exact h.1
    · simp only [beq_ne hij,cond_false]
      exact leT_lk h.2 i
theorem leH_lk {f : Nat → Nat} {n : Nat} : ∀ {t : List (Nat × GB)},leH f n st t → ∀ i,lkG t i = .dead ∨ (i < n ∧ lkG st.h (f i) = (lkG t i).ren f)
  | [],_,i => .inl rfl
  | (j,sv) :: r,h,i => by
    simp only [lkG]
    by_cases hij : i = j
    · subst hij
      have hb : Nat.beq i i = true := by simp
      simp only [hb,cond_true]
      exact .inr ⟨blt_lt h.1.1,h.1.2⟩
    · simp only [beq_ne hij,cond_false]
      exact leH_lk h.2 i
def nodupB : List Nat → Bool
  | [] => true
  | x :: l => !(l.any (Nat.beq x)) && nodupB l
theorem nodupB_inj : ∀ {l : List Nat},nodupB l = true → ∀ i j,i < l.length → j < l.length → i ≠ j → thF l i ≠ thF l j
  | [],_,i,_,hi,_,_ => by simp at hi
  | x :: l,h,i,j,hi,hj,hij => by
    simp only [nodupB,Bool.and_eq_true,Bool.not_eq_true',List.any_eq_false] at h
    have hmem : ∀ k,k < l.length → thF l k ≠ x := by
      intro k hk e
      have : l[k] ∈ l := List.getElem_mem hk
      have h2 := h.1 _ this
      have e2 : thF l k = l[k] := by simp [thF,hk]
      rw [e2] at e
      exact h2 (by rw [e]; simp)
    cases i with
    | zero =>
      cases j with
      | zero => exact absurd rfl hij
      | succ j => intro e; exact hmem j (by simpa using hj) e.symm
    | succ i =>
      cases j with
      | zero => intro e; exact hmem i (by simpa using hi) e
      | succ j => exact nodupB_inj h.2 i j (by simpa using hi) (by simpa using hj) (by omega)
def C.lt (n : Nat) : C → Bool
  | .d _ => true
  | .gv g => Nat.blt g n
  | .gp g _ => Nat.blt g n
  | .gs g _ _ _ => Nat.blt g n
  | .ifc _ _ cs => all cs
  | .fn _ cs => all cs
where
  all : List C → Bool
  | [] => true
  | c :: cs => c.lt n && all cs
def tLt (n : Nat) : List (Bool × List C) → Bool
  | [] => true
  | (_,cs) :: l => C.lt.all n cs && tLt n l
def SV.lt (n : Nat) : SV → Bool
  | .one c => c.lt n
  | .agg cs => C.lt.all n cs
  | .tup l => tLt n l
  | .any => true
def GB.lt (n : Nat) : GB → Bool
  | .bx cs => C.lt.all n cs
  | .opq _ cs => cs.all fun i => Nat.blt i n
  | _ => true
mutual
theorem RepC.ltE {ρ ρ' : Env} {n : Nat} (hr : ∀ i,i < n → ρ' i = ρ i) : ∀ {c : C} {v : Value},RepC w S ρ c v → c.lt n = true → RepC w S ρ' c v
  | .d x,v,h,_ => h
  | .gv g,v,h,hl => ⟨(hr g (blt_lt hl)).trans h.1,h.2⟩
  | .gp g o,v,h,hl => by
    simp only [RepC] at h ⊢
    obtain ⟨u,b,off,h1,h2⟩ := h
    exact ⟨u,b,off,(hr g (blt_lt hl)).trans h1,h2⟩
  | .gs g z lo hi,v,h,hl => by
    simp only [RepC] at h ⊢
    obtain ⟨ad,len,cap,h1,h2⟩ := h
    exact ⟨ad,len,cap,(hr g (blt_lt hl)).trans h1,h2⟩
  | .ifc t ag cs,v,h,hl => by
    simp only [RepC] at h ⊢
    simp only [C.lt] at hl
    obtain ⟨u,rfl,h⟩ := h
    refine ⟨u,rfl,?_⟩
    cases ag with
    | true =>
      simp only [if_true] at h ⊢
      obtain ⟨vs,rfl,h⟩ := h
      exact ⟨vs,rfl,RepCs.ltE hr h hl⟩
    | false =>
      simp only [Bool.false_eq_true,if_false] at h ⊢
      exact RepCs.ltE hr h hl
  | .fn k cs,v,h,hl => by
    simp only [RepC] at h ⊢
    simp only [C.lt] at hl
    obtain ⟨vs,rfl,h⟩ := h
    exact ⟨vs,rfl,RepCs.ltE hr h hl⟩
theorem RepCs.ltE {ρ ρ' : Env} {n : Nat} (hr : ∀ i,i < n → ρ' i = ρ i) : ∀ {cs : List C} {vs : List Value},RepCs w S ρ cs vs → C.lt.all n cs = true → RepCs w S ρ' cs vs
  | [],vs,h,_ => h
  | c :: cs,vs,h,hl => by
    simp only [RepCs] at h ⊢
    simp only [C.lt.all,Bool.and_eq_true] at hl
    obtain ⟨v,us,rfl,h1,h2⟩ := h
    exact ⟨v,us,rfl,RepC.ltE hr h1 hl.1,RepCs.ltE hr h2 hl.2⟩
end
theorem RepU.ltE {ρ ρ' : Env} {n : Nat} (hr : ∀ i,i < n → ρ' i = ρ i) {ag : Bool} {cs : List C} {v : Value} (h : RepU w S ρ ag cs v) (hl : C.lt.all n cs = true) : RepU w S ρ' ag cs v := by
  unfold RepU at *
  cases ag with
  | true => simp only [if_true] at *; obtain ⟨vs,rfl,h⟩ := h; exact ⟨vs,rfl,h.ltE hr hl⟩
  | false => simp only [Bool.false_eq_true,if_false] at *; exact h.ltE hr hl
theorem RepT.ltE {ρ ρ' : Env} {n : Nat} (hr : ∀ i,i < n → ρ' i = ρ i) : ∀ {l : List (Bool × List C)} {vs : List Value},RepT w S ρ l vs → tLt n l = true → RepT w S ρ' l vs
  | [],vs,h,_ => h
  | (ag,cs) :: l,vs,h,hl => by
    simp only [RepT] at h ⊢
    simp only [tLt,Bool.and_eq_true] at hl
    obtain ⟨v,us,rfl,h1,h2⟩ := h
    exact ⟨v,us,rfl,h1.ltE hr hl.1,RepT.ltE hr h2 hl.2⟩
theorem RepS.ltE {ρ ρ' : Env} {n : Nat} (hr : ∀ i,i < n → ρ' i = ρ i) {sv : SV} {v : Value} (h : RepS w S ρ sv v) (hl : sv.lt n = true) : RepS w S ρ' sv v := by
  cases sv with
  | one c => exact RepC.ltE hr h hl
  | agg cs => obtain ⟨vs,rfl,h⟩ := h; exact ⟨vs,rfl,h.ltE hr hl⟩
  | tup l => obtain ⟨vs,rfl,h⟩ := h; exact ⟨vs,rfl,h.ltE hr hl⟩
  | any => trivial
theorem RepG.ltE {ρ ρ' : Env} {n : Nat} (hr : ∀ i,i < n → ρ' i = ρ i) {gb : GB} {v : Value} {F : Foot} (h : RepG w S ρ gb v F) (hl : gb.lt n = true) : RepG w S ρ' gb v F := by
  cases gb with
  | bx cs =>
    simp only [RepG] at h ⊢
    obtain ⟨b,off,vs,h1,h2,h3,h4⟩ := h
    exact ⟨b,off,vs,h1,h2,h3.ltE hr hl,h4⟩
  | opq R cs =>
    simp only [RepG] at h ⊢
    obtain ⟨us,h1,h2⟩ := h
    refine ⟨us,h1 ▸ List.map_congr_left fun i hi => hr i (blt_lt ((List.all_eq_true.1 hl) i hi)),h2⟩
  | _ => exact h
def allT (n : Nat) : List (Nat × SV) → Bool
  | [] => true
  | (_,sv) :: r => sv.lt n && allT n r
def allH (n : Nat) : List (Nat × GB) → Bool
  | [] => true
  | (_,gb) :: r => gb.lt n && allH n r
theorem allT_lk {n : Nat} : ∀ {t : List (Nat × SV)},allT n t = true → ∀ i,(lkS t i).lt n = true
  | [],_,_ => rfl
  | (j,sv) :: r,h,i => by
    simp only [allT,Bool.and_eq_true] at h
    simp only [lkS]
    cases hb : Nat.beq i j with
    | true => exact h.1
    | false => exact allT_lk h.2 i
theorem allH_lk {n : Nat} : ∀ {t : List (Nat × GB)},allH n t = true → ∀ i,(lkG t i).lt n = true
  | [],_,_ => rfl
  | (j,sv) :: r,h,i => by
    simp only [allH,Bool.and_eq_true] at h
    simp only [lkG]
    cases hb : Nat.beq i j with
    | true => exact h.1
    | false => exact allH_lk h.2 i
def pinB (k : Nat) (θ : List Nat) : Bool := Nat.ble k θ.length && go k θ
where
  go : Nat → List Nat → Bool
  | 0,_ => true
  | k + 1,θ => Nat.beq (thF θ k) k && go k θ
theorem pinB_spec {k : Nat} {θ : List Nat} (h : pinB k θ = true) (i : Nat) (hi : i < k) : i < θ.length ∧ thF θ i = i := by
  simp only [pinB,Bool.and_eq_true] at h
  have hl := Nat.le_of_ble_eq_true h.1
  refine ⟨by omega,?_⟩
  have key : ∀ k,pinB.go k θ = true → i < k → thF θ i = i := by
    intro k
    induction k with
    | zero => intro _ h; omega
    | succ k ih =>
      intro h hi
      simp only [pinB.go,Bool.and_eq_true] at h
      by_cases e : i = k
      · subst e; exact Nat.eq_of_beq_eq_true h.1
      · exact ih h.2 (by omega)
  exact key k h.2 hi
theorem Rel.renum (h : Rel g st a w S ρ F) {θ : List Nat} (hθ : nodupB θ = true) (hn : st'.n = θ.length) (ht : leT (thF θ) st st'.t) (hh : leH (thF θ) st'.n st st'.h) (h1 : allT st'.n st'.t = true) (h2 : allH st'.n st'.h = true) (hp : pinB g.k θ = true) :
    ∃ ρ' F',Rel g st' a w S ρ' F' ∧ Fresh st' ρ' := by
  have hr : ∀ i,i < st'.n → (fun i => if i < st'.n then ρ (thF θ i) else none) i = (fun i => ρ (thF θ i)) i := fun i hi => if_pos hi
  refine ⟨fun i => if i < st'.n then ρ (thF θ i) else none,fun i => if i < st'.n then F (thF θ i) else no,⟨h.size,h.defers.same fun i r o hi => ⟨thF θ i,by split at hi; exact hi; exact hi.elim⟩,fun i => ?_,fun i => ?_,fun i j hij => ?_,fun i => ?_,fun i => ?_,fun i b o hb => ?_,h.exS,h.old,h.inS,h.newS,fun i u hi hu => ?_,h.tab,st'.n,fun i hi => if_neg (by omega)⟩,fun i hi => if_neg (by omega)⟩
  · exact RepS.ltE hr (RepS.ren.1 ((leT_lk ht i).rep0 h (h.slot i))) (allT_lk h1 i)
  · rcases leH_lk hh i with h0 | ⟨hi,he⟩
    · exact .inl h0
    · rcases h.root (thF θ i) with r0 | ⟨u,r1,r2⟩
      · rw [r0] at he
        refine .inl ?_
        cases hg : lkG st'.h i <;> rw [hg] at he <;> simp [GB.ren] at he
      · rw [he] at r2
        refine .inr ⟨u,by simp only [if_pos hi]; exact r1,?_⟩
        simp only [if_pos hi]
        exact RepG.ltE hr (RepG.ren.1 r2) (allH_lk h2 i)
  · by_cases hi : i < st'.n <;> by_cases hj : j < st'.n
    · simp only [if_pos hi,if_pos hj]
      exact h.dis _ _ (nodupB_inj hθ i j (by omega) (by omega) hij)
    · simp only [if_neg hj]; exact dis_no _
    · simp only [if_neg hi]; exact no_dis _
    · simp only [if_neg hj]; exact dis_no _
  · by_cases hi : i < st'.n
    · simp only [if_pos hi]; exact h.disS _
    · simp only [if_neg hi]; exact no_dis _
  · by_cases hi : i < st'.n
    · simp only [if_pos hi]; exact h.own _
    · simp only [if_neg hi]; exact no_le _
  · by_cases hi : i < st'.n
    · simp only [if_pos hi] at hb; exact h.ex _ b o hb
    · simp only [if_neg hi] at hb; exact hb.elim
  · obtain ⟨h1,h2⟩ := pinB_spec hp i hi
    simp only [if_pos (show i < st'.n by omega),h2]
    exact h.pin i u hi hu
end
structure StLe (k : Nat) (θ : List Nat) (st st' : St) : Prop where
  pin : pinB k θ = true
  nd : nodupB θ = true
  n : st'.n = θ.length
  t : leT (thF θ) st st'.t
  h : leH (thF θ) st'.n st st'.h
  lt : allT st'.n st'.t = true
  lh : allH st'.n st'.h = true
theorem StLe.rel {g : Gh} {st st' : St} {θ : List Nat} {a : Act} {w : World} {S : Foot} {ρ : Env} {F : Nat → Foot} (hl : StLe g.k θ st st') (h : Rel g st a w S ρ F) : ∃ ρ' F',Rel g st' a w S ρ' F' ∧ Fresh st' ρ' := h.renum hl.nd hl.n hl.t hl.h hl.lt hl.lh hl.pin
section
variable {P : Program} {g : Gh} {st st' : St} {Q : Exit → St → Prop}
theorem g_le {c : Code} {θ : List Nat} (hl : StLe g.k θ st st') (h : GWp P g c st' Q) : GWp P g c st Q := ⟨fun a w S ρ F hr hf =>
  let ⟨ρ',F',h1,h2⟩ := hl.rel hr; h.run a w S ρ' F' h1 h2⟩
inductive qLoop {α : Type} (k : Nat) (I : α → Prop) (T : α → St) (μ : α → Nat) (m : Nat) (Q : Exit → St → Prop) : Exit → St → Prop where
  | again {st : St} (x : α) (θ : List Nat) (hI : I x) (hm : μ x < m) (hl : StLe k θ st (T x)) : qLoop k I T μ m Q .normal st
  | out {e : Exit} {st : St} (hne : e ≠ .normal) (h : Q e st) : qLoop k I T μ m Q e st
theorem g_loop {α : Type} (I : α → Prop) (T : α → St) (μ : α → Nat) (x0 : α) (θ : List Nat) {c : Code} (h0 : I x0) (hin : StLe g.k θ st (T x0)) (hr : ∀ x,I x → GWp P g c (T x) (qLoop g.k I T μ (μ x) Q)) : GWp P g (.loop c) st Q := by
  refine ⟨fun a w S ρ F hrel hf => ?_⟩
  obtain ⟨ρ1,F1,r1,f1⟩ := hin.rel hrel
  intro b k cs hro hbf hroom
  have key : ∀ n x a w S ρ F,μ x = n → I x → Rel g (T x) a w S ρ F → Fresh (T x) ρ →
      ∃ e a' w',GQ g Q e a' w' ∧ ArrivesIn (Machine.fenced P (fen g.rd)) P (lone (b.atR a (.code c :: .inLoop c :: k)) cs w) b k cs e a' w' := by
    intro n
    induction n using Nat.strongRecOn with
    | _ n ih =>
      intro x a w S ρ F hn hI hrel hf
      obtain ⟨e,a₁,w₁,⟨st1,S1,ρ1,F1,q1,q2,q3⟩,harr⟩ := (hr x hI).run a w S ρ F hrel hf b (.inLoop c :: k) cs hro hbf hroom
      cases q3 with
      | again x' θ' hI' hlt hle =>
        obtain ⟨ρ2,F2,r2,f2⟩ := hle.rel q1
        obtain ⟨e₂,a₂,w₂,hq₂,harr₂⟩ := ih (μ x') (hn ▸ hlt) x' a₁ w₁ S1 ρ2 F2 rfl hI' r2 f2
        exact ⟨e₂,a₂,w₂,hq₂,.of_steps (StepsIn.trans harr (.one (fenced_calm hbf hroom rfl) stepR_inLoop)) harr₂⟩
      | out hne q3 => exact ⟨e,a₁,w₁,⟨st1,S1,ρ1,F1,q1,q2,q3⟩,.pass (x := .inLoop c) rfl (fun _ _ => .inl hne) harr⟩
  obtain ⟨e,a',w',hq,harr⟩ := key _ x0 a w S ρ1 F1 rfl h0 r1 f1
  exact ⟨e,a',w',hq,.of_steps (.one (fenced_calm hbf hroom rfl) stepR_loop) harr⟩
inductive qCut {α : Type} (k : Nat) (I : α → Prop) (T : α → St) (Q : Exit → St → Prop) : Exit → St → Prop where
  | here {st : St} (x : α) (θ : List Nat) (hI : I x) (hl : StLe k θ st (T x)) : qCut k I T Q .normal st
  | out {e : Exit} {st : St} (hne : e ≠ .normal) (h : Q e st) : qCut k I T Q e st
end
end Go.Proofs.YtegpggobfdcafaaGreat
end
