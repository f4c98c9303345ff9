/- Parts of the proof (8 of 23). -/
import Derived.MapKept
import Derived.Test.YtnkeamihfiobdaaGreatDoorQ7
section
set_option linter.unusedVariables false
set_option linter.unusedSimpArgs false
set_option maxRecDepth 100000
namespace Go.Proofs.YtnkeamihfiobdaaGreatDoor
open Go Foot MapKept
structure MapE (α β : Type) where
  d : TypeDesc
  ke : α → Value
  ve : β → Value
  isK : ∀ a,IsKey d (ke a)
  inj : ∀ a b,ke a = ke b → a = b
  one : ∀ b,(ve b).oneCell' = true
section
variable {α β : Type} [DecidableEq α]
abbrev mpOf (M : MapE α β) (l : List (α × β)) : GB := .mp (l.map fun p => (M.ke p.1,M.ve p.2))
def getA : List (α × β) → α → Option β
  | [],_ => none
  | (k,v) :: r,a => if k = a then some v else getA r a
def setA : List (α × β) → α → β → List (α × β)
  | [],a,b => [(a,b)]
  | (k,v) :: r,a,b => if k = a then (a,b) :: r else (k,v) :: setA r a b
theorem findNow_A (M : MapE α β) (a : α) (b' : β) : ∀ (es : List MapEntry) (l : List (α × β)) (i : Nat),es.map (fun e => (e.key,e.val)) = l.map (fun p => (M.ke p.1,M.ve p.2)) →
    (getA l a = none ∧ Instr.findNow M.d (M.ke a) es i = some none ∧ setA l a b' = l ++ [(a,b')]) ∨
    ∃ b j e,getA l a = some b ∧ Instr.findNow M.d (M.ke a) es i = some (some (i + j,M.ve b)) ∧ es[j]? = some e ∧ e.key = M.ke a ∧ (es.modify j fun e => { e with key := M.ke a,val := M.ve b' }).map (fun e => (e.key,e.val)) = (setA l a b').map (fun p => (M.ke p.1,M.ve p.2))
  | [],[],i,_ => .inl ⟨rfl,rfl,rfl⟩
  | [],_ :: _,i,h => by simp at h
  | _ :: _,[],i,h => by simp at h
  | e :: es,(k,v) :: l,i,h => by
    simp only [List.map_cons,List.cons.injEq,Prod.mk.injEq] at h
    obtain ⟨⟨h1,h2⟩,h3⟩ := h
    obtain ⟨r,hr,hiff⟩ := sameNow_of_keys (M.isK a) (M.isK k)
    by_cases hk : k = a
    · subst hk
      have : r = true := hiff.2 rfl
      subst this
      refine .inr ⟨v,0,e,by simp [getA],by simp [Instr.findNow,h1,hr,h2],rfl,h1,?_⟩
      simp [setA,h3]
    · have hne : r = false := by
        cases r with
        | false => rfl
        | true => exact absurd (M.inj _ _ (hiff.1 rfl)).symm hk
      subst hne
      rcases findNow_A M a b' es l (i + 1) h3 with ⟨g1,g2,g3⟩ | ⟨b,j,e',g1,g2,g3,g4,g5⟩
      · exact .inl ⟨by simp [getA,hk,g1],by simp [Instr.findNow,h1,hr,g2],by simp [setA,hk,g3]⟩
      · refine .inr ⟨b,j + 1,e',by simp [getA,hk,g1],?_,by simpa using g3,g4,?_⟩
        · simp only [Instr.findNow,h1,hr,g2]
          congr 3
          omega
        · simp only [List.modify_succ_cons,List.map_cons,setA,hk,if_false,g5,h1,h2]
theorem arr_modify {es : Array MapEntry} {i : Nat} {f : MapEntry → MapEntry} : (es.modify i f).toList = es.toList.modify i f := by simp
end
section
variable {P : Program} {g : Gh} {st : St}
variable {dst : Option Tmp} {ty : TypeId} {pos : String} {after : Array Edge} {guard : Option (Nat × Bool)} {x y z : Operand} {T kt et : TypeId}
theorem mapAt_some {w : World} {b : Nat} {es : Array MapEntry} {c : Nat} (h : mapAt w b = some (.map es c)) : w.heap[b]? = some (.map es c) := mapAt_of h
theorem stamps_push {es : Array MapEntry} {c : Nat} {k v : Value} (h : stamps es c) : stamps (es.push { key := k,val := v,born := c }) (c + 1) := by
  refine ⟨?_,?_⟩
  · simp only [Array.toList_push,List.map_append,List.map_cons,List.map_nil]
    rw [List.nodup_append]
    refine ⟨h.1,by simp,?_⟩
    intro a ha b hb
    obtain ⟨x,hx,rfl⟩ := List.mem_map.1 ha
    have := h.2 x hx
    simp only [List.mem_singleton] at hb
    omega
  · intro x hx
    simp only [Array.toList_push,List.mem_append,List.mem_singleton] at hx
    rcases hx with hx | rfl
    · have := h.2 x hx; omega
    · simp
theorem stamps_modify {es : Array MapEntry} {c j : Nat} {k v : Value} (h : stamps es c) : stamps (es.modify j fun e => { e with key := k,val := v }) c := by
  have hb : (es.modify j fun e => { e with key := k,val := v }).toList.map (·.born) = es.toList.map (·.born) := by
    apply List.ext_getElem?
    intro i
    simp only [List.getElem?_map,Array.toList_modify,List.getElem?_modify]
    cases hi : es.toList[i]? with
    | none => simp
    | some e => by_cases hij : j = i <;> simp [hij]
  refine ⟨by rw [hb]; exact h.1,fun x hx => ?_⟩
  have hx' : x.born ∈ (es.modify j fun e => { e with key := k,val := v }).toList.map (·.born) := List.mem_map_of_mem hx
  rw [hb] at hx'
  obtain ⟨y,hy,e⟩ := List.mem_map.1 hx'
  rw [← e]
  exact h.2 y hy
theorem a_mkMap {i : Nat} : Acts P g ⟨dst,.makeMap T none,ty,pos,after,guard⟩ st (.one (.gv i)) [] [(i,.mp [])] := by
  refine ⟨fun a w S ρ F h hn K Q hK => ?_⟩
  have hn' : ρ i = none := by simpa using hn (i,.mp []) (by simp)
  have hrun : (execOp a.eval ⟨dst,.makeMap T none,ty,pos,after,guard⟩).run P w = .ok (.value (.map (some w.heap.size))) (w.alloc (.map #[] 0)) := rfl
  refine oper_in (fun _ h => nomatch h) ?_
  rw [hrun,Oper.uponIn_value]
  refine hK (.map (some w.heap.size)) _ no _ _ (Done.new (u := .map (some w.heap.size)) (S1 := no) (G := fun b _ => b = w.heap.size) (keeps_alloc _) hn' (fun ρ' hl _ => ?_) (fun b o hb => by subst hb; exact ⟨Nat.le_refl _,by simp⟩)) ⟨by simp,rfl⟩
  exact ⟨w.heap.size,#[],0,rfl,by simp [mapAt,heap_alloc],rfl,⟨by simp,by simp⟩,fun _ => rfl⟩
theorem a_mkMapE {α β : Type} (M : MapE α β) {i : Nat} : Acts P g ⟨dst,.makeMap T none,ty,pos,after,guard⟩ st (.one (.gv i)) [] [(i,mpOf M [])] := a_mkMap
theorem rel_map {a : Act} {w : World} {S : Foot} {ρ : Env} {F : Nat → Foot} {α β : Type} {M : MapE α β} {l : List (α × β)} {i : Nat} (h : Rel g st a w S ρ F) (hx : opd st x = .one (.gv i)) (hg : lkG st.h i = mpOf M l) :
    ∃ b es c,a.eval x = .map (some b) ∧ ρ i = some (.map (some b)) ∧ w.heap[b]? = some (.map es c) ∧ es.toList.map (fun e => (e.key,e.val)) = l.map (fun p => (M.ke p.1,M.ve p.2)) ∧ (∀ o,F i b o) ∧ stamps es c := by
  have h1 := (opd_one h hx).1
  rcases h.root i with h0 | ⟨u,r1,r2⟩
  · rw [hg] at h0; cases h0
  rw [hg] at r2
  obtain ⟨b,es,c,rfl,e2,e3,e5,e4⟩ := r2
  rw [r1] at h1
  simp only [Option.some.injEq] at h1
  exact ⟨b,es,c,h1.symm,r1,mapAt_some e2,e3,e4,e5⟩
variable {α β : Type} [DecidableEq α]
def zeroV (P : Program) (T : Nat) : Option Value := match P.info? T with
  | some i => i.zero
  | none => none
theorem run_zeroV {w : World} {v : Value} (h : zeroV P et = some v) : (zeroValue et).run P w = .ok v w := by
  unfold zeroV at h
  split at h
  · rename_i i hi
    simp [zeroValue,typeInfo,hi,h]
  · cases h
theorem keeps_map {w : World} {b c c' : Nat} {es es' : Array MapEntry} (hb : w.heap[b]? = some (.map es c)) : Keeps (fun b' _ => b' = b) w { w with heap := w.heap.setIfInBounds b (.map es' c') } := by
  obtain ⟨_,h2⟩ := heap_set (o' := .map es' c') hb
  refine ⟨rfl,rfl,rfl,by simp,fun b' _ hn => h2 b' (fun e => hn 0 e),fun b' o _ hn => ?_⟩
  have := h2 b' hn
  simp [World.cell?,World.frozen?,mapAt,this]
theorem a_mapUpd {M : MapE α β} {l : List (α × β)} {i : Nat} {a0 : α} {b0 : β} (hx : opd st x = .one (.gv i)) (hg : lkG st.h i = mpOf M l) (hy : opd st y = .one (.d (.sc (M.ke a0)))) (hv : opd st z = .one (.d (.sc (M.ve b0)))) (hT : P.underlying T = some (.map kt et)) (hk : P.underlying kt = some M.d) :
    Acts P g ⟨none,.mapUpdate T x y z,ty,pos,after,guard⟩ st .any [i] [(i,mpOf M (setA l a0 b0))] := by
  refine ⟨fun a w S ρ F h _ K Q hK => ?_⟩
  obtain ⟨b,es,c,e1,e0,e2,e3,e4,e5⟩ := rel_map h hx hg
  have hbs : b < w.heap.size := (Array.getElem?_eq_some_iff.1 e2).1
  have key : ∃ es' c',(Instr.mapUpdate T (a.eval x) (a.eval y) (a.eval z)).run P w = .ok () { w with heap := w.heap.setIfInBounds b (.map es' c') } ∧ es'.toList.map (fun e => (e.key,e.val)) = (setA l a0 b0).map (fun p => (M.ke p.1,M.ve p.2)) ∧ stamps es' c' := by
    rw [e1,opd_sc h hy,opd_sc h hv]
    rcases findNow_A M a0 b0 es.toList l 0 e3 with ⟨g1,g2,g3⟩ | ⟨v,j,e,g1,g2,g3,g4,g5⟩
    · refine ⟨es.push { key := M.ke a0,val := M.ve b0,born := c },c + 1,?_,?_,stamps_push e5⟩
      · simp [Instr.mapUpdate,run_underlying hT,MapKept.run_getObj_map e2,MapKept.run_checkKey hk (M.isK a0) false 9999,MapKept.run_findKey hk g2,MapKept.run_setObj_map _ e2]
      · rw [g3]; simp [e3]
    · rw [Nat.zero_add] at g2
      have g3' : es[j]? = some e := by simpa using g3
      refine ⟨es.modify j fun e => { e with key := M.ke a0,val := M.ve b0 },c,?_,?_,stamps_modify e5⟩
      · simp [Instr.mapUpdate,run_underlying hT,MapKept.run_getObj_map e2,MapKept.run_checkKey hk (M.isK a0) false 9999,MapKept.run_findKey hk g2,g3',g4,MapKept.run_keyThatStays (M.isK a0),MapKept.run_setObj_map _ e2]
      · rw [arr_modify,g5]
  obtain ⟨es',c',hrun,hes,hst⟩ := key
  have hrun' : (execOp a.eval ⟨none,.mapUpdate T x y z,ty,pos,after,guard⟩).run P w = .ok .skip { w with heap := w.heap.setIfInBounds b (.map es' c') } := by
    show (do Instr.mapUpdate T (a.eval x) (a.eval y) (a.eval z); pure .skip : Sem Next).run P w = _
    simp [hrun]
  refine oper_in (fun _ h => nomatch h) ?_
  rw [hrun',Oper.uponIn_skip]
  have hk' := (keeps_map (es' := es') (c' := c') e2).mono (F1 := F i) (by rintro b' o rfl; exact e4 o)
  refine hK undef _ no ρ _ (Done.chg (G := F i) hk' e0 ?_ (fun b o hb => ⟨.inl hb,by simpa using h.ex i b o hb⟩)) trivial
  exact ⟨b,es',c',rfl,by simp [mapAt,(heap_set (o' := .map es' c') e2).1],hes,hst,e4⟩
end
end Go.Proofs.YtnkeamihfiobdaaGreatDoor
end
