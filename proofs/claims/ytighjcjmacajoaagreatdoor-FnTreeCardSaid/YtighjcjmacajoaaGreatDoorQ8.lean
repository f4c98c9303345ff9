/- Parts of the proof (8 of 24). -/
import Derived.MapKept
import Derived.Test.YtighjcjmacajoaaGreatDoorQ7
section
set_option linter.unusedVariables false
set_option linter.unusedSimpArgs false
set_option maxRecDepth 100000
namespace Go.Proofs.YtighjcjmacajoaaGreatDoor
open Go Foot MapKept
structure MapE (α β : Type) where
  d : TypeDesc
  ke : α → Value
  ve : β → Value
  isK : ∀ a,IsKey d (ke a)
  inj : ∀ a b,ke a = ke b → a = b
  one : ∀ b,(ve b).oneCell' = true
section
variable {α β : Type} [DecidableEq α]
theorem arr_modify {es : Array MapEntry} {i : Nat} {f : MapEntry → MapEntry} : (es.modify i f).toList = es.toList.modify i f := by simp
end
section
variable {P : Program} {g : Gh} {st : St}
variable {dst : Option Tmp} {ty : TypeId} {pos : String} {after : Array Edge} {guard : Option (Nat × Bool)} {x y z : Operand} {T kt et : TypeId}
theorem mapAt_some {w : World} {b : Nat} {es : Array MapEntry} {c : Nat} (h : mapAt w b = some (.map es c)) : w.heap[b]? = some (.map es c) := mapAt_of h
theorem stamps_push {es : Array MapEntry} {c : Nat} {k v : Value} (h : stamps es c) : stamps (es.push { key := k,val := v,born := c }) (c + 1) := by
  refine ⟨?_,?_⟩
  · simp only [Array.toList_push,List.map_append,List.map_cons,List.map_nil]
    rw [List.nodup_append]
    refine ⟨h.1,by simp,?_⟩
    intro a ha b hb
    obtain ⟨x,hx,rfl⟩ := List.mem_map.1 ha
    have := h.2 x hx
    simp only [List.mem_singleton] at hb
    omega
  · intro x hx
    simp only [Array.toList_push,List.mem_append,List.mem_singleton] at hx
    rcases hx with hx | rfl
    · have := h.2 x hx; omega
    · simp
theorem stamps_modify {es : Array MapEntry} {c j : Nat} {k v : Value} (h : stamps es c) : stamps (es.modify j fun e => { e with key := k,val := v }) c := by
  have hb : (es.modify j fun e => { e with key := k,val := v }).toList.map (·.born) = es.toList.map (·.born) := by
    apply List.ext_getElem?
    intro i
    simp only [List.getElem?_map,Array.toList_modify,List.getElem?_modify]
    cases hi : es.toList[i]? with
    | none => simp
    | some e => by_cases hij : j = i <;> simp [hij]
  refine ⟨by rw [hb]; exact h.1,fun x hx => ?_⟩
  have hx' : x.born ∈ (es.modify j fun e => { e with key := k,val := v }).toList.map (·.born) := List.mem_map_of_mem hx
  rw [hb] at hx'
  obtain ⟨y,hy,e⟩ := List.mem_map.1 hx'
  rw [← e]
  exact h.2 y hy
variable {α β : Type} [DecidableEq α]
def zeroV (P : Program) (T : Nat) : Option Value := match P.info? T with
  | some i => i.zero
  | none => none
theorem run_zeroV {w : World} {v : Value} (h : zeroV P et = some v) : (zeroValue et).run P w = .ok v w := by
  unfold zeroV at h
  split at h
  · rename_i i hi
    simp [zeroValue,typeInfo,hi,h]
  · cases h
theorem keeps_map {w : World} {b c c' : Nat} {es es' : Array MapEntry} (hb : w.heap[b]? = some (.map es c)) : Keeps (fun b' _ => b' = b) w { w with heap := w.heap.setIfInBounds b (.map es' c') } := by
  obtain ⟨_,h2⟩ := heap_set (o' := .map es' c') hb
  refine ⟨rfl,rfl,rfl,by simp,fun b' _ hn => h2 b' (fun e => hn 0 e),fun b' o _ hn => ?_⟩
  have := h2 b' hn
  simp [World.cell?,World.frozen?,mapAt,this]
end
end Go.Proofs.YtighjcjmacajoaaGreatDoor
end
