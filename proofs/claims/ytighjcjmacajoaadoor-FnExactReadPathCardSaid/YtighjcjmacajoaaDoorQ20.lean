/- Parts of the proof (20 of 21). -/
import Derived.Carry
import Derived.ChangeOld
import Derived.Deep.Fields
import Derived.Deep.Slices
import Derived.OpenShut
import Derived.ProofKit
import Derived.ShutString
import Derived.Test.YtighjcjmacajoaaDoorQ19
section
set_option linter.unusedVariables false
set_option linter.unusedSimpArgs false
set_option maxRecDepth 100000
namespace Go.Proofs.YtighjcjmacajoaaDoor
open Go Foot Go.ChangeShapes Go.WideShapes Go.ChangeAt Go.RowKit Go.Deep
def allW (w : World) : Foot := fun b _ => b < w.heap.size
def Opens {α : Type} (P : Program) (t : TypeId) (z : Nat) (E : α → List D) (Q : α → Prop) : Prop :=
  (∀ a,(E a).length = z) ∧
  ∀ {H : Type} (enc : TypeId × Value → H) (w : World) (base : Nat) (held : Bool) (fuel : Nat) (cs : List Value) (x : DataW H × List MemPlace),
    DataW.trod enc P w base (fun _ => true) held fuel t cs = some x → ∃ a,Reps w (allW w) (E a) cs no ∧ Q a
theorem reps_one {w : World} {S : Foot} {c : D} {v : Value} (h : Rep w S c v no) : Reps w S [c] [v] no :=
  ⟨v,[],no,no,rfl,le_refl _,le_refl _,no_dis _,h,rfl⟩
section
variable {H : Type} {enc : TypeId × Value → H} {P : Program} {w : World} {base : Nat} {held : Bool} {t : TypeId} {v : Value} {d : DataW H} {p : List MemPlace} {ρ : Env}
theorem arg_one {α : Type} {E : α → D} {Q : α → Prop} (hv : v.cells = #[v]) (h : DataW.Trod enc P w base (fun _ => true) held t v d p) (ho : Opens P t 1 (fun a => [E a]) Q) :
    ∃ a,RepS w (allW w) ρ (.one (.d (E a))) v ∧ Q a := by
  obtain ⟨fuel,hf⟩ := h
  obtain ⟨a,ha,hq⟩ := ho.2 enc w base held fuel _ _ hf
  rw [hv] at ha
  simp only [Reps] at ha
  obtain ⟨v',us,F1,F2,e,_,_,_,h1,rfl⟩ := ha
  cases e
  exact ⟨a,h1.mono (by assumption),hq⟩
end
theorem does_calls {P : Program} {f : Nat} {args : List SV} {vs : Array Value} {w : World} (hd : Does P f args [] (.one (boo true)) []) (ht : Tabs w (allW w)) (ha : RepA w (allW w) (fun _ => none) args vs.toList) :
    Calls P f vs w fun e w' => e = .returned (.bool true) ∧ Below w.heap.size w w' := by
  have := hd vs.toList w (allW w) (fun _ => none) (fun _ => no) ha ⟨fun i gb h => by simp at h,fun _ _ => rfl,fun i j h => by simp at h,fun i h => by simp at h,fun i h => by simp at h,fun b o h => h,ht⟩
  rw [show vs.toList.toArray = vs from rfl] at this
  refine this.mono fun e w' hx => ?_
  obtain ⟨v,S1,ρ',F',he,hr,hv⟩ := hx
  obtain ⟨rfl,_⟩ := hv
  refine ⟨he,hr.keeps.os,hr.keeps.tape,hr.keeps.output,hr.keeps.size,fun k hk => hr.keeps.block k hk fun o ⟨i,hi,_⟩ => by simp at hi⟩
end Go.Proofs.YtighjcjmacajoaaDoor
end
section
set_option linter.unusedVariables false
set_option linter.unusedSimpArgs false
set_option maxRecDepth 100000
namespace Go.Proofs.YtighjcjmacajoaaDoor
open Go Foot Go.ChangeShapes Go.WideShapes Go.ChangeAt Go.RowKit Go.Deep
theorem own : ownKnob Tryd.prog.godebug = none := by kernel_rfl
theorem laidOut : laidOutB Tryd.prog = true := by kernel_rfl
end Go.Proofs.YtighjcjmacajoaaDoor
end
section
set_option linter.unusedVariables false
set_option linter.unusedSimpArgs false
set_option maxRecDepth 100000
namespace Go.Proofs.YtighjcjmacajoaaDoor
open Go Foot Go.ChangeShapes Go.WideShapes Go.ChangeAt Go.RowKit Go.Deep
end Go.Proofs.YtighjcjmacajoaaDoor
end
