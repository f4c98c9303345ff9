/- Parts of the proof (15 of 19). -/
import Derived.Shelf.Strings.BuilderK
import Derived.Test.YtegpggobfdcafaaGreatQ14
section
set_option linter.unusedVariables false
set_option linter.unusedSimpArgs false
set_option maxRecDepth 100000
namespace Go.Proofs.YtegpggobfdcafaaGreat
open Go Foot Go.Shelf Go.RowKit
structure Fr (b : Nat) (q : Option Nat) (w w' : World) : Prop where
  os : w'.os = w.os
  tape : w'.tape = w.tape
  output : w'.output = w.output
  size : w.heap.size ≤ w'.heap.size
  block : ∀ k,k < w.heap.size → k ≠ b → some k ≠ q → w'.heap[k]? = w.heap[k]?
theorem Fr.refl (b : Nat) (q : Option Nat) (w : World) : Fr b q w w := ⟨rfl,rfl,rfl,Nat.le_refl _,fun _ _ _ _ => rfl⟩
theorem Fr.trans {b : Nat} {q q' : Option Nat} {w w1 w2 : World} (h : Fr b q w w1) (h' : Fr b q' w1 w2) (hq : ∀ k,k < w.heap.size → some k = q' → some k = q) : Fr b q w w2 :=
  ⟨h'.os.trans h.os,h'.tape.trans h.tape,h'.output.trans h.output,Nat.le_trans h.size h'.size,fun k hk hb hn => (h'.block k (Nat.lt_of_lt_of_le hk h.size) hb (fun e => hn (hq k hk e))).trans (h.block k hk hb hn)⟩
theorem Fr.mono {b : Nat} {q : Option Nat} {w w' : World} (h : Fr b none w w') : Fr b q w w' := ⟨h.os,h.tape,h.output,h.size,fun k hk hb _ => h.block k hk hb (by simp)⟩
theorem Fr.set (b o : Nat) (q : Option Nat) (w : World) (v : Value) : Fr b q w (w.setCell ⟨b,o,none⟩ v) := ⟨rfl,rfl,rfl,by simp [World.setCell],fun k _ hb _ => by simp [World.setCell,Array.getElem?_modify,Ne.symm hb]⟩
theorem Fr.alloc (b : Nat) (q : Option Nat) (w : World) (o : Obj) : Fr b q w (w.alloc o) := ⟨rfl,rfl,rfl,by simp,fun k hk _ _ => Lib.alloc_old w o k hk⟩
section
variable {P : Program} {w : World}
end
section
variable {P : Program} {ρ : Ren}
abbrev self (b : Nat) : Value := .pointer (some ⟨b,0,none⟩)
structure Bl (w : World) (T e b : Nat) (p v : Value) (xs : List Value) : Prop where
  adr : p = .pointer none ∨ p = self b
  at_ : w.heap[b]? = some (.cells #[p,v] T (0,0))
  own : w.ownsRowF 0 e 1 v xs.length xs
  ne : v.ownBlock ≠ some b
theorem Fr.drew (b : Nat) (q : Option Nat) (w : World) : Fr b q w w.drew := ⟨rfl,rfl,rfl,Nat.le_refl _,fun _ _ _ _ => rfl⟩
theorem Bl.drew {w : World} {T e b : Nat} {p v : Value} {xs : List Value} (h : Bl w T e b p v xs) : Bl w.drew T e b p v xs := ⟨h.adr,h.at_,h.own,h.ne⟩
end
end Go.Proofs.YtegpggobfdcafaaGreat
end
section
set_option linter.unusedVariables false
set_option linter.unusedSimpArgs false
set_option maxRecDepth 100000
namespace Go.Proofs.YtegpggobfdcafaaGreat
open Go Foot
section
variable {P : Program} {g : Gh} {st : St} {sv : SV} {dst : Option Tmp} {ty : TypeId} {pos : String} {after : Array Edge} {guard : Option (Nat × Bool)} {x : Operand}
end
section
variable {g : Gh} {dst : Option Tmp} {ty : TypeId} {pos : String} {after : Array Edge} {guard : Option (Nat × Bool)} {x : Operand} {f Ty i : Nat} {cs : List C} {name : String} {xs : List Operand} {Ts : Array TypeId} {ags : List SV} {H H' : List GB} {res : SV} {θ : List Nat} {t : List (Nat × SV)} {h : List (Nat × GB)} {n : Nat}
end
section
variable {g : Gh} {dst : Option Tmp} {ty : TypeId} {pos : String} {after : Array Edge} {guard : Option (Nat × Bool)} {x : Operand} {f Ty : Nat} {c1 : C} {name : String} {xs : List Operand} {Ts : Array TypeId} {ags : List SV} {H H' : List GB} {res : SV} {θ : List Nat} {t : List (Nat × SV)} {h : List (Nat × GB)} {n : Nat}
end
end Go.Proofs.YtegpggobfdcafaaGreat
end
section
set_option linter.unusedVariables false
set_option linter.unusedSimpArgs false
set_option maxRecDepth 100000
namespace Go.Proofs.YtegpggobfdcafaaGreat
open Go Foot MapKept
section
variable {P : Program} {g : Gh} {st : St}
variable {dst : Option Tmp} {ty : TypeId} {pos : String} {after : Array Edge} {guard : Option (Nat × Bool)} {x y z : Operand} {T kt et : TypeId} {α β : Type} [DecidableEq α]
end
end Go.Proofs.YtegpggobfdcafaaGreat
end
