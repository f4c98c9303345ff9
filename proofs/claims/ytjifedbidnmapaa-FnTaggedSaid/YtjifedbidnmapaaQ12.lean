/- Parts of the proof (12 of 21). -/
import Derived.Shelf.Strings.BuilderK
import Derived.Test.YtjifedbidnmapaaQ11
section
set_option linter.unusedVariables false
set_option linter.unusedSimpArgs false
set_option maxRecDepth 100000
namespace Go.Proofs.Ytjifedbidnmapaa
open Go Foot Go.Shelf Go.RowKit
structure Fr (b : Nat) (q : Option Nat) (w w' : World) : Prop where
  os : w'.os = w.os
  tape : w'.tape = w.tape
  output : w'.output = w.output
  size : w.heap.size ≤ w'.heap.size
  block : ∀ k,k < w.heap.size → k ≠ b → some k ≠ q → w'.heap[k]? = w.heap[k]?
theorem Fr.refl (b : Nat) (q : Option Nat) (w : World) : Fr b q w w := ⟨rfl,rfl,rfl,Nat.le_refl _,fun _ _ _ _ => rfl⟩
theorem Fr.trans {b : Nat} {q q' : Option Nat} {w w1 w2 : World} (h : Fr b q w w1) (h' : Fr b q' w1 w2) (hq : ∀ k,k < w.heap.size → some k = q' → some k = q) : Fr b q w w2 :=
  ⟨h'.os.trans h.os,h'.tape.trans h.tape,h'.output.trans h.output,Nat.le_trans h.size h'.size,fun k hk hb hn => (h'.block k (Nat.lt_of_lt_of_le hk h.size) hb (fun e => hn (hq k hk e))).trans (h.block k hk hb hn)⟩
theorem Fr.mono {b : Nat} {q : Option Nat} {w w' : World} (h : Fr b none w w') : Fr b q w w' := ⟨h.os,h.tape,h.output,h.size,fun k hk hb _ => h.block k hk hb (by simp)⟩
theorem Fr.set (b o : Nat) (q : Option Nat) (w : World) (v : Value) : Fr b q w (w.setCell ⟨b,o,none⟩ v) := ⟨rfl,rfl,rfl,by simp [World.setCell],fun k _ hb _ => by simp [World.setCell,Array.getElem?_modify,Ne.symm hb]⟩
theorem Fr.alloc (b : Nat) (q : Option Nat) (w : World) (o : Obj) : Fr b q w (w.alloc o) := ⟨rfl,rfl,rfl,by simp,fun k hk _ _ => Lib.alloc_old w o k hk⟩
section
variable {P : Program} {w : World}
end
section
variable {P : Program} {ρ : Ren}
abbrev self (b : Nat) : Value := .pointer (some ⟨b,0,none⟩)
structure Bl (w : World) (T e b : Nat) (p v : Value) (xs : List Value) : Prop where
  adr : p = .pointer none ∨ p = self b
  at_ : w.heap[b]? = some (.cells #[p,v] T (0,0))
  own : w.ownsRowF 0 e 1 v xs.length xs
  ne : v.ownBlock ≠ some b
theorem Fr.drew (b : Nat) (q : Option Nat) (w : World) : Fr b q w w.drew := ⟨rfl,rfl,rfl,Nat.le_refl _,fun _ _ _ _ => rfl⟩
theorem Bl.drew {w : World} {T e b : Nat} {p v : Value} {xs : List Value} (h : Bl w T e b p v xs) : Bl w.drew T e b p v xs := ⟨h.adr,h.at_,h.own,h.ne⟩
end
end Go.Proofs.Ytjifedbidnmapaa
end
section
set_option linter.unusedVariables false
set_option linter.unusedSimpArgs false
set_option maxRecDepth 100000
namespace Go.Proofs.Ytjifedbidnmapaa
open Go Foot
section
variable {P : Program} {g : Gh} {st : St} {sv : SV} {dst : Option Tmp} {ty : TypeId} {pos : String} {after : Array Edge} {guard : Option (Nat × Bool)} {x : Operand}
end
section
variable {g : Gh} {dst : Option Tmp} {ty : TypeId} {pos : String} {after : Array Edge} {guard : Option (Nat × Bool)} {x : Operand} {f Ty i : Nat} {cs : List C} {name : String} {xs : List Operand} {Ts : Array TypeId} {ags : List SV} {H H' : List GB} {res : SV} {θ : List Nat} {t : List (Nat × SV)} {h : List (Nat × GB)} {n : Nat}
end
section
variable {g : Gh} {dst : Option Tmp} {ty : TypeId} {pos : String} {after : Array Edge} {guard : Option (Nat × Bool)} {x : Operand} {f Ty : Nat} {c1 : C} {name : String} {xs : List Operand} {Ts : Array TypeId} {ags : List SV} {H H' : List GB} {res : SV} {θ : List Nat} {t : List (Nat × SV)} {h : List (Nat × GB)} {n : Nat}
theorem callM0 (hc : opd ⟨t,h,n⟩ x = .one (.ifc Ty false [c1]) := by exact rfl) (ha : ASLe h [] (.one c1 :: xs.map (opd ⟨t,h,n⟩)) (ags.map (SV.ren (calF θ n))) := by (repeat (first | exact ASLe.nil | refine ASLe.cons ?_ ?_ | exact SVLe.refl | refine SVLe.one ?_ | refine SVLe.agg ?_ | exact CsLe.nil | refine CsLe.cons ?_ ?_ | exact CLe.refl | exact CLe.sh rfl | exact CLe.nil (by decide) | refine CLe.fn ?_ | refine CLe.fnD ?_ | refine CLe.ifc ?_ | refine CLe.ifcD ?_ | exact CLe.lendA rfl rfl nowR | exact CLe.lendDA rfl rfl shutR | exact CLe.lendRA rfl rfl rfl rfl bnd nowR rfl | refine CLe.lendVA rfl rfl ?_ | refine CLe.lendPA rfl rfl rfl ?_)); first | done | fail) (hH : rootsEq (calF θ n) ⟨t,h,n⟩ 0 H := by repeat (first | exact trivial | refine And.intro ?_ ?_ | exact rfl)) (hD : Does Try.prog f ags H res H')
    (hM : ∀ (v : Value) (w : World),(method (Try.prog.types.size + Made.depth) Ty v name).run Try.prog w = .ok (f,v) w := by intro _ _; kernel_rfl) (hE : entB Try.prog f = true := by exact fQ rfl)
    (hk : H.length = θ.length := by exact rfl) (hθ : nodupB θ = true := by exact rfl) (hm : θ.all (fun t => Nat.blt t n) = true := by exact rfl)
    (hlt : ltA H.length ags = true := by exact rfl) (hltH : allG H.length H = true := by exact rfl) (hltr : res.lt H'.length = true := by exact rfl) (hltH' : allG H'.length H' = true := by exact rfl) :
    Acts Try.prog g ⟨dst,.call { callee := .invoke x name,args := xs.toArray,argTypes := Ts },ty,pos,after,guard⟩ ⟨t,h,n⟩ (res.ren (calF θ n)) θ (upOf (calF θ n) 0 H') :=
  a_invk hD hc hM hE ha hH hk hθ hm rfl (.inl rfl) hlt hltH hltr hltH' rfl rfl
end
end Go.Proofs.Ytjifedbidnmapaa
end
section
set_option linter.unusedVariables false
set_option linter.unusedSimpArgs false
namespace Go.Proofs.Ytjifedbidnmapaa
open Go Foot
def YC (P : Program) (l : Nat) : List Value → World → (Ending → World → Prop) → Prop := fun vs w R =>
  ∃ f tmps assign body,(Instr.yield l vs.toArray).run P w = .ok (.round l f tmps assign body) w ∧ RoundIn (fen none) 0 P l f tmps assign body w R
theorem YC.mono {P : Program} {l : Nat} (vs : List Value) (w : World) (R R' : Ending → World → Prop) (h : YC P l vs w R) (hr : ∀ e w',R e w' → R' e w') : YC P l vs w R' := by
  obtain ⟨f,t,a,b,h1,h2⟩ := h
  exact ⟨f,t,a,b,h1,h2.mono hr⟩
section
variable {P : Program} {g : Gh} {st : St} {sv : SV} {dst : Option Tmp} {ty : TypeId} {pos : String} {after : Array Edge} {guard : Option (Nat × Bool)} {x : Operand}
end
structure Pkd (g : Gh) (tm : Array Value) (ρs : Env) (t0 : List (Nat × SV)) (hs : List (Nat × GB)) (n : Nat) (θc θp : List Nat) (l : Nat) (rec : Loop) (w : World) (S : Foot) (us : List Value) (F : Foot) (ρ : Env) (Fr : Nat → Foot) : Prop where
  slot : ∀ i,RepS w S ρ (lkS t0 i) (tm.getD i undef)
  root : ∀ i,i ∉ θc → lkG hs i = .dead ∨ ∃ v,ρ i = some v ∧ RepG w S ρ (lkG hs i) v (Fr i)
  dis : ∀ i j,i ≠ j → Foot.dis (Fr i) (Fr j)
  le : ∀ i,Foot.le (Fr i) F
  noc : ∀ i,i ∈ θc → Fr i = no
  notl : ∀ i o,¬ Fr i l o
  rcd : mapAt w l = some (.loop rec)
  hasl : ∀ o,F l o
  us : θp.map ρ = us.map some
  val : ∀ i,i ∈ θc → ∃ u,ρs i = some u ∧ ρ i = some u
  pin : ∀ i u,i < g.k → g.ρ0 i = some u → ρ i = some u
  new : ∀ i,n ≤ i → ρ i = none
theorem Pkd.keep {g : Gh} {tm : Array Value} {ρs : Env} {t0 : List (Nat × SV)} {hs : List (Nat × GB)} {n : Nat} {θc θp : List Nat} {l : Nat} {rec : Loop} {w w' : World} {S S' : Foot} {us : List Value} {F F' : Foot} {ρ : Env} {Fr : Nat → Foot}
    (h : Pkd g tm ρs t0 hs n θc θp l rec w S us F ρ Fr) (hF : Agree w w' F) (hS : Agree w w' S) (hle : Foot.le S S') (hf : Foot.le F F') : Pkd g tm ρs t0 hs n θc θp l rec w' S' us F' ρ Fr :=
  ⟨fun i => (h.slot i).keep hS hle (Env.le.refl _),fun i hi => (h.root i hi).imp id fun ⟨v,h1,h2⟩ => ⟨v,h1,h2.keep (hF.le (h.le i)) hS hle (Env.le.refl _) (le_refl _)⟩,h.dis,fun i => (h.le i).trans hf,h.noc,h.notl,by rw [(hF l 0 (h.hasl 0)).2.2,h.rcd],fun o => hf _ _ (h.hasl o),h.us,h.val,h.pin,h.new⟩
structure SameSt (s s' : St) : Prop where
  t : s.t = s'.t
  n : s.n = s'.n
  h : ∀ i,lkG s.h i = lkG s'.h i
theorem SameSt.trans {a b c : St} (h : SameSt a b) (h' : SameSt b c) : SameSt a c := ⟨h.t.trans h'.t,h.n.trans h'.n,fun i => (h.h i).trans (h'.h i)⟩
theorem SameSt.rel {g : Gh} {s s' : St} (h : SameSt s s') {a : Act} {w : World} {S : Foot} {ρ : Env} {F : Nat → Foot} (hr : Rel g s a w S ρ F) : Rel g s' a w S ρ F := hr.same (fun i => by rw [h.t]) (fun i => (h.h i).symm)
inductive qRound {X : Type} (kp : Nat) (T : X → St) (xb : X × Option Code) : Exit → St → Prop where
  | next {st s : St} (θ : List Nat) (hx : xb.2 = none) (hl : StLe kp θ st s) (hs : SameSt s (T xb.1)) : qRound kp T xb .normal st
  | ret {st s : St} (θ : List Nat) (hx : xb.2 = some .ret) (hl : StLe kp θ st s) (hs : SameSt s (T xb.1)) : qRound kp T xb .ret st
  | exit {st s : St} {id : Nat} (θ : List Nat) (hx : xb.2 = some (.exit id)) (hl : StLe kp θ st s) (hs : SameSt s (T xb.1)) : qRound kp T xb (.exit id) st
theorem qRound.same {X : Type} {kp : Nat} {T T' : X → St} {xb : X × Option Code} {e : Exit} {st : St} (h : qRound kp T xb e st) (hT : ∀ x,SameSt (T x) (T' x)) : qRound kp T' xb e st := by
  cases h with
  | next θ hx hl hs => exact .next θ hx hl (hs.trans (hT _))
  | ret θ hx hl hs => exact .ret θ hx hl (hs.trans (hT _))
  | exit θ hx hl hs => exact .exit θ hx hl (hs.trans (hT _))
section
variable {w w' : World} {S S' F F' : Foot} {ρ ρ' : Env}
end
end Go.Proofs.Ytjifedbidnmapaa
end
section
set_option linter.unusedVariables false
set_option linter.unusedSimpArgs false
namespace Go.Proofs.Ytjifedbidnmapaa
open Go Foot
def renL (f : Nat → Nat) : List GB → Prop
  | [] => True
  | x :: h => x.ren f = x ∧ renL f h
section
variable {P : Program} {g : Gh} {tm : Array Value} {ρs : Env} {t0 : List (Nat × SV)} {hx hx' : List (Nat × GB)} {n kq kp l : Nat} {θc θp θu cy : List Nat} {r0 : Loop} {ys : List SV} {HS : List GB} {j : Option Code}
structure RNums (g : Gh) (t0 : List (Nat × SV)) (n kq kp : Nat) (θc θp θu cy : List Nat) (ys : List SV) (HS : List GB) : Prop where
  n_kq : g.k ≤ kq
  n_qp : kq ≤ kp
  n_pn : kp ≤ n
  n_t : allT kq t0 = true
  n_c : θc.all (fun i => Nat.blt i kq) = true
  n_p : θp.all (fun i => θc.any (Nat.beq i)) = true
  n_u : θu.all (fun i => Nat.ble kq i && Nat.blt i kp) = true
  n_nd : nodupB (θp ++ θu) = true
  n_cy : cy.map (thF (n :: (θp ++ θu))) = θp
  n_cyl : cy.all (fun i => Nat.blt i (HS.length + 1)) = true
  n_ys : ltA 0 ys = true
  n_len : HS.length = (θp ++ θu).length
  n_lt : allG (HS.length + 1) HS = true
  n_z : renL (fun i => i - 1 + 1) HS
  n_live : HS.all GB.lives = true
theorem RNums.c' (h : RNums g t0 n kq kp θc θp θu cy ys HS) : ∀ i ∈ θc,i < kq := fun i hi => blt_lt ((List.all_eq_true.1 h.n_c) i hi)
theorem RNums.p' (h : RNums g t0 n kq kp θc θp θu cy ys HS) : ∀ i ∈ θp,i ∈ θc := fun i hi => by
  have := (List.all_eq_true.1 h.n_p) i hi
  rw [List.any_eq_true] at this
  obtain ⟨j,hj,e⟩ := this
  rw [Nat.eq_of_beq_eq_true e]
  exact hj
theorem RNums.u' (h : RNums g t0 n kq kp θc θp θu cy ys HS) : ∀ i ∈ θu,kq ≤ i ∧ i < kp := fun i hi => by
  have := (List.all_eq_true.1 h.n_u) i hi
  rw [Bool.and_eq_true] at this
  exact ⟨Nat.le_of_ble_eq_true this.1,blt_lt this.2⟩
theorem RNums.s' (h : RNums g t0 n kq kp θc θp θu cy ys HS) : ∀ i ∈ θp ++ θu,i < kp := fun i hi => by
  have := h.n_qp
  rcases List.mem_append.1 hi with hi | hi
  · have := h.c' i (h.p' i hi); omega
  · exact (h.u' i hi).2
end
end Go.Proofs.Ytjifedbidnmapaa
end
section
set_option linter.unusedVariables false
set_option linter.unusedSimpArgs false
namespace Go.Proofs.Ytjifedbidnmapaa
open Go Foot
section
variable {P : Program} {g : Gh} {tm : Array Value} {ρs : Env} {t0 : List (Nat × SV)} {hx hx' : List (Nat × GB)} {n kq kp l : Nat} {θc θp θu cy : List Nat} {r0 : Loop} {ys : List SV} {HS : List GB} {j : Option Code}
end
end Go.Proofs.Ytjifedbidnmapaa
end
section
set_option linter.unusedVariables false
set_option linter.unusedSimpArgs false
namespace Go.Proofs.Ytjifedbidnmapaa
open Go Foot
section
variable {P : Program} {g : Gh}
end
end Go.Proofs.Ytjifedbidnmapaa
end
section
set_option linter.unusedVariables false
set_option linter.unusedSimpArgs false
namespace Go.Proofs.Ytjifedbidnmapaa
open Go Foot
section
variable {P : Program} {g : Gh} {Q : Exit → St → Prop}
end
end Go.Proofs.Ytjifedbidnmapaa
end
section
set_option linter.unusedVariables false
set_option linter.unusedSimpArgs false
set_option maxRecDepth 100000
namespace Go.Proofs.Ytjifedbidnmapaa
open Go Foot
section
variable {g : Gh} {dst : Option Tmp} {ty : TypeId} {pos : String} {after : Array Edge} {guard : Option (Nat × Bool)} {x : Operand} {l : Nat} {c0 : C} {cap : List C} {xs : List Operand} {Ts : Array TypeId} {ags : List SV} {H H' : List GB} {res : SV} {θ : List Nat} {t : List (Nat × SV)} {h : List (Nat × GB)} {n : Nat}
end
section
variable {g : Gh} {Q : Exit → St → Prop} {t t0 : List (Nat × SV)} {h h0 hE : List (Nat × GB)} {n n1 : Nat}
end
end Go.Proofs.Ytjifedbidnmapaa
end
section
set_option linter.unusedVariables false
set_option linter.unusedSimpArgs false
set_option maxRecDepth 100000
namespace Go.Proofs.Ytjifedbidnmapaa
open Go Foot MapKept
section
variable {P : Program} {g : Gh} {st : St}
variable {dst : Option Tmp} {ty : TypeId} {pos : String} {after : Array Edge} {guard : Option (Nat × Bool)} {x y z : Operand} {T kt et : TypeId} {α β : Type} [DecidableEq α]
end
end Go.Proofs.Ytjifedbidnmapaa
end
