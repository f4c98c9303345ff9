/- Parts of the proof (10 of 21). -/
import Derived.Test.YtbblkhjjgnpbaaaDoorChecked
import Derived.Test.YtbblkhjjgnpbaaaDoorQ9
section
set_option linter.unusedVariables false
set_option linter.unusedSimpArgs false
set_option maxRecDepth 100000
set_option maxHeartbeats 4000000
namespace Go.Proofs.YtbblkhjjgnpbaaaDoor
open Go Foot
abbrev shI (l : List Int) : C := .d (.sl false 1 (rows eI l))
abbrev roI (l : List Int) : GB := .row 1 (rows eI l)
abbrev inB (x lo hi : Int) : Bool := decide (lo ≤ x ∧ x ≤ hi)
theorem l00In_ok (x lo hi : Int) : Does Tryd.prog 77 [.one (int x),.one (int lo),.one (int hi)] [] (.one (boo (inB x lo hi))) [] := by
  refine does_of (k := 0) Tryd.func77 rfl Tryd.ntmps77 rfl rfl fun w F0 S0 ρ0 => ?_
  dsimp only [argT,argH]
  repeat' first|(apply p3;(first|exact pu1|exact puC);exact rfl)|refine cd ?_|refine o_no rfl rfl rfl rfl ?_|(apply py3;exact rfl;exact rfl;(first|exact pu1|exact puC);exact rfl;exact rfl)|((refine o_gs rfl rfl (fun hc => ?_) (fun hc => ?_)) <;> (try simp only [dcB] at hc) <;> (try first|contradiction|(exfalso;omega)))
  all_goals
    repeat refine cr ?_
    refine ends_id ?_
    refine endK [] (h2 := ?_) (h3 := ?_) (nd := ?_)
    all_goals (repeat' first|exact ce0|refine ce ?_|refine ce2 ?_ ?_|exact SVLe.refl|refine ceb ?_)
    all_goals first | exact (show nodupB _ = true from rfl) | exact Or.inr rfl | ((first | (symm; simp; omega) | simp [*]))
theorem within_ok (x lo hi : Int) : Does Tryd.prog 51 [.one (int x),.one (int lo),.one (int hi)] [] (.one (boo (inB x lo hi))) [] := by
  refine does_of (k := 0) Tryd.func51 rfl Tryd.ntmps51 rfl rfl fun w F0 S0 ρ0 => ?_
  dsimp only [argT,argH]
  repeat' first|(apply p3;(first|exact pu1|exact puC);exact rfl)|refine cd ?_|refine o_no rfl rfl rfl rfl ?_|(apply py3;exact rfl;exact rfl;(first|exact pu1|exact puC);exact rfl;exact rfl)|((refine o_gs rfl rfl (fun hc => ?_) (fun hc => ?_)) <;> (try simp only [dcB] at hc) <;> (try first|contradiction|(exfalso;omega)))
  all_goals
    repeat refine cr ?_
    refine ends_id ?_
    refine endK [] (h2 := ?_) (h3 := ?_) (nd := ?_)
    all_goals (repeat' first|exact ce0|refine ce ?_|refine ce2 ?_ ?_|exact SVLe.refl|refine ceb ?_)
    all_goals first | exact (show nodupB _ = true from rfl) | exact Or.inr rfl | ((first | (symm; simp; omega) | simp [*]))
@[irreducible] def eqI (a b : List Int) : Bool := decide (a = b)
theorem take_next {α : Type} {xs ys : List α} {i : Int} (h0 : 0 ≤ i) (hx : i.toNat < xs.length) (hy : i.toNat < ys.length) (h : xs.take i.toNat = ys.take i.toNat) (he : xs[i.toNat] = ys[i.toNat]) : xs.take (i + 1).toNat = ys.take (i + 1).toNat := by
  rw [show (i + 1).toNat = i.toNat + 1 by omega,List.take_succ_eq_append_getElem hx,List.take_succ_eq_append_getElem hy,h,he]
theorem take_end {α : Type} {xs ys : List α} {i : Int} (hx : ¬ i < xs.length) (hl : xs.length = ys.length) (h : xs.take i.toNat = ys.take i.toNat) : xs = ys := by
  rw [List.take_of_length_le (by omega),List.take_of_length_le (by omega)] at h
  exact h
end Go.Proofs.YtbblkhjjgnpbaaaDoor
end
section
set_option linter.unusedVariables false
set_option linter.unusedSimpArgs false
set_option maxRecDepth 100000
namespace Go.Proofs.YtbblkhjjgnpbaaaDoor
open Go Foot
def C.frz (H : List GB) : C → C
  | .d x => .d x
  | .gv j => match H[j]? with | some (.row z xs) => .d (.sl false z xs) | _ => .d .junk
  | .gp _ _ => .d .junk
  | .gs _ _ _ _ => .d .junk
  | .ifc t ag cs => .ifc t ag (all cs)
  | .fn k cs => .fn k (all cs)
where
  all : List C → List C
  | [] => []
  | c :: cs => c.frz H :: all cs
def tFrz (H : List GB) : List (Bool × List C) → List (Bool × List C)
  | [] => []
  | (ag,cs) :: l => (ag,C.frz.all H cs) :: tFrz H l
def SV.frz (H : List GB) : SV → SV
  | .one c => .one (c.frz H)
  | .agg cs => .agg (C.frz.all H cs)
  | .tup l => .tup (tFrz H l)
  | .any => .any
section
variable {w : World} {S S' : Foot} {ρ ρ' : Env} {N : Nat} {H : List GB}
structure Frz (w : World) (S S' : Foot) (ρ ρ' : Env) (N : Nat) (H : List GB) : Prop where
  le : Foot.le S S'
  row : ∀ j z xs v,H[j]? = some (.row z xs) → ρ (N + j) = some v → Rep w S' (.sl false z xs) v no
mutual
theorem RepC.frz (hF : Frz w S S' ρ ρ' N H) : ∀ {c : C} {v : Value},RepC w S ρ (c.ren (calF [] N)) v → RepC w S' ρ' (c.frz H) v
  | .d x,v,h => Rep.keep h Agree.no (Agree.refl _ _) hF.le (le_refl _)
  | .gv j,v,h => by
    have h1 : RepC w S ρ (.gv (N + j)) v := h
    unfold C.frz
    split
    · rename_i z xs e
      exact hF.row j z xs v e h1.1
    · exact h1.2
  | .gp j o,v,h => RepC.one (c := .gp (calF [] N j) o) h
  | .gs j z lo hi,v,h => RepC.one (c := .gs (calF [] N j) z lo hi) h
  | .ifc t ag cs,v,h => by
    simp only [C.ren,RepC] at h
    simp only [C.frz,RepC]
    obtain ⟨u,rfl,h⟩ := h
    refine ⟨u,rfl,?_⟩
    cases ag with
    | true => simp only [if_true] at h ⊢; obtain ⟨vs,rfl,h⟩ := h; exact ⟨vs,rfl,RepCs.frz hF h⟩
    | false => simp only [Bool.false_eq_true,if_false] at h ⊢; exact RepCs.frz hF h
  | .fn k cs,v,h => by
    simp only [C.ren,RepC] at h
    simp only [C.frz,RepC]
    obtain ⟨vs,rfl,h⟩ := h
    exact ⟨vs,rfl,RepCs.frz hF h⟩
theorem RepCs.frz (hF : Frz w S S' ρ ρ' N H) : ∀ {cs : List C} {vs : List Value},RepCs w S ρ (C.ren.all (calF [] N) cs) vs → RepCs w S' ρ' (C.frz.all H cs) vs
  | [],vs,h => h
  | c :: cs,vs,h => by
    simp only [C.ren.all,RepCs] at h
    simp only [C.frz.all,RepCs]
    obtain ⟨v,us,rfl,h1,h2⟩ := h
    exact ⟨v,us,rfl,RepC.frz hF h1,RepCs.frz hF h2⟩
end
theorem RepT.frz (hF : Frz w S S' ρ ρ' N H) : ∀ {l : List (Bool × List C)} {vs : List Value},RepT w S ρ (tRen (calF [] N) l) vs → RepT w S' ρ' (tFrz H l) vs
  | [],vs,h => h
  | (ag,cs) :: l,vs,h => by
    simp only [tRen,RepT] at h
    simp only [tFrz,RepT]
    obtain ⟨v,us,rfl,h1,h2⟩ := h
    refine ⟨v,us,rfl,?_,RepT.frz hF h2⟩
    unfold RepU at *
    cases ag with
    | true => simp only [if_true] at *; obtain ⟨vs,rfl,h⟩ := h1; exact ⟨vs,rfl,RepCs.frz hF h⟩
    | false => simp only [Bool.false_eq_true,if_false] at *; exact RepCs.frz hF h1
theorem RepS.frz (hF : Frz w S S' ρ ρ' N H) {sv : SV} {v : Value} (h : RepS w S ρ (sv.ren (calF [] N)) v) : RepS w S' ρ' (sv.frz H) v := by
  cases sv with
  | one c => exact RepC.frz hF h
  | agg cs => obtain ⟨vs,rfl,h⟩ := h; exact ⟨vs,rfl,RepCs.frz hF h⟩
  | tup l => obtain ⟨us,rfl,h⟩ := h; exact ⟨us,rfl,RepT.frz hF h⟩
  | any => trivial
end
section
variable {P : Program} {g : Gh} {st : St} {dst : Option Tmp} {ty : TypeId} {pos : String} {after : Array Edge} {guard : Option (Nat × Bool)} {x : Operand}
end
section
variable {g : Gh} {t : List (Nat × SV)} {h : List (Nat × GB)} {n : Nat} {dst : Option Tmp} {ty : TypeId} {pos : String} {after : Array Edge} {guard : Option (Nat × Bool)} {x : Operand} {f : Nat} {c0 : C} {cap : List C} {xs : List Operand} {Ts : Array TypeId} {ags : List SV} {H' : List GB} {res : SV} {sv : SV}
end
section
variable {g : Gh} {t : List (Nat × SV)} {h : List (Nat × GB)} {n : Nat} {rs : List Rs} {fs : List Bool} {u uk : List Nat} {dst : Option Tmp} {ty : TypeId} {pos : String} {after : Array Edge} {guard : Option (Nat × Bool)} {x : Operand} {f : Nat} {c0 : C} {cap : List C} {xs : List Operand} {Ts : Array TypeId} {ags : List SV} {H' : List GB} {res : SV} {sv : SV}
end
end Go.Proofs.YtbblkhjjgnpbaaaDoor
end
section
set_option linter.unusedVariables false
set_option linter.unusedSimpArgs false
set_option maxRecDepth 100000
set_option maxHeartbeats 4000000
namespace Go.Proofs.YtbblkhjjgnpbaaaDoor
open Go Foot
theorem mem_len {α : Type} {xs : List (List α)} {n : Int} (h : ∀ x ∈ xs,(x.length : Int) ≤ n) {i : Nat} (hi : i < xs.length) : ((xs[i]).length : Int) ≤ n := h _ (List.getElem_mem hi)
end Go.Proofs.YtbblkhjjgnpbaaaDoor
end
