/- Parts of the proof (16 of 21). -/
import Derived.Lib.AppendZerosOnto
import Derived.Test.YtighjcjmacajoaaDoorQ15
section
set_option linter.unusedVariables false
set_option linter.unusedSimpArgs false
set_option maxRecDepth 100000
namespace Go.Proofs.YtighjcjmacajoaaDoor
open Go Foot
section
variable {P : Program} {g : Gh} {st : St} {dst : Option Tmp} {ty : TypeId} {pos : String} {after : Array Edge} {guard : Option (Nat × Bool)} {x y : Operand}
end
end Go.Proofs.YtighjcjmacajoaaDoor
end
section
set_option linter.unusedVariables false
set_option linter.unusedSimpArgs false
set_option maxRecDepth 100000
set_option maxHeartbeats 4000000
namespace Go.Proofs.YtighjcjmacajoaaDoor
open Go Foot
end Go.Proofs.YtighjcjmacajoaaDoor
end
section
set_option linter.unusedVariables false
set_option linter.unusedSimpArgs false
set_option maxRecDepth 100000
set_option maxHeartbeats 4000000
namespace Go.Proofs.YtighjcjmacajoaaDoor
open Go Foot
end Go.Proofs.YtighjcjmacajoaaDoor
end
section
set_option linter.unusedVariables false
set_option linter.unusedSimpArgs false
set_option maxRecDepth 100000
set_option maxHeartbeats 4000000
namespace Go.Proofs.YtighjcjmacajoaaDoor
open Go Foot
structure PtOk (m : Mach) (x : Part) : Prop where
  s : 0 ≤ x.st ∧ x.st ≤ m.st - 1
  a : 0 ≤ x.pl ∧ x.pl < x.ce.length
  l : (x.ce.length : Int) ≤ 60
  c : ∀ v ∈ x.ce,0 ≤ v ∧ v ≤ m.sy - 1
theorem pt_gd {m : Mach} {x : Part} (g : PtOk m x) : PtGd x := ⟨g.a.1,g.a.2,by have := g.l; omega⟩
end Go.Proofs.YtighjcjmacajoaaDoor
end
section
set_option linter.unusedVariables false
set_option linter.unusedSimpArgs false
set_option maxRecDepth 100000
set_option maxHeartbeats 4000000
namespace Go.Proofs.YtighjcjmacajoaaDoor
open Go Foot
structure LvOk (m : Mach) (l : List Part) : Prop where
  n : (l.length : Int) ≤ 6000
  a : ∀ x ∈ l,PtOk m x
theorem lv_at {m : Mach} {l : List Part} (g : LvOk m l) {i : Nat} (h : i < l.length) : PtOk m l[i] := g.a _ (List.getElem_mem h)
end Go.Proofs.YtighjcjmacajoaaDoor
end
section
set_option linter.unusedVariables false
set_option linter.unusedSimpArgs false
set_option maxRecDepth 100000
set_option maxHeartbeats 4000000
namespace Go.Proofs.YtighjcjmacajoaaDoor
open Go Foot
end Go.Proofs.YtighjcjmacajoaaDoor
end
section
set_option linter.unusedVariables false
set_option linter.unusedSimpArgs false
set_option maxRecDepth 100000
set_option maxHeartbeats 4000000
namespace Go.Proofs.YtighjcjmacajoaaDoor
open Go Foot
end Go.Proofs.YtighjcjmacajoaaDoor
end
section
set_option linter.unusedVariables false
set_option linter.unusedSimpArgs false
set_option maxRecDepth 100000
set_option maxHeartbeats 4000000
namespace Go.Proofs.YtighjcjmacajoaaDoor
open Go Foot
end Go.Proofs.YtighjcjmacajoaaDoor
end
section
set_option linter.unusedVariables false
set_option linter.unusedSimpArgs false
set_option maxRecDepth 100000
set_option maxHeartbeats 4000000
namespace Go.Proofs.YtighjcjmacajoaaDoor
open Go Foot
end Go.Proofs.YtighjcjmacajoaaDoor
end
section
set_option linter.unusedVariables false
set_option linter.unusedSimpArgs false
set_option maxRecDepth 100000
set_option maxHeartbeats 4000000
namespace Go.Proofs.YtighjcjmacajoaaDoor
open Go Foot
def isDg (c : UInt8) : Prop := 48 ≤ c.toNat ∧ c.toNat ≤ 57
def valD (l : Bs) : Nat := l.foldl (fun a c => 10 * a + (c.toNat - 48)) 0
theorem valD_snoc (l : Bs) (c : UInt8) : valD (l ++ [c]) = 10 * valD l + (c.toNat - 48) := by unfold valD; rw [List.foldl_append]; rfl
theorem dg_nat {d : Nat} (h : d < 10) : isDg (UInt8.ofNat (48 + d)) ∧ (UInt8.ofNat (48 + d)).toNat - 48 = d := by
  have : (UInt8.ofNat (48 + d)).toNat = 48 + d := by rw [UInt8.toNat_ofNat']; omega
  unfold isDg
  omega
theorem dec_val : ∀ (u : Nat),valD (Lib.decDigits u) = u ∧ (∀ c ∈ Lib.decDigits u,isDg c) ∧ Lib.decDigits u ≠ [] := by
  intro u
  induction u using Nat.strongRecOn with
  | _ u ih =>
    rw [Lib.decDigits]
    by_cases h : u < 10
    · rw [dif_pos h]
      obtain ⟨d1,d2⟩ := dg_nat h
      refine ⟨?_,fun c hc => by rw [List.mem_singleton.1 hc]; exact d1,by simp⟩
      have := valD_snoc [] (UInt8.ofNat (48 + u))
      rw [List.nil_append,d2] at this
      rw [this]
      simp [valD]
    · rw [dif_neg h]
      obtain ⟨i1,i2,i3⟩ := ih (u / 10) (by omega)
      obtain ⟨d1,d2⟩ := dg_nat (show u % 10 < 10 by omega)
      refine ⟨by rw [valD_snoc,i1,d2]; omega,fun c hc => ?_,by simp⟩
      rcases List.mem_append.1 hc with hc | hc
      · exact i2 c hc
      · rw [List.mem_singleton.1 hc]; exact d1
theorem decT_nat {n : Int} (h : 0 ≤ n) : decT n = Lib.decDigits n.toNat := by
  unfold decT Lib.itoa
  rw [if_neg (by omega)]
theorem decT_dg {n : Int} (h : 0 ≤ n) : ∀ c ∈ decT n,isDg c := by rw [decT_nat h]; exact (dec_val _).2.1
end Go.Proofs.YtighjcjmacajoaaDoor
end
section
set_option linter.unusedVariables false
set_option linter.unusedSimpArgs false
set_option maxRecDepth 100000
namespace Go.Proofs.YtighjcjmacajoaaDoor
open Go Foot
section
variable {P : Program} {g : Gh} {st : St}
variable {dst : Option Tmp} {ty : TypeId} {pos : String} {after : Array Edge} {guard : Option (Nat × Bool)} {x y : Operand} {T U : TypeId} {a b : Int}
end
end Go.Proofs.YtighjcjmacajoaaDoor
end
section
set_option linter.unusedVariables false
set_option linter.unusedSimpArgs false
set_option maxRecDepth 100000
set_option maxHeartbeats 4000000
namespace Go.Proofs.YtighjcjmacajoaaDoor
open Go Foot
end Go.Proofs.YtighjcjmacajoaaDoor
end
section
set_option linter.unusedVariables false
set_option linter.unusedSimpArgs false
set_option maxRecDepth 100000
set_option maxHeartbeats 4000000
namespace Go.Proofs.YtighjcjmacajoaaDoor
open Go Foot
end Go.Proofs.YtighjcjmacajoaaDoor
end
section
set_option linter.unusedVariables false
set_option linter.unusedSimpArgs false
set_option maxRecDepth 100000
set_option maxHeartbeats 4000000
namespace Go.Proofs.YtighjcjmacajoaaDoor
open Go Foot
end Go.Proofs.YtighjcjmacajoaaDoor
end
section
set_option linter.unusedVariables false
set_option linter.unusedSimpArgs false
set_option maxRecDepth 100000
set_option maxHeartbeats 4000000
namespace Go.Proofs.YtighjcjmacajoaaDoor
open Go Foot
end Go.Proofs.YtighjcjmacajoaaDoor
end
section
set_option linter.unusedVariables false
set_option linter.unusedSimpArgs false
set_option maxRecDepth 100000
set_option maxHeartbeats 4000000
namespace Go.Proofs.YtighjcjmacajoaaDoor
open Go Foot
end Go.Proofs.YtighjcjmacajoaaDoor
end
section
set_option linter.unusedVariables false
set_option linter.unusedSimpArgs false
set_option maxRecDepth 100000
set_option maxHeartbeats 4000000
namespace Go.Proofs.YtighjcjmacajoaaDoor
open Go Foot
end Go.Proofs.YtighjcjmacajoaaDoor
end
section
set_option linter.unusedVariables false
set_option linter.unusedSimpArgs false
set_option maxRecDepth 100000
set_option maxHeartbeats 4000000
namespace Go.Proofs.YtighjcjmacajoaaDoor
open Go Foot
end Go.Proofs.YtighjcjmacajoaaDoor
end
section
set_option linter.unusedVariables false
set_option linter.unusedSimpArgs false
set_option maxRecDepth 100000
set_option maxHeartbeats 4000000
namespace Go.Proofs.YtighjcjmacajoaaDoor
open Go Foot
end Go.Proofs.YtighjcjmacajoaaDoor
end
section
set_option linter.unusedVariables false
set_option linter.unusedSimpArgs false
set_option maxRecDepth 100000
set_option maxHeartbeats 4000000
namespace Go.Proofs.YtighjcjmacajoaaDoor
open Go Foot
end Go.Proofs.YtighjcjmacajoaaDoor
end
section
set_option linter.unusedVariables false
set_option linter.unusedSimpArgs false
set_option maxRecDepth 100000
set_option maxHeartbeats 4000000
namespace Go.Proofs.YtighjcjmacajoaaDoor
open Go Foot
section
variable {P : Program} {g : Gh} {st : St} {dst : Option Tmp} {ty : TypeId} {pos : String} {after : Array Edge} {guard : Option (Nat × Bool)} {x y z : Operand} {T U : TypeId} {a b : Int}
theorem a_cmp8 {op : BinOp} {p : Prop} [Decidable p] {v : Value} (e1 : opd st x = .one (u8 a)) (e2 : opd st y = .one (u8 b)) (hv : binV op (.int .u8 a) (.int .u8 b) = some v) (ho : binOb op (.int .u8 a) (.int .u8 b)) (hb : v = .bool (decide p)) : Acts P g ⟨dst,.binOp op T x y U,ty,pos,after,guard⟩ st (.one (boo (decide p))) [] [] := by
  subst hb
  exact a_bin e1 e2 hv ho
theorem a_sub8 (e1 : opd st x = .one (u8 a)) (e2 : opd st y = .one (u8 b)) (h0 : 0 ≤ a - b) (h1 : a - b < 256) : Acts P g ⟨dst,.binOp .sub T x y U,ty,pos,after,guard⟩ st (.one (u8 (a - b))) [] [] := by
  have := a_bin (P := P) (g := g) (dst := dst) (T := T) (U := U) (ty := ty) (pos := pos) (after := after) (guard := guard) (op := .sub) e1 e2 rfl trivial
  rwa [wrap8 h0 h1] at this
end
end Go.Proofs.YtighjcjmacajoaaDoor
end
section
set_option linter.unusedVariables false
set_option linter.unusedSimpArgs false
set_option maxRecDepth 100000
set_option maxHeartbeats 4000000
namespace Go.Proofs.YtighjcjmacajoaaDoor
open Go Foot
end Go.Proofs.YtighjcjmacajoaaDoor
end
section
set_option linter.unusedVariables false
set_option linter.unusedSimpArgs false
set_option maxRecDepth 100000
set_option maxHeartbeats 4000000
namespace Go.Proofs.YtighjcjmacajoaaDoor
open Go Foot
end Go.Proofs.YtighjcjmacajoaaDoor
end
