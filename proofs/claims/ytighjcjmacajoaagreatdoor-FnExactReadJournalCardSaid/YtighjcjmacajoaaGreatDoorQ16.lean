/- Parts of the proof (16 of 22). -/
import Derived.Lib.AppendZerosOnto
import Derived.Test.YtighjcjmacajoaaGreatDoorQ15
section
set_option linter.unusedVariables false
set_option linter.unusedSimpArgs false
set_option maxRecDepth 100000
namespace Go.Proofs.YtighjcjmacajoaaGreatDoor
open Go Foot
section
variable {P : Program} {g : Gh} {st : St} {dst : Option Tmp} {ty : TypeId} {pos : String} {after : Array Edge} {guard : Option (Nat × Bool)} {x y : Operand}
end
end Go.Proofs.YtighjcjmacajoaaGreatDoor
end
section
set_option linter.unusedVariables false
set_option linter.unusedSimpArgs false
set_option maxRecDepth 100000
set_option maxHeartbeats 4000000
namespace Go.Proofs.YtighjcjmacajoaaGreatDoor
open Go Foot
end Go.Proofs.YtighjcjmacajoaaGreatDoor
end
section
set_option linter.unusedVariables false
set_option linter.unusedSimpArgs false
set_option maxRecDepth 100000
set_option maxHeartbeats 4000000
namespace Go.Proofs.YtighjcjmacajoaaGreatDoor
open Go Foot
theorem vMach_len {m : Mach} (hm : vMach m = true) : (m.ru.length : Int) ≤ 6000 := by
  have hb := vMach_bd hm
  have : m.sy * m.st ≤ 6 * 1000 := Int.mul_le_mul hb.1.2 hb.2.1.2 (by omega) (by omega)
  omega
end Go.Proofs.YtighjcjmacajoaaGreatDoor
end
section
set_option linter.unusedVariables false
set_option linter.unusedSimpArgs false
set_option maxRecDepth 100000
set_option maxHeartbeats 4000000
namespace Go.Proofs.YtighjcjmacajoaaGreatDoor
open Go Foot
structure PtOk (m : Mach) (x : Part) : Prop where
  s : 0 ≤ x.st ∧ x.st ≤ m.st - 1
  a : 0 ≤ x.pl ∧ x.pl < x.ce.length
  l : (x.ce.length : Int) ≤ 60
  c : ∀ v ∈ x.ce,0 ≤ v ∧ v ≤ m.sy - 1
theorem pt_gd {m : Mach} {x : Part} (g : PtOk m x) : PtGd x := ⟨g.a.1,g.a.2,by have := g.l; omega⟩
end Go.Proofs.YtighjcjmacajoaaGreatDoor
end
section
set_option linter.unusedVariables false
set_option linter.unusedSimpArgs false
set_option maxRecDepth 100000
set_option maxHeartbeats 4000000
namespace Go.Proofs.YtighjcjmacajoaaGreatDoor
open Go Foot
structure LvOk (m : Mach) (l : List Part) : Prop where
  n : (l.length : Int) ≤ 6000
  a : ∀ x ∈ l,PtOk m x
theorem lv_at {m : Mach} {l : List Part} (g : LvOk m l) {i : Nat} (h : i < l.length) : PtOk m l[i] := g.a _ (List.getElem_mem h)
end Go.Proofs.YtighjcjmacajoaaGreatDoor
end
section
set_option linter.unusedVariables false
set_option linter.unusedSimpArgs false
set_option maxRecDepth 100000
set_option maxHeartbeats 4000000
namespace Go.Proofs.YtighjcjmacajoaaGreatDoor
open Go Foot
end Go.Proofs.YtighjcjmacajoaaGreatDoor
end
section
set_option linter.unusedVariables false
set_option linter.unusedSimpArgs false
set_option maxRecDepth 100000
set_option maxHeartbeats 4000000
namespace Go.Proofs.YtighjcjmacajoaaGreatDoor
open Go Foot
end Go.Proofs.YtighjcjmacajoaaGreatDoor
end
section
set_option linter.unusedVariables false
set_option linter.unusedSimpArgs false
set_option maxRecDepth 100000
set_option maxHeartbeats 4000000
namespace Go.Proofs.YtighjcjmacajoaaGreatDoor
open Go Foot
end Go.Proofs.YtighjcjmacajoaaGreatDoor
end
section
set_option linter.unusedVariables false
set_option linter.unusedSimpArgs false
set_option maxRecDepth 100000
set_option maxHeartbeats 4000000
namespace Go.Proofs.YtighjcjmacajoaaGreatDoor
open Go Foot
end Go.Proofs.YtighjcjmacajoaaGreatDoor
end
section
set_option linter.unusedVariables false
set_option linter.unusedSimpArgs false
set_option maxRecDepth 100000
set_option maxHeartbeats 4000000
namespace Go.Proofs.YtighjcjmacajoaaGreatDoor
open Go Foot
def isDg (c : UInt8) : Prop := 48 ≤ c.toNat ∧ c.toNat ≤ 57
def valD (l : Bs) : Nat := l.foldl (fun a c => 10 * a + (c.toNat - 48)) 0
theorem valD_snoc (l : Bs) (c : UInt8) : valD (l ++ [c]) = 10 * valD l + (c.toNat - 48) := by unfold valD; rw [List.foldl_append]; rfl
theorem dg_nat {d : Nat} (h : d < 10) : isDg (UInt8.ofNat (48 + d)) ∧ (UInt8.ofNat (48 + d)).toNat - 48 = d := by
  have : (UInt8.ofNat (48 + d)).toNat = 48 + d := by rw [UInt8.toNat_ofNat']; omega
  unfold isDg
  omega
theorem dec_val : ∀ (u : Nat),valD (Lib.decDigits u) = u ∧ (∀ c ∈ Lib.decDigits u,isDg c) ∧ Lib.decDigits u ≠ [] := by
  intro u
  induction u using Nat.strongRecOn with
  | _ u ih =>
    rw [Lib.decDigits]
    by_cases h : u < 10
    · rw [dif_pos h]
      obtain ⟨d1,d2⟩ := dg_nat h
      refine ⟨?_,fun c hc => by rw [List.mem_singleton.1 hc]; exact d1,by simp⟩
      have := valD_snoc [] (UInt8.ofNat (48 + u))
      rw [List.nil_append,d2] at this
      rw [this]
      simp [valD]
    · rw [dif_neg h]
      obtain ⟨i1,i2,i3⟩ := ih (u / 10) (by omega)
      obtain ⟨d1,d2⟩ := dg_nat (show u % 10 < 10 by omega)
      refine ⟨by rw [valD_snoc,i1,d2]; omega,fun c hc => ?_,by simp⟩
      rcases List.mem_append.1 hc with hc | hc
      · exact i2 c hc
      · rw [List.mem_singleton.1 hc]; exact d1
theorem byt_injP : ∀ {a b : List Int},(∀ x ∈ a,0 ≤ x ∧ x ≤ 255) → (∀ x ∈ b,0 ≤ x ∧ x ≤ 255) → byt a = byt b → a = b := by
  intro a b ha hb h
  unfold byt at h
  have e : ∀ l : List Int,(∀ x ∈ l,0 ≤ x ∧ x ≤ 255) → (l.map fun n => UInt8.ofNat n.toNat).map (fun c => ((c.toNat : Nat) : Int)) = l := by
    intro l hl
    rw [List.map_map]
    conv => rhs; rw [← List.map_id l]
    apply List.map_congr_left
    intro x hx
    have := hl x hx
    simp only [Function.comp,UInt8.toNat_ofNat']
    simp
    omega
  rw [← e a ha,← e b hb,h]
theorem digT_inj {a b : List Int} (ha : ∀ x ∈ a,0 ≤ x ∧ x ≤ 9) (hb : ∀ x ∈ b,0 ≤ x ∧ x ≤ 9) (h : digT a = digT b) : a = b := by
  unfold digT at h
  have h := byt_injP (fun x hx => by obtain ⟨y,hy,rfl⟩ := List.mem_map.1 hx; have := ha y hy; omega) (fun x hx => by obtain ⟨y,hy,rfl⟩ := List.mem_map.1 hx; have := hb y hy; omega) h
  have e : ∀ l : List Int,(l.map fun x => 48 + x).map (fun x => x - 48) = l := fun l => by
    rw [List.map_map]
    conv => rhs; rw [← List.map_id l]
    apply List.map_congr_left
    intro x hx
    simp only [Function.comp,id]
    omega
  rw [← e a,← e b,h]
theorem digT_dg {a : List Int} (ha : ∀ x ∈ a,0 ≤ x ∧ x ≤ 9) : ∀ c ∈ digT a,isDg c := by
  intro c hc
  unfold digT byt at hc
  obtain ⟨x,hx,rfl⟩ := List.mem_map.1 hc
  obtain ⟨y,hy,rfl⟩ := List.mem_map.1 hx
  have := ha y hy
  have h2 := (dg_nat (d := y.toNat) (by omega)).1
  rwa [show 48 + y.toNat = (48 + y).toNat by omega] at h2
theorem decT_nat {n : Int} (h : 0 ≤ n) : decT n = Lib.decDigits n.toNat := by
  unfold decT Lib.itoa
  rw [if_neg (by omega)]
theorem decT_dg {n : Int} (h : 0 ≤ n) : ∀ c ∈ decT n,isDg c := by rw [decT_nat h]; exact (dec_val _).2.1
end Go.Proofs.YtighjcjmacajoaaGreatDoor
end
section
set_option linter.unusedVariables false
set_option linter.unusedSimpArgs false
set_option maxRecDepth 100000
namespace Go.Proofs.YtighjcjmacajoaaGreatDoor
open Go Foot
section
variable {P : Program} {g : Gh} {st : St}
variable {dst : Option Tmp} {ty : TypeId} {pos : String} {after : Array Edge} {guard : Option (Nat × Bool)} {x y : Operand} {T U : TypeId} {a b : Int}
end
end Go.Proofs.YtighjcjmacajoaaGreatDoor
end
section
set_option linter.unusedVariables false
set_option linter.unusedSimpArgs false
set_option maxRecDepth 100000
set_option maxHeartbeats 4000000
namespace Go.Proofs.YtighjcjmacajoaaGreatDoor
open Go Foot
end Go.Proofs.YtighjcjmacajoaaGreatDoor
end
section
set_option linter.unusedVariables false
set_option linter.unusedSimpArgs false
set_option maxRecDepth 100000
set_option maxHeartbeats 4000000
namespace Go.Proofs.YtighjcjmacajoaaGreatDoor
open Go Foot
end Go.Proofs.YtighjcjmacajoaaGreatDoor
end
section
set_option linter.unusedVariables false
set_option linter.unusedSimpArgs false
set_option maxRecDepth 100000
set_option maxHeartbeats 4000000
namespace Go.Proofs.YtighjcjmacajoaaGreatDoor
open Go Foot
end Go.Proofs.YtighjcjmacajoaaGreatDoor
end
section
set_option linter.unusedVariables false
set_option linter.unusedSimpArgs false
set_option maxRecDepth 100000
set_option maxHeartbeats 4000000
namespace Go.Proofs.YtighjcjmacajoaaGreatDoor
open Go Foot
end Go.Proofs.YtighjcjmacajoaaGreatDoor
end
section
set_option linter.unusedVariables false
set_option linter.unusedSimpArgs false
set_option maxRecDepth 100000
set_option maxHeartbeats 4000000
namespace Go.Proofs.YtighjcjmacajoaaGreatDoor
open Go Foot
end Go.Proofs.YtighjcjmacajoaaGreatDoor
end
section
set_option linter.unusedVariables false
set_option linter.unusedSimpArgs false
set_option maxRecDepth 100000
set_option maxHeartbeats 4000000
namespace Go.Proofs.YtighjcjmacajoaaGreatDoor
open Go Foot
end Go.Proofs.YtighjcjmacajoaaGreatDoor
end
section
set_option linter.unusedVariables false
set_option linter.unusedSimpArgs false
set_option maxRecDepth 100000
set_option maxHeartbeats 4000000
namespace Go.Proofs.YtighjcjmacajoaaGreatDoor
open Go Foot
end Go.Proofs.YtighjcjmacajoaaGreatDoor
end
section
set_option linter.unusedVariables false
set_option linter.unusedSimpArgs false
set_option maxRecDepth 100000
set_option maxHeartbeats 4000000
namespace Go.Proofs.YtighjcjmacajoaaGreatDoor
open Go Foot
end Go.Proofs.YtighjcjmacajoaaGreatDoor
end
section
set_option linter.unusedVariables false
set_option linter.unusedSimpArgs false
set_option maxRecDepth 100000
set_option maxHeartbeats 4000000
namespace Go.Proofs.YtighjcjmacajoaaGreatDoor
open Go Foot
end Go.Proofs.YtighjcjmacajoaaGreatDoor
end
section
set_option linter.unusedVariables false
set_option linter.unusedSimpArgs false
set_option maxRecDepth 100000
set_option maxHeartbeats 4000000
namespace Go.Proofs.YtighjcjmacajoaaGreatDoor
open Go Foot
section
variable {P : Program} {g : Gh} {st : St} {dst : Option Tmp} {ty : TypeId} {pos : String} {after : Array Edge} {guard : Option (Nat × Bool)} {x y z : Operand} {T U : TypeId} {a b : Int}
theorem a_cmp8 {op : BinOp} {p : Prop} [Decidable p] {v : Value} (e1 : opd st x = .one (u8 a)) (e2 : opd st y = .one (u8 b)) (hv : binV op (.int .u8 a) (.int .u8 b) = some v) (ho : binOb op (.int .u8 a) (.int .u8 b)) (hb : v = .bool (decide p)) : Acts P g ⟨dst,.binOp op T x y U,ty,pos,after,guard⟩ st (.one (boo (decide p))) [] [] := by
  subst hb
  exact a_bin e1 e2 hv ho
theorem a_sub8 (e1 : opd st x = .one (u8 a)) (e2 : opd st y = .one (u8 b)) (h0 : 0 ≤ a - b) (h1 : a - b < 256) : Acts P g ⟨dst,.binOp .sub T x y U,ty,pos,after,guard⟩ st (.one (u8 (a - b))) [] [] := by
  have := a_bin (P := P) (g := g) (dst := dst) (T := T) (U := U) (ty := ty) (pos := pos) (after := after) (guard := guard) (op := .sub) e1 e2 rfl trivial
  rwa [wrap8 h0 h1] at this
end
abbrev dgI (s : Bs) : List Int := s.map fun b => (b.toNat : Int) - 48
end Go.Proofs.YtighjcjmacajoaaGreatDoor
end
section
set_option linter.unusedVariables false
set_option linter.unusedSimpArgs false
set_option maxRecDepth 100000
set_option maxHeartbeats 4000000
namespace Go.Proofs.YtighjcjmacajoaaGreatDoor
open Go Foot
end Go.Proofs.YtighjcjmacajoaaGreatDoor
end
section
set_option linter.unusedVariables false
set_option linter.unusedSimpArgs false
set_option maxRecDepth 100000
set_option maxHeartbeats 4000000
namespace Go.Proofs.YtighjcjmacajoaaGreatDoor
open Go Foot
end Go.Proofs.YtighjcjmacajoaaGreatDoor
end
