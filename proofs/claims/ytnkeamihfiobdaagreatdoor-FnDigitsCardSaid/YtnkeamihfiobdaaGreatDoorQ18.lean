/- Parts of the proof (18 of 22). -/
import Derived.Laws.Slices
import Derived.Test.YtnkeamihfiobdaaGreatDoorQ17
section
set_option linter.unusedVariables false
set_option linter.unusedSimpArgs false
set_option maxRecDepth 100000
namespace Go.Proofs.YtnkeamihfiobdaaGreatDoor
open Go Foot
theorem ext_str (l : Bs) (a b : Nat) : (ByteArray.mk l.toArray).extract a b = ⟨((l.drop a).take (b - a)).toArray⟩ := by
  apply ByteArray.ext
  rw [ByteArray.data_extract]
  simp [List.extract_toArray,List.extract]
section
variable {P : Program} {g : Gh} {st : St} {dst : Option Tmp} {ty : TypeId} {pos : String} {after : Array Edge} {guard : Option (Nat × Bool)} {x lo hi : Operand} {T : TypeId} {a : Bs} {m n : Int}
theorem a_slSh (e1 : opd st x = .one (str a)) (e2 : opd st hi = .one (int m)) (hT : P.underlying T = some .string) (h0 : 0 ≤ m) (h1 : m ≤ a.length) : Acts P g ⟨dst,.slice T x none (some hi) none,ty,pos,after,guard⟩ st (.one (str (a.take m.toNat))) [] [] := by
  refine acts_of fun ac w S ρ F h => ⟨sv (a.take m.toNat),?_,⟨rfl,rfl⟩⟩
  show (do pure (.value (← Instr.sliceAt T (ac.eval x) (none) (some (ac.eval hi)) none)) : Sem Next).run P w = _
  rw [opd_sc h e1,opd_sc h e2]
  have key := run_slice_string_h (P := P) w T (ByteArray.mk a.toArray) hT .i64 m h0 (by rw [sz_str]; exact h1)
  rw [ext_str] at key
  have e : (List.drop 0 a).take (m.toNat - 0) = a.take m.toNat := by simp
  rw [e,← run_sliceAt_string (P := P) (w := w) T _ _ _ _ hT] at key
  simp only [Sem.run_bind,key]
  rfl
theorem a_slSl (e1 : opd st x = .one (str a)) (e2 : opd st lo = .one (int m)) (hT : P.underlying T = some .string) (h0 : 0 ≤ m) (h1 : m ≤ a.length) : Acts P g ⟨dst,.slice T x (some lo) none none,ty,pos,after,guard⟩ st (.one (str (a.drop m.toNat))) [] [] := by
  refine acts_of fun ac w S ρ F h => ⟨sv (a.drop m.toNat),?_,⟨rfl,rfl⟩⟩
  show (do pure (.value (← Instr.sliceAt T (ac.eval x) (some (ac.eval lo)) none none)) : Sem Next).run P w = _
  rw [opd_sc h e1,opd_sc h e2]
  have key := run_slice_string_l (P := P) w T (ByteArray.mk a.toArray) hT .i64 m h0 (by rw [sz_str]; exact h1)
  rw [ext_str] at key
  have e : (List.drop m.toNat a).take ((ByteArray.mk a.toArray).size - m.toNat) = a.drop m.toNat := by rw [sz_str,List.take_of_length_le]; rw [List.length_drop]; exact Nat.le_refl _
  rw [e,← run_sliceAt_string (P := P) (w := w) T _ _ _ _ hT] at key
  simp only [Sem.run_bind,key]
  rfl
theorem a_slSm (e1 : opd st x = .one (str a)) (e2 : opd st lo = .one (int m)) (e3 : opd st hi = .one (int n)) (hT : P.underlying T = some .string) (h0 : 0 ≤ m) (h1 : m ≤ n) (h2 : n ≤ a.length) : Acts P g ⟨dst,.slice T x (some lo) (some hi) none,ty,pos,after,guard⟩ st (.one (str ((a.drop m.toNat).take (n.toNat - m.toNat)))) [] [] := by
  refine acts_of fun ac w S ρ F h => ⟨sv ((a.drop m.toNat).take (n.toNat - m.toNat)),?_,⟨rfl,rfl⟩⟩
  show (do pure (.value (← Instr.sliceAt T (ac.eval x) (some (ac.eval lo)) (some (ac.eval hi)) none)) : Sem Next).run P w = _
  rw [opd_sc h e1,opd_sc h e2,opd_sc h e3]
  have key := run_slice_string (P := P) (w := w) T (ByteArray.mk a.toArray) .i64 .i64 m n hT h0 h1 (by rw [sz_str]; exact h2)
  rw [ext_str] at key
  rw [← run_sliceAt_string (P := P) (w := w) T _ _ _ _ hT] at key
  simp only [Sem.run_bind,key]
  rfl
end
end Go.Proofs.YtnkeamihfiobdaaGreatDoor
end
section

end
