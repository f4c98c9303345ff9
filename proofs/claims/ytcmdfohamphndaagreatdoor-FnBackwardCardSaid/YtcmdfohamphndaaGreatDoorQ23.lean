/- Parts of the proof (23 of 23). -/
import Derived.LaidMore
import Derived.Lib.LaidTab
import Derived.Stop.LaidErr
import Derived.Test.YtcmdfohamphndaaGreatDoorRows
import Derived.Test.YtcmdfohamphndaaGreatDoorQ22
section
set_option linter.unusedVariables false
set_option linter.unusedSimpArgs false
set_option maxRecDepth 100000
namespace Go.Proofs.YtcmdfohamphndaaGreatDoor
open Go Foot
abbrev doorN : Nat := 600
end Go.Proofs.YtcmdfohamphndaaGreatDoor
end
section
set_option linter.unusedVariables false
set_option linter.unusedSimpArgs false
set_option maxRecDepth 100000
namespace Go.Proofs.YtcmdfohamphndaaGreatDoor
open Go Foot
theorem opens_Y : Opens Tryz.prog 52 1 (fun l : List Int => [.sl false 1 (rows eY l)]) (fun l => l.length ≤ maxLen ∧ ∀ x ∈ l, 0 ≤ x ∧ x < 256) := opens_slice (E := eY) Tryz.underlying52 (by kernel_rfl) (opens_u8 Tryz.underlying5)
end Go.Proofs.YtcmdfohamphndaaGreatDoor
end
section
set_option linter.unusedVariables false
set_option linter.unusedSimpArgs false
set_option maxRecDepth 100000
namespace Go.Proofs.YtcmdfohamphndaaGreatDoor
open Go Foot
theorem tabs_met5 {W : World} (h : laidMetH Tryz.prog [("math/bits.deBruijn32tab", Rows.laid_math_bits_deBruijn32tab), ("math/bits.deBruijn64tab", Rows.laid_math_bits_deBruijn64tab), ("internal/strconv.uint64pow10", Rows.laid_internal_strconv_uint64pow10), ("strconv.ErrRange", Rows.laid_strconv_ErrRange), ("strconv.ErrSyntax", Rows.laid_strconv_ErrSyntax)] W) : Tabs W (allW W) := by
  rw [MakeChecks.laidMetH_plain _ _ _ (by kernel_rfl)] at h
  have h2 : Lib.TabIs Tryz.prog W "internal/strconv.uint64pow10" .u64 Lib.pow10Tab := Lib.tabIs_of_head (rest := _) (g := 5) (by kernel_rfl) (t := 330) (by kernel_rfl) (e := 190) (n := 20) (by kernel_rfl) (by kernel_rfl) (by kernel_rfl) (by kernel_rfl) h.tail.tail
  unfold Lib.TabIs World.var? at h2
  rw [show Tryz.prog.globalNamed "internal/strconv.uint64pow10" = some 5 by kernel_rfl] at h2
  simp only [Option.bind_some] at h2
  intro t ht
  obtain rfl := List.mem_singleton.1 ht
  split at h2
  · rename_i cs T fr he
    obtain rfl := Option.some.inj h2
    refine ⟨⟨T, fr, ?_⟩, fun o => ?_⟩
    · rw [he]; rfl
    · show _ < W.heap.size
      rcases Nat.lt_or_ge 5 W.heap.size with hh | hh
      · exact hh
      · rw [Array.getElem?_eq_none hh] at he; cases he
  · cases h2
/-- The door's own heap meets the rows' condition. -/
theorem door_met5 (os : Os) (args : Array Value) : laidMetH Tryz.prog [("math/bits.deBruijn32tab", Rows.laid_math_bits_deBruijn32tab), ("math/bits.deBruijn64tab", Rows.laid_math_bits_deBruijn64tab), ("internal/strconv.uint64pow10", Rows.laid_internal_strconv_uint64pow10), ("strconv.ErrRange", Rows.laid_strconv_ErrRange), ("strconv.ErrSyntax", Rows.laid_strconv_ErrSyntax)] ((World.doorLaid Tryz.prog doorN os).forCall (fun _ _ => 0) ⟨#[], args, []⟩).memory := laidMetH_of_parts3 (fuel := 8) (laidMet_of_run' 8 (by kernel_rfl) (by kernel_rfl)) (by kernel_rfl) (by kernel_rfl)
end Go.Proofs.YtcmdfohamphndaaGreatDoor
end
