/- The types of the laws' arguments, opened. -/
import Derived.Test.YtncccjpbaeaafaaO1
import Derived.Test.YtncccjpbaeaafaaA1
set_option linter.unusedVariables false
set_option linter.unusedSimpArgs false
set_option maxRecDepth 100000
namespace Go.Proofs.Ytncccjpbaeaafaa
open Go Foot Go.ChangeShapes Go.WideShapes Go.ChangeAt Go.RowKit Go.Deep
theorem own : ownKnob Try.prog.godebug = none := by kernel_rfl
theorem laidOut : laidOutB Try.prog = true := by kernel_rfl
theorem opens_i : Opens Try.prog 2 1 (fun n : Int => [.sc (.int .i64 n)]) Ok64 := opens_int Try.underlying2
theorem opens_I : Opens Try.prog 35 1 (fun l : List Int => [.sl false 1 (rows eI l)]) (fun l => l.length ≤ maxLen ∧ ∀ x ∈ l, Ok64 x) := opens_slice (E := eI) Try.underlying35 (by kernel_rfl) opens_i
abbrev RuleOk (r : Rule') : Prop := Ok64 r.w ∧ Ok64 r.m ∧ Ok64 r.n
theorem opens_rule : Opens Try.prog 149 3 eR.enc RuleOk := by
  have h := opens_struct (P := Try.prog) (z := 3) Try.underlying149 (by kernel_rfl) (opensL_cons (z := 1) (z' := 2) (o := 0) rfl (by kernel_rfl) opens_i (opensL_cons (z := 1) (z' := 1) (o := 1) rfl (by kernel_rfl) opens_i (opensL_one (z := 1) (o := 2) rfl (by kernel_rfl) opens_i)))
  exact h.via (fun y => ⟨y.1, y.2.1, y.2.2⟩) (fun _ => rfl) (fun _ => rfl) (fun _ h => h)
theorem opens_rules : Opens Try.prog 22 1 (fun l : List Rule' => [.sl false 3 (rows eR l)]) (fun l => l.length ≤ maxLen ∧ ∀ x ∈ l, RuleOk x) := opens_slice (E := eR) Try.underlying22 (by kernel_rfl) opens_rule
abbrev MachOk (m : Mach) : Prop := Ok64 m.sy ∧ Ok64 m.st ∧ m.ru.length ≤ maxLen ∧ ∀ x ∈ m.ru, RuleOk x
theorem opens_machine : Opens Try.prog 24 3 (fun m : Mach => [.sc (.int .i64 m.sy), .sc (.int .i64 m.st), .sl false 3 (rows eR m.ru)]) MachOk := by
  have h := opens_struct (P := Try.prog) (z := 3) Try.underlying24 (by kernel_rfl) (opensL_cons (z := 1) (z' := 2) (o := 0) rfl (by kernel_rfl) opens_i (opensL_cons (z := 1) (z' := 1) (o := 1) rfl (by kernel_rfl) opens_i (opensL_one (z := 1) (o := 2) rfl (by kernel_rfl) opens_rules)))
  exact h.via (fun y => ⟨y.1, y.2.1, y.2.2⟩) (fun _ => rfl) (fun _ => rfl) (fun _ h => h)
abbrev ConfOk (c : Conf) : Prop := Ok64 c.st ∧ (c.le.length ≤ maxLen ∧ ∀ x ∈ c.le, Ok64 x) ∧ c.ri.length ≤ maxLen ∧ ∀ x ∈ c.ri, Ok64 x
theorem opens_config : Opens Try.prog 37 3 (fun c : Conf => [.sc (.int .i64 c.st), .sl false 1 (rows eI c.le), .sl false 1 (rows eI c.ri)]) ConfOk := by
  have h := opens_struct (P := Try.prog) (z := 3) Try.underlying37 (by kernel_rfl) (opensL_cons (z := 1) (z' := 2) (o := 0) rfl (by kernel_rfl) opens_i (opensL_cons (z := 1) (z' := 1) (o := 1) rfl (by kernel_rfl) opens_I (opensL_one (z := 1) (o := 2) rfl (by kernel_rfl) opens_I)))
  exact h.via (fun y => ⟨y.1, y.2.1, y.2.2⟩) (fun _ => rfl) (fun _ => rfl) (fun _ h => h)
theorem szL_ge {n : Nat} {l : Int} (hl : l ≤ 1048576) (h : ¬ szL n l < 0) : (n : Int) ≤ l := by
  unfold szL at h; split at h <;> omega
theorem szC_ge {c : Conf} {l : Int} (hl : l ≤ 1048576) (h : ¬ szC c l < 0) : (c.le.length : Int) ≤ l ∧ (c.ri.length : Int) ≤ l := by
  unfold szC at h
  split at h
  · omega
  · rename_i h1
    have h2 := szL_ge hl h1
    have h4 := szL_le (n := c.le.length) hl
    have h3 := szL_ge h4 h
    unfold szL at h3
    split at h3 <;> omega
end Go.Proofs.Ytncccjpbaeaafaa
