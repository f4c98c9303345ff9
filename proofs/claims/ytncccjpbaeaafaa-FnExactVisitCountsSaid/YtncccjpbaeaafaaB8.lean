/- A run that is watched, in plain words; the contract of follow for the measuring observer. -/
import Derived.Test.YtncccjpbaeaafaaB7
set_option linter.unusedVariables false
set_option linter.unusedSimpArgs false
set_option maxRecDepth 100000
set_option maxHeartbeats 4000000
namespace Go.Proofs.Ytncccjpbaeaafaa
open Go Foot
/-- What a run that is watched comes to. -/
structure Out (σ : Type) where
  x : σ
  n : Int
  c : Conf
  hd : Int
  halts : Bool
  full : Bool
/-- A run that is watched, from a configuration on: fc sees the configurations, fs the steps. -/
def runG {σ : Type} (m : Mach) (fc : Conf → Int → σ → σ) (fs : Conf → Int → Rule' → σ → σ) : Nat → Int → Conf → Int → σ → Out σ
  | k, n, c, hd, x =>
    if ruAt m c = noR then ⟨fc c hd x, n, c, hd, true, false⟩ else
    match k with
    | 0 => ⟨fc c hd x, n, c, hd, false, false⟩
    | k + 1 => if roomS (stepS (ruAt m c) c) then runG m fc fs k (n + 1) (stepS (ruAt m c) c) (hd + (ruAt m c).m) (fs c hd (ruAt m c) (fc c hd x)) else ⟨fs c hd (ruAt m c) (fc c hd x), n, c, hd, false, true⟩
section
variable {σ : Type} {m : Mach} {fc : Conf → Int → σ → σ} {fs : Conf → Int → Rule' → σ → σ} {b n hd : Int} {c : Conf} {x : σ} {O : Out σ}
theorem run_halt {k : Nat} (h : ruAt m c = noR) (hO : runG m fc fs k n c hd x = O) : O = ⟨fc c hd x, n, c, hd, true, false⟩ := by
  rw [← hO]; unfold runG; rw [if_pos h]
theorem run_end (h : ¬ ruAt m c = noR) (hn : n = b) (hO : runG m fc fs (b - n).toNat n c hd x = O) : O = ⟨fc c hd x, n, c, hd, false, false⟩ := by
  subst hn
  rw [← hO, show (n - n).toNat = 0 by omega]; unfold runG; rw [if_neg h]
theorem run_full (h : ¬ ruAt m c = noR) (hn : n < b) (hr : roomS (stepS (ruAt m c) c) = false) (hO : runG m fc fs (b - n).toNat n c hd x = O) : O = ⟨fs c hd (ruAt m c) (fc c hd x), n, c, hd, false, true⟩ := by
  rw [← hO, show (b - n).toNat = (b - (n + 1)).toNat + 1 by omega]; unfold runG; rw [if_neg h]; simp [hr]
theorem run_next (h : ¬ ruAt m c = noR) (hn : n < b) (hr : roomS (stepS (ruAt m c) c) = true) (hO : runG m fc fs (b - n).toNat n c hd x = O) : runG m fc fs (b - (n + 1)).toNat (n + 1) (stepS (ruAt m c) c) (hd + (ruAt m c).m) (fs c hd (ruAt m c) (fc c hd x)) = O := by
  rw [← hO, show (b - n).toNat = (b - (n + 1)).toNat + 1 by omega]; conv => rhs; unfold runG
  rw [if_neg h]; simp [hr]
end
theorem ask_ok {m : Mach} {c : Conf} {b : Int} (h : askC m c b = 0) : vMach m = true ∧ vConf m c = true ∧ 1 ≤ b ∧ b ≤ 20000 := by
  unfold askC at h
  split at h
  · rename_i h1
    split at h
    · rename_i h2; exact ⟨h1.1, h1.2, h2.1, h2.2⟩
    · cases h
  · cases h
--PRE exact (ask_ok (by assumption)).1
--PRE exact (ask_ok (by assumption)).2.1
--PRE exact (ask_ok (by assumption)).2.2.1
--PRE exact (ask_ok (by assumption)).2.2.2
end Go.Proofs.Ytncccjpbaeaafaa
