/- The measures of a run: the reference's and the program's. -/
import Derived.Test.YtncccjpbaeaafaaB9
set_option linter.unusedVariables false
set_option linter.unusedSimpArgs false
set_option maxRecDepth 100000
set_option maxHeartbeats 4000000
namespace Go.Proofs.Ytncccjpbaeaafaa
open Go Foot
section
variable {σ τ : Type} {m : Mach} {fc : Conf → Int → σ → σ} {fs : Conf → Int → Rule' → σ → σ} {fc' : Conf → Int → τ → τ} {fs' : Conf → Int → Rule' → τ → τ}
/-- Two that watch the same run. -/
theorem run_two (R : Conf → Int → σ → τ → Prop) (hs : ∀ c hd x y, R c hd x y → ¬ ruAt m c = noR → roomS (stepS (ruAt m c) c) = true → R (stepS (ruAt m c) c) (hd + (ruAt m c).m) (fs c hd (ruAt m c) (fc c hd x)) (fs' c hd (ruAt m c) (fc' c hd y))) :
    ∀ (k : Nat) (n : Int) (c : Conf) (hd : Int) (x : σ) (y : τ), R c hd x y → ∃ x' y', (runG m fc fs k n c hd x).n = (runG m fc' fs' k n c hd y).n ∧ (runG m fc fs k n c hd x).c = (runG m fc' fs' k n c hd y).c ∧ (runG m fc fs k n c hd x).halts = (runG m fc' fs' k n c hd y).halts ∧ (runG m fc fs k n c hd x).full = (runG m fc' fs' k n c hd y).full ∧ (runG m fc fs k n c hd x).hd = (runG m fc' fs' k n c hd y).hd ∧
      ((runG m fc fs k n c hd x).full = false → R (runG m fc fs k n c hd x).c (runG m fc fs k n c hd x).hd x' y' ∧ (runG m fc fs k n c hd x).x = fc (runG m fc fs k n c hd x).c (runG m fc fs k n c hd x).hd x' ∧ (runG m fc' fs' k n c hd y).x = fc' (runG m fc fs k n c hd x).c (runG m fc fs k n c hd x).hd y') := by
  intro k
  induction k with
  | zero =>
    intro n c hd x y h
    unfold runG
    split
    · exact ⟨x, y, rfl, rfl, rfl, rfl, rfl, fun _ => ⟨h, rfl, rfl⟩⟩
    · exact ⟨x, y, rfl, rfl, rfl, rfl, rfl, fun _ => ⟨h, rfl, rfl⟩⟩
  | succ k ih =>
    intro n c hd x y h
    unfold runG
    split
    · exact ⟨x, y, rfl, rfl, rfl, rfl, rfl, fun _ => ⟨h, rfl, rfl⟩⟩
    · rename_i hn
      dsimp only
      split
      · rename_i hr
        exact ih _ _ _ _ _ (hs c hd x y h hn hr)
      · exact ⟨x, y, rfl, rfl, rfl, rfl, rfl, fun h => by cases h⟩
end
/-- The run that is measured. -/
@[irreducible] def wkRun (m : Mach) (c : Conf) (at' b : Int) : Out Wk := runG m wC (wS m at') b.toNat 0 c 0 (w0 m)
@[irreducible] def wkCode (m : Mach) (c : Conf) (b : Int) : Int := if askC m c b = 0 then if (wkRun m c 0 b).full then 5 else 0 else askC m c b
--HIDE l20Run_ok
theorem preB10 {p : Prop} (h : p := by first | with_reducible assumption | omega | (simp only [List.length_append, List.length_cons, List.length_nil, List.length_set, List.length_replicate, List.length_take, List.length_drop, List.length_tail, List.length_dropLast, List.length_reverse] at *; omega) | (with_reducible refine Int.le_trans (Int.ofNat_le.2 (trimR_len _)) ?_; simp only [List.length_cons, List.length_tail]; omega) | (have := vMach_bd (by assumption); omega) | (with_reducible refine Int.le_trans (Int.ofNat_le.2 (pushL_len _ _)) ?_; simp only [List.length_dropLast]; omega) | exact (ask_ok (by assumption)).1 | exact (ask_ok (by assumption)).2.1 | exact (ask_ok (by assumption)).2.2.1 | exact (ask_ok (by assumption)).2.2.2 | trivial) : p := h
theorem l20RunA_ok (m : Mach) (c : Conf) (at' b : Int) (ha : askC m c b = 0) (hat : -100000 ≤ at' ∧ at' ≤ 100000) : Does Try.prog 59 [.one (maB m), .one (coB c), .one (int at'), .one (int b)] [] (.one (.gv 0)) [wkJx (wkRun m c at' b).n (wkRun m c at' b).halts (wkRun m c at' b).x (if (wkRun m c at' b).full then 0 else marksC (wkRun m c at' b).c) 1 2 3 4 (wkRun m c at' b).full, roI (wkRun m c at' b).x.vis, roI (wkRun m c at' b).x.sts, roI (wkRun m c at' b).x.rls, roI (wkRun m c at' b).x.crs] := by
  obtain ⟨h1, h2, h3, h4⟩ := ask_ok ha
  exact l20Run_ok m c at' b h1 h2 h3 h4 hat _ (by unfold wkRun; rfl)
end Go.Proofs.Ytncccjpbaeaafaa
