/- The visits of the cells of the tape: the map and the list tell the same. -/
import Derived.Test.YtncccjpbaeaafaaB13
set_option linter.unusedVariables false
set_option linter.unusedSimpArgs false
set_option maxRecDepth 100000
set_option maxHeartbeats 4000000
namespace Go.Proofs.Ytncccjpbaeaafaa
open Go Foot
theorem setA_len {α β : Type} [DecidableEq α] : ∀ (l : List (α × β)) (a : α) (b : β), (setA l a b).length = if (getA l a).isSome then l.length else l.length + 1
  | [], a, b => rfl
  | (k, v) :: l, a, b => by
    unfold setA getA
    split
    · simp
    · rename_i h
      rw [List.length_cons, setA_len l a b]
      split <;> simp
theorem getA_some {α β : Type} [DecidableEq α] : ∀ {l : List (α × β)} {a : α}, (getA l a).isSome = true ↔ ∃ p ∈ l, p.1 = a
  | [], a => by simp [getA]
  | (k, v) :: l, a => by
    unfold getA
    split
    · rename_i h; simp [h]
    · rename_i h
      rw [getA_some (l := l)]
      simp [h]
theorem getD_bump (l : List Int) (k : Int) (j : Nat) (hk : k.toNat < l.length) : (bump l k).getD j 0 = if j = k.toNat then l.getD j 0 + 1 else l.getD j 0 := by
  unfold bump
  rw [List.getD_eq_getElem?_getD, List.getElem?_set]
  by_cases h : k.toNat = j
  · subst h
    rw [if_pos rfl, if_pos hk, if_pos rfl]
    rfl
  · rw [if_neg h, if_neg (fun e => h e.symm), List.getD_eq_getElem?_getD]
/-- The map of the visits and their list, ahead of a configuration's count. -/
structure VcR (m : Mach) (c : Conf) (hd : Int) (x : Ct) (y : Wk) : Prop where
  ok : vConf m c = true
  v : ∀ k, y.le ≤ k → k ≤ y.gr → y.vis.getD (k - y.le).toNat 0 = (getA x.cel k).getD 0 + (if k = hd then 1 else 0)
  i : ∀ k, (getA x.cel k).isSome = true → y.le ≤ k ∧ k ≤ y.gr
  o : ∀ k, y.le ≤ k → k ≤ y.gr → k ≠ hd → (getA x.cel k).isSome = true
  n : (x.cel.length : Int) = y.gr - y.le + (if (getA x.cel hd).isSome then 1 else 0)
  l : (y.vis.length : Int) = y.gr - y.le + 1
  h : y.le ≤ hd ∧ hd ≤ y.gr
  z : y.le ≤ 0 ∧ 0 ≤ y.gr
/-- Behind a configuration's count. -/
structure VcF (x : Ct) (y : Wk) : Prop where
  v : ∀ k, y.le ≤ k → k ≤ y.gr → y.vis.getD (k - y.le).toNat 0 = (getA x.cel k).getD 0
  i : ∀ k, (getA x.cel k).isSome = true ↔ y.le ≤ k ∧ k ≤ y.gr
  n : (x.cel.length : Int) = y.gr - y.le + 1
  l : (y.vis.length : Int) = y.gr - y.le + 1
  z : y.le ≤ 0 ∧ 0 ≤ y.gr
theorem VcR.fin {m : Mach} {c : Conf} {hd : Int} {x : Ct} {y : Wk} (r : VcR m c hd x y) : VcF (ctC c hd x) (wC c hd y) := by
  unfold ctC wC
  refine ⟨fun k h1 h2 => ?_, fun k => ?_, ?_, r.l, r.z⟩
  · dsimp only at h1 h2 ⊢
    rw [r.v k h1 h2, getA_setA]
    by_cases hk : k = hd
    · subst hk; rw [if_pos rfl, if_pos rfl]; rfl
    · rw [if_neg hk, if_neg (fun e => hk e.symm)]; omega
  · dsimp only
    rw [getA_setA]
    by_cases hk : hd = k
    · subst hk; rw [if_pos rfl]; have := r.h; simp [this]
    · rw [if_neg hk]
      exact ⟨r.i k, fun h => r.o k h.1 h.2 (fun e => hk e.symm)⟩
  · dsimp only
    rw [setA_len]
    have := r.n
    split
    · rename_i h; rw [if_pos h] at this; exact this
    · rename_i h; rw [if_neg h] at this; omega
theorem VcF.none {x : Ct} {y : Wk} (f : VcF x y) {k : Int} (h : ¬ (y.le ≤ k ∧ k ≤ y.gr)) : getA x.cel k = none := by
  cases hg : getA x.cel k with
  | none => rfl
  | some v => exact absurd ((f.i k).1 (by rw [hg]; rfl)) h
theorem VcF.vis {x : Ct} {y : Wk} (f : VcF x y) (d : Int) (h1 : y.le - 1 ≤ d) (h2 : d ≤ y.gr + 1) : ∀ k, min y.le d ≤ k → k ≤ max y.gr d → (visOf d y.le y.gr y.vis).getD (k - min y.le d).toNat 0 = (getA x.cel k).getD 0 := by
  intro k h3 h4
  have hl := f.l
  have hz := f.z
  unfold visOf
  split
  · rename_i h
    rw [show min y.le d = d by omega] at h3 ⊢
    by_cases hk : k = d
    · subst hk
      rw [f.none (by omega)]
      simp
    · rw [show (k - d).toNat = (k - y.le).toNat + 1 by omega, List.getD_cons_succ]
      exact f.v k (by omega) (by omega)
  · split
    · rename_i h h'
      rw [show min y.le d = y.le by omega] at h3 ⊢
      by_cases hk : k = d
      · subst hk
        rw [f.none (by omega), List.getD_eq_getElem?_getD, List.getElem?_append_right (by omega), show (k - y.le).toNat - y.vis.length = 0 by omega]
        rfl
      · rw [List.getD_eq_getElem?_getD, List.getElem?_append_left (by omega), ← List.getD_eq_getElem?_getD]
        exact f.v k (by omega) (by omega)
    · rename_i h h'
      rw [show min y.le d = y.le by omega] at h3 ⊢
      exact f.v k (by omega) (by omega)
theorem VcR.step {m : Mach} {c : Conf} {hd : Int} {x : Ct} {y : Wk} (hm : vMach m = true) (r : VcR m c hd x y) (hn : ¬ ruAt m c = noR) (hr : roomS (stepS (ruAt m c) c) = true) : VcR m (stepS (ruAt m c) c) (hd + (ruAt m c).m) (ctS m c hd (ruAt m c) (ctC c hd x)) (wS m 0 c hd (ruAt m c) (wC c hd y)) := by
  have hu := (ruAt_ok hm r.ok hn).2.1
  have f := r.fin
  have hok := stepS_ok hm r.ok hn hr
  have hle : (wC c hd y).le = y.le := by unfold wC; rfl
  have hgr : (wC c hd y).gr = y.gr := by unfold wC; rfl
  have hh := r.h
  rw [← hle, ← hgr] at hh
  generalize ctC c hd x = x' at f ⊢
  generalize wC c hd y = y' at f hh ⊢
  have hz := f.z
  have hvl := visOf_len (cell := hd + (ruAt m c).m) (le := y'.le) (gr := y'.gr) (l := y'.vis) (by omega) (by omega) (by omega) f.l
  have hvv := f.vis (hd + (ruAt m c).m) (by omega) (by omega)
  unfold ctS wS
  refine ⟨hok, fun k h1 h2 => ?_, fun k hk => ?_, fun k h1 h2 h3 => ?_, ?_, ?_, ?_, ?_⟩
  · dsimp only at h1 h2 ⊢
    rw [getD_bump _ _ _ (by omega), hvv k h1 (by omega)]
    by_cases hk : k = hd + (ruAt m c).m
    · rw [if_pos (by omega), if_pos hk]
    · rw [if_neg (by omega), if_neg hk]; omega
  · dsimp only at hk ⊢
    have := (f.i k).1 hk
    omega
  · dsimp only at h1 h2 ⊢
    exact (f.i k).2 (by omega)
  · dsimp only
    have hnn := f.n
    split
    · rename_i h
      have := (f.i _).1 h
      omega
    · rename_i h
      have h' : ¬ (y'.le ≤ hd + (ruAt m c).m ∧ hd + (ruAt m c).m ≤ y'.gr) := fun e => h ((f.i _).2 e)
      omega
  · dsimp only
    rw [bump_len]
    omega
  · dsimp only; omega
  · dsimp only; omega
theorem vc_run (m : Mach) (c : Conf) (b : Int) (hm : vMach m = true) (hc : vConf m c = true) (hf : (wkRun m c 0 b).full = false) : VcF (ctRun m c b).x (wkRun m c 0 b).x := by
  unfold ctRun wkRun at *
  obtain ⟨x', y', h1, h2, h3, h4, h5, h6⟩ := run_two (m := m) (fc := ctC) (fs := ctS m) (fc' := wC) (fs' := wS m 0) (VcR m) (fun c hd x y h hn hr => h.step hm hn hr) b.toNat 0 c 0 (ct0 m) (w0 m) ⟨hc, fun k h1 h2 => by
    have : k = 0 := by dsimp only at h1 h2; omega
    subst this
    rfl, fun k h => by simp [getA] at h, fun k h1 h2 h3 => by dsimp only at h1 h2; omega, by simp [getA], by simp, by simp, by simp⟩
  generalize runG m ctC (ctS m) b.toNat 0 c 0 (ct0 m) = O1 at *
  generalize runG m wC (wS m 0) b.toNat 0 c 0 (w0 m) = O2 at *
  obtain ⟨r, e1, e2⟩ := h6 (h4.trans hf)
  rw [e1, e2]
  exact r.fin
/-- The list, cell after cell. -/
theorem VcF.list {x : Ct} {y : Wk} (f : VcF x y) : (List.range x.cel.length).map (fun (j : Nat) => (getA x.cel (y.le + (j : Int))).getD 0) = y.vis := by
  have hl := f.l
  have hn := f.n
  apply List.ext_getElem?
  intro j
  by_cases hj : j < y.vis.length
  · have h1 := f.v (y.le + j) (by omega) (by omega)
    rw [show (y.le + (j : Int) - y.le).toNat = j by omega, List.getD_eq_getElem?_getD, List.getElem?_eq_getElem hj] at h1
    rw [List.getElem?_map, List.getElem?_range (by omega), List.getElem?_eq_getElem hj, Option.map_some, ← h1]
    rfl
  · rw [List.getElem?_eq_none (by simp; omega), List.getElem?_eq_none (by omega)]
/-- The least key. -/
theorem VcF.low {x : Ct} {y : Wk} (f : VcF x y) {lo : Int} (h1 : lo ≤ 0) (h2 : ∀ p ∈ x.cel, lo ≤ p.1) (h3 : lo = 0 ∨ ∃ p ∈ x.cel, lo = p.1) : lo = y.le := by
  have hz := f.z
  obtain ⟨p, hp, e⟩ := getA_some.1 ((f.i y.le).2 (by omega))
  have := h2 p hp
  rcases h3 with h | ⟨q, hq, h⟩
  · omega
  · have := (f.i q.1).1 (getA_some.2 ⟨q, hq, rfl⟩)
    omega
theorem wk_low {m : Mach} (hm : vMach m = true) (at' B : Int) : ∀ (k : Nat) (n : Int) (c : Conf) (hd : Int) (x : Wk), vConf m c = true → -B + k ≤ x.le → x.gr ≤ B - k → -B + k ≤ hd → hd ≤ B - k → -B ≤ (runG m wC (wS m at') k n c hd x).x.le ∧ (runG m wC (wS m at') k n c hd x).x.gr ≤ B := by
  have hC : ∀ c hd x, (wC c hd x).le = x.le ∧ (wC c hd x).gr = x.gr := fun c hd x => by unfold wC; exact ⟨rfl, rfl⟩
  have hS : ∀ c hd u x, (wS m at' c hd u x).le = min x.le (hd + u.m) ∧ (wS m at' c hd u x).gr = max x.gr (hd + u.m) := fun c hd u x => by unfold wS; exact ⟨rfl, rfl⟩
  intro k
  induction k with
  | zero =>
    intro n c hd x h1 h2 h3 h4 h5
    have := hC c hd x
    unfold runG
    split <;> (dsimp only; omega)
  | succ k ih =>
    intro n c hd x h1 h2 h3 h4 h5
    have hc := hC c hd x
    unfold runG
    split
    · dsimp only; omega
    · rename_i hn
      have hu := (ruAt_ok hm h1 hn).2.1
      have hs := hS c hd (ruAt m c) (wC c hd x)
      dsimp only
      split
      · rename_i hr
        exact ih _ _ _ _ (stepS_ok hm h1 hn hr) (by omega) (by omega) (by omega) (by omega)
      · dsimp only; omega
theorem wk_bds (m : Mach) (c : Conf) (b : Int) (ha : askC m c b = 0) : -20000 ≤ (wkRun m c 0 b).x.le ∧ (wkRun m c 0 b).x.gr ≤ 20000 := by
  obtain ⟨h1, h2, h3, h4⟩ := ask_ok ha
  have := wk_low h1 0 b b.toNat 0 c 0 (w0 m) h2 (by dsimp only; omega) (by dsimp only; omega) (by omega) (by omega)
  unfold wkRun
  omega
end Go.Proofs.Ytncccjpbaeaafaa
