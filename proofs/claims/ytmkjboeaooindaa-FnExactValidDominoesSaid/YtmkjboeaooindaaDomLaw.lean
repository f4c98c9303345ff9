/- Whatever the list of dominoes: the program's ValidDominoes says what the reference's says, and leaves the list alone. No condition. -/
import Derived.Test.YtmkjboeaooindaaDomV
import Derived.Test.YtmkjboeaooindaaOpen
namespace Go.Proofs.Ytmkjboeaooindaa
open Go.ChangeShapes Go.WideShapes Go.ChangeAt Go.RowKit

theorem szI_small {n : Nat} {left : Int} (h : 0 ≤ szI n left) : (n : Int) ≤ left ∧ szI n left = left - n := by unfold szI at *; split at h <;> simp_all <;> omega
theorem szDom_small {x : Domino} {left : Int} (h : 0 ≤ szDom x left) (hl : left ≤ 1048576) : SmallDom x := by
  unfold szDom at h
  split at h
  · omega
  · rename_i hn
    have h1 := szI_small (by omega : 0 ≤ szI x.top.length left)
    have h2 := szI_small h
    unfold SmallDom
    omega
theorem szDomS_small : ∀ (xs : List Domino) (left : Int), 0 ≤ szDomS xs left → left ≤ 1048576 → ∀ i (h : i < xs.length), SmallDom xs[i]
  | [], _, _, _, i, h => by simp at h
  | x :: xs, left, h0, hl, i, h => by
    unfold szDomS at h0
    split at h0
    · omega
    · rename_i hn
      cases i with
      | zero => exact szDom_small (x := x) (by omega) hl
      | succ i => exact szDomS_small xs _ h0 (szDom_le hl) i (by simpa using h)
theorem szDL_small {xs : List Domino} (h : 0 ≤ szDL xs 1048576) : xs.length ≤ 1048576 ∧ ∀ i (h : i < xs.length), SmallDom xs[i] := by
  unfold szDL at h
  split at h
  · omega
  · exact ⟨by omega, szDomS_small xs _ h (by omega)⟩

theorem law_any (a : Option Addr) (cap : Nat) (xs : List Domino) (w : World) (hx : Rd RDomino w.heap.size w a xs) (hn : xs.length ≤ maxLen) :
    Calls Try.prog 3 #[.slice a xs.length cap] w fun e w' => e = .returned (.bool true) ∧ Ext w w' := by
  go_enter Try.func3, Try.ntmps3
  go_wp2_with fail
  refine (szDominoS _ _ _ _ _ hx hn (by omega) (by omega)).mono ?_
  rintro e w1 ⟨rfl, hb1⟩
  by_cases hneg : szDL xs 1048576 < 0
  · go_wp2_with fail
    go_ret
    exact ⟨rfl, hb1⟩
  have hge : 0 ≤ szDL xs 1048576 := by omega
  obtain ⟨hm, sx⟩ := szDL_small hge
  have hx1 := hx.ext hb1
  go_wp2_with fail
  refine (toDominoS _ _ _ _ hx1 hm sx).mono ?_
  rintro e w2 ⟨a2, rfl, own2, hb2⟩
  go_wp2_with fail
  refine (ValidDominoes_spec _ _ _ _ own2.rd hm sx).mono ?_
  rintro e w3 ⟨rfl, hb3⟩
  have hx3 := (hx1.ext hb2).ext hb3
  go_wp2_with fail
  refine (toDominoS _ _ _ _ hx3 hm sx).mono ?_
  rintro e w4 ⟨a4, rfl, own4, hb4⟩
  go_wp2_with fail
  refine (ValidDominoes_impl _ _ _ _ own4.rd hm sx).mono ?_
  rintro e w5 ⟨rfl, hb5⟩
  have hsame : (okDoms xs != okDoms xs) = false := by simp
  go_wp2_with fail
  refine (toDominoS _ _ _ _ ((hx3.ext hb4).ext hb5) hm sx).mono ?_
  rintro e w6 ⟨a6, rfl, own6, hb6⟩
  go_wp2_with fail
  refine (eqDominoS _ _ _ _ _ _ _ ((own4.rd.ext hb5).ext hb6) own6.rd hm hm sx sx).mono ?_
  rintro e w7 ⟨rfl, hb7⟩
  rw [decide_eq_true (rfl : xs = xs)]
  go_wp2_with fail
  go_ret
  exact ⟨rfl, (((((hb1.trans hb2).trans hb3).trans hb4).trans hb5).trans hb6).trans hb7⟩

theorem own : ownKnob Try.prog.godebug = none := by kernel_rfl
theorem laidOut : laidOutB Try.prog = true := by kernel_rfl

theorem opens_domino : Opens Try.prog 32 RDomino :=
  Opens.via (fun y => ⟨y.1, y.2⟩) (fun _ => rfl) (opens_struct Try.underlying32 (by kernel_rfl)
    (opensL_cons rfl (by kernel_rfl) (opens_slice Try.underlying30 (by kernel_rfl) (by decide) (opens_int Try.underlying2))
      (opensL_one rfl (by kernel_rfl) (opens_slice Try.underlying30 (by kernel_rfl) (by decide) (opens_int Try.underlying2)))))

set_option maxRecDepth 100000 in
theorem lifted (os : Os) (started : os.Started) (H : Type) (enc : TypeId × Value → H) :
    ReturnsInHanded {} Try.checked os 3 .any (Rows.fnExactValidDominoesSpec.pre6 enc Try.prog Try.f3 Rows.fnExactValidDominoesRow.domain false) (Rows.fnExactValidDominoesSpec.post enc Try.prog Try.f3 false true false false) := by
  refine returnsInHanded_of_change (C := Try.checked) own started (by kernel_rfl) Try.func3
    (ChangeSpec.witness6 (enc := enc) (C := Try.checked) false ⟨#[], #[.slice none 0 0], []⟩ 8 (by kernel_rfl) (by kernel_rfl) (by kernel_rfl) (by kernel_rfl)) ?_
  intro W base args ds gs before hval0 hW hcnd _
  have hval : ∀ (j : Nat) t v, Try.f3.params[j]? = some t → args[j]? = some v → Value.okWide Try.prog W .any base t v := hval0
  have hW' := hW
  obtain ⟨p, q, hA0, hV, rfl, hfz, hnd⟩ := hW
  have hA : DataW.TrodAll enc Try.prog W 0 (fun _ => true) true Try.f3.params.toList args.toList ds p := hA0
  rw [Try.params3] at hA hval
  obtain ⟨v0, vs0, d0, ds0, p0, q0, hargs, rfl, rfl, h0, r0⟩ := trodAll_cons hA
  obtain ⟨rfl, rfl, rfl⟩ := trodAll_nil r0
  obtain rfl : args = #[v0] := by cases args; simp_all
  obtain ⟨rfl, rfl⟩ := trodVars_none hV
  obtain ⟨a0, len0, cap0, rfl⟩ := okWide_slice Try.underlying22 (hval 0 22 v0 rfl rfl)
  have k0 := h0
  have lt0 : ∀ x ∈ p0, x.block < W.heap.size := by obtain ⟨m, hm⟩ := k0; exact DataW.trod_lt m _ _ _ hm
  obtain ⟨fuel, hf⟩ := h0
  obtain ⟨xs, fp, a1, c1, hcs, l1, m1, he⟩ := opens_slice (R := RDomino) Try.underlying22 (by kernel_rfl) (by decide) opens_domino enc W _ _ _ fuel _ _ hf
  simp [Value.cells] at hcs
  obtain ⟨rfl, rfl, rfl⟩ := hcs
  clear hA0 hval0
  refine (law_any a0 cap0 xs W ⟨fp, he, he.lt⟩ (Nat.le_trans l1 m1)).mono fun e W' ⟨he, bel⟩ => ?_
  subst he
  exact ⟨_, rfl, _, _, _, [], _, [], hW', trodAll_mk1 (shut_bool Try.underlying4 _), (trodAll_cons_mk (Below.trod laidOut (by kernel_rfl) (of_decide_eq_true (by kernel_rfl)) k0 bel lt0) trodAll_mk0), rfl, bel.frame _, fun h => by cases h⟩

theorem proved : Rows.FnExactValidDominoesSaid :=
  OpenClaim.holds_of_wide 3 Try.f3 rfl rfl rfl rfl rfl rfl rfl ⟨rfl, rfl, rfl, rfl, rfl⟩ rfl rfl rfl rfl rfl (by kernel_rfl) Try.func3 (by kernel_rfl)
    (of_decide_eq_true (by kernel_rfl)) (by unfold Func.isWrapper; first | (rw [if_pos (by decide +kernel)]; kernel_rfl) | (rw [if_neg (by decide +kernel)]; exact ⟨rfl, rfl⟩))
    (fun os started H enc _ => lifted os started H enc)
#print axioms proved
end Go.Proofs.Ytmkjboeaooindaa
