/- Parts of the proof (17 of 18). -/
import Derived.Carry
import Derived.ChangeOld
import Derived.Deep.Fields
import Derived.Deep.Slices
import Derived.OpenShut
import Derived.ProofKit
import Derived.ShutString
import Derived.Test.YtbekdojhcokalaaGreatDoorQ16
section
set_option linter.unusedVariables false
set_option linter.unusedSimpArgs false
set_option maxRecDepth 100000
namespace Go.Proofs.YtbekdojhcokalaaGreatDoor
open Go Foot Go.ChangeShapes Go.WideShapes Go.ChangeAt Go.RowKit Go.Deep
/-- All cells that are there. -/
def allW (w : World) : Foot := fun b _ => b < w.heap.size
/-- What is read at a type is laid as1 the words say. -/
def Opens {α : Type} (P : Program) (t : TypeId) (z : Nat) (E : α → List D) (Q : α → Prop) : Prop :=
  (∀ a, (E a).length = z) ∧
  ∀ {H : Type} (enc : TypeId × Value → H) (w : World) (base : Nat) (held : Bool) (fuel : Nat) (cs : List Value) (x : DataW H × List MemPlace),
    DataW.trod enc P w base (fun _ => true) held fuel t cs = some x → ∃ a, Reps w (allW w) (E a) cs no ∧ Q a
def Ok64 (n : Int) : Prop := -9223372036854775808 ≤ n ∧ n < 9223372036854775808
theorem ok64_of_wf {n : Int} (h : (Lit.int .i64 n).wf = true) : Ok64 n := by
  have := h
  simp [Lit.wf, IntKind.min, IntKind.max, IntKind.signed, IntKind.bits] at this
  unfold Ok64
  omega
theorem reps_one {w : World} {S : Foot} {c : D} {v : Value} (h : Rep w S c v no) : Reps w S [c] [v] no :=
  ⟨v, [], no, no, rfl, le_refl _, le_refl _, no_dis _, h, rfl⟩
theorem opens_int {P : Program} {t : TypeId} (ht : P.underlying t = some (.int .i64)) : Opens P t 1 (fun n : Int => [.sc (.int .i64 n)]) Ok64 := by
  refine ⟨fun _ => rfl, fun enc w base held fuel cs x h => ?_⟩
  obtain ⟨n, rfl, _, hw⟩ := DataW.trod_int ht h
  exact ⟨n, reps_one ⟨rfl, rfl⟩, ok64_of_wf hw⟩
theorem addr_plain {w : World} {a : Addr} {i : Nat} {v : Value} (h : w.cell? (a.add i) = some v) (hi : i = 0) : a.spot = none := by
  subst hi
  simp only [Addr.add, if_true] at h
  unfold World.cell? at h
  split at h
  · split at h
    · cases h
    · rename_i hs; simpa using hs
  · cases h
theorem reps_rows {α : Type} {E : Enc α} {w : World} {S : Foot} : ∀ (l : List α) (vs : List (List Value)), l.length = vs.length → (∀ i (h : i < l.length) (h' : i < vs.length), Reps w S (E.enc l[i]) vs[i] no) → Reps w S (rows E l) vs.flatten no
  | [], [], _, _ => rfl
  | [], _ :: _, h, _ => by simp at h
  | _ :: _, [], h, _ => by simp at h
  | a :: l, v :: vs, h, hr => by
    show Reps w S (E.enc a ++ rows E l) (v ++ vs.flatten) no
    exact Reps.append (hr 0 (by simp) (by simp)) (reps_rows l vs (by simpa using h) fun i h1 h2 => hr (i + 1) (by simpa using h1) (by simpa using h2)) (no_dis _) (le_refl _) (le_refl _)
theorem flat_get {α : Type} {z : Nat} (hz : 0 < z) : ∀ (l : List (List α)), (∀ x ∈ l, x.length = z) → ∀ (i j : Nat), j < z → l.flatten[i * z + j]? = (l[i]?).bind (·[j]?)
  | [], _, i, j, _ => by simp
  | x :: l, h, 0, j, hj => by
    have := h x (by simp)
    simp only [List.flatten_cons, Nat.zero_mul, Nat.zero_add]
    rw [List.getElem?_append_left (by omega)]
    rfl
  | x :: l, h, i + 1, j, hj => by
    have hx := h x (by simp)
    simp only [List.flatten_cons]
    rw [List.getElem?_append_right (by rw [hx, Nat.add_mul]; omega), hx, show (i + 1) * z + j - z = i * z + j by rw [Nat.add_mul]; omega, flat_get hz l (fun y hy => h y (by simp [hy])) i j hj]
    simp
theorem opens_slice {α : Type} {P : Program} {t e : TypeId} {E : Enc α} {Q : α → Prop} (ht : P.underlying t = some (.slice e)) (hs : P.cellsOf e = E.z) (he : Opens P e E.z E.enc Q) :
    Opens P t 1 (fun l : List α => [.sl false E.z (rows E l)]) (fun l => l.length ≤ maxLen ∧ ∀ x ∈ l, Q x) := by
  refine ⟨fun _ => rfl, fun enc w base held fuel cs x h => ?_⟩
  rcases open_slice ht h with ⟨rfl, _⟩ | ⟨a, len, cap, m, n, DD, Pl, rfl, hb, hl, hm, hmm, hx, hi⟩
  · refine ⟨[], reps_one ?_, by simp [maxLen], by simp⟩
    simp only [Rep]
    exact ⟨none, 0, 0, rfl, by simp [rows], E.pos, Nat.le_refl _, .inl ⟨rfl, fun h => by cases h⟩⟩
  · have hlm : len ≤ m := by rw [hmm]; split <;> omega
    have key : ∀ i, i < len → ∃ y cs, Reps w (allW w) (E.enc y) cs no ∧ Q y ∧ cs.length = E.z ∧ ∀ j, j < E.z → w.cell? (a.add (i * E.z + j)) = cs[j]? := by
      intro i hil
      obtain ⟨cs', hc, htr⟩ := hi i (by omega)
      obtain ⟨_, hcl, hat⟩ := World.cells?_some hc
      obtain ⟨y, hy, hq⟩ := he.2 enc w base held n cs' _ htr
      refine ⟨y, cs', hy, hq, by rw [hcl, hs], fun j hj => ?_⟩
      rw [hs] at hat
      rw [← Go.Deep.add_add]
      exact hat j hj
    obtain ⟨L, hL, V, hV, hk⟩ : ∃ L : List α, L.length = len ∧ ∃ V : List (List Value), V.length = len ∧ ∀ i (h1 : i < L.length) (h2 : i < V.length), Reps w (allW w) (E.enc L[i]) V[i] no ∧ Q L[i] ∧ V[i].length = E.z ∧ ∀ j, j < E.z → w.cell? (a.add (i * E.z + j)) = V[i][j]? := by
      refine ⟨List.ofFn fun i : Fin len => (key i.1 i.2).choose, by simp, List.ofFn fun i : Fin len => (key i.1 i.2).choose_spec.choose, by simp, fun i h1 h2 => ?_⟩
      simp only [List.getElem_ofFn]
      simp only [List.length_ofFn] at h1
      exact (key i h1).choose_spec.choose_spec
    have hrep := reps_rows (E := E) (w := w) (S := allW w) L V (by omega) fun i h1 h2 => (hk i h1 h2).1
    have hQ : ∀ x ∈ L, Q x := by
      intro x hx
      obtain ⟨i, h1, rfl⟩ := List.mem_iff_getElem.1 hx
      exact (hk i h1 (by omega)).2.1
    refine ⟨L, reps_one ?_, by rw [hL]; exact Nat.le_trans hl hm, hQ⟩
    simp only [Rep, Bool.false_eq_true, if_false]
    refine ⟨some a, len, cap, rfl, by rw [rows_len, hL], E.pos, hl, ?_⟩
    by_cases hc0 : cap = 0
    · exact .inl ⟨hc0, fun h => by cases h⟩
    have hpos := E.pos
    have hsp : a.spot = none := by
      obtain ⟨cs', hc, _⟩ := hi 0 (by rw [hmm]; simp only [if_true]; omega)
      obtain ⟨_, hcl, hat⟩ := World.cells?_some hc
      have h1 := hat 0 (by omega)
      rw [List.getElem?_eq_getElem (by omega)] at h1
      simp only [Nat.zero_mul, Addr.add, if_true] at h1
      exact addr_plain (w := w) (a := a) (i := 0) (by simpa [Addr.add] using h1) rfl
    obtain ⟨b, off, sp⟩ := a
    simp only at hsp
    subst hsp
    have hadd : ∀ k, (Addr.mk b off none).add k = ⟨b, off + k, none⟩ := by intro k; unfold Addr.add; split <;> simp_all
    by_cases h0 : len = 0
    · refine .inr ⟨b, off, [], no, rfl, fun i v hv => by simp at hv, ?_, ?_, rfl⟩
      · have : L = [] := List.eq_nil_of_length_eq_zero (by omega)
        subst this
        rfl
      · rintro b' o' ⟨_, e1, e2⟩
        rw [rows_len, hL, h0] at e2
        omega
    · refine .inr ?_
      have hVl : ∀ x ∈ V, x.length = E.z := by
        intro x hx
        obtain ⟨i, h1, rfl⟩ := List.mem_iff_getElem.1 hx
        exact (hk i (by omega) h1).2.2.1
      refine ⟨b, off, V.flatten, no, rfl, fun i v hv => ?_, hrep, fun b' o' ⟨e1, e2, e3⟩ => ?_, rfl⟩
      · have hz : i = i / E.z * E.z + i % E.z := by rw [Nat.mul_comm]; exact (Nat.div_add_mod i E.z).symm
        have hj : i % E.z < E.z := Nat.mod_lt _ hpos
        rw [hz, flat_get hpos V hVl _ _ hj] at hv
        obtain ⟨x, h1, h2⟩ := Option.bind_eq_some_iff.1 hv
        obtain ⟨h3, rfl⟩ := List.getElem?_eq_some_iff.1 h1
        have := (hk (i / E.z) (by omega) h3).2.2.2 (i % E.z) hj
        rw [hadd, ← hz, h2] at this
        exact this
      · have h1 := (hk 0 (by omega) (by omega)).2.2.2 0 hpos
        have h2 := (hk 0 (by omega) (by omega)).2.2.1
        rw [List.getElem?_eq_getElem (by omega)] at h1
        have := World.block_lt_of_cell? w _ h1
        rw [hadd] at this
        show b' < _
        rw [e1]
        exact this
/-- Fields one behind the other, from the cell `o` on. -/
def OpensL {α : Type} (P : Program) (fs : List Field) (o z : Nat) (E : α → List D) (Q : α → Prop) : Prop :=
  (∀ a, (E a).length = z) ∧
  ∀ {H : Type} (enc : TypeId × Value → H) (w : World) (base : Nat) (held : Bool) (n : Nat) (cs : List Value),
    (∀ (i : Nat) (f : Field), fs[i]? = some f → ∃ y, DataW.trod enc P w base (fun _ => true) held n f.type ((cs.drop f.offset).take (P.cellsOf f.type)) = some y) → cs.length = o + z → ∃ a, Reps w (allW w) (E a) (cs.drop o) no ∧ Q a
theorem opensL_one {α : Type} {P : Program} {f : Field} {o z : Nat} {E : α → List D} {Q : α → Prop} (ho : f.offset = o) (hs : P.cellsOf f.type = z) (h : Opens P f.type z E Q) : OpensL P [f] o z E Q := by
  refine ⟨h.1, fun enc w base held n cs hf hl => ?_⟩
  obtain ⟨y, hy⟩ := hf 0 f rfl
  obtain ⟨a, ha, hq⟩ := h.2 enc w base held n _ _ hy
  rw [ho, hs, List.take_of_length_le (by simp; omega)] at ha
  exact ⟨a, ha, hq⟩
theorem opensL_cons {α β : Type} {P : Program} {f : Field} {fs : List Field} {o z z' : Nat} {E : α → List D} {Q : α → Prop} {E' : β → List D} {Q' : β → Prop} (ho : f.offset = o) (hs : P.cellsOf f.type = z) (h : Opens P f.type z E Q) (hr : OpensL P fs (o + z) z' E' Q') :
    OpensL P (f :: fs) o (z + z') (fun x : α × β => E x.1 ++ E' x.2) (fun x => Q x.1 ∧ Q' x.2) := by
  refine ⟨fun x => by rw [List.length_append, h.1, hr.1], fun enc w base held n cs hf hl => ?_⟩
  obtain ⟨y, hy⟩ := hf 0 f rfl
  obtain ⟨a, ha, hq⟩ := h.2 enc w base held n _ _ hy
  obtain ⟨b, hb, hq'⟩ := hr.2 enc w base held n cs (fun i g hg => hf (i + 1) g (by simpa using hg)) (by rw [hl]; omega)
  rw [ho, hs] at ha
  refine ⟨(a, b), ?_, hq, hq'⟩
  have := Reps.append ha hb (no_dis _) (le_refl _) (le_refl _)
  rwa [← List.drop_drop, List.take_append_drop] at this
theorem opens_struct {α : Type} {P : Program} {t : TypeId} {fs : Array Field} {z : Nat} {E : α → List D} {Q : α → Prop} (ht : P.underlying t = some (.struct fs)) (hs : P.cellsOf t = z) (h : OpensL P fs.toList 0 z E Q) : Opens P t z E Q := by
  refine ⟨h.1, fun enc w base held fuel cs x hx => ?_⟩
  obtain ⟨xs, n, _, _, hlen, hxl, hf⟩ := DataW.trod_struct ht hx
  have := h.2 enc w base held n cs (fun i f hfi => by
    have hfi' : fs[i]? = some f := by simpa using hfi
    rw [hf i f hfi']
    have hi : i < xs.length := by rw [hxl]; exact (Array.getElem?_eq_some_iff.1 hfi').1
    exact ⟨_, List.getElem?_eq_getElem hi⟩) (by rw [hlen, hs]; omega)
  simpa using this
theorem Opens.via {α β : Type} {P : Program} {t : TypeId} {z : Nat} {E : β → List D} {Q : β → Prop} {E' : α → List D} {Q' : α → Prop} (h : Opens P t z E Q) (g : β → α) (hg : ∀ y, E' (g y) = E y) (hl : ∀ a, (E' a).length = z) (hq : ∀ y, Q y → Q' (g y)) : Opens P t z E' Q' := by
  refine ⟨hl, fun enc w base held fuel cs x hx => ?_⟩
  obtain ⟨a, ha, h2⟩ := h.2 enc w base held fuel cs x hx
  exact ⟨g a, by rw [hg]; exact ha, hq _ h2⟩
section
variable {H : Type} {enc : TypeId × Value → H} {P : Program} {w : World} {base : Nat} {held : Bool} {t : TypeId} {v : Value} {d : DataW H} {p : List MemPlace} {ρ : Env}
theorem arg_one {α : Type} {E : α → D} {Q : α → Prop} (hv : v.cells = #[v]) (h : DataW.Trod enc P w base (fun _ => true) held t v d p) (ho : Opens P t 1 (fun a => [E a]) Q) :
    ∃ a, RepS w (allW w) ρ (.one (.d (E a))) v ∧ Q a := by
  obtain ⟨fuel, hf⟩ := h
  obtain ⟨a, ha, hq⟩ := ho.2 enc w base held fuel _ _ hf
  rw [hv] at ha
  simp only [Reps] at ha
  obtain ⟨v', us, F1, F2, e, _, _, _, h1, rfl⟩ := ha
  cases e
  exact ⟨a, h1.mono (by assumption), hq⟩
end
theorem does_calls {P : Program} {f : Nat} {args : List SV} {vs : Array Value} {w : World} (hd : Does P f args [] (.one (boo true)) []) (ht : Tabs w (allW w)) (ha : RepA w (allW w) (fun _ => none) args vs.toList) :
    Calls P f vs w fun e w' => e = .returned (.bool true) ∧ Below w.heap.size w w' := by
  have := hd vs.toList w (allW w) (fun _ => none) (fun _ => no) ha ⟨fun i gb h => by simp at h, fun _ _ => rfl, fun i j h => by simp at h, fun i h => by simp at h, fun i h => by simp at h, fun b o h => h, ht⟩
  rw [show vs.toList.toArray = vs from rfl] at this
  refine this.mono fun e w' hx => ?_
  obtain ⟨v, S1, ρ', F', he, hr, hv⟩ := hx
  obtain ⟨rfl, _⟩ := hv
  refine ⟨he, hr.keeps.os, hr.keeps.tape, hr.keeps.output, hr.keeps.size, fun k hk => hr.keeps.block k hk fun o ⟨i, hi, _⟩ => by simp at hi⟩
end Go.Proofs.YtbekdojhcokalaaGreatDoor
end
section
set_option linter.unusedVariables false
set_option linter.unusedSimpArgs false
set_option maxRecDepth 100000
namespace Go.Proofs.YtbekdojhcokalaaGreatDoor
open Go Foot Go.ChangeShapes Go.WideShapes Go.ChangeAt Go.RowKit Go.Deep
theorem own : ownKnob Tryz.prog.godebug = none := by kernel_rfl
theorem laidOut : laidOutB Tryz.prog = true := by kernel_rfl
theorem opens_i : Opens Tryz.prog 2 1 (fun n : Int => [.sc (.int .i64 n)]) Ok64 := opens_int Tryz.underlying2
theorem opens_I : Opens Tryz.prog 24 1 (fun l : List Int => [.sl false 1 (rows eI l)]) (fun l => l.length ≤ maxLen ∧ ∀ x ∈ l, Ok64 x) := opens_slice (E := eI) Tryz.underlying24 (by kernel_rfl) opens_i
theorem szL_ge {n : Nat} {l : Int} (hl : l ≤ 1048576) (h : ¬ szL n l < 0) : (n : Int) ≤ l := by
  unfold szL at h; split at h <;> omega
end Go.Proofs.YtbekdojhcokalaaGreatDoor
end
section
set_option linter.unusedVariables false
set_option linter.unusedSimpArgs false
set_option maxRecDepth 100000
namespace Go.Proofs.YtbekdojhcokalaaGreatDoor
open Go Foot Go.ChangeShapes Go.WideShapes Go.ChangeAt Go.RowKit Go.Deep
theorem opens_W : Opens Tryz.prog 43 1 (fun l : List (List Int) => [.sl false 1 (rows eW l)]) (fun l => l.length ≤ maxLen ∧ ∀ x ∈ l, x.length ≤ maxLen ∧ ∀ y ∈ x, Ok64 y) := opens_slice (E := eW) Tryz.underlying43 (by kernel_rfl) opens_I
abbrev PrfOk (p : Prf) : Prop := Ok64 p.k ∧ (p.nu.length ≤ maxLen ∧ ∀ x ∈ p.nu, Ok64 x) ∧ p.wo.length ≤ maxLen ∧ ∀ x ∈ p.wo, x.length ≤ maxLen ∧ ∀ y ∈ x, Ok64 y
theorem opens_proof : Opens Tryz.prog 45 3 (fun p : Prf => [.sc (.int .i64 p.k), .sl false 1 (rows eI p.nu), .sl false 1 (rows eW p.wo)]) PrfOk := by
  have h := opens_struct (P := Tryz.prog) (z := 3) Tryz.underlying45 (by kernel_rfl) (opensL_cons (z := 1) (z' := 2) (o := 0) rfl (by kernel_rfl) opens_i (opensL_cons (z := 1) (z' := 1) (o := 1) rfl (by kernel_rfl) opens_I (opensL_one (z := 1) (o := 2) rfl (by kernel_rfl) opens_W)))
  exact h.via (fun y => ⟨y.1, y.2.1, y.2.2⟩) (fun _ => rfl) (fun _ => rfl) (fun _ h => h)
theorem szW_ge : ∀ {xs : List (List Int)} {l : Int}, 0 ≤ l → l ≤ 1048576 → ¬ szW xs l < 0 → ∀ x ∈ xs, (x.length : Int) ≤ l
  | [], l, _, _, _, x, hx => by cases hx
  | y :: xs, l, h0, hl, h, x, hx => by
    unfold szW at h
    split at h
    · omega
    · rename_i h1
      have h2 := szL_ge hl h1
      have h3 := szL_le (n := y.length) hl
      rcases List.mem_cons.1 hx with rfl | hx
      · exact h2
      · have h5 := szW_ge (by omega) h3 h x hx
        unfold szL at h5 h1
        split at h5 <;> simp_all <;> omega
theorem szWW_ge {xs : List (List Int)} {l : Int} (h0 : 0 ≤ l) (hl : l ≤ 1048576) (h : ¬ szWW xs l < 0) : (xs.length : Int) ≤ l ∧ ∀ x ∈ xs, (x.length : Int) ≤ l := by
  unfold szWW at h
  split at h
  · omega
  · rename_i h1
    refine ⟨by omega, fun x hx => ?_⟩
    have := szW_ge (by omega) (by omega) h x hx
    omega
theorem szP_ge {p : Prf} {l : Int} (h0 : 0 ≤ l) (hl : l ≤ 1048576) (h : ¬ szP p l < 0) : (p.nu.length : Int) ≤ l ∧ (p.wo.length : Int) ≤ l ∧ ∀ x ∈ p.wo, (x.length : Int) ≤ l := by
  unfold szP at h
  split at h
  · omega
  · rename_i h1
    have h2 := szL_ge hl h1
    have h3 : szL p.nu.length l ≤ l := by unfold szL; split <;> omega
    have h4 := szWW_ge (by omega) (by omega) h
    exact ⟨h2, by omega, fun x hx => by have := h4.2 x hx; omega⟩
end Go.Proofs.YtbekdojhcokalaaGreatDoor
end
section
set_option linter.unusedVariables false
set_option linter.unusedSimpArgs false
set_option maxRecDepth 100000
namespace Go.Proofs.YtbekdojhcokalaaGreatDoor
open Go Foot Go.ChangeShapes Go.WideShapes Go.ChangeAt Go.RowKit Go.Deep
abbrev RuleOk (r : Rule') : Prop := Ok64 r.w ∧ Ok64 r.m ∧ Ok64 r.n
theorem opens_rule : Opens Tryz.prog 198 3 eR.enc RuleOk := by
  have h := opens_struct (P := Tryz.prog) (z := 3) Tryz.underlying198 (by kernel_rfl) (opensL_cons (z := 1) (z' := 2) (o := 0) rfl (by kernel_rfl) opens_i (opensL_cons (z := 1) (z' := 1) (o := 1) rfl (by kernel_rfl) opens_i (opensL_one (z := 1) (o := 2) rfl (by kernel_rfl) opens_i)))
  exact h.via (fun y => ⟨y.1, y.2.1, y.2.2⟩) (fun _ => rfl) (fun _ => rfl) (fun _ h => h)
theorem opens_rules : Opens Tryz.prog 40 1 (fun l : List Rule' => [.sl false 3 (rows eR l)]) (fun l => l.length ≤ maxLen ∧ ∀ x ∈ l, RuleOk x) := opens_slice (E := eR) Tryz.underlying40 (by kernel_rfl) opens_rule
abbrev MachOk (m : Mach) : Prop := Ok64 m.sy ∧ Ok64 m.st ∧ m.ru.length ≤ maxLen ∧ ∀ x ∈ m.ru, RuleOk x
theorem opens_machine : Opens Tryz.prog 42 3 (fun m : Mach => [.sc (.int .i64 m.sy), .sc (.int .i64 m.st), .sl false 3 (rows eR m.ru)]) MachOk := by
  have h := opens_struct (P := Tryz.prog) (z := 3) Tryz.underlying42 (by kernel_rfl) (opensL_cons (z := 1) (z' := 2) (o := 0) rfl (by kernel_rfl) opens_i (opensL_cons (z := 1) (z' := 1) (o := 1) rfl (by kernel_rfl) opens_i (opensL_one (z := 1) (o := 2) rfl (by kernel_rfl) opens_rules)))
  exact h.via (fun y => ⟨y.1, y.2.1, y.2.2⟩) (fun _ => rfl) (fun _ => rfl) (fun _ h => h)
end Go.Proofs.YtbekdojhcokalaaGreatDoor
end
section
set_option linter.unusedVariables false
set_option linter.unusedSimpArgs false
set_option maxRecDepth 100000
namespace Go.Proofs.YtbekdojhcokalaaGreatDoor
open Go Foot Go.ChangeShapes Go.WideShapes Go.ChangeAt Go.RowKit Go.Deep
abbrev VerdOk (v : Verd) : Prop := MachOk v.m ∧ PrfOk v.p
theorem opens_verdict : Opens Tryz.prog 85 6 eV.enc VerdOk := by
  have h := opens_struct (P := Tryz.prog) (z := 6) Tryz.underlying85 (by kernel_rfl) (opensL_cons (z := 3) (z' := 3) (o := 0) rfl (by kernel_rfl) opens_machine (opensL_one (z := 3) (o := 3) rfl (by kernel_rfl) opens_proof))
  exact h.via (fun y => ⟨y.1, y.2⟩) (fun _ => rfl) (fun _ => rfl) (fun _ h => h)
theorem opens_verdicts : Opens Tryz.prog 22 1 (fun l : List Verd => [.sl false 6 (rows eV l)]) (fun l => l.length ≤ maxLen ∧ ∀ x ∈ l, VerdOk x) := opens_slice (E := eV) Tryz.underlying22 (by kernel_rfl) opens_verdict
end Go.Proofs.YtbekdojhcokalaaGreatDoor
end
section
set_option linter.unusedVariables false
set_option linter.unusedSimpArgs false
set_option maxRecDepth 100000
set_option maxHeartbeats 4000000
namespace Go.Proofs.YtbekdojhcokalaaGreatDoor
open Go Foot
/-- Verdicts whose slices have lengths. -/
structure LenOk (v : Verd) : Prop where
  a : (v.m.ru.length : Int) ≤ 9223372036854775807
  b : (v.p.nu.length : Int) ≤ 9223372036854775807
  c : (v.p.wo.length : Int) ≤ 9223372036854775807
  d : ∀ x ∈ v.p.wo, (x.length : Int) ≤ 9223372036854775807
theorem verd_len {v : Verd} (h : VerdOk v) : LenOk v := by
  obtain ⟨⟨_, _, h1, _⟩, _, ⟨h2, _⟩, h3, h4⟩ := h
  exact ⟨by unfold maxLen at h1; omega, by unfold maxLen at h2; omega, by unfold maxLen at h3; omega, fun x hx => by have := (h4 x hx).1; unfold maxLen at this; omega⟩
@[irreducible] def szV (v : Verd) (left : Int) : Int := if szL v.m.ru.length left < 0 then -1 else szP v.p (szL v.m.ru.length left)
theorem szP_neg {p : Prf} {l : Int} (h : szP p l < 0) : szP p l = -1 := by
  unfold szP at h ⊢
  split at h
  · rename_i e; rw [if_pos e]
  · rename_i e; rw [if_neg e]; exact szWW_neg h
theorem preD5 {p : Prop} (h : p := by first | with_reducible assumption | omega | (simp only [List.length_append, List.length_cons, List.length_nil, List.length_set, List.length_replicate, List.length_take, List.length_drop, List.length_tail, List.length_dropLast, List.length_reverse] at *; omega) | exact mem_len (by assumption) (by omega) | (with_reducible refine Int.le_trans (Int.ofNat_le.2 (trimR_len _)) ?_; simp only [List.length_cons, List.length_tail]; omega) | (exact (ruAt_ok (by assumption) (by assumption) (by assumption)).2.1) | (exact (ruAt_ok (by assumption) (by assumption) (by assumption)).2.1) | (have := vMach_bd (by assumption); omega) | (simp only [mC_ch, mC_tu]; omega) | (have := vTag_bd (by assumption); omega) | (have := (‹Gd _ _›).le; omega) | (exact tgHalts_no (by assumption)) | (exact tgHead (by assumption) (by assumption) (by assumption)) | (exact Int.le_trans (tgStep_gd (by assumption) (by assumption) (by assumption) (by assumption)).le (by decide)) | (exact vTag_r (by assumption)) | (with_reducible refine Int.le_trans (Int.ofNat_le.2 (pushL_len _ _)) ?_; simp only [List.length_dropLast]; omega) | exact ls_at (by assumption) (by omega) | exact (ask_ok (by assumption)).1 | exact (ask_ok (by assumption)).2.1 | exact (ask_ok (by assumption)).2.2.1 | exact (ask_ok (by assumption)).2.2.2 | (simp only [marks_len]; omega) | (simp only [marksR_len]; omega) | trivial) : p := h
theorem szVerdict_ok (v : Verd) (left : Int) (h1 : left ≤ 1048576) (h2 : 0 ≤ left) (g : LenOk v) : Does Tryz.prog 52 [.agg (veC v), .one (int left)] [] (.one (int (szV v left))) [] := by
  obtain ⟨g1, g2, g3, g4⟩ := g
  have h3 := szL_le (n := v.m.ru.length) h1
  refine does_of (k := 0) Tryz.func52 rfl Tryz.ntmps52 rfl rfl fun w F0 S0 ρ0 => ?_
  dsimp only [argT, argH]
  repeat' first | (apply n3; exact a_new (gb := .bx _) rfl; exact rfl; refine dA ?_) | (apply p3; (first | exact pu1 | exact puL | exact puC); exact rfl) | refine cd ?_ | (apply c4 0; exact callK1 (θ := []) (hD := (szMachine_ok _ _ preD5 preD5 preD5)); exact rfl; exact rfl; exact rfl; refine dM ?_) | (apply c4 0; exact callK1 (θ := []) (hD := (szProof_ok _ _ preD5 preD5 preD5 preD5 preD5)); exact rfl; exact rfl; exact rfl; refine dM ?_) | ((first | refine o_gs rfl rfl (fun hc => ?_) (fun hc => ?_) | refine g_cond rfl (fun hc => ?_) (fun hc => ?_)) <;> (try simp only [dcB] at hc) <;> (try first | contradiction | (exfalso; omega)))
  · repeat refine cr ?_
    refine ends_id ?_
    refine endK [] (h2 := ?_) (h3 := ?_) (nd := ?_)
    all_goals (repeat' first | exact ce0 | refine ce ?_ | refine ce2 ?_ ?_ | exact SVLe.refl | refine ceb ?_)
    all_goals first | exact (show nodupB _ = true from rfl) | exact Or.inr rfl | ((unfold szV; simp [*]))
  · repeat refine cr ?_
    refine ends_id ?_
    refine endK [] (h2 := ?_) (h3 := ?_) (nd := ?_)
    all_goals (repeat' first | exact ce0 | refine ce ?_ | refine ce2 ?_ ?_ | exact SVLe.refl | refine ceb ?_)
    all_goals first | exact (show nodupB _ = true from rfl) | exact Or.inr rfl | ((rw [szV, if_neg (by assumption)]; exact (szP_neg (by assumption)).symm))
  · repeat refine cr ?_
    refine ends_id ?_
    refine endK [] (h2 := ?_) (h3 := ?_) (nd := ?_)
    all_goals (repeat' first | exact ce0 | refine ce ?_ | refine ce2 ?_ ?_ | exact SVLe.refl | refine ceb ?_)
    all_goals first | exact (show nodupB _ = true from rfl) | exact Or.inr rfl | ((unfold szV; simp [*]))
theorem szV_ge {v : Verd} {l : Int} (h0 : 0 ≤ l) (hl : l ≤ 1048576) (h : ¬ szV v l < 0) : (v.m.ru.length : Int) ≤ 1048576 ∧ (v.p.nu.length : Int) ≤ 1048576 ∧ (v.p.wo.length : Int) ≤ 1048576 ∧ ∀ x ∈ v.p.wo, (x.length : Int) ≤ 1048576 := by
  unfold szV at h
  split at h
  · omega
  · rename_i h1
    have h2 := szL_ge hl h1
    have h3 := szL_le (n := v.m.ru.length) hl
    have h4 := szP_ge (by omega) h3 h
    exact ⟨by omega, by omega, by omega, fun x hx => by have := h4.2.2 x hx; omega⟩
/-- Verdicts that are small enough. -/
structure BigOk (v : Verd) : Prop where
  a : (v.m.ru.length : Int) ≤ 1048576
  b : (v.p.nu.length : Int) ≤ 1048576
  c : (v.p.wo.length : Int) ≤ 1048576
  d : ∀ x ∈ v.p.wo, (x.length : Int) ≤ 1048576
theorem big_gd {v : Verd} (g : BigOk v) : VeGd v := ⟨by have := g.a; omega, by have := g.b; omega, by have := g.c; omega, fun x hx => by have := g.d x hx; omega⟩
@[irreducible] def eqV (a b : Verd) : Bool := eqM a.m b.m && eqP a.p b.p
theorem eqVerdict_ok (a b : Verd) (g : BigOk a) (k : BigOk b) : Does Tryz.prog 56 [.agg (veC a), .agg (veC b)] [] (.one (boo (eqV a b))) [] := by
  obtain ⟨g1, g2, g3, g4⟩ := g
  obtain ⟨k1, k2, k3, k4⟩ := k
  refine does_of (k := 0) Tryz.func56 rfl Tryz.ntmps56 rfl rfl fun w F0 S0 ρ0 => ?_
  dsimp only [argT, argH]
  repeat' first | (apply n3; exact a_new (gb := .bx _) rfl; exact rfl; refine dA ?_) | (apply p3; (first | exact a_fa_immT 3 (T := 88) (f := 0) (off := 0) rfl (by kernel_rfl) rfl | exact a_fa_immT 3 (T := 88) (f := 1) (off := 3) rfl (by kernel_rfl) rfl | exact puL); exact rfl) | refine cd ?_ | (apply c4 0; exact callK1 (θ := []) (hD := (eqMachine_ok _ _ preD5 preD5)); exact rfl; exact rfl; exact rfl; refine dM ?_) | (apply c4 0; exact callK1 (θ := []) (hD := (eqProof_ok _ _ preD5 preD5 preD5 preD5 preD5 preD5)); exact rfl; exact rfl; exact rfl; refine dM ?_) | ((first | refine o_gs rfl rfl (fun hc => ?_) (fun hc => ?_) | refine g_cond rfl (fun hc => ?_) (fun hc => ?_)) <;> (try simp only [dcB] at hc) <;> (try first | contradiction | (exfalso; omega)))
  all_goals
    repeat refine cr ?_
    refine ends_id ?_
    refine endK [] (h2 := ?_) (h3 := ?_) (nd := ?_)
    all_goals (repeat' first | exact ce0 | refine ce ?_ | refine ce2 ?_ ?_ | exact SVLe.refl | refine ceb ?_)
    all_goals first | exact (show nodupB _ = true from rfl) | exact Or.inr rfl | ((unfold eqV; simp [*]))
end Go.Proofs.YtbekdojhcokalaaGreatDoor
end
section
set_option linter.unusedVariables false
set_option linter.unusedSimpArgs false
set_option maxRecDepth 100000
set_option maxHeartbeats 4000000
namespace Go.Proofs.YtbekdojhcokalaaGreatDoor
open Go Foot
theorem szP_le {p : Prf} {l : Int} (h : l ≤ 1048576) : szP p l ≤ 1048576 := by
  unfold szP
  split
  · omega
  · have h1 := szL_le (n := p.nu.length) h
    have : ∀ (xs : List (List Int)) (k : Int), k ≤ 1048576 → szW xs k ≤ 1048576 := by
      intro xs
      induction xs with
      | nil => intro k hk; unfold szW; exact hk
      | cons x xs ih =>
        intro k hk
        unfold szW
        split
        · omega
        · exact ih _ (szL_le hk)
    unfold szWW
    split
    · omega
    · exact this _ _ (by omega)
theorem szV_le {v : Verd} {l : Int} (h : l ≤ 1048576) : szV v l ≤ 1048576 := by
  unfold szV
  split
  · omega
  · exact szP_le (szL_le h)
/-- What is left behind lists of verdicts. -/
@[irreducible] def szVl : List Verd → Int → Int
  | [], l => l
  | x :: xs, l => if szV x l < 0 then -1 else szVl xs (szV x l)
theorem szVl_step {xs : List Verd} {i l : Int} (h0 : 0 ≤ i) (h : i.toNat < xs.length) : szVl (xs.drop i.toNat) l = if szV (xs[i.toNat]) l < 0 then -1 else szVl (xs.drop (i + 1).toNat) (szV (xs[i.toNat]) l) := by
  rw [List.drop_eq_getElem_cons h, show (i + 1).toNat = i.toNat + 1 by omega]
  conv => lhs; unfold szVl
@[irreducible] def szVs (xs : List Verd) (left : Int) : Int := if left - xs.length < 0 then -1 else szVl xs (left - xs.length)
/-- Lists of verdicts whose slices have lengths. -/
structure LnsOk (l : List Verd) : Prop where
  n : (l.length : Int) ≤ 9223372036854775807
  a : ∀ v ∈ l, LenOk v
theorem lns_at {l : List Verd} (g : LnsOk l) {i : Nat} (h : i < l.length) : LenOk l[i] := g.a _ (List.getElem_mem h)
theorem preD6 {p : Prop} (h : p := by first | with_reducible assumption | omega | (simp only [List.length_append, List.length_cons, List.length_nil, List.length_set, List.length_replicate, List.length_take, List.length_drop, List.length_tail, List.length_dropLast, List.length_reverse] at *; omega) | exact mem_len (by assumption) (by omega) | (with_reducible refine Int.le_trans (Int.ofNat_le.2 (trimR_len _)) ?_; simp only [List.length_cons, List.length_tail]; omega) | (exact (ruAt_ok (by assumption) (by assumption) (by assumption)).2.1) | (exact (ruAt_ok (by assumption) (by assumption) (by assumption)).2.1) | (have := vMach_bd (by assumption); omega) | (simp only [mC_ch, mC_tu]; omega) | (have := vTag_bd (by assumption); omega) | (have := (‹Gd _ _›).le; omega) | (exact tgHalts_no (by assumption)) | (exact tgHead (by assumption) (by assumption) (by assumption)) | (exact Int.le_trans (tgStep_gd (by assumption) (by assumption) (by assumption) (by assumption)).le (by decide)) | (exact vTag_r (by assumption)) | (with_reducible refine Int.le_trans (Int.ofNat_le.2 (pushL_len _ _)) ?_; simp only [List.length_dropLast]; omega) | exact ls_at (by assumption) (by omega) | exact (ask_ok (by assumption)).1 | exact (ask_ok (by assumption)).2.1 | exact (ask_ok (by assumption)).2.2.1 | exact (ask_ok (by assumption)).2.2.2 | (simp only [marks_len]; omega) | (simp only [marksR_len]; omega) | exact lns_at (by assumption) (by omega) | trivial) : p := h
theorem szVerdictS_ok (xs : List Verd) (left : Int) (h1 : left ≤ 1048576) (h2 : 0 ≤ left) (g : LnsOk xs) : Does Tryz.prog 11 [.one (shV xs), .one (int left)] [] (.one (int (szVs xs left))) [] := by
  have hx := g.n
  refine does_of (k := 0) Tryz.func11 rfl Tryz.ntmps11 rfl rfl fun w F0 S0 ρ0 => ?_
  dsimp only [argT, argH]
  repeat' first | (apply p3; (first | exact pu1 | exact puL | exact puN | exact a_len_str rfl (fT rfl) | exact a_sub rfl rfl (by omega) (by omega) | exact puC | exact a_add rfl rfl (by omega) (by omega) | exact puI); exact rfl) | refine cd ?_ | (apply c4 0; exact callK1 (θ := []) (hD := (szVerdict_ok _ _ preD6 preD6 preD6)); exact rfl; exact rfl; exact rfl; refine dM ?_) | ((first | refine o_gs rfl rfl (fun hc => ?_) (fun hc => ?_) | refine g_cond rfl (fun hc => ?_) (fun hc => ?_)) <;> (try simp only [dcB] at hc) <;> (try first | contradiction | (exfalso; omega)))
  · repeat refine cr ?_
    refine ends_id ?_
    refine endK [] (h2 := ?_) (h3 := ?_) (nd := ?_)
    all_goals (repeat' first | exact ce0 | refine ce ?_ | refine ce2 ?_ ?_ | exact SVLe.refl | refine ceb ?_)
    all_goals first | exact (show nodupB _ = true from rfl) | exact Or.inr rfl | ((unfold szVs; simp [*]))
  · have e0 : szVs xs left = szVl xs (left - xs.length) := by unfold szVs; rw [if_neg hc]
    refine g_loop_id ?_
    refine loopK [0, 4] [] (fun y : Int × Int => 0 ≤ y.1 ∧ y.1 ≤ xs.length ∧ 0 ≤ y.2 ∧ y.2 ≤ 1048576 ∧ szVl (xs.drop y.1.toNat) y.2 = szVs xs left) (fun y => [(5, .one (int y.1)), (1, .one (int y.2))]) (fun _ => []) (fun y => (xs.length - y.1).toNat) ((0 : Int), left - xs.length) [] (hI := ?_) (hr := ?_)
    · exact ⟨by simp, by simp, by dsimp only; omega, by dsimp only; omega, by rw [e0]; rfl⟩
    · rintro ⟨i, l⟩ ⟨k1, k2, k3, k4, k5⟩
      dsimp only [List.cons_append, List.nil_append] at *
      skip
      repeat' first | (apply p3; (first | exact pu1 | exact puL | exact puN | exact a_len_str rfl (fT rfl) | exact puC | exact a_add rfl rfl (by omega) (by omega) | exact puI); exact rfl) | refine cd ?_ | (apply c4 0; exact callK1 (θ := []) (hD := (szVerdict_ok _ _ preD6 preD6 preD6)); exact rfl; exact rfl; exact rfl; refine dM ?_) | ((first | refine o_gs rfl rfl (fun hc => ?_) (fun hc => ?_) | refine g_cond rfl (fun hc => ?_) (fun hc => ?_)) <;> (try simp only [dcB] at hc) <;> (try first | contradiction | (exfalso; omega)))
      · rw [szVl_step k1 (by omega), if_pos hc] at k5
        repeat refine cr ?_
        refine ends_id ?_
        refine endK [] (h2 := ?_) (h3 := ?_) (nd := ?_)
        all_goals (repeat' first | exact ce0 | refine ce ?_ | refine ce2 ?_ ?_ | exact SVLe.refl | refine ceb ?_)
        all_goals first | exact (show nodupB _ = true from rfl) | exact Or.inr rfl | (exact k5)
      · rw [szVl_step k1 (by omega), if_neg hc] at k5
        have := szV_le (v := xs[i.toNat]'(by omega)) k4
        refine q_again (i + 1, _) [] (by exact stk) ?_ ?_
        · exact ⟨by dsimp only; omega, by dsimp only; omega, by dsimp only; omega, by dsimp only; omega, k5⟩
        · dsimp only; omega
      · rw [List.drop_eq_nil_of_le (by omega)] at k5
        unfold szVl at k5
        repeat refine cr ?_
        refine ends_id ?_
        refine endK [] (h2 := ?_) (h3 := ?_) (nd := ?_)
        all_goals (repeat' first | exact ce0 | refine ce ?_ | refine ce2 ?_ ?_ | exact SVLe.refl | refine ceb ?_)
        all_goals first | exact (show nodupB _ = true from rfl) | exact Or.inr rfl | (exact k5)
structure BgsOk (l : List Verd) : Prop where
  n : (l.length : Int) ≤ 1048576
  a : ∀ v ∈ l, BigOk v
theorem bgs_at {l : List Verd} (g : BgsOk l) {i : Nat} (h : i < l.length) : BigOk l[i] := g.a _ (List.getElem_mem h)
theorem szVl_ge : ∀ {xs : List Verd} {l : Int}, 0 ≤ l → l ≤ 1048576 → ¬ szVl xs l < 0 → ∀ x ∈ xs, BigOk x
  | [], l, _, _, _, x, hx => by cases hx
  | y :: xs, l, h0, hl, h, x, hx => by
    unfold szVl at h
    split at h
    · omega
    · rename_i h1
      rcases List.mem_cons.1 hx with rfl | hx
      · obtain ⟨g1, g2, g3, g4⟩ := szV_ge h0 hl h1
        exact ⟨g1, g2, g3, g4⟩
      · exact szVl_ge (by omega) (szV_le hl) h x hx
theorem szVs_ge {xs : List Verd} (h : ¬ szVs xs 1048576 < 0) : BgsOk xs := by
  unfold szVs at h
  split at h
  · omega
  · rename_i h1
    exact ⟨by omega, szVl_ge (by omega) (by omega) h⟩
theorem bgs_ls {l : List Verd} (g : BgsOk l) : LsGd l := ⟨by have := g.n; omega, fun v hv => big_gd (g.a v hv)⟩
theorem verds_len {l : List Verd} (h : l.length ≤ maxLen ∧ ∀ x ∈ l, VerdOk x) : LnsOk l := ⟨by have := h.1; unfold maxLen at this; omega, fun v hv => verd_len (h.2 v hv)⟩
abbrev eVo : Enc (Option Verd) := ⟨6, fun o => match o with | none => [.sc (.int .i64 0), .sc (.int .i64 0), .sc (.slice none 0 0), .sc (.int .i64 0), .sc (.slice none 0 0), .sc (.slice none 0 0)] | some v => [.sc (.int .i64 v.m.sy), .sc (.int .i64 v.m.st), .sl false 3 (rows eR v.m.ru), .sc (.int .i64 v.p.k), .sl false 1 (rows eI v.p.nu), .sl false 1 (rows eW v.p.wo)], fun o => by cases o <;> rfl, by decide⟩
theorem preD6_2 {p : Prop} (h : p := by first | with_reducible assumption | omega | (simp only [List.length_append, List.length_cons, List.length_nil, List.length_set, List.length_replicate, List.length_take, List.length_drop, List.length_tail, List.length_dropLast, List.length_reverse] at *; omega) | exact mem_len (by assumption) (by omega) | (with_reducible refine Int.le_trans (Int.ofNat_le.2 (trimR_len _)) ?_; simp only [List.length_cons, List.length_tail]; omega) | (exact (ruAt_ok (by assumption) (by assumption) (by assumption)).2.1) | (exact (ruAt_ok (by assumption) (by assumption) (by assumption)).2.1) | (have := vMach_bd (by assumption); omega) | (simp only [mC_ch, mC_tu]; omega) | (have := vTag_bd (by assumption); omega) | (have := (‹Gd _ _›).le; omega) | (exact tgHalts_no (by assumption)) | (exact tgHead (by assumption) (by assumption) (by assumption)) | (exact Int.le_trans (tgStep_gd (by assumption) (by assumption) (by assumption) (by assumption)).le (by decide)) | (exact vTag_r (by assumption)) | (with_reducible refine Int.le_trans (Int.ofNat_le.2 (pushL_len _ _)) ?_; simp only [List.length_dropLast]; omega) | exact ls_at (by assumption) (by omega) | exact (ask_ok (by assumption)).1 | exact (ask_ok (by assumption)).2.1 | exact (ask_ok (by assumption)).2.2.1 | exact (ask_ok (by assumption)).2.2.2 | (simp only [marks_len]; omega) | (simp only [marksR_len]; omega) | exact lns_at (by assumption) (by omega) | exact bgs_at (by assumption) (by omega) | trivial) : p := h
theorem eqV_iff {a b : Verd} : eqV a b = true ↔ a = b := by
  obtain ⟨⟨a1, a2, a3⟩, ⟨a4, a5, a6⟩⟩ := a
  obtain ⟨⟨b1, b2, b3⟩, ⟨b4, b5, b6⟩⟩ := b
  unfold eqV eqM eqP
  simp only [Bool.and_eq_true, decide_eq_true_eq, Verd.mk.injEq, Mach.mk.injEq, Prf.mk.injEq]
theorem eqVerdictSs_ok (xs : List Verd) (g : BgsOk xs) : Does Tryz.prog 16 [.one (shV xs), .one (shV xs)] [] (.one (boo true)) [] := by
  have hx := g.n
  have hq : ∀ v : Verd, ¬ eqV v v = false := fun v h => by rw [eqV_iff.2 rfl] at h; cases h
  refine does_of (k := 0) Tryz.func16 rfl Tryz.ntmps16 rfl rfl fun w F0 S0 ρ0 => ?_
  dsimp only [argT, argH]
  repeat' first | (apply p3; (first | exact pu1 | exact puN | exact a_len_str rfl (fT rfl) | exact a_ne rfl rfl | exact a_neS rfl rfl rfl | exact puC | exact a_add rfl rfl (by omega) (by omega)); exact rfl) | refine cd ?_ | (apply g_drN (id := 6) okM [[],[],[0,1],[0,1,2],[],[],[4,5],[4,5,6],[0,1,2,3,4,5,6,7],[0,1,2,3,4,5,6,7,8]] [([],[]),([],[]),([],[]),([],[]),([],[]),([],[]),([],[]),([],[]),([],[]),([],[])] 0; (focus (refine dp 0 0 [18, 21, 22, 23, 24] [] pu1 ?_; refine dp 1 0 [17, 21, 22, 23, 24] [] pu1 ?_; refine dp 2 3 [21, 22, 23, 24] [] puI ?_; refine dp 3 7 [21, 22, 23, 24] [] puL ?_; refine dp 4 0 [17, 18, 19, 20, 22] [] pu1 ?_; refine dp 5 0 [17, 18, 19, 20, 21] [] pu1 ?_; refine dp 6 3 [17, 18, 19, 20] [] puI ?_; refine dp 7 7 [17, 18, 19, 20] [] puL ?_; refine dp 8 255 [] [] (callD1 (n := _) 0 (θ := []) (hD := (eqVerdict_ok _ _ preD6_2 preD6_2))) ?_; refine dp 9 511 [] [] (a_pure (sv := .one _) rfl) ?_; (refine d_nil ?_; refine dN ?_))); any_goals kernel_rfl) | ((first | refine o_gs rfl rfl (fun hc => ?_) (fun hc => ?_) | refine g_cond rfl (fun hc => ?_) (fun hc => ?_)) <;> (try simp only [dcB] at hc) <;> (try first | contradiction | (exfalso; omega)))
  refine g_loop_id ?_
  refine loopK [0, 1, 4] [] (fun i : Int => 0 ≤ i ∧ i ≤ xs.length) (fun i => [(5, .one (int i))]) (fun _ => []) (fun i => (xs.length - i).toNat) (0 : Int) [] (hI := ?_) (hr := ?_)
  · exact ⟨by simp, by simp⟩
  · rintro i ⟨h0, h1⟩
    dsimp only [List.cons_append, List.nil_append] at *
    skip
    repeat' first | (apply p3; (first | exact pu1 | exact puN | exact a_len_str rfl (fT rfl) | exact puC); exact rfl) | refine cdn ?_ | refine g_reg (id := 4) ?_ | refine g_reg (id := 8) ?_ | ((first | refine o_gs rfl rfl (fun hc => ?_) (fun hc => ?_) | refine g_cond rfl (fun hc => ?_) (fun hc => ?_)) <;> (try simp only [dcB] at hc) <;> (try first | contradiction | (exfalso; omega)))
    · have hq2 := hq (xs[i.toNat]'(by omega))
      repeat' first | (apply p3; (first | exact pu1 | exact puN | exact a_len_str rfl (fT rfl) | exact puC | exact a_add rfl rfl (by omega) (by omega)); exact rfl) | refine cd ?_ | (apply g_drN (id := 6) okM [[],[],[0,1],[0,1,2],[],[],[4,5],[4,5,6],[0,1,2,3,4,5,6,7],[0,1,2,3,4,5,6,7,8]] [([],[]),([],[]),([],[]),([],[]),([],[]),([],[]),([],[]),([],[]),([],[]),([],[])] 0; (focus (refine dp 0 0 [18, 21, 22, 23, 24] [] pu1 ?_; refine dp 1 0 [17, 21, 22, 23, 24] [] pu1 ?_; refine dp 2 3 [21, 22, 23, 24] [] puI ?_; refine dp 3 7 [21, 22, 23, 24] [] puL ?_; refine dp 4 0 [17, 18, 19, 20, 22] [] pu1 ?_; refine dp 5 0 [17, 18, 19, 20, 21] [] pu1 ?_; refine dp 6 3 [17, 18, 19, 20] [] puI ?_; refine dp 7 7 [17, 18, 19, 20] [] puL ?_; refine dp 8 255 [] [] (callD1 (n := _) 0 (θ := []) (hD := (eqVerdict_ok _ _ preD6_2 preD6_2))) ?_; refine dp 9 511 [] [] (a_pure (sv := .one _) rfl) ?_; (refine d_nil ?_; refine dN ?_))); any_goals kernel_rfl) | ((first | refine o_gs rfl rfl (fun hc => ?_) (fun hc => ?_) | refine g_cond rfl (fun hc => ?_) (fun hc => ?_)) <;> (try simp only [dcB] at hc) <;> (try first | contradiction | (exfalso; omega)))
      refine q_again (i + 1) [] (by exact stk) ?_ ?_
      · exact ⟨by omega, by omega⟩
      · omega
    · repeat' first | (apply p3; (first | exact pu1 | exact puN | exact a_len_str rfl (fT rfl) | exact puC | exact a_add rfl rfl (by omega) (by omega)); exact rfl) | refine cd ?_ | (apply g_drN (id := 6) okM [[],[],[0,1],[0,1,2],[],[],[4,5],[4,5,6],[0,1,2,3,4,5,6,7],[0,1,2,3,4,5,6,7,8]] [([],[]),([],[]),([],[]),([],[]),([],[]),([],[]),([],[]),([],[]),([],[]),([],[])] 0; (focus (refine dp 0 0 [18, 21, 22, 23, 24] [] pu1 ?_; refine dp 1 0 [17, 21, 22, 23, 24] [] pu1 ?_; refine dp 2 3 [21, 22, 23, 24] [] puI ?_; refine dp 3 7 [21, 22, 23, 24] [] puL ?_; refine dp 4 0 [17, 18, 19, 20, 22] [] pu1 ?_; refine dp 5 0 [17, 18, 19, 20, 21] [] pu1 ?_; refine dp 6 3 [17, 18, 19, 20] [] puI ?_; refine dp 7 7 [17, 18, 19, 20] [] puL ?_; refine dp 8 255 [] [] (callD1 (n := _) 0 (θ := []) (hD := (eqVerdict_ok _ _ preD6_2 preD6_2))) ?_; refine dp 9 511 [] [] (a_pure (sv := .one _) rfl) ?_; (refine d_nil ?_; refine dN ?_))); any_goals kernel_rfl) | ((first | refine o_gs rfl rfl (fun hc => ?_) (fun hc => ?_) | refine g_cond rfl (fun hc => ?_) (fun hc => ?_)) <;> (try simp only [dcB] at hc) <;> (try first | contradiction | (exfalso; omega)))
      repeat refine cr ?_
      refine ends_id ?_
      refine endK [] (h2 := ?_) (h3 := ?_) (nd := ?_)
      all_goals (repeat' first | exact ce0 | refine ce ?_ | refine ce2 ?_ ?_ | exact SVLe.refl | refine ceb ?_)
      all_goals first | exact (show nodupB _ = true from rfl) | exact Or.inr rfl | (rfl)
end Go.Proofs.YtbekdojhcokalaaGreatDoor
end
section
set_option linter.unusedVariables false
set_option linter.unusedSimpArgs false
set_option maxRecDepth 100000
set_option maxHeartbeats 4000000
namespace Go.Proofs.YtbekdojhcokalaaGreatDoor
open Go Foot
/-- Numbers one behind the other. -/
@[irreducible] def marks (k : Int) (n : Nat) : List Int := (List.range n).map fun (i : Nat) => k + (i : Int)
theorem marks_len (k : Int) (n : Nat) : (marks k n).length = n := by unfold marks; simp
theorem marks_get (k : Int) (n i : Nat) (h : i < n) : (marks k n)[i]? = some (k + i) := by unfold marks; simp [h]
theorem mark_end {k : Int} {xs l : List Int} (h1 : l.length = xs.length) (h2 : ∀ j (h : j < xs.length), l[j]? = some (k + j)) : l = marks k xs.length := by
  apply List.ext_getElem?
  intro j
  by_cases hj : j < xs.length
  · rw [marks_get k _ j hj, h2 j hj]
  · rw [List.getElem?_eq_none (by omega), List.getElem?_eq_none (by rw [marks_len]; omega)]
theorem markInt64S_ok (xs : List Int) (k : Int) (h1 : 0 ≤ k) (h2 : k ≤ 4611686018427387904) (hx : (xs.length : Int) ≤ 4611686018427) : Does Tryz.prog 18 [.one (.gv 0), .one (int k)] [roI xs] (.one (int (k + xs.length))) [roI (marks k xs.length)] := by
  refine does_of (k := 1) Tryz.func18 rfl Tryz.ntmps18 rfl rfl fun w F0 S0 ρ0 => ?_
  dsimp only [argT, argH]
  repeat' first | (apply p3; (first | exact pu1 | exact puN | exact a_len_str rfl (fT rfl) | exact puC | exact a_add rfl rfl (by omega) (by omega) | exact puI); exact rfl) | refine cd ?_ | (apply w3; (first | exact a_st_bx rfl rfl rfl rfl (fN rfl rfl) (Nat.le_of_ble_eq_true rfl) rfl | exact a_st_rowI rfl rfl rfl rfl (fN rfl rfl) bnd | exact a_stE (E := eI) _ rfl rfl rfl rfl (fN rfl rfl) bnd (by exact rfl)); exact rfl; refine dS ?_) | ((first | refine o_gs rfl rfl (fun hc => ?_) (fun hc => ?_) | refine g_cond rfl (fun hc => ?_) (fun hc => ?_)) <;> (try simp only [dcB] at hc) <;> (try first | contradiction | (exfalso; omega)))
  refine g_loop_id ?_
  refine loopK [0, 4] [0] (fun y : Int × List Int => 0 ≤ y.1 ∧ y.1 ≤ xs.length ∧ y.2.length = xs.length ∧ ∀ (j : Nat), (j : Int) < y.1 → y.2[j]? = some (k + j)) (fun y => [(5, .one (int y.1)), (1, .one (int (k + y.1)))]) (fun y => [(0, roI y.2)]) (fun y => (xs.length - y.1).toNat) ((0 : Int), xs) [0] (hI := ?_) (hr := ?_)
  · exact ⟨by simp, by simp, rfl, fun j h' => by simp at h'; omega⟩
  · rintro ⟨i, l⟩ ⟨k1, k2, k3, k4⟩
    dsimp only [List.cons_append, List.nil_append] at *
    skip
    repeat' first | (apply p3; (first | exact pu1 | exact puN | exact a_len_str rfl (fT rfl) | exact puC | exact a_add rfl rfl (by omega) (by omega) | exact puI); exact rfl) | refine cd ?_ | (apply w3; (first | exact a_st_bx rfl rfl rfl rfl (fN rfl rfl) (Nat.le_of_ble_eq_true rfl) rfl | exact a_st_rowI rfl rfl rfl rfl (fN rfl rfl) bnd | exact a_stE (E := eI) _ rfl rfl rfl rfl (fN rfl rfl) bnd (by exact rfl)); exact rfl; refine dS ?_) | ((first | refine o_gs rfl rfl (fun hc => ?_) (fun hc => ?_) | refine g_cond rfl (fun hc => ?_) (fun hc => ?_)) <;> (try simp only [dcB] at hc) <;> (try first | contradiction | (exfalso; omega)))
    · refine q_again (i + 1, l.set i.toNat (k + i)) [0] (by exact stk) ?_ ?_
      · refine ⟨by dsimp only; omega, by dsimp only; omega, by simp [k3], fun j h => ?_⟩
        dsimp only at h ⊢
        rw [List.getElem?_set]
        split
        · rename_i e
          subst e
          rw [if_pos (by omega)]
          congr 1
          omega
        · exact k4 j (by omega)
      · dsimp only; omega
    · have hi : i = xs.length := by omega
      subst hi
      have hl := mark_end (k := k) k3 fun j hj => k4 j (by omega)
      repeat refine cr ?_
      refine ends_id ?_
      refine endK [] (h2 := ?_) (h3 := ?_) (nd := ?_)
      all_goals (repeat' first | exact ce0 | refine ce ?_ | refine ce2 ?_ ?_ | (refine Or.inr (bx_eq rfl rfl ?_); (try dsimp only [C.ren, C.ren.all]); (try exact rfl)) | exact SVLe.refl | refine ceb ?_)
      all_goals first | exact (show nodupB _ = true from rfl) | exact Or.inr rfl | (exact hl)
/-- Are the numbers there? Then the next number, else -1. -/
@[irreducible] def held (k : Int) (xs : List Int) : Int := if xs = marks k xs.length then k + xs.length else -1
theorem held_marks (k : Int) (n : Nat) : held k (marks k n) = k + n := by unfold held; rw [marks_len, if_pos rfl]
theorem heldInt64S_ok (xs : List Int) (k : Int) (h1 : 0 ≤ k) (h2 : k ≤ 4611686018427387904) (hx : (xs.length : Int) ≤ 4611686018427) : Does Tryz.prog 19 [.one (shI xs), .one (int k)] [] (.one (int (held k xs))) [] := by
  refine does_of (k := 0) Tryz.func19 rfl Tryz.ntmps19 rfl rfl fun w F0 S0 ρ0 => ?_
  dsimp only [argT, argH]
  repeat' first | (apply p3; (first | exact pu1 | exact puL | exact puN | exact a_len_str rfl (fT rfl) | exact puC | exact a_ne rfl rfl | exact a_neS rfl rfl rfl | exact a_add rfl rfl (by omega) (by omega) | exact puI); exact rfl) | refine cd ?_ | ((first | refine o_gs rfl rfl (fun hc => ?_) (fun hc => ?_) | refine g_cond rfl (fun hc => ?_) (fun hc => ?_)) <;> (try simp only [dcB] at hc) <;> (try first | contradiction | (exfalso; omega)))
  refine g_loop_id ?_
  refine loopK [0, 4] [] (fun i : Int => 0 ≤ i ∧ i ≤ xs.length ∧ ∀ (j : Nat), (j : Int) < i → xs[j]? = some (k + j)) (fun i => [(5, .one (int i)), (1, .one (int (k + i)))]) (fun _ => []) (fun i => (xs.length - i).toNat) (0 : Int) [] (hI := ?_) (hr := ?_)
  · exact ⟨by simp, by simp, fun j h' => by omega⟩
  · rintro i ⟨k1, k2, k4⟩
    dsimp only [List.cons_append, List.nil_append] at *
    skip
    repeat' first | (apply p3; (first | exact pu1 | exact puL | exact puN | exact a_len_str rfl (fT rfl) | exact puC | exact a_ne rfl rfl | exact a_neS rfl rfl rfl | exact a_add rfl rfl (by omega) (by omega) | exact puI); exact rfl) | refine cd ?_ | ((first | refine o_gs rfl rfl (fun hc => ?_) (fun hc => ?_) | refine g_cond rfl (fun hc => ?_) (fun hc => ?_)) <;> (try simp only [dcB] at hc) <;> (try first | contradiction | (exfalso; omega)))
    · repeat refine cr ?_
      refine ends_id ?_
      refine endK [] (h2 := ?_) (h3 := ?_) (nd := ?_)
      all_goals (repeat' first | exact ce0 | refine ce ?_ | refine ce2 ?_ ?_ | exact SVLe.refl | refine ceb ?_)
      all_goals first | exact (show nodupB _ = true from rfl) | exact Or.inr rfl | ((unfold held; rw [if_neg]; intro e; have e1 := marks_get k xs.length i.toNat (by omega); rw [← e, List.getElem?_eq_getElem (by omega)] at e1; simp only [Option.some.injEq] at e1; omega))
    · refine q_again (i + 1) [] (by exact stk) ?_ ?_
      · refine ⟨by omega, by omega, fun j h => ?_⟩
        by_cases hj : (j : Int) < i
        · exact k4 j hj
        · have : j = i.toNat := by omega
          subst this
          rw [List.getElem?_eq_getElem (by omega), hc]
          congr 1
          omega
      · omega
    · have hi : i = xs.length := by omega
      subst hi
      have hl := mark_end (k := k) (xs := xs) rfl fun j hj => k4 j (by omega)
      repeat refine cr ?_
      refine ends_id ?_
      refine endK [] (h2 := ?_) (h3 := ?_) (nd := ?_)
      all_goals (repeat' first | exact ce0 | refine ce ?_ | refine ce2 ?_ ?_ | exact SVLe.refl | refine ceb ?_)
      all_goals first | exact (show nodupB _ = true from rfl) | exact Or.inr rfl | ((unfold held; rw [if_pos hl]))
end Go.Proofs.YtbekdojhcokalaaGreatDoor
end
section
set_option linter.unusedVariables false
set_option linter.unusedSimpArgs false
set_option maxRecDepth 100000
set_option maxHeartbeats 4000000
namespace Go.Proofs.YtbekdojhcokalaaGreatDoor
open Go Foot
/-- Lists of own lists. -/
abbrev eWn : Enc (List Int) := ⟨1, fun l => [.sl true 1 (rows eI l)], fun _ => rfl, by decide⟩
abbrev roWn (l : List (List Int)) : GB := .row 1 (rows eWn l)
def totL {α : Type} (sz : α → Int) : List α → Int
  | [] => 0
  | x :: xs => sz x + totL sz xs
def mkL {α : Type} (sz : α → Int) (mk : Int → α → α) : Int → List α → List α
  | _, [] => []
  | k, x :: xs => mk k x :: mkL sz mk (k + sz x) xs
theorem totL_app {α : Type} (sz : α → Int) : ∀ (xs ys : List α), totL sz (xs ++ ys) = totL sz xs + totL sz ys
  | [], ys => by simp [totL]
  | x :: xs, ys => by simp [totL, totL_app sz xs ys]; omega
theorem mkL_app {α : Type} (sz : α → Int) (mk : Int → α → α) : ∀ (k : Int) (xs ys : List α), mkL sz mk k (xs ++ ys) = mkL sz mk k xs ++ mkL sz mk (k + totL sz xs) ys
  | k, [], ys => by simp [mkL, totL]
  | k, x :: xs, ys => by simp [mkL, totL, mkL_app sz mk _ xs ys, Int.add_assoc]
theorem mkL_len {α : Type} (sz : α → Int) (mk : Int → α → α) : ∀ (k : Int) (xs : List α), (mkL sz mk k xs).length = xs.length
  | k, [] => rfl
  | k, x :: xs => by simp [mkL, mkL_len sz mk _ xs]
theorem totL_next {α : Type} (sz : α → Int) {xs : List α} {i : Int} (h0 : 0 ≤ i) (h : i.toNat < xs.length) : totL sz (xs.take (i + 1).toNat) = totL sz (xs.take i.toNat) + sz (xs[i.toNat]) := by
  rw [show (i + 1).toNat = i.toNat + 1 by omega, List.take_succ_eq_append_getElem h, totL_app]
  simp [totL]
theorem totL_bd {α : Type} (sz : α → Int) (b : Int) : ∀ {xs : List α}, (∀ x ∈ xs, 0 ≤ sz x ∧ sz x ≤ b) → 0 ≤ totL sz xs ∧ totL sz xs ≤ xs.length * b
  | [], _ => by simp [totL]
  | x :: xs, h => by
    have h1 := totL_bd sz b (xs := xs) (fun y hy => h y (by simp [hy]))
    have h2 := h x (by simp)
    simp only [totL, List.length_cons, Int.natCast_add, Int.add_mul, Int.natCast_one, Int.one_mul]
    omega
/-- What has been written into a list so far. -/
def mkT {α : Type} (sz : α → Int) (mk : Int → α → α) (k : Int) (xs : List α) (i : Nat) : List α := mkL sz mk k (xs.take i) ++ xs.drop i
theorem mkT_len {α : Type} (sz : α → Int) (mk : Int → α → α) (k : Int) (xs : List α) (i : Nat) (h : i ≤ xs.length) : (mkT sz mk k xs i).length = xs.length := by
  unfold mkT; rw [List.length_append, mkL_len, List.length_take, List.length_drop]; omega
theorem mkT_get {α : Type} (sz : α → Int) (mk : Int → α → α) (k : Int) (xs : List α) (i : Nat) (h : i < xs.length) (h' : i < (mkT sz mk k xs i).length) : (mkT sz mk k xs i)[i]'h' = xs[i] := by
  have e : (mkL sz mk k (xs.take i)).length = i := by rw [mkL_len, List.length_take]; omega
  have e2 : (mkT sz mk k xs i)[i]? = some xs[i] := by
    unfold mkT
    rw [List.getElem?_append_right (by omega), e, Nat.sub_self, List.getElem?_drop, Nat.add_zero, List.getElem?_eq_getElem h]
  rw [List.getElem?_eq_getElem h'] at e2
  exact Option.some.inj e2
theorem mkT_0 {α : Type} (sz : α → Int) (mk : Int → α → α) (k : Int) (xs : List α) : mkT sz mk k xs 0 = xs := by unfold mkT; simp [mkL]
theorem mkT_next {α : Type} (sz : α → Int) (mk : Int → α → α) (k : Int) (xs : List α) (i : Nat) (h : i < xs.length) : (mkT sz mk k xs i).set i (mk (k + totL sz (xs.take i)) xs[i]) = mkT sz mk k xs (i + 1) := by
  have e : (mkL sz mk k (xs.take i)).length = i := by rw [mkL_len, List.length_take]; omega
  unfold mkT
  rw [List.set_append_right _ _ (by omega), e, Nat.sub_self, List.drop_eq_getElem_cons h, List.set_cons_zero, List.take_succ_eq_append_getElem h, mkL_app]
  simp [mkL]
theorem mkT_end {α : Type} (sz : α → Int) (mk : Int → α → α) (k : Int) (xs : List α) : mkT sz mk k xs xs.length = mkL sz mk k xs := by unfold mkT; simp
abbrev szw (x : List Int) : Int := x.length
abbrev mkw (k : Int) (x : List Int) : List Int := marks k x.length
@[irreducible] def totW (xs : List (List Int)) : Int := totL szw xs
@[irreducible] def mksW (k : Int) (xs : List (List Int)) : List (List Int) := mkL szw mkw k xs
theorem preD7 {p : Prop} (h : p := by first | with_reducible assumption | omega | (simp only [List.length_append, List.length_cons, List.length_nil, List.length_set, List.length_replicate, List.length_take, List.length_drop, List.length_tail, List.length_dropLast, List.length_reverse] at *; omega) | exact mem_len (by assumption) (by omega) | (with_reducible refine Int.le_trans (Int.ofNat_le.2 (trimR_len _)) ?_; simp only [List.length_cons, List.length_tail]; omega) | (exact (ruAt_ok (by assumption) (by assumption) (by assumption)).2.1) | (exact (ruAt_ok (by assumption) (by assumption) (by assumption)).2.1) | (have := vMach_bd (by assumption); omega) | (simp only [mC_ch, mC_tu]; omega) | (have := vTag_bd (by assumption); omega) | (have := (‹Gd _ _›).le; omega) | (exact tgHalts_no (by assumption)) | (exact tgHead (by assumption) (by assumption) (by assumption)) | (exact Int.le_trans (tgStep_gd (by assumption) (by assumption) (by assumption) (by assumption)).le (by decide)) | (exact vTag_r (by assumption)) | (with_reducible refine Int.le_trans (Int.ofNat_le.2 (pushL_len _ _)) ?_; simp only [List.length_dropLast]; omega) | exact ls_at (by assumption) (by omega) | exact (ask_ok (by assumption)).1 | exact (ask_ok (by assumption)).2.1 | exact (ask_ok (by assumption)).2.2.1 | exact (ask_ok (by assumption)).2.2.2 | (simp only [marks_len]; omega) | (simp only [marksR_len]; omega) | exact lns_at (by assumption) (by omega) | exact bgs_at (by assumption) (by omega) | trivial) : p := h
theorem toInt64SSn_ok (xs : List (List Int)) (hx : (xs.length : Int) ≤ 1048576) (hxs : ∀ x ∈ xs, (x.length : Int) ≤ 1048576) : Does Tryz.prog 89 [.one (shW xs)] [] (.one (.gv 0)) [roWn xs] := by
  refine does_of (k := 0) Tryz.func89 rfl Tryz.ntmps89 rfl rfl fun w F0 S0 ρ0 => ?_
  dsimp only [argT, argH]
  repeat' first | (apply n3; exact a_make (fE rfl) (fZ rfl) (fP rfl) (by decide) rfl rfl (by omega) rfl (by omega) (by omega) (rows_rep eWo none _); exact rfl; refine dA ?_) | (apply p3; (first | exact pu1 | exact puL | exact puN | exact a_len_str rfl (fT rfl) | exact puC | exact a_add rfl rfl (by omega) (by omega) | exact puI); exact rfl) | refine cd ?_ | (apply w3; (first | exact a_st_bx rfl rfl rfl rfl (fN rfl rfl) (Nat.le_of_ble_eq_true rfl) rfl | exact a_stE (E := eWo) (some _) rfl rfl rfl rfl (fN rfl rfl) bnd (by exact rfl)); exact rfl; refine dS ?_) | (apply c4 1; exact callK1 (θ := []) (hD := (toInt64S_ok _ preD7)); exact rfl; exact rfl; exact rfl; refine dM ?_) | ((first | refine o_gs rfl rfl (fun hc => ?_) (fun hc => ?_) | refine g_cond rfl (fun hc => ?_) (fun hc => ?_)) <;> (try simp only [dcB] at hc) <;> (try first | contradiction | (exfalso; omega)))
  first | refine g_conv (t_nilR (i := 0) (E' := eWn) ([] : List Int) rfl (by repeat (first | exact trivial | exact nilOwn (by decide) | exact (fun _ _ _ _ h => h) | refine And.intro ?_ ?_))) ?_ | refine o_conv (t_nilR (i := 0) (E' := eWn) ([] : List Int) rfl (by repeat (first | exact trivial | exact nilOwn (by decide) | exact (fun _ _ _ _ h => h) | refine And.intro ?_ ?_))) ?_
  refine g_loop_id ?_
  refine loopK [0, 2, 3] [0] (fun x : Int × List (List Int) => 0 ≤ x.1 ∧ x.1 ≤ xs.length ∧ x.2.length = xs.length ∧ ∀ k (h : k < xs.length), k < x.1 → x.2[k]? = some xs[k]) (fun x => [(4, .one (int x.1))]) (fun x => [(0, .row 1 (rows eWn x.2))]) (fun x => (xs.length - x.1).toNat) ((0 : Int), List.replicate xs.length ([] : List Int)) [0] (hI := ?_) (hr := ?_)
  · exact ⟨by simp, by simp, by simp, by intro k h h'; simp at h'; omega⟩
  · rintro ⟨i, l⟩ ⟨h0, h1, h2, h3⟩
    dsimp only [List.cons_append, List.nil_append] at *
    skip
    repeat' first | (apply p3; (first | exact pu1 | exact puN | exact a_len_str rfl (fT rfl) | exact puC); exact rfl) | refine cdn ?_ | refine g_reg (id := 3) ?_ | refine g_reg (id := 6) ?_ | ((first | refine o_gs rfl rfl (fun hc => ?_) (fun hc => ?_) | refine g_cond rfl (fun hc => ?_) (fun hc => ?_)) <;> (try simp only [dcB] at hc) <;> (try first | contradiction | (exfalso; omega)))
    · first | refine g_conv (t_qE (i := 0) (i.toNat) bnd rfl) ?_ | refine o_conv (t_qE (i := 0) (i.toNat) bnd rfl) ?_
      try dsimp only [List.map_cons, List.map_nil, List.set_cons_zero, List.set_cons_succ, List.length_cons, List.length_nil, List.cons_append, List.nil_append, Nat.reduceAdd, setRow]
      repeat' first | (apply p3; (first | exact pu1 | exact puL | exact puN | exact a_len_str rfl (fT rfl) | exact puC | exact puX | exact puQ | exact puI); exact rfl) | refine cdn ?_ | refine g_reg (id := 3) ?_ | refine g_reg (id := 5) ?_ | refine g_reg (id := 6) ?_ | (apply w3; (first | exact a_st_bx rfl rfl rfl rfl (fN rfl rfl) (Nat.le_of_ble_eq_true rfl) rfl | exact a_stQE 0 rfl rfl rfl rfl (fN rfl rfl) (Nat.le_of_ble_eq_true rfl) (Nat.le_of_ble_eq_true rfl) rfl bnd bnd | exact a_stQE 1 rfl rfl rfl rfl (fN rfl rfl) (Nat.le_of_ble_eq_true rfl) (Nat.le_of_ble_eq_true rfl) rfl bnd bnd | exact a_stQE 2 rfl rfl rfl rfl (fN rfl rfl) (Nat.le_of_ble_eq_true rfl) (Nat.le_of_ble_eq_true rfl) rfl bnd bnd | exact a_stQE 3 rfl rfl rfl rfl (fN rfl rfl) (Nat.le_of_ble_eq_true rfl) (Nat.le_of_ble_eq_true rfl) rfl bnd bnd | exact a_stQE 4 rfl rfl rfl rfl (fN rfl rfl) (Nat.le_of_ble_eq_true rfl) (Nat.le_of_ble_eq_true rfl) rfl bnd bnd | exact a_stQE 5 rfl rfl rfl rfl (fN rfl rfl) (Nat.le_of_ble_eq_true rfl) (Nat.le_of_ble_eq_true rfl) rfl bnd bnd | exact a_stQE 6 rfl rfl rfl rfl (fN rfl rfl) (Nat.le_of_ble_eq_true rfl) (Nat.le_of_ble_eq_true rfl) rfl bnd bnd | exact a_stQE 7 rfl rfl rfl rfl (fN rfl rfl) (Nat.le_of_ble_eq_true rfl) (Nat.le_of_ble_eq_true rfl) rfl bnd bnd | exact a_stE (E := eWo) (some _) rfl rfl rfl rfl (fN rfl rfl) bnd (by exact rfl)); exact rfl; refine dS ?_) | (apply c4 1; exact callK1 (θ := []) (hD := (toInt64S_ok _ preD7)); exact rfl; exact rfl; exact rfl; refine dM ?_) | ((first | refine o_gs rfl rfl (fun hc => ?_) (fun hc => ?_) | refine g_cond rfl (fun hc => ?_) (fun hc => ?_)) <;> (try simp only [dcB] at hc) <;> (try first | contradiction | (exfalso; omega)))
      first | refine g_conv (t_close1 (i := 0) (j := 1) (k := 0) (m := 0) rfl rfl rfl rfl rfl) ?_ | refine o_conv (t_close1 (i := 0) (j := 1) (k := 0) (m := 0) rfl rfl rfl rfl rfl) ?_
      try dsimp only [List.map_cons, List.map_nil, List.set_cons_zero, List.set_cons_succ, List.length_cons, List.length_nil, List.cons_append, List.nil_append, Nat.reduceAdd, setRow]
      first | refine g_conv (t_uE (i := 0) (xs[i.toNat]'(by omega)) bnd rfl rfl) ?_ | refine o_conv (t_uE (i := 0) (xs[i.toNat]'(by omega)) bnd rfl rfl) ?_
      repeat' first | (apply p3; (first | exact pu1 | exact puL | exact puN | exact a_len_str rfl (fT rfl) | exact puC | exact puX | exact puQ | exact a_add rfl rfl (by omega) (by omega) | exact puI); exact rfl) | refine cd ?_ | (apply w3; (first | exact a_st_bx rfl rfl rfl rfl (fN rfl rfl) (Nat.le_of_ble_eq_true rfl) rfl | exact a_stQE 0 rfl rfl rfl rfl (fN rfl rfl) (Nat.le_of_ble_eq_true rfl) (Nat.le_of_ble_eq_true rfl) rfl bnd bnd | exact a_stQE 1 rfl rfl rfl rfl (fN rfl rfl) (Nat.le_of_ble_eq_true rfl) (Nat.le_of_ble_eq_true rfl) rfl bnd bnd | exact a_stQE 2 rfl rfl rfl rfl (fN rfl rfl) (Nat.le_of_ble_eq_true rfl) (Nat.le_of_ble_eq_true rfl) rfl bnd bnd | exact a_stQE 3 rfl rfl rfl rfl (fN rfl rfl) (Nat.le_of_ble_eq_true rfl) (Nat.le_of_ble_eq_true rfl) rfl bnd bnd | exact a_stQE 4 rfl rfl rfl rfl (fN rfl rfl) (Nat.le_of_ble_eq_true rfl) (Nat.le_of_ble_eq_true rfl) rfl bnd bnd | exact a_stQE 5 rfl rfl rfl rfl (fN rfl rfl) (Nat.le_of_ble_eq_true rfl) (Nat.le_of_ble_eq_true rfl) rfl bnd bnd | exact a_stQE 6 rfl rfl rfl rfl (fN rfl rfl) (Nat.le_of_ble_eq_true rfl) (Nat.le_of_ble_eq_true rfl) rfl bnd bnd | exact a_stQE 7 rfl rfl rfl rfl (fN rfl rfl) (Nat.le_of_ble_eq_true rfl) (Nat.le_of_ble_eq_true rfl) rfl bnd bnd | exact a_stE (E := eWo) (some _) rfl rfl rfl rfl (fN rfl rfl) bnd (by exact rfl)); exact rfl; refine dS ?_) | (apply c4 1; exact callK1 (θ := []) (hD := (toInt64S_ok _ preD7)); exact rfl; exact rfl; exact rfl; refine dM ?_) | ((first | refine o_gs rfl rfl (fun hc => ?_) (fun hc => ?_) | refine g_cond rfl (fun hc => ?_) (fun hc => ?_)) <;> (try simp only [dcB] at hc) <;> (try first | contradiction | (exfalso; omega)))
      refine q_again (i + 1, l.set i.toNat (xs[i.toNat]'(by omega))) [0] (by exact stk) ?_ ?_
      · refine ⟨by dsimp only; omega, by dsimp only; omega, by simp [h2], fun k h h' => ?_⟩
        dsimp only at h' ⊢
        rw [List.getElem?_set]
        split
        · rename_i e
          subst e
          rw [if_pos (by omega)]
        · exact h3 k h (by omega)
      · dsimp only; omega
    · have hl : l = xs := by
        apply List.ext_getElem?
        intro k
        by_cases hk : k < xs.length
        · rw [h3 k hk (by omega), List.getElem?_eq_getElem hk]
        · rw [List.getElem?_eq_none (by omega), List.getElem?_eq_none (by omega)]
      subst hl
      repeat' first | (apply p3; (first | exact pu1 | exact puL | exact puN | exact a_len_str rfl (fT rfl) | exact puC | exact puX | exact puQ | exact a_add rfl rfl (by omega) (by omega) | exact puI); exact rfl) | refine cd ?_ | (apply w3; (first | exact a_st_bx rfl rfl rfl rfl (fN rfl rfl) (Nat.le_of_ble_eq_true rfl) rfl | exact a_stQE 0 rfl rfl rfl rfl (fN rfl rfl) (Nat.le_of_ble_eq_true rfl) (Nat.le_of_ble_eq_true rfl) rfl bnd bnd | exact a_stQE 1 rfl rfl rfl rfl (fN rfl rfl) (Nat.le_of_ble_eq_true rfl) (Nat.le_of_ble_eq_true rfl) rfl bnd bnd | exact a_stQE 2 rfl rfl rfl rfl (fN rfl rfl) (Nat.le_of_ble_eq_true rfl) (Nat.le_of_ble_eq_true rfl) rfl bnd bnd | exact a_stQE 3 rfl rfl rfl rfl (fN rfl rfl) (Nat.le_of_ble_eq_true rfl) (Nat.le_of_ble_eq_true rfl) rfl bnd bnd | exact a_stQE 4 rfl rfl rfl rfl (fN rfl rfl) (Nat.le_of_ble_eq_true rfl) (Nat.le_of_ble_eq_true rfl) rfl bnd bnd | exact a_stQE 5 rfl rfl rfl rfl (fN rfl rfl) (Nat.le_of_ble_eq_true rfl) (Nat.le_of_ble_eq_true rfl) rfl bnd bnd | exact a_stQE 6 rfl rfl rfl rfl (fN rfl rfl) (Nat.le_of_ble_eq_true rfl) (Nat.le_of_ble_eq_true rfl) rfl bnd bnd | exact a_stQE 7 rfl rfl rfl rfl (fN rfl rfl) (Nat.le_of_ble_eq_true rfl) (Nat.le_of_ble_eq_true rfl) rfl bnd bnd | exact a_stE (E := eWo) (some _) rfl rfl rfl rfl (fN rfl rfl) bnd (by exact rfl)); exact rfl; refine dS ?_) | (apply c4 1; exact callK1 (θ := []) (hD := (toInt64S_ok _ preD7)); exact rfl; exact rfl; exact rfl; refine dM ?_) | ((first | refine o_gs rfl rfl (fun hc => ?_) (fun hc => ?_) | refine g_cond rfl (fun hc => ?_) (fun hc => ?_)) <;> (try simp only [dcB] at hc) <;> (try first | contradiction | (exfalso; omega)))
      repeat refine cr ?_
      refine ends_id ?_
      refine endK [?_] (h2 := ?_) (h3 := ?_) (nd := ?_)
      rotate_left 1
      all_goals (repeat' first | exact ce0 | refine ce ?_ | refine ce2 ?_ ?_ | exact SVLe.refl | refine ceb ?_)
      all_goals first | exact (show nodupB _ = true from rfl) | exact Or.inr rfl | (rfl)
theorem markInt64SSn_ok (xs : List (List Int)) (k : Int) (h1 : 0 ≤ k) (h2 : k + totW xs ≤ 4611686018427387904) (hx : (xs.length : Int) ≤ 4611686018427) (hxs : ∀ x ∈ xs, (x.length : Int) ≤ 4611686018427) : Does Tryz.prog 58 [.one (.gv 0), .one (int k)] [roWn xs] (.one (int (k + totW xs))) [roWn (mksW k xs)] := by
  refine does_of (k := 1) Tryz.func58 rfl Tryz.ntmps58 rfl rfl fun w F0 S0 ρ0 => ?_
  dsimp only [argT, argH]
  repeat' first | (apply p3; (first | exact pu1 | exact puL | exact puN | exact a_len_str rfl (fT rfl) | exact puC | exact a_add rfl rfl (by omega) (by omega) | exact puI); exact rfl) | refine cd ?_ | (apply c4 0; exact callK1 (θ := [_]) (hD := (markInt64S_ok _ _ preD7 preD7 preD7)); exact rfl; exact rfl; exact rfl; refine dM ?_) | ((first | refine o_gs rfl rfl (fun hc => ?_) (fun hc => ?_) | refine g_cond rfl (fun hc => ?_) (fun hc => ?_)) <;> (try simp only [dcB] at hc) <;> (try first | contradiction | (exfalso; omega)))
  refine g_loop_id ?_
  refine loopK [0, 4] [0] (fun y : Int × Int × List (List Int) => 0 ≤ y.1 ∧ y.1 ≤ xs.length ∧ y.2.1 = k + totL szw (xs.take y.1.toNat) ∧ y.2.2 = mkT szw mkw k xs y.1.toNat) (fun y => [(5, .one (int y.1)), (1, .one (int y.2.1))]) (fun y => [(0, roWn y.2.2)]) (fun y => (xs.length - y.1).toNat) ((0 : Int), k, xs) [0] (hI := ?_) (hr := ?_)
  · exact ⟨by simp, by simp, by simp [totL], (mkT_0 _ _ _ _).symm⟩
  · rintro ⟨i, k', l⟩ ⟨k1, k2, k3, k4⟩
    dsimp only [List.cons_append, List.nil_append] at *
    skip
    repeat' first | (apply p3; (first | exact pu1 | exact puN | exact a_len_str rfl (fT rfl) | exact puC); exact rfl) | refine cdn ?_ | refine g_reg (id := 2) ?_ | refine g_reg (id := 5) ?_ | ((first | refine o_gs rfl rfl (fun hc => ?_) (fun hc => ?_) | refine g_cond rfl (fun hc => ?_) (fun hc => ?_)) <;> (try simp only [dcB] at hc) <;> (try first | contradiction | (exfalso; omega)))
    · have hl := mkT_len szw mkw k xs i.toNat (by omega)
      rw [← k4] at hl
      have hi : i.toNat < xs.length := by omega
      have hg : l[i.toNat]'(by omega) = xs[i.toNat] := by subst k4; exact mkT_get _ _ _ _ _ hi _
      have hb := totL_bd szw 4611686018427 (xs := xs.take i.toNat) (fun x hx => ⟨by unfold szw; omega, hxs x (List.mem_of_mem_take hx)⟩)
      have hx2 := hxs _ (List.getElem_mem hi)
      have hn := totL_next szw k1 (xs := xs) hi
      have ht := totL_app szw (xs.take (i + 1).toNat) (xs.drop (i + 1).toNat)
      have hd := totL_bd szw 4611686018427 (xs := xs.drop (i + 1).toNat) (fun x hx => ⟨by unfold szw; omega, hxs x (List.mem_of_mem_drop hx)⟩)
      rw [List.take_append_drop] at ht
      unfold totW at h2
      have hs : szw xs[i.toNat] = (xs[i.toNat].length : Int) := rfl
      first | refine g_conv (t_qE (i := 0) (i.toNat) bnd rfl) ?_ | refine o_conv (t_qE (i := 0) (i.toNat) bnd rfl) ?_
      try dsimp only [List.map_cons, List.map_nil, List.set_cons_zero, List.set_cons_succ, List.length_cons, List.length_nil, List.cons_append, List.nil_append, Nat.reduceAdd, setRow]
      first | refine g_conv (t_open1 (i := 0) (k := 0) rfl rfl rfl) ?_ | refine o_conv (t_open1 (i := 0) (k := 0) rfl rfl rfl) ?_
      try dsimp only [List.map_cons, List.map_nil, List.set_cons_zero, List.set_cons_succ, List.length_cons, List.length_nil, List.cons_append, List.nil_append, Nat.reduceAdd, setRow]
      simp only [hg]
      repeat' first | (apply p3; (first | exact pu1 | exact puL | exact puN | exact a_len_str rfl (fT rfl) | exact puC | exact puX | exact puQ | exact puI); exact rfl) | refine cdn ?_ | refine g_reg (id := 2) ?_ | refine g_reg (id := 4) ?_ | refine g_reg (id := 5) ?_ | (apply c4 0; exact callK1 (θ := [_]) (hD := (markInt64S_ok _ _ preD7 preD7 preD7)); exact rfl; exact rfl; exact rfl; refine dM ?_) | ((first | refine o_gs rfl rfl (fun hc => ?_) (fun hc => ?_) | refine g_cond rfl (fun hc => ?_) (fun hc => ?_)) <;> (try simp only [dcB] at hc) <;> (try first | contradiction | (exfalso; omega)))
      first | refine g_conv (t_close1 (i := 0) (j := 1) (k := 0) (m := 0) rfl rfl rfl rfl rfl) ?_ | refine o_conv (t_close1 (i := 0) (j := 1) (k := 0) (m := 0) rfl rfl rfl rfl rfl) ?_
      try dsimp only [List.map_cons, List.map_nil, List.set_cons_zero, List.set_cons_succ, List.length_cons, List.length_nil, List.cons_append, List.nil_append, Nat.reduceAdd, setRow]
      first | refine g_conv (t_uE (i := 0) (marks k' xs[i.toNat].length) bnd rfl rfl) ?_ | refine o_conv (t_uE (i := 0) (marks k' xs[i.toNat].length) bnd rfl rfl) ?_
      repeat' first | (apply p3; (first | exact pu1 | exact puL | exact puN | exact a_len_str rfl (fT rfl) | exact puC | exact puX | exact puQ | exact a_add rfl rfl (by omega) (by omega) | exact puI); exact rfl) | refine cd ?_ | (apply c4 0; exact callK1 (θ := [_]) (hD := (markInt64S_ok _ _ preD7 preD7 preD7)); exact rfl; exact rfl; exact rfl; refine dM ?_) | ((first | refine o_gs rfl rfl (fun hc => ?_) (fun hc => ?_) | refine g_cond rfl (fun hc => ?_) (fun hc => ?_)) <;> (try simp only [dcB] at hc) <;> (try first | contradiction | (exfalso; omega)))
      refine q_again (i + 1, k' + xs[i.toNat].length, l.set i.toNat (marks k' xs[i.toNat].length)) [0] (by exact stk) ?_ ?_
      · refine ⟨by dsimp only; omega, by dsimp only; omega, by dsimp only; omega, ?_⟩
        dsimp only
        rw [show (i + 1).toNat = i.toNat + 1 by omega, ← mkT_next szw mkw k xs i.toNat hi, ← k3, ← k4]
      · dsimp only; omega
    · have hl := mkT_len szw mkw k xs i.toNat (by omega)
      rw [← k4] at hl
      have hi : i.toNat = xs.length := by omega
      rw [hi, mkT_end] at k4
      rw [hi, List.take_length] at k3
      have e1 : totW xs = totL szw xs := by unfold totW; rfl
      have e2 : mksW k xs = mkL szw mkw k xs := by unfold mksW; rfl
      rw [e1, e2, ← k3, ← k4]
      repeat' first | (apply p3; (first | exact pu1 | exact puL | exact puN | exact a_len_str rfl (fT rfl) | exact puC | exact puX | exact puQ | exact a_add rfl rfl (by omega) (by omega) | exact puI); exact rfl) | refine cd ?_ | (apply c4 0; exact callK1 (θ := [_]) (hD := (markInt64S_ok _ _ preD7 preD7 preD7)); exact rfl; exact rfl; exact rfl; refine dM ?_) | ((first | refine o_gs rfl rfl (fun hc => ?_) (fun hc => ?_) | refine g_cond rfl (fun hc => ?_) (fun hc => ?_)) <;> (try simp only [dcB] at hc) <;> (try first | contradiction | (exfalso; omega)))
      repeat refine cr ?_
      refine ends_id ?_
      refine endK [] (h2 := ?_) (h3 := ?_) (nd := ?_)
      all_goals (repeat' first | exact ce0 | refine ce ?_ | refine ce2 ?_ ?_ | (refine Or.inr (bx_eq rfl rfl ?_); (try dsimp only [C.ren, C.ren.all]); (try exact rfl)) | exact SVLe.refl | refine ceb ?_)
      all_goals first | exact (show nodupB _ = true from rfl) | exact Or.inr rfl | (rfl)
end Go.Proofs.YtbekdojhcokalaaGreatDoor
end
section
set_option linter.unusedVariables false
set_option linter.unusedSimpArgs false
set_option maxRecDepth 100000
set_option maxHeartbeats 4000000
namespace Go.Proofs.YtbekdojhcokalaaGreatDoor
open Go Foot
/-- Rules with numbers one behind the other. -/
@[irreducible] def marksR (k : Int) (n : Nat) : List Rule' := (List.range n).map fun (i : Nat) => ⟨k + 3 * (i : Int), k + 3 * (i : Int) + 1, k + 3 * (i : Int) + 2⟩
theorem marksR_len (k : Int) (n : Nat) : (marksR k n).length = n := by unfold marksR; simp
theorem marksR_get (k : Int) (n i : Nat) (h : i < n) : (marksR k n)[i]? = some ⟨k + 3 * i, k + 3 * i + 1, k + 3 * i + 2⟩ := by unfold marksR; simp [h]
theorem markR_end {k : Int} {xs l : List Rule'} (h1 : l.length = xs.length) (h2 : ∀ j (h : j < xs.length), l[j]? = some ⟨k + 3 * j, k + 3 * j + 1, k + 3 * j + 2⟩) : l = marksR k xs.length := by
  apply List.ext_getElem?
  intro j
  by_cases hj : j < xs.length
  · rw [marksR_get k _ j hj, h2 j hj]
  · rw [List.getElem?_eq_none (by omega), List.getElem?_eq_none (by rw [marksR_len]; omega)]
theorem markRuleS_ok (m : Mach) (k : Int) (h1 : 0 ≤ k) (h2 : k ≤ 4611686018427387904) (hx : (m.ru.length : Int) ≤ 4611686018427) : Does Tryz.prog 57 [.one (.gv 0), .one (int k)] [.row 3 (rows eR m.ru)] (.one (int (k + 3 * m.ru.length))) [.row 3 (rows eR (marksR k m.ru.length))] := by
  refine does_of (k := 1) Tryz.func57 rfl Tryz.ntmps57 rfl rfl fun w F0 S0 ρ0 => ?_
  dsimp only [argT, argH]
  repeat' first | (apply p3; (first | exact pu1 | exact puN | exact a_len_str rfl (fT rfl) | exact puC | exact a_add rfl rfl (by omega) (by omega) | exact puI); exact rfl) | refine cd ?_ | (apply w3; (first | exact a_st_bx rfl rfl rfl rfl (fN rfl rfl) (Nat.le_of_ble_eq_true rfl) rfl | exact a_st_rowI rfl rfl rfl rfl (fN rfl rfl) bnd | exact a_stE (E := eI) _ rfl rfl rfl rfl (fN rfl rfl) bnd (by exact rfl) | exact a_stF (E := eR) ⟨_, _, _⟩ rfl rfl rfl rfl (fN rfl rfl) (Nat.le_of_ble_eq_true rfl) (Nat.le_of_ble_eq_true rfl) (by first | exact List.getElem?_set_self bnd | exact List.getElem?_eq_getElem bnd) (by (try dsimp only [setRow, List.set_cons_succ, List.set_cons_zero]); first | done | exact rfl) rfl); exact rfl; refine dS ?_) | ((first | refine o_gs rfl rfl (fun hc => ?_) (fun hc => ?_) | refine g_cond rfl (fun hc => ?_) (fun hc => ?_)) <;> (try simp only [dcB] at hc) <;> (try first | contradiction | (exfalso; omega)))
  refine g_loop_id ?_
  refine loopK [0, 4] [0] (fun y : Int × List Rule' => 0 ≤ y.1 ∧ y.1 ≤ m.ru.length ∧ y.2.length = m.ru.length ∧ ∀ (j : Nat), (j : Int) < y.1 → y.2[j]? = some ⟨k + 3 * j, k + 3 * j + 1, k + 3 * j + 2⟩) (fun y => [(5, .one (int y.1)), (1, .one (int (k + 3 * y.1)))]) (fun y => [(0, .row 3 (rows eR y.2))]) (fun y => (m.ru.length - y.1).toNat) ((0 : Int), m.ru) [0] (hI := ?_) (hr := ?_)
  · exact ⟨by simp, by simp, rfl, fun j h' => by simp at h'; omega⟩
  · rintro ⟨i, l⟩ ⟨k1, k2, k3, k4⟩
    dsimp only [List.cons_append, List.nil_append] at *
    skip
    repeat' first | (apply p3; (first | exact pu1 | exact puN | exact a_len_str rfl (fT rfl) | exact puC | exact a_add rfl rfl (by omega) (by omega) | exact puI); exact rfl) | refine cd ?_ | (apply w3; (first | exact a_st_bx rfl rfl rfl rfl (fN rfl rfl) (Nat.le_of_ble_eq_true rfl) rfl | exact a_st_rowI rfl rfl rfl rfl (fN rfl rfl) bnd | exact a_stE (E := eI) _ rfl rfl rfl rfl (fN rfl rfl) bnd (by exact rfl) | exact a_stF (E := eR) ⟨_, _, _⟩ rfl rfl rfl rfl (fN rfl rfl) (Nat.le_of_ble_eq_true rfl) (Nat.le_of_ble_eq_true rfl) (by first | exact List.getElem?_set_self bnd | exact List.getElem?_eq_getElem bnd) (by (try dsimp only [setRow, List.set_cons_succ, List.set_cons_zero]); first | done | exact rfl) rfl); exact rfl; refine dS ?_) | ((first | refine o_gs rfl rfl (fun hc => ?_) (fun hc => ?_) | refine g_cond rfl (fun hc => ?_) (fun hc => ?_)) <;> (try simp only [dcB] at hc) <;> (try first | contradiction | (exfalso; omega)))
    · refine q_again (i + 1, _) [0] (by exact stk) ?_ ?_
      · refine ⟨by dsimp only; omega, by dsimp only; omega, by simp [k3], fun j h => ?_⟩
        dsimp only at h ⊢
        simp only [List.set_set]
        rw [List.getElem?_set]
        split
        · rename_i e
          subst e
          rw [if_pos (by omega), show ((i.toNat : Nat) : Int) = i by omega, show k + 3 * i + 1 + 1 = k + 3 * i + 2 by omega]
        · exact k4 j (by omega)
      · dsimp only; omega
    · have hi : i = m.ru.length := by omega
      subst hi
      have hl := markR_end (k := k) k3 fun j hj => k4 j (by omega)
      rw [← hl]
      repeat refine cr ?_
      refine ends_id ?_
      refine endK [] (h2 := ?_) (h3 := ?_) (nd := ?_)
      all_goals (repeat' first | exact ce0 | refine ce ?_ | refine ce2 ?_ ?_ | (refine Or.inr (bx_eq rfl rfl ?_); (try dsimp only [C.ren, C.ren.all]); (try exact rfl)) | exact SVLe.refl | refine ceb ?_)
      all_goals first | exact (show nodupB _ = true from rfl) | exact Or.inr rfl | (rfl)
end Go.Proofs.YtbekdojhcokalaaGreatDoor
end
section
set_option linter.unusedVariables false
set_option linter.unusedSimpArgs false
set_option maxRecDepth 100000
set_option maxHeartbeats 4000000
namespace Go.Proofs.YtbekdojhcokalaaGreatDoor
open Go Foot
abbrev eVn : Enc Verd := ⟨6, fun v => [.sc (.int .i64 v.m.sy), .sc (.int .i64 v.m.st), .sl true 3 (rows eR v.m.ru), .sc (.int .i64 v.p.k), .sl true 1 (rows eI v.p.nu), .sl true 1 (rows eWn v.p.wo)], fun _ => rfl, by decide⟩
abbrev roVn (l : List Verd) : GB := .row 6 (rows eVn l)
abbrev verd0 : Verd := ⟨⟨0, 0, []⟩, ⟨0, [], []⟩⟩
theorem preD8 {p : Prop} (h : p := by first | with_reducible assumption | omega | (simp only [List.length_append, List.length_cons, List.length_nil, List.length_set, List.length_replicate, List.length_take, List.length_drop, List.length_tail, List.length_dropLast, List.length_reverse] at *; omega) | exact mem_len (by assumption) (by omega) | (with_reducible refine Int.le_trans (Int.ofNat_le.2 (trimR_len _)) ?_; simp only [List.length_cons, List.length_tail]; omega) | (exact (ruAt_ok (by assumption) (by assumption) (by assumption)).2.1) | (exact (ruAt_ok (by assumption) (by assumption) (by assumption)).2.1) | (have := vMach_bd (by assumption); omega) | (simp only [mC_ch, mC_tu]; omega) | (have := vTag_bd (by assumption); omega) | (have := (‹Gd _ _›).le; omega) | (exact tgHalts_no (by assumption)) | (exact tgHead (by assumption) (by assumption) (by assumption)) | (exact Int.le_trans (tgStep_gd (by assumption) (by assumption) (by assumption) (by assumption)).le (by decide)) | (exact vTag_r (by assumption)) | (with_reducible refine Int.le_trans (Int.ofNat_le.2 (pushL_len _ _)) ?_; simp only [List.length_dropLast]; omega) | exact ls_at (by assumption) (by omega) | exact (ask_ok (by assumption)).1 | exact (ask_ok (by assumption)).2.1 | exact (ask_ok (by assumption)).2.2.1 | exact (ask_ok (by assumption)).2.2.2 | (simp only [marks_len]; omega) | (simp only [marksR_len]; omega) | exact lns_at (by assumption) (by omega) | exact bgs_at (by assumption) (by omega) | trivial) : p := h
theorem toProofn_ok (p : Prf) (hx : (p.nu.length : Int) ≤ 1048576) (hy : (p.wo.length : Int) ≤ 1048576) (hys : ∀ x ∈ p.wo, (x.length : Int) ≤ 1048576) : Does Tryz.prog 33 [.agg (prC p)] [] (.agg [int p.k, .gv 0, .gv 1]) [roI p.nu, roWn p.wo] := by
  refine does_of (k := 0) Tryz.func33 rfl Tryz.ntmps33 rfl rfl fun w F0 S0 ρ0 => ?_
  dsimp only [argT, argH]
  repeat' first | (apply n3; exact a_new (gb := .bx _) rfl; exact rfl; refine dA ?_) | (apply p3; exact puL; exact rfl) | refine cd ?_ | (apply w3; (first | exact a_st_bx rfl rfl rfl rfl (fN rfl rfl) (Nat.le_of_ble_eq_true rfl) rfl | exact a_st_rowI rfl rfl rfl rfl (fN rfl rfl) bnd | exact a_stE (E := eI) _ rfl rfl rfl rfl (fN rfl rfl) bnd (by exact rfl) | exact a_stE (E := eW) _ rfl rfl rfl rfl (fN rfl rfl) bnd (by exact rfl)); exact rfl; refine dS ?_) | (apply c4 1; exact callK1 (θ := []) (hD := (toInt64S_ok _ preD8)); exact rfl; exact rfl; exact rfl; refine dM ?_) | (apply c4 1; exact callK1 (θ := []) (hD := (toInt64SSn_ok _ preD8 preD8)); exact rfl; exact rfl; exact rfl; refine dM ?_) | ((first | refine o_gs rfl rfl (fun hc => ?_) (fun hc => ?_) | refine g_cond rfl (fun hc => ?_) (fun hc => ?_)) <;> (try simp only [dcB] at hc) <;> (try first | contradiction | (exfalso; omega)))
  repeat refine cr ?_
  refine ends_id ?_
  refine endK [?_, ?_] (h2 := ?_) (h3 := ?_) (nd := ?_)
  rotate_left 2
  all_goals (repeat' first | exact ce0 | refine ce ?_ | refine ce2 ?_ ?_ | exact SVLe.refl | refine ceb ?_)
  all_goals first | exact (show nodupB _ = true from rfl) | exact Or.inr rfl | (rfl)
theorem toVerdictn_ok (v : Verd) (g : BigOk v) : Does Tryz.prog 54 [.agg (veC v)] [] (.agg [int v.m.sy, int v.m.st, .gv 0, int v.p.k, .gv 1, .gv 2]) [.row 3 (rows eR v.m.ru), roI v.p.nu, roWn v.p.wo] := by
  obtain ⟨g1, g2, g3, g4⟩ := g
  refine does_of (k := 0) Tryz.func54 rfl Tryz.ntmps54 rfl rfl fun w F0 S0 ρ0 => ?_
  dsimp only [argT, argH]
  repeat' first | (apply n3; exact a_new (gb := .bx _) rfl; exact rfl; refine dA ?_) | (apply p3; (first | exact a_fa_immT 3 (T := 88) (f := 0) (off := 0) rfl (by kernel_rfl) rfl | exact a_fa_immT 3 (T := 88) (f := 1) (off := 3) rfl (by kernel_rfl) rfl | exact puL); exact rfl) | refine cd ?_ | (apply w3; (first | exact a_st_bx rfl rfl rfl rfl (fN rfl rfl) (Nat.le_of_ble_eq_true rfl) rfl | exact a_stE (E := eV) ⟨⟨_, _, _⟩, ⟨_, _, _⟩⟩ rfl rfl rfl rfl (fN rfl rfl) bnd (by exact rfl)); exact rfl; refine dS ?_) | (apply c4 1; exact callK1 (θ := []) (hD := (toMachine_ok _ preD8)); exact rfl; exact rfl; exact rfl; refine dM ?_) | (apply c4 2; exact callK1 (θ := []) (hD := (toProofn_ok _ preD8 preD8 preD8)); exact rfl; exact rfl; exact rfl; refine dM ?_) | ((first | refine o_gs rfl rfl (fun hc => ?_) (fun hc => ?_) | refine g_cond rfl (fun hc => ?_) (fun hc => ?_)) <;> (try simp only [dcB] at hc) <;> (try first | contradiction | (exfalso; omega)))
  repeat refine cr ?_
  refine ends_id ?_
  refine endK [?_, ?_, ?_] (h2 := ?_) (h3 := ?_) (nd := ?_)
  rotate_left 3
  all_goals (repeat' first | exact ce0 | refine ce ?_ | refine ce2 ?_ ?_ | (refine Or.inr (bx_eq rfl rfl ?_); (try dsimp only [C.ren, C.ren.all]); (try exact rfl)) | exact SVLe.refl | refine ceb ?_)
  all_goals first | exact (show nodupB _ = true from rfl) | exact Or.inr rfl | (rfl)
theorem toVerdictSn_ok (xs : List Verd) (g : BgsOk xs) : Does Tryz.prog 13 [.one (shV xs)] [] (.one (.gv 0)) [roVn xs] := by
  have hx := g.n
  refine does_of (k := 0) Tryz.func13 rfl Tryz.ntmps13 rfl rfl fun w F0 S0 ρ0 => ?_
  dsimp only [argT, argH]
  repeat' first | (apply n3; exact a_make (fE rfl) (fZ rfl) (fP rfl) (by decide) rfl rfl (by omega) rfl (by omega) (by omega) (rows_rep eVo none _); exact rfl; refine dA ?_) | (apply p3; (first | exact pu1 | exact puL | exact puN | exact a_len_str rfl (fT rfl) | exact puC | exact a_add rfl rfl (by omega) (by omega) | exact puI); exact rfl) | refine cd ?_ | (apply w3; (first | exact a_st_bx rfl rfl rfl rfl (fN rfl rfl) (Nat.le_of_ble_eq_true rfl) rfl | exact a_stF (E := eV) ⟨⟨_, _, _⟩, ⟨_, _, _⟩⟩ rfl rfl rfl rfl (fN rfl rfl) (Nat.le_of_ble_eq_true rfl) (Nat.le_of_ble_eq_true rfl) (by first | exact List.getElem?_set_self bnd | exact List.getElem?_eq_getElem bnd) (by (try dsimp only [setRow, List.set_cons_succ, List.set_cons_zero]); first | done | exact rfl) rfl | exact a_stE (E := eVo) (some ⟨⟨_, _, _⟩, ⟨_, _, _⟩⟩) rfl rfl rfl rfl (fN rfl rfl) bnd (by exact rfl)); exact rfl; refine dS ?_) | (apply c4 3; exact callK1 (θ := []) (hD := (toVerdictn_ok _ preD8)); exact rfl; exact rfl; exact rfl; refine dM ?_) | ((first | refine o_gs rfl rfl (fun hc => ?_) (fun hc => ?_) | refine g_cond rfl (fun hc => ?_) (fun hc => ?_)) <;> (try simp only [dcB] at hc) <;> (try first | contradiction | (exfalso; omega)))
  first | refine g_conv (t_nilR (i := 0) (E' := eVn) verd0 rfl (by repeat (first | exact trivial | exact nilOwn (by decide) | exact (fun _ _ _ _ h => h) | refine And.intro ?_ ?_))) ?_ | refine o_conv (t_nilR (i := 0) (E' := eVn) verd0 rfl (by repeat (first | exact trivial | exact nilOwn (by decide) | exact (fun _ _ _ _ h => h) | refine And.intro ?_ ?_))) ?_
  refine g_loop_id ?_
  refine loopK [0, 2, 3] [0] (fun x : Int × List Verd => 0 ≤ x.1 ∧ x.1 ≤ xs.length ∧ x.2.length = xs.length ∧ ∀ k (h : k < xs.length), k < x.1 → x.2[k]? = some xs[k]) (fun x => [(4, .one (int x.1))]) (fun x => [(0, roVn x.2)]) (fun x => (xs.length - x.1).toNat) ((0 : Int), List.replicate xs.length verd0) [0] (hI := ?_) (hr := ?_)
  · exact ⟨by simp, by simp, by simp, by intro k h h'; simp at h'; omega⟩
  · rintro ⟨i, l⟩ ⟨h0, h1, h2, h3⟩
    dsimp only [List.cons_append, List.nil_append] at *
    skip
    repeat' first | (apply p3; (first | exact pu1 | exact puN | exact a_len_str rfl (fT rfl) | exact puC); exact rfl) | refine cdn ?_ | refine g_reg (id := 3) ?_ | refine g_reg (id := 6) ?_ | ((first | refine o_gs rfl rfl (fun hc => ?_) (fun hc => ?_) | refine g_cond rfl (fun hc => ?_) (fun hc => ?_)) <;> (try simp only [dcB] at hc) <;> (try first | contradiction | (exfalso; omega)))
    · first | refine g_conv (t_qE (i := 0) (i.toNat) bnd rfl) ?_ | refine o_conv (t_qE (i := 0) (i.toNat) bnd rfl) ?_
      try dsimp only [List.map_cons, List.map_nil, List.set_cons_zero, List.set_cons_succ, List.length_cons, List.length_nil, List.cons_append, List.nil_append, Nat.reduceAdd, setRow]
      repeat' first | (apply p3; (first | exact pu1 | exact puL | exact puN | exact a_len_str rfl (fT rfl) | exact puC | exact puX | exact puQ | exact puI); exact rfl) | refine cdn ?_ | refine g_reg (id := 3) ?_ | refine g_reg (id := 5) ?_ | refine g_reg (id := 6) ?_ | (apply w3; (first | exact a_st_bx rfl rfl rfl rfl (fN rfl rfl) (Nat.le_of_ble_eq_true rfl) rfl | exact a_stQE 0 rfl rfl rfl rfl (fN rfl rfl) (Nat.le_of_ble_eq_true rfl) (Nat.le_of_ble_eq_true rfl) rfl bnd bnd | exact a_stQE 1 rfl rfl rfl rfl (fN rfl rfl) (Nat.le_of_ble_eq_true rfl) (Nat.le_of_ble_eq_true rfl) rfl bnd bnd | exact a_stQE 2 rfl rfl rfl rfl (fN rfl rfl) (Nat.le_of_ble_eq_true rfl) (Nat.le_of_ble_eq_true rfl) rfl bnd bnd | exact a_stQE 3 rfl rfl rfl rfl (fN rfl rfl) (Nat.le_of_ble_eq_true rfl) (Nat.le_of_ble_eq_true rfl) rfl bnd bnd | exact a_stQE 4 rfl rfl rfl rfl (fN rfl rfl) (Nat.le_of_ble_eq_true rfl) (Nat.le_of_ble_eq_true rfl) rfl bnd bnd | exact a_stQE 5 rfl rfl rfl rfl (fN rfl rfl) (Nat.le_of_ble_eq_true rfl) (Nat.le_of_ble_eq_true rfl) rfl bnd bnd | exact a_stQE 6 rfl rfl rfl rfl (fN rfl rfl) (Nat.le_of_ble_eq_true rfl) (Nat.le_of_ble_eq_true rfl) rfl bnd bnd | exact a_stQE 7 rfl rfl rfl rfl (fN rfl rfl) (Nat.le_of_ble_eq_true rfl) (Nat.le_of_ble_eq_true rfl) rfl bnd bnd | exact a_stF (E := eV) ⟨⟨_, _, _⟩, ⟨_, _, _⟩⟩ rfl rfl rfl rfl (fN rfl rfl) (Nat.le_of_ble_eq_true rfl) (Nat.le_of_ble_eq_true rfl) (by first | exact List.getElem?_set_self bnd | exact List.getElem?_eq_getElem bnd) (by (try dsimp only [setRow, List.set_cons_succ, List.set_cons_zero]); first | done | exact rfl) rfl | exact a_stE (E := eVo) (some ⟨⟨_, _, _⟩, ⟨_, _, _⟩⟩) rfl rfl rfl rfl (fN rfl rfl) bnd (by exact rfl)); exact rfl; refine dS ?_) | (apply c4 3; exact callK1 (θ := []) (hD := (toVerdictn_ok _ preD8)); exact rfl; exact rfl; exact rfl; refine dM ?_) | ((first | refine o_gs rfl rfl (fun hc => ?_) (fun hc => ?_) | refine g_cond rfl (fun hc => ?_) (fun hc => ?_)) <;> (try simp only [dcB] at hc) <;> (try first | contradiction | (exfalso; omega)))
      first | refine g_conv (t_close1 (i := 0) (j := 1) (k := 2) (m := 0) rfl rfl rfl rfl rfl) ?_ | refine o_conv (t_close1 (i := 0) (j := 1) (k := 2) (m := 0) rfl rfl rfl rfl rfl) ?_
      try dsimp only [List.map_cons, List.map_nil, List.set_cons_zero, List.set_cons_succ, List.length_cons, List.length_nil, List.cons_append, List.nil_append, Nat.reduceAdd, setRow]
      first | refine g_conv (t_close1 (i := 0) (j := 2) (k := 4) (m := 1) rfl rfl rfl rfl rfl) ?_ | refine o_conv (t_close1 (i := 0) (j := 2) (k := 4) (m := 1) rfl rfl rfl rfl rfl) ?_
      try dsimp only [List.map_cons, List.map_nil, List.set_cons_zero, List.set_cons_succ, List.length_cons, List.length_nil, List.cons_append, List.nil_append, Nat.reduceAdd, setRow]
      first | refine g_conv (t_close1 (i := 0) (j := 3) (k := 5) (m := 2) rfl rfl rfl rfl rfl) ?_ | refine o_conv (t_close1 (i := 0) (j := 3) (k := 5) (m := 2) rfl rfl rfl rfl rfl) ?_
      try dsimp only [List.map_cons, List.map_nil, List.set_cons_zero, List.set_cons_succ, List.length_cons, List.length_nil, List.cons_append, List.nil_append, Nat.reduceAdd, setRow]
      first | refine g_conv (t_uE (i := 0) (xs[i.toNat]'(by omega)) bnd rfl rfl) ?_ | refine o_conv (t_uE (i := 0) (xs[i.toNat]'(by omega)) bnd rfl rfl) ?_
      repeat' first | (apply p3; (first | exact pu1 | exact puL | exact puN | exact a_len_str rfl (fT rfl) | exact puC | exact puX | exact puQ | exact a_add rfl rfl (by omega) (by omega) | exact puI); exact rfl) | refine cd ?_ | (apply w3; (first | exact a_st_bx rfl rfl rfl rfl (fN rfl rfl) (Nat.le_of_ble_eq_true rfl) rfl | exact a_stQE 0 rfl rfl rfl rfl (fN rfl rfl) (Nat.le_of_ble_eq_true rfl) (Nat.le_of_ble_eq_true rfl) rfl bnd bnd | exact a_stQE 1 rfl rfl rfl rfl (fN rfl rfl) (Nat.le_of_ble_eq_true rfl) (Nat.le_of_ble_eq_true rfl) rfl bnd bnd | exact a_stQE 2 rfl rfl rfl rfl (fN rfl rfl) (Nat.le_of_ble_eq_true rfl) (Nat.le_of_ble_eq_true rfl) rfl bnd bnd | exact a_stQE 3 rfl rfl rfl rfl (fN rfl rfl) (Nat.le_of_ble_eq_true rfl) (Nat.le_of_ble_eq_true rfl) rfl bnd bnd | exact a_stQE 4 rfl rfl rfl rfl (fN rfl rfl) (Nat.le_of_ble_eq_true rfl) (Nat.le_of_ble_eq_true rfl) rfl bnd bnd | exact a_stQE 5 rfl rfl rfl rfl (fN rfl rfl) (Nat.le_of_ble_eq_true rfl) (Nat.le_of_ble_eq_true rfl) rfl bnd bnd | exact a_stQE 6 rfl rfl rfl rfl (fN rfl rfl) (Nat.le_of_ble_eq_true rfl) (Nat.le_of_ble_eq_true rfl) rfl bnd bnd | exact a_stQE 7 rfl rfl rfl rfl (fN rfl rfl) (Nat.le_of_ble_eq_true rfl) (Nat.le_of_ble_eq_true rfl) rfl bnd bnd | exact a_stF (E := eV) ⟨⟨_, _, _⟩, ⟨_, _, _⟩⟩ rfl rfl rfl rfl (fN rfl rfl) (Nat.le_of_ble_eq_true rfl) (Nat.le_of_ble_eq_true rfl) (by first | exact List.getElem?_set_self bnd | exact List.getElem?_eq_getElem bnd) (by (try dsimp only [setRow, List.set_cons_succ, List.set_cons_zero]); first | done | exact rfl) rfl | exact a_stE (E := eVo) (some ⟨⟨_, _, _⟩, ⟨_, _, _⟩⟩) rfl rfl rfl rfl (fN rfl rfl) bnd (by exact rfl)); exact rfl; refine dS ?_) | (apply c4 3; exact callK1 (θ := []) (hD := (toVerdictn_ok _ preD8)); exact rfl; exact rfl; exact rfl; refine dM ?_) | ((first | refine o_gs rfl rfl (fun hc => ?_) (fun hc => ?_) | refine g_cond rfl (fun hc => ?_) (fun hc => ?_)) <;> (try simp only [dcB] at hc) <;> (try first | contradiction | (exfalso; omega)))
      refine q_again (i + 1, l.set i.toNat (xs[i.toNat]'(by omega))) [0] (by exact stk) ?_ ?_
      · refine ⟨by dsimp only; omega, by dsimp only; omega, by simp [h2], fun k h h' => ?_⟩
        dsimp only at h' ⊢
        rw [List.getElem?_set]
        split
        · rename_i e
          subst e
          rw [if_pos (by omega)]
        · exact h3 k h (by omega)
      · dsimp only; omega
    · have hl : l = xs := by
        apply List.ext_getElem?
        intro k
        by_cases hk : k < xs.length
        · rw [h3 k hk (by omega), List.getElem?_eq_getElem hk]
        · rw [List.getElem?_eq_none (by omega), List.getElem?_eq_none (by omega)]
      subst hl
      repeat' first | (apply p3; (first | exact pu1 | exact puL | exact puN | exact a_len_str rfl (fT rfl) | exact puC | exact puX | exact puQ | exact a_add rfl rfl (by omega) (by omega) | exact puI); exact rfl) | refine cd ?_ | (apply w3; (first | exact a_st_bx rfl rfl rfl rfl (fN rfl rfl) (Nat.le_of_ble_eq_true rfl) rfl | exact a_stQE 0 rfl rfl rfl rfl (fN rfl rfl) (Nat.le_of_ble_eq_true rfl) (Nat.le_of_ble_eq_true rfl) rfl bnd bnd | exact a_stQE 1 rfl rfl rfl rfl (fN rfl rfl) (Nat.le_of_ble_eq_true rfl) (Nat.le_of_ble_eq_true rfl) rfl bnd bnd | exact a_stQE 2 rfl rfl rfl rfl (fN rfl rfl) (Nat.le_of_ble_eq_true rfl) (Nat.le_of_ble_eq_true rfl) rfl bnd bnd | exact a_stQE 3 rfl rfl rfl rfl (fN rfl rfl) (Nat.le_of_ble_eq_true rfl) (Nat.le_of_ble_eq_true rfl) rfl bnd bnd | exact a_stQE 4 rfl rfl rfl rfl (fN rfl rfl) (Nat.le_of_ble_eq_true rfl) (Nat.le_of_ble_eq_true rfl) rfl bnd bnd | exact a_stQE 5 rfl rfl rfl rfl (fN rfl rfl) (Nat.le_of_ble_eq_true rfl) (Nat.le_of_ble_eq_true rfl) rfl bnd bnd | exact a_stQE 6 rfl rfl rfl rfl (fN rfl rfl) (Nat.le_of_ble_eq_true rfl) (Nat.le_of_ble_eq_true rfl) rfl bnd bnd | exact a_stQE 7 rfl rfl rfl rfl (fN rfl rfl) (Nat.le_of_ble_eq_true rfl) (Nat.le_of_ble_eq_true rfl) rfl bnd bnd | exact a_stF (E := eV) ⟨⟨_, _, _⟩, ⟨_, _, _⟩⟩ rfl rfl rfl rfl (fN rfl rfl) (Nat.le_of_ble_eq_true rfl) (Nat.le_of_ble_eq_true rfl) (by first | exact List.getElem?_set_self bnd | exact List.getElem?_eq_getElem bnd) (by (try dsimp only [setRow, List.set_cons_succ, List.set_cons_zero]); first | done | exact rfl) rfl | exact a_stE (E := eVo) (some ⟨⟨_, _, _⟩, ⟨_, _, _⟩⟩) rfl rfl rfl rfl (fN rfl rfl) bnd (by exact rfl)); exact rfl; refine dS ?_) | (apply c4 3; exact callK1 (θ := []) (hD := (toVerdictn_ok _ preD8)); exact rfl; exact rfl; exact rfl; refine dM ?_) | ((first | refine o_gs rfl rfl (fun hc => ?_) (fun hc => ?_) | refine g_cond rfl (fun hc => ?_) (fun hc => ?_)) <;> (try simp only [dcB] at hc) <;> (try first | contradiction | (exfalso; omega)))
      repeat refine cr ?_
      refine ends_id ?_
      refine endK [?_] (h2 := ?_) (h3 := ?_) (nd := ?_)
      rotate_left 1
      all_goals (repeat' first | exact ce0 | refine ce ?_ | refine ce2 ?_ ?_ | exact SVLe.refl | refine ceb ?_)
      all_goals first | exact (show nodupB _ = true from rfl) | exact Or.inr rfl | (rfl)
@[irreducible] def szv (v : Verd) : Int := 3 + 3 * v.m.ru.length + v.p.nu.length + totW v.p.wo
@[irreducible] def mkv (k : Int) (v : Verd) : Verd := ⟨⟨k, k + 1, marksR (k + 1 + 1) v.m.ru.length⟩, ⟨k + 1 + 1 + 3 * v.m.ru.length, marks (k + 1 + 1 + 3 * v.m.ru.length + 1) v.p.nu.length, mksW (k + 1 + 1 + 3 * v.m.ru.length + 1 + v.p.nu.length) v.p.wo⟩⟩
@[irreducible] def totV (xs : List Verd) : Int := totL szv xs
@[irreducible] def mksV (k : Int) (xs : List Verd) : List Verd := mkL szv mkv k xs
theorem totW_bd {xs : List (List Int)} (b : Int) (h : ∀ x ∈ xs, (x.length : Int) ≤ b) : 0 ≤ totW xs ∧ totW xs ≤ xs.length * b := by
  unfold totW
  exact totL_bd szw b fun x hx => ⟨by unfold szw; omega, h x hx⟩
theorem szv_bd {v : Verd} (g : BigOk v) : 0 ≤ szv v ∧ szv v ≤ 1099517000000 := by
  obtain ⟨g1, g2, g3, g4⟩ := g
  have h := totW_bd 1048576 g4
  unfold szv
  omega
theorem totV_bd {xs : List Verd} (g : ∀ v ∈ xs, BigOk v) : 0 ≤ totL szv xs ∧ totL szv xs ≤ xs.length * 1099517000000 := totL_bd szv _ fun v hv => szv_bd (g v hv)
theorem markVerdictSn_ok (xs : List Verd) (k : Int) (g : BgsOk xs) (h1 : 0 ≤ k) (h2 : k ≤ 1152921504606846976) : Does Tryz.prog 17 [.one (.gv 0), .one (int k)] [roVn xs] (.one (int (k + totV xs))) [roVn (mksV k xs)] := by
  have hx := g.n
  refine does_of (k := 1) Tryz.func17 rfl Tryz.ntmps17 rfl rfl fun w F0 S0 ρ0 => ?_
  dsimp only [argT, argH]
  repeat' first | (apply p3; (first | exact a_fa_immT 3 (T := 88) (f := 0) (off := 0) rfl (by kernel_rfl) rfl | exact a_fa_immT 3 (T := 88) (f := 1) (off := 3) rfl (by kernel_rfl) rfl | exact pu1 | exact puL | exact puN | exact a_len_str rfl (fT rfl) | exact puC | exact a_add rfl rfl (by omega) (by omega) | exact puI); exact rfl) | refine cd ?_ | (apply w3; (first | exact a_st_bx rfl rfl rfl rfl (fN rfl rfl) (Nat.le_of_ble_eq_true rfl) rfl | exact a_st_rowI rfl rfl rfl rfl (fN rfl rfl) bnd | exact a_stE (E := eI) _ rfl rfl rfl rfl (fN rfl rfl) bnd (by exact rfl) | exact a_stF (E := eV) ⟨⟨_, _, _⟩, ⟨_, _, _⟩⟩ rfl rfl rfl rfl (fN rfl rfl) (Nat.le_of_ble_eq_true rfl) (Nat.le_of_ble_eq_true rfl) (by first | exact List.getElem?_set_self bnd | exact List.getElem?_eq_getElem bnd) (by (try dsimp only [setRow, List.set_cons_succ, List.set_cons_zero]); first | done | exact rfl) rfl); exact rfl; refine dS ?_) | (apply c4 0; exact callK1 (θ := [_]) (hD := (markRuleS_ok _ _ preD8 preD8 preD8)); exact rfl; exact rfl; exact rfl; refine dM ?_) | (apply c4 0; exact callK1 (θ := [_]) (hD := (markInt64S_ok _ _ preD8 preD8 preD8)); exact rfl; exact rfl; exact rfl; refine dM ?_) | (apply c4 0; exact callK0 (θ := [_]) (hD := (markInt64SS0_ok _)); exact rfl; exact rfl; exact rfl; refine dM ?_) | (apply c4 0; exact callK1 (θ := [_]) (hD := (markInt64SSn_ok _ _ preD8 preD8 preD8 preD8)); exact rfl; exact rfl; exact rfl; refine dM ?_) | ((first | refine o_gs rfl rfl (fun hc => ?_) (fun hc => ?_) | refine g_cond rfl (fun hc => ?_) (fun hc => ?_)) <;> (try simp only [dcB] at hc) <;> (try first | contradiction | (exfalso; omega)))
  refine g_loop_id ?_
  refine loopK [0, 4] [0] (fun y : Int × Int × List Verd => 0 ≤ y.1 ∧ y.1 ≤ xs.length ∧ y.2.1 = k + totL szv (xs.take y.1.toNat) ∧ y.2.2 = mkT szv mkv k xs y.1.toNat) (fun y => [(5, .one (int y.1)), (1, .one (int y.2.1))]) (fun y => [(0, roVn y.2.2)]) (fun y => (xs.length - y.1).toNat) ((0 : Int), k, xs) [0] (hI := ?_) (hr := ?_)
  · exact ⟨by simp, by simp, by simp [totL], (mkT_0 _ _ _ _).symm⟩
  · rintro ⟨i, k', l⟩ ⟨k1, k2, k3, k4⟩
    dsimp only [List.cons_append, List.nil_append] at *
    skip
    repeat' first | (apply p3; (first | exact pu1 | exact puN | exact a_len_str rfl (fT rfl) | exact puC); exact rfl) | refine cdn ?_ | refine g_reg (id := 2) ?_ | refine g_reg (id := 13) ?_ | ((first | refine o_gs rfl rfl (fun hc => ?_) (fun hc => ?_) | refine g_cond rfl (fun hc => ?_) (fun hc => ?_)) <;> (try simp only [dcB] at hc) <;> (try first | contradiction | (exfalso; omega)))
    · have hl := mkT_len szv mkv k xs i.toNat (by omega)
      rw [← k4] at hl
      have hi : i.toNat < xs.length := by omega
      have hg : l[i.toNat]'(by omega) = xs[i.toNat] := by subst k4; exact mkT_get _ _ _ _ _ hi _
      have hb := totV_bd (xs := xs.take i.toNat) (fun x hx => g.a x (List.mem_of_mem_take hx))
      have hv := bgs_at g hi
      obtain ⟨v1, v2, v3, v4⟩ := hv
      have hw := totW_bd 1048576 v4
      have v5 : ∀ x ∈ xs[i.toNat].p.wo, (x.length : Int) ≤ 4611686018427 := fun x hx => by have := v4 x hx; omega
      have hn := totL_next szv k1 (xs := xs) hi
      have hs : szv xs[i.toNat] = 3 + 3 * xs[i.toNat].m.ru.length + xs[i.toNat].p.nu.length + totW xs[i.toNat].p.wo := by unfold szv; rfl
      have hlt : (xs.take i.toNat).length ≤ 1048576 := by rw [List.length_take]; omega
      first | refine g_conv (t_qE (i := 0) (i.toNat) bnd rfl) ?_ | refine o_conv (t_qE (i := 0) (i.toNat) bnd rfl) ?_
      try dsimp only [List.map_cons, List.map_nil, List.set_cons_zero, List.set_cons_succ, List.length_cons, List.length_nil, List.cons_append, List.nil_append, Nat.reduceAdd, setRow]
      first | refine g_conv (t_open1 (i := 0) (k := 2) rfl rfl rfl) ?_ | refine o_conv (t_open1 (i := 0) (k := 2) rfl rfl rfl) ?_
      try dsimp only [List.map_cons, List.map_nil, List.set_cons_zero, List.set_cons_succ, List.length_cons, List.length_nil, List.cons_append, List.nil_append, Nat.reduceAdd, setRow]
      first | refine g_conv (t_open1 (i := 0) (k := 4) rfl rfl rfl) ?_ | refine o_conv (t_open1 (i := 0) (k := 4) rfl rfl rfl) ?_
      try dsimp only [List.map_cons, List.map_nil, List.set_cons_zero, List.set_cons_succ, List.length_cons, List.length_nil, List.cons_append, List.nil_append, Nat.reduceAdd, setRow]
      first | refine g_conv (t_open1 (i := 0) (k := 5) rfl rfl rfl) ?_ | refine o_conv (t_open1 (i := 0) (k := 5) rfl rfl rfl) ?_
      try dsimp only [List.map_cons, List.map_nil, List.set_cons_zero, List.set_cons_succ, List.length_cons, List.length_nil, List.cons_append, List.nil_append, Nat.reduceAdd, setRow]
      simp only [hg]
      generalize hxv : xs[i.toNat] = v at *
      have hmk : mkv k' v = ⟨⟨k', k' + 1, marksR (k' + 1 + 1) v.m.ru.length⟩, ⟨k' + 1 + 1 + 3 * v.m.ru.length, marks (k' + 1 + 1 + 3 * v.m.ru.length + 1) v.p.nu.length, mksW (k' + 1 + 1 + 3 * v.m.ru.length + 1 + v.p.nu.length) v.p.wo⟩⟩ := by unfold mkv; rfl
      repeat' first | (apply p3; (first | exact a_fa_immT 3 (T := 88) (f := 0) (off := 0) rfl (by kernel_rfl) rfl | exact a_fa_immT 3 (T := 88) (f := 1) (off := 3) rfl (by kernel_rfl) rfl | exact pu1 | exact puL | exact puN | exact a_len_str rfl (fT rfl) | exact puC | exact puX | exact a_add rfl rfl (by omega) (by omega) | exact puQ | exact puI); exact rfl) | refine cdn ?_ | refine g_reg (id := 2) ?_ | refine g_reg (id := 4) ?_ | refine g_reg (id := 5) ?_ | refine g_reg (id := 6) ?_ | refine g_reg (id := 7) ?_ | refine g_reg (id := 8) ?_ | refine g_reg (id := 9) ?_ | refine g_reg (id := 10) ?_ | refine g_reg (id := 11) ?_ | refine g_reg (id := 12) ?_ | refine g_reg (id := 13) ?_ | (apply w3; (first | exact a_st_bx rfl rfl rfl rfl (fN rfl rfl) (Nat.le_of_ble_eq_true rfl) rfl | exact a_stQE 0 rfl rfl rfl rfl (fN rfl rfl) (Nat.le_of_ble_eq_true rfl) (Nat.le_of_ble_eq_true rfl) rfl bnd bnd | exact a_stQE 1 rfl rfl rfl rfl (fN rfl rfl) (Nat.le_of_ble_eq_true rfl) (Nat.le_of_ble_eq_true rfl) rfl bnd bnd | exact a_stQE 2 rfl rfl rfl rfl (fN rfl rfl) (Nat.le_of_ble_eq_true rfl) (Nat.le_of_ble_eq_true rfl) rfl bnd bnd | exact a_stQE 3 rfl rfl rfl rfl (fN rfl rfl) (Nat.le_of_ble_eq_true rfl) (Nat.le_of_ble_eq_true rfl) rfl bnd bnd | exact a_stQE 4 rfl rfl rfl rfl (fN rfl rfl) (Nat.le_of_ble_eq_true rfl) (Nat.le_of_ble_eq_true rfl) rfl bnd bnd | exact a_stQE 5 rfl rfl rfl rfl (fN rfl rfl) (Nat.le_of_ble_eq_true rfl) (Nat.le_of_ble_eq_true rfl) rfl bnd bnd | exact a_stQE 6 rfl rfl rfl rfl (fN rfl rfl) (Nat.le_of_ble_eq_true rfl) (Nat.le_of_ble_eq_true rfl) rfl bnd bnd | exact a_stQE 7 rfl rfl rfl rfl (fN rfl rfl) (Nat.le_of_ble_eq_true rfl) (Nat.le_of_ble_eq_true rfl) rfl bnd bnd | exact a_st_rowI rfl rfl rfl rfl (fN rfl rfl) bnd | exact a_stE (E := eI) _ rfl rfl rfl rfl (fN rfl rfl) bnd (by exact rfl) | exact a_stF (E := eV) ⟨⟨_, _, _⟩, ⟨_, _, _⟩⟩ rfl rfl rfl rfl (fN rfl rfl) (Nat.le_of_ble_eq_true rfl) (Nat.le_of_ble_eq_true rfl) (by first | exact List.getElem?_set_self bnd | exact List.getElem?_eq_getElem bnd) (by (try dsimp only [setRow, List.set_cons_succ, List.set_cons_zero]); first | done | exact rfl) rfl); exact rfl; refine dS ?_) | (apply c4 0; exact callK1 (θ := [_]) (hD := (markRuleS_ok _ _ preD8 preD8 preD8)); exact rfl; exact rfl; exact rfl; refine dM ?_) | (apply c4 0; exact callK1 (θ := [_]) (hD := (markInt64S_ok _ _ preD8 preD8 preD8)); exact rfl; exact rfl; exact rfl; refine dM ?_) | (apply c4 0; exact callK0 (θ := [_]) (hD := (markInt64SS0_ok _)); exact rfl; exact rfl; exact rfl; refine dM ?_) | (apply c4 0; exact callK1 (θ := [_]) (hD := (markInt64SSn_ok _ _ preD8 preD8 preD8 preD8)); exact rfl; exact rfl; exact rfl; refine dM ?_) | ((first | refine o_gs rfl rfl (fun hc => ?_) (fun hc => ?_) | refine g_cond rfl (fun hc => ?_) (fun hc => ?_)) <;> (try simp only [dcB] at hc) <;> (try first | contradiction | (exfalso; omega)))
      first | refine g_conv (t_close1 (i := 0) (j := 1) (k := 2) (m := 0) rfl rfl rfl rfl rfl) ?_ | refine o_conv (t_close1 (i := 0) (j := 1) (k := 2) (m := 0) rfl rfl rfl rfl rfl) ?_
      try dsimp only [List.map_cons, List.map_nil, List.set_cons_zero, List.set_cons_succ, List.length_cons, List.length_nil, List.cons_append, List.nil_append, Nat.reduceAdd, setRow]
      first | refine g_conv (t_close1 (i := 0) (j := 2) (k := 4) (m := 1) rfl rfl rfl rfl rfl) ?_ | refine o_conv (t_close1 (i := 0) (j := 2) (k := 4) (m := 1) rfl rfl rfl rfl rfl) ?_
      try dsimp only [List.map_cons, List.map_nil, List.set_cons_zero, List.set_cons_succ, List.length_cons, List.length_nil, List.cons_append, List.nil_append, Nat.reduceAdd, setRow]
      first | refine g_conv (t_close1 (i := 0) (j := 3) (k := 5) (m := 2) rfl rfl rfl rfl rfl) ?_ | refine o_conv (t_close1 (i := 0) (j := 3) (k := 5) (m := 2) rfl rfl rfl rfl rfl) ?_
      try dsimp only [List.map_cons, List.map_nil, List.set_cons_zero, List.set_cons_succ, List.length_cons, List.length_nil, List.cons_append, List.nil_append, Nat.reduceAdd, setRow]
      first | refine g_conv (t_uE (i := 0) (⟨⟨k', k' + 1, marksR (k' + 1 + 1) v.m.ru.length⟩, ⟨k' + 1 + 1 + 3 * v.m.ru.length, marks (k' + 1 + 1 + 3 * v.m.ru.length + 1) v.p.nu.length, mksW (k' + 1 + 1 + 3 * v.m.ru.length + 1 + v.p.nu.length) v.p.wo⟩⟩ : Verd) bnd rfl rfl) ?_ | refine o_conv (t_uE (i := 0) (⟨⟨k', k' + 1, marksR (k' + 1 + 1) v.m.ru.length⟩, ⟨k' + 1 + 1 + 3 * v.m.ru.length, marks (k' + 1 + 1 + 3 * v.m.ru.length + 1) v.p.nu.length, mksW (k' + 1 + 1 + 3 * v.m.ru.length + 1 + v.p.nu.length) v.p.wo⟩⟩ : Verd) bnd rfl rfl) ?_
      repeat' first | (apply p3; (first | exact a_fa_immT 3 (T := 88) (f := 0) (off := 0) rfl (by kernel_rfl) rfl | exact a_fa_immT 3 (T := 88) (f := 1) (off := 3) rfl (by kernel_rfl) rfl | exact pu1 | exact puL | exact puN | exact a_len_str rfl (fT rfl) | exact puC | exact puX | exact a_add rfl rfl (by omega) (by omega) | exact puQ | exact puI); exact rfl) | refine cd ?_ | (apply w3; (first | exact a_st_bx rfl rfl rfl rfl (fN rfl rfl) (Nat.le_of_ble_eq_true rfl) rfl | exact a_stQE 0 rfl rfl rfl rfl (fN rfl rfl) (Nat.le_of_ble_eq_true rfl) (Nat.le_of_ble_eq_true rfl) rfl bnd bnd | exact a_stQE 1 rfl rfl rfl rfl (fN rfl rfl) (Nat.le_of_ble_eq_true rfl) (Nat.le_of_ble_eq_true rfl) rfl bnd bnd | exact a_stQE 2 rfl rfl rfl rfl (fN rfl rfl) (Nat.le_of_ble_eq_true rfl) (Nat.le_of_ble_eq_true rfl) rfl bnd bnd | exact a_stQE 3 rfl rfl rfl rfl (fN rfl rfl) (Nat.le_of_ble_eq_true rfl) (Nat.le_of_ble_eq_true rfl) rfl bnd bnd | exact a_stQE 4 rfl rfl rfl rfl (fN rfl rfl) (Nat.le_of_ble_eq_true rfl) (Nat.le_of_ble_eq_true rfl) rfl bnd bnd | exact a_stQE 5 rfl rfl rfl rfl (fN rfl rfl) (Nat.le_of_ble_eq_true rfl) (Nat.le_of_ble_eq_true rfl) rfl bnd bnd | exact a_stQE 6 rfl rfl rfl rfl (fN rfl rfl) (Nat.le_of_ble_eq_true rfl) (Nat.le_of_ble_eq_true rfl) rfl bnd bnd | exact a_stQE 7 rfl rfl rfl rfl (fN rfl rfl) (Nat.le_of_ble_eq_true rfl) (Nat.le_of_ble_eq_true rfl) rfl bnd bnd | exact a_st_rowI rfl rfl rfl rfl (fN rfl rfl) bnd | exact a_stE (E := eI) _ rfl rfl rfl rfl (fN rfl rfl) bnd (by exact rfl) | exact a_stF (E := eV) ⟨⟨_, _, _⟩, ⟨_, _, _⟩⟩ rfl rfl rfl rfl (fN rfl rfl) (Nat.le_of_ble_eq_true rfl) (Nat.le_of_ble_eq_true rfl) (by first | exact List.getElem?_set_self bnd | exact List.getElem?_eq_getElem bnd) (by (try dsimp only [setRow, List.set_cons_succ, List.set_cons_zero]); first | done | exact rfl) rfl); exact rfl; refine dS ?_) | (apply c4 0; exact callK1 (θ := [_]) (hD := (markRuleS_ok _ _ preD8 preD8 preD8)); exact rfl; exact rfl; exact rfl; refine dM ?_) | (apply c4 0; exact callK1 (θ := [_]) (hD := (markInt64S_ok _ _ preD8 preD8 preD8)); exact rfl; exact rfl; exact rfl; refine dM ?_) | (apply c4 0; exact callK0 (θ := [_]) (hD := (markInt64SS0_ok _)); exact rfl; exact rfl; exact rfl; refine dM ?_) | (apply c4 0; exact callK1 (θ := [_]) (hD := (markInt64SSn_ok _ _ preD8 preD8 preD8 preD8)); exact rfl; exact rfl; exact rfl; refine dM ?_) | ((first | refine o_gs rfl rfl (fun hc => ?_) (fun hc => ?_) | refine g_cond rfl (fun hc => ?_) (fun hc => ?_)) <;> (try simp only [dcB] at hc) <;> (try first | contradiction | (exfalso; omega)))
      refine q_again (i + 1, _, l.set i.toNat _) [0] (by exact stk) ?_ ?_
      · refine ⟨by dsimp only; omega, by dsimp only; omega, by dsimp only; omega, ?_⟩
        dsimp only
        rw [show (i + 1).toNat = i.toNat + 1 by omega, ← mkT_next szv mkv k xs i.toNat hi, ← k3, ← k4, hxv, hmk]
      · dsimp only; omega
    · have hl := mkT_len szv mkv k xs i.toNat (by omega)
      rw [← k4] at hl
      have hi : i.toNat = xs.length := by omega
      rw [hi, mkT_end] at k4
      rw [hi, List.take_length] at k3
      have e1 : totV xs = totL szv xs := by unfold totV; rfl
      have e2 : mksV k xs = mkL szv mkv k xs := by unfold mksV; rfl
      rw [e1, e2, ← k3, ← k4]
      repeat' first | (apply p3; (first | exact a_fa_immT 3 (T := 88) (f := 0) (off := 0) rfl (by kernel_rfl) rfl | exact a_fa_immT 3 (T := 88) (f := 1) (off := 3) rfl (by kernel_rfl) rfl | exact pu1 | exact puL | exact puN | exact a_len_str rfl (fT rfl) | exact puC | exact puX | exact a_add rfl rfl (by omega) (by omega) | exact puQ | exact puI); exact rfl) | refine cd ?_ | (apply w3; (first | exact a_st_bx rfl rfl rfl rfl (fN rfl rfl) (Nat.le_of_ble_eq_true rfl) rfl | exact a_stQE 0 rfl rfl rfl rfl (fN rfl rfl) (Nat.le_of_ble_eq_true rfl) (Nat.le_of_ble_eq_true rfl) rfl bnd bnd | exact a_stQE 1 rfl rfl rfl rfl (fN rfl rfl) (Nat.le_of_ble_eq_true rfl) (Nat.le_of_ble_eq_true rfl) rfl bnd bnd | exact a_stQE 2 rfl rfl rfl rfl (fN rfl rfl) (Nat.le_of_ble_eq_true rfl) (Nat.le_of_ble_eq_true rfl) rfl bnd bnd | exact a_stQE 3 rfl rfl rfl rfl (fN rfl rfl) (Nat.le_of_ble_eq_true rfl) (Nat.le_of_ble_eq_true rfl) rfl bnd bnd | exact a_stQE 4 rfl rfl rfl rfl (fN rfl rfl) (Nat.le_of_ble_eq_true rfl) (Nat.le_of_ble_eq_true rfl) rfl bnd bnd | exact a_stQE 5 rfl rfl rfl rfl (fN rfl rfl) (Nat.le_of_ble_eq_true rfl) (Nat.le_of_ble_eq_true rfl) rfl bnd bnd | exact a_stQE 6 rfl rfl rfl rfl (fN rfl rfl) (Nat.le_of_ble_eq_true rfl) (Nat.le_of_ble_eq_true rfl) rfl bnd bnd | exact a_stQE 7 rfl rfl rfl rfl (fN rfl rfl) (Nat.le_of_ble_eq_true rfl) (Nat.le_of_ble_eq_true rfl) rfl bnd bnd | exact a_st_rowI rfl rfl rfl rfl (fN rfl rfl) bnd | exact a_stE (E := eI) _ rfl rfl rfl rfl (fN rfl rfl) bnd (by exact rfl) | exact a_stF (E := eV) ⟨⟨_, _, _⟩, ⟨_, _, _⟩⟩ rfl rfl rfl rfl (fN rfl rfl) (Nat.le_of_ble_eq_true rfl) (Nat.le_of_ble_eq_true rfl) (by first | exact List.getElem?_set_self bnd | exact List.getElem?_eq_getElem bnd) (by (try dsimp only [setRow, List.set_cons_succ, List.set_cons_zero]); first | done | exact rfl) rfl); exact rfl; refine dS ?_) | (apply c4 0; exact callK1 (θ := [_]) (hD := (markRuleS_ok _ _ preD8 preD8 preD8)); exact rfl; exact rfl; exact rfl; refine dM ?_) | (apply c4 0; exact callK1 (θ := [_]) (hD := (markInt64S_ok _ _ preD8 preD8 preD8)); exact rfl; exact rfl; exact rfl; refine dM ?_) | (apply c4 0; exact callK0 (θ := [_]) (hD := (markInt64SS0_ok _)); exact rfl; exact rfl; exact rfl; refine dM ?_) | (apply c4 0; exact callK1 (θ := [_]) (hD := (markInt64SSn_ok _ _ preD8 preD8 preD8 preD8)); exact rfl; exact rfl; exact rfl; refine dM ?_) | ((first | refine o_gs rfl rfl (fun hc => ?_) (fun hc => ?_) | refine g_cond rfl (fun hc => ?_) (fun hc => ?_)) <;> (try simp only [dcB] at hc) <;> (try first | contradiction | (exfalso; omega)))
      repeat refine cr ?_
      refine ends_id ?_
      refine endK [] (h2 := ?_) (h3 := ?_) (nd := ?_)
      all_goals (repeat' first | exact ce0 | refine ce ?_ | refine ce2 ?_ ?_ | (refine Or.inr (bx_eq rfl rfl ?_); (try dsimp only [C.ren, C.ren.all]); (try exact rfl)) | exact SVLe.refl | refine ceb ?_)
      all_goals first | exact (show nodupB _ = true from rfl) | exact Or.inr rfl | (rfl)
end Go.Proofs.YtbekdojhcokalaaGreatDoor
end
section
set_option linter.unusedVariables false
set_option linter.unusedSimpArgs false
set_option maxRecDepth 100000
set_option maxHeartbeats 4000000
namespace Go.Proofs.YtbekdojhcokalaaGreatDoor
open Go Foot
end Go.Proofs.YtbekdojhcokalaaGreatDoor
end
section
set_option linter.unusedVariables false
set_option linter.unusedSimpArgs false
set_option maxRecDepth 100000
set_option maxHeartbeats 4000000
namespace Go.Proofs.YtbekdojhcokalaaGreatDoor
open Go Foot
section
variable {m : Mach} {d n a b : Int} {c : Conf} {O : Option (Conf × Int × Int)}
end
end Go.Proofs.YtbekdojhcokalaaGreatDoor
end
section
set_option linter.unusedVariables false
set_option linter.unusedSimpArgs false
set_option maxRecDepth 100000
set_option maxHeartbeats 4000000
namespace Go.Proofs.YtbekdojhcokalaaGreatDoor
open Go Foot
end Go.Proofs.YtbekdojhcokalaaGreatDoor
end
section
set_option linter.unusedVariables false
set_option linter.unusedSimpArgs false
set_option maxRecDepth 100000
set_option maxHeartbeats 4000000
namespace Go.Proofs.YtbekdojhcokalaaGreatDoor
open Go Foot
/-- What a loop over the steps comes to. -/
structure ItOut (X : Type) where
  x : X
  j : Option Code
  c : Conf
section
variable {X : Type} {m : Mach} {bd : X → Conf × Int × Bool → X × Option Code} {b n : Int} {c : Conf} {x : X} {O : ItOut X} {k : Nat}
end
end Go.Proofs.YtbekdojhcokalaaGreatDoor
end
section
set_option linter.unusedVariables false
set_option linter.unusedSimpArgs false
set_option maxRecDepth 100000
set_option maxHeartbeats 4000000
namespace Go.Proofs.YtbekdojhcokalaaGreatDoor
open Go Foot
end Go.Proofs.YtbekdojhcokalaaGreatDoor
end
section
set_option linter.unusedVariables false
set_option linter.unusedSimpArgs false
set_option maxRecDepth 100000
set_option maxHeartbeats 4000000
namespace Go.Proofs.YtbekdojhcokalaaGreatDoor
open Go Foot
end Go.Proofs.YtbekdojhcokalaaGreatDoor
end
section
set_option linter.unusedVariables false
set_option linter.unusedSimpArgs false
set_option maxRecDepth 100000
set_option maxHeartbeats 4000000
namespace Go.Proofs.YtbekdojhcokalaaGreatDoor
open Go Foot
section
variable {m : Mach}
end
end Go.Proofs.YtbekdojhcokalaaGreatDoor
end
section
set_option linter.unusedVariables false
set_option linter.unusedSimpArgs false
set_option maxRecDepth 100000
set_option maxHeartbeats 4000000
namespace Go.Proofs.YtbekdojhcokalaaGreatDoor
open Go Foot
end Go.Proofs.YtbekdojhcokalaaGreatDoor
end
section
set_option linter.unusedVariables false
set_option linter.unusedSimpArgs false
set_option maxRecDepth 100000
set_option maxHeartbeats 4000000
namespace Go.Proofs.YtbekdojhcokalaaGreatDoor
open Go Foot
end Go.Proofs.YtbekdojhcokalaaGreatDoor
end
section
set_option linter.unusedVariables false
set_option linter.unusedSimpArgs false
set_option maxRecDepth 100000
set_option maxHeartbeats 4000000
namespace Go.Proofs.YtbekdojhcokalaaGreatDoor
open Go Foot
end Go.Proofs.YtbekdojhcokalaaGreatDoor
end
section
set_option linter.unusedVariables false
set_option linter.unusedSimpArgs false
set_option maxRecDepth 100000
set_option maxHeartbeats 4000000
namespace Go.Proofs.YtbekdojhcokalaaGreatDoor
open Go Foot
end Go.Proofs.YtbekdojhcokalaaGreatDoor
end
section
set_option linter.unusedVariables false
set_option linter.unusedSimpArgs false
set_option maxRecDepth 100000
set_option maxHeartbeats 4000000
namespace Go.Proofs.YtbekdojhcokalaaGreatDoor
open Go Foot
def ckF : List Verd → List Int → List Int
  | [], c => c
  | v :: r, c => ckF r (c.set v.p.k.toNat (c.getD v.p.k.toNat 0 + 1))
theorem ckF_step {l : List Verd} {i : Int} {c : List Int} (h0 : 0 ≤ i) (h : i < l.length) : ckF (l.drop i.toNat) c = ckF (l.drop (i + 1).toNat) (c.set (l[i.toNat]'(by omega)).p.k.toNat (c.getD (l[i.toNat]'(by omega)).p.k.toNat 0 + 1)) := by
  rw [List.drop_eq_getElem_cons (show i.toNat < l.length by omega), show (i + 1).toNat = i.toNat + 1 by omega, ckF]
theorem ckF_end {l : List Verd} {i : Int} {c : List Int} (h : ¬ i < l.length) : ckF (l.drop i.toNat) c = c := by
  rw [List.drop_eq_nil_of_le (by omega), ckF]
@[irreducible] def ckL (l : List Verd) : List Int := if okVs l = true then ckF l (List.replicate 9 0) else []
@[irreducible] def ckC (l : List Verd) : Int := if okVs l = true then 0 else 1
theorem okV_kind {v : Verd} (h : okV v = true) : 0 ≤ v.p.k ∧ v.p.k ≤ 8 := by
  unfold okV at h
  simp only [Bool.and_eq_true, Bool.or_eq_true] at h
  rcases h.1.2 with h | h
  · unfold isZ at h; simp only [decide_eq_true_eq] at h; omega
  · unfold validP at h; simp only [Bool.and_eq_true, decide_eq_true_eq] at h; omega
theorem okVs_all {l : List Verd} (h : okVs l = true) : (l.length : Int) ≤ 40 ∧ ∀ v ∈ l, okV v = true := by
  unfold okVs at h
  simp only [Bool.and_eq_true, decide_eq_true_eq, List.all_eq_true] at h
  exact h
/-- Counts so far. -/
structure CkOk (i : Int) (c : List Int) : Prop where
  n : c.length = 9
  b : ∀ k (h : k < c.length), 0 ≤ c[k] ∧ c[k] ≤ i
theorem ck0 : CkOk 0 (List.replicate 9 (0 : Int)) := ⟨by simp, fun k h => by
  have : (List.replicate 9 (0 : Int))[k]'h = 0 := List.getElem_replicate h
  omega⟩
theorem ck_next {i : Int} {c : List Int} (h0 : 0 ≤ i) (g : CkOk i c) (k : Nat) (h : k < c.length) : CkOk (i + 1) (c.set k (c[k] + 1)) := by
  refine ⟨by simp [g.n], fun j hj => ?_⟩
  rw [List.getElem_set]
  have h1 := g.b k h
  split
  · omega
  · have := g.b j (by simpa using hj); omega
theorem preB61 {p : Prop} (h : p := by first | with_reducible assumption | omega | (simp only [List.length_append, List.length_cons, List.length_nil, List.length_set, List.length_replicate, List.length_take, List.length_drop, List.length_tail, List.length_dropLast, List.length_reverse] at *; omega) | exact mem_len (by assumption) (by omega) | (with_reducible refine Int.le_trans (Int.ofNat_le.2 (trimR_len _)) ?_; simp only [List.length_cons, List.length_tail]; omega) | (exact (ruAt_ok (by assumption) (by assumption) (by assumption)).2.1) | (exact (ruAt_ok (by assumption) (by assumption) (by assumption)).2.1) | (have := vMach_bd (by assumption); omega) | (simp only [mC_ch, mC_tu]; omega) | (have := vTag_bd (by assumption); omega) | (have := (‹Gd _ _›).le; omega) | (exact tgHalts_no (by assumption)) | (exact tgHead (by assumption) (by assumption) (by assumption)) | (exact Int.le_trans (tgStep_gd (by assumption) (by assumption) (by assumption) (by assumption)).le (by decide)) | (exact vTag_r (by assumption)) | (with_reducible refine Int.le_trans (Int.ofNat_le.2 (pushL_len _ _)) ?_; simp only [List.length_dropLast]; omega) | exact ls_at (by assumption) (by omega) | exact (ask_ok (by assumption)).1 | exact (ask_ok (by assumption)).2.1 | exact (ask_ok (by assumption)).2.2.1 | exact (ask_ok (by assumption)).2.2.2 | trivial) : p := h
theorem iCountKinds_ok (l : List Verd) (g : LsGd l) : Does Tryz.prog 14 [.one (shV l)] [] (.tup [(false, [.gv 0]), (false, [int (ckC l)])]) [roI (ckL l)] := by
  have hx := g.n
  cases ho : okVs l with
  | false =>
    have e1 : ckL l = [] := by unfold ckL; rw [ho]; rfl
    have e2 : ckC l = 1 := by unfold ckC; rw [ho]; rfl
    rw [e1, e2]
    have ho2 : ¬ okVs l = true := by simp [ho]
    refine does_of (k := 0) Tryz.func14 rfl Tryz.ntmps14 rfl rfl fun w F0 S0 ρ0 => ?_
    dsimp only [argT, argH]
    repeat' first | (apply n3; exact a_nilO eI rfl; exact rfl) | (apply n3; (first | exact a_make (fE rfl) (fZ rfl) (fP rfl) (by decide) rfl rfl (by omega) rfl (by omega) (by omega) (rows_rep eI 0 _) | exact a_new (gb := .bx _) rfl); exact rfl; refine dA ?_) | (apply p3; (first | exact a_fa_immT 3 (T := 88) (f := 1) (off := 3) rfl (by kernel_rfl) rfl | exact pu1 | exact puL | exact puN | exact a_len_str rfl (fT rfl) | exact puC | exact a_add rfl rfl (by omega) (by omega) | exact puI); exact rfl) | refine cd ?_ | (apply w3; (first | exact a_st_bx rfl rfl rfl rfl (fN rfl rfl) (Nat.le_of_ble_eq_true rfl) rfl | exact a_stE (E := eV) ⟨⟨_, _, _⟩, ⟨_, _, _⟩⟩ rfl rfl rfl rfl (fN rfl rfl) bnd (by exact rfl) | exact a_st_rowI rfl rfl rfl rfl (fN rfl rfl) bnd | exact a_stE (E := eI) _ rfl rfl rfl rfl (fN rfl rfl) bnd (by exact rfl) | exact a_stF (E := eV) ⟨⟨_, _, _⟩, ⟨_, _, _⟩⟩ rfl rfl rfl rfl (fN rfl rfl) (Nat.le_of_ble_eq_true rfl) (Nat.le_of_ble_eq_true rfl) (by first | exact List.getElem?_set_self bnd | exact List.getElem?_eq_getElem bnd) (by (try dsimp only [setRow, List.set_cons_succ, List.set_cons_zero]); first | done | exact rfl) rfl); exact rfl; refine dS ?_) | (apply c4 0; exact callK1 (θ := []) (hD := (areVerdicts_ok _ preB61)); exact rfl; exact rfl; exact rfl; refine dM ?_) | ((first | refine o_gs rfl rfl (fun hc => ?_) (fun hc => ?_) | refine g_cond rfl (fun hc => ?_) (fun hc => ?_)) <;> (try simp only [dcB] at hc) <;> (try first | contradiction | (exfalso; omega)))
    repeat refine cr ?_
    refine ends_id ?_
    refine endK [?_] (h2 := ?_) (h3 := ?_) (nd := ?_)
    rotate_left 1
    all_goals (repeat' first | exact ce0 | refine ce ?_ | refine ce2 ?_ ?_ | (refine Or.inr (bx_eq rfl rfl ?_); (try dsimp only [C.ren, C.ren.all]); (try exact rfl)) | exact SVLe.refl | refine ceb ?_)
    all_goals first | exact (show nodupB _ = true from rfl) | exact Or.inr rfl | (rfl)
  | true =>
    have ho2 : ¬ okVs l = false := by simp [ho]
    have e1 : ckL l = ckF l (List.replicate 9 0) := by unfold ckL; rw [if_pos ho]
    have e2 : ckC l = 0 := by unfold ckC; rw [if_pos ho]
    obtain ⟨hl, ha⟩ := okVs_all ho
    rw [e2]
    refine does_of (k := 0) Tryz.func14 rfl Tryz.ntmps14 rfl rfl fun w F0 S0 ρ0 => ?_
    dsimp only [argT, argH]
    repeat' first | (apply n3; exact a_nilO eI rfl; exact rfl) | (apply n3; (first | exact a_make (fE rfl) (fZ rfl) (fP rfl) (by decide) rfl rfl (by omega) rfl (by omega) (by omega) (rows_rep eI 0 _) | exact a_new (gb := .bx _) rfl); exact rfl; refine dA ?_) | (apply p3; (first | exact a_fa_immT 3 (T := 88) (f := 1) (off := 3) rfl (by kernel_rfl) rfl | exact pu1 | exact puL | exact puN | exact a_len_str rfl (fT rfl) | exact puC | exact a_add rfl rfl (by omega) (by omega) | exact puI); exact rfl) | refine cd ?_ | (apply w3; (first | exact a_st_bx rfl rfl rfl rfl (fN rfl rfl) (Nat.le_of_ble_eq_true rfl) rfl | exact a_stE (E := eV) ⟨⟨_, _, _⟩, ⟨_, _, _⟩⟩ rfl rfl rfl rfl (fN rfl rfl) bnd (by exact rfl) | exact a_st_rowI rfl rfl rfl rfl (fN rfl rfl) bnd | exact a_stE (E := eI) _ rfl rfl rfl rfl (fN rfl rfl) bnd (by exact rfl) | exact a_stF (E := eV) ⟨⟨_, _, _⟩, ⟨_, _, _⟩⟩ rfl rfl rfl rfl (fN rfl rfl) (Nat.le_of_ble_eq_true rfl) (Nat.le_of_ble_eq_true rfl) (by first | exact List.getElem?_set_self bnd | exact List.getElem?_eq_getElem bnd) (by (try dsimp only [setRow, List.set_cons_succ, List.set_cons_zero]); first | done | exact rfl) rfl); exact rfl; refine dS ?_) | (apply c4 0; exact callK1 (θ := []) (hD := (areVerdicts_ok _ preB61)); exact rfl; exact rfl; exact rfl; refine dM ?_) | ((first | refine o_gs rfl rfl (fun hc => ?_) (fun hc => ?_) | refine g_cond rfl (fun hc => ?_) (fun hc => ?_)) <;> (try simp only [dcB] at hc) <;> (try first | contradiction | (exfalso; omega)))
    refine g_loop_id ?_
    refine loopK [2, 3, 4, 11, 12] [1] (fun y : Int × List Int => 0 ≤ y.1 ∧ y.1 ≤ l.length ∧ CkOk y.1 y.2 ∧ ckF (l.drop y.1.toNat) y.2 = ckL l) (fun y => [(13, .one (int y.1))]) (fun y => [(1, roI y.2)]) (fun y => (l.length - y.1).toNat) ((0 : Int), List.replicate 9 (0 : Int)) [0, 1] (hI := ?_) (hr := ?_)
    · exact ⟨by simp, by simp, ck0, e1.symm⟩
    · rintro ⟨i, c⟩ ⟨k1, k2, k3, k4⟩
      dsimp only [List.cons_append, List.nil_append] at *
      skip
      repeat' first | (apply p3; (first | exact pu1 | exact puC); exact rfl) | refine cdn ?_ | refine g_reg (id := 5) ?_ | refine g_reg (id := 9) ?_ | ((first | refine o_gs rfl rfl (fun hc => ?_) (fun hc => ?_) | refine g_cond rfl (fun hc => ?_) (fun hc => ?_)) <;> (try simp only [dcB] at hc) <;> (try first | contradiction | (exfalso; omega)))
      · have hv := okV_kind (ha _ (List.getElem_mem (show i.toNat < l.length by omega)))
        have hn := k3.n
        have hb := k3.b (l[i.toNat]'(by omega)).p.k.toNat (by omega)
        repeat' first | (apply n3; exact a_new (gb := .bx _) rfl; exact rfl; refine dA ?_) | (apply p3; (first | exact a_fa_immT 3 (T := 88) (f := 1) (off := 3) rfl (by kernel_rfl) rfl | exact pu1 | exact puL | exact puC | exact a_add rfl rfl (by omega) (by omega) | exact puI); exact rfl) | refine cd ?_ | (apply w3; (first | exact a_st_bx rfl rfl rfl rfl (fN rfl rfl) (Nat.le_of_ble_eq_true rfl) rfl | exact a_stE (E := eV) ⟨⟨_, _, _⟩, ⟨_, _, _⟩⟩ rfl rfl rfl rfl (fN rfl rfl) bnd (by exact rfl) | exact a_st_rowI rfl rfl rfl rfl (fN rfl rfl) bnd | exact a_stE (E := eI) _ rfl rfl rfl rfl (fN rfl rfl) bnd (by exact rfl) | exact a_stF (E := eV) ⟨⟨_, _, _⟩, ⟨_, _, _⟩⟩ rfl rfl rfl rfl (fN rfl rfl) (Nat.le_of_ble_eq_true rfl) (Nat.le_of_ble_eq_true rfl) (by first | exact List.getElem?_set_self bnd | exact List.getElem?_eq_getElem bnd) (by (try dsimp only [setRow, List.set_cons_succ, List.set_cons_zero]); first | done | exact rfl) rfl); exact rfl; refine dS ?_) | ((first | refine o_gs rfl rfl (fun hc => ?_) (fun hc => ?_) | refine g_cond rfl (fun hc => ?_) (fun hc => ?_)) <;> (try simp only [dcB] at hc) <;> (try first | contradiction | (exfalso; omega)))
        refine q_again (i + 1, _) [0, 1] (by exact stk) ?_ ?_
        · refine ⟨by dsimp only; omega, by dsimp only; omega, ck_next k1 k3 _ _, ?_⟩
          rw [ckF_step k1 hc, List.getD_eq_getElem?_getD, List.getElem?_eq_getElem (by omega)] at k4
          exact k4
        · dsimp only; omega
      · rw [ckF_end hc] at k4
        rw [← k4]
        repeat' first | (apply n3; exact a_new (gb := .bx _) rfl; exact rfl; refine dA ?_) | (apply p3; (first | exact a_fa_immT 3 (T := 88) (f := 1) (off := 3) rfl (by kernel_rfl) rfl | exact pu1 | exact puL | exact puC | exact a_add rfl rfl (by omega) (by omega) | exact puI); exact rfl) | refine cd ?_ | (apply w3; (first | exact a_st_bx rfl rfl rfl rfl (fN rfl rfl) (Nat.le_of_ble_eq_true rfl) rfl | exact a_stE (E := eV) ⟨⟨_, _, _⟩, ⟨_, _, _⟩⟩ rfl rfl rfl rfl (fN rfl rfl) bnd (by exact rfl) | exact a_st_rowI rfl rfl rfl rfl (fN rfl rfl) bnd | exact a_stE (E := eI) _ rfl rfl rfl rfl (fN rfl rfl) bnd (by exact rfl) | exact a_stF (E := eV) ⟨⟨_, _, _⟩, ⟨_, _, _⟩⟩ rfl rfl rfl rfl (fN rfl rfl) (Nat.le_of_ble_eq_true rfl) (Nat.le_of_ble_eq_true rfl) (by first | exact List.getElem?_set_self bnd | exact List.getElem?_eq_getElem bnd) (by (try dsimp only [setRow, List.set_cons_succ, List.set_cons_zero]); first | done | exact rfl) rfl); exact rfl; refine dS ?_) | ((first | refine o_gs rfl rfl (fun hc => ?_) (fun hc => ?_) | refine g_cond rfl (fun hc => ?_) (fun hc => ?_)) <;> (try simp only [dcB] at hc) <;> (try first | contradiction | (exfalso; omega)))
        repeat refine cr ?_
        refine ends_id ?_
        refine endK [?_] (h2 := ?_) (h3 := ?_) (nd := ?_)
        rotate_left 1
        all_goals (repeat' first | exact ce0 | refine ce ?_ | refine ce2 ?_ ?_ | (refine Or.inr (bx_eq rfl rfl ?_); (try dsimp only [C.ren, C.ren.all]); (try exact rfl)) | exact SVLe.refl | refine ceb ?_)
        all_goals first | exact (show nodupB _ = true from rfl) | exact Or.inr rfl | (rfl)
theorem sCountKinds_ok (l : List Verd) (g : LsGd l) : Does Tryz.prog 12 [.one (shV l)] [] (.tup [(false, [.gv 0]), (false, [int (ckC l)])]) [roI (ckL l)] := by
  have hx := g.n
  cases ho : okVs l with
  | false =>
    have e1 : ckL l = [] := by unfold ckL; rw [ho]; rfl
    have e2 : ckC l = 1 := by unfold ckC; rw [ho]; rfl
    rw [e1, e2]
    have ho2 : ¬ okVs l = true := by simp [ho]
    refine does_of (k := 0) Tryz.func12 rfl Tryz.ntmps12 rfl rfl fun w F0 S0 ρ0 => ?_
    dsimp only [argT, argH]
    repeat' first | (apply n3; exact a_nilO eI rfl; exact rfl) | (apply n3; exact a_make (fE rfl) (fZ rfl) (fP rfl) (by decide) rfl rfl (by omega) rfl (by omega) (by omega) (rows_rep eI 0 _); exact rfl; refine dA ?_) | (apply p3; (first | exact a_fa_immT 3 (T := 88) (f := 1) (off := 3) rfl (by kernel_rfl) rfl | exact pu1 | exact puL | exact puN | exact a_len_str rfl (fT rfl) | exact puC | exact a_add rfl rfl (by omega) (by omega) | exact puI); exact rfl) | refine cd ?_ | (apply w3; (first | exact a_st_bx rfl rfl rfl rfl (fN rfl rfl) (Nat.le_of_ble_eq_true rfl) rfl | exact a_st_rowI rfl rfl rfl rfl (fN rfl rfl) bnd | exact a_stE (E := eI) _ rfl rfl rfl rfl (fN rfl rfl) bnd (by exact rfl) | exact a_stF (E := eV) ⟨⟨_, _, _⟩, ⟨_, _, _⟩⟩ rfl rfl rfl rfl (fN rfl rfl) (Nat.le_of_ble_eq_true rfl) (Nat.le_of_ble_eq_true rfl) (by first | exact List.getElem?_set_self bnd | exact List.getElem?_eq_getElem bnd) (by (try dsimp only [setRow, List.set_cons_succ, List.set_cons_zero]); first | done | exact rfl) rfl); exact rfl; refine dS ?_) | (apply c4 0; exact callK1 (θ := []) (hD := (l31List_ok _ preB61)); exact rfl; exact rfl; exact rfl; refine dM ?_) | ((first | refine o_gs rfl rfl (fun hc => ?_) (fun hc => ?_) | refine g_cond rfl (fun hc => ?_) (fun hc => ?_)) <;> (try simp only [dcB] at hc) <;> (try first | contradiction | (exfalso; omega)))
    repeat refine cr ?_
    refine ends_id ?_
    refine endK [?_] (h2 := ?_) (h3 := ?_) (nd := ?_)
    rotate_left 1
    all_goals (repeat' first | exact ce0 | refine ce ?_ | refine ce2 ?_ ?_ | (refine Or.inr (bx_eq rfl rfl ?_); (try dsimp only [C.ren, C.ren.all]); (try exact rfl)) | exact SVLe.refl | refine ceb ?_)
    all_goals first | exact (show nodupB _ = true from rfl) | exact Or.inr rfl | (rfl)
  | true =>
    have ho2 : ¬ okVs l = false := by simp [ho]
    have e1 : ckL l = ckF l (List.replicate 9 0) := by unfold ckL; rw [if_pos ho]
    have e2 : ckC l = 0 := by unfold ckC; rw [if_pos ho]
    obtain ⟨hl, ha⟩ := okVs_all ho
    rw [e2]
    refine does_of (k := 0) Tryz.func12 rfl Tryz.ntmps12 rfl rfl fun w F0 S0 ρ0 => ?_
    dsimp only [argT, argH]
    repeat' first | (apply n3; exact a_nilO eI rfl; exact rfl) | (apply n3; exact a_make (fE rfl) (fZ rfl) (fP rfl) (by decide) rfl rfl (by omega) rfl (by omega) (by omega) (rows_rep eI 0 _); exact rfl; refine dA ?_) | (apply p3; (first | exact a_fa_immT 3 (T := 88) (f := 1) (off := 3) rfl (by kernel_rfl) rfl | exact pu1 | exact puL | exact puN | exact a_len_str rfl (fT rfl) | exact puC | exact a_add rfl rfl (by omega) (by omega) | exact puI); exact rfl) | refine cd ?_ | (apply w3; (first | exact a_st_bx rfl rfl rfl rfl (fN rfl rfl) (Nat.le_of_ble_eq_true rfl) rfl | exact a_st_rowI rfl rfl rfl rfl (fN rfl rfl) bnd | exact a_stE (E := eI) _ rfl rfl rfl rfl (fN rfl rfl) bnd (by exact rfl) | exact a_stF (E := eV) ⟨⟨_, _, _⟩, ⟨_, _, _⟩⟩ rfl rfl rfl rfl (fN rfl rfl) (Nat.le_of_ble_eq_true rfl) (Nat.le_of_ble_eq_true rfl) (by first | exact List.getElem?_set_self bnd | exact List.getElem?_eq_getElem bnd) (by (try dsimp only [setRow, List.set_cons_succ, List.set_cons_zero]); first | done | exact rfl) rfl); exact rfl; refine dS ?_) | (apply c4 0; exact callK1 (θ := []) (hD := (l31List_ok _ preB61)); exact rfl; exact rfl; exact rfl; refine dM ?_) | ((first | refine o_gs rfl rfl (fun hc => ?_) (fun hc => ?_) | refine g_cond rfl (fun hc => ?_) (fun hc => ?_)) <;> (try simp only [dcB] at hc) <;> (try first | contradiction | (exfalso; omega)))
    refine g_loop_id ?_
    refine loopK [0, 2, 3, 4] [1] (fun y : Int × List Int => 0 ≤ y.1 ∧ y.1 ≤ l.length ∧ CkOk y.1 y.2 ∧ ckF (l.drop y.1.toNat) y.2 = ckL l) (fun y => [(5, .one (int y.1))]) (fun y => [(1, roI y.2)]) (fun y => (l.length - y.1).toNat) ((0 : Int), List.replicate 9 (0 : Int)) [0, 1] (hI := ?_) (hr := ?_)
    · exact ⟨by simp, by simp, ck0, e1.symm⟩
    · rintro ⟨i, c⟩ ⟨k1, k2, k3, k4⟩
      dsimp only [List.cons_append, List.nil_append] at *
      skip
      repeat' first | (apply p3; (first | exact pu1 | exact puN | exact a_len_str rfl (fT rfl) | exact puC); exact rfl) | refine cdn ?_ | refine g_reg (id := 5) ?_ | refine g_reg (id := 8) ?_ | ((first | refine o_gs rfl rfl (fun hc => ?_) (fun hc => ?_) | refine g_cond rfl (fun hc => ?_) (fun hc => ?_)) <;> (try simp only [dcB] at hc) <;> (try first | contradiction | (exfalso; omega)))
      · have hv := okV_kind (ha _ (List.getElem_mem (show i.toNat < l.length by omega)))
        have hn := k3.n
        have hb := k3.b (l[i.toNat]'(by omega)).p.k.toNat (by omega)
        repeat' first | (apply p3; (first | exact a_fa_immT 3 (T := 88) (f := 1) (off := 3) rfl (by kernel_rfl) rfl | exact pu1 | exact puL | exact puN | exact a_len_str rfl (fT rfl) | exact puC | exact a_add rfl rfl (by omega) (by omega) | exact puI); exact rfl) | refine cd ?_ | (apply w3; (first | exact a_st_bx rfl rfl rfl rfl (fN rfl rfl) (Nat.le_of_ble_eq_true rfl) rfl | exact a_st_rowI rfl rfl rfl rfl (fN rfl rfl) bnd | exact a_stE (E := eI) _ rfl rfl rfl rfl (fN rfl rfl) bnd (by exact rfl) | exact a_stF (E := eV) ⟨⟨_, _, _⟩, ⟨_, _, _⟩⟩ rfl rfl rfl rfl (fN rfl rfl) (Nat.le_of_ble_eq_true rfl) (Nat.le_of_ble_eq_true rfl) (by first | exact List.getElem?_set_self bnd | exact List.getElem?_eq_getElem bnd) (by (try dsimp only [setRow, List.set_cons_succ, List.set_cons_zero]); first | done | exact rfl) rfl); exact rfl; refine dS ?_) | ((first | refine o_gs rfl rfl (fun hc => ?_) (fun hc => ?_) | refine g_cond rfl (fun hc => ?_) (fun hc => ?_)) <;> (try simp only [dcB] at hc) <;> (try first | contradiction | (exfalso; omega)))
        refine q_again (i + 1, _) [0, 1] (by exact stk) ?_ ?_
        · refine ⟨by dsimp only; omega, by dsimp only; omega, ck_next k1 k3 _ _, ?_⟩
          rw [ckF_step k1 hc, List.getD_eq_getElem?_getD, List.getElem?_eq_getElem (by omega)] at k4
          exact k4
        · dsimp only; omega
      · rw [ckF_end hc] at k4
        rw [← k4]
        repeat' first | (apply p3; (first | exact a_fa_immT 3 (T := 88) (f := 1) (off := 3) rfl (by kernel_rfl) rfl | exact pu1 | exact puL | exact puN | exact a_len_str rfl (fT rfl) | exact puC | exact a_add rfl rfl (by omega) (by omega) | exact puI); exact rfl) | refine cd ?_ | (apply w3; (first | exact a_st_bx rfl rfl rfl rfl (fN rfl rfl) (Nat.le_of_ble_eq_true rfl) rfl | exact a_st_rowI rfl rfl rfl rfl (fN rfl rfl) bnd | exact a_stE (E := eI) _ rfl rfl rfl rfl (fN rfl rfl) bnd (by exact rfl) | exact a_stF (E := eV) ⟨⟨_, _, _⟩, ⟨_, _, _⟩⟩ rfl rfl rfl rfl (fN rfl rfl) (Nat.le_of_ble_eq_true rfl) (Nat.le_of_ble_eq_true rfl) (by first | exact List.getElem?_set_self bnd | exact List.getElem?_eq_getElem bnd) (by (try dsimp only [setRow, List.set_cons_succ, List.set_cons_zero]); first | done | exact rfl) rfl); exact rfl; refine dS ?_) | ((first | refine o_gs rfl rfl (fun hc => ?_) (fun hc => ?_) | refine g_cond rfl (fun hc => ?_) (fun hc => ?_)) <;> (try simp only [dcB] at hc) <;> (try first | contradiction | (exfalso; omega)))
        repeat refine cr ?_
        refine ends_id ?_
        refine endK [?_] (h2 := ?_) (h3 := ?_) (nd := ?_)
        rotate_left 1
        all_goals (repeat' first | exact ce0 | refine ce ?_ | refine ce2 ?_ ?_ | (refine Or.inr (bx_eq rfl rfl ?_); (try dsimp only [C.ren, C.ren.all]); (try exact rfl)) | exact SVLe.refl | refine ceb ?_)
        all_goals first | exact (show nodupB _ = true from rfl) | exact Or.inr rfl | (rfl)
end Go.Proofs.YtbekdojhcokalaaGreatDoor
end
