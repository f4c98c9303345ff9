/- Parts of the proof (17 of 19). -/
import Derived.Carry
import Derived.ChangeOld
import Derived.Deep.Fields
import Derived.Deep.Slices
import Derived.OpenShut
import Derived.ProofKit
import Derived.ShutString
import Derived.Test.YtbekdojhcokalaaGreatDoorQ16
section
set_option linter.unusedVariables false
set_option linter.unusedSimpArgs false
set_option maxRecDepth 100000
namespace Go.Proofs.YtbekdojhcokalaaGreatDoor
open Go Foot Go.ChangeShapes Go.WideShapes Go.ChangeAt Go.RowKit Go.Deep
/-- All cells that are there. -/
def allW (w : World) : Foot := fun b _ => b < w.heap.size
/-- What is read at a type is laid as1 the words say. -/
def Opens {α : Type} (P : Program) (t : TypeId) (z : Nat) (E : α → List D) (Q : α → Prop) : Prop :=
  (∀ a, (E a).length = z) ∧
  ∀ {H : Type} (enc : TypeId × Value → H) (w : World) (base : Nat) (held : Bool) (fuel : Nat) (cs : List Value) (x : DataW H × List MemPlace),
    DataW.trod enc P w base (fun _ => true) held fuel t cs = some x → ∃ a, Reps w (allW w) (E a) cs no ∧ Q a
def Ok64 (n : Int) : Prop := -9223372036854775808 ≤ n ∧ n < 9223372036854775808
theorem ok64_of_wf {n : Int} (h : (Lit.int .i64 n).wf = true) : Ok64 n := by
  have := h
  simp [Lit.wf, IntKind.min, IntKind.max, IntKind.signed, IntKind.bits] at this
  unfold Ok64
  omega
theorem reps_one {w : World} {S : Foot} {c : D} {v : Value} (h : Rep w S c v no) : Reps w S [c] [v] no :=
  ⟨v, [], no, no, rfl, le_refl _, le_refl _, no_dis _, h, rfl⟩
theorem opens_int {P : Program} {t : TypeId} (ht : P.underlying t = some (.int .i64)) : Opens P t 1 (fun n : Int => [.sc (.int .i64 n)]) Ok64 := by
  refine ⟨fun _ => rfl, fun enc w base held fuel cs x h => ?_⟩
  obtain ⟨n, rfl, _, hw⟩ := DataW.trod_int ht h
  exact ⟨n, reps_one ⟨rfl, rfl⟩, ok64_of_wf hw⟩
theorem addr_plain {w : World} {a : Addr} {i : Nat} {v : Value} (h : w.cell? (a.add i) = some v) (hi : i = 0) : a.spot = none := by
  subst hi
  simp only [Addr.add, if_true] at h
  unfold World.cell? at h
  split at h
  · split at h
    · cases h
    · rename_i hs; simpa using hs
  · cases h
theorem reps_rows {α : Type} {E : Enc α} {w : World} {S : Foot} : ∀ (l : List α) (vs : List (List Value)), l.length = vs.length → (∀ i (h : i < l.length) (h' : i < vs.length), Reps w S (E.enc l[i]) vs[i] no) → Reps w S (rows E l) vs.flatten no
  | [], [], _, _ => rfl
  | [], _ :: _, h, _ => by simp at h
  | _ :: _, [], h, _ => by simp at h
  | a :: l, v :: vs, h, hr => by
    show Reps w S (E.enc a ++ rows E l) (v ++ vs.flatten) no
    exact Reps.append (hr 0 (by simp) (by simp)) (reps_rows l vs (by simpa using h) fun i h1 h2 => hr (i + 1) (by simpa using h1) (by simpa using h2)) (no_dis _) (le_refl _) (le_refl _)
theorem flat_get {α : Type} {z : Nat} (hz : 0 < z) : ∀ (l : List (List α)), (∀ x ∈ l, x.length = z) → ∀ (i j : Nat), j < z → l.flatten[i * z + j]? = (l[i]?).bind (·[j]?)
  | [], _, i, j, _ => by simp
  | x :: l, h, 0, j, hj => by
    have := h x (by simp)
    simp only [List.flatten_cons, Nat.zero_mul, Nat.zero_add]
    rw [List.getElem?_append_left (by omega)]
    rfl
  | x :: l, h, i + 1, j, hj => by
    have hx := h x (by simp)
    simp only [List.flatten_cons]
    rw [List.getElem?_append_right (by rw [hx, Nat.add_mul]; omega), hx, show (i + 1) * z + j - z = i * z + j by rw [Nat.add_mul]; omega, flat_get hz l (fun y hy => h y (by simp [hy])) i j hj]
    simp
theorem opens_slice {α : Type} {P : Program} {t e : TypeId} {E : Enc α} {Q : α → Prop} (ht : P.underlying t = some (.slice e)) (hs : P.cellsOf e = E.z) (he : Opens P e E.z E.enc Q) :
    Opens P t 1 (fun l : List α => [.sl false E.z (rows E l)]) (fun l => l.length ≤ maxLen ∧ ∀ x ∈ l, Q x) := by
  refine ⟨fun _ => rfl, fun enc w base held fuel cs x h => ?_⟩
  rcases open_slice ht h with ⟨rfl, _⟩ | ⟨a, len, cap, m, n, DD, Pl, rfl, hb, hl, hm, hmm, hx, hi⟩
  · refine ⟨[], reps_one ?_, by simp [maxLen], by simp⟩
    simp only [Rep]
    exact ⟨none, 0, 0, rfl, by simp [rows], E.pos, Nat.le_refl _, .inl ⟨rfl, fun h => by cases h⟩⟩
  · have hlm : len ≤ m := by rw [hmm]; split <;> omega
    have key : ∀ i, i < len → ∃ y cs, Reps w (allW w) (E.enc y) cs no ∧ Q y ∧ cs.length = E.z ∧ ∀ j, j < E.z → w.cell? (a.add (i * E.z + j)) = cs[j]? := by
      intro i hil
      obtain ⟨cs', hc, htr⟩ := hi i (by omega)
      obtain ⟨_, hcl, hat⟩ := World.cells?_some hc
      obtain ⟨y, hy, hq⟩ := he.2 enc w base held n cs' _ htr
      refine ⟨y, cs', hy, hq, by rw [hcl, hs], fun j hj => ?_⟩
      rw [hs] at hat
      rw [← Go.Deep.add_add]
      exact hat j hj
    obtain ⟨L, hL, V, hV, hk⟩ : ∃ L : List α, L.length = len ∧ ∃ V : List (List Value), V.length = len ∧ ∀ i (h1 : i < L.length) (h2 : i < V.length), Reps w (allW w) (E.enc L[i]) V[i] no ∧ Q L[i] ∧ V[i].length = E.z ∧ ∀ j, j < E.z → w.cell? (a.add (i * E.z + j)) = V[i][j]? := by
      refine ⟨List.ofFn fun i : Fin len => (key i.1 i.2).choose, by simp, List.ofFn fun i : Fin len => (key i.1 i.2).choose_spec.choose, by simp, fun i h1 h2 => ?_⟩
      simp only [List.getElem_ofFn]
      simp only [List.length_ofFn] at h1
      exact (key i h1).choose_spec.choose_spec
    have hrep := reps_rows (E := E) (w := w) (S := allW w) L V (by omega) fun i h1 h2 => (hk i h1 h2).1
    have hQ : ∀ x ∈ L, Q x := by
      intro x hx
      obtain ⟨i, h1, rfl⟩ := List.mem_iff_getElem.1 hx
      exact (hk i h1 (by omega)).2.1
    refine ⟨L, reps_one ?_, by rw [hL]; exact Nat.le_trans hl hm, hQ⟩
    simp only [Rep, Bool.false_eq_true, if_false]
    refine ⟨some a, len, cap, rfl, by rw [rows_len, hL], E.pos, hl, ?_⟩
    by_cases hc0 : cap = 0
    · exact .inl ⟨hc0, fun h => by cases h⟩
    have hpos := E.pos
    have hsp : a.spot = none := by
      obtain ⟨cs', hc, _⟩ := hi 0 (by rw [hmm]; simp only [if_true]; omega)
      obtain ⟨_, hcl, hat⟩ := World.cells?_some hc
      have h1 := hat 0 (by omega)
      rw [List.getElem?_eq_getElem (by omega)] at h1
      simp only [Nat.zero_mul, Addr.add, if_true] at h1
      exact addr_plain (w := w) (a := a) (i := 0) (by simpa [Addr.add] using h1) rfl
    obtain ⟨b, off, sp⟩ := a
    simp only at hsp
    subst hsp
    have hadd : ∀ k, (Addr.mk b off none).add k = ⟨b, off + k, none⟩ := by intro k; unfold Addr.add; split <;> simp_all
    by_cases h0 : len = 0
    · refine .inr ⟨b, off, [], no, rfl, fun i v hv => by simp at hv, ?_, ?_, rfl⟩
      · have : L = [] := List.eq_nil_of_length_eq_zero (by omega)
        subst this
        rfl
      · rintro b' o' ⟨_, e1, e2⟩
        rw [rows_len, hL, h0] at e2
        omega
    · refine .inr ?_
      have hVl : ∀ x ∈ V, x.length = E.z := by
        intro x hx
        obtain ⟨i, h1, rfl⟩ := List.mem_iff_getElem.1 hx
        exact (hk i (by omega) h1).2.2.1
      refine ⟨b, off, V.flatten, no, rfl, fun i v hv => ?_, hrep, fun b' o' ⟨e1, e2, e3⟩ => ?_, rfl⟩
      · have hz : i = i / E.z * E.z + i % E.z := by rw [Nat.mul_comm]; exact (Nat.div_add_mod i E.z).symm
        have hj : i % E.z < E.z := Nat.mod_lt _ hpos
        rw [hz, flat_get hpos V hVl _ _ hj] at hv
        obtain ⟨x, h1, h2⟩ := Option.bind_eq_some_iff.1 hv
        obtain ⟨h3, rfl⟩ := List.getElem?_eq_some_iff.1 h1
        have := (hk (i / E.z) (by omega) h3).2.2.2 (i % E.z) hj
        rw [hadd, ← hz, h2] at this
        exact this
      · have h1 := (hk 0 (by omega) (by omega)).2.2.2 0 hpos
        have h2 := (hk 0 (by omega) (by omega)).2.2.1
        rw [List.getElem?_eq_getElem (by omega)] at h1
        have := World.block_lt_of_cell? w _ h1
        rw [hadd] at this
        show b' < _
        rw [e1]
        exact this
/-- Fields one behind the other, from the cell `o` on. -/
def OpensL {α : Type} (P : Program) (fs : List Field) (o z : Nat) (E : α → List D) (Q : α → Prop) : Prop :=
  (∀ a, (E a).length = z) ∧
  ∀ {H : Type} (enc : TypeId × Value → H) (w : World) (base : Nat) (held : Bool) (n : Nat) (cs : List Value),
    (∀ (i : Nat) (f : Field), fs[i]? = some f → ∃ y, DataW.trod enc P w base (fun _ => true) held n f.type ((cs.drop f.offset).take (P.cellsOf f.type)) = some y) → cs.length = o + z → ∃ a, Reps w (allW w) (E a) (cs.drop o) no ∧ Q a
theorem opensL_one {α : Type} {P : Program} {f : Field} {o z : Nat} {E : α → List D} {Q : α → Prop} (ho : f.offset = o) (hs : P.cellsOf f.type = z) (h : Opens P f.type z E Q) : OpensL P [f] o z E Q := by
  refine ⟨h.1, fun enc w base held n cs hf hl => ?_⟩
  obtain ⟨y, hy⟩ := hf 0 f rfl
  obtain ⟨a, ha, hq⟩ := h.2 enc w base held n _ _ hy
  rw [ho, hs, List.take_of_length_le (by simp; omega)] at ha
  exact ⟨a, ha, hq⟩
theorem opensL_cons {α β : Type} {P : Program} {f : Field} {fs : List Field} {o z z' : Nat} {E : α → List D} {Q : α → Prop} {E' : β → List D} {Q' : β → Prop} (ho : f.offset = o) (hs : P.cellsOf f.type = z) (h : Opens P f.type z E Q) (hr : OpensL P fs (o + z) z' E' Q') :
    OpensL P (f :: fs) o (z + z') (fun x : α × β => E x.1 ++ E' x.2) (fun x => Q x.1 ∧ Q' x.2) := by
  refine ⟨fun x => by rw [List.length_append, h.1, hr.1], fun enc w base held n cs hf hl => ?_⟩
  obtain ⟨y, hy⟩ := hf 0 f rfl
  obtain ⟨a, ha, hq⟩ := h.2 enc w base held n _ _ hy
  obtain ⟨b, hb, hq'⟩ := hr.2 enc w base held n cs (fun i g hg => hf (i + 1) g (by simpa using hg)) (by rw [hl]; omega)
  rw [ho, hs] at ha
  refine ⟨(a, b), ?_, hq, hq'⟩
  have := Reps.append ha hb (no_dis _) (le_refl _) (le_refl _)
  rwa [← List.drop_drop, List.take_append_drop] at this
theorem opens_struct {α : Type} {P : Program} {t : TypeId} {fs : Array Field} {z : Nat} {E : α → List D} {Q : α → Prop} (ht : P.underlying t = some (.struct fs)) (hs : P.cellsOf t = z) (h : OpensL P fs.toList 0 z E Q) : Opens P t z E Q := by
  refine ⟨h.1, fun enc w base held fuel cs x hx => ?_⟩
  obtain ⟨xs, n, _, _, hlen, hxl, hf⟩ := DataW.trod_struct ht hx
  have := h.2 enc w base held n cs (fun i f hfi => by
    have hfi' : fs[i]? = some f := by simpa using hfi
    rw [hf i f hfi']
    have hi : i < xs.length := by rw [hxl]; exact (Array.getElem?_eq_some_iff.1 hfi').1
    exact ⟨_, List.getElem?_eq_getElem hi⟩) (by rw [hlen, hs]; omega)
  simpa using this
theorem Opens.via {α β : Type} {P : Program} {t : TypeId} {z : Nat} {E : β → List D} {Q : β → Prop} {E' : α → List D} {Q' : α → Prop} (h : Opens P t z E Q) (g : β → α) (hg : ∀ y, E' (g y) = E y) (hl : ∀ a, (E' a).length = z) (hq : ∀ y, Q y → Q' (g y)) : Opens P t z E' Q' := by
  refine ⟨hl, fun enc w base held fuel cs x hx => ?_⟩
  obtain ⟨a, ha, h2⟩ := h.2 enc w base held fuel cs x hx
  exact ⟨g a, by rw [hg]; exact ha, hq _ h2⟩
section
variable {H : Type} {enc : TypeId × Value → H} {P : Program} {w : World} {base : Nat} {held : Bool} {t : TypeId} {v : Value} {d : DataW H} {p : List MemPlace} {ρ : Env}
theorem arg_one {α : Type} {E : α → D} {Q : α → Prop} (hv : v.cells = #[v]) (h : DataW.Trod enc P w base (fun _ => true) held t v d p) (ho : Opens P t 1 (fun a => [E a]) Q) :
    ∃ a, RepS w (allW w) ρ (.one (.d (E a))) v ∧ Q a := by
  obtain ⟨fuel, hf⟩ := h
  obtain ⟨a, ha, hq⟩ := ho.2 enc w base held fuel _ _ hf
  rw [hv] at ha
  simp only [Reps] at ha
  obtain ⟨v', us, F1, F2, e, _, _, _, h1, rfl⟩ := ha
  cases e
  exact ⟨a, h1.mono (by assumption), hq⟩
end
theorem does_calls {P : Program} {f : Nat} {args : List SV} {vs : Array Value} {w : World} (hd : Does P f args [] (.one (boo true)) []) (ht : Tabs w (allW w)) (ha : RepA w (allW w) (fun _ => none) args vs.toList) :
    Calls P f vs w fun e w' => e = .returned (.bool true) ∧ Below w.heap.size w w' := by
  have := hd vs.toList w (allW w) (fun _ => none) (fun _ => no) ha ⟨fun i gb h => by simp at h, fun _ _ => rfl, fun i j h => by simp at h, fun i h => by simp at h, fun i h => by simp at h, fun b o h => h, ht⟩
  rw [show vs.toList.toArray = vs from rfl] at this
  refine this.mono fun e w' hx => ?_
  obtain ⟨v, S1, ρ', F', he, hr, hv⟩ := hx
  obtain ⟨rfl, _⟩ := hv
  refine ⟨he, hr.keeps.os, hr.keeps.tape, hr.keeps.output, hr.keeps.size, fun k hk => hr.keeps.block k hk fun o ⟨i, hi, _⟩ => by simp at hi⟩
end Go.Proofs.YtbekdojhcokalaaGreatDoor
end
section
set_option linter.unusedVariables false
set_option linter.unusedSimpArgs false
set_option maxRecDepth 100000
namespace Go.Proofs.YtbekdojhcokalaaGreatDoor
open Go Foot Go.ChangeShapes Go.WideShapes Go.ChangeAt Go.RowKit Go.Deep
theorem own : ownKnob Tryz.prog.godebug = none := by kernel_rfl
theorem laidOut : laidOutB Tryz.prog = true := by kernel_rfl
theorem opens_i : Opens Tryz.prog 2 1 (fun n : Int => [.sc (.int .i64 n)]) Ok64 := opens_int Tryz.underlying2
theorem opens_I : Opens Tryz.prog 24 1 (fun l : List Int => [.sl false 1 (rows eI l)]) (fun l => l.length ≤ maxLen ∧ ∀ x ∈ l, Ok64 x) := opens_slice (E := eI) Tryz.underlying24 (by kernel_rfl) opens_i
theorem szL_ge {n : Nat} {l : Int} (hl : l ≤ 1048576) (h : ¬ szL n l < 0) : (n : Int) ≤ l := by
  unfold szL at h; split at h <;> omega
end Go.Proofs.YtbekdojhcokalaaGreatDoor
end
section
set_option linter.unusedVariables false
set_option linter.unusedSimpArgs false
set_option maxRecDepth 100000
namespace Go.Proofs.YtbekdojhcokalaaGreatDoor
open Go Foot Go.ChangeShapes Go.WideShapes Go.ChangeAt Go.RowKit Go.Deep
theorem opens_W : Opens Tryz.prog 43 1 (fun l : List (List Int) => [.sl false 1 (rows eW l)]) (fun l => l.length ≤ maxLen ∧ ∀ x ∈ l, x.length ≤ maxLen ∧ ∀ y ∈ x, Ok64 y) := opens_slice (E := eW) Tryz.underlying43 (by kernel_rfl) opens_I
abbrev PrfOk (p : Prf) : Prop := Ok64 p.k ∧ (p.nu.length ≤ maxLen ∧ ∀ x ∈ p.nu, Ok64 x) ∧ p.wo.length ≤ maxLen ∧ ∀ x ∈ p.wo, x.length ≤ maxLen ∧ ∀ y ∈ x, Ok64 y
theorem opens_proof : Opens Tryz.prog 45 3 (fun p : Prf => [.sc (.int .i64 p.k), .sl false 1 (rows eI p.nu), .sl false 1 (rows eW p.wo)]) PrfOk := by
  have h := opens_struct (P := Tryz.prog) (z := 3) Tryz.underlying45 (by kernel_rfl) (opensL_cons (z := 1) (z' := 2) (o := 0) rfl (by kernel_rfl) opens_i (opensL_cons (z := 1) (z' := 1) (o := 1) rfl (by kernel_rfl) opens_I (opensL_one (z := 1) (o := 2) rfl (by kernel_rfl) opens_W)))
  exact h.via (fun y => ⟨y.1, y.2.1, y.2.2⟩) (fun _ => rfl) (fun _ => rfl) (fun _ h => h)
theorem szW_ge : ∀ {xs : List (List Int)} {l : Int}, 0 ≤ l → l ≤ 1048576 → ¬ szW xs l < 0 → ∀ x ∈ xs, (x.length : Int) ≤ l
  | [], l, _, _, _, x, hx => by cases hx
  | y :: xs, l, h0, hl, h, x, hx => by
    unfold szW at h
    split at h
    · omega
    · rename_i h1
      have h2 := szL_ge hl h1
      have h3 := szL_le (n := y.length) hl
      rcases List.mem_cons.1 hx with rfl | hx
      · exact h2
      · have h5 := szW_ge (by omega) h3 h x hx
        unfold szL at h5 h1
        split at h5 <;> simp_all <;> omega
theorem szWW_ge {xs : List (List Int)} {l : Int} (h0 : 0 ≤ l) (hl : l ≤ 1048576) (h : ¬ szWW xs l < 0) : (xs.length : Int) ≤ l ∧ ∀ x ∈ xs, (x.length : Int) ≤ l := by
  unfold szWW at h
  split at h
  · omega
  · rename_i h1
    refine ⟨by omega, fun x hx => ?_⟩
    have := szW_ge (by omega) (by omega) h x hx
    omega
theorem szP_ge {p : Prf} {l : Int} (h0 : 0 ≤ l) (hl : l ≤ 1048576) (h : ¬ szP p l < 0) : (p.nu.length : Int) ≤ l ∧ (p.wo.length : Int) ≤ l ∧ ∀ x ∈ p.wo, (x.length : Int) ≤ l := by
  unfold szP at h
  split at h
  · omega
  · rename_i h1
    have h2 := szL_ge hl h1
    have h3 : szL p.nu.length l ≤ l := by unfold szL; split <;> omega
    have h4 := szWW_ge (by omega) (by omega) h
    exact ⟨h2, by omega, fun x hx => by have := h4.2 x hx; omega⟩
end Go.Proofs.YtbekdojhcokalaaGreatDoor
end
section
set_option linter.unusedVariables false
set_option linter.unusedSimpArgs false
set_option maxRecDepth 100000
namespace Go.Proofs.YtbekdojhcokalaaGreatDoor
open Go Foot Go.ChangeShapes Go.WideShapes Go.ChangeAt Go.RowKit Go.Deep
abbrev RuleOk (r : Rule') : Prop := Ok64 r.w ∧ Ok64 r.m ∧ Ok64 r.n
theorem opens_rule : Opens Tryz.prog 198 3 eR.enc RuleOk := by
  have h := opens_struct (P := Tryz.prog) (z := 3) Tryz.underlying198 (by kernel_rfl) (opensL_cons (z := 1) (z' := 2) (o := 0) rfl (by kernel_rfl) opens_i (opensL_cons (z := 1) (z' := 1) (o := 1) rfl (by kernel_rfl) opens_i (opensL_one (z := 1) (o := 2) rfl (by kernel_rfl) opens_i)))
  exact h.via (fun y => ⟨y.1, y.2.1, y.2.2⟩) (fun _ => rfl) (fun _ => rfl) (fun _ h => h)
theorem opens_rules : Opens Tryz.prog 40 1 (fun l : List Rule' => [.sl false 3 (rows eR l)]) (fun l => l.length ≤ maxLen ∧ ∀ x ∈ l, RuleOk x) := opens_slice (E := eR) Tryz.underlying40 (by kernel_rfl) opens_rule
abbrev MachOk (m : Mach) : Prop := Ok64 m.sy ∧ Ok64 m.st ∧ m.ru.length ≤ maxLen ∧ ∀ x ∈ m.ru, RuleOk x
theorem opens_machine : Opens Tryz.prog 42 3 (fun m : Mach => [.sc (.int .i64 m.sy), .sc (.int .i64 m.st), .sl false 3 (rows eR m.ru)]) MachOk := by
  have h := opens_struct (P := Tryz.prog) (z := 3) Tryz.underlying42 (by kernel_rfl) (opensL_cons (z := 1) (z' := 2) (o := 0) rfl (by kernel_rfl) opens_i (opensL_cons (z := 1) (z' := 1) (o := 1) rfl (by kernel_rfl) opens_i (opensL_one (z := 1) (o := 2) rfl (by kernel_rfl) opens_rules)))
  exact h.via (fun y => ⟨y.1, y.2.1, y.2.2⟩) (fun _ => rfl) (fun _ => rfl) (fun _ h => h)
end Go.Proofs.YtbekdojhcokalaaGreatDoor
end
section
set_option linter.unusedVariables false
set_option linter.unusedSimpArgs false
set_option maxRecDepth 100000
namespace Go.Proofs.YtbekdojhcokalaaGreatDoor
open Go Foot Go.ChangeShapes Go.WideShapes Go.ChangeAt Go.RowKit Go.Deep
abbrev VerdOk (v : Verd) : Prop := MachOk v.m ∧ PrfOk v.p
theorem opens_verdict : Opens Tryz.prog 85 6 eV.enc VerdOk := by
  have h := opens_struct (P := Tryz.prog) (z := 6) Tryz.underlying85 (by kernel_rfl) (opensL_cons (z := 3) (z' := 3) (o := 0) rfl (by kernel_rfl) opens_machine (opensL_one (z := 3) (o := 3) rfl (by kernel_rfl) opens_proof))
  exact h.via (fun y => ⟨y.1, y.2⟩) (fun _ => rfl) (fun _ => rfl) (fun _ h => h)
theorem opens_verdicts : Opens Tryz.prog 22 1 (fun l : List Verd => [.sl false 6 (rows eV l)]) (fun l => l.length ≤ maxLen ∧ ∀ x ∈ l, VerdOk x) := opens_slice (E := eV) Tryz.underlying22 (by kernel_rfl) opens_verdict
end Go.Proofs.YtbekdojhcokalaaGreatDoor
end
section
set_option linter.unusedVariables false
set_option linter.unusedSimpArgs false
set_option maxRecDepth 100000
set_option maxHeartbeats 4000000
namespace Go.Proofs.YtbekdojhcokalaaGreatDoor
open Go Foot
/-- Verdicts whose slices have lengths. -/
structure LenOk (v : Verd) : Prop where
  a : (v.m.ru.length : Int) ≤ 9223372036854775807
  b : (v.p.nu.length : Int) ≤ 9223372036854775807
  c : (v.p.wo.length : Int) ≤ 9223372036854775807
  d : ∀ x ∈ v.p.wo, (x.length : Int) ≤ 9223372036854775807
theorem verd_len {v : Verd} (h : VerdOk v) : LenOk v := by
  obtain ⟨⟨_, _, h1, _⟩, _, ⟨h2, _⟩, h3, h4⟩ := h
  exact ⟨by unfold maxLen at h1; omega, by unfold maxLen at h2; omega, by unfold maxLen at h3; omega, fun x hx => by have := (h4 x hx).1; unfold maxLen at this; omega⟩
@[irreducible] def szV (v : Verd) (left : Int) : Int := if szL v.m.ru.length left < 0 then -1 else szP v.p (szL v.m.ru.length left)
theorem szP_neg {p : Prf} {l : Int} (h : szP p l < 0) : szP p l = -1 := by
  unfold szP at h ⊢
  split at h
  · rename_i e; rw [if_pos e]
  · rename_i e; rw [if_neg e]; exact szWW_neg h
theorem preD5 {p : Prop} (h : p := by first | with_reducible assumption | omega | (simp only [List.length_append, List.length_cons, List.length_nil, List.length_set, List.length_replicate, List.length_take, List.length_drop, List.length_tail, List.length_dropLast, List.length_reverse] at *; omega) | exact mem_len (by assumption) (by omega) | (with_reducible refine Int.le_trans (Int.ofNat_le.2 (trimR_len _)) ?_; simp only [List.length_cons, List.length_tail]; omega) | (exact (ruAt_ok (by assumption) (by assumption) (by assumption)).2.1) | (exact (ruAt_ok (by assumption) (by assumption) (by assumption)).2.1) | (have := vMach_bd (by assumption); omega) | (simp only [mC_ch, mC_tu]; omega) | (have := vTag_bd (by assumption); omega) | (have := (‹Gd _ _›).le; omega) | (exact tgHalts_no (by assumption)) | (exact tgHead (by assumption) (by assumption) (by assumption)) | (exact Int.le_trans (tgStep_gd (by assumption) (by assumption) (by assumption) (by assumption)).le (by decide)) | (exact vTag_r (by assumption)) | (with_reducible refine Int.le_trans (Int.ofNat_le.2 (pushL_len _ _)) ?_; simp only [List.length_dropLast]; omega) | exact ls_at (by assumption) (by omega) | exact (ask_ok (by assumption)).1 | exact (ask_ok (by assumption)).2.1 | exact (ask_ok (by assumption)).2.2.1 | exact (ask_ok (by assumption)).2.2.2 | (simp only [marks_len]; omega) | (simp only [marksR_len]; omega) | trivial) : p := h
theorem szVerdict_ok (v : Verd) (left : Int) (h1 : left ≤ 1048576) (h2 : 0 ≤ left) (g : LenOk v) : Does Tryz.prog 52 [.agg (veC v), .one (int left)] [] (.one (int (szV v left))) [] := by
  obtain ⟨g1, g2, g3, g4⟩ := g
  have h3 := szL_le (n := v.m.ru.length) h1
  refine does_of (k := 0) Tryz.func52 rfl Tryz.ntmps52 rfl rfl fun w F0 S0 ρ0 => ?_
  dsimp only [argT, argH]
  repeat' first | (apply n3; exact a_new (gb := .bx _) rfl; exact rfl; refine dA ?_) | (apply p3; (first | exact pu1 | exact puL | exact puC); exact rfl) | refine cd ?_ | (apply c4 0; exact callK1 (θ := []) (hD := (szMachine_ok _ _ preD5 preD5 preD5)); exact rfl; exact rfl; exact rfl; refine dM ?_) | (apply c4 0; exact callK1 (θ := []) (hD := (szProof_ok _ _ preD5 preD5 preD5 preD5 preD5)); exact rfl; exact rfl; exact rfl; refine dM ?_) | ((first | refine o_gs rfl rfl (fun hc => ?_) (fun hc => ?_) | refine g_cond rfl (fun hc => ?_) (fun hc => ?_)) <;> (try simp only [dcB] at hc) <;> (try first | contradiction | (exfalso; omega)))
  · repeat refine cr ?_
    refine ends_id ?_
    refine endK [] (h2 := ?_) (h3 := ?_) (nd := ?_)
    all_goals (repeat' first | exact ce0 | refine ce ?_ | refine ce2 ?_ ?_ | exact SVLe.refl | refine ceb ?_)
    all_goals first | exact (show nodupB _ = true from rfl) | exact Or.inr rfl | ((unfold szV; simp [*]))
  · repeat refine cr ?_
    refine ends_id ?_
    refine endK [] (h2 := ?_) (h3 := ?_) (nd := ?_)
    all_goals (repeat' first | exact ce0 | refine ce ?_ | refine ce2 ?_ ?_ | exact SVLe.refl | refine ceb ?_)
    all_goals first | exact (show nodupB _ = true from rfl) | exact Or.inr rfl | ((rw [szV, if_neg (by assumption)]; exact (szP_neg (by assumption)).symm))
  · repeat refine cr ?_
    refine ends_id ?_
    refine endK [] (h2 := ?_) (h3 := ?_) (nd := ?_)
    all_goals (repeat' first | exact ce0 | refine ce ?_ | refine ce2 ?_ ?_ | exact SVLe.refl | refine ceb ?_)
    all_goals first | exact (show nodupB _ = true from rfl) | exact Or.inr rfl | ((unfold szV; simp [*]))
theorem szV_ge {v : Verd} {l : Int} (h0 : 0 ≤ l) (hl : l ≤ 1048576) (h : ¬ szV v l < 0) : (v.m.ru.length : Int) ≤ 1048576 ∧ (v.p.nu.length : Int) ≤ 1048576 ∧ (v.p.wo.length : Int) ≤ 1048576 ∧ ∀ x ∈ v.p.wo, (x.length : Int) ≤ 1048576 := by
  unfold szV at h
  split at h
  · omega
  · rename_i h1
    have h2 := szL_ge hl h1
    have h3 := szL_le (n := v.m.ru.length) hl
    have h4 := szP_ge (by omega) h3 h
    exact ⟨by omega, by omega, by omega, fun x hx => by have := h4.2.2 x hx; omega⟩
/-- Verdicts that are small enough. -/
structure BigOk (v : Verd) : Prop where
  a : (v.m.ru.length : Int) ≤ 1048576
  b : (v.p.nu.length : Int) ≤ 1048576
  c : (v.p.wo.length : Int) ≤ 1048576
  d : ∀ x ∈ v.p.wo, (x.length : Int) ≤ 1048576
theorem big_gd {v : Verd} (g : BigOk v) : VeGd v := ⟨by have := g.a; omega, by have := g.b; omega, by have := g.c; omega, fun x hx => by have := g.d x hx; omega⟩
theorem toVerdict_ok (v : Verd) (g : BigOk v) : Does Tryz.prog 54 [.agg (veC v)] [] (.agg (veC v)) [] := by
  obtain ⟨g1, g2, g3, g4⟩ := g
  refine does_of (k := 0) Tryz.func54 rfl Tryz.ntmps54 rfl rfl fun w F0 S0 ρ0 => ?_
  dsimp only [argT, argH]
  repeat' first | (apply n3; exact a_new (gb := .bx _) rfl; exact rfl; refine dA ?_) | (apply p3; (first | exact a_fa_immT 3 (T := 88) (f := 0) (off := 0) rfl (by kernel_rfl) rfl | exact a_fa_immT 3 (T := 88) (f := 1) (off := 3) rfl (by kernel_rfl) rfl | exact puL); exact rfl) | refine cd ?_ | (apply w3; (first | exact a_st_bx rfl rfl rfl rfl (fN rfl rfl) (Nat.le_of_ble_eq_true rfl) rfl | exact a_stE (E := eV) ⟨⟨_, _, _⟩, ⟨_, _, _⟩⟩ rfl rfl rfl rfl (fN rfl rfl) bnd (by exact rfl)); exact rfl; refine dS ?_) | (apply c4 0; exact callF (hD := (toMachine_ok _ preD5)); exact rfl; exact rfl; exact rfl; refine dM ?_) | (apply c4 0; exact callK0 (θ := []) (hD := (toProof_ok _ preD5 preD5 preD5)); exact rfl; exact rfl; exact rfl; refine dM ?_) | (apply c4 2; exact callK1 (θ := []) (hD := (toProofn_ok _ preD5 preD5 preD5)); exact rfl; exact rfl; exact rfl; refine dM ?_) | ((first | refine o_gs rfl rfl (fun hc => ?_) (fun hc => ?_) | refine g_cond rfl (fun hc => ?_) (fun hc => ?_)) <;> (try simp only [dcB] at hc) <;> (try first | contradiction | (exfalso; omega)))
  repeat refine cr ?_
  refine ends_id ?_
  refine endK [] (h2 := ?_) (h3 := ?_) (nd := ?_)
  all_goals (repeat' first | exact ce0 | refine ce ?_ | refine ce2 ?_ ?_ | exact SVLe.refl | refine ceb ?_)
  all_goals first | exact (show nodupB _ = true from rfl) | exact Or.inr rfl | (rfl)
@[irreducible] def eqV (a b : Verd) : Bool := eqM a.m b.m && eqP a.p b.p
theorem eqVerdict_ok (a b : Verd) (g : BigOk a) (k : BigOk b) : Does Tryz.prog 56 [.agg (veC a), .agg (veC b)] [] (.one (boo (eqV a b))) [] := by
  obtain ⟨g1, g2, g3, g4⟩ := g
  obtain ⟨k1, k2, k3, k4⟩ := k
  refine does_of (k := 0) Tryz.func56 rfl Tryz.ntmps56 rfl rfl fun w F0 S0 ρ0 => ?_
  dsimp only [argT, argH]
  repeat' first | (apply n3; exact a_new (gb := .bx _) rfl; exact rfl; refine dA ?_) | (apply p3; (first | exact a_fa_immT 3 (T := 88) (f := 0) (off := 0) rfl (by kernel_rfl) rfl | exact a_fa_immT 3 (T := 88) (f := 1) (off := 3) rfl (by kernel_rfl) rfl | exact puL); exact rfl) | refine cd ?_ | (apply c4 0; exact callK1 (θ := []) (hD := (eqMachine_ok _ _ preD5 preD5)); exact rfl; exact rfl; exact rfl; refine dM ?_) | (apply c4 0; exact callK1 (θ := []) (hD := (eqProof_ok _ _ preD5 preD5 preD5 preD5 preD5 preD5)); exact rfl; exact rfl; exact rfl; refine dM ?_) | ((first | refine o_gs rfl rfl (fun hc => ?_) (fun hc => ?_) | refine g_cond rfl (fun hc => ?_) (fun hc => ?_)) <;> (try simp only [dcB] at hc) <;> (try first | contradiction | (exfalso; omega)))
  all_goals
    repeat refine cr ?_
    refine ends_id ?_
    refine endK [] (h2 := ?_) (h3 := ?_) (nd := ?_)
    all_goals (repeat' first | exact ce0 | refine ce ?_ | refine ce2 ?_ ?_ | exact SVLe.refl | refine ceb ?_)
    all_goals first | exact (show nodupB _ = true from rfl) | exact Or.inr rfl | ((unfold eqV; simp [*]))
end Go.Proofs.YtbekdojhcokalaaGreatDoor
end
section
set_option linter.unusedVariables false
set_option linter.unusedSimpArgs false
set_option maxRecDepth 100000
set_option maxHeartbeats 4000000
namespace Go.Proofs.YtbekdojhcokalaaGreatDoor
open Go Foot
theorem szP_le {p : Prf} {l : Int} (h : l ≤ 1048576) : szP p l ≤ 1048576 := by
  unfold szP
  split
  · omega
  · have h1 := szL_le (n := p.nu.length) h
    have : ∀ (xs : List (List Int)) (k : Int), k ≤ 1048576 → szW xs k ≤ 1048576 := by
      intro xs
      induction xs with
      | nil => intro k hk; unfold szW; exact hk
      | cons x xs ih =>
        intro k hk
        unfold szW
        split
        · omega
        · exact ih _ (szL_le hk)
    unfold szWW
    split
    · omega
    · exact this _ _ (by omega)
theorem szV_le {v : Verd} {l : Int} (h : l ≤ 1048576) : szV v l ≤ 1048576 := by
  unfold szV
  split
  · omega
  · exact szP_le (szL_le h)
/-- What is left behind lists of verdicts. -/
@[irreducible] def szVl : List Verd → Int → Int
  | [], l => l
  | x :: xs, l => if szV x l < 0 then -1 else szVl xs (szV x l)
theorem szVl_step {xs : List Verd} {i l : Int} (h0 : 0 ≤ i) (h : i.toNat < xs.length) : szVl (xs.drop i.toNat) l = if szV (xs[i.toNat]) l < 0 then -1 else szVl (xs.drop (i + 1).toNat) (szV (xs[i.toNat]) l) := by
  rw [List.drop_eq_getElem_cons h, show (i + 1).toNat = i.toNat + 1 by omega]
  conv => lhs; unfold szVl
@[irreducible] def szVs (xs : List Verd) (left : Int) : Int := if left - xs.length < 0 then -1 else szVl xs (left - xs.length)
/-- Lists of verdicts whose slices have lengths. -/
structure LnsOk (l : List Verd) : Prop where
  n : (l.length : Int) ≤ 9223372036854775807
  a : ∀ v ∈ l, LenOk v
theorem lns_at {l : List Verd} (g : LnsOk l) {i : Nat} (h : i < l.length) : LenOk l[i] := g.a _ (List.getElem_mem h)
theorem preD6 {p : Prop} (h : p := by first | with_reducible assumption | omega | (simp only [List.length_append, List.length_cons, List.length_nil, List.length_set, List.length_replicate, List.length_take, List.length_drop, List.length_tail, List.length_dropLast, List.length_reverse] at *; omega) | exact mem_len (by assumption) (by omega) | (with_reducible refine Int.le_trans (Int.ofNat_le.2 (trimR_len _)) ?_; simp only [List.length_cons, List.length_tail]; omega) | (exact (ruAt_ok (by assumption) (by assumption) (by assumption)).2.1) | (exact (ruAt_ok (by assumption) (by assumption) (by assumption)).2.1) | (have := vMach_bd (by assumption); omega) | (simp only [mC_ch, mC_tu]; omega) | (have := vTag_bd (by assumption); omega) | (have := (‹Gd _ _›).le; omega) | (exact tgHalts_no (by assumption)) | (exact tgHead (by assumption) (by assumption) (by assumption)) | (exact Int.le_trans (tgStep_gd (by assumption) (by assumption) (by assumption) (by assumption)).le (by decide)) | (exact vTag_r (by assumption)) | (with_reducible refine Int.le_trans (Int.ofNat_le.2 (pushL_len _ _)) ?_; simp only [List.length_dropLast]; omega) | exact ls_at (by assumption) (by omega) | exact (ask_ok (by assumption)).1 | exact (ask_ok (by assumption)).2.1 | exact (ask_ok (by assumption)).2.2.1 | exact (ask_ok (by assumption)).2.2.2 | (simp only [marks_len]; omega) | (simp only [marksR_len]; omega) | exact lns_at (by assumption) (by omega) | trivial) : p := h
theorem szVerdictS_ok (xs : List Verd) (left : Int) (h1 : left ≤ 1048576) (h2 : 0 ≤ left) (g : LnsOk xs) : Does Tryz.prog 11 [.one (shV xs), .one (int left)] [] (.one (int (szVs xs left))) [] := by
  have hx := g.n
  refine does_of (k := 0) Tryz.func11 rfl Tryz.ntmps11 rfl rfl fun w F0 S0 ρ0 => ?_
  dsimp only [argT, argH]
  repeat' first | (apply p3; (first | exact pu1 | exact puL | exact puN | exact a_len_str rfl (fT rfl) | exact a_sub rfl rfl (by omega) (by omega) | exact puC | exact a_add rfl rfl (by omega) (by omega) | exact puI); exact rfl) | refine cd ?_ | (apply c4 0; exact callK1 (θ := []) (hD := (szVerdict_ok _ _ preD6 preD6 preD6)); exact rfl; exact rfl; exact rfl; refine dM ?_) | ((first | refine o_gs rfl rfl (fun hc => ?_) (fun hc => ?_) | refine g_cond rfl (fun hc => ?_) (fun hc => ?_)) <;> (try simp only [dcB] at hc) <;> (try first | contradiction | (exfalso; omega)))
  · repeat refine cr ?_
    refine ends_id ?_
    refine endK [] (h2 := ?_) (h3 := ?_) (nd := ?_)
    all_goals (repeat' first | exact ce0 | refine ce ?_ | refine ce2 ?_ ?_ | exact SVLe.refl | refine ceb ?_)
    all_goals first | exact (show nodupB _ = true from rfl) | exact Or.inr rfl | ((unfold szVs; simp [*]))
  · have e0 : szVs xs left = szVl xs (left - xs.length) := by unfold szVs; rw [if_neg hc]
    refine g_loop_id ?_
    refine loopK [0, 4] [] (fun y : Int × Int => 0 ≤ y.1 ∧ y.1 ≤ xs.length ∧ 0 ≤ y.2 ∧ y.2 ≤ 1048576 ∧ szVl (xs.drop y.1.toNat) y.2 = szVs xs left) (fun y => [(5, .one (int y.1)), (1, .one (int y.2))]) (fun _ => []) (fun y => (xs.length - y.1).toNat) ((0 : Int), left - xs.length) [] (hI := ?_) (hr := ?_)
    · exact ⟨by simp, by simp, by dsimp only; omega, by dsimp only; omega, by rw [e0]; rfl⟩
    · rintro ⟨i, l⟩ ⟨k1, k2, k3, k4, k5⟩
      dsimp only [List.cons_append, List.nil_append] at *
      skip
      repeat' first | (apply p3; (first | exact pu1 | exact puL | exact puN | exact a_len_str rfl (fT rfl) | exact puC | exact a_add rfl rfl (by omega) (by omega) | exact puI); exact rfl) | refine cd ?_ | (apply c4 0; exact callK1 (θ := []) (hD := (szVerdict_ok _ _ preD6 preD6 preD6)); exact rfl; exact rfl; exact rfl; refine dM ?_) | ((first | refine o_gs rfl rfl (fun hc => ?_) (fun hc => ?_) | refine g_cond rfl (fun hc => ?_) (fun hc => ?_)) <;> (try simp only [dcB] at hc) <;> (try first | contradiction | (exfalso; omega)))
      · rw [szVl_step k1 (by omega), if_pos hc] at k5
        repeat refine cr ?_
        refine ends_id ?_
        refine endK [] (h2 := ?_) (h3 := ?_) (nd := ?_)
        all_goals (repeat' first | exact ce0 | refine ce ?_ | refine ce2 ?_ ?_ | exact SVLe.refl | refine ceb ?_)
        all_goals first | exact (show nodupB _ = true from rfl) | exact Or.inr rfl | (exact k5)
      · rw [szVl_step k1 (by omega), if_neg hc] at k5
        have := szV_le (v := xs[i.toNat]'(by omega)) k4
        refine q_again (i + 1, _) [] (by exact stk) ?_ ?_
        · exact ⟨by dsimp only; omega, by dsimp only; omega, by dsimp only; omega, by dsimp only; omega, k5⟩
        · dsimp only; omega
      · rw [List.drop_eq_nil_of_le (by omega)] at k5
        unfold szVl at k5
        repeat refine cr ?_
        refine ends_id ?_
        refine endK [] (h2 := ?_) (h3 := ?_) (nd := ?_)
        all_goals (repeat' first | exact ce0 | refine ce ?_ | refine ce2 ?_ ?_ | exact SVLe.refl | refine ceb ?_)
        all_goals first | exact (show nodupB _ = true from rfl) | exact Or.inr rfl | (exact k5)
structure BgsOk (l : List Verd) : Prop where
  n : (l.length : Int) ≤ 1048576
  a : ∀ v ∈ l, BigOk v
theorem bgs_at {l : List Verd} (g : BgsOk l) {i : Nat} (h : i < l.length) : BigOk l[i] := g.a _ (List.getElem_mem h)
theorem szVl_ge : ∀ {xs : List Verd} {l : Int}, 0 ≤ l → l ≤ 1048576 → ¬ szVl xs l < 0 → ∀ x ∈ xs, BigOk x
  | [], l, _, _, _, x, hx => by cases hx
  | y :: xs, l, h0, hl, h, x, hx => by
    unfold szVl at h
    split at h
    · omega
    · rename_i h1
      rcases List.mem_cons.1 hx with rfl | hx
      · obtain ⟨g1, g2, g3, g4⟩ := szV_ge h0 hl h1
        exact ⟨g1, g2, g3, g4⟩
      · exact szVl_ge (by omega) (szV_le hl) h x hx
theorem szVs_ge {xs : List Verd} (h : ¬ szVs xs 1048576 < 0) : BgsOk xs := by
  unfold szVs at h
  split at h
  · omega
  · rename_i h1
    exact ⟨by omega, szVl_ge (by omega) (by omega) h⟩
theorem bgs_ls {l : List Verd} (g : BgsOk l) : LsGd l := ⟨by have := g.n; omega, fun v hv => big_gd (g.a v hv)⟩
theorem verds_len {l : List Verd} (h : l.length ≤ maxLen ∧ ∀ x ∈ l, VerdOk x) : LnsOk l := ⟨by have := h.1; unfold maxLen at this; omega, fun v hv => verd_len (h.2 v hv)⟩
abbrev eVo : Enc (Option Verd) := ⟨6, fun o => match o with | none => [.sc (.int .i64 0), .sc (.int .i64 0), .sc (.slice none 0 0), .sc (.int .i64 0), .sc (.slice none 0 0), .sc (.slice none 0 0)] | some v => [.sc (.int .i64 v.m.sy), .sc (.int .i64 v.m.st), .sl false 3 (rows eR v.m.ru), .sc (.int .i64 v.p.k), .sl false 1 (rows eI v.p.nu), .sl false 1 (rows eW v.p.wo)], fun o => by cases o <;> rfl, by decide⟩
theorem rows_vo (l : List Verd) : rows eVo (l.map some) = rows eV l := by
  induction l with
  | nil => rfl
  | cons a l ih => simp only [List.map_cons, rows] at *; simp_all
abbrev roV (l : List Verd) : GB := .row 6 (rows eV l)
theorem preD6_2 {p : Prop} (h : p := by first | with_reducible assumption | omega | (simp only [List.length_append, List.length_cons, List.length_nil, List.length_set, List.length_replicate, List.length_take, List.length_drop, List.length_tail, List.length_dropLast, List.length_reverse] at *; omega) | exact mem_len (by assumption) (by omega) | (with_reducible refine Int.le_trans (Int.ofNat_le.2 (trimR_len _)) ?_; simp only [List.length_cons, List.length_tail]; omega) | (exact (ruAt_ok (by assumption) (by assumption) (by assumption)).2.1) | (exact (ruAt_ok (by assumption) (by assumption) (by assumption)).2.1) | (have := vMach_bd (by assumption); omega) | (simp only [mC_ch, mC_tu]; omega) | (have := vTag_bd (by assumption); omega) | (have := (‹Gd _ _›).le; omega) | (exact tgHalts_no (by assumption)) | (exact tgHead (by assumption) (by assumption) (by assumption)) | (exact Int.le_trans (tgStep_gd (by assumption) (by assumption) (by assumption) (by assumption)).le (by decide)) | (exact vTag_r (by assumption)) | (with_reducible refine Int.le_trans (Int.ofNat_le.2 (pushL_len _ _)) ?_; simp only [List.length_dropLast]; omega) | exact ls_at (by assumption) (by omega) | exact (ask_ok (by assumption)).1 | exact (ask_ok (by assumption)).2.1 | exact (ask_ok (by assumption)).2.2.1 | exact (ask_ok (by assumption)).2.2.2 | (simp only [marks_len]; omega) | (simp only [marksR_len]; omega) | exact lns_at (by assumption) (by omega) | exact bgs_at (by assumption) (by omega) | trivial) : p := h
theorem toVerdictS_ok (xs : List Verd) (g : BgsOk xs) : Does Tryz.prog 13 [.one (shV xs)] [] (.one (.gv 0)) [roV xs] := by
  have hx := g.n
  refine does_of (k := 0) Tryz.func13 rfl Tryz.ntmps13 rfl rfl fun w F0 S0 ρ0 => ?_
  dsimp only [argT, argH]
  repeat' first | (apply n3; exact a_make (fE rfl) (fZ rfl) (fP rfl) (by decide) rfl rfl (by omega) rfl (by omega) (by omega) (rows_rep eVo none _); exact rfl; refine dA ?_) | (apply p3; (first | exact pu1 | exact puL | exact puN | exact a_len_str rfl (fT rfl) | exact puC | exact a_add rfl rfl (by omega) (by omega) | exact puI); exact rfl) | refine cd ?_ | (apply w3; (first | exact a_st_bx rfl rfl rfl rfl (fN rfl rfl) (Nat.le_of_ble_eq_true rfl) rfl | exact a_stF (E := eV) ⟨⟨_, _, _⟩, ⟨_, _, _⟩⟩ rfl rfl rfl rfl (fN rfl rfl) (Nat.le_of_ble_eq_true rfl) (Nat.le_of_ble_eq_true rfl) (by first | exact List.getElem?_set_self bnd | exact List.getElem?_eq_getElem bnd) (by (try dsimp only [setRow, List.set_cons_succ, List.set_cons_zero]); first | done | exact rfl) rfl | exact a_stE (E := eVo) (some ⟨⟨_, _, _⟩, ⟨_, _, _⟩⟩) rfl rfl rfl rfl (fN rfl rfl) bnd (by exact rfl)); exact rfl; refine dS ?_) | (apply c4 0; exact callK0 (θ := []) (hD := (toVerdict_ok _ preD6_2)); exact rfl; exact rfl; exact rfl; refine dM ?_) | (apply c4 3; exact callK1 (θ := []) (hD := (toVerdictn_ok _ preD6_2)); exact rfl; exact rfl; exact rfl; refine dM ?_) | ((first | refine o_gs rfl rfl (fun hc => ?_) (fun hc => ?_) | refine g_cond rfl (fun hc => ?_) (fun hc => ?_)) <;> (try simp only [dcB] at hc) <;> (try first | contradiction | (exfalso; omega)))
  refine g_loop_id ?_
  refine loopK [0, 2, 3] [0] (fun x : Int × List (Option Verd) => 0 ≤ x.1 ∧ x.1 ≤ xs.length ∧ x.2.length = xs.length ∧ ∀ k (h : k < xs.length), k < x.1 → x.2[k]? = some (some xs[k])) (fun x => [(4, .one (int x.1))]) (fun x => [(0, .row 6 (rows eVo x.2))]) (fun x => (xs.length - x.1).toNat) ((0 : Int), List.replicate xs.length (none : Option Verd)) [0] (hI := ?_) (hr := ?_)
  · exact ⟨by simp, by simp, by simp, by intro k h h'; simp at h'; omega⟩
  · rintro ⟨i, l⟩ ⟨h0, h1, h2, h3⟩
    dsimp only [List.cons_append, List.nil_append] at *
    skip
    repeat' first | (apply p3; (first | exact pu1 | exact puL | exact puN | exact a_len_str rfl (fT rfl) | exact puC | exact a_add rfl rfl (by omega) (by omega) | exact puI); exact rfl) | refine cd ?_ | (apply w3; (first | exact a_st_bx rfl rfl rfl rfl (fN rfl rfl) (Nat.le_of_ble_eq_true rfl) rfl | exact a_stF (E := eV) ⟨⟨_, _, _⟩, ⟨_, _, _⟩⟩ rfl rfl rfl rfl (fN rfl rfl) (Nat.le_of_ble_eq_true rfl) (Nat.le_of_ble_eq_true rfl) (by first | exact List.getElem?_set_self bnd | exact List.getElem?_eq_getElem bnd) (by (try dsimp only [setRow, List.set_cons_succ, List.set_cons_zero]); first | done | exact rfl) rfl | exact a_stE (E := eVo) (some ⟨⟨_, _, _⟩, ⟨_, _, _⟩⟩) rfl rfl rfl rfl (fN rfl rfl) bnd (by exact rfl)); exact rfl; refine dS ?_) | (apply c4 0; exact callK0 (θ := []) (hD := (toVerdict_ok _ preD6_2)); exact rfl; exact rfl; exact rfl; refine dM ?_) | (apply c4 3; exact callK1 (θ := []) (hD := (toVerdictn_ok _ preD6_2)); exact rfl; exact rfl; exact rfl; refine dM ?_) | ((first | refine o_gs rfl rfl (fun hc => ?_) (fun hc => ?_) | refine g_cond rfl (fun hc => ?_) (fun hc => ?_)) <;> (try simp only [dcB] at hc) <;> (try first | contradiction | (exfalso; omega)))
    · refine q_again (i + 1, l.set i.toNat (some (xs[i.toNat]'(by omega)))) [0] (by exact stk) ?_ ?_
      · refine ⟨by dsimp only; omega, by dsimp only; omega, by simp [h2], fun k h h' => ?_⟩
        dsimp only at h' ⊢
        rw [List.getElem?_set]
        split
        · rename_i e
          subst e
          rw [if_pos (by omega)]
        · exact h3 k h (by omega)
      · dsimp only; omega
    · have hl : l = xs.map some := by
        apply List.ext_getElem?
        intro k
        by_cases hk : k < xs.length
        · rw [h3 k hk (by omega), List.getElem?_map, List.getElem?_eq_getElem hk]; rfl
        · rw [List.getElem?_eq_none (by omega), List.getElem?_eq_none (by rw [List.length_map]; omega)]
      subst hl
      rw [rows_vo]
      repeat refine cr ?_
      refine ends_id ?_
      refine endK [?_] (h2 := ?_) (h3 := ?_) (nd := ?_)
      rotate_left 1
      all_goals (repeat' first | exact ce0 | refine ce ?_ | refine ce2 ?_ ?_ | exact SVLe.refl | refine ceb ?_)
      all_goals first | exact (show nodupB _ = true from rfl) | exact Or.inr rfl | (rfl)
theorem eqV_iff {a b : Verd} : eqV a b = true ↔ a = b := by
  obtain ⟨⟨a1, a2, a3⟩, ⟨a4, a5, a6⟩⟩ := a
  obtain ⟨⟨b1, b2, b3⟩, ⟨b4, b5, b6⟩⟩ := b
  unfold eqV eqM eqP
  simp only [Bool.and_eq_true, decide_eq_true_eq, Verd.mk.injEq, Mach.mk.injEq, Prf.mk.injEq]
theorem eqVerdictSs_ok (xs : List Verd) (g : BgsOk xs) : Does Tryz.prog 16 [.one (shV xs), .one (shV xs)] [] (.one (boo true)) [] := by
  have hx := g.n
  have hq : ∀ v : Verd, ¬ eqV v v = false := fun v h => by rw [eqV_iff.2 rfl] at h; cases h
  refine does_of (k := 0) Tryz.func16 rfl Tryz.ntmps16 rfl rfl fun w F0 S0 ρ0 => ?_
  dsimp only [argT, argH]
  repeat' first | (apply p3; (first | exact pu1 | exact puN | exact a_len_str rfl (fT rfl) | exact a_ne rfl rfl | exact a_neS rfl rfl rfl | exact puC | exact a_add rfl rfl (by omega) (by omega)); exact rfl) | refine cd ?_ | (apply g_drN (id := 6) okM [[],[],[0,1],[0,1,2],[],[],[4,5],[4,5,6],[0,1,2,3,4,5,6,7],[0,1,2,3,4,5,6,7,8]] [([],[]),([],[]),([],[]),([],[]),([],[]),([],[]),([],[]),([],[]),([],[]),([],[])] 0; (focus (refine dp 0 0 [18, 21, 22, 23, 24] [] pu1 ?_; refine dp 1 0 [17, 21, 22, 23, 24] [] pu1 ?_; refine dp 2 3 [21, 22, 23, 24] [] puI ?_; refine dp 3 7 [21, 22, 23, 24] [] puL ?_; refine dp 4 0 [17, 18, 19, 20, 22] [] pu1 ?_; refine dp 5 0 [17, 18, 19, 20, 21] [] pu1 ?_; refine dp 6 3 [17, 18, 19, 20] [] puI ?_; refine dp 7 7 [17, 18, 19, 20] [] puL ?_; refine dp 8 255 [] [] (callD1 (n := _) 0 (θ := []) (hD := (eqVerdict_ok _ _ preD6_2 preD6_2))) ?_; refine dp 9 511 [] [] (a_pure (sv := .one _) rfl) ?_; (refine d_nil ?_; refine dN ?_))); any_goals kernel_rfl) | ((first | refine o_gs rfl rfl (fun hc => ?_) (fun hc => ?_) | refine g_cond rfl (fun hc => ?_) (fun hc => ?_)) <;> (try simp only [dcB] at hc) <;> (try first | contradiction | (exfalso; omega)))
  refine g_loop_id ?_
  refine loopK [0, 1, 4] [] (fun i : Int => 0 ≤ i ∧ i ≤ xs.length) (fun i => [(5, .one (int i))]) (fun _ => []) (fun i => (xs.length - i).toNat) (0 : Int) [] (hI := ?_) (hr := ?_)
  · exact ⟨by simp, by simp⟩
  · rintro i ⟨h0, h1⟩
    dsimp only [List.cons_append, List.nil_append] at *
    skip
    repeat' first | (apply p3; (first | exact pu1 | exact puN | exact a_len_str rfl (fT rfl) | exact puC); exact rfl) | refine cdn ?_ | refine g_reg (id := 4) ?_ | refine g_reg (id := 8) ?_ | ((first | refine o_gs rfl rfl (fun hc => ?_) (fun hc => ?_) | refine g_cond rfl (fun hc => ?_) (fun hc => ?_)) <;> (try simp only [dcB] at hc) <;> (try first | contradiction | (exfalso; omega)))
    · have hq2 := hq (xs[i.toNat]'(by omega))
      repeat' first | (apply p3; (first | exact pu1 | exact puN | exact a_len_str rfl (fT rfl) | exact puC | exact a_add rfl rfl (by omega) (by omega)); exact rfl) | refine cd ?_ | (apply g_drN (id := 6) okM [[],[],[0,1],[0,1,2],[],[],[4,5],[4,5,6],[0,1,2,3,4,5,6,7],[0,1,2,3,4,5,6,7,8]] [([],[]),([],[]),([],[]),([],[]),([],[]),([],[]),([],[]),([],[]),([],[]),([],[])] 0; (focus (refine dp 0 0 [18, 21, 22, 23, 24] [] pu1 ?_; refine dp 1 0 [17, 21, 22, 23, 24] [] pu1 ?_; refine dp 2 3 [21, 22, 23, 24] [] puI ?_; refine dp 3 7 [21, 22, 23, 24] [] puL ?_; refine dp 4 0 [17, 18, 19, 20, 22] [] pu1 ?_; refine dp 5 0 [17, 18, 19, 20, 21] [] pu1 ?_; refine dp 6 3 [17, 18, 19, 20] [] puI ?_; refine dp 7 7 [17, 18, 19, 20] [] puL ?_; refine dp 8 255 [] [] (callD1 (n := _) 0 (θ := []) (hD := (eqVerdict_ok _ _ preD6_2 preD6_2))) ?_; refine dp 9 511 [] [] (a_pure (sv := .one _) rfl) ?_; (refine d_nil ?_; refine dN ?_))); any_goals kernel_rfl) | ((first | refine o_gs rfl rfl (fun hc => ?_) (fun hc => ?_) | refine g_cond rfl (fun hc => ?_) (fun hc => ?_)) <;> (try simp only [dcB] at hc) <;> (try first | contradiction | (exfalso; omega)))
      refine q_again (i + 1) [] (by exact stk) ?_ ?_
      · exact ⟨by omega, by omega⟩
      · omega
    · repeat' first | (apply p3; (first | exact pu1 | exact puN | exact a_len_str rfl (fT rfl) | exact puC | exact a_add rfl rfl (by omega) (by omega)); exact rfl) | refine cd ?_ | (apply g_drN (id := 6) okM [[],[],[0,1],[0,1,2],[],[],[4,5],[4,5,6],[0,1,2,3,4,5,6,7],[0,1,2,3,4,5,6,7,8]] [([],[]),([],[]),([],[]),([],[]),([],[]),([],[]),([],[]),([],[]),([],[]),([],[])] 0; (focus (refine dp 0 0 [18, 21, 22, 23, 24] [] pu1 ?_; refine dp 1 0 [17, 21, 22, 23, 24] [] pu1 ?_; refine dp 2 3 [21, 22, 23, 24] [] puI ?_; refine dp 3 7 [21, 22, 23, 24] [] puL ?_; refine dp 4 0 [17, 18, 19, 20, 22] [] pu1 ?_; refine dp 5 0 [17, 18, 19, 20, 21] [] pu1 ?_; refine dp 6 3 [17, 18, 19, 20] [] puI ?_; refine dp 7 7 [17, 18, 19, 20] [] puL ?_; refine dp 8 255 [] [] (callD1 (n := _) 0 (θ := []) (hD := (eqVerdict_ok _ _ preD6_2 preD6_2))) ?_; refine dp 9 511 [] [] (a_pure (sv := .one _) rfl) ?_; (refine d_nil ?_; refine dN ?_))); any_goals kernel_rfl) | ((first | refine o_gs rfl rfl (fun hc => ?_) (fun hc => ?_) | refine g_cond rfl (fun hc => ?_) (fun hc => ?_)) <;> (try simp only [dcB] at hc) <;> (try first | contradiction | (exfalso; omega)))
      repeat refine cr ?_
      refine ends_id ?_
      refine endK [] (h2 := ?_) (h3 := ?_) (nd := ?_)
      all_goals (repeat' first | exact ce0 | refine ce ?_ | refine ce2 ?_ ?_ | exact SVLe.refl | refine ceb ?_)
      all_goals first | exact (show nodupB _ = true from rfl) | exact Or.inr rfl | (rfl)
end Go.Proofs.YtbekdojhcokalaaGreatDoor
end
section
set_option linter.unusedVariables false
set_option linter.unusedSimpArgs false
set_option maxRecDepth 100000
set_option maxHeartbeats 4000000
namespace Go.Proofs.YtbekdojhcokalaaGreatDoor
open Go Foot
end Go.Proofs.YtbekdojhcokalaaGreatDoor
end
section
set_option linter.unusedVariables false
set_option linter.unusedSimpArgs false
set_option maxRecDepth 100000
set_option maxHeartbeats 4000000
namespace Go.Proofs.YtbekdojhcokalaaGreatDoor
open Go Foot
theorem preB35 {p : Prop} (h : p := by first | with_reducible assumption | omega | (simp only [List.length_append, List.length_cons, List.length_nil, List.length_set, List.length_replicate, List.length_take, List.length_drop, List.length_tail, List.length_dropLast, List.length_reverse] at *; omega) | exact mem_len (by assumption) (by omega) | (with_reducible refine Int.le_trans (Int.ofNat_le.2 (trimR_len _)) ?_; simp only [List.length_cons, List.length_tail]; omega) | (exact (ruAt_ok (by assumption) (by assumption) (by assumption)).2.1) | (exact (ruAt_ok (by assumption) (by assumption) (by assumption)).2.1) | (have := vMach_bd (by assumption); omega) | (simp only [mC_ch, mC_tu]; omega) | (with_reducible refine Int.le_trans (Int.ofNat_le.2 (pushL_len _ _)) ?_; simp only [List.length_dropLast]; omega) | exact (ask_ok (by assumption)).1 | exact (ask_ok (by assumption)).2.1 | exact (ask_ok (by assumption)).2.2.1 | exact (ask_ok (by assumption)).2.2.2 | trivial) : p := h
theorem l25Blank_ok : Does Tryz.prog 126 [] [] (.agg [int 0, .gv 0, .gv 1]) [roI [], roI []] := by
  refine does_of (k := 0) Tryz.func126 rfl Tryz.ntmps126 rfl rfl fun w F0 S0 ρ0 => ?_
  dsimp only [argT, argH]
  repeat' first | (apply n3; (first | exact a_new (gb := .bx _) rfl | exact a_litE eI [] rfl rfl rfl rfl rfl rfl rfl rfl); exact rfl; refine dA ?_) | (apply p3; exact a_pure (sv := .agg _) rfl; exact rfl) | refine cd ?_ | (apply w3; (first | exact a_st_bx rfl rfl rfl rfl (fN rfl rfl) (Nat.le_of_ble_eq_true rfl) rfl | exact a_stE (E := eCf) ⟨_, _, _⟩ rfl rfl rfl rfl (fN rfl rfl) bnd (by exact rfl)); exact rfl; refine dS ?_) | ((first | refine o_gs rfl rfl (fun hc => ?_) (fun hc => ?_) | refine g_cond rfl (fun hc => ?_) (fun hc => ?_)) <;> (try simp only [dcB] at hc) <;> (try first | contradiction | (exfalso; omega)))
  repeat refine cr ?_
  refine ends_id ?_
  refine endK [?_, ?_] (h2 := ?_) (h3 := ?_) (nd := ?_)
  rotate_left 2
  all_goals (repeat' first | exact ce0 | refine ce ?_ | refine ce2 ?_ ?_ | exact SVLe.refl | refine ceb ?_)
  all_goals first | exact (show nodupB _ = true from rfl) | exact Or.inr rfl | (rfl)
theorem ru_move {m : Mach} {c : Conf} (hm : vMach m = true) (hc : vConf m c = true) (h : (c.st * m.sy + c.ri.headD 0).toNat < m.ru.length) : (m.ru[(c.st * m.sy + c.ri.headD 0).toNat]).m = (ruAt m c).m := by rw [ruAt_ge hm hc]
theorem l25Side_ok (m : Mach) (c : Conf) (hm : vMach m = true) (hc : vConf m c = true) : Does Tryz.prog 188 [.one (maB m), .one (coB c)] [] (.one (int (ruAt m c).m)) [] := by
  have hbd := at_bd hm hc
  refine does_of (k := 0) Tryz.func188 rfl Tryz.ntmps188 rfl rfl fun w F0 S0 ρ0 => ?_
  dsimp only [argT, argH]
  repeat' first | (apply p3; exact a_pure (sv := .one _) rfl; exact rfl) | refine cd ?_ | (apply g_drN (id := 1) okM [[],[0],[0,1],[0,1,2],[],[],[4,5],[0,1,2,3,4,5,6],[0,1,2,3,4,5,6,7],[0,1,2,3,4,5,6,7,8],[0,1,2,3,4,5,6,7,8,9]] [([],[]),([],[]),([],[]),([],[]),([],[]),([],[]),([],[]),([],[]),([],[]),([],[]),([],[])] 0; (focus (refine dp 0 0 [9, 10, 11] [] pu1 ?_; refine dp 1 1 [9, 10, 11] [] (a_pure (sv := .one _) rfl) ?_; refine dp 2 3 [9, 10, 11] [] (a_pure (sv := .one _) rfl) ?_; refine dp 3 7 [9, 10, 11] [] puL ?_; refine dp 4 0 [5, 6, 7, 8, 10] [] pu1 ?_; refine dp 5 0 [5, 6, 7, 8, 9] [] pu1 ?_; refine dp 6 3 [5, 6, 7, 8] [] (callD1 (n := _) 0 (θ := []) (hD := (l05AtC_ok _ _ preB35 preB35))) ?_; refine dp 7 127 [] [] puI ?_; refine dp 8 255 [] [] (a_pure (sv := .one _) rfl) ?_; refine dp 9 511 [] [] puL ?_; refine dp 10 1023 [] [] pu1 ?_; (refine d_nil ?_; refine dN ?_))); any_goals kernel_rfl) | ((first | refine o_gs rfl rfl (fun hc => ?_) (fun hc => ?_) | refine g_cond rfl (fun hc => ?_) (fun hc => ?_)) <;> (try simp only [dcB] at hc) <;> (try first | contradiction | (exfalso; omega)))
  simp only [ru_move hm hc]
  repeat refine cr ?_
  refine ends_id ?_
  refine endK [] (h2 := ?_) (h3 := ?_) (nd := ?_)
  all_goals (repeat' first | exact ce0 | refine ce ?_ | refine ce2 ?_ ?_ | exact SVLe.refl | refine ceb ?_)
  all_goals first | exact (show nodupB _ = true from rfl) | exact Or.inr rfl | (rfl)
/-- A walk of a given length. -/
def goO (m : Mach) : Nat → Conf → Int → Conf × Int × Bool
  | 0, c, a => (c, a, true)
  | k + 1, c, a => if ruAt m c = noR then (c, 0, false) else if roomS (stepS (ruAt m c) c) then goO m k (stepS (ruAt m c) c) (a + (ruAt m c).m) else (c, 0, false)
theorem go_halt {m : Mach} {n a : Int} {c : Conf} {O : Conf × Int × Bool} (hn : 0 < n) (h : ruAt m c = noR) (hO : goO m n.toNat c a = O) : O = (c, 0, false) := by
  rw [← hO, show n.toNat = (n - 1).toNat + 1 by omega]; unfold goO; rw [if_pos h]
theorem go_full {m : Mach} {n a : Int} {c : Conf} {O : Conf × Int × Bool} (hn : 0 < n) (h : ¬ ruAt m c = noR) (hr : roomS (stepS (ruAt m c) c) = false) (hO : goO m n.toNat c a = O) : O = (c, 0, false) := by
  rw [← hO, show n.toNat = (n - 1).toNat + 1 by omega]; unfold goO; rw [if_neg h]; simp [hr]
theorem go_next {m : Mach} {n a : Int} {c : Conf} {O : Conf × Int × Bool} (hn : 0 < n) (h : ¬ ruAt m c = noR) (hr : roomS (stepS (ruAt m c) c) = true) (hO : goO m n.toNat c a = O) : goO m (n - 1).toNat (stepS (ruAt m c) c) (a + (ruAt m c).m) = O := by
  rw [← hO, show n.toNat = (n - 1).toNat + 1 by omega]; conv => rhs; unfold goO
  rw [if_neg h]; simp [hr]
theorem go_end {m : Mach} {n a : Int} {c : Conf} {O : Conf × Int × Bool} (hn : ¬ 0 < n) (hO : goO m n.toNat c a = O) : O = (c, a, true) := by
  rw [← hO, show n.toNat = 0 by omega]; unfold goO; rfl
theorem l25After_ok (m : Mach) (c : Conf) (n : Int) (hm : vMach m = true) (hc : vConf m c = true) (hn : n ≤ 1000000) (O : Conf × Int × Bool) (hO : goO m n.toNat c 0 = O) : Does Tryz.prog 125 [.one (maB m), .agg (coC c), .one (int n)] [] (.tup [(true, [int O.1.st, .gv 0, .gv 1]), (false, [int O.2.1]), (false, [boo O.2.2])]) [roI O.1.le, roI O.1.ri] := by
  have hbd := at_bd hm hc
  refine does_of (k := 0) Tryz.func125 rfl Tryz.ntmps125 rfl rfl fun w F0 S0 ρ0 => ?_
  dsimp only [argT, argH]
  repeat' first | (apply n3; exact a_new (gb := .bx _) rfl; exact rfl; refine dA ?_) | (apply p3; (first | exact pu1 | exact puL | exact puC | exact a_add rfl rfl (by omega) (by omega) | exact a_sub rfl rfl (by omega) (by omega)); exact rfl) | refine cd ?_ | (apply w3; (first | exact a_st_bx rfl rfl rfl rfl (fN rfl rfl) (Nat.le_of_ble_eq_true rfl) rfl | exact a_stE (E := eCf) ⟨_, _, _⟩ rfl rfl rfl rfl (fN rfl rfl) bnd (by exact rfl)); exact rfl; refine dS ?_) | (apply c4 2; exact callK1 (θ := []) (hD := (l05OwnConfig_ok _ preB35 preB35)); exact rfl; exact rfl; exact rfl; refine dM ?_) | (apply c4 0; exact callK1 (θ := []) (hD := (l05HaltsC_ok _ _ preB35 preB35)); exact rfl; exact rfl; exact rfl; refine dM ?_) | (apply c4 0; exact callK1 (θ := []) (hD := (l25Side_ok _ _ preB35 preB35)); exact rfl; exact rfl; exact rfl; refine dM ?_) | (apply c4 2; exact callK1 (θ := []) (hD := (l05StepC_ok _ _ preB35 preB35)); exact rfl; exact rfl; exact rfl; refine dM ?_) | ((first | refine o_gs rfl rfl (fun hc => ?_) (fun hc => ?_) | refine g_cond rfl (fun hc => ?_) (fun hc => ?_)) <;> (try simp only [dcB] at hc) <;> (try first | contradiction | (exfalso; omega)))
  refine g_loop_id ?_
  refine loopK [0, 6, 7, 8, 9] [2, 3, 4] (fun y : Int × Conf × Int => vConf m y.2.1 = true ∧ y.1 ≤ n ∧ (0 ≤ y.1 ∨ y.1 = n) ∧ y.2.2 ≤ n - y.1 ∧ y.1 - n ≤ y.2.2 ∧ goO m y.1.toNat y.2.1 y.2.2 = O) (fun y => [(2, .one (int y.1)), (10, .one (int y.2.2))]) (fun y => [(4, .bx [int y.2.1.st, .gv 2, .gv 3]), (2, roI y.2.1.le), (3, roI y.2.1.ri)]) (fun y => y.1.toNat) (n, c, (0 : Int)) [0, 1, 2, 3, 4] (hI := ?_) (hr := ?_)
  · exact ⟨hc, by simp, .inr rfl, by simp, by simp, hO⟩
  · rintro ⟨k, c, a⟩ ⟨i1, i2, i3, i4, i5, i6⟩
    dsimp only [List.cons_append, List.nil_append] at *
    skip
    have hbd := at_bd hm i1; have hok := ruAt_ok hm i1
    repeat' first | (apply p3; (first | exact pu1 | exact puL | exact puC); exact rfl) | refine cdn ?_ | refine g_reg (id := 3) ?_ | refine g_reg (id := 5) ?_ | refine g_reg (id := 6) ?_ | refine g_reg (id := 12) ?_ | (apply w3; (first | exact a_st_bx rfl rfl rfl rfl (fN rfl rfl) (Nat.le_of_ble_eq_true rfl) rfl | exact a_stE (E := eCf) ⟨_, _, _⟩ rfl rfl rfl rfl (fN rfl rfl) bnd (by exact rfl)); exact rfl; refine dS ?_) | (apply c4 0; exact callK1 (θ := []) (hD := (l05HaltsC_ok _ _ preB35 preB35)); exact rfl; exact rfl; exact rfl; refine dM ?_) | ((first | refine o_gs rfl rfl (fun hc => ?_) (fun hc => ?_) | refine g_cond rfl (fun hc => ?_) (fun hc => ?_)) <;> (try simp only [dcB] at hc) <;> (try first | contradiction | (exfalso; omega)))
    · obtain rfl := go_halt (by omega) hc i6
      repeat refine cr ?_
      refine ends_id ?_
      refine endK [?_, ?_] (h2 := ?_) (h3 := ?_) (nd := ?_)
      rotate_left 2
      all_goals (repeat' first | exact ce0 | refine ce ?_ | refine ce2 ?_ ?_ | exact SVLe.refl | refine ceb ?_)
      all_goals first | exact (show nodupB _ = true from rfl) | exact Or.inr rfl | (rfl)
    · have hnr : ¬ ruAt m c = noR := hc
      have hok := hok hnr
      repeat' first | (apply n3; exact a_new (gb := .bx _) rfl; exact rfl; refine dA ?_) | (apply p3; (first | exact pu1 | exact puL | exact puC | exact a_add rfl rfl (by omega) (by omega) | exact a_sub rfl rfl (by omega) (by omega)); exact rfl) | refine cd ?_ | (apply w3; (first | exact a_st_bx rfl rfl rfl rfl (fN rfl rfl) (Nat.le_of_ble_eq_true rfl) rfl | exact a_stE (E := eCf) ⟨_, _, _⟩ rfl rfl rfl rfl (fN rfl rfl) bnd (by exact rfl)); exact rfl; refine dS ?_) | (apply c4 0; exact callK1 (θ := []) (hD := (l05HaltsC_ok _ _ preB35 preB35)); exact rfl; exact rfl; exact rfl; refine dM ?_) | (apply c4 0; exact callK1 (θ := []) (hD := (l25Side_ok _ _ preB35 preB35)); exact rfl; exact rfl; exact rfl; refine dM ?_) | (apply c4 2; exact callK1 (θ := []) (hD := (l05StepC_ok _ _ preB35 preB35)); exact rfl; exact rfl; exact rfl; refine dM ?_) | ((first | refine o_gs rfl rfl (fun hc => ?_) (fun hc => ?_) | refine g_cond rfl (fun hc => ?_) (fun hc => ?_)) <;> (try simp only [dcB] at hc) <;> (try first | contradiction | (exfalso; omega)))
      · obtain rfl := go_full (by omega) hnr (by assumption) i6
        repeat refine cr ?_
        refine ends_id ?_
        refine endK [?_, ?_] (h2 := ?_) (h3 := ?_) (nd := ?_)
        rotate_left 2
        all_goals (repeat' first | exact ce0 | refine ce ?_ | refine ce2 ?_ ?_ | exact SVLe.refl | refine ceb ?_)
        all_goals first | exact (show nodupB _ = true from rfl) | exact Or.inr rfl | (rfl)
      · have hr : roomS (stepS (ruAt m c) c) = true := by assumption
        refine q_again (k - 1, stepS (ruAt m c) c, a + (ruAt m c).m) [0, 1, 5, 6, 4] (by exact stk) ?_ ?_
        · exact ⟨stepS_ok hm i1 hnr hr, by dsimp only; omega, by dsimp only; omega, by dsimp only; omega, by dsimp only; omega, go_next (by omega) hnr hr i6⟩
        · dsimp only; omega
    · obtain rfl := go_end hc i6
      repeat refine cr ?_
      refine ends_id ?_
      refine endK [?_, ?_] (h2 := ?_) (h3 := ?_) (nd := ?_)
      rotate_left 2
      all_goals (repeat' first | exact ce0 | refine ce ?_ | refine ce2 ?_ ?_ | exact SVLe.refl | refine ceb ?_)
      all_goals first | exact (show nodupB _ = true from rfl) | exact Or.inr rfl | (rfl)
section
variable {m : Mach} {d n a b : Int} {c : Conf} {O : Option (Conf × Int × Int)}
end
end Go.Proofs.YtbekdojhcokalaaGreatDoor
end
section
set_option linter.unusedVariables false
set_option linter.unusedSimpArgs false
set_option maxRecDepth 100000
set_option maxHeartbeats 4000000
namespace Go.Proofs.YtbekdojhcokalaaGreatDoor
open Go Foot
theorem vBlank {m : Mach} (hm : vMach m = true) : vConf m ⟨0, [], []⟩ = true := by
  have := vMach_bd hm
  exact vConf_mk ⟨⟨by simp, by dsimp only; omega⟩, vSide_mk (by simp) (by simp) (by simp), vSide_mk (by simp) (by simp) (by simp)⟩
end Go.Proofs.YtbekdojhcokalaaGreatDoor
end
section
set_option linter.unusedVariables false
set_option linter.unusedSimpArgs false
set_option maxRecDepth 100000
set_option maxHeartbeats 4000000
namespace Go.Proofs.YtbekdojhcokalaaGreatDoor
open Go Foot
/-- What a loop over the steps comes to. -/
structure ItOut (X : Type) where
  x : X
  j : Option Code
  c : Conf
/-- A loop over at most so many steps, from a configuration on. -/
def itSteps {X : Type} (m : Mach) (bd : X → Conf × Int × Bool → X × Option Code) : Nat → Int → Conf → X → ItOut X
  | k, n, c, x =>
    if (bd x (c, n, true)).2.isSome then ⟨(bd x (c, n, true)).1, (bd x (c, n, true)).2, c⟩ else
    if ruAt m c = noR then ⟨(bd x (c, n, true)).1, none, c⟩ else
    match k with
    | 0 => ⟨(bd x (c, n, true)).1, none, c⟩
    | k + 1 =>
      if roomS (stepS (ruAt m c) c) then itSteps m bd k (n + 1) (stepS (ruAt m c) c) (bd x (c, n, true)).1
      else ⟨(bd (bd x (c, n, true)).1 (stepS (ruAt m c) c, n + 1, false)).1, (bd (bd x (c, n, true)).1 (stepS (ruAt m c) c, n + 1, false)).2, stepS (ruAt m c) c⟩
section
variable {X : Type} {m : Mach} {bd : X → Conf × Int × Bool → X × Option Code} {b n : Int} {c : Conf} {x : X} {O : ItOut X} {k : Nat}
theorem it_out (h : (bd x (c, n, true)).2.isNone = false) (hO : itSteps m bd k n c x = O) : O = ⟨(bd x (c, n, true)).1, (bd x (c, n, true)).2, c⟩ := by
  rw [← hO]; unfold itSteps; rw [if_pos (by cases hh : (bd x (c, n, true)).2 <;> simp_all)]
theorem it_halt (h : (bd x (c, n, true)).2 = none) (hr : ruAt m c = noR) (hO : itSteps m bd k n c x = O) : O = ⟨(bd x (c, n, true)).1, none, c⟩ := by
  rw [← hO]; unfold itSteps; rw [if_neg (by simp [h]), if_pos hr]
theorem it_end (h : (bd x (c, n, true)).2 = none) (hn : ¬ n < b) (hO : itSteps m bd (b - n).toNat n c x = O) : O = ⟨(bd x (c, n, true)).1, none, c⟩ := by
  rw [← hO, show (b - n).toNat = 0 by omega]; unfold itSteps; rw [if_neg (by simp [h])]
  split <;> rfl
theorem it_full (h : (bd x (c, n, true)).2 = none) (hr : ¬ ruAt m c = noR) (hn : n < b) (hf : roomS (stepS (ruAt m c) c) = false) (hO : itSteps m bd (b - n).toNat n c x = O) :
    O = ⟨(bd (bd x (c, n, true)).1 (stepS (ruAt m c) c, n + 1, false)).1, (bd (bd x (c, n, true)).1 (stepS (ruAt m c) c, n + 1, false)).2, stepS (ruAt m c) c⟩ := by
  rw [← hO, show (b - n).toNat = (b - (n + 1)).toNat + 1 by omega]; unfold itSteps; rw [if_neg (by simp [h]), if_neg hr]; simp [hf]
theorem it_next (h : (bd x (c, n, true)).2 = none) (hr : ¬ ruAt m c = noR) (hn : n < b) (hf : roomS (stepS (ruAt m c) c) = true) (hO : itSteps m bd (b - n).toNat n c x = O) : itSteps m bd (b - (n + 1)).toNat (n + 1) (stepS (ruAt m c) c) (bd x (c, n, true)).1 = O := by
  rw [← hO, show (b - n).toNat = (b - (n + 1)).toNat + 1 by omega]; conv => rhs; unfold itSteps
  rw [if_neg (by simp [h]), if_neg hr]; simp [hf]
end
theorem preB30 {p : Prop} (h : p := by first | with_reducible assumption | omega | (simp only [List.length_append, List.length_cons, List.length_nil, List.length_set, List.length_replicate, List.length_take, List.length_drop, List.length_tail, List.length_dropLast, List.length_reverse] at *; omega) | exact mem_len (by assumption) (by omega) | (with_reducible refine Int.le_trans (Int.ofNat_le.2 (trimR_len _)) ?_; simp only [List.length_cons, List.length_tail]; omega) | (exact (ruAt_ok (by assumption) (by assumption) (by assumption)).2.1) | (exact (ruAt_ok (by assumption) (by assumption) (by assumption)).2.1) | (have := vMach_bd (by assumption); omega) | (simp only [mC_ch, mC_tu]; omega) | (with_reducible refine Int.le_trans (Int.ofNat_le.2 (pushL_len _ _)) ?_; simp only [List.length_dropLast]; omega) | exact (ask_ok (by assumption)).1 | exact (ask_ok (by assumption)).2.1 | exact (ask_ok (by assumption)).2.2.1 | exact (ask_ok (by assumption)).2.2.2 | trivial) : p := h
theorem steps_ok (m : Mach) (c : Conf) (b : Int) : Does Tryz.prog 191 [.one (.gv 0), .one (int b)] [ruBx m c.st 1 2, roI c.le.reverse, roI c.ri.reverse] (.one (.fn (.func 235) [.gv 4, .gv 3])) [ruBx m c.st 1 2, roI c.le.reverse, roI c.ri.reverse, .bx [.gv 0], .bx [int b]] := by
  refine does_of (k := 3) Tryz.func191 rfl Tryz.ntmps191 rfl rfl fun w F0 S0 ρ0 => ?_
  dsimp only [argT, argH]
  repeat' first | (apply n3; exact a_new (gb := .bx _) rfl; exact rfl; refine dA ?_) | (apply p3; exact pu1; exact rfl) | refine cd ?_ | ((first | refine o_gs rfl rfl (fun hc => ?_) (fun hc => ?_) | refine g_cond rfl (fun hc => ?_) (fun hc => ?_)) <;> (try simp only [dcB] at hc) <;> (try first | contradiction | (exfalso; omega)))
  repeat refine cr ?_
  refine ends_id ?_
  refine endK [?_, ?_] (h2 := ?_) (h3 := ?_) (nd := ?_)
  rotate_left 2
  all_goals (repeat' first | exact ce0 | refine ce ?_ | refine ce2 ?_ ?_ | (refine Or.inr (bx_eq rfl rfl ?_); (try dsimp only [C.ren, C.ren.all]); (try exact rfl)) | exact SVLe.refl | refine ceb ?_)
  all_goals first | exact (show nodupB _ = true from rfl) | exact Or.inr rfl | (rfl)
theorem stepsIt_ok (m : Mach) (c : Conf) (b : Int) {X : Type} (l : Nat) (R : X → Option Code → Opq) (bd : X → Conf × Int × Bool → X × Option Code) (Pre : X → Conf × Int × Bool → Prop) (x0 : X) (hm : vMach m = true) (hc : vConf m c = true) (h0 : Pre x0 (c, 0, true)) (hb : b ≤ 9223372036854775807) (hst : ∀ x c n, Pre x (c, n, true) → vConf m c = true → (bd x (c, n, true)).2 = none → ruAt m c ≠ noR → n < b → Pre (bd x (c, n, true)).1 (stepS (ruAt m c) c, n + 1, roomS (stepS (ruAt m c) c))) (hY : ∀ x c n room, Pre x (c, n, room) → DoesW (YC Tryz.prog l) [.one (int n), .one (boo room)] [.opq (R x none) [1], ruBx m c.st 2 3, roI c.le.reverse, roI c.ri.reverse] (.one (boo (bd x (c, n, room)).2.isNone)) [.opq (R (bd x (c, n, room)).1 (bd x (c, n, room)).2) [1], ruBx m c.st 2 3, roI c.le.reverse, roI c.ri.reverse]) : Does Tryz.prog 235 [.one (.d (.fn (.yield l) [])), .one (.gv 1), .one (.gv 2)] [.opq (R x0 none) [3], .bx [int b], .bx [.gv 3], ruBx m c.st 4 5, roI c.le.reverse, roI c.ri.reverse] (.tup []) [.opq (R (itSteps m bd b.toNat 0 c x0).x (itSteps m bd b.toNat 0 c x0).j) [3], .bx [int b], .bx [.gv 3], ruBx m (itSteps m bd b.toNat 0 c x0).c.st 6 7, .dead, .dead, roI (itSteps m bd b.toNat 0 c x0).c.le.reverse, roI (itSteps m bd b.toNat 0 c x0).c.ri.reverse]:= by
  generalize hO : itSteps m bd b.toNat 0 c x0 = O
  refine does_of (k := 6) Tryz.func235 rfl Tryz.ntmps235 rfl rfl fun w F0 S0 ρ0 => ?_
  dsimp only [argT, argH]
  repeat' first | (apply p3; (first | exact pu1 | exact puL | exact puC | exact a_add rfl rfl (by omega) (by omega)); exact rfl) | refine cd ?_ | (apply c4 0; exact callY (θ := [0, 3, 6, 7]) (hD := (hY _ _ _ _ (by assumption))); exact rfl; exact rfl; exact rfl; refine dM ?_) | (apply c4 0; exact callY (θ := [0, 3, 8, 9]) (hD := (hY _ _ _ _ (by assumption))); exact rfl; exact rfl; exact rfl; refine dM ?_) | (apply c4 0; exact callK1 (θ := []) (hD := (haltsC_ok _ _ preB30 preB30)); exact rfl; exact rfl; exact rfl; refine dM ?_) | (apply c4 2; exact callK0 (θ := [_, _, _]) (hD := (stepC_ok _ _ preB30 preB30)); exact rfl; exact rfl; exact rfl; refine dM ?_) | refine o_no rfl rfl rfl rfl ?_ | refine o_noN rfl rfl rfl ?_ | (apply py3; exact rfl; exact rfl; (first | exact pu1 | exact puL | exact puC | exact a_add rfl rfl (by omega) (by omega)); exact rfl; exact rfl) | (apply cy4 0; exact rfl; exact rfl; exact callY (θ := [0, 3, 6, 7]) (hD := (hY _ _ _ _ (by assumption))); exact rfl; exact rfl; exact rfl; exact rfl; refine dM ?_) | (apply cy4 0; exact rfl; exact rfl; exact callY (θ := [0, 3, 8, 9]) (hD := (hY _ _ _ _ (by assumption))); exact rfl; exact rfl; exact rfl; exact rfl; refine dM ?_) | (apply cy4 0; exact rfl; exact rfl; exact callK1 (θ := []) (hD := (haltsC_ok _ _ preB30 preB30)); exact rfl; exact rfl; exact rfl; exact rfl; refine dM ?_) | (apply cy4 2; exact rfl; exact rfl; exact callK0 (θ := [_, _, _]) (hD := (stepC_ok _ _ preB30 preB30)); exact rfl; exact rfl; exact rfl; exact rfl; refine dM ?_) | ((first | refine o_gs rfl rfl (fun hc => ?_) (fun hc => ?_) | refine g_cond rfl (fun hc => ?_) (fun hc => ?_)) <;> (try simp only [dcB] at hc) <;> (try first | contradiction | (exfalso; omega)))
  refine g_conv (t_mvB (i := 4) (j := 3) (k := 4) rfl rfl rfl rfl rfl rfl) ?_
  try dsimp only [setRow, List.map_cons, List.map_nil, scC, List.set_cons_zero, List.set_cons_succ]
  refine g_conv (t_mvB (i := 5) (j := 3) (k := 5) rfl rfl rfl rfl rfl rfl) ?_
  try dsimp only [setRow, List.map_cons, List.map_nil, scC, List.set_cons_zero, List.set_cons_succ]
  refine g_loop_id ?_
  refine loopK [0, 1, 2] [0, 3, 6, 7] (fun y : X × Conf × Int => Pre y.1 (y.2.1, y.2.2, true) ∧ vConf m y.2.1 = true ∧ 0 ≤ y.2.2 ∧ (y.2.2 ≤ b ∨ y.2.2 = 0) ∧ itSteps m bd (b - y.2.2).toNat y.2.2 y.2.1 y.1 = O) (fun y => [(4, .one (int y.2.2))]) (fun y => [(0, .opq (R y.1 none) [3]), (3, ruBx m y.2.1.st 6 7), (6, roI y.2.1.le.reverse), (7, roI y.2.1.ri.reverse)]) (fun y => (b - y.2.2).toNat) (x0, c, (0 : Int)) [0, 1, 2, 3, 4, 5, 6, 7] (hI := ?_) (hr := ?_)
  · exact ⟨h0, hc, by simp, .inr rfl, by rw [Int.sub_zero]; exact hO⟩
  · rintro ⟨x, c, n⟩ ⟨k1, k2, k3, k4, k5⟩
    dsimp only [List.cons_append, List.nil_append] at *
    skip
    repeat' first | (apply p3; (first | exact pu1 | exact puL | exact puC); exact rfl) | refine cdn ?_ | refine g_reg (id := 1) ?_ | (apply c4 0; exact callY (θ := [0, 3, 6, 7]) (hD := (hY _ _ _ _ (by assumption))); exact rfl; exact rfl; exact rfl; refine dM ?_) | (apply c4 0; exact callY (θ := [0, 3, 8, 9]) (hD := (hY _ _ _ _ (by assumption))); exact rfl; exact rfl; exact rfl; refine dM ?_) | (apply c4 0; exact callK1 (θ := []) (hD := (haltsC_ok _ _ preB30 preB30)); exact rfl; exact rfl; exact rfl; refine dM ?_) | refine o_no rfl rfl rfl rfl ?_ | refine o_noN rfl rfl rfl ?_ | (apply py3; exact rfl; exact rfl; (first | exact pu1 | exact puL | exact puC); exact rfl; exact rfl) | (apply cy4 0; exact rfl; exact rfl; exact callY (θ := [0, 3, 6, 7]) (hD := (hY _ _ _ _ (by assumption))); exact rfl; exact rfl; exact rfl; exact rfl; refine dM ?_) | (apply cy4 0; exact rfl; exact rfl; exact callY (θ := [0, 3, 8, 9]) (hD := (hY _ _ _ _ (by assumption))); exact rfl; exact rfl; exact rfl; exact rfl; refine dM ?_) | (apply cy4 0; exact rfl; exact rfl; exact callK1 (θ := []) (hD := (haltsC_ok _ _ preB30 preB30)); exact rfl; exact rfl; exact rfl; exact rfl; refine dM ?_) | ((first | refine o_gs rfl rfl (fun hc => ?_) (fun hc => ?_) | refine g_cond rfl (fun hc => ?_) (fun hc => ?_)) <;> (try simp only [dcB] at hc) <;> (try first | contradiction | (exfalso; omega)))
    · have e : (bd x (c, n, true)).2 = none := by cases hh : (bd x (c, n, true)).2 <;> simp_all
      have hnr : ¬ ruAt m c = noR := hc
      have hcn : n < b := by assumption
      have hp := hst x c n k1 k2 e hc hcn
      simp only [e]
      repeat' first | (apply p3; (first | exact pu1 | exact puL | exact puC | exact a_add rfl rfl (by omega) (by omega)); exact rfl) | refine cd ?_ | (apply c4 0; exact callY (θ := [0, 3, 6, 7]) (hD := (hY _ _ _ _ (by assumption))); exact rfl; exact rfl; exact rfl; refine dM ?_) | (apply c4 0; exact callY (θ := [0, 3, 8, 9]) (hD := (hY _ _ _ _ (by assumption))); exact rfl; exact rfl; exact rfl; refine dM ?_) | (apply c4 0; exact callK1 (θ := []) (hD := (haltsC_ok _ _ preB30 preB30)); exact rfl; exact rfl; exact rfl; refine dM ?_) | (apply c4 2; exact callK0 (θ := [_, _, _]) (hD := (stepC_ok _ _ preB30 preB30)); exact rfl; exact rfl; exact rfl; refine dM ?_) | refine o_no rfl rfl rfl rfl ?_ | refine o_noN rfl rfl rfl ?_ | (apply py3; exact rfl; exact rfl; (first | exact pu1 | exact puL | exact puC | exact a_add rfl rfl (by omega) (by omega)); exact rfl; exact rfl) | (apply cy4 0; exact rfl; exact rfl; exact callY (θ := [0, 3, 6, 7]) (hD := (hY _ _ _ _ (by assumption))); exact rfl; exact rfl; exact rfl; exact rfl; refine dM ?_) | (apply cy4 0; exact rfl; exact rfl; exact callY (θ := [0, 3, 8, 9]) (hD := (hY _ _ _ _ (by assumption))); exact rfl; exact rfl; exact rfl; exact rfl; refine dM ?_) | (apply cy4 0; exact rfl; exact rfl; exact callK1 (θ := []) (hD := (haltsC_ok _ _ preB30 preB30)); exact rfl; exact rfl; exact rfl; exact rfl; refine dM ?_) | (apply cy4 2; exact rfl; exact rfl; exact callK0 (θ := [_, _, _]) (hD := (stepC_ok _ _ preB30 preB30)); exact rfl; exact rfl; exact rfl; exact rfl; refine dM ?_) | ((first | refine o_gs rfl rfl (fun hc => ?_) (fun hc => ?_) | refine g_cond rfl (fun hc => ?_) (fun hc => ?_)) <;> (try simp only [dcB] at hc) <;> (try first | contradiction | (exfalso; omega)))
      · have hf : roomS (stepS (ruAt m c) c) = false := by assumption
        rw [hf] at hp
        have hE := it_full e hnr hcn hf k5
        repeat' first | (apply p3; (first | exact pu1 | exact puL | exact puC | exact a_add rfl rfl (by omega) (by omega)); exact rfl) | refine cd ?_ | (apply c4 0; exact callY (θ := [0, 3, 6, 7]) (hD := (hY _ _ _ _ (by assumption))); exact rfl; exact rfl; exact rfl; refine dM ?_) | (apply c4 0; exact callY (θ := [0, 3, 8, 9]) (hD := (hY _ _ _ _ (by assumption))); exact rfl; exact rfl; exact rfl; refine dM ?_) | (apply c4 0; exact callK1 (θ := []) (hD := (haltsC_ok _ _ preB30 preB30)); exact rfl; exact rfl; exact rfl; refine dM ?_) | (apply c4 2; exact callK0 (θ := [_, _, _]) (hD := (stepC_ok _ _ preB30 preB30)); exact rfl; exact rfl; exact rfl; refine dM ?_) | refine o_no rfl rfl rfl rfl ?_ | refine o_noN rfl rfl rfl ?_ | (apply py3; exact rfl; exact rfl; (first | exact pu1 | exact puL | exact puC | exact a_add rfl rfl (by omega) (by omega)); exact rfl; exact rfl) | (apply cy4 0; exact rfl; exact rfl; exact callY (θ := [0, 3, 6, 7]) (hD := (hY _ _ _ _ (by assumption))); exact rfl; exact rfl; exact rfl; exact rfl; refine dM ?_) | (apply cy4 0; exact rfl; exact rfl; exact callY (θ := [0, 3, 8, 9]) (hD := (hY _ _ _ _ (by assumption))); exact rfl; exact rfl; exact rfl; exact rfl; refine dM ?_) | (apply cy4 0; exact rfl; exact rfl; exact callK1 (θ := []) (hD := (haltsC_ok _ _ preB30 preB30)); exact rfl; exact rfl; exact rfl; exact rfl; refine dM ?_) | (apply cy4 2; exact rfl; exact rfl; exact callK0 (θ := [_, _, _]) (hD := (stepC_ok _ _ preB30 preB30)); exact rfl; exact rfl; exact rfl; exact rfl; refine dM ?_) | ((first | refine o_gs rfl rfl (fun hc => ?_) (fun hc => ?_) | refine g_cond rfl (fun hc => ?_) (fun hc => ?_)) <;> (try simp only [dcB] at hc) <;> (try first | contradiction | (exfalso; omega)))
        subst hE
        repeat refine cr ?_
        refine ends_id ?_
        refine endK [?_, ?_] (h2 := ?_) (h3 := ?_) (nd := ?_)
        rotate_left 2
        all_goals (repeat' first | exact ce0 | refine ce ?_ | refine ce2 ?_ ?_ | (refine Or.inr (bx_eq rfl rfl ?_); (try dsimp only [C.ren, C.ren.all]); (try exact rfl)) | exact SVLe.refl | refine ceb ?_)
        all_goals first | exact (show nodupB _ = true from rfl) | exact Or.inr rfl | (rfl)
      · have hf : roomS (stepS (ruAt m c) c) = true := by assumption
        rw [hf] at hp
        have hE := it_next e hnr hcn hf k5
        have hk := stepS_ok hm k2 hnr hf
        repeat' first | (apply p3; (first | exact pu1 | exact puL | exact puC | exact a_add rfl rfl (by omega) (by omega)); exact rfl) | refine cd ?_ | (apply c4 0; exact callY (θ := [0, 3, 6, 7]) (hD := (hY _ _ _ _ (by assumption))); exact rfl; exact rfl; exact rfl; refine dM ?_) | (apply c4 0; exact callY (θ := [0, 3, 8, 9]) (hD := (hY _ _ _ _ (by assumption))); exact rfl; exact rfl; exact rfl; refine dM ?_) | (apply c4 0; exact callK1 (θ := []) (hD := (haltsC_ok _ _ preB30 preB30)); exact rfl; exact rfl; exact rfl; refine dM ?_) | (apply c4 2; exact callK0 (θ := [_, _, _]) (hD := (stepC_ok _ _ preB30 preB30)); exact rfl; exact rfl; exact rfl; refine dM ?_) | refine o_no rfl rfl rfl rfl ?_ | refine o_noN rfl rfl rfl ?_ | (apply py3; exact rfl; exact rfl; (first | exact pu1 | exact puL | exact puC | exact a_add rfl rfl (by omega) (by omega)); exact rfl; exact rfl) | (apply cy4 0; exact rfl; exact rfl; exact callY (θ := [0, 3, 6, 7]) (hD := (hY _ _ _ _ (by assumption))); exact rfl; exact rfl; exact rfl; exact rfl; refine dM ?_) | (apply cy4 0; exact rfl; exact rfl; exact callY (θ := [0, 3, 8, 9]) (hD := (hY _ _ _ _ (by assumption))); exact rfl; exact rfl; exact rfl; exact rfl; refine dM ?_) | (apply cy4 0; exact rfl; exact rfl; exact callK1 (θ := []) (hD := (haltsC_ok _ _ preB30 preB30)); exact rfl; exact rfl; exact rfl; exact rfl; refine dM ?_) | (apply cy4 2; exact rfl; exact rfl; exact callK0 (θ := [_, _, _]) (hD := (stepC_ok _ _ preB30 preB30)); exact rfl; exact rfl; exact rfl; exact rfl; refine dM ?_) | ((first | refine o_gs rfl rfl (fun hc => ?_) (fun hc => ?_) | refine g_cond rfl (fun hc => ?_) (fun hc => ?_)) <;> (try simp only [dcB] at hc) <;> (try first | contradiction | (exfalso; omega)))
        refine q_again ((bd x (c, n, true)).1, stepS (ruAt m c) c, n + 1) [0, 1, 2, 3, 4, 5, 8, 9] (by exact stk) ?_ ?_
        · exact ⟨hp, hk, by dsimp only; omega, by dsimp only; omega, hE⟩
        · dsimp only; omega
    · have e : (bd x (c, n, true)).2 = none := by cases hh : (bd x (c, n, true)).2 <;> simp_all
      have hE := it_halt e hc k5
      simp only [e]
      subst hE
      repeat refine cr ?_
      refine ends_id ?_
      refine endK [?_, ?_] (h2 := ?_) (h3 := ?_) (nd := ?_)
      rotate_left 2
      all_goals (repeat' first | exact ce0 | refine ce ?_ | refine ce2 ?_ ?_ | (refine Or.inr (bx_eq rfl rfl ?_); (try dsimp only [C.ren, C.ren.all]); (try exact rfl)) | exact SVLe.refl | refine ceb ?_)
      all_goals first | exact (show nodupB _ = true from rfl) | exact Or.inr rfl | (rfl)
    · have e : (bd x (c, n, true)).2 = none := by cases hh : (bd x (c, n, true)).2 <;> simp_all
      have hE := it_end e hc k5
      simp only [e]
      subst hE
      repeat refine cr ?_
      refine ends_id ?_
      refine endK [?_, ?_] (h2 := ?_) (h3 := ?_) (nd := ?_)
      rotate_left 2
      all_goals (repeat' first | exact ce0 | refine ce ?_ | refine ce2 ?_ ?_ | (refine Or.inr (bx_eq rfl rfl ?_); (try dsimp only [C.ren, C.ren.all]); (try exact rfl)) | exact SVLe.refl | refine ceb ?_)
      all_goals first | exact (show nodupB _ = true from rfl) | exact Or.inr rfl | (rfl)
    · have hE := it_out hc k5
      subst hE
      repeat refine cr ?_
      refine ends_id ?_
      refine endK [?_, ?_] (h2 := ?_) (h3 := ?_) (nd := ?_)
      rotate_left 2
      all_goals (repeat' first | exact ce0 | refine ce ?_ | refine ce2 ?_ ?_ | (refine Or.inr (bx_eq rfl rfl ?_); (try dsimp only [C.ren, C.ren.all]); (try exact rfl)) | exact SVLe.refl | refine ceb ?_)
      all_goals first | exact (show nodupB _ = true from rfl) | exact Or.inr rfl | (rfl)
end Go.Proofs.YtbekdojhcokalaaGreatDoor
end
section
set_option linter.unusedVariables false
set_option linter.unusedSimpArgs false
set_option maxRecDepth 100000
set_option maxHeartbeats 4000000
namespace Go.Proofs.YtbekdojhcokalaaGreatDoor
open Go Foot
/-- The body of the loop in run. -/
def bdRun (x : Int × Bool) (a : Conf × Int × Bool) : (Int × Bool) × Option Code := if a.2.2 then ((a.2.1, x.2), none) else ((x.1, true), some .ret)
@[irreducible] def runIt (m : Mach) (b : Int) (c : Conf) : ItOut (Int × Bool) := itSteps m bdRun b.toNat 0 c (0, false)
@[irreducible] def runMade (O : ItOut (Int × Bool)) : Int := if O.j = none then O.x.1 else 0
@[irreducible] def runHalts (m : Mach) (O : ItOut (Int × Bool)) : Bool := if O.j = none then decide (ruAt m O.c = noR) else false
@[irreducible] def runCode (O : ItOut (Int × Bool)) : Int := if O.j = none then 0 else 5
theorem run_inv {m : Mach} (hm : vMach m = true) : ∀ (k : Nat) (n : Int) (c : Conf) (x : Int × Bool), vConf m c = true → x.2 = false →
    ((itSteps m bdRun k n c x).j = none → vConf m (itSteps m bdRun k n c x).c = true ∧ (itSteps m bdRun k n c x).x.2 = false) ∧ ∀ e, (itSteps m bdRun k n c x).j = some e → e = .ret ∧ (itSteps m bdRun k n c x).x.2 = true
  | k, n, c, x, hc, hx => by
    unfold itSteps
    have e1 : bdRun x (c, n, true) = ((n, x.2), none) := by simp [bdRun]
    rw [e1, hx]
    rw [if_neg (by simp)]
    by_cases hr : ruAt m c = noR
    · rw [if_pos hr]; exact ⟨fun _ => ⟨hc, rfl⟩, fun e h => by cases h⟩
    · rw [if_neg hr]
      cases k with
      | zero => exact ⟨fun _ => ⟨hc, rfl⟩, fun e h => by cases h⟩
      | succ k =>
        simp only
        split
        · rename_i hf
          exact run_inv hm k _ _ _ (stepS_ok hm hc hr hf) rfl
        · refine ⟨fun h => ?_, fun e h => ?_⟩
          · simp [bdRun] at h
          · simp [bdRun] at h ⊢; exact h.symm
theorem preB31 {p : Prop} (h : p := by first | with_reducible assumption | omega | (simp only [List.length_append, List.length_cons, List.length_nil, List.length_set, List.length_replicate, List.length_take, List.length_drop, List.length_tail, List.length_dropLast, List.length_reverse] at *; omega) | exact mem_len (by assumption) (by omega) | (with_reducible refine Int.le_trans (Int.ofNat_le.2 (trimR_len _)) ?_; simp only [List.length_cons, List.length_tail]; omega) | (exact (ruAt_ok (by assumption) (by assumption) (by assumption)).2.1) | (exact (ruAt_ok (by assumption) (by assumption) (by assumption)).2.1) | (have := vMach_bd (by assumption); omega) | (simp only [mC_ch, mC_tu]; omega) | (with_reducible refine Int.le_trans (Int.ofNat_le.2 (pushL_len _ _)) ?_; simp only [List.length_dropLast]; omega) | exact (ask_ok (by assumption)).1 | exact (ask_ok (by assumption)).2.1 | exact (ask_ok (by assumption)).2.2.1 | exact (ask_ok (by assumption)).2.2.2 | trivial) : p := h
theorem run_ok (m : Mach) (c : Conf) (b : Int) (hm : vMach m = true) (hc : vConf m c = true) (hb : b ≤ 9223372036854775807) : Does Tryz.prog 130 [.one (.gv 0), .one (int b)] [ruBx m c.st 1 2, roI c.le.reverse, roI c.ri.reverse] (.tup [(false, [int (runMade (runIt m b c))]), (false, [boo (runHalts m (runIt m b c))]), (false, [int (runCode (runIt m b c))])]) [ruBx m (runIt m b c).c.st 3 4, .dead, .dead, roI (runIt m b c).c.le.reverse, roI (runIt m b c).c.ri.reverse] := by
  have hO : itSteps m bdRun b.toNat 0 c (0, false) = runIt m b c := by unfold runIt; rfl
  generalize runIt m b c = O at *
  refine does_of (k := 3) Tryz.func130 rfl Tryz.ntmps130 rfl rfl fun w F0 S0 ρ0 => ?_
  dsimp only [argT, argH]
  repeat' first | (apply n3; exact a_new (gb := .bx _) rfl; exact rfl; refine dA ?_) | (apply p3; exact pu1; exact rfl) | refine cd ?_ | (apply w3; (first | exact a_st_bx rfl rfl rfl rfl (fN rfl rfl) (Nat.le_of_ble_eq_true rfl) rfl | exact a_st_rowI rfl rfl rfl rfl (fN rfl rfl) bnd | exact a_stE (E := eI) _ rfl rfl rfl rfl (fN rfl rfl) bnd (by exact rfl)); exact rfl; refine dS ?_) | (apply c4 2; exact callK0 (θ := [_, _, _]) (hD := (steps_ok _ _ _)); exact rfl; exact rfl; exact rfl; refine dM ?_) | (apply g_drN (id := 8) okM [[],[],[1],[0,1,2],[0,1,2,3],[0,1,2,3,4]] [([],[]),([],[]),([],[]),([],[3]),([],[4]),([],[5])] 0; (focus (refine dp 0 0 [19, 20] [] puL ?_; refine dp 1 0 [18] [] pu1 ?_; refine dp 2 1 [18] [] (callD1 (n := _) 0 (θ := []) (hD := (haltsC_ok _ _ preB31 preB31))) ?_; refine duE 3 7 [] [] (by first | exact a_st_bx rfl rfl rfl rfl (fN rfl rfl) (Nat.le_of_ble_eq_true rfl) rfl | exact a_st_rowI rfl rfl rfl rfl (fN rfl rfl) bnd | exact a_stE (E := eI) _ rfl rfl rfl rfl (fN rfl rfl) bnd (by exact rfl)) (by exact rfl) (by exact rfl) ?_; refine duE 4 15 [] [] (a_st_bx rfl rfl rfl rfl (fN rfl rfl) (Nat.le_of_ble_eq_true rfl) rfl) (by exact rfl) (by exact rfl) ?_; refine duE 5 31 [] [] (by first | exact a_st_bx rfl rfl rfl rfl (fN rfl rfl) (Nat.le_of_ble_eq_true rfl) rfl | exact a_st_rowI rfl rfl rfl rfl (fN rfl rfl) bnd | exact a_stE (E := eI) _ rfl rfl rfl rfl (fN rfl rfl) bnd (by exact rfl)) (by exact rfl) (by exact rfl) ?_; (refine d_nil ?_; refine dN ?_))); any_goals kernel_rfl) | ((first | refine o_gs rfl rfl (fun hc => ?_) (fun hc => ?_) | refine g_cond rfl (fun hc => ?_) (fun hc => ?_)) <;> (try simp only [dcB] at hc) <;> (try first | contradiction | (exfalso; omega)))
  refine rangeK [0, 4, 5, 6, 7, 12] [3, 4, 5, 6] (fun x : Int × Bool => [(3, .bx [int 0]), (4, .bx [boo false]), (5, .bx [int (if x.2 then 5 else 0)]), (6, .bx [int x.1])]) [0, 1, 2, 3, 4, 5, 6, 7, 8, 900, 901] 9 11 [8, 7, 0, 1, 2] [0] [9, 10] [3] [1] (fun a : Conf × Int × Bool => [.one (int a.2.1), .one (boo a.2.2)]) (fun a => [ruBx m a.1.st 2 3, roI a.1.le.reverse, roI a.1.ri.reverse]) bdRun (fun _ _ => True) ((0 : Int), false) (n1 := 11) (hD := fun l R hY => stepsIt_ok m c b l R bdRun (fun _ _ => True) _ hm hc trivial hb (fun _ _ _ _ _ _ _ _ => trivial) (fun x c n room h => hY x (c, n, room) h)) (hr := ?_) (hn := ?_) (hs := ?_)
  · rintro ⟨made, fu⟩ ⟨c, n, room⟩ - lp0 w0 F0 S0 ρ0 rc0
    dsimp only [parT, upOf, deadR, thN, List.cons_append, List.nil_append, GB.ren, C.ren, C.ren.all, Nat.reduceAdd] at *
    repeat' first | refine g_seq ?_ | refine g_reg ?_ | (apply p3; (first | exact a_pure (sv := .one _) rfl | exact a_pure (sv := .agg _) rfl); exact rfl) | refine o_nil ?_ | refine q_s ?_ | refine qAsg.go rfl ?_
    dsimp only
    repeat' first | (apply p3; exact pu1; exact rfl) | refine cd ?_ | (apply w3; (first | exact a_st_bx rfl rfl rfl rfl (fN rfl rfl) (Nat.le_of_ble_eq_true rfl) rfl | exact a_st_rowI rfl rfl rfl rfl (fN rfl rfl) bnd | exact a_stE (E := eI) _ rfl rfl rfl rfl (fN rfl rfl) bnd (by exact rfl)); exact rfl; refine dS ?_) | (apply g_drN (id := 8) okM [[],[],[1],[0,1,2],[0,1,2,3],[0,1,2,3,4]] [([],[]),([],[]),([],[]),([],[3]),([],[4]),([],[5])] 0; (focus (refine dp 0 0 [19, 20] [] puL ?_; refine dp 1 0 [18] [] pu1 ?_; refine dp 2 1 [18] [] (callD1 (n := _) 0 (θ := []) (hD := (haltsC_ok _ _ preB31 preB31))) ?_; refine duE 3 7 [] [] (by first | exact a_st_bx rfl rfl rfl rfl (fN rfl rfl) (Nat.le_of_ble_eq_true rfl) rfl | exact a_st_rowI rfl rfl rfl rfl (fN rfl rfl) bnd | exact a_stE (E := eI) _ rfl rfl rfl rfl (fN rfl rfl) bnd (by exact rfl)) (by exact rfl) (by exact rfl) ?_; refine duE 4 15 [] [] (a_st_bx rfl rfl rfl rfl (fN rfl rfl) (Nat.le_of_ble_eq_true rfl) rfl) (by exact rfl) (by exact rfl) ?_; refine duE 5 31 [] [] (by first | exact a_st_bx rfl rfl rfl rfl (fN rfl rfl) (Nat.le_of_ble_eq_true rfl) rfl | exact a_st_rowI rfl rfl rfl rfl (fN rfl rfl) bnd | exact a_stE (E := eI) _ rfl rfl rfl rfl (fN rfl rfl) bnd (by exact rfl)) (by exact rfl) (by exact rfl) ?_; (refine d_nil ?_; refine dN ?_))); any_goals kernel_rfl) | ((first | refine o_gs rfl rfl (fun hc => ?_) (fun hc => ?_) | refine g_cond rfl (fun hc => ?_) (fun hc => ?_)) <;> (try simp only [dcB] at hc) <;> (try first | contradiction | (exfalso; omega)))
    · repeat (first | refine g_ret ?_ | refine q_sr ?_ | refine q_br ?_ | refine g_exit ?_ | refine q_se ?_ | refine q_be rfl ?_ | refine q_bn rfl ?_)
      first | refine q_next (made, true) [0, 1, 2, 3, 4, 5, 6, 7, 8, 9, 10, 11] (by exact stk) ?_ | refine q_ret (made, true) [0, 1, 2, 3, 4, 5, 6, 7, 8, 9, 10, 11] (by exact stk) ?_ | refine q_exit (made, true) [0, 1, 2, 3, 4, 5, 6, 7, 8, 9, 10, 11] (by exact stk) ?_
      simp [bdRun, hc]
    · refine q_next (n, fu) [0, 1, 2, 3, 4, 5, 6, 7, 8, 9, 10, 11] (by exact stk) ?_
      simp [bdRun, hc]
  · rintro hj
    dsimp only [upOf, deadR, calF, List.cons_append, List.nil_append, GB.ren, C.ren, C.ren.all, List.length_cons, List.length_nil, Nat.reduceAdd, Nat.reduceSub] at *
    skip
    repeat' first | refine cd ?_ | (apply g_drN (id := 8) okM [[],[],[1],[0,1,2],[0,1,2,3],[0,1,2,3,4]] [([],[]),([],[]),([],[]),([],[3]),([],[4]),([],[5])] 0; (focus (refine dp 0 0 [19, 20] [] puL ?_; refine dp 1 0 [18] [] pu1 ?_; refine dp 2 1 [18] [] (callD1 (n := _) 0 (θ := []) (hD := (haltsC_ok _ _ preB31 preB31))) ?_; refine duE 3 7 [] [] (by first | exact a_st_bx rfl rfl rfl rfl (fN rfl rfl) (Nat.le_of_ble_eq_true rfl) rfl | exact a_st_rowI rfl rfl rfl rfl (fN rfl rfl) bnd | exact a_stE (E := eI) _ rfl rfl rfl rfl (fN rfl rfl) bnd (by exact rfl)) (by exact rfl) (by exact rfl) ?_; refine duE 4 15 [] [] (a_st_bx rfl rfl rfl rfl (fN rfl rfl) (Nat.le_of_ble_eq_true rfl) rfl) (by exact rfl) (by exact rfl) ?_; refine duE 5 31 [] [] (by first | exact a_st_bx rfl rfl rfl rfl (fN rfl rfl) (Nat.le_of_ble_eq_true rfl) rfl | exact a_st_rowI rfl rfl rfl rfl (fN rfl rfl) bnd | exact a_stE (E := eI) _ rfl rfl rfl rfl (fN rfl rfl) bnd (by exact rfl)) (by exact rfl) (by exact rfl) ?_; (refine d_nil ?_; refine dN ?_))); any_goals kernel_rfl) | ((first | refine o_gs rfl rfl (fun hc => ?_) (fun hc => ?_) | refine g_cond rfl (fun hc => ?_) (fun hc => ?_)) <;> (try simp only [dcB] at hc) <;> (try first | contradiction | (exfalso; omega)))
    simp only [hO] at hj ⊢
    obtain ⟨h1, h2⟩ := (hO ▸ run_inv hm b.toNat 0 c (0, false) hc rfl).1 hj
    have e1 : runMade O = O.x.1 := by unfold runMade; rw [if_pos hj]
    have e2 : runHalts m O = decide (ruAt m O.c = noR) := by unfold runHalts; rw [if_pos hj]
    have e3 : runCode O = 0 := by unfold runCode; rw [if_pos hj]
    repeat' first | refine cd ?_ | (apply g_drN (id := 8) okM [[],[],[1],[0,1,2],[0,1,2,3],[0,1,2,3,4]] [([],[]),([],[]),([],[]),([],[3]),([],[4]),([],[5])] 0; (focus (refine dp 0 0 [19, 20] [] puL ?_; refine dp 1 0 [18] [] pu1 ?_; refine dp 2 1 [18] [] (callD1 (n := _) 0 (θ := []) (hD := (haltsC_ok _ _ preB31 preB31))) ?_; refine duE 3 7 [] [] (by first | exact a_st_bx rfl rfl rfl rfl (fN rfl rfl) (Nat.le_of_ble_eq_true rfl) rfl | exact a_st_rowI rfl rfl rfl rfl (fN rfl rfl) bnd | exact a_stE (E := eI) _ rfl rfl rfl rfl (fN rfl rfl) bnd (by exact rfl)) (by exact rfl) (by exact rfl) ?_; refine duE 4 15 [] [] (a_st_bx rfl rfl rfl rfl (fN rfl rfl) (Nat.le_of_ble_eq_true rfl) rfl) (by exact rfl) (by exact rfl) ?_; refine duE 5 31 [] [] (by first | exact a_st_bx rfl rfl rfl rfl (fN rfl rfl) (Nat.le_of_ble_eq_true rfl) rfl | exact a_st_rowI rfl rfl rfl rfl (fN rfl rfl) bnd | exact a_stE (E := eI) _ rfl rfl rfl rfl (fN rfl rfl) bnd (by exact rfl)) (by exact rfl) (by exact rfl) ?_; (refine d_nil ?_; refine dN ?_))); any_goals kernel_rfl) | ((first | refine o_gs rfl rfl (fun hc => ?_) (fun hc => ?_) | refine g_cond rfl (fun hc => ?_) (fun hc => ?_)) <;> (try simp only [dcB] at hc) <;> (try first | contradiction | (exfalso; omega)))
    rw [e1, e2, e3]
    repeat refine cr ?_
    refine ends_id ?_
    refine endK [?_, ?_] (h2 := ?_) (h3 := ?_) (nd := ?_)
    rotate_left 2
    all_goals (repeat' first | exact ce0 | refine ce ?_ | refine ce2 ?_ ?_ | (refine Or.inr (bx_eq rfl rfl ?_); (try dsimp only [C.ren, C.ren.all]); (try exact rfl)) | exact SVLe.refl | refine ceb ?_)
    all_goals first | exact (show nodupB _ = true from rfl) | exact Or.inr rfl | (rfl)
  · rintro c hj
    dsimp only [upOf, deadR, calF, List.cons_append, List.nil_append, GB.ren, C.ren, C.ren.all, List.length_cons, List.length_nil, Nat.reduceAdd, Nat.reduceSub] at *
    skip
    repeat' first | refine cd ?_ | ((first | refine o_gs rfl rfl (fun hc => ?_) (fun hc => ?_) | refine g_cond rfl (fun hc => ?_) (fun hc => ?_)) <;> (try simp only [dcB] at hc) <;> (try first | contradiction | (exfalso; omega)))
    simp only [hO] at hj ⊢
    obtain ⟨rfl, h2⟩ := (hO ▸ run_inv hm b.toNat 0 _ (0, false) hc rfl).2 _ hj
    have e0 : ¬ O.j = none := by simp [hj]
    have e1 : runMade O = 0 := by unfold runMade; rw [if_neg e0]
    have e2 : runHalts m O = false := by unfold runHalts; rw [if_neg e0]
    have e3 : runCode O = 5 := by unfold runCode; rw [if_neg e0]
    rw [h2, e1, e2, e3]
    repeat' first | refine cd ?_ | ((first | refine o_gs rfl rfl (fun hc => ?_) (fun hc => ?_) | refine g_cond rfl (fun hc => ?_) (fun hc => ?_)) <;> (try simp only [dcB] at hc) <;> (try first | contradiction | (exfalso; omega)))
    repeat refine cr ?_
    refine ends_id ?_
    refine endK [?_, ?_] (h2 := ?_) (h3 := ?_) (nd := ?_)
    rotate_left 2
    all_goals (repeat' first | exact ce0 | refine ce ?_ | refine ce2 ?_ ?_ | (refine Or.inr (bx_eq rfl rfl ?_); (try dsimp only [C.ren, C.ren.all]); (try exact rfl)) | exact SVLe.refl | refine ceb ?_)
    all_goals first | exact (show nodupB _ = true from rfl) | exact Or.inr rfl | (rfl)
end Go.Proofs.YtbekdojhcokalaaGreatDoor
end
section
set_option linter.unusedVariables false
set_option linter.unusedSimpArgs false
set_option maxRecDepth 100000
set_option maxHeartbeats 4000000
namespace Go.Proofs.YtbekdojhcokalaaGreatDoor
open Go Foot
theorem blankRun_ok (m : Mach) : Does Tryz.prog 129 [.agg (maC m)] [] (.one (.gv 0)) [ruBx m 0 1 2, roI [], roI []] := by
  refine does_of (k := 0) Tryz.func129 rfl Tryz.ntmps129 rfl rfl fun w F0 S0 ρ0 => ?_
  dsimp only [argT, argH]
  repeat' first | (apply n3; exact a_new (gb := .bx _) rfl; exact rfl; refine dA ?_) | (apply p3; (first | exact pu1 | exact puL); exact rfl) | refine cd ?_ | (apply c4 3; exact callK0 (θ := []) (hD := (runnerOf_ok m ⟨0, [], []⟩ (by simp) (by simp))); exact rfl; exact rfl; exact rfl; refine dM ?_) | ((first | refine o_gs rfl rfl (fun hc => ?_) (fun hc => ?_) | refine g_cond rfl (fun hc => ?_) (fun hc => ?_)) <;> (try simp only [dcB] at hc) <;> (try first | contradiction | (exfalso; omega)))
  repeat refine cr ?_
  refine ends_id ?_
  refine endK [?_, ?_, ?_] (h2 := ?_) (h3 := ?_) (nd := ?_)
  rotate_left 3
  all_goals (repeat' first | exact ce0 | refine ce ?_ | refine ce2 ?_ ?_ | (refine Or.inr (bx_eq rfl rfl ?_); (try dsimp only [C.ren, C.ren.all]); (try exact rfl)) | exact SVLe.refl | refine ceb ?_)
  all_goals first | exact (show nodupB _ = true from rfl) | exact Or.inr rfl | (rfl)
theorem afterSteps_ok (m : Mach) (n : Int) (hm : vMach m = true) (hn : n ≤ 9223372036854775807) : Does Tryz.prog 67 [.agg (maC m), .one (int n)] [] (.tup [(false, [.gv 0]), (false, [boo (decide (runCode (runIt m n ⟨0, [], []⟩) = 0 ∧ runMade (runIt m n ⟨0, [], []⟩) = n))])]) [ruBx m (runIt m n ⟨0, [], []⟩).c.st 1 2, roI (runIt m n ⟨0, [], []⟩).c.le.reverse, roI (runIt m n ⟨0, [], []⟩).c.ri.reverse] := by
  have hv := vBlank hm
  refine does_of (k := 0) Tryz.func67 rfl Tryz.ntmps67 rfl rfl fun w F0 S0 ρ0 => ?_
  dsimp only [argT, argH]
  repeat' first | (apply n3; exact a_new (gb := .bx _) rfl; exact rfl; refine dA ?_) | (apply p3; (first | exact pu1 | exact puL | exact puC | exact a_eqS rfl rfl rfl); exact rfl) | refine cd ?_ | (apply c4 3; exact callK0 (θ := []) (hD := (blankRun_ok _)); exact rfl; exact rfl; exact rfl; refine dM ?_) | (apply c4 2; exact callK0 (θ := [1, 2, 3]) (hD := (run_ok m ⟨0, [], []⟩ n hm hv hn)); exact rfl; exact rfl; exact rfl; refine dM ?_) | refine o_no rfl rfl rfl rfl ?_ | refine o_noN rfl rfl rfl ?_ | (apply py3; exact rfl; exact rfl; (first | exact pu1 | exact puL | exact puC | exact a_eqS rfl rfl rfl); exact rfl; exact rfl) | (apply ny3; exact rfl; exact rfl; exact a_new (gb := .bx _) rfl; exact rfl; exact rfl) | (apply cy4 3; exact rfl; exact rfl; exact callK0 (θ := []) (hD := (blankRun_ok _)); exact rfl; exact rfl; exact rfl; exact rfl; refine dM ?_) | (apply cy4 2; exact rfl; exact rfl; exact callK0 (θ := [1, 2, 3]) (hD := (run_ok m ⟨0, [], []⟩ n hm hv hn)); exact rfl; exact rfl; exact rfl; exact rfl; refine dM ?_) | ((first | refine o_gs rfl rfl (fun hc => ?_) (fun hc => ?_) | refine g_cond rfl (fun hc => ?_) (fun hc => ?_)) <;> (try simp only [dcB] at hc) <;> (try first | contradiction | (exfalso; omega)))
  all_goals
    repeat refine cr ?_
    refine ends_id ?_
    refine endK [?_, ?_, ?_] (h2 := ?_) (h3 := ?_) (nd := ?_)
    rotate_left 3
    all_goals (repeat' first | exact ce0 | refine ce ?_ | refine ce2 ?_ ?_ | (refine Or.inr (bx_eq rfl rfl ?_); (try dsimp only [C.ren, C.ren.all]); (try exact rfl)) | exact SVLe.refl | refine ceb ?_)
    all_goals first | exact (show nodupB _ = true from rfl) | exact Or.inr rfl | ((symm; simp [*]))
end Go.Proofs.YtbekdojhcokalaaGreatDoor
end
section
set_option linter.unusedVariables false
set_option linter.unusedSimpArgs false
set_option maxRecDepth 100000
set_option maxHeartbeats 4000000
namespace Go.Proofs.YtbekdojhcokalaaGreatDoor
open Go Foot
theorem goO_s (m : Mach) (k : Nat) (c : Conf) (a : Int) : goO m (k + 1) c a = if ruAt m c = noR then (c, 0, false) else if roomS (stepS (ruAt m c) c) then goO m k (stepS (ruAt m c) c) (a + (ruAt m c).m) else (c, 0, false) := rfl
section
variable {m : Mach}
theorem go_ok (hm : vMach m = true) : ∀ (k : Nat) (c : Conf) (a : Int), vConf m c = true → (goO m k c a).2.2 = true → vConf m (goO m k c a).1 = true ∧ (goO m k c a).2.1 ≤ a + k ∧ a - k ≤ (goO m k c a).2.1
  | 0, c, a, hc, _ => ⟨hc, by simp [goO], by simp [goO]⟩
  | k + 1, c, a, hc, h => by
    rw [goO_s] at h ⊢
    by_cases hr : ruAt m c = noR
    · rw [if_pos hr] at h; cases h
    · rw [if_neg hr] at h ⊢
      by_cases hf : roomS (stepS (ruAt m c) c) = true
      · rw [if_pos hf] at h ⊢
        have h1 := go_ok hm k _ _ (stepS_ok hm hc hr hf) h
        have h2 := (ruAt_ok hm hc hr).2.1
        exact ⟨h1.1, by omega, by omega⟩
      · rw [if_neg hf] at h; cases h
/-- A run of a given length is a walk of that length. -/
theorem it_go : ∀ (k : Nat) (n : Int) (c : Conf) (x : Int × Bool) (a : Int), ((goO m k c a).2.2 = true → itSteps m bdRun k n c x = ⟨(n + k, x.2), none, (goO m k c a).1⟩) ∧ ((goO m k c a).2.2 = false → (itSteps m bdRun k n c x).j ≠ none ∨ (itSteps m bdRun k n c x).x.1 < n + k)
  | 0, n, c, x, a => by
    have e1 : bdRun x (c, n, true) = ((n, x.2), none) := by simp [bdRun]
    refine ⟨fun _ => ?_, fun h => by cases h⟩
    unfold itSteps
    rw [e1]
    simp only [Option.isSome_none, Bool.false_eq_true, if_false]
    split <;> simp [goO]
  | k + 1, n, c, x, a => by
    have e1 : bdRun x (c, n, true) = ((n, x.2), none) := by simp [bdRun]
    unfold itSteps
    rw [goO_s]
    rw [e1]
    simp only [Option.isSome_none, Bool.false_eq_true, if_false]
    by_cases hr : ruAt m c = noR
    · rw [if_pos hr, if_pos hr]
      exact ⟨fun h => (nomatch h), fun _ => .inr (by dsimp only; omega)⟩
    · rw [if_neg hr, if_neg hr]
      by_cases hf : roomS (stepS (ruAt m c) c) = true
      · rw [if_pos hf, if_pos hf]
        have := it_go k (n + 1) (stepS (ruAt m c) c) (n, x.2) (a + (ruAt m c).m)
        rw [show n + ((k + 1 : Nat) : Int) = n + 1 + k by omega]
        exact this
      · rw [if_neg hf, if_neg hf]
        exact ⟨fun h => (nomatch h), fun _ => .inl (by simp [bdRun])⟩
theorem after_go (n : Int) (hn : 0 ≤ n) (c : Conf) : decide (runCode (runIt m n c) = 0 ∧ runMade (runIt m n c) = n) = (goO m n.toNat c 0).2.2 ∧ ((goO m n.toNat c 0).2.2 = true → (runIt m n c).c = (goO m n.toNat c 0).1) := by
  obtain ⟨h1, h2⟩ := it_go (m := m) n.toNat 0 c (0, false) 0
  have e : itSteps m bdRun n.toNat 0 c (0, false) = runIt m n c := by unfold runIt; rfl
  rw [e] at h1 h2
  cases hg : (goO m n.toNat c 0).2.2 with
  | true =>
    have h3 := h1 hg
    refine ⟨?_, fun _ => by rw [h3]⟩
    rw [decide_eq_true_eq, h3]
    unfold runCode runMade
    exact ⟨rfl, by simp; omega⟩
  | false =>
    refine ⟨?_, fun h => by cases h⟩
    rw [decide_eq_false_iff_not]
    rintro ⟨h3, h4⟩
    unfold runCode at h3
    unfold runMade at h4
    split at h3
    · rename_i hj
      rw [if_pos hj] at h4
      rcases h2 hg with h5 | h5
      · exact h5 hj
      · omega
    · cases h3
end
abbrev blank : Conf := ⟨0, [], []⟩
end Go.Proofs.YtbekdojhcokalaaGreatDoor
end
section
set_option linter.unusedVariables false
set_option linter.unusedSimpArgs false
set_option maxRecDepth 100000
set_option maxHeartbeats 4000000
namespace Go.Proofs.YtbekdojhcokalaaGreatDoor
open Go Foot
@[irreducible] def chH (m : Mach) (p : Prf) : Bool := (vMach m && formP p 1 1) && inB (p.nu.getD 0 0) 0 20000 && ((goO m (p.nu.getD 0 0).toNat blank 0).2.2 && decide (ruAt m (goO m (p.nu.getD 0 0).toNat blank 0).1 = noR))
theorem preB57 {p : Prop} (h : p := by first | with_reducible assumption | omega | (simp only [List.length_append, List.length_cons, List.length_nil, List.length_set, List.length_replicate, List.length_take, List.length_drop, List.length_tail, List.length_dropLast, List.length_reverse] at *; omega) | exact mem_len (by assumption) (by omega) | (with_reducible refine Int.le_trans (Int.ofNat_le.2 (trimR_len _)) ?_; simp only [List.length_cons, List.length_tail]; omega) | (exact (ruAt_ok (by assumption) (by assumption) (by assumption)).2.1) | (exact (ruAt_ok (by assumption) (by assumption) (by assumption)).2.1) | (have := vMach_bd (by assumption); omega) | (simp only [mC_ch, mC_tu]; omega) | (have := vTag_bd (by assumption); omega) | (have := (‹Gd _ _›).le; omega) | (exact tgHalts_no (by assumption)) | (exact tgHead (by assumption) (by assumption) (by assumption)) | (exact Int.le_trans (tgStep_gd (by assumption) (by assumption) (by assumption) (by assumption)).le (by decide)) | (exact vTag_r (by assumption)) | (with_reducible refine Int.le_trans (Int.ofNat_le.2 (pushL_len _ _)) ?_; simp only [List.length_dropLast]; omega) | exact ls_at (by assumption) (by omega) | exact (ask_ok (by assumption)).1 | exact (ask_ok (by assumption)).2.1 | exact (ask_ok (by assumption)).2.2.1 | exact (ask_ok (by assumption)).2.2.2 | trivial) : p := h
theorem iCheckHalt_ok (m : Mach) (p : Prf) (hm : (m.ru.length : Int) ≤ 16777216) (hx : (p.nu.length : Int) ≤ 16777216) (hy : (p.wo.length : Int) ≤ 16777216) (hys : ∀ x ∈ p.wo, (x.length : Int) ≤ 16777216) : Does Tryz.prog 128 [.agg (maC m), .agg (prC p)] [] (.one (boo (chH m p))) [] := by
  have e0 : ∀ h, p.nu[Int.toNat 0]'h = p.nu.getD 0 0 := fun h => get_getD p.nu 0 _ h
  have hcs : (vMach m && formP p 1 1) = false → chH m p = false := fun h => by unfold chH; rw [h]; rfl
  by_cases hf : (vMach m && formP p 1 1) = true
  · have hf1 : vMach m = true ∧ formP p 1 1 = true := by simpa using hf
    have hv := hf1.1
    have hn := (formP_bd hf1.2).2.2.1
    have hf2 : ¬ (vMach m = true → formP p 1 1 = false) := fun h => by simp [h hv] at hf1
    have hvb := vBlank hv
    refine does_of (k := 0) Tryz.func128 rfl Tryz.ntmps128 rfl rfl fun w F0 S0 ρ0 => ?_
    dsimp only [argT, argH]
    repeat' first | (apply n3; exact a_new (gb := .bx _) rfl; exact rfl; refine dA ?_) | (apply p3; (first | exact pu1 | exact puL | exact puI); exact rfl) | refine cdn ?_ | refine g_reg (id := 0) ?_ | refine g_reg (id := 1) ?_ | refine g_reg (id := 2) ?_ | (apply c4 0; exact callK1 (θ := []) (hD := (proofOf_ok _ _ _ _ preB57 preB57 preB57 preB57)); exact rfl; exact rfl; exact rfl; refine dM ?_) | (apply c4 0; exact callK1 (θ := []) (hD := (within_ok _ _ _)); exact rfl; exact rfl; exact rfl; refine dM ?_) | refine o_no rfl rfl rfl rfl ?_ | refine o_noN rfl rfl rfl ?_ | (apply py3; exact rfl; exact rfl; (first | exact pu1 | exact puL | exact puI); exact rfl; exact rfl) | (apply ny3; exact rfl; exact rfl; exact a_new (gb := .bx _) rfl; exact rfl; exact rfl) | (apply cy4 0; exact rfl; exact rfl; exact callK1 (θ := []) (hD := (proofOf_ok _ _ _ _ preB57 preB57 preB57 preB57)); exact rfl; exact rfl; exact rfl; exact rfl; refine dM ?_) | (apply cy4 0; exact rfl; exact rfl; exact callK1 (θ := []) (hD := (within_ok _ _ _)); exact rfl; exact rfl; exact rfl; exact rfl; refine dM ?_) | ((first | refine o_gs rfl rfl (fun hc => ?_) (fun hc => ?_) | refine g_cond rfl (fun hc => ?_) (fun hc => ?_)) <;> (try simp only [dcB] at hc) <;> (try first | contradiction | (exfalso; omega)))
    · repeat refine cr ?_
      refine ends_id ?_
      refine endK [] (h2 := ?_) (h3 := ?_) (nd := ?_)
      all_goals (repeat' first | exact ce0 | refine ce ?_ | refine ce2 ?_ ?_ | exact SVLe.refl | refine ceb ?_)
      all_goals first | exact (show nodupB _ = true from rfl) | exact Or.inr rfl | ((exact (hcs (by assumption)).symm))
    · simp only [e0] at *
      repeat refine cr ?_
      refine ends_id ?_
      refine endK [] (h2 := ?_) (h3 := ?_) (nd := ?_)
      all_goals (repeat' first | exact ce0 | refine ce ?_ | refine ce2 ?_ ?_ | exact SVLe.refl | refine ceb ?_)
      all_goals first | exact (show nodupB _ = true from rfl) | exact Or.inr rfl | ((symm; unfold chH; rw [show inB (p.nu.getD 0 0) 0 20000 = false from decide_eq_false (by assumption)]; simp))
    · repeat' first | (apply n3; exact a_new (gb := .bx _) rfl; exact rfl; refine dA ?_) | (apply p3; (first | exact pu1 | exact puL | exact puI); exact rfl) | refine cdn ?_ | refine g_reg (id := 0) ?_ | refine g_reg (id := 1) ?_ | refine g_reg (id := 2) ?_ | (apply c4 0; exact callK1 (θ := []) (hD := (proofOf_ok _ _ _ _ preB57 preB57 preB57 preB57)); exact rfl; exact rfl; exact rfl; refine dM ?_) | (apply c4 0; exact callK1 (θ := []) (hD := (within_ok _ _ _)); exact rfl; exact rfl; exact rfl; refine dM ?_) | refine o_no rfl rfl rfl rfl ?_ | refine o_noN rfl rfl rfl ?_ | (apply py3; exact rfl; exact rfl; (first | exact pu1 | exact puL | exact puI); exact rfl; exact rfl) | (apply ny3; exact rfl; exact rfl; exact a_new (gb := .bx _) rfl; exact rfl; exact rfl) | (apply cy4 0; exact rfl; exact rfl; exact callK1 (θ := []) (hD := (proofOf_ok _ _ _ _ preB57 preB57 preB57 preB57)); exact rfl; exact rfl; exact rfl; exact rfl; refine dM ?_) | (apply cy4 0; exact rfl; exact rfl; exact callK1 (θ := []) (hD := (within_ok _ _ _)); exact rfl; exact rfl; exact rfl; exact rfl; refine dM ?_) | (apply g_drN (id := 3) okM [[],[],[1],[1,2],[1,2,3],[0,1,2,3,4],[0,1,2,3,4,5],[0,1,2,3,4,5,6],[0,1,2,3,4,5,6],[0,1,2,3,4,5,6,7],[0,1,2,3,4,5,6,7,8,9]] [([],[]),([],[]),([],[]),([],[]),([],[]),([0,1,2],[]),([],[]),([],[]),([],[]),([],[]),([],[])] 3; (focus (refine dp 0 0 [21, 22, 23, 24] [] puL ?_; refine dp 1 0 [20] [] (a_pure (sv := .one _) rfl) ?_; refine dp 2 1 [20] [] puL ?_; refine dp 3 3 [20] [] puI ?_; refine dp 4 7 [20] [] puL ?_; refine duN 5 31 [] [] (callD0 (n := _) 0 (θ := []) (hD := (afterSteps_ok _ _ preB57 preB57))) (by exact rfl) (by exact rfl) ?_; refine dp 6 63 [] [] pu1 ?_; refine dp 7 127 [27] [] pu2 ?_; refine dp 8 254 [26, 5] [] pu2 ?_; refine dp 9 510 [27] [] pu1 ?_; refine dp 10 1023 [] [] pu1 ?_; (refine d_nil ?_; refine dN ?_))); any_goals kernel_rfl) | ((first | refine o_gs rfl rfl (fun hc => ?_) (fun hc => ?_) | refine g_cond rfl (fun hc => ?_) (fun hc => ?_)) <;> (try simp only [dcB] at hc) <;> (try first | contradiction | (exfalso; omega)))
      simp only [e0] at *
      have hch : chH m p = ((goO m (p.nu.getD 0 0).toNat blank 0).2.2 && decide (ruAt m (goO m (p.nu.getD 0 0).toNat blank 0).1 = noR)) := by
        unfold chH
        rw [hf, show inB (p.nu.getD 0 0) 0 20000 = true from decide_eq_true hc]
        rfl
      clear hcs
      generalize p.nu.getD 0 0 = a at *
      obtain ⟨q1, q2⟩ := after_go (m := m) a hc.1 blank
      simp only [q1]
      rw [hch]
      cases g1 : (goO m a.toNat blank 0).2.2
      · repeat' first | (apply n3; exact a_new (gb := .bx _) rfl; exact rfl; refine dA ?_) | (apply p3; (first | exact pu1 | exact puL | exact puI); exact rfl) | refine cd ?_ | (apply c4 0; exact callK1 (θ := []) (hD := (proofOf_ok _ _ _ _ preB57 preB57 preB57 preB57)); exact rfl; exact rfl; exact rfl; refine dM ?_) | (apply c4 0; exact callK1 (θ := []) (hD := (within_ok _ _ _)); exact rfl; exact rfl; exact rfl; refine dM ?_) | (apply c4 0; exact callK1 (θ := []) (hD := (haltsC_ok _ _ preB57 preB57)); exact rfl; exact rfl; exact rfl; refine dM ?_) | refine o_no rfl rfl rfl rfl ?_ | refine o_noN rfl rfl rfl ?_ | (apply py3; exact rfl; exact rfl; (first | exact pu1 | exact puL | exact puI); exact rfl; exact rfl) | (apply ny3; exact rfl; exact rfl; exact a_new (gb := .bx _) rfl; exact rfl; exact rfl) | (apply cy4 0; exact rfl; exact rfl; exact callK1 (θ := []) (hD := (proofOf_ok _ _ _ _ preB57 preB57 preB57 preB57)); exact rfl; exact rfl; exact rfl; exact rfl; refine dM ?_) | (apply cy4 0; exact rfl; exact rfl; exact callK1 (θ := []) (hD := (within_ok _ _ _)); exact rfl; exact rfl; exact rfl; exact rfl; refine dM ?_) | (apply cy4 0; exact rfl; exact rfl; exact callK1 (θ := []) (hD := (haltsC_ok _ _ preB57 preB57)); exact rfl; exact rfl; exact rfl; exact rfl; refine dM ?_) | (apply g_drN (id := 3) okM [[],[],[1],[1,2],[1,2,3],[0,1,2,3,4],[0,1,2,3,4,5],[0,1,2,3,4,5,6],[0,1,2,3,4,5,6],[0,1,2,3,4,5,6,7],[0,1,2,3,4,5,6,7,8,9]] [([],[]),([],[]),([],[]),([],[]),([],[]),([0,1,2],[]),([],[]),([],[]),([],[]),([],[]),([],[])] 3; (focus (refine dp 0 0 [21, 22, 23, 24] [] puL ?_; refine dp 1 0 [20] [] (a_pure (sv := .one _) rfl) ?_; refine dp 2 1 [20] [] puL ?_; refine dp 3 3 [20] [] puI ?_; refine dp 4 7 [20] [] puL ?_; refine duN 5 31 [] [] (callD0 (n := _) 0 (θ := []) (hD := (afterSteps_ok _ _ preB57 preB57))) (by exact rfl) (by exact rfl) ?_; refine dp 6 63 [] [] pu1 ?_; refine dp 7 127 [27] [] pu2 ?_; refine dp 8 254 [26, 5] [] pu2 ?_; refine dp 9 510 [27] [] pu1 ?_; refine dp 10 1023 [] [] pu1 ?_; (refine d_nil ?_; refine dN ?_))); any_goals kernel_rfl) | ((first | refine o_gs rfl rfl (fun hc => ?_) (fun hc => ?_) | refine g_cond rfl (fun hc => ?_) (fun hc => ?_)) <;> (try simp only [dcB] at hc) <;> (try first | contradiction | (exfalso; omega)))
        repeat refine cr ?_
        refine ends_id ?_
        refine endK [] (h2 := ?_) (h3 := ?_) (nd := ?_)
        all_goals (repeat' first | exact ce0 | refine ce ?_ | refine ce2 ?_ ?_ | exact SVLe.refl | refine ceb ?_)
        all_goals first | exact (show nodupB _ = true from rfl) | exact Or.inr rfl | (rfl)
      · have hgo := go_ok hv a.toNat blank 0 hvb g1
        have hgc := hgo.1
        simp only [q2 g1]
        repeat' first | (apply n3; exact a_new (gb := .bx _) rfl; exact rfl; refine dA ?_) | (apply p3; (first | exact pu1 | exact puL | exact puI); exact rfl) | refine cd ?_ | (apply c4 0; exact callK1 (θ := []) (hD := (proofOf_ok _ _ _ _ preB57 preB57 preB57 preB57)); exact rfl; exact rfl; exact rfl; refine dM ?_) | (apply c4 0; exact callK1 (θ := []) (hD := (within_ok _ _ _)); exact rfl; exact rfl; exact rfl; refine dM ?_) | (apply c4 0; exact callK1 (θ := []) (hD := (haltsC_ok _ _ preB57 preB57)); exact rfl; exact rfl; exact rfl; refine dM ?_) | refine o_no rfl rfl rfl rfl ?_ | refine o_noN rfl rfl rfl ?_ | (apply py3; exact rfl; exact rfl; (first | exact pu1 | exact puL | exact puI); exact rfl; exact rfl) | (apply ny3; exact rfl; exact rfl; exact a_new (gb := .bx _) rfl; exact rfl; exact rfl) | (apply cy4 0; exact rfl; exact rfl; exact callK1 (θ := []) (hD := (proofOf_ok _ _ _ _ preB57 preB57 preB57 preB57)); exact rfl; exact rfl; exact rfl; exact rfl; refine dM ?_) | (apply cy4 0; exact rfl; exact rfl; exact callK1 (θ := []) (hD := (within_ok _ _ _)); exact rfl; exact rfl; exact rfl; exact rfl; refine dM ?_) | (apply cy4 0; exact rfl; exact rfl; exact callK1 (θ := []) (hD := (haltsC_ok _ _ preB57 preB57)); exact rfl; exact rfl; exact rfl; exact rfl; refine dM ?_) | (apply g_drN (id := 3) okM [[],[],[1],[1,2],[1,2,3],[0,1,2,3,4],[0,1,2,3,4,5],[0,1,2,3,4,5,6],[0,1,2,3,4,5,6],[0,1,2,3,4,5,6,7],[0,1,2,3,4,5,6,7,8,9]] [([],[]),([],[]),([],[]),([],[]),([],[]),([0,1,2],[]),([],[]),([],[]),([],[]),([],[]),([],[])] 3; (focus (refine dp 0 0 [21, 22, 23, 24] [] puL ?_; refine dp 1 0 [20] [] (a_pure (sv := .one _) rfl) ?_; refine dp 2 1 [20] [] puL ?_; refine dp 3 3 [20] [] puI ?_; refine dp 4 7 [20] [] puL ?_; refine duN 5 31 [] [] (callD0 (n := _) 0 (θ := []) (hD := (afterSteps_ok _ _ preB57 preB57))) (by exact rfl) (by exact rfl) ?_; refine dp 6 63 [] [] pu1 ?_; refine dp 7 127 [27] [] pu2 ?_; refine dp 8 254 [26, 5] [] pu2 ?_; refine dp 9 510 [27] [] pu1 ?_; refine dp 10 1023 [] [] pu1 ?_; (refine d_nil ?_; refine dN ?_))); any_goals kernel_rfl) | ((first | refine o_gs rfl rfl (fun hc => ?_) (fun hc => ?_) | refine g_cond rfl (fun hc => ?_) (fun hc => ?_)) <;> (try simp only [dcB] at hc) <;> (try first | contradiction | (exfalso; omega)))
        repeat refine cr ?_
        refine ends_id ?_
        refine endK [] (h2 := ?_) (h3 := ?_) (nd := ?_)
        all_goals (repeat' first | exact ce0 | refine ce ?_ | refine ce2 ?_ ?_ | exact SVLe.refl | refine ceb ?_)
        all_goals first | exact (show nodupB _ = true from rfl) | exact Or.inr rfl | (rfl)
  · have hf3 : ¬ (vMach m = true ∧ formP p 1 1 = true) := fun h => hf (by simp [h.1, h.2])
    refine does_of (k := 0) Tryz.func128 rfl Tryz.ntmps128 rfl rfl fun w F0 S0 ρ0 => ?_
    dsimp only [argT, argH]
    repeat' first | (apply n3; exact a_new (gb := .bx _) rfl; exact rfl; refine dA ?_) | (apply p3; (first | exact pu1 | exact puL | exact puI); exact rfl) | refine cd ?_ | (apply c4 0; exact callK1 (θ := []) (hD := (proofOf_ok _ _ _ _ preB57 preB57 preB57 preB57)); exact rfl; exact rfl; exact rfl; refine dM ?_) | (apply c4 0; exact callK1 (θ := []) (hD := (within_ok _ _ _)); exact rfl; exact rfl; exact rfl; refine dM ?_) | (apply c4 0; exact callK1 (θ := []) (hD := (haltsC_ok _ _ preB57 preB57)); exact rfl; exact rfl; exact rfl; refine dM ?_) | refine o_no rfl rfl rfl rfl ?_ | refine o_noN rfl rfl rfl ?_ | (apply py3; exact rfl; exact rfl; (first | exact pu1 | exact puL | exact puI); exact rfl; exact rfl) | (apply ny3; exact rfl; exact rfl; exact a_new (gb := .bx _) rfl; exact rfl; exact rfl) | (apply cy4 0; exact rfl; exact rfl; exact callK1 (θ := []) (hD := (proofOf_ok _ _ _ _ preB57 preB57 preB57 preB57)); exact rfl; exact rfl; exact rfl; exact rfl; refine dM ?_) | (apply cy4 0; exact rfl; exact rfl; exact callK1 (θ := []) (hD := (within_ok _ _ _)); exact rfl; exact rfl; exact rfl; exact rfl; refine dM ?_) | (apply cy4 0; exact rfl; exact rfl; exact callK1 (θ := []) (hD := (haltsC_ok _ _ preB57 preB57)); exact rfl; exact rfl; exact rfl; exact rfl; refine dM ?_) | (apply g_drN (id := 3) okM [[],[],[1],[1,2],[1,2,3],[0,1,2,3,4],[0,1,2,3,4,5],[0,1,2,3,4,5,6],[0,1,2,3,4,5,6],[0,1,2,3,4,5,6,7],[0,1,2,3,4,5,6,7,8,9]] [([],[]),([],[]),([],[]),([],[]),([],[]),([0,1,2],[]),([],[]),([],[]),([],[]),([],[]),([],[])] 3; (focus (refine dp 0 0 [21, 22, 23, 24] [] puL ?_; refine dp 1 0 [20] [] (a_pure (sv := .one _) rfl) ?_; refine dp 2 1 [20] [] puL ?_; refine dp 3 3 [20] [] puI ?_; refine dp 4 7 [20] [] puL ?_; refine duN 5 31 [] [] (callD0 (n := _) 0 (θ := []) (hD := (afterSteps_ok _ _ preB57 preB57))) (by exact rfl) (by exact rfl) ?_; refine dp 6 63 [] [] pu1 ?_; refine dp 7 127 [27] [] pu2 ?_; refine dp 8 254 [26, 5] [] pu2 ?_; refine dp 9 510 [27] [] pu1 ?_; refine dp 10 1023 [] [] pu1 ?_; (refine d_nil ?_; refine dN ?_))); any_goals kernel_rfl) | ((first | refine o_gs rfl rfl (fun hc => ?_) (fun hc => ?_) | refine g_cond rfl (fun hc => ?_) (fun hc => ?_)) <;> (try simp only [dcB] at hc) <;> (try first | contradiction | (exfalso; omega)))
    repeat refine cr ?_
    refine ends_id ?_
    refine endK [] (h2 := ?_) (h3 := ?_) (nd := ?_)
    all_goals (repeat' first | exact ce0 | refine ce ?_ | refine ce2 ?_ ?_ | exact SVLe.refl | refine ceb ?_)
    all_goals first | exact (show nodupB _ = true from rfl) | exact Or.inr rfl | ((exact (hcs (by assumption)).symm))
theorem sCheckHalt_ok (m : Mach) (p : Prf) (hm : (m.ru.length : Int) ≤ 16777216) (hx : (p.nu.length : Int) ≤ 16777216) (hy : (p.wo.length : Int) ≤ 16777216) (hys : ∀ x ∈ p.wo, (x.length : Int) ≤ 16777216) : Does Tryz.prog 124 [.agg (maC m), .agg (prC p)] [] (.one (boo (chH m p))) [] := by
  have e0 : ∀ h, p.nu[Int.toNat 0]'h = p.nu.getD 0 0 := fun h => get_getD p.nu 0 _ h
  have hcs : vMach m = false → chH m p = false := fun h => by unfold chH; rw [h]; rfl
  have hcs2 : formP p 1 1 = false → chH m p = false := fun h => by unfold chH; rw [h]; simp
  by_cases hf : formP p 1 1 = true
  · have hn := (formP_bd hf).2.2.1
    have hf2 : ¬ formP p 1 1 = false := by simp [hf]
    by_cases hv : vMach m = true
    · have hvb := vBlank hv
      refine does_of (k := 0) Tryz.func124 rfl Tryz.ntmps124 rfl rfl fun w F0 S0 ρ0 => ?_
      dsimp only [argT, argH]
      repeat' first | (apply n3; exact a_new (gb := .bx _) rfl; exact rfl; refine dA ?_) | (apply p3; (first | exact pu1 | exact puL | exact puI); exact rfl) | refine cdn ?_ | refine g_reg (id := 0) ?_ | refine g_reg (id := 1) ?_ | refine g_reg (id := 2) ?_ | (apply c4 0; exact callK1 (θ := []) (hD := (l05Is_ok _ preB57)); exact rfl; exact rfl; exact rfl; refine dM ?_) | (apply c4 0; exact callK1 (θ := []) (hD := (l25Form_ok _ _ _ preB57 preB57 preB57)); exact rfl; exact rfl; exact rfl; refine dM ?_) | (apply c4 0; exact callK1 (θ := []) (hD := (l00In_ok _ _ _)); exact rfl; exact rfl; exact rfl; refine dM ?_) | refine o_no rfl rfl rfl rfl ?_ | refine o_noN rfl rfl rfl ?_ | (apply py3; exact rfl; exact rfl; (first | exact pu1 | exact puL | exact puI); exact rfl; exact rfl) | (apply ny3; exact rfl; exact rfl; exact a_new (gb := .bx _) rfl; exact rfl; exact rfl) | (apply cy4 0; exact rfl; exact rfl; exact callK1 (θ := []) (hD := (l05Is_ok _ preB57)); exact rfl; exact rfl; exact rfl; exact rfl; refine dM ?_) | (apply cy4 0; exact rfl; exact rfl; exact callK1 (θ := []) (hD := (l25Form_ok _ _ _ preB57 preB57 preB57)); exact rfl; exact rfl; exact rfl; exact rfl; refine dM ?_) | (apply cy4 0; exact rfl; exact rfl; exact callK1 (θ := []) (hD := (l00In_ok _ _ _)); exact rfl; exact rfl; exact rfl; exact rfl; refine dM ?_) | ((first | refine o_gs rfl rfl (fun hc => ?_) (fun hc => ?_) | refine g_cond rfl (fun hc => ?_) (fun hc => ?_)) <;> (try simp only [dcB] at hc) <;> (try first | contradiction | (exfalso; omega)))
      · repeat refine cr ?_
        refine ends_id ?_
        refine endK [] (h2 := ?_) (h3 := ?_) (nd := ?_)
        all_goals (repeat' first | exact ce0 | refine ce ?_ | refine ce2 ?_ ?_ | exact SVLe.refl | refine ceb ?_)
        all_goals first | exact (show nodupB _ = true from rfl) | exact Or.inr rfl | ((exact (hcs (by assumption)).symm))
      · simp only [e0] at hc
        repeat refine cr ?_
        refine ends_id ?_
        refine endK [] (h2 := ?_) (h3 := ?_) (nd := ?_)
        all_goals (repeat' first | exact ce0 | refine ce ?_ | refine ce2 ?_ ?_ | exact SVLe.refl | refine ceb ?_)
        all_goals first | exact (show nodupB _ = true from rfl) | exact Or.inr rfl | ((symm; unfold chH; rw [show inB (p.nu.getD 0 0) 0 20000 = false from decide_eq_false (by assumption)]; simp))
      · repeat' first | (apply n3; exact a_new (gb := .bx _) rfl; exact rfl; refine dA ?_) | (apply p3; (first | exact pu1 | exact puL | exact puI); exact rfl) | refine cdn ?_ | refine g_reg (id := 0) ?_ | refine g_reg (id := 1) ?_ | refine g_reg (id := 2) ?_ | (apply c4 0; exact callK1 (θ := []) (hD := (l05Is_ok _ preB57)); exact rfl; exact rfl; exact rfl; refine dM ?_) | (apply c4 0; exact callK1 (θ := []) (hD := (l25Form_ok _ _ _ preB57 preB57 preB57)); exact rfl; exact rfl; exact rfl; refine dM ?_) | (apply c4 0; exact callK1 (θ := []) (hD := (l00In_ok _ _ _)); exact rfl; exact rfl; exact rfl; refine dM ?_) | refine o_no rfl rfl rfl rfl ?_ | refine o_noN rfl rfl rfl ?_ | (apply py3; exact rfl; exact rfl; (first | exact pu1 | exact puL | exact puI); exact rfl; exact rfl) | (apply ny3; exact rfl; exact rfl; exact a_new (gb := .bx _) rfl; exact rfl; exact rfl) | (apply cy4 0; exact rfl; exact rfl; exact callK1 (θ := []) (hD := (l05Is_ok _ preB57)); exact rfl; exact rfl; exact rfl; exact rfl; refine dM ?_) | (apply cy4 0; exact rfl; exact rfl; exact callK1 (θ := []) (hD := (l25Form_ok _ _ _ preB57 preB57 preB57)); exact rfl; exact rfl; exact rfl; exact rfl; refine dM ?_) | (apply cy4 0; exact rfl; exact rfl; exact callK1 (θ := []) (hD := (l00In_ok _ _ _)); exact rfl; exact rfl; exact rfl; exact rfl; refine dM ?_) | (apply g_drN (id := 3) okM [[],[],[1],[1,2],[1,2,3],[0,1,2,3,4],[0,1,2,3,4,5],[0,1,2,3,4,5,6],[0,1,2,3,4,5,6],[0,1,2,3,4,5,6],[],[0,1,2,3,4,5,6,7,10],[0,1,2,3,4,5,6,7,8,10,11],[0,1,2,3,4,5,6,7,8,9,10,11,12]] [([0,1],[]),([],[]),([],[]),([],[]),([],[]),([2,3],[]),([],[]),([],[]),([],[]),([],[]),([4],[]),([],[6]),([],[]),([],[])] 5; (focus (refine duN 0 0 [24, 25, 26, 27, 5] [(true, 4)] (callD1 (n := _) 0 (θ := []) (hD := l25Blank_ok)) (by exact rfl) (by exact rfl) ?_; refine dp 1 0 [23, 5] [(true, 0), (true, 1), (true, 4)] (a_pure (sv := .one _) rfl) ?_; refine dp 2 1 [23, 5] [(true, 0), (true, 1), (true, 4)] puL ?_; refine dp 3 3 [23, 5] [(true, 0), (true, 1), (true, 4)] puI ?_; refine dp 4 7 [23, 5] [(true, 0), (true, 1), (true, 4)] puL ?_; refine duN 5 31 [5] [(true, 4)] (callD1 (n := _) 2 (θ := []) (hD := (l25After_ok m blank _ hv hvb preB57 _ rfl))) (by exact rfl) (by exact rfl) ?_; refine dp 6 63 [5] [(true, 4)] pu1 ?_; refine dp 7 127 [30, 31, 5] [(true, 4)] pu2 ?_; refine dp 8 254 [29, 31, 5] [(true, 4), (false, 6)] pu2 ?_; refine dp 9 508 [29, 30, 5, 6] [(true, 4), (false, 6)] pu2 ?_; refine duE 10 0 [23, 24, 25, 26, 27, 28, 22, 29, 30, 31] [(true, 0), (true, 1), (true, 2), (true, 3)] (atN 4 (fun _ => a_new (gb := .bx _) rfl)) (by exact rfl) (by exact rfl) ?_; refine duE 11 2041 [30, 31] [] (by first | exact a_st_bx rfl rfl rfl rfl (fN rfl rfl) (Nat.le_of_ble_eq_true rfl) rfl | exact a_stE (E := eCf) ⟨_, _, _⟩ rfl rfl rfl rfl (fN rfl rfl) bnd (by exact rfl)) (by exact rfl) (by exact rfl) ?_; refine dp 12 4091 [31] [] pu1 ?_; refine dp 13 8191 [] [] pu1 ?_; (refine d_nil ?_; refine dN ?_))); any_goals kernel_rfl) | ((first | refine o_gs rfl rfl (fun hc => ?_) (fun hc => ?_) | refine g_cond rfl (fun hc => ?_) (fun hc => ?_)) <;> (try simp only [dcB] at hc) <;> (try first | contradiction | (exfalso; omega)))
        simp only [e0] at hc ⊢
        generalize hO : goO m (p.nu.getD 0 0).toNat blank 0 = O
        obtain ⟨c1, a1, ok⟩ := O
        dsimp only
        cases ok
        · repeat' first | (apply n3; exact a_new (gb := .bx _) rfl; exact rfl; refine dA ?_) | (apply p3; (first | exact pu1 | exact puL | exact puI); exact rfl) | refine cd ?_ | (apply c4 0; exact callK1 (θ := []) (hD := (l05Is_ok _ preB57)); exact rfl; exact rfl; exact rfl; refine dM ?_) | (apply c4 0; exact callK1 (θ := []) (hD := (l25Form_ok _ _ _ preB57 preB57 preB57)); exact rfl; exact rfl; exact rfl; refine dM ?_) | (apply c4 0; exact callK1 (θ := []) (hD := (l00In_ok _ _ _)); exact rfl; exact rfl; exact rfl; refine dM ?_) | (apply c4 0; exact callK1 (θ := []) (hD := (l05HaltsC_ok _ _ preB57 preB57)); exact rfl; exact rfl; exact rfl; refine dM ?_) | refine o_no rfl rfl rfl rfl ?_ | refine o_noN rfl rfl rfl ?_ | (apply py3; exact rfl; exact rfl; (first | exact pu1 | exact puL | exact puI); exact rfl; exact rfl) | (apply ny3; exact rfl; exact rfl; exact a_new (gb := .bx _) rfl; exact rfl; exact rfl) | (apply cy4 0; exact rfl; exact rfl; exact callK1 (θ := []) (hD := (l05Is_ok _ preB57)); exact rfl; exact rfl; exact rfl; exact rfl; refine dM ?_) | (apply cy4 0; exact rfl; exact rfl; exact callK1 (θ := []) (hD := (l25Form_ok _ _ _ preB57 preB57 preB57)); exact rfl; exact rfl; exact rfl; exact rfl; refine dM ?_) | (apply cy4 0; exact rfl; exact rfl; exact callK1 (θ := []) (hD := (l00In_ok _ _ _)); exact rfl; exact rfl; exact rfl; exact rfl; refine dM ?_) | (apply cy4 0; exact rfl; exact rfl; exact callK1 (θ := []) (hD := (l05HaltsC_ok _ _ preB57 preB57)); exact rfl; exact rfl; exact rfl; exact rfl; refine dM ?_) | (apply g_drN (id := 3) okM [[],[],[1],[1,2],[1,2,3],[0,1,2,3,4],[0,1,2,3,4,5],[0,1,2,3,4,5,6],[0,1,2,3,4,5,6],[0,1,2,3,4,5,6],[],[0,1,2,3,4,5,6,7,10],[0,1,2,3,4,5,6,7,8,10,11],[0,1,2,3,4,5,6,7,8,9,10,11,12]] [([0,1],[]),([],[]),([],[]),([],[]),([],[]),([2,3],[]),([],[]),([],[]),([],[]),([],[]),([4],[]),([],[6]),([],[]),([],[])] 5; (focus (refine duN 0 0 [24, 25, 26, 27, 5] [(true, 4)] (callD1 (n := _) 0 (θ := []) (hD := l25Blank_ok)) (by exact rfl) (by exact rfl) ?_; refine dp 1 0 [23, 5] [(true, 0), (true, 1), (true, 4)] (a_pure (sv := .one _) rfl) ?_; refine dp 2 1 [23, 5] [(true, 0), (true, 1), (true, 4)] puL ?_; refine dp 3 3 [23, 5] [(true, 0), (true, 1), (true, 4)] puI ?_; refine dp 4 7 [23, 5] [(true, 0), (true, 1), (true, 4)] puL ?_; refine duN 5 31 [5] [(true, 4)] (callD1 (n := _) 2 (θ := []) (hD := (l25After_ok m blank _ hv hvb preB57 _ rfl))) (by exact rfl) (by exact rfl) ?_; refine dp 6 63 [5] [(true, 4)] pu1 ?_; refine dp 7 127 [30, 31, 5] [(true, 4)] pu2 ?_; refine dp 8 254 [29, 31, 5] [(true, 4), (false, 6)] pu2 ?_; refine dp 9 508 [29, 30, 5, 6] [(true, 4), (false, 6)] pu2 ?_; refine duE 10 0 [23, 24, 25, 26, 27, 28, 22, 29, 30, 31] [(true, 0), (true, 1), (true, 2), (true, 3)] (atN 4 (fun _ => a_new (gb := .bx _) rfl)) (by exact rfl) (by exact rfl) ?_; refine duE 11 2041 [30, 31] [] (by first | exact a_st_bx rfl rfl rfl rfl (fN rfl rfl) (Nat.le_of_ble_eq_true rfl) rfl | exact a_stE (E := eCf) ⟨_, _, _⟩ rfl rfl rfl rfl (fN rfl rfl) bnd (by exact rfl)) (by exact rfl) (by exact rfl) ?_; refine dp 12 4091 [31] [] pu1 ?_; refine dp 13 8191 [] [] pu1 ?_; (refine d_nil ?_; refine dN ?_))); any_goals kernel_rfl) | ((first | refine o_gs rfl rfl (fun hc => ?_) (fun hc => ?_) | refine g_cond rfl (fun hc => ?_) (fun hc => ?_)) <;> (try simp only [dcB] at hc) <;> (try first | contradiction | (exfalso; omega)))
          repeat refine cr ?_
          refine ends_id ?_
          refine endK [] (h2 := ?_) (h3 := ?_) (nd := ?_)
          all_goals (repeat' first | exact ce0 | refine ce ?_ | refine ce2 ?_ ?_ | exact SVLe.refl | refine ceb ?_)
          all_goals first | exact (show nodupB _ = true from rfl) | exact Or.inr rfl | ((symm; unfold chH; rw [hO]; simp))
        · have hgo := go_ok hv (p.nu.getD 0 0).toNat blank 0 hvb (by rw [hO])
          rw [hO] at hgo
          dsimp only at hgo
          have hgc := hgo.1
          repeat' first | (apply n3; exact a_new (gb := .bx _) rfl; exact rfl; refine dA ?_) | (apply p3; (first | exact pu1 | exact puL | exact puI); exact rfl) | refine cd ?_ | (apply c4 0; exact callK1 (θ := []) (hD := (l05Is_ok _ preB57)); exact rfl; exact rfl; exact rfl; refine dM ?_) | (apply c4 0; exact callK1 (θ := []) (hD := (l25Form_ok _ _ _ preB57 preB57 preB57)); exact rfl; exact rfl; exact rfl; refine dM ?_) | (apply c4 0; exact callK1 (θ := []) (hD := (l00In_ok _ _ _)); exact rfl; exact rfl; exact rfl; refine dM ?_) | (apply c4 0; exact callK1 (θ := []) (hD := (l05HaltsC_ok _ _ preB57 preB57)); exact rfl; exact rfl; exact rfl; refine dM ?_) | refine o_no rfl rfl rfl rfl ?_ | refine o_noN rfl rfl rfl ?_ | (apply py3; exact rfl; exact rfl; (first | exact pu1 | exact puL | exact puI); exact rfl; exact rfl) | (apply ny3; exact rfl; exact rfl; exact a_new (gb := .bx _) rfl; exact rfl; exact rfl) | (apply cy4 0; exact rfl; exact rfl; exact callK1 (θ := []) (hD := (l05Is_ok _ preB57)); exact rfl; exact rfl; exact rfl; exact rfl; refine dM ?_) | (apply cy4 0; exact rfl; exact rfl; exact callK1 (θ := []) (hD := (l25Form_ok _ _ _ preB57 preB57 preB57)); exact rfl; exact rfl; exact rfl; exact rfl; refine dM ?_) | (apply cy4 0; exact rfl; exact rfl; exact callK1 (θ := []) (hD := (l00In_ok _ _ _)); exact rfl; exact rfl; exact rfl; exact rfl; refine dM ?_) | (apply cy4 0; exact rfl; exact rfl; exact callK1 (θ := []) (hD := (l05HaltsC_ok _ _ preB57 preB57)); exact rfl; exact rfl; exact rfl; exact rfl; refine dM ?_) | (apply g_drN (id := 3) okM [[],[],[1],[1,2],[1,2,3],[0,1,2,3,4],[0,1,2,3,4,5],[0,1,2,3,4,5,6],[0,1,2,3,4,5,6],[0,1,2,3,4,5,6],[],[0,1,2,3,4,5,6,7,10],[0,1,2,3,4,5,6,7,8,10,11],[0,1,2,3,4,5,6,7,8,9,10,11,12]] [([0,1],[]),([],[]),([],[]),([],[]),([],[]),([2,3],[]),([],[]),([],[]),([],[]),([],[]),([4],[]),([],[6]),([],[]),([],[])] 5; (focus (refine duN 0 0 [24, 25, 26, 27, 5] [(true, 4)] (callD1 (n := _) 0 (θ := []) (hD := l25Blank_ok)) (by exact rfl) (by exact rfl) ?_; refine dp 1 0 [23, 5] [(true, 0), (true, 1), (true, 4)] (a_pure (sv := .one _) rfl) ?_; refine dp 2 1 [23, 5] [(true, 0), (true, 1), (true, 4)] puL ?_; refine dp 3 3 [23, 5] [(true, 0), (true, 1), (true, 4)] puI ?_; refine dp 4 7 [23, 5] [(true, 0), (true, 1), (true, 4)] puL ?_; refine duN 5 31 [5] [(true, 4)] (callD1 (n := _) 2 (θ := []) (hD := (l25After_ok m blank _ hv hvb preB57 _ rfl))) (by exact rfl) (by exact rfl) ?_; refine dp 6 63 [5] [(true, 4)] pu1 ?_; refine dp 7 127 [30, 31, 5] [(true, 4)] pu2 ?_; refine dp 8 254 [29, 31, 5] [(true, 4), (false, 6)] pu2 ?_; refine dp 9 508 [29, 30, 5, 6] [(true, 4), (false, 6)] pu2 ?_; refine duE 10 0 [23, 24, 25, 26, 27, 28, 22, 29, 30, 31] [(true, 0), (true, 1), (true, 2), (true, 3)] (atN 4 (fun _ => a_new (gb := .bx _) rfl)) (by exact rfl) (by exact rfl) ?_; refine duE 11 2041 [30, 31] [] (by first | exact a_st_bx rfl rfl rfl rfl (fN rfl rfl) (Nat.le_of_ble_eq_true rfl) rfl | exact a_stE (E := eCf) ⟨_, _, _⟩ rfl rfl rfl rfl (fN rfl rfl) bnd (by exact rfl)) (by exact rfl) (by exact rfl) ?_; refine dp 12 4091 [31] [] pu1 ?_; refine dp 13 8191 [] [] pu1 ?_; (refine d_nil ?_; refine dN ?_))); any_goals kernel_rfl) | ((first | refine o_gs rfl rfl (fun hc => ?_) (fun hc => ?_) | refine g_cond rfl (fun hc => ?_) (fun hc => ?_)) <;> (try simp only [dcB] at hc) <;> (try first | contradiction | (exfalso; omega)))
          repeat refine cr ?_
          refine ends_id ?_
          refine endK [] (h2 := ?_) (h3 := ?_) (nd := ?_)
          all_goals (repeat' first | exact ce0 | refine ce ?_ | refine ce2 ?_ ?_ | exact SVLe.refl | refine ceb ?_)
          all_goals first | exact (show nodupB _ = true from rfl) | exact Or.inr rfl | ((symm; unfold chH; rw [hO, hf, hv, show inB (p.nu.getD 0 0) 0 20000 = true from decide_eq_true hc]; rfl))
    · refine does_of (k := 0) Tryz.func124 rfl Tryz.ntmps124 rfl rfl fun w F0 S0 ρ0 => ?_
      dsimp only [argT, argH]
      repeat' first | (apply n3; exact a_new (gb := .bx _) rfl; exact rfl; refine dA ?_) | (apply p3; (first | exact pu1 | exact puL | exact puI); exact rfl) | refine cd ?_ | (apply c4 0; exact callK1 (θ := []) (hD := (l05Is_ok _ preB57)); exact rfl; exact rfl; exact rfl; refine dM ?_) | (apply c4 0; exact callK1 (θ := []) (hD := (l25Form_ok _ _ _ preB57 preB57 preB57)); exact rfl; exact rfl; exact rfl; refine dM ?_) | (apply c4 0; exact callK1 (θ := []) (hD := (l00In_ok _ _ _)); exact rfl; exact rfl; exact rfl; refine dM ?_) | (apply c4 0; exact callK1 (θ := []) (hD := (l05HaltsC_ok _ _ preB57 preB57)); exact rfl; exact rfl; exact rfl; refine dM ?_) | refine o_no rfl rfl rfl rfl ?_ | refine o_noN rfl rfl rfl ?_ | (apply py3; exact rfl; exact rfl; (first | exact pu1 | exact puL | exact puI); exact rfl; exact rfl) | (apply ny3; exact rfl; exact rfl; exact a_new (gb := .bx _) rfl; exact rfl; exact rfl) | (apply cy4 0; exact rfl; exact rfl; exact callK1 (θ := []) (hD := (l05Is_ok _ preB57)); exact rfl; exact rfl; exact rfl; exact rfl; refine dM ?_) | (apply cy4 0; exact rfl; exact rfl; exact callK1 (θ := []) (hD := (l25Form_ok _ _ _ preB57 preB57 preB57)); exact rfl; exact rfl; exact rfl; exact rfl; refine dM ?_) | (apply cy4 0; exact rfl; exact rfl; exact callK1 (θ := []) (hD := (l00In_ok _ _ _)); exact rfl; exact rfl; exact rfl; exact rfl; refine dM ?_) | (apply cy4 0; exact rfl; exact rfl; exact callK1 (θ := []) (hD := (l05HaltsC_ok _ _ preB57 preB57)); exact rfl; exact rfl; exact rfl; exact rfl; refine dM ?_) | (apply g_drN (id := 3) okM [[],[],[1],[1,2],[1,2,3],[0,1,2,3,4],[0,1,2,3,4,5],[0,1,2,3,4,5,6],[0,1,2,3,4,5,6],[0,1,2,3,4,5,6],[],[0,1,2,3,4,5,6,7,10],[0,1,2,3,4,5,6,7,8,10,11],[0,1,2,3,4,5,6,7,8,9,10,11,12]] [([0,1],[]),([],[]),([],[]),([],[]),([],[]),([2,3],[]),([],[]),([],[]),([],[]),([],[]),([4],[]),([],[6]),([],[]),([],[])] 5; (focus (refine duN 0 0 [24, 25, 26, 27, 5] [(true, 4)] (callD1 (n := _) 0 (θ := []) (hD := l25Blank_ok)) (by exact rfl) (by exact rfl) ?_; refine dp 1 0 [23, 5] [(true, 0), (true, 1), (true, 4)] (a_pure (sv := .one _) rfl) ?_; refine dp 2 1 [23, 5] [(true, 0), (true, 1), (true, 4)] puL ?_; refine dp 3 3 [23, 5] [(true, 0), (true, 1), (true, 4)] puI ?_; refine dp 4 7 [23, 5] [(true, 0), (true, 1), (true, 4)] puL ?_; refine duN 5 31 [5] [(true, 4)] (callD1 (n := _) 2 (θ := []) (hD := (l25After_ok m blank _ hv hvb preB57 _ rfl))) (by exact rfl) (by exact rfl) ?_; refine dp 6 63 [5] [(true, 4)] pu1 ?_; refine dp 7 127 [30, 31, 5] [(true, 4)] pu2 ?_; refine dp 8 254 [29, 31, 5] [(true, 4), (false, 6)] pu2 ?_; refine dp 9 508 [29, 30, 5, 6] [(true, 4), (false, 6)] pu2 ?_; refine duE 10 0 [23, 24, 25, 26, 27, 28, 22, 29, 30, 31] [(true, 0), (true, 1), (true, 2), (true, 3)] (atN 4 (fun _ => a_new (gb := .bx _) rfl)) (by exact rfl) (by exact rfl) ?_; refine duE 11 2041 [30, 31] [] (by first | exact a_st_bx rfl rfl rfl rfl (fN rfl rfl) (Nat.le_of_ble_eq_true rfl) rfl | exact a_stE (E := eCf) ⟨_, _, _⟩ rfl rfl rfl rfl (fN rfl rfl) bnd (by exact rfl)) (by exact rfl) (by exact rfl) ?_; refine dp 12 4091 [31] [] pu1 ?_; refine dp 13 8191 [] [] pu1 ?_; (refine d_nil ?_; refine dN ?_))); any_goals kernel_rfl) | ((first | refine o_gs rfl rfl (fun hc => ?_) (fun hc => ?_) | refine g_cond rfl (fun hc => ?_) (fun hc => ?_)) <;> (try simp only [dcB] at hc) <;> (try first | contradiction | (exfalso; omega)))
      · repeat refine cr ?_
        refine ends_id ?_
        refine endK [] (h2 := ?_) (h3 := ?_) (nd := ?_)
        all_goals (repeat' first | exact ce0 | refine ce ?_ | refine ce2 ?_ ?_ | exact SVLe.refl | refine ceb ?_)
        all_goals first | exact (show nodupB _ = true from rfl) | exact Or.inr rfl | ((exact (hcs (by assumption)).symm))
  · refine does_of (k := 0) Tryz.func124 rfl Tryz.ntmps124 rfl rfl fun w F0 S0 ρ0 => ?_
    dsimp only [argT, argH]
    repeat' first | (apply n3; exact a_new (gb := .bx _) rfl; exact rfl; refine dA ?_) | (apply p3; (first | exact pu1 | exact puL | exact puI); exact rfl) | refine cd ?_ | (apply c4 0; exact callK1 (θ := []) (hD := (l05Is_ok _ preB57)); exact rfl; exact rfl; exact rfl; refine dM ?_) | (apply c4 0; exact callK1 (θ := []) (hD := (l25Form_ok _ _ _ preB57 preB57 preB57)); exact rfl; exact rfl; exact rfl; refine dM ?_) | (apply c4 0; exact callK1 (θ := []) (hD := (l00In_ok _ _ _)); exact rfl; exact rfl; exact rfl; refine dM ?_) | (apply c4 0; exact callK1 (θ := []) (hD := (l05HaltsC_ok _ _ preB57 preB57)); exact rfl; exact rfl; exact rfl; refine dM ?_) | refine o_no rfl rfl rfl rfl ?_ | refine o_noN rfl rfl rfl ?_ | (apply py3; exact rfl; exact rfl; (first | exact pu1 | exact puL | exact puI); exact rfl; exact rfl) | (apply ny3; exact rfl; exact rfl; exact a_new (gb := .bx _) rfl; exact rfl; exact rfl) | (apply cy4 0; exact rfl; exact rfl; exact callK1 (θ := []) (hD := (l05Is_ok _ preB57)); exact rfl; exact rfl; exact rfl; exact rfl; refine dM ?_) | (apply cy4 0; exact rfl; exact rfl; exact callK1 (θ := []) (hD := (l25Form_ok _ _ _ preB57 preB57 preB57)); exact rfl; exact rfl; exact rfl; exact rfl; refine dM ?_) | (apply cy4 0; exact rfl; exact rfl; exact callK1 (θ := []) (hD := (l00In_ok _ _ _)); exact rfl; exact rfl; exact rfl; exact rfl; refine dM ?_) | (apply cy4 0; exact rfl; exact rfl; exact callK1 (θ := []) (hD := (l05HaltsC_ok _ _ preB57 preB57)); exact rfl; exact rfl; exact rfl; exact rfl; refine dM ?_) | (apply g_drN (id := 3) okM [[],[],[1],[1,2],[1,2,3],[0,1,2,3,4],[0,1,2,3,4,5],[0,1,2,3,4,5,6],[0,1,2,3,4,5,6],[0,1,2,3,4,5,6],[],[0,1,2,3,4,5,6,7,10],[0,1,2,3,4,5,6,7,8,10,11],[0,1,2,3,4,5,6,7,8,9,10,11,12]] [([0,1],[]),([],[]),([],[]),([],[]),([],[]),([2,3],[]),([],[]),([],[]),([],[]),([],[]),([4],[]),([],[6]),([],[]),([],[])] 5; (focus (refine duN 0 0 [24, 25, 26, 27, 5] [(true, 4)] (callD1 (n := _) 0 (θ := []) (hD := l25Blank_ok)) (by exact rfl) (by exact rfl) ?_; refine dp 1 0 [23, 5] [(true, 0), (true, 1), (true, 4)] (a_pure (sv := .one _) rfl) ?_; refine dp 2 1 [23, 5] [(true, 0), (true, 1), (true, 4)] puL ?_; refine dp 3 3 [23, 5] [(true, 0), (true, 1), (true, 4)] puI ?_; refine dp 4 7 [23, 5] [(true, 0), (true, 1), (true, 4)] puL ?_; refine duN 5 31 [5] [(true, 4)] (callD1 (n := _) 2 (θ := []) (hD := (l25After_ok m blank _ hv hvb preB57 _ rfl))) (by exact rfl) (by exact rfl) ?_; refine dp 6 63 [5] [(true, 4)] pu1 ?_; refine dp 7 127 [30, 31, 5] [(true, 4)] pu2 ?_; refine dp 8 254 [29, 31, 5] [(true, 4), (false, 6)] pu2 ?_; refine dp 9 508 [29, 30, 5, 6] [(true, 4), (false, 6)] pu2 ?_; refine duE 10 0 [23, 24, 25, 26, 27, 28, 22, 29, 30, 31] [(true, 0), (true, 1), (true, 2), (true, 3)] (atN 4 (fun _ => a_new (gb := .bx _) rfl)) (by exact rfl) (by exact rfl) ?_; refine duE 11 2041 [30, 31] [] (by first | exact a_st_bx rfl rfl rfl rfl (fN rfl rfl) (Nat.le_of_ble_eq_true rfl) rfl | exact a_stE (E := eCf) ⟨_, _, _⟩ rfl rfl rfl rfl (fN rfl rfl) bnd (by exact rfl)) (by exact rfl) (by exact rfl) ?_; refine dp 12 4091 [31] [] pu1 ?_; refine dp 13 8191 [] [] pu1 ?_; (refine d_nil ?_; refine dN ?_))); any_goals kernel_rfl) | ((first | refine o_gs rfl rfl (fun hc => ?_) (fun hc => ?_) | refine g_cond rfl (fun hc => ?_) (fun hc => ?_)) <;> (try simp only [dcB] at hc) <;> (try first | contradiction | (exfalso; omega)))
    · repeat refine cr ?_
      refine ends_id ?_
      refine endK [] (h2 := ?_) (h3 := ?_) (nd := ?_)
      all_goals (repeat' first | exact ce0 | refine ce ?_ | refine ce2 ?_ ?_ | exact SVLe.refl | refine ceb ?_)
      all_goals first | exact (show nodupB _ = true from rfl) | exact Or.inr rfl | ((exact (hcs (by assumption)).symm))
    · repeat refine cr ?_
      refine ends_id ?_
      refine endK [] (h2 := ?_) (h3 := ?_) (nd := ?_)
      all_goals (repeat' first | exact ce0 | refine ce ?_ | refine ce2 ?_ ?_ | exact SVLe.refl | refine ceb ?_)
      all_goals first | exact (show nodupB _ = true from rfl) | exact Or.inr rfl | ((exact (hcs2 (by assumption)).symm))
end Go.Proofs.YtbekdojhcokalaaGreatDoor
end
section
set_option linter.unusedVariables false
set_option linter.unusedSimpArgs false
set_option maxRecDepth 100000
set_option maxHeartbeats 4000000
namespace Go.Proofs.YtbekdojhcokalaaGreatDoor
open Go Foot
/-- The place and the score of the best, from a place on. -/
def bst (f : Verd → Int) : List Verd → Int → Int × Int → Int × Int
  | [], _, y => y
  | v :: r, i, y => bst f r (i + 1) (if chH v.m v.p = true ∧ y.2 < f v then (i, f v) else y)
theorem bst_end {f : Verd → Int} {l : List Verd} {i : Int} {y : Int × Int} (h : ¬ i < l.length) : bst f (l.drop i.toNat) i y = y := by
  rw [List.drop_eq_nil_of_le (by omega), bst]
theorem bst_no {f : Verd → Int} {l : List Verd} {i : Int} {y : Int × Int} (h0 : 0 ≤ i) (h : i < l.length) (hn : ¬ (chH (l[i.toNat]'(by omega)).m (l[i.toNat]'(by omega)).p = true ∧ y.2 < f (l[i.toNat]'(by omega)))) : bst f (l.drop i.toNat) i y = bst f (l.drop (i + 1).toNat) (i + 1) y := by
  rw [List.drop_eq_getElem_cons (show i.toNat < l.length by omega), show (i + 1).toNat = i.toNat + 1 by omega, bst, if_neg hn]
theorem bst_yes {f : Verd → Int} {l : List Verd} {i : Int} {y : Int × Int} (h0 : 0 ≤ i) (h : i < l.length) (hy : chH (l[i.toNat]'(by omega)).m (l[i.toNat]'(by omega)).p = true) (hn : y.2 < f (l[i.toNat]'(by omega))) : bst f (l.drop i.toNat) i y = bst f (l.drop (i + 1).toNat) (i + 1) (i, f (l[i.toNat]'(by omega))) := by
  rw [List.drop_eq_getElem_cons (show i.toNat < l.length by omega), show (i + 1).toNat = i.toNat + 1 by omega, bst, if_pos ⟨hy, hn⟩]
@[irreducible] def bs1 (l : List Verd) (f : Verd → Int) : Int := if okVs l = true then if (bst f l 0 (-1, -1)).1 < 0 then 0 else (bst f l 0 (-1, -1)).1 else 0
@[irreducible] def bs2 (l : List Verd) (f : Verd → Int) : Int := if okVs l = true then if (bst f l 0 (-1, -1)).1 < 0 then 0 else (bst f l 0 (-1, -1)).2 else 0
@[irreducible] def bs3 (l : List Verd) (f : Verd → Int) : Int := if okVs l = true then if (bst f l 0 (-1, -1)).1 < 0 then 3 else 0 else 1
/-- What the best so far and its score are. -/
structure OkB (i b s : Int) : Prop where
  h : b = -1 ∧ s = -1 ∨ 0 ≤ b ∧ b < i ∧ 0 ≤ s
structure OkG (b s gr : Int) : Prop where
  n : b < 0 → gr = 0
  y : ¬ b < 0 → gr = s
theorem preB58 {p : Prop} (h : p := by first | with_reducible assumption | omega | (simp only [List.length_append, List.length_cons, List.length_nil, List.length_set, List.length_replicate, List.length_take, List.length_drop, List.length_tail, List.length_dropLast, List.length_reverse] at *; omega) | exact mem_len (by assumption) (by omega) | (with_reducible refine Int.le_trans (Int.ofNat_le.2 (trimR_len _)) ?_; simp only [List.length_cons, List.length_tail]; omega) | (exact (ruAt_ok (by assumption) (by assumption) (by assumption)).2.1) | (exact (ruAt_ok (by assumption) (by assumption) (by assumption)).2.1) | (have := vMach_bd (by assumption); omega) | (simp only [mC_ch, mC_tu]; omega) | (have := vTag_bd (by assumption); omega) | (have := (‹Gd _ _›).le; omega) | (exact tgHalts_no (by assumption)) | (exact tgHead (by assumption) (by assumption) (by assumption)) | (exact Int.le_trans (tgStep_gd (by assumption) (by assumption) (by assumption) (by assumption)).le (by decide)) | (exact vTag_r (by assumption)) | (with_reducible refine Int.le_trans (Int.ofNat_le.2 (pushL_len _ _)) ?_; simp only [List.length_dropLast]; omega) | exact ls_at (by assumption) (by omega) | exact (ask_ok (by assumption)).1 | exact (ask_ok (by assumption)).2.1 | exact (ask_ok (by assumption)).2.2.1 | exact (ask_ok (by assumption)).2.2.2 | trivial) : p := h
theorem champion_ok (l : List Verd) (k : Nat) (f : Verd → Int) (g : LsGd l) (hE : entB Tryz.prog k = true) (hf : ∀ v, chH v.m v.p = true → 0 ≤ f v) (hp : ∀ v, VeGd v → chH v.m v.p = true → Does Tryz.prog k [.agg (veC v)] [] (.one (int (f v))) []) : Does Tryz.prog 64 [.one (shV l), .one (.d (.fn (.func k) []))] [] (.tup [(false, [int (bs1 l f)]), (false, [int (bs2 l f)]), (false, [int (bs3 l f)])]) [] := by
  have hx := g.n
  have ha : ∀ (i : Nat) (h : i < l.length), (l[i].m.ru.length : Int) ≤ 16777216 ∧ (l[i].p.nu.length : Int) ≤ 16777216 ∧ (l[i].p.wo.length : Int) ≤ 16777216 ∧ ∀ x ∈ l[i].p.wo, (x.length : Int) ≤ 16777216 := fun i h => ⟨(ls_at g h).a, (ls_at g h).b, (ls_at g h).c, (ls_at g h).d⟩
  cases ho : okVs l with
  | false =>
    have e1 : bs1 l f = 0 := by unfold bs1; rw [ho]; rfl
    have e2 : bs2 l f = 0 := by unfold bs2; rw [ho]; rfl
    have e3 : bs3 l f = 1 := by unfold bs3; rw [ho]; rfl
    rw [e1, e2, e3]
    have ho2 : ¬ okVs l = true := by simp [ho]
    refine does_of (k := 0) Tryz.func64 rfl Tryz.ntmps64 rfl rfl fun w F0 S0 ρ0 => ?_
    dsimp only [argT, argH]
    repeat' first | (apply n3; exact a_new (gb := .bx _) rfl; exact rfl; refine dA ?_) | (apply p3; (first | exact a_fa_immT 3 (T := 88) (f := 0) (off := 0) rfl (by kernel_rfl) rfl | exact a_fa_immT 3 (T := 88) (f := 1) (off := 3) rfl (by kernel_rfl) rfl | exact pu1 | exact puL | exact puN | exact a_len_str rfl (fT rfl) | exact puC | exact a_add rfl rfl (by omega) (by omega) | exact puI); exact rfl) | refine cd ?_ | (apply w3; (first | exact a_st_bx rfl rfl rfl rfl (fN rfl rfl) (Nat.le_of_ble_eq_true rfl) rfl | exact a_stE (E := eV) ⟨⟨_, _, _⟩, ⟨_, _, _⟩⟩ rfl rfl rfl rfl (fN rfl rfl) bnd (by exact rfl)); exact rfl; refine dS ?_) | (apply c4 0; exact callK1 (θ := []) (hD := (areVerdicts_ok _ preB58)); exact rfl; exact rfl; exact rfl; refine dM ?_) | (apply c4 0; exact callK1 (θ := []) (hD := (iCheckHalt_ok _ _ preB58 preB58 preB58 preB58)); exact rfl; exact rfl; exact rfl; refine dM ?_) | (apply c4 0; exact callK0 (θ := []) (hE := hE) (hD := (hp _ preB58 preB58)); exact rfl; exact rfl; exact rfl; refine dM ?_) | refine o_no rfl rfl rfl rfl ?_ | refine o_noN rfl rfl rfl ?_ | (apply py3; exact rfl; exact rfl; (first | exact a_fa_immT 3 (T := 88) (f := 0) (off := 0) rfl (by kernel_rfl) rfl | exact a_fa_immT 3 (T := 88) (f := 1) (off := 3) rfl (by kernel_rfl) rfl | exact pu1 | exact puL | exact puN | exact a_len_str rfl (fT rfl) | exact puC | exact a_add rfl rfl (by omega) (by omega) | exact puI); exact rfl; exact rfl) | (apply ny3; exact rfl; exact rfl; exact a_new (gb := .bx _) rfl; exact rfl; exact rfl) | (apply cy4 0; exact rfl; exact rfl; exact callK1 (θ := []) (hD := (areVerdicts_ok _ preB58)); exact rfl; exact rfl; exact rfl; exact rfl; refine dM ?_) | (apply cy4 0; exact rfl; exact rfl; exact callK1 (θ := []) (hD := (iCheckHalt_ok _ _ preB58 preB58 preB58 preB58)); exact rfl; exact rfl; exact rfl; exact rfl; refine dM ?_) | (apply cy4 0; exact rfl; exact rfl; exact callK0 (θ := []) (hE := hE) (hD := (hp _ preB58 preB58)); exact rfl; exact rfl; exact rfl; exact rfl; refine dM ?_) | ((first | refine o_gs rfl rfl (fun hc => ?_) (fun hc => ?_) | refine g_cond rfl (fun hc => ?_) (fun hc => ?_)) <;> (try simp only [dcB] at hc) <;> (try first | contradiction | (exfalso; omega)))
    repeat refine cr ?_
    refine ends_id ?_
    refine endK [] (h2 := ?_) (h3 := ?_) (nd := ?_)
    all_goals (repeat' first | exact ce0 | refine ce ?_ | refine ce2 ?_ ?_ | exact SVLe.refl | refine ceb ?_)
    all_goals first | exact (show nodupB _ = true from rfl) | exact Or.inr rfl | (rfl)
  | true =>
    have ho2 : ¬ okVs l = false := by simp [ho]
    refine does_of (k := 0) Tryz.func64 rfl Tryz.ntmps64 rfl rfl fun w F0 S0 ρ0 => ?_
    dsimp only [argT, argH]
    repeat' first | (apply n3; exact a_new (gb := .bx _) rfl; exact rfl; refine dA ?_) | (apply p3; (first | exact a_fa_immT 3 (T := 88) (f := 0) (off := 0) rfl (by kernel_rfl) rfl | exact a_fa_immT 3 (T := 88) (f := 1) (off := 3) rfl (by kernel_rfl) rfl | exact pu1 | exact puL | exact puN | exact a_len_str rfl (fT rfl) | exact puC | exact a_add rfl rfl (by omega) (by omega) | exact puI); exact rfl) | refine cd ?_ | (apply w3; (first | exact a_st_bx rfl rfl rfl rfl (fN rfl rfl) (Nat.le_of_ble_eq_true rfl) rfl | exact a_stE (E := eV) ⟨⟨_, _, _⟩, ⟨_, _, _⟩⟩ rfl rfl rfl rfl (fN rfl rfl) bnd (by exact rfl)); exact rfl; refine dS ?_) | (apply c4 0; exact callK1 (θ := []) (hD := (areVerdicts_ok _ preB58)); exact rfl; exact rfl; exact rfl; refine dM ?_) | (apply c4 0; exact callK1 (θ := []) (hD := (iCheckHalt_ok _ _ preB58 preB58 preB58 preB58)); exact rfl; exact rfl; exact rfl; refine dM ?_) | (apply c4 0; exact callK0 (θ := []) (hE := hE) (hD := (hp _ preB58 preB58)); exact rfl; exact rfl; exact rfl; refine dM ?_) | refine o_no rfl rfl rfl rfl ?_ | refine o_noN rfl rfl rfl ?_ | (apply py3; exact rfl; exact rfl; (first | exact a_fa_immT 3 (T := 88) (f := 0) (off := 0) rfl (by kernel_rfl) rfl | exact a_fa_immT 3 (T := 88) (f := 1) (off := 3) rfl (by kernel_rfl) rfl | exact pu1 | exact puL | exact puN | exact a_len_str rfl (fT rfl) | exact puC | exact a_add rfl rfl (by omega) (by omega) | exact puI); exact rfl; exact rfl) | (apply ny3; exact rfl; exact rfl; exact a_new (gb := .bx _) rfl; exact rfl; exact rfl) | (apply cy4 0; exact rfl; exact rfl; exact callK1 (θ := []) (hD := (areVerdicts_ok _ preB58)); exact rfl; exact rfl; exact rfl; exact rfl; refine dM ?_) | (apply cy4 0; exact rfl; exact rfl; exact callK1 (θ := []) (hD := (iCheckHalt_ok _ _ preB58 preB58 preB58 preB58)); exact rfl; exact rfl; exact rfl; exact rfl; refine dM ?_) | (apply cy4 0; exact rfl; exact rfl; exact callK0 (θ := []) (hE := hE) (hD := (hp _ preB58 preB58)); exact rfl; exact rfl; exact rfl; exact rfl; refine dM ?_) | ((first | refine o_gs rfl rfl (fun hc => ?_) (fun hc => ?_) | refine g_cond rfl (fun hc => ?_) (fun hc => ?_)) <;> (try simp only [dcB] at hc) <;> (try first | contradiction | (exfalso; omega)))
    refine g_loop_id ?_
    refine loopK [1, 4, 5, 6, 15, 16] [] (fun y : Int × Int × Int × Int => 0 ≤ y.1 ∧ y.1 ≤ l.length ∧ OkB y.1 y.2.1 y.2.2.1 ∧ OkG y.2.1 y.2.2.1 y.2.2.2 ∧ bst f (l.drop y.1.toNat) y.1 (y.2.1, y.2.2.1) = bst f l 0 (-1, -1)) (fun y => [(17, .one (int y.1)), (7, .one (int y.2.1)), (8, .one (int y.2.2.2))]) (fun _ => []) (fun y => (l.length - y.1).toNat) ((0 : Int), (-1 : Int), (-1 : Int), (0 : Int)) [] (hI := ?_) (hr := ?_)
    · exact ⟨by simp, by simp, ⟨.inl ⟨rfl, rfl⟩⟩, ⟨fun _ => rfl, fun h => absurd (show (-1 : Int) < 0 by decide) h⟩, by simp⟩
    · rintro ⟨i, b, s, gr⟩ ⟨j0, j1, j2, j3, j4⟩
      dsimp only [List.cons_append, List.nil_append] at *
      skip
      repeat' first | (apply p3; (first | exact pu1 | exact puC); exact rfl) | refine cdn ?_ | refine g_reg (id := 5) ?_ | refine g_reg (id := 13) ?_ | refine g_reg (id := 14) ?_ | ((first | refine o_gs rfl rfl (fun hc => ?_) (fun hc => ?_) | refine g_cond rfl (fun hc => ?_) (fun hc => ?_)) <;> (try simp only [dcB] at hc) <;> (try first | contradiction | (exfalso; omega)))
      · have hv := ha i.toNat (by omega)
        obtain ⟨v1, v2, v3, v4⟩ := hv
        repeat' first | (apply n3; exact a_new (gb := .bx _) rfl; exact rfl; refine dA ?_) | (apply p3; (first | exact a_fa_immT 3 (T := 88) (f := 0) (off := 0) rfl (by kernel_rfl) rfl | exact a_fa_immT 3 (T := 88) (f := 1) (off := 3) rfl (by kernel_rfl) rfl | exact pu1 | exact puL | exact puC | exact a_add rfl rfl (by omega) (by omega) | exact puI); exact rfl) | refine cd ?_ | (apply w3; (first | exact a_st_bx rfl rfl rfl rfl (fN rfl rfl) (Nat.le_of_ble_eq_true rfl) rfl | exact a_stE (E := eV) ⟨⟨_, _, _⟩, ⟨_, _, _⟩⟩ rfl rfl rfl rfl (fN rfl rfl) bnd (by exact rfl)); exact rfl; refine dS ?_) | (apply c4 0; exact callK1 (θ := []) (hD := (iCheckHalt_ok _ _ preB58 preB58 preB58 preB58)); exact rfl; exact rfl; exact rfl; refine dM ?_) | (apply c4 0; exact callK0 (θ := []) (hE := hE) (hD := (hp _ preB58 preB58)); exact rfl; exact rfl; exact rfl; refine dM ?_) | refine o_no rfl rfl rfl rfl ?_ | refine o_noN rfl rfl rfl ?_ | (apply py3; exact rfl; exact rfl; (first | exact a_fa_immT 3 (T := 88) (f := 0) (off := 0) rfl (by kernel_rfl) rfl | exact a_fa_immT 3 (T := 88) (f := 1) (off := 3) rfl (by kernel_rfl) rfl | exact pu1 | exact puL | exact puC | exact a_add rfl rfl (by omega) (by omega) | exact puI); exact rfl; exact rfl) | (apply ny3; exact rfl; exact rfl; exact a_new (gb := .bx _) rfl; exact rfl; exact rfl) | (apply cy4 0; exact rfl; exact rfl; exact callK1 (θ := []) (hD := (iCheckHalt_ok _ _ preB58 preB58 preB58 preB58)); exact rfl; exact rfl; exact rfl; exact rfl; refine dM ?_) | (apply cy4 0; exact rfl; exact rfl; exact callK0 (θ := []) (hE := hE) (hD := (hp _ preB58 preB58)); exact rfl; exact rfl; exact rfl; exact rfl; refine dM ?_) | ((first | refine o_gs rfl rfl (fun hc => ?_) (fun hc => ?_) | refine g_cond rfl (fun hc => ?_) (fun hc => ?_)) <;> (try simp only [dcB] at hc) <;> (try first | contradiction | (exfalso; omega)))
        · refine q_again (i + 1, b, s, gr) [] (by exact stk) ?_ ?_
          · dsimp only
            refine ⟨by omega, by omega, ⟨by rcases j2.h with h | h <;> omega⟩, j3, ?_⟩
            rw [← bst_no j0 (by assumption) (fun h => by rw [hc] at h; cases h.1)]
            exact j4
          · dsimp only; omega
        · have hb : s = -1 := by rcases j2.h with h | h <;> omega
          have hq := hf (l[i.toNat]'(by omega)) (by assumption)
          refine q_again (i + 1, i, f (l[i.toNat]'(by omega)), f (l[i.toNat]'(by omega))) [] (by exact stk) ?_ ?_
          · dsimp only
            refine ⟨by omega, by omega, ⟨by omega⟩, ⟨fun h => by omega, fun _ => rfl⟩, ?_⟩
            rw [← bst_yes (y := (b, s)) j0 (by assumption) (by assumption) (by dsimp only; omega)]
            exact j4
          · dsimp only; omega
        · have hb := j3.y (by assumption)
          have hq := hf (l[i.toNat]'(by omega)) (by assumption)
          refine q_again (i + 1, i, f (l[i.toNat]'(by omega)), f (l[i.toNat]'(by omega))) [] (by exact stk) ?_ ?_
          · dsimp only
            refine ⟨by omega, by omega, ⟨by omega⟩, ⟨fun h => by omega, fun _ => rfl⟩, ?_⟩
            rw [← bst_yes (y := (b, s)) j0 (by assumption) (by assumption) (by dsimp only; omega)]
            exact j4
          · dsimp only; omega
        · have hb := j3.y (by assumption)
          refine q_again (i + 1, b, s, gr) [] (by exact stk) ?_ ?_
          · dsimp only
            refine ⟨by omega, by omega, ⟨by rcases j2.h with h | h <;> omega⟩, j3, ?_⟩
            rw [← bst_no (y := (b, s)) j0 (by assumption) (fun h => by have := h.2; dsimp only at this; omega)]
            exact j4
          · dsimp only; omega
      · rw [bst_end hc] at j4
        by_cases hb : b < 0
        · have e1 : bs1 l f = 0 := by unfold bs1; rw [ho, ← j4, if_pos rfl, if_pos hb]
          have e2 : bs2 l f = 0 := by unfold bs2; rw [ho, ← j4, if_pos rfl, if_pos hb]
          have e3 : bs3 l f = 3 := by unfold bs3; rw [ho, ← j4, if_pos rfl, if_pos hb]
          rw [e1, e2, e3]
          repeat' first | (apply n3; exact a_new (gb := .bx _) rfl; exact rfl; refine dA ?_) | (apply p3; (first | exact a_fa_immT 3 (T := 88) (f := 0) (off := 0) rfl (by kernel_rfl) rfl | exact a_fa_immT 3 (T := 88) (f := 1) (off := 3) rfl (by kernel_rfl) rfl | exact pu1 | exact puL | exact puC | exact a_add rfl rfl (by omega) (by omega) | exact puI); exact rfl) | refine cd ?_ | (apply w3; (first | exact a_st_bx rfl rfl rfl rfl (fN rfl rfl) (Nat.le_of_ble_eq_true rfl) rfl | exact a_stE (E := eV) ⟨⟨_, _, _⟩, ⟨_, _, _⟩⟩ rfl rfl rfl rfl (fN rfl rfl) bnd (by exact rfl)); exact rfl; refine dS ?_) | (apply c4 0; exact callK1 (θ := []) (hD := (iCheckHalt_ok _ _ preB58 preB58 preB58 preB58)); exact rfl; exact rfl; exact rfl; refine dM ?_) | (apply c4 0; exact callK0 (θ := []) (hE := hE) (hD := (hp _ preB58 preB58)); exact rfl; exact rfl; exact rfl; refine dM ?_) | refine o_no rfl rfl rfl rfl ?_ | refine o_noN rfl rfl rfl ?_ | (apply py3; exact rfl; exact rfl; (first | exact a_fa_immT 3 (T := 88) (f := 0) (off := 0) rfl (by kernel_rfl) rfl | exact a_fa_immT 3 (T := 88) (f := 1) (off := 3) rfl (by kernel_rfl) rfl | exact pu1 | exact puL | exact puC | exact a_add rfl rfl (by omega) (by omega) | exact puI); exact rfl; exact rfl) | (apply ny3; exact rfl; exact rfl; exact a_new (gb := .bx _) rfl; exact rfl; exact rfl) | (apply cy4 0; exact rfl; exact rfl; exact callK1 (θ := []) (hD := (iCheckHalt_ok _ _ preB58 preB58 preB58 preB58)); exact rfl; exact rfl; exact rfl; exact rfl; refine dM ?_) | (apply cy4 0; exact rfl; exact rfl; exact callK0 (θ := []) (hE := hE) (hD := (hp _ preB58 preB58)); exact rfl; exact rfl; exact rfl; exact rfl; refine dM ?_) | ((first | refine o_gs rfl rfl (fun hc => ?_) (fun hc => ?_) | refine g_cond rfl (fun hc => ?_) (fun hc => ?_)) <;> (try simp only [dcB] at hc) <;> (try first | contradiction | (exfalso; omega)))
          repeat refine cr ?_
          refine ends_id ?_
          refine endK [] (h2 := ?_) (h3 := ?_) (nd := ?_)
          all_goals (repeat' first | exact ce0 | refine ce ?_ | refine ce2 ?_ ?_ | exact SVLe.refl | refine ceb ?_)
          all_goals first | exact (show nodupB _ = true from rfl) | exact Or.inr rfl | (rfl)
        · have e1 : bs1 l f = b := by unfold bs1; rw [ho, ← j4, if_pos rfl, if_neg hb]
          have e2 : bs2 l f = gr := by unfold bs2; rw [ho, ← j4, if_pos rfl, if_neg hb, j3.y hb]
          have e3 : bs3 l f = 0 := by unfold bs3; rw [ho, ← j4, if_pos rfl, if_neg hb]
          rw [e1, e2, e3]
          repeat' first | (apply n3; exact a_new (gb := .bx _) rfl; exact rfl; refine dA ?_) | (apply p3; (first | exact a_fa_immT 3 (T := 88) (f := 0) (off := 0) rfl (by kernel_rfl) rfl | exact a_fa_immT 3 (T := 88) (f := 1) (off := 3) rfl (by kernel_rfl) rfl | exact pu1 | exact puL | exact puC | exact a_add rfl rfl (by omega) (by omega) | exact puI); exact rfl) | refine cd ?_ | (apply w3; (first | exact a_st_bx rfl rfl rfl rfl (fN rfl rfl) (Nat.le_of_ble_eq_true rfl) rfl | exact a_stE (E := eV) ⟨⟨_, _, _⟩, ⟨_, _, _⟩⟩ rfl rfl rfl rfl (fN rfl rfl) bnd (by exact rfl)); exact rfl; refine dS ?_) | (apply c4 0; exact callK1 (θ := []) (hD := (iCheckHalt_ok _ _ preB58 preB58 preB58 preB58)); exact rfl; exact rfl; exact rfl; refine dM ?_) | (apply c4 0; exact callK0 (θ := []) (hE := hE) (hD := (hp _ preB58 preB58)); exact rfl; exact rfl; exact rfl; refine dM ?_) | refine o_no rfl rfl rfl rfl ?_ | refine o_noN rfl rfl rfl ?_ | (apply py3; exact rfl; exact rfl; (first | exact a_fa_immT 3 (T := 88) (f := 0) (off := 0) rfl (by kernel_rfl) rfl | exact a_fa_immT 3 (T := 88) (f := 1) (off := 3) rfl (by kernel_rfl) rfl | exact pu1 | exact puL | exact puC | exact a_add rfl rfl (by omega) (by omega) | exact puI); exact rfl; exact rfl) | (apply ny3; exact rfl; exact rfl; exact a_new (gb := .bx _) rfl; exact rfl; exact rfl) | (apply cy4 0; exact rfl; exact rfl; exact callK1 (θ := []) (hD := (iCheckHalt_ok _ _ preB58 preB58 preB58 preB58)); exact rfl; exact rfl; exact rfl; exact rfl; refine dM ?_) | (apply cy4 0; exact rfl; exact rfl; exact callK0 (θ := []) (hE := hE) (hD := (hp _ preB58 preB58)); exact rfl; exact rfl; exact rfl; exact rfl; refine dM ?_) | ((first | refine o_gs rfl rfl (fun hc => ?_) (fun hc => ?_) | refine g_cond rfl (fun hc => ?_) (fun hc => ?_)) <;> (try simp only [dcB] at hc) <;> (try first | contradiction | (exfalso; omega)))
          repeat refine cr ?_
          refine ends_id ?_
          refine endK [] (h2 := ?_) (h3 := ?_) (nd := ?_)
          all_goals (repeat' first | exact ce0 | refine ce ?_ | refine ce2 ?_ ?_ | exact SVLe.refl | refine ceb ?_)
          all_goals first | exact (show nodupB _ = true from rfl) | exact Or.inr rfl | (rfl)
/-- The steps that a proof of a halt tells. -/
@[irreducible] def stpF (v : Verd) : Int := v.p.nu.getD 0 0
theorem chH_bd {m : Mach} {p : Prf} (h : chH m p = true) : vMach m = true ∧ formP p 1 1 = true ∧ (0 ≤ p.nu.getD 0 0 ∧ p.nu.getD 0 0 ≤ 20000) ∧ (goO m (p.nu.getD 0 0).toNat blank 0).2.2 = true := by
  unfold chH at h
  simp only [Bool.and_eq_true, decide_eq_true_eq] at h
  exact ⟨h.1.1.1, h.1.1.2, h.1.2, h.2.1⟩
theorem stp1_ok (v : Verd) (g : VeGd v) (h : chH v.m v.p = true) : Does Tryz.prog 65 [.agg (veC v)] [] (.one (int (stpF v))) [] := by
  have hn := (formP_bd (chH_bd h).2.1).2.2.1
  have e : ∀ h, v.p.nu[Int.toNat 0]'h = stpF v := fun h => by unfold stpF; exact get_getD v.p.nu 0 _ h
  refine does_of (k := 0) Tryz.func65 rfl Tryz.ntmps65 rfl rfl fun w F0 S0 ρ0 => ?_
  dsimp only [argT, argH]
  repeat' first | (apply n3; exact a_new (gb := .bx _) rfl; exact rfl; refine dA ?_) | (apply p3; (first | exact a_fa_immT 3 (T := 88) (f := 1) (off := 3) rfl (by kernel_rfl) rfl | exact pu1 | exact puL | exact puI); exact rfl) | refine cd ?_ | ((first | refine o_gs rfl rfl (fun hc => ?_) (fun hc => ?_) | refine g_cond rfl (fun hc => ?_) (fun hc => ?_)) <;> (try simp only [dcB] at hc) <;> (try first | contradiction | (exfalso; omega)))
  simp only [e]
  repeat refine cr ?_
  refine ends_id ?_
  refine endK [] (h2 := ?_) (h3 := ?_) (nd := ?_)
  all_goals (repeat' first | exact ce0 | refine ce ?_ | refine ce2 ?_ ?_ | exact SVLe.refl | refine ceb ?_)
  all_goals first | exact (show nodupB _ = true from rfl) | exact Or.inr rfl | (rfl)
theorem stpF_ge (v : Verd) (h : chH v.m v.p = true) : 0 ≤ stpF v := by unfold stpF; exact (chH_bd h).2.2.1.1
theorem champS_ok (l : List Verd) (g : LsGd l) : Does Tryz.prog 64 [.one (shV l), .one (.d (.fn (.func 65) []))] [] (.tup [(false, [int (bs1 l stpF)]), (false, [int (bs2 l stpF)]), (false, [int (bs3 l stpF)])]) [] := champion_ok l _ stpF g (fQ rfl) stpF_ge fun v h1 h2 => stp1_ok v h1 h2
theorem l31BestS_ok (l : List Verd) (g : LsGd l) : Does Tryz.prog 63 [.one (shV l), .one (boo false)] [] (.tup [(false, [int (bs1 l stpF)]), (false, [int (bs2 l stpF)]), (false, [int (bs3 l stpF)])]) [] := by
  have hx := g.n
  have ha : ∀ (i : Nat) (h : i < l.length), (l[i].m.ru.length : Int) ≤ 16777216 ∧ (l[i].p.nu.length : Int) ≤ 16777216 ∧ (l[i].p.wo.length : Int) ≤ 16777216 ∧ ∀ x ∈ l[i].p.wo, (x.length : Int) ≤ 16777216 := fun i h => ⟨(ls_at g h).a, (ls_at g h).b, (ls_at g h).c, (ls_at g h).d⟩
  cases ho : okVs l with
  | false =>
    have e1 : bs1 l stpF = 0 := by unfold bs1; rw [ho]; rfl
    have e2 : bs2 l stpF = 0 := by unfold bs2; rw [ho]; rfl
    have e3 : bs3 l stpF = 1 := by unfold bs3; rw [ho]; rfl
    rw [e1, e2, e3]
    have ho2 : ¬ okVs l = true := by simp [ho]
    refine does_of (k := 0) Tryz.func63 rfl Tryz.ntmps63 rfl rfl fun w F0 S0 ρ0 => ?_
    dsimp only [argT, argH]
    repeat' first | (apply p3; (first | exact a_fa_immT 3 (T := 88) (f := 1) (off := 3) rfl (by kernel_rfl) rfl | exact pu1 | exact puL | exact puN | exact a_len_str rfl (fT rfl) | exact puC | exact a_add rfl rfl (by omega) (by omega) | exact puI); exact rfl) | refine cd ?_ | (apply c4 0; exact callK1 (θ := []) (hD := (l31List_ok _ preB58)); exact rfl; exact rfl; exact rfl; refine dM ?_) | (apply g_drN (id := 8) okM [[],[],[0,1],[0,1,2],[0,1,2,3],[0,1,2,3,4],[0,1,2,3,4,5],[0,1,2,3,4,5,6],[0,1,2,3,4,5,6,7],[0,1,2,3,4,5,6,7],[0,1,2,3,4,5,6,7,8,9],[0,1,2,3,4,5,6,7,8,9,10],[0,1,2,3,4,5,6,7,8,9,10,11],[0,1,2,3,4,5,6,7],[0,1,2,3,4,5,6,7],[0,1,2,3,4,5,6,7,13,14],[0,1,2,3,4,5,6,7,13,14,15],[0,1,2,3,4,5,6,7,13,14,15,16],[0,1,2,3,4,5,6,7,8,9,10,11,12,13,14,15,16,17],[0,1,2,3,4,5,6,7,8,9,10,11,12,13,14,15,16,17,18],[0,1,2,3,4,5,6,7,8,9,10,11,12,13,14,15,16,17,18,19]] [([],[]),([],[]),([],[]),([],[]),([],[]),([],[]),([],[]),([],[]),([],[]),([],[]),([],[]),([],[]),([],[]),([],[]),([],[]),([],[]),([],[]),([],[]),([],[]),([],[]),([],[])] 0; (focus (all_goals refine dp 0 0 [24] [] pu1 ?_; all_goals refine dp 1 0 [23] [] pu1 ?_; all_goals refine dp 2 3 [] [] puI ?_; all_goals refine dp 3 7 [] [] (by first | exact a_fa_immT 3 (T := 88) (f := 1) (off := 3) rfl (by kernel_rfl) rfl | exact a_pure (sv := .one _) rfl) ?_; all_goals refine dp 4 15 [] [] (a_pure (sv := .one _) rfl) ?_; all_goals refine dp 5 31 [] [] puL ?_; all_goals refine dp 6 63 [] [] (by first | exact a_ne rfl rfl | exact a_neS rfl rfl rfl) ?_; all_goals (refine db 7 127 [] [] pu1 ?_ ?_ <;> (intro hc; first | cases hc | (try simp only [dcB] at hc); first | contradiction | (exfalso; omega) | skip)); all_goals (first | refine dn 8 255 [32, 36, 37, 38, 39, 40] [] ?_ | refine dpy 8 255 [32, 36, 37, 38, 39, 40] [] pu1 ?_); all_goals (first | refine dn 9 510 [31, 36, 37, 38, 39, 40] [] ?_ | refine dpy 9 510 [31, 36, 37, 38, 39, 40] [] pu1 ?_); all_goals (first | refine dn 10 1023 [36, 37, 38, 39, 40] [] ?_ | refine dpy 10 1023 [36, 37, 38, 39, 40] [] puI ?_); all_goals (first | refine dn 11 2047 [36, 37, 38, 39, 40] [] ?_ | refine dpy 11 2047 [36, 37, 38, 39, 40] [] (by first | exact a_fa_immT 3 (T := 88) (f := 0) (off := 0) rfl (by kernel_rfl) rfl | exact a_pure (sv := .one _) rfl) ?_); all_goals (first | refine dn 12 4095 [36, 37, 38, 39, 40] [] ?_ | refine dpy 12 4095 [36, 37, 38, 39, 40] [] puL ?_); all_goals (first | refine dn 13 8160 [31, 32, 33, 34, 35, 37] [] ?_ | refine dpy 13 8160 [31, 32, 33, 34, 35, 37] [] pu1 ?_); all_goals (first | refine dn 14 16320 [31, 32, 33, 34, 35, 36] [] ?_ | refine dpy 14 16320 [31, 32, 33, 34, 35, 36] [] pu1 ?_); all_goals (first | refine dn 15 32643 [31, 32, 33, 34, 35] [] ?_ | refine dpy 15 32643 [31, 32, 33, 34, 35] [] puI ?_); all_goals (first | refine dn 16 65287 [31, 32, 33, 34, 35] [] ?_ | refine dpy 16 65287 [31, 32, 33, 34, 35] [] (by first | exact a_fa_immT 3 (T := 88) (f := 1) (off := 3) rfl (by kernel_rfl) rfl | exact a_pure (sv := .one _) rfl) ?_); all_goals (first | refine dn 17 130575 [31, 32, 33, 34, 35] [] ?_ | refine dpy 17 130575 [31, 32, 33, 34, 35] [] puL ?_); all_goals (first | refine dn 18 262143 [] [] ?_ | refine dpy 18 262143 [] [] (callD1 (n := _) 0 (θ := []) (hD := (sCheckHalt_ok _ _ preB58 preB58 preB58 preB58))) ?_); all_goals (first | refine dn 19 524287 [] [] ?_ | refine dpy 19 524287 [] [] (a_pure (sv := .one _) rfl) ?_); all_goals refine dp 20 1048575 [] [] (a_pure (sv := .one _) rfl) ?_; all_goals (refine d_nil ?_; refine dN ?_))); any_goals kernel_rfl) | (apply g_drN (id := 12) okM [[],[0],[0,1],[],[3],[0,1,2,3,4],[0,1,2,3,4,5],[0,1,2,3,4,5,6]] [([],[]),([],[]),([],[]),([],[]),([],[]),([],[]),([],[]),([],[])] 0; (focus (refine dp 0 0 [67, 68] [] (a_pure (sv := .one _) rfl) ?_; refine dp 1 1 [67, 68] [] puL ?_; refine dp 2 3 [67, 68] [] (callD1 (n := _) 0 (θ := []) (hD := (l31Symbols_ok _ preB58))) ?_; refine dp 3 0 [64, 65, 66] [] (a_pure (sv := .one _) rfl) ?_; refine dp 4 1 [64, 65, 66] [] puL ?_; refine dp 5 31 [] [] (callD1 (n := _) 0 (θ := []) (hD := (l31Symbols_ok _ preB58))) ?_; refine dp 6 63 [] [] (a_add rfl rfl (by omega) (by omega)) ?_; refine dp 7 127 [] [] pu1 ?_; (refine d_nil ?_; refine dN ?_))); any_goals kernel_rfl) | ((first | refine o_gs rfl rfl (fun hc => ?_) (fun hc => ?_) | refine g_cond rfl (fun hc => ?_) (fun hc => ?_)) <;> (try simp only [dcB] at hc) <;> (try first | contradiction | (exfalso; omega)))
    repeat refine cr ?_
    refine ends_id ?_
    refine endK [] (h2 := ?_) (h3 := ?_) (nd := ?_)
    all_goals (repeat' first | exact ce0 | refine ce ?_ | refine ce2 ?_ ?_ | exact SVLe.refl | refine ceb ?_)
    all_goals first | exact (show nodupB _ = true from rfl) | exact Or.inr rfl | (rfl)
  | true =>
    have ho2 : ¬ okVs l = false := by simp [ho]
    refine does_of (k := 0) Tryz.func63 rfl Tryz.ntmps63 rfl rfl fun w F0 S0 ρ0 => ?_
    dsimp only [argT, argH]
    repeat' first | (apply p3; (first | exact a_fa_immT 3 (T := 88) (f := 1) (off := 3) rfl (by kernel_rfl) rfl | exact pu1 | exact puL | exact puN | exact a_len_str rfl (fT rfl) | exact puC | exact a_add rfl rfl (by omega) (by omega) | exact puI); exact rfl) | refine cd ?_ | (apply c4 0; exact callK1 (θ := []) (hD := (l31List_ok _ preB58)); exact rfl; exact rfl; exact rfl; refine dM ?_) | (apply g_drN (id := 8) okM [[],[],[0,1],[0,1,2],[0,1,2,3],[0,1,2,3,4],[0,1,2,3,4,5],[0,1,2,3,4,5,6],[0,1,2,3,4,5,6,7],[0,1,2,3,4,5,6,7],[0,1,2,3,4,5,6,7,8,9],[0,1,2,3,4,5,6,7,8,9,10],[0,1,2,3,4,5,6,7,8,9,10,11],[0,1,2,3,4,5,6,7],[0,1,2,3,4,5,6,7],[0,1,2,3,4,5,6,7,13,14],[0,1,2,3,4,5,6,7,13,14,15],[0,1,2,3,4,5,6,7,13,14,15,16],[0,1,2,3,4,5,6,7,8,9,10,11,12,13,14,15,16,17],[0,1,2,3,4,5,6,7,8,9,10,11,12,13,14,15,16,17,18],[0,1,2,3,4,5,6,7,8,9,10,11,12,13,14,15,16,17,18,19]] [([],[]),([],[]),([],[]),([],[]),([],[]),([],[]),([],[]),([],[]),([],[]),([],[]),([],[]),([],[]),([],[]),([],[]),([],[]),([],[]),([],[]),([],[]),([],[]),([],[]),([],[])] 0; (focus (all_goals refine dp 0 0 [24] [] pu1 ?_; all_goals refine dp 1 0 [23] [] pu1 ?_; all_goals refine dp 2 3 [] [] puI ?_; all_goals refine dp 3 7 [] [] (by first | exact a_fa_immT 3 (T := 88) (f := 1) (off := 3) rfl (by kernel_rfl) rfl | exact a_pure (sv := .one _) rfl) ?_; all_goals refine dp 4 15 [] [] (a_pure (sv := .one _) rfl) ?_; all_goals refine dp 5 31 [] [] puL ?_; all_goals refine dp 6 63 [] [] (by first | exact a_ne rfl rfl | exact a_neS rfl rfl rfl) ?_; all_goals (refine db 7 127 [] [] pu1 ?_ ?_ <;> (intro hc; first | cases hc | (try simp only [dcB] at hc); first | contradiction | (exfalso; omega) | skip)); all_goals (first | refine dn 8 255 [32, 36, 37, 38, 39, 40] [] ?_ | refine dpy 8 255 [32, 36, 37, 38, 39, 40] [] pu1 ?_); all_goals (first | refine dn 9 510 [31, 36, 37, 38, 39, 40] [] ?_ | refine dpy 9 510 [31, 36, 37, 38, 39, 40] [] pu1 ?_); all_goals (first | refine dn 10 1023 [36, 37, 38, 39, 40] [] ?_ | refine dpy 10 1023 [36, 37, 38, 39, 40] [] puI ?_); all_goals (first | refine dn 11 2047 [36, 37, 38, 39, 40] [] ?_ | refine dpy 11 2047 [36, 37, 38, 39, 40] [] (by first | exact a_fa_immT 3 (T := 88) (f := 0) (off := 0) rfl (by kernel_rfl) rfl | exact a_pure (sv := .one _) rfl) ?_); all_goals (first | refine dn 12 4095 [36, 37, 38, 39, 40] [] ?_ | refine dpy 12 4095 [36, 37, 38, 39, 40] [] puL ?_); all_goals (first | refine dn 13 8160 [31, 32, 33, 34, 35, 37] [] ?_ | refine dpy 13 8160 [31, 32, 33, 34, 35, 37] [] pu1 ?_); all_goals (first | refine dn 14 16320 [31, 32, 33, 34, 35, 36] [] ?_ | refine dpy 14 16320 [31, 32, 33, 34, 35, 36] [] pu1 ?_); all_goals (first | refine dn 15 32643 [31, 32, 33, 34, 35] [] ?_ | refine dpy 15 32643 [31, 32, 33, 34, 35] [] puI ?_); all_goals (first | refine dn 16 65287 [31, 32, 33, 34, 35] [] ?_ | refine dpy 16 65287 [31, 32, 33, 34, 35] [] (by first | exact a_fa_immT 3 (T := 88) (f := 1) (off := 3) rfl (by kernel_rfl) rfl | exact a_pure (sv := .one _) rfl) ?_); all_goals (first | refine dn 17 130575 [31, 32, 33, 34, 35] [] ?_ | refine dpy 17 130575 [31, 32, 33, 34, 35] [] puL ?_); all_goals (first | refine dn 18 262143 [] [] ?_ | refine dpy 18 262143 [] [] (callD1 (n := _) 0 (θ := []) (hD := (sCheckHalt_ok _ _ preB58 preB58 preB58 preB58))) ?_); all_goals (first | refine dn 19 524287 [] [] ?_ | refine dpy 19 524287 [] [] (a_pure (sv := .one _) rfl) ?_); all_goals refine dp 20 1048575 [] [] (a_pure (sv := .one _) rfl) ?_; all_goals (refine d_nil ?_; refine dN ?_))); any_goals kernel_rfl) | (apply g_drN (id := 12) okM [[],[0],[0,1],[],[3],[0,1,2,3,4],[0,1,2,3,4,5],[0,1,2,3,4,5,6]] [([],[]),([],[]),([],[]),([],[]),([],[]),([],[]),([],[]),([],[])] 0; (focus (refine dp 0 0 [67, 68] [] (a_pure (sv := .one _) rfl) ?_; refine dp 1 1 [67, 68] [] puL ?_; refine dp 2 3 [67, 68] [] (callD1 (n := _) 0 (θ := []) (hD := (l31Symbols_ok _ preB58))) ?_; refine dp 3 0 [64, 65, 66] [] (a_pure (sv := .one _) rfl) ?_; refine dp 4 1 [64, 65, 66] [] puL ?_; refine dp 5 31 [] [] (callD1 (n := _) 0 (θ := []) (hD := (l31Symbols_ok _ preB58))) ?_; refine dp 6 63 [] [] (a_add rfl rfl (by omega) (by omega)) ?_; refine dp 7 127 [] [] pu1 ?_; (refine d_nil ?_; refine dN ?_))); any_goals kernel_rfl) | ((first | refine o_gs rfl rfl (fun hc => ?_) (fun hc => ?_) | refine g_cond rfl (fun hc => ?_) (fun hc => ?_)) <;> (try simp only [dcB] at hc) <;> (try first | contradiction | (exfalso; omega)))
    refine g_loop_id ?_
    refine loopK [0, 1, 4, 5, 6] [] (fun y : Int × Int × Int => 0 ≤ y.1 ∧ y.1 ≤ l.length ∧ OkB y.1 y.2.1 y.2.2 ∧ bst stpF (l.drop y.1.toNat) y.1 (y.2.1, y.2.2) = bst stpF l 0 (-1, -1)) (fun y => [(9, .one (int y.1)), (7, .one (int y.2.1)), (8, .one (int y.2.2))]) (fun _ => []) (fun y => (l.length - y.1).toNat) ((0 : Int), (-1 : Int), (-1 : Int)) [] (hI := ?_) (hr := ?_)
    · exact ⟨by simp, by simp, ⟨.inl ⟨rfl, rfl⟩⟩, by simp⟩
    · rintro ⟨i, b, s⟩ ⟨j0, j1, j2, j4⟩
      dsimp only [List.cons_append, List.nil_append] at *
      skip
      repeat' first | (apply p3; (first | exact pu1 | exact puN | exact a_len_str rfl (fT rfl) | exact puC); exact rfl) | refine cdn ?_ | refine g_reg (id := 6) ?_ | refine g_reg (id := 17) ?_ | refine g_reg (id := 18) ?_ | ((first | refine o_gs rfl rfl (fun hc => ?_) (fun hc => ?_) | refine g_cond rfl (fun hc => ?_) (fun hc => ?_)) <;> (try simp only [dcB] at hc) <;> (try first | contradiction | (exfalso; omega)))
      · have hv := ha i.toNat (by omega)
        have hi := hc
        obtain ⟨v1, v2, v3, v4⟩ := hv
        by_cases hh : chH (l[i.toNat]'(by omega)).m (l[i.toNat]'(by omega)).p = true
        · have hh2 : ¬ chH (l[i.toNat]'(by omega)).m (l[i.toNat]'(by omega)).p = false := by simp [hh]
          have hb := chH_bd hh
          have hm := hb.1
          have hk := (formP_bd hb.2.1).2.1
          have hn := (formP_bd hb.2.1).2.2.1
          have hq := stpF_ge (l[i.toNat]'(by omega)) hh
          have e : ∀ h : Int.toNat 0 < (l[i.toNat]'(by omega)).p.nu.length, (l[i.toNat]'(by omega)).p.nu[Int.toNat 0]'h = stpF (l[i.toNat]'(by omega)) := fun h => by unfold stpF; exact get_getD _ 0 _ h
          repeat' first | (apply p3; (first | exact a_fa_immT 3 (T := 88) (f := 1) (off := 3) rfl (by kernel_rfl) rfl | exact pu1 | exact puL | exact puN | exact a_len_str rfl (fT rfl) | exact puC | exact a_add rfl rfl (by omega) (by omega) | exact puI); exact rfl) | refine cd ?_ | (apply g_drN (id := 8) okM [[],[],[0,1],[0,1,2],[0,1,2,3],[0,1,2,3,4],[0,1,2,3,4,5],[0,1,2,3,4,5,6],[0,1,2,3,4,5,6,7],[0,1,2,3,4,5,6,7],[0,1,2,3,4,5,6,7,8,9],[0,1,2,3,4,5,6,7,8,9,10],[0,1,2,3,4,5,6,7,8,9,10,11],[0,1,2,3,4,5,6,7],[0,1,2,3,4,5,6,7],[0,1,2,3,4,5,6,7,13,14],[0,1,2,3,4,5,6,7,13,14,15],[0,1,2,3,4,5,6,7,13,14,15,16],[0,1,2,3,4,5,6,7,8,9,10,11,12,13,14,15,16,17],[0,1,2,3,4,5,6,7,8,9,10,11,12,13,14,15,16,17,18],[0,1,2,3,4,5,6,7,8,9,10,11,12,13,14,15,16,17,18,19]] [([],[]),([],[]),([],[]),([],[]),([],[]),([],[]),([],[]),([],[]),([],[]),([],[]),([],[]),([],[]),([],[]),([],[]),([],[]),([],[]),([],[]),([],[]),([],[]),([],[]),([],[])] 0; (focus (all_goals refine dp 0 0 [24] [] pu1 ?_; all_goals refine dp 1 0 [23] [] pu1 ?_; all_goals refine dp 2 3 [] [] puI ?_; all_goals refine dp 3 7 [] [] (by first | exact a_fa_immT 3 (T := 88) (f := 1) (off := 3) rfl (by kernel_rfl) rfl | exact a_pure (sv := .one _) rfl) ?_; all_goals refine dp 4 15 [] [] (a_pure (sv := .one _) rfl) ?_; all_goals refine dp 5 31 [] [] puL ?_; all_goals refine dp 6 63 [] [] (by first | exact a_ne rfl rfl | exact a_neS rfl rfl rfl) ?_; all_goals (refine db 7 127 [] [] pu1 ?_ ?_ <;> (intro hc; first | cases hc | (try simp only [dcB] at hc); first | contradiction | (exfalso; omega) | skip)); all_goals (first | refine dn 8 255 [32, 36, 37, 38, 39, 40] [] ?_ | refine dpy 8 255 [32, 36, 37, 38, 39, 40] [] pu1 ?_); all_goals (first | refine dn 9 510 [31, 36, 37, 38, 39, 40] [] ?_ | refine dpy 9 510 [31, 36, 37, 38, 39, 40] [] pu1 ?_); all_goals (first | refine dn 10 1023 [36, 37, 38, 39, 40] [] ?_ | refine dpy 10 1023 [36, 37, 38, 39, 40] [] puI ?_); all_goals (first | refine dn 11 2047 [36, 37, 38, 39, 40] [] ?_ | refine dpy 11 2047 [36, 37, 38, 39, 40] [] (by first | exact a_fa_immT 3 (T := 88) (f := 0) (off := 0) rfl (by kernel_rfl) rfl | exact a_pure (sv := .one _) rfl) ?_); all_goals (first | refine dn 12 4095 [36, 37, 38, 39, 40] [] ?_ | refine dpy 12 4095 [36, 37, 38, 39, 40] [] puL ?_); all_goals (first | refine dn 13 8160 [31, 32, 33, 34, 35, 37] [] ?_ | refine dpy 13 8160 [31, 32, 33, 34, 35, 37] [] pu1 ?_); all_goals (first | refine dn 14 16320 [31, 32, 33, 34, 35, 36] [] ?_ | refine dpy 14 16320 [31, 32, 33, 34, 35, 36] [] pu1 ?_); all_goals (first | refine dn 15 32643 [31, 32, 33, 34, 35] [] ?_ | refine dpy 15 32643 [31, 32, 33, 34, 35] [] puI ?_); all_goals (first | refine dn 16 65287 [31, 32, 33, 34, 35] [] ?_ | refine dpy 16 65287 [31, 32, 33, 34, 35] [] (by first | exact a_fa_immT 3 (T := 88) (f := 1) (off := 3) rfl (by kernel_rfl) rfl | exact a_pure (sv := .one _) rfl) ?_); all_goals (first | refine dn 17 130575 [31, 32, 33, 34, 35] [] ?_ | refine dpy 17 130575 [31, 32, 33, 34, 35] [] puL ?_); all_goals (first | refine dn 18 262143 [] [] ?_ | refine dpy 18 262143 [] [] (callD1 (n := _) 0 (θ := []) (hD := (sCheckHalt_ok _ _ preB58 preB58 preB58 preB58))) ?_); all_goals (first | refine dn 19 524287 [] [] ?_ | refine dpy 19 524287 [] [] (a_pure (sv := .one _) rfl) ?_); all_goals refine dp 20 1048575 [] [] (a_pure (sv := .one _) rfl) ?_; all_goals (refine d_nil ?_; refine dN ?_))); any_goals kernel_rfl) | (apply g_drN (id := 12) okM [[],[0],[0,1],[],[3],[0,1,2,3,4],[0,1,2,3,4,5],[0,1,2,3,4,5,6]] [([],[]),([],[]),([],[]),([],[]),([],[]),([],[]),([],[]),([],[])] 0; (focus (refine dp 0 0 [67, 68] [] (a_pure (sv := .one _) rfl) ?_; refine dp 1 1 [67, 68] [] puL ?_; refine dp 2 3 [67, 68] [] (callD1 (n := _) 0 (θ := []) (hD := (l31Symbols_ok _ preB58))) ?_; refine dp 3 0 [64, 65, 66] [] (a_pure (sv := .one _) rfl) ?_; refine dp 4 1 [64, 65, 66] [] puL ?_; refine dp 5 31 [] [] (callD1 (n := _) 0 (θ := []) (hD := (l31Symbols_ok _ preB58))) ?_; refine dp 6 63 [] [] (a_add rfl rfl (by omega) (by omega)) ?_; refine dp 7 127 [] [] pu1 ?_; (refine d_nil ?_; refine dN ?_))); any_goals kernel_rfl) | ((first | refine o_gs rfl rfl (fun hc => ?_) (fun hc => ?_) | refine g_cond rfl (fun hc => ?_) (fun hc => ?_)) <;> (try simp only [dcB] at hc) <;> (try first | contradiction | (exfalso; omega)))
          all_goals (simp only [e] at hc ⊢)
          · refine q_again (i + 1, i, stpF (l[i.toNat]'(by omega))) [] (by exact stk) ?_ ?_
            · dsimp only
              refine ⟨by omega, by omega, ⟨by omega⟩, ?_⟩
              rw [← bst_yes (y := (b, s)) j0 hi hh (by assumption)]
              exact j4
            · dsimp only; omega
          · refine q_again (i + 1, b, s) [] (by exact stk) ?_ ?_
            · dsimp only
              refine ⟨by omega, by omega, ⟨by rcases j2.h with h | h <;> omega⟩, ?_⟩
              rw [← bst_no (y := (b, s)) j0 hi (fun h => absurd h.2 (by assumption))]
              exact j4
            · dsimp only; omega
        · repeat' first | (apply p3; (first | exact a_fa_immT 3 (T := 88) (f := 1) (off := 3) rfl (by kernel_rfl) rfl | exact pu1 | exact puL | exact puN | exact a_len_str rfl (fT rfl) | exact puC | exact a_add rfl rfl (by omega) (by omega) | exact puI); exact rfl) | refine cd ?_ | (apply g_drN (id := 8) okM [[],[],[0,1],[0,1,2],[0,1,2,3],[0,1,2,3,4],[0,1,2,3,4,5],[0,1,2,3,4,5,6],[0,1,2,3,4,5,6,7],[0,1,2,3,4,5,6,7],[0,1,2,3,4,5,6,7,8,9],[0,1,2,3,4,5,6,7,8,9,10],[0,1,2,3,4,5,6,7,8,9,10,11],[0,1,2,3,4,5,6,7],[0,1,2,3,4,5,6,7],[0,1,2,3,4,5,6,7,13,14],[0,1,2,3,4,5,6,7,13,14,15],[0,1,2,3,4,5,6,7,13,14,15,16],[0,1,2,3,4,5,6,7,8,9,10,11,12,13,14,15,16,17],[0,1,2,3,4,5,6,7,8,9,10,11,12,13,14,15,16,17,18],[0,1,2,3,4,5,6,7,8,9,10,11,12,13,14,15,16,17,18,19]] [([],[]),([],[]),([],[]),([],[]),([],[]),([],[]),([],[]),([],[]),([],[]),([],[]),([],[]),([],[]),([],[]),([],[]),([],[]),([],[]),([],[]),([],[]),([],[]),([],[]),([],[])] 0; (focus (all_goals refine dp 0 0 [24] [] pu1 ?_; all_goals refine dp 1 0 [23] [] pu1 ?_; all_goals refine dp 2 3 [] [] puI ?_; all_goals refine dp 3 7 [] [] (by first | exact a_fa_immT 3 (T := 88) (f := 1) (off := 3) rfl (by kernel_rfl) rfl | exact a_pure (sv := .one _) rfl) ?_; all_goals refine dp 4 15 [] [] (a_pure (sv := .one _) rfl) ?_; all_goals refine dp 5 31 [] [] puL ?_; all_goals refine dp 6 63 [] [] (by first | exact a_ne rfl rfl | exact a_neS rfl rfl rfl) ?_; all_goals (refine db 7 127 [] [] pu1 ?_ ?_ <;> (intro hc; first | cases hc | (try simp only [dcB] at hc); first | contradiction | (exfalso; omega) | skip)); all_goals (first | refine dn 8 255 [32, 36, 37, 38, 39, 40] [] ?_ | refine dpy 8 255 [32, 36, 37, 38, 39, 40] [] pu1 ?_); all_goals (first | refine dn 9 510 [31, 36, 37, 38, 39, 40] [] ?_ | refine dpy 9 510 [31, 36, 37, 38, 39, 40] [] pu1 ?_); all_goals (first | refine dn 10 1023 [36, 37, 38, 39, 40] [] ?_ | refine dpy 10 1023 [36, 37, 38, 39, 40] [] puI ?_); all_goals (first | refine dn 11 2047 [36, 37, 38, 39, 40] [] ?_ | refine dpy 11 2047 [36, 37, 38, 39, 40] [] (by first | exact a_fa_immT 3 (T := 88) (f := 0) (off := 0) rfl (by kernel_rfl) rfl | exact a_pure (sv := .one _) rfl) ?_); all_goals (first | refine dn 12 4095 [36, 37, 38, 39, 40] [] ?_ | refine dpy 12 4095 [36, 37, 38, 39, 40] [] puL ?_); all_goals (first | refine dn 13 8160 [31, 32, 33, 34, 35, 37] [] ?_ | refine dpy 13 8160 [31, 32, 33, 34, 35, 37] [] pu1 ?_); all_goals (first | refine dn 14 16320 [31, 32, 33, 34, 35, 36] [] ?_ | refine dpy 14 16320 [31, 32, 33, 34, 35, 36] [] pu1 ?_); all_goals (first | refine dn 15 32643 [31, 32, 33, 34, 35] [] ?_ | refine dpy 15 32643 [31, 32, 33, 34, 35] [] puI ?_); all_goals (first | refine dn 16 65287 [31, 32, 33, 34, 35] [] ?_ | refine dpy 16 65287 [31, 32, 33, 34, 35] [] (by first | exact a_fa_immT 3 (T := 88) (f := 1) (off := 3) rfl (by kernel_rfl) rfl | exact a_pure (sv := .one _) rfl) ?_); all_goals (first | refine dn 17 130575 [31, 32, 33, 34, 35] [] ?_ | refine dpy 17 130575 [31, 32, 33, 34, 35] [] puL ?_); all_goals (first | refine dn 18 262143 [] [] ?_ | refine dpy 18 262143 [] [] (callD1 (n := _) 0 (θ := []) (hD := (sCheckHalt_ok _ _ preB58 preB58 preB58 preB58))) ?_); all_goals (first | refine dn 19 524287 [] [] ?_ | refine dpy 19 524287 [] [] (a_pure (sv := .one _) rfl) ?_); all_goals refine dp 20 1048575 [] [] (a_pure (sv := .one _) rfl) ?_; all_goals (refine d_nil ?_; refine dN ?_))); any_goals kernel_rfl) | (apply g_drN (id := 12) okM [[],[0],[0,1],[],[3],[0,1,2,3,4],[0,1,2,3,4,5],[0,1,2,3,4,5,6]] [([],[]),([],[]),([],[]),([],[]),([],[]),([],[]),([],[]),([],[])] 0; (focus (refine dp 0 0 [67, 68] [] (a_pure (sv := .one _) rfl) ?_; refine dp 1 1 [67, 68] [] puL ?_; refine dp 2 3 [67, 68] [] (callD1 (n := _) 0 (θ := []) (hD := (l31Symbols_ok _ preB58))) ?_; refine dp 3 0 [64, 65, 66] [] (a_pure (sv := .one _) rfl) ?_; refine dp 4 1 [64, 65, 66] [] puL ?_; refine dp 5 31 [] [] (callD1 (n := _) 0 (θ := []) (hD := (l31Symbols_ok _ preB58))) ?_; refine dp 6 63 [] [] (a_add rfl rfl (by omega) (by omega)) ?_; refine dp 7 127 [] [] pu1 ?_; (refine d_nil ?_; refine dN ?_))); any_goals kernel_rfl) | ((first | refine o_gs rfl rfl (fun hc => ?_) (fun hc => ?_) | refine g_cond rfl (fun hc => ?_) (fun hc => ?_)) <;> (try simp only [dcB] at hc) <;> (try first | contradiction | (exfalso; omega)))
          all_goals
            refine q_again (i + 1, b, s) [] (by exact stk) ?_ ?_
            · dsimp only
              refine ⟨by omega, by omega, ⟨by rcases j2.h with h | h <;> omega⟩, ?_⟩
              rw [← bst_no (y := (b, s)) j0 hi (fun h => hh h.1)]
              exact j4
            · dsimp only; omega
      · rw [bst_end hc] at j4
        by_cases hb : b < 0
        · have e1 : bs1 l stpF = 0 := by unfold bs1; rw [ho, ← j4, if_pos rfl, if_pos hb]
          have e2 : bs2 l stpF = 0 := by unfold bs2; rw [ho, ← j4, if_pos rfl, if_pos hb]
          have e3 : bs3 l stpF = 3 := by unfold bs3; rw [ho, ← j4, if_pos rfl, if_pos hb]
          rw [e1, e2, e3]
          repeat' first | (apply p3; (first | exact a_fa_immT 3 (T := 88) (f := 1) (off := 3) rfl (by kernel_rfl) rfl | exact pu1 | exact puL | exact puN | exact a_len_str rfl (fT rfl) | exact puC | exact a_add rfl rfl (by omega) (by omega) | exact puI); exact rfl) | refine cd ?_ | (apply g_drN (id := 8) okM [[],[],[0,1],[0,1,2],[0,1,2,3],[0,1,2,3,4],[0,1,2,3,4,5],[0,1,2,3,4,5,6],[0,1,2,3,4,5,6,7],[0,1,2,3,4,5,6,7],[0,1,2,3,4,5,6,7,8,9],[0,1,2,3,4,5,6,7,8,9,10],[0,1,2,3,4,5,6,7,8,9,10,11],[0,1,2,3,4,5,6,7],[0,1,2,3,4,5,6,7],[0,1,2,3,4,5,6,7,13,14],[0,1,2,3,4,5,6,7,13,14,15],[0,1,2,3,4,5,6,7,13,14,15,16],[0,1,2,3,4,5,6,7,8,9,10,11,12,13,14,15,16,17],[0,1,2,3,4,5,6,7,8,9,10,11,12,13,14,15,16,17,18],[0,1,2,3,4,5,6,7,8,9,10,11,12,13,14,15,16,17,18,19]] [([],[]),([],[]),([],[]),([],[]),([],[]),([],[]),([],[]),([],[]),([],[]),([],[]),([],[]),([],[]),([],[]),([],[]),([],[]),([],[]),([],[]),([],[]),([],[]),([],[]),([],[])] 0; (focus (all_goals refine dp 0 0 [24] [] pu1 ?_; all_goals refine dp 1 0 [23] [] pu1 ?_; all_goals refine dp 2 3 [] [] puI ?_; all_goals refine dp 3 7 [] [] (by first | exact a_fa_immT 3 (T := 88) (f := 1) (off := 3) rfl (by kernel_rfl) rfl | exact a_pure (sv := .one _) rfl) ?_; all_goals refine dp 4 15 [] [] (a_pure (sv := .one _) rfl) ?_; all_goals refine dp 5 31 [] [] puL ?_; all_goals refine dp 6 63 [] [] (by first | exact a_ne rfl rfl | exact a_neS rfl rfl rfl) ?_; all_goals (refine db 7 127 [] [] pu1 ?_ ?_ <;> (intro hc; first | cases hc | (try simp only [dcB] at hc); first | contradiction | (exfalso; omega) | skip)); all_goals (first | refine dn 8 255 [32, 36, 37, 38, 39, 40] [] ?_ | refine dpy 8 255 [32, 36, 37, 38, 39, 40] [] pu1 ?_); all_goals (first | refine dn 9 510 [31, 36, 37, 38, 39, 40] [] ?_ | refine dpy 9 510 [31, 36, 37, 38, 39, 40] [] pu1 ?_); all_goals (first | refine dn 10 1023 [36, 37, 38, 39, 40] [] ?_ | refine dpy 10 1023 [36, 37, 38, 39, 40] [] puI ?_); all_goals (first | refine dn 11 2047 [36, 37, 38, 39, 40] [] ?_ | refine dpy 11 2047 [36, 37, 38, 39, 40] [] (by first | exact a_fa_immT 3 (T := 88) (f := 0) (off := 0) rfl (by kernel_rfl) rfl | exact a_pure (sv := .one _) rfl) ?_); all_goals (first | refine dn 12 4095 [36, 37, 38, 39, 40] [] ?_ | refine dpy 12 4095 [36, 37, 38, 39, 40] [] puL ?_); all_goals (first | refine dn 13 8160 [31, 32, 33, 34, 35, 37] [] ?_ | refine dpy 13 8160 [31, 32, 33, 34, 35, 37] [] pu1 ?_); all_goals (first | refine dn 14 16320 [31, 32, 33, 34, 35, 36] [] ?_ | refine dpy 14 16320 [31, 32, 33, 34, 35, 36] [] pu1 ?_); all_goals (first | refine dn 15 32643 [31, 32, 33, 34, 35] [] ?_ | refine dpy 15 32643 [31, 32, 33, 34, 35] [] puI ?_); all_goals (first | refine dn 16 65287 [31, 32, 33, 34, 35] [] ?_ | refine dpy 16 65287 [31, 32, 33, 34, 35] [] (by first | exact a_fa_immT 3 (T := 88) (f := 1) (off := 3) rfl (by kernel_rfl) rfl | exact a_pure (sv := .one _) rfl) ?_); all_goals (first | refine dn 17 130575 [31, 32, 33, 34, 35] [] ?_ | refine dpy 17 130575 [31, 32, 33, 34, 35] [] puL ?_); all_goals (first | refine dn 18 262143 [] [] ?_ | refine dpy 18 262143 [] [] (callD1 (n := _) 0 (θ := []) (hD := (sCheckHalt_ok _ _ preB58 preB58 preB58 preB58))) ?_); all_goals (first | refine dn 19 524287 [] [] ?_ | refine dpy 19 524287 [] [] (a_pure (sv := .one _) rfl) ?_); all_goals refine dp 20 1048575 [] [] (a_pure (sv := .one _) rfl) ?_; all_goals (refine d_nil ?_; refine dN ?_))); any_goals kernel_rfl) | (apply g_drN (id := 12) okM [[],[0],[0,1],[],[3],[0,1,2,3,4],[0,1,2,3,4,5],[0,1,2,3,4,5,6]] [([],[]),([],[]),([],[]),([],[]),([],[]),([],[]),([],[]),([],[])] 0; (focus (refine dp 0 0 [67, 68] [] (a_pure (sv := .one _) rfl) ?_; refine dp 1 1 [67, 68] [] puL ?_; refine dp 2 3 [67, 68] [] (callD1 (n := _) 0 (θ := []) (hD := (l31Symbols_ok _ preB58))) ?_; refine dp 3 0 [64, 65, 66] [] (a_pure (sv := .one _) rfl) ?_; refine dp 4 1 [64, 65, 66] [] puL ?_; refine dp 5 31 [] [] (callD1 (n := _) 0 (θ := []) (hD := (l31Symbols_ok _ preB58))) ?_; refine dp 6 63 [] [] (a_add rfl rfl (by omega) (by omega)) ?_; refine dp 7 127 [] [] pu1 ?_; (refine d_nil ?_; refine dN ?_))); any_goals kernel_rfl) | ((first | refine o_gs rfl rfl (fun hc => ?_) (fun hc => ?_) | refine g_cond rfl (fun hc => ?_) (fun hc => ?_)) <;> (try simp only [dcB] at hc) <;> (try first | contradiction | (exfalso; omega)))
          repeat refine cr ?_
          refine ends_id ?_
          refine endK [] (h2 := ?_) (h3 := ?_) (nd := ?_)
          all_goals (repeat' first | exact ce0 | refine ce ?_ | refine ce2 ?_ ?_ | exact SVLe.refl | refine ceb ?_)
          all_goals first | exact (show nodupB _ = true from rfl) | exact Or.inr rfl | (rfl)
        · have e1 : bs1 l stpF = b := by unfold bs1; rw [ho, ← j4, if_pos rfl, if_neg hb]
          have e2 : bs2 l stpF = s := by unfold bs2; rw [ho, ← j4, if_pos rfl, if_neg hb]
          have e3 : bs3 l stpF = 0 := by unfold bs3; rw [ho, ← j4, if_pos rfl, if_neg hb]
          rw [e1, e2, e3]
          repeat' first | (apply p3; (first | exact a_fa_immT 3 (T := 88) (f := 1) (off := 3) rfl (by kernel_rfl) rfl | exact pu1 | exact puL | exact puN | exact a_len_str rfl (fT rfl) | exact puC | exact a_add rfl rfl (by omega) (by omega) | exact puI); exact rfl) | refine cd ?_ | (apply g_drN (id := 8) okM [[],[],[0,1],[0,1,2],[0,1,2,3],[0,1,2,3,4],[0,1,2,3,4,5],[0,1,2,3,4,5,6],[0,1,2,3,4,5,6,7],[0,1,2,3,4,5,6,7],[0,1,2,3,4,5,6,7,8,9],[0,1,2,3,4,5,6,7,8,9,10],[0,1,2,3,4,5,6,7,8,9,10,11],[0,1,2,3,4,5,6,7],[0,1,2,3,4,5,6,7],[0,1,2,3,4,5,6,7,13,14],[0,1,2,3,4,5,6,7,13,14,15],[0,1,2,3,4,5,6,7,13,14,15,16],[0,1,2,3,4,5,6,7,8,9,10,11,12,13,14,15,16,17],[0,1,2,3,4,5,6,7,8,9,10,11,12,13,14,15,16,17,18],[0,1,2,3,4,5,6,7,8,9,10,11,12,13,14,15,16,17,18,19]] [([],[]),([],[]),([],[]),([],[]),([],[]),([],[]),([],[]),([],[]),([],[]),([],[]),([],[]),([],[]),([],[]),([],[]),([],[]),([],[]),([],[]),([],[]),([],[]),([],[]),([],[])] 0; (focus (all_goals refine dp 0 0 [24] [] pu1 ?_; all_goals refine dp 1 0 [23] [] pu1 ?_; all_goals refine dp 2 3 [] [] puI ?_; all_goals refine dp 3 7 [] [] (by first | exact a_fa_immT 3 (T := 88) (f := 1) (off := 3) rfl (by kernel_rfl) rfl | exact a_pure (sv := .one _) rfl) ?_; all_goals refine dp 4 15 [] [] (a_pure (sv := .one _) rfl) ?_; all_goals refine dp 5 31 [] [] puL ?_; all_goals refine dp 6 63 [] [] (by first | exact a_ne rfl rfl | exact a_neS rfl rfl rfl) ?_; all_goals (refine db 7 127 [] [] pu1 ?_ ?_ <;> (intro hc; first | cases hc | (try simp only [dcB] at hc); first | contradiction | (exfalso; omega) | skip)); all_goals (first | refine dn 8 255 [32, 36, 37, 38, 39, 40] [] ?_ | refine dpy 8 255 [32, 36, 37, 38, 39, 40] [] pu1 ?_); all_goals (first | refine dn 9 510 [31, 36, 37, 38, 39, 40] [] ?_ | refine dpy 9 510 [31, 36, 37, 38, 39, 40] [] pu1 ?_); all_goals (first | refine dn 10 1023 [36, 37, 38, 39, 40] [] ?_ | refine dpy 10 1023 [36, 37, 38, 39, 40] [] puI ?_); all_goals (first | refine dn 11 2047 [36, 37, 38, 39, 40] [] ?_ | refine dpy 11 2047 [36, 37, 38, 39, 40] [] (by first | exact a_fa_immT 3 (T := 88) (f := 0) (off := 0) rfl (by kernel_rfl) rfl | exact a_pure (sv := .one _) rfl) ?_); all_goals (first | refine dn 12 4095 [36, 37, 38, 39, 40] [] ?_ | refine dpy 12 4095 [36, 37, 38, 39, 40] [] puL ?_); all_goals (first | refine dn 13 8160 [31, 32, 33, 34, 35, 37] [] ?_ | refine dpy 13 8160 [31, 32, 33, 34, 35, 37] [] pu1 ?_); all_goals (first | refine dn 14 16320 [31, 32, 33, 34, 35, 36] [] ?_ | refine dpy 14 16320 [31, 32, 33, 34, 35, 36] [] pu1 ?_); all_goals (first | refine dn 15 32643 [31, 32, 33, 34, 35] [] ?_ | refine dpy 15 32643 [31, 32, 33, 34, 35] [] puI ?_); all_goals (first | refine dn 16 65287 [31, 32, 33, 34, 35] [] ?_ | refine dpy 16 65287 [31, 32, 33, 34, 35] [] (by first | exact a_fa_immT 3 (T := 88) (f := 1) (off := 3) rfl (by kernel_rfl) rfl | exact a_pure (sv := .one _) rfl) ?_); all_goals (first | refine dn 17 130575 [31, 32, 33, 34, 35] [] ?_ | refine dpy 17 130575 [31, 32, 33, 34, 35] [] puL ?_); all_goals (first | refine dn 18 262143 [] [] ?_ | refine dpy 18 262143 [] [] (callD1 (n := _) 0 (θ := []) (hD := (sCheckHalt_ok _ _ preB58 preB58 preB58 preB58))) ?_); all_goals (first | refine dn 19 524287 [] [] ?_ | refine dpy 19 524287 [] [] (a_pure (sv := .one _) rfl) ?_); all_goals refine dp 20 1048575 [] [] (a_pure (sv := .one _) rfl) ?_; all_goals (refine d_nil ?_; refine dN ?_))); any_goals kernel_rfl) | (apply g_drN (id := 12) okM [[],[0],[0,1],[],[3],[0,1,2,3,4],[0,1,2,3,4,5],[0,1,2,3,4,5,6]] [([],[]),([],[]),([],[]),([],[]),([],[]),([],[]),([],[]),([],[])] 0; (focus (refine dp 0 0 [67, 68] [] (a_pure (sv := .one _) rfl) ?_; refine dp 1 1 [67, 68] [] puL ?_; refine dp 2 3 [67, 68] [] (callD1 (n := _) 0 (θ := []) (hD := (l31Symbols_ok _ preB58))) ?_; refine dp 3 0 [64, 65, 66] [] (a_pure (sv := .one _) rfl) ?_; refine dp 4 1 [64, 65, 66] [] puL ?_; refine dp 5 31 [] [] (callD1 (n := _) 0 (θ := []) (hD := (l31Symbols_ok _ preB58))) ?_; refine dp 6 63 [] [] (a_add rfl rfl (by omega) (by omega)) ?_; refine dp 7 127 [] [] pu1 ?_; (refine d_nil ?_; refine dN ?_))); any_goals kernel_rfl) | ((first | refine o_gs rfl rfl (fun hc => ?_) (fun hc => ?_) | refine g_cond rfl (fun hc => ?_) (fun hc => ?_)) <;> (try simp only [dcB] at hc) <;> (try first | contradiction | (exfalso; omega)))
          repeat refine cr ?_
          refine ends_id ?_
          refine endK [] (h2 := ?_) (h3 := ?_) (nd := ?_)
          all_goals (repeat' first | exact ce0 | refine ce ?_ | refine ce2 ?_ ?_ | exact SVLe.refl | refine ceb ?_)
          all_goals first | exact (show nodupB _ = true from rfl) | exact Or.inr rfl | (rfl)
end Go.Proofs.YtbekdojhcokalaaGreatDoor
end
