/- Parts of the proof (18 of 19). -/
import Derived.Carry
import Derived.ChangeOld
import Derived.Deep.Fields
import Derived.Deep.Slices
import Derived.OpenShut
import Derived.ProofKit
import Derived.ShutString
import Derived.Test.YtbekdojhcokalaaGreatDoorQ17
section
set_option linter.unusedVariables false
set_option linter.unusedSimpArgs false
set_option maxRecDepth 100000
namespace Go.Proofs.YtbekdojhcokalaaGreatDoor
open Go Foot Go.ChangeShapes Go.WideShapes Go.ChangeAt Go.RowKit Go.Deep
/-- All cells that are there. -/
def allW (w : World) : Foot := fun b _ => b < w.heap.size
/-- What is read at a type is laid as1 the words say. -/
def Opens {α : Type} (P : Program) (t : TypeId) (z : Nat) (E : α → List D) (Q : α → Prop) : Prop :=
  (∀ a, (E a).length = z) ∧
  ∀ {H : Type} (enc : TypeId × Value → H) (w : World) (base : Nat) (held : Bool) (fuel : Nat) (cs : List Value) (x : DataW H × List MemPlace),
    DataW.trod enc P w base (fun _ => true) held fuel t cs = some x → ∃ a, Reps w (allW w) (E a) cs no ∧ Q a
def Ok64 (n : Int) : Prop := -9223372036854775808 ≤ n ∧ n < 9223372036854775808
theorem ok64_of_wf {n : Int} (h : (Lit.int .i64 n).wf = true) : Ok64 n := by
  have := h
  simp [Lit.wf, IntKind.min, IntKind.max, IntKind.signed, IntKind.bits] at this
  unfold Ok64
  omega
theorem reps_one {w : World} {S : Foot} {c : D} {v : Value} (h : Rep w S c v no) : Reps w S [c] [v] no :=
  ⟨v, [], no, no, rfl, le_refl _, le_refl _, no_dis _, h, rfl⟩
theorem opens_int {P : Program} {t : TypeId} (ht : P.underlying t = some (.int .i64)) : Opens P t 1 (fun n : Int => [.sc (.int .i64 n)]) Ok64 := by
  refine ⟨fun _ => rfl, fun enc w base held fuel cs x h => ?_⟩
  obtain ⟨n, rfl, _, hw⟩ := DataW.trod_int ht h
  exact ⟨n, reps_one ⟨rfl, rfl⟩, ok64_of_wf hw⟩
theorem addr_plain {w : World} {a : Addr} {i : Nat} {v : Value} (h : w.cell? (a.add i) = some v) (hi : i = 0) : a.spot = none := by
  subst hi
  simp only [Addr.add, if_true] at h
  unfold World.cell? at h
  split at h
  · split at h
    · cases h
    · rename_i hs; simpa using hs
  · cases h
theorem reps_rows {α : Type} {E : Enc α} {w : World} {S : Foot} : ∀ (l : List α) (vs : List (List Value)), l.length = vs.length → (∀ i (h : i < l.length) (h' : i < vs.length), Reps w S (E.enc l[i]) vs[i] no) → Reps w S (rows E l) vs.flatten no
  | [], [], _, _ => rfl
  | [], _ :: _, h, _ => by simp at h
  | _ :: _, [], h, _ => by simp at h
  | a :: l, v :: vs, h, hr => by
    show Reps w S (E.enc a ++ rows E l) (v ++ vs.flatten) no
    exact Reps.append (hr 0 (by simp) (by simp)) (reps_rows l vs (by simpa using h) fun i h1 h2 => hr (i + 1) (by simpa using h1) (by simpa using h2)) (no_dis _) (le_refl _) (le_refl _)
theorem flat_get {α : Type} {z : Nat} (hz : 0 < z) : ∀ (l : List (List α)), (∀ x ∈ l, x.length = z) → ∀ (i j : Nat), j < z → l.flatten[i * z + j]? = (l[i]?).bind (·[j]?)
  | [], _, i, j, _ => by simp
  | x :: l, h, 0, j, hj => by
    have := h x (by simp)
    simp only [List.flatten_cons, Nat.zero_mul, Nat.zero_add]
    rw [List.getElem?_append_left (by omega)]
    rfl
  | x :: l, h, i + 1, j, hj => by
    have hx := h x (by simp)
    simp only [List.flatten_cons]
    rw [List.getElem?_append_right (by rw [hx, Nat.add_mul]; omega), hx, show (i + 1) * z + j - z = i * z + j by rw [Nat.add_mul]; omega, flat_get hz l (fun y hy => h y (by simp [hy])) i j hj]
    simp
theorem opens_slice {α : Type} {P : Program} {t e : TypeId} {E : Enc α} {Q : α → Prop} (ht : P.underlying t = some (.slice e)) (hs : P.cellsOf e = E.z) (he : Opens P e E.z E.enc Q) :
    Opens P t 1 (fun l : List α => [.sl false E.z (rows E l)]) (fun l => l.length ≤ maxLen ∧ ∀ x ∈ l, Q x) := by
  refine ⟨fun _ => rfl, fun enc w base held fuel cs x h => ?_⟩
  rcases open_slice ht h with ⟨rfl, _⟩ | ⟨a, len, cap, m, n, DD, Pl, rfl, hb, hl, hm, hmm, hx, hi⟩
  · refine ⟨[], reps_one ?_, by simp [maxLen], by simp⟩
    simp only [Rep]
    exact ⟨none, 0, 0, rfl, by simp [rows], E.pos, Nat.le_refl _, .inl ⟨rfl, fun h => by cases h⟩⟩
  · have hlm : len ≤ m := by rw [hmm]; split <;> omega
    have key : ∀ i, i < len → ∃ y cs, Reps w (allW w) (E.enc y) cs no ∧ Q y ∧ cs.length = E.z ∧ ∀ j, j < E.z → w.cell? (a.add (i * E.z + j)) = cs[j]? := by
      intro i hil
      obtain ⟨cs', hc, htr⟩ := hi i (by omega)
      obtain ⟨_, hcl, hat⟩ := World.cells?_some hc
      obtain ⟨y, hy, hq⟩ := he.2 enc w base held n cs' _ htr
      refine ⟨y, cs', hy, hq, by rw [hcl, hs], fun j hj => ?_⟩
      rw [hs] at hat
      rw [← Go.Deep.add_add]
      exact hat j hj
    obtain ⟨L, hL, V, hV, hk⟩ : ∃ L : List α, L.length = len ∧ ∃ V : List (List Value), V.length = len ∧ ∀ i (h1 : i < L.length) (h2 : i < V.length), Reps w (allW w) (E.enc L[i]) V[i] no ∧ Q L[i] ∧ V[i].length = E.z ∧ ∀ j, j < E.z → w.cell? (a.add (i * E.z + j)) = V[i][j]? := by
      refine ⟨List.ofFn fun i : Fin len => (key i.1 i.2).choose, by simp, List.ofFn fun i : Fin len => (key i.1 i.2).choose_spec.choose, by simp, fun i h1 h2 => ?_⟩
      simp only [List.getElem_ofFn]
      simp only [List.length_ofFn] at h1
      exact (key i h1).choose_spec.choose_spec
    have hrep := reps_rows (E := E) (w := w) (S := allW w) L V (by omega) fun i h1 h2 => (hk i h1 h2).1
    have hQ : ∀ x ∈ L, Q x := by
      intro x hx
      obtain ⟨i, h1, rfl⟩ := List.mem_iff_getElem.1 hx
      exact (hk i h1 (by omega)).2.1
    refine ⟨L, reps_one ?_, by rw [hL]; exact Nat.le_trans hl hm, hQ⟩
    simp only [Rep, Bool.false_eq_true, if_false]
    refine ⟨some a, len, cap, rfl, by rw [rows_len, hL], E.pos, hl, ?_⟩
    by_cases hc0 : cap = 0
    · exact .inl ⟨hc0, fun h => by cases h⟩
    have hpos := E.pos
    have hsp : a.spot = none := by
      obtain ⟨cs', hc, _⟩ := hi 0 (by rw [hmm]; simp only [if_true]; omega)
      obtain ⟨_, hcl, hat⟩ := World.cells?_some hc
      have h1 := hat 0 (by omega)
      rw [List.getElem?_eq_getElem (by omega)] at h1
      simp only [Nat.zero_mul, Addr.add, if_true] at h1
      exact addr_plain (w := w) (a := a) (i := 0) (by simpa [Addr.add] using h1) rfl
    obtain ⟨b, off, sp⟩ := a
    simp only at hsp
    subst hsp
    have hadd : ∀ k, (Addr.mk b off none).add k = ⟨b, off + k, none⟩ := by intro k; unfold Addr.add; split <;> simp_all
    by_cases h0 : len = 0
    · refine .inr ⟨b, off, [], no, rfl, fun i v hv => by simp at hv, ?_, ?_, rfl⟩
      · have : L = [] := List.eq_nil_of_length_eq_zero (by omega)
        subst this
        rfl
      · rintro b' o' ⟨_, e1, e2⟩
        rw [rows_len, hL, h0] at e2
        omega
    · refine .inr ?_
      have hVl : ∀ x ∈ V, x.length = E.z := by
        intro x hx
        obtain ⟨i, h1, rfl⟩ := List.mem_iff_getElem.1 hx
        exact (hk i (by omega) h1).2.2.1
      refine ⟨b, off, V.flatten, no, rfl, fun i v hv => ?_, hrep, fun b' o' ⟨e1, e2, e3⟩ => ?_, rfl⟩
      · have hz : i = i / E.z * E.z + i % E.z := by rw [Nat.mul_comm]; exact (Nat.div_add_mod i E.z).symm
        have hj : i % E.z < E.z := Nat.mod_lt _ hpos
        rw [hz, flat_get hpos V hVl _ _ hj] at hv
        obtain ⟨x, h1, h2⟩ := Option.bind_eq_some_iff.1 hv
        obtain ⟨h3, rfl⟩ := List.getElem?_eq_some_iff.1 h1
        have := (hk (i / E.z) (by omega) h3).2.2.2 (i % E.z) hj
        rw [hadd, ← hz, h2] at this
        exact this
      · have h1 := (hk 0 (by omega) (by omega)).2.2.2 0 hpos
        have h2 := (hk 0 (by omega) (by omega)).2.2.1
        rw [List.getElem?_eq_getElem (by omega)] at h1
        have := World.block_lt_of_cell? w _ h1
        rw [hadd] at this
        show b' < _
        rw [e1]
        exact this
/-- Fields one behind the other, from the cell `o` on. -/
def OpensL {α : Type} (P : Program) (fs : List Field) (o z : Nat) (E : α → List D) (Q : α → Prop) : Prop :=
  (∀ a, (E a).length = z) ∧
  ∀ {H : Type} (enc : TypeId × Value → H) (w : World) (base : Nat) (held : Bool) (n : Nat) (cs : List Value),
    (∀ (i : Nat) (f : Field), fs[i]? = some f → ∃ y, DataW.trod enc P w base (fun _ => true) held n f.type ((cs.drop f.offset).take (P.cellsOf f.type)) = some y) → cs.length = o + z → ∃ a, Reps w (allW w) (E a) (cs.drop o) no ∧ Q a
theorem opensL_one {α : Type} {P : Program} {f : Field} {o z : Nat} {E : α → List D} {Q : α → Prop} (ho : f.offset = o) (hs : P.cellsOf f.type = z) (h : Opens P f.type z E Q) : OpensL P [f] o z E Q := by
  refine ⟨h.1, fun enc w base held n cs hf hl => ?_⟩
  obtain ⟨y, hy⟩ := hf 0 f rfl
  obtain ⟨a, ha, hq⟩ := h.2 enc w base held n _ _ hy
  rw [ho, hs, List.take_of_length_le (by simp; omega)] at ha
  exact ⟨a, ha, hq⟩
theorem opensL_cons {α β : Type} {P : Program} {f : Field} {fs : List Field} {o z z' : Nat} {E : α → List D} {Q : α → Prop} {E' : β → List D} {Q' : β → Prop} (ho : f.offset = o) (hs : P.cellsOf f.type = z) (h : Opens P f.type z E Q) (hr : OpensL P fs (o + z) z' E' Q') :
    OpensL P (f :: fs) o (z + z') (fun x : α × β => E x.1 ++ E' x.2) (fun x => Q x.1 ∧ Q' x.2) := by
  refine ⟨fun x => by rw [List.length_append, h.1, hr.1], fun enc w base held n cs hf hl => ?_⟩
  obtain ⟨y, hy⟩ := hf 0 f rfl
  obtain ⟨a, ha, hq⟩ := h.2 enc w base held n _ _ hy
  obtain ⟨b, hb, hq'⟩ := hr.2 enc w base held n cs (fun i g hg => hf (i + 1) g (by simpa using hg)) (by rw [hl]; omega)
  rw [ho, hs] at ha
  refine ⟨(a, b), ?_, hq, hq'⟩
  have := Reps.append ha hb (no_dis _) (le_refl _) (le_refl _)
  rwa [← List.drop_drop, List.take_append_drop] at this
theorem opens_struct {α : Type} {P : Program} {t : TypeId} {fs : Array Field} {z : Nat} {E : α → List D} {Q : α → Prop} (ht : P.underlying t = some (.struct fs)) (hs : P.cellsOf t = z) (h : OpensL P fs.toList 0 z E Q) : Opens P t z E Q := by
  refine ⟨h.1, fun enc w base held fuel cs x hx => ?_⟩
  obtain ⟨xs, n, _, _, hlen, hxl, hf⟩ := DataW.trod_struct ht hx
  have := h.2 enc w base held n cs (fun i f hfi => by
    have hfi' : fs[i]? = some f := by simpa using hfi
    rw [hf i f hfi']
    have hi : i < xs.length := by rw [hxl]; exact (Array.getElem?_eq_some_iff.1 hfi').1
    exact ⟨_, List.getElem?_eq_getElem hi⟩) (by rw [hlen, hs]; omega)
  simpa using this
theorem Opens.via {α β : Type} {P : Program} {t : TypeId} {z : Nat} {E : β → List D} {Q : β → Prop} {E' : α → List D} {Q' : α → Prop} (h : Opens P t z E Q) (g : β → α) (hg : ∀ y, E' (g y) = E y) (hl : ∀ a, (E' a).length = z) (hq : ∀ y, Q y → Q' (g y)) : Opens P t z E' Q' := by
  refine ⟨hl, fun enc w base held fuel cs x hx => ?_⟩
  obtain ⟨a, ha, h2⟩ := h.2 enc w base held fuel cs x hx
  exact ⟨g a, by rw [hg]; exact ha, hq _ h2⟩
section
variable {H : Type} {enc : TypeId × Value → H} {P : Program} {w : World} {base : Nat} {held : Bool} {t : TypeId} {v : Value} {d : DataW H} {p : List MemPlace} {ρ : Env}
theorem arg_one {α : Type} {E : α → D} {Q : α → Prop} (hv : v.cells = #[v]) (h : DataW.Trod enc P w base (fun _ => true) held t v d p) (ho : Opens P t 1 (fun a => [E a]) Q) :
    ∃ a, RepS w (allW w) ρ (.one (.d (E a))) v ∧ Q a := by
  obtain ⟨fuel, hf⟩ := h
  obtain ⟨a, ha, hq⟩ := ho.2 enc w base held fuel _ _ hf
  rw [hv] at ha
  simp only [Reps] at ha
  obtain ⟨v', us, F1, F2, e, _, _, _, h1, rfl⟩ := ha
  cases e
  exact ⟨a, h1.mono (by assumption), hq⟩
end
theorem does_calls {P : Program} {f : Nat} {args : List SV} {vs : Array Value} {w : World} (hd : Does P f args [] (.one (boo true)) []) (ht : Tabs w (allW w)) (ha : RepA w (allW w) (fun _ => none) args vs.toList) :
    Calls P f vs w fun e w' => e = .returned (.bool true) ∧ Below w.heap.size w w' := by
  have := hd vs.toList w (allW w) (fun _ => none) (fun _ => no) ha ⟨fun i gb h => by simp at h, fun _ _ => rfl, fun i j h => by simp at h, fun i h => by simp at h, fun i h => by simp at h, fun b o h => h, ht⟩
  rw [show vs.toList.toArray = vs from rfl] at this
  refine this.mono fun e w' hx => ?_
  obtain ⟨v, S1, ρ', F', he, hr, hv⟩ := hx
  obtain ⟨rfl, _⟩ := hv
  refine ⟨he, hr.keeps.os, hr.keeps.tape, hr.keeps.output, hr.keeps.size, fun k hk => hr.keeps.block k hk fun o ⟨i, hi, _⟩ => by simp at hi⟩
end Go.Proofs.YtbekdojhcokalaaGreatDoor
end
section
set_option linter.unusedVariables false
set_option linter.unusedSimpArgs false
set_option maxRecDepth 100000
namespace Go.Proofs.YtbekdojhcokalaaGreatDoor
open Go Foot Go.ChangeShapes Go.WideShapes Go.ChangeAt Go.RowKit Go.Deep
theorem own : ownKnob Tryz.prog.godebug = none := by kernel_rfl
theorem laidOut : laidOutB Tryz.prog = true := by kernel_rfl
theorem opens_i : Opens Tryz.prog 2 1 (fun n : Int => [.sc (.int .i64 n)]) Ok64 := opens_int Tryz.underlying2
theorem opens_I : Opens Tryz.prog 24 1 (fun l : List Int => [.sl false 1 (rows eI l)]) (fun l => l.length ≤ maxLen ∧ ∀ x ∈ l, Ok64 x) := opens_slice (E := eI) Tryz.underlying24 (by kernel_rfl) opens_i
theorem szL_ge {n : Nat} {l : Int} (hl : l ≤ 1048576) (h : ¬ szL n l < 0) : (n : Int) ≤ l := by
  unfold szL at h; split at h <;> omega
end Go.Proofs.YtbekdojhcokalaaGreatDoor
end
section
set_option linter.unusedVariables false
set_option linter.unusedSimpArgs false
set_option maxRecDepth 100000
namespace Go.Proofs.YtbekdojhcokalaaGreatDoor
open Go Foot Go.ChangeShapes Go.WideShapes Go.ChangeAt Go.RowKit Go.Deep
theorem opens_W : Opens Tryz.prog 43 1 (fun l : List (List Int) => [.sl false 1 (rows eW l)]) (fun l => l.length ≤ maxLen ∧ ∀ x ∈ l, x.length ≤ maxLen ∧ ∀ y ∈ x, Ok64 y) := opens_slice (E := eW) Tryz.underlying43 (by kernel_rfl) opens_I
abbrev PrfOk (p : Prf) : Prop := Ok64 p.k ∧ (p.nu.length ≤ maxLen ∧ ∀ x ∈ p.nu, Ok64 x) ∧ p.wo.length ≤ maxLen ∧ ∀ x ∈ p.wo, x.length ≤ maxLen ∧ ∀ y ∈ x, Ok64 y
theorem opens_proof : Opens Tryz.prog 45 3 (fun p : Prf => [.sc (.int .i64 p.k), .sl false 1 (rows eI p.nu), .sl false 1 (rows eW p.wo)]) PrfOk := by
  have h := opens_struct (P := Tryz.prog) (z := 3) Tryz.underlying45 (by kernel_rfl) (opensL_cons (z := 1) (z' := 2) (o := 0) rfl (by kernel_rfl) opens_i (opensL_cons (z := 1) (z' := 1) (o := 1) rfl (by kernel_rfl) opens_I (opensL_one (z := 1) (o := 2) rfl (by kernel_rfl) opens_W)))
  exact h.via (fun y => ⟨y.1, y.2.1, y.2.2⟩) (fun _ => rfl) (fun _ => rfl) (fun _ h => h)
theorem szW_ge : ∀ {xs : List (List Int)} {l : Int}, 0 ≤ l → l ≤ 1048576 → ¬ szW xs l < 0 → ∀ x ∈ xs, (x.length : Int) ≤ l
  | [], l, _, _, _, x, hx => by cases hx
  | y :: xs, l, h0, hl, h, x, hx => by
    unfold szW at h
    split at h
    · omega
    · rename_i h1
      have h2 := szL_ge hl h1
      have h3 := szL_le (n := y.length) hl
      rcases List.mem_cons.1 hx with rfl | hx
      · exact h2
      · have h5 := szW_ge (by omega) h3 h x hx
        unfold szL at h5 h1
        split at h5 <;> simp_all <;> omega
theorem szWW_ge {xs : List (List Int)} {l : Int} (h0 : 0 ≤ l) (hl : l ≤ 1048576) (h : ¬ szWW xs l < 0) : (xs.length : Int) ≤ l ∧ ∀ x ∈ xs, (x.length : Int) ≤ l := by
  unfold szWW at h
  split at h
  · omega
  · rename_i h1
    refine ⟨by omega, fun x hx => ?_⟩
    have := szW_ge (by omega) (by omega) h x hx
    omega
theorem szP_ge {p : Prf} {l : Int} (h0 : 0 ≤ l) (hl : l ≤ 1048576) (h : ¬ szP p l < 0) : (p.nu.length : Int) ≤ l ∧ (p.wo.length : Int) ≤ l ∧ ∀ x ∈ p.wo, (x.length : Int) ≤ l := by
  unfold szP at h
  split at h
  · omega
  · rename_i h1
    have h2 := szL_ge hl h1
    have h3 : szL p.nu.length l ≤ l := by unfold szL; split <;> omega
    have h4 := szWW_ge (by omega) (by omega) h
    exact ⟨h2, by omega, fun x hx => by have := h4.2 x hx; omega⟩
end Go.Proofs.YtbekdojhcokalaaGreatDoor
end
section
set_option linter.unusedVariables false
set_option linter.unusedSimpArgs false
set_option maxRecDepth 100000
namespace Go.Proofs.YtbekdojhcokalaaGreatDoor
open Go Foot Go.ChangeShapes Go.WideShapes Go.ChangeAt Go.RowKit Go.Deep
abbrev RuleOk (r : Rule') : Prop := Ok64 r.w ∧ Ok64 r.m ∧ Ok64 r.n
theorem opens_rule : Opens Tryz.prog 198 3 eR.enc RuleOk := by
  have h := opens_struct (P := Tryz.prog) (z := 3) Tryz.underlying198 (by kernel_rfl) (opensL_cons (z := 1) (z' := 2) (o := 0) rfl (by kernel_rfl) opens_i (opensL_cons (z := 1) (z' := 1) (o := 1) rfl (by kernel_rfl) opens_i (opensL_one (z := 1) (o := 2) rfl (by kernel_rfl) opens_i)))
  exact h.via (fun y => ⟨y.1, y.2.1, y.2.2⟩) (fun _ => rfl) (fun _ => rfl) (fun _ h => h)
theorem opens_rules : Opens Tryz.prog 40 1 (fun l : List Rule' => [.sl false 3 (rows eR l)]) (fun l => l.length ≤ maxLen ∧ ∀ x ∈ l, RuleOk x) := opens_slice (E := eR) Tryz.underlying40 (by kernel_rfl) opens_rule
abbrev MachOk (m : Mach) : Prop := Ok64 m.sy ∧ Ok64 m.st ∧ m.ru.length ≤ maxLen ∧ ∀ x ∈ m.ru, RuleOk x
theorem opens_machine : Opens Tryz.prog 42 3 (fun m : Mach => [.sc (.int .i64 m.sy), .sc (.int .i64 m.st), .sl false 3 (rows eR m.ru)]) MachOk := by
  have h := opens_struct (P := Tryz.prog) (z := 3) Tryz.underlying42 (by kernel_rfl) (opensL_cons (z := 1) (z' := 2) (o := 0) rfl (by kernel_rfl) opens_i (opensL_cons (z := 1) (z' := 1) (o := 1) rfl (by kernel_rfl) opens_i (opensL_one (z := 1) (o := 2) rfl (by kernel_rfl) opens_rules)))
  exact h.via (fun y => ⟨y.1, y.2.1, y.2.2⟩) (fun _ => rfl) (fun _ => rfl) (fun _ h => h)
end Go.Proofs.YtbekdojhcokalaaGreatDoor
end
section
set_option linter.unusedVariables false
set_option linter.unusedSimpArgs false
set_option maxRecDepth 100000
namespace Go.Proofs.YtbekdojhcokalaaGreatDoor
open Go Foot Go.ChangeShapes Go.WideShapes Go.ChangeAt Go.RowKit Go.Deep
abbrev VerdOk (v : Verd) : Prop := MachOk v.m ∧ PrfOk v.p
theorem opens_verdict : Opens Tryz.prog 85 6 eV.enc VerdOk := by
  have h := opens_struct (P := Tryz.prog) (z := 6) Tryz.underlying85 (by kernel_rfl) (opensL_cons (z := 3) (z' := 3) (o := 0) rfl (by kernel_rfl) opens_machine (opensL_one (z := 3) (o := 3) rfl (by kernel_rfl) opens_proof))
  exact h.via (fun y => ⟨y.1, y.2⟩) (fun _ => rfl) (fun _ => rfl) (fun _ h => h)
theorem opens_verdicts : Opens Tryz.prog 22 1 (fun l : List Verd => [.sl false 6 (rows eV l)]) (fun l => l.length ≤ maxLen ∧ ∀ x ∈ l, VerdOk x) := opens_slice (E := eV) Tryz.underlying22 (by kernel_rfl) opens_verdict
end Go.Proofs.YtbekdojhcokalaaGreatDoor
end
section
set_option linter.unusedVariables false
set_option linter.unusedSimpArgs false
set_option maxRecDepth 100000
set_option maxHeartbeats 4000000
namespace Go.Proofs.YtbekdojhcokalaaGreatDoor
open Go Foot
/-- Verdicts whose slices have lengths. -/
structure LenOk (v : Verd) : Prop where
  a : (v.m.ru.length : Int) ≤ 9223372036854775807
  b : (v.p.nu.length : Int) ≤ 9223372036854775807
  c : (v.p.wo.length : Int) ≤ 9223372036854775807
  d : ∀ x ∈ v.p.wo, (x.length : Int) ≤ 9223372036854775807
theorem verd_len {v : Verd} (h : VerdOk v) : LenOk v := by
  obtain ⟨⟨_, _, h1, _⟩, _, ⟨h2, _⟩, h3, h4⟩ := h
  exact ⟨by unfold maxLen at h1; omega, by unfold maxLen at h2; omega, by unfold maxLen at h3; omega, fun x hx => by have := (h4 x hx).1; unfold maxLen at this; omega⟩
@[irreducible] def szV (v : Verd) (left : Int) : Int := if szL v.m.ru.length left < 0 then -1 else szP v.p (szL v.m.ru.length left)
theorem szP_neg {p : Prf} {l : Int} (h : szP p l < 0) : szP p l = -1 := by
  unfold szP at h ⊢
  split at h
  · rename_i e; rw [if_pos e]
  · rename_i e; rw [if_neg e]; exact szWW_neg h
theorem preD5 {p : Prop} (h : p := by first | with_reducible assumption | omega | (simp only [List.length_append, List.length_cons, List.length_nil, List.length_set, List.length_replicate, List.length_take, List.length_drop, List.length_tail, List.length_dropLast, List.length_reverse] at *; omega) | exact mem_len (by assumption) (by omega) | (with_reducible refine Int.le_trans (Int.ofNat_le.2 (trimR_len _)) ?_; simp only [List.length_cons, List.length_tail]; omega) | (exact (ruAt_ok (by assumption) (by assumption) (by assumption)).2.1) | (exact (ruAt_ok (by assumption) (by assumption) (by assumption)).2.1) | (have := vMach_bd (by assumption); omega) | (simp only [mC_ch, mC_tu]; omega) | (have := vTag_bd (by assumption); omega) | (have := (‹Gd _ _›).le; omega) | (exact tgHalts_no (by assumption)) | (exact tgHead (by assumption) (by assumption) (by assumption)) | (exact Int.le_trans (tgStep_gd (by assumption) (by assumption) (by assumption) (by assumption)).le (by decide)) | (exact vTag_r (by assumption)) | (with_reducible refine Int.le_trans (Int.ofNat_le.2 (pushL_len _ _)) ?_; simp only [List.length_dropLast]; omega) | exact ls_at (by assumption) (by omega) | exact (ask_ok (by assumption)).1 | exact (ask_ok (by assumption)).2.1 | exact (ask_ok (by assumption)).2.2.1 | exact (ask_ok (by assumption)).2.2.2 | (simp only [marks_len]; omega) | (simp only [marksR_len]; omega) | trivial) : p := h
theorem szVerdict_ok (v : Verd) (left : Int) (h1 : left ≤ 1048576) (h2 : 0 ≤ left) (g : LenOk v) : Does Tryz.prog 52 [.agg (veC v), .one (int left)] [] (.one (int (szV v left))) [] := by
  obtain ⟨g1, g2, g3, g4⟩ := g
  have h3 := szL_le (n := v.m.ru.length) h1
  refine does_of (k := 0) Tryz.func52 rfl Tryz.ntmps52 rfl rfl fun w F0 S0 ρ0 => ?_
  dsimp only [argT, argH]
  repeat' first
    | refine g_seq ?_
    | refine g_skip ?_
    | refine g_exit ?_
    | refine g_block ?_
    | refine g_reg ?_
    | refine g_if_t rfl ?_
    | refine g_if_f rfl ?_
    | refine o_nil ?_
    | refine q_s ?_
    | refine q_se ?_
    | refine q_b ?_
    | refine q_be rfl ?_
    | refine q_bn rfl ?_
    | refine q_le ?_
    | refine q_ce ?_
    | (apply n3; exact a_new (gb := .bx _) rfl; exact rfl; (try dsimp only [List.map_cons, List.map_nil, scC, Nat.reduceAdd]))
    | (apply p3; (first | exact pu1 | exact puL | exact puC); exact rfl)
    | (apply c4 0; exact callK1 (θ := []) (hD := (szMachine_ok _ _ preD5 preD5 preD5)); exact rfl; exact rfl; exact rfl; (try dsimp only [SV.ren, C.ren, C.ren.all, tRen, GB.ren, calF, upOf, List.cons_append, List.nil_append, Nat.reduceAdd]))
    | (apply c4 0; exact callK1 (θ := []) (hD := (szProof_ok _ _ preD5 preD5 preD5 preD5 preD5)); exact rfl; exact rfl; exact rfl; (try dsimp only [SV.ren, C.ren, C.ren.all, tRen, GB.ren, calF, upOf, List.cons_append, List.nil_append, Nat.reduceAdd]))
    | (refine o_gs rfl rfl (fun hc => ?_) (fun hc => ?_) <;> (try simp only [decide_eq_true_eq, decide_eq_false_iff_not, Bool.not_eq_true', Bool.not_eq_false', Bool.not_eq_true, Bool.not_eq_false, Bool.and_eq_true, Bool.or_eq_false_iff, Bool.not_not] at hc) <;> (try (first | contradiction | (exfalso; omega))))
    | (refine g_cond rfl (fun hc => ?_) (fun hc => ?_) <;> (try simp only [decide_eq_true_eq, decide_eq_false_iff_not, Bool.not_eq_true', Bool.not_eq_false', Bool.not_eq_true, Bool.not_eq_false, Bool.and_eq_true, Bool.or_eq_false_iff, Bool.not_not] at hc) <;> (try (first | contradiction | (exfalso; omega))))
  · repeat (first | refine g_ret ?_ | refine q_sr ?_ | refine q_br ?_ | refine q_lr ?_ | refine q_cr ?_)
    refine ends_id ?_
    refine endK [] (h2 := ?_) (h3 := ?_) (nd := ?_)
    all_goals (repeat' first | with_reducible exact SVLe.refl | exact SVLe.any | exact SVLe.one (.sh rfl) | exact SVLe.one (.nil (by decide)) | refine SVLe.agg ?_ | refine SVLe.tup ?_ | exact TLe.nil | refine TLe.cons ?_ ?_ | exact CsLe.nil | refine CsLe.cons ?_ ?_ | exact CLe.refl | exact CLe.sh rfl | exact CLe.nil (by decide) | refine cle_i ?_ | refine cle_b ?_ | exact trivial | refine And.intro ?_ ?_ | exact Or.inl rfl | exact Or.inr rfl | refine Or.inr (row_eq ?_) | (refine Or.inr (bx_eq rfl rfl ?_); (try dsimp only [C.ren, C.ren.all]); (try exact rfl)) | exact SVLe.refl | refine sle_i ?_ | refine sle_b ?_)
    all_goals first | exact (show nodupB _ = true from rfl) | exact Or.inr rfl | ((unfold szV; simp [*]))
  · repeat (first | refine g_ret ?_ | refine q_sr ?_ | refine q_br ?_ | refine q_lr ?_ | refine q_cr ?_)
    refine ends_id ?_
    refine endK [] (h2 := ?_) (h3 := ?_) (nd := ?_)
    all_goals (repeat' first | with_reducible exact SVLe.refl | exact SVLe.any | exact SVLe.one (.sh rfl) | exact SVLe.one (.nil (by decide)) | refine SVLe.agg ?_ | refine SVLe.tup ?_ | exact TLe.nil | refine TLe.cons ?_ ?_ | exact CsLe.nil | refine CsLe.cons ?_ ?_ | exact CLe.refl | exact CLe.sh rfl | exact CLe.nil (by decide) | refine cle_i ?_ | refine cle_b ?_ | exact trivial | refine And.intro ?_ ?_ | exact Or.inl rfl | exact Or.inr rfl | refine Or.inr (row_eq ?_) | (refine Or.inr (bx_eq rfl rfl ?_); (try dsimp only [C.ren, C.ren.all]); (try exact rfl)) | exact SVLe.refl | refine sle_i ?_ | refine sle_b ?_)
    all_goals first | exact (show nodupB _ = true from rfl) | exact Or.inr rfl | ((rw [szV, if_neg (by assumption)]; exact (szP_neg (by assumption)).symm))
  · repeat (first | refine g_ret ?_ | refine q_sr ?_ | refine q_br ?_ | refine q_lr ?_ | refine q_cr ?_)
    refine ends_id ?_
    refine endK [] (h2 := ?_) (h3 := ?_) (nd := ?_)
    all_goals (repeat' first | with_reducible exact SVLe.refl | exact SVLe.any | exact SVLe.one (.sh rfl) | exact SVLe.one (.nil (by decide)) | refine SVLe.agg ?_ | refine SVLe.tup ?_ | exact TLe.nil | refine TLe.cons ?_ ?_ | exact CsLe.nil | refine CsLe.cons ?_ ?_ | exact CLe.refl | exact CLe.sh rfl | exact CLe.nil (by decide) | refine cle_i ?_ | refine cle_b ?_ | exact trivial | refine And.intro ?_ ?_ | exact Or.inl rfl | exact Or.inr rfl | refine Or.inr (row_eq ?_) | (refine Or.inr (bx_eq rfl rfl ?_); (try dsimp only [C.ren, C.ren.all]); (try exact rfl)) | exact SVLe.refl | refine sle_i ?_ | refine sle_b ?_)
    all_goals first | exact (show nodupB _ = true from rfl) | exact Or.inr rfl | ((unfold szV; simp [*]))
theorem szV_ge {v : Verd} {l : Int} (h0 : 0 ≤ l) (hl : l ≤ 1048576) (h : ¬ szV v l < 0) : (v.m.ru.length : Int) ≤ 1048576 ∧ (v.p.nu.length : Int) ≤ 1048576 ∧ (v.p.wo.length : Int) ≤ 1048576 ∧ ∀ x ∈ v.p.wo, (x.length : Int) ≤ 1048576 := by
  unfold szV at h
  split at h
  · omega
  · rename_i h1
    have h2 := szL_ge hl h1
    have h3 := szL_le (n := v.m.ru.length) hl
    have h4 := szP_ge (by omega) h3 h
    exact ⟨by omega, by omega, by omega, fun x hx => by have := h4.2.2 x hx; omega⟩
/-- Verdicts that are small enough. -/
structure BigOk (v : Verd) : Prop where
  a : (v.m.ru.length : Int) ≤ 1048576
  b : (v.p.nu.length : Int) ≤ 1048576
  c : (v.p.wo.length : Int) ≤ 1048576
  d : ∀ x ∈ v.p.wo, (x.length : Int) ≤ 1048576
theorem big_gd {v : Verd} (g : BigOk v) : VeGd v := ⟨by have := g.a; omega, by have := g.b; omega, by have := g.c; omega, fun x hx => by have := g.d x hx; omega⟩
theorem toVerdict_ok (v : Verd) (g : BigOk v) : Does Tryz.prog 54 [.agg (veC v)] [] (.agg (veC v)) [] := by
  obtain ⟨g1, g2, g3, g4⟩ := g
  refine does_of (k := 0) Tryz.func54 rfl Tryz.ntmps54 rfl rfl fun w F0 S0 ρ0 => ?_
  dsimp only [argT, argH]
  repeat' first
    | refine g_seq ?_
    | refine g_skip ?_
    | refine g_exit ?_
    | refine g_block ?_
    | refine g_reg ?_
    | refine g_if_t rfl ?_
    | refine g_if_f rfl ?_
    | refine o_nil ?_
    | refine q_s ?_
    | refine q_se ?_
    | refine q_b ?_
    | refine q_be rfl ?_
    | refine q_bn rfl ?_
    | refine q_le ?_
    | refine q_ce ?_
    | (apply n3; exact a_new (gb := .bx _) rfl; exact rfl; (try dsimp only [List.map_cons, List.map_nil, scC, Nat.reduceAdd]))
    | (apply p3; (first | exact a_fa_immT 3 (T := 88) (f := 0) (off := 0) rfl (by kernel_rfl) rfl | exact a_fa_immT 3 (T := 88) (f := 1) (off := 3) rfl (by kernel_rfl) rfl | exact puL); exact rfl)
    | (apply w3; (first | exact a_st_bx rfl rfl rfl rfl (fN rfl rfl) (Nat.le_of_ble_eq_true rfl) rfl | exact a_stE (E := eV) ⟨⟨_, _, _⟩, ⟨_, _, _⟩⟩ rfl rfl rfl rfl (fN rfl rfl) bnd (by exact rfl)); exact rfl; (try dsimp only [setRow, List.map_cons, List.map_nil, scC, List.set_cons_zero, List.set_cons_succ, List.take_succ_cons, List.take_zero, List.drop_succ_cons, List.drop_zero, Nat.reduceAdd]))
    | (apply c4 0; exact callF (hD := (toMachine_ok _ preD5)); exact rfl; exact rfl; exact rfl; (try dsimp only [SV.ren, C.ren, C.ren.all, tRen, GB.ren, calF, upOf, List.cons_append, List.nil_append, Nat.reduceAdd]))
    | (apply c4 0; exact callK0 (θ := []) (hD := (toProof_ok _ preD5 preD5 preD5)); exact rfl; exact rfl; exact rfl; (try dsimp only [SV.ren, C.ren, C.ren.all, tRen, GB.ren, calF, upOf, List.cons_append, List.nil_append, Nat.reduceAdd]))
    | (refine o_gs rfl rfl (fun hc => ?_) (fun hc => ?_) <;> (try simp only [decide_eq_true_eq, decide_eq_false_iff_not, Bool.not_eq_true', Bool.not_eq_false', Bool.not_eq_true, Bool.not_eq_false, Bool.and_eq_true, Bool.or_eq_false_iff, Bool.not_not] at hc) <;> (try (first | contradiction | (exfalso; omega))))
    | (refine g_cond rfl (fun hc => ?_) (fun hc => ?_) <;> (try simp only [decide_eq_true_eq, decide_eq_false_iff_not, Bool.not_eq_true', Bool.not_eq_false', Bool.not_eq_true, Bool.not_eq_false, Bool.and_eq_true, Bool.or_eq_false_iff, Bool.not_not] at hc) <;> (try (first | contradiction | (exfalso; omega))))
  repeat (first | refine g_ret ?_ | refine q_sr ?_ | refine q_br ?_ | refine q_lr ?_ | refine q_cr ?_)
  refine ends_id ?_
  refine endK [] (h2 := ?_) (h3 := ?_) (nd := ?_)
  all_goals (repeat' first | with_reducible exact SVLe.refl | exact SVLe.any | exact SVLe.one (.sh rfl) | exact SVLe.one (.nil (by decide)) | refine SVLe.agg ?_ | refine SVLe.tup ?_ | exact TLe.nil | refine TLe.cons ?_ ?_ | exact CsLe.nil | refine CsLe.cons ?_ ?_ | exact CLe.refl | exact CLe.sh rfl | exact CLe.nil (by decide) | refine cle_i ?_ | refine cle_b ?_ | exact trivial | refine And.intro ?_ ?_ | exact Or.inl rfl | exact Or.inr rfl | refine Or.inr (row_eq ?_) | (refine Or.inr (bx_eq rfl rfl ?_); (try dsimp only [C.ren, C.ren.all]); (try exact rfl)) | exact SVLe.refl | refine sle_i ?_ | refine sle_b ?_)
  all_goals first | exact (show nodupB _ = true from rfl) | exact Or.inr rfl | (rfl)
@[irreducible] def eqV (a b : Verd) : Bool := eqM a.m b.m && eqP a.p b.p
theorem eqVerdict_ok (a b : Verd) (g : BigOk a) (k : BigOk b) : Does Tryz.prog 56 [.agg (veC a), .agg (veC b)] [] (.one (boo (eqV a b))) [] := by
  obtain ⟨g1, g2, g3, g4⟩ := g
  obtain ⟨k1, k2, k3, k4⟩ := k
  refine does_of (k := 0) Tryz.func56 rfl Tryz.ntmps56 rfl rfl fun w F0 S0 ρ0 => ?_
  dsimp only [argT, argH]
  repeat' first
    | refine g_seq ?_
    | refine g_skip ?_
    | refine g_exit ?_
    | refine g_block ?_
    | refine g_reg ?_
    | refine g_if_t rfl ?_
    | refine g_if_f rfl ?_
    | refine o_nil ?_
    | refine q_s ?_
    | refine q_se ?_
    | refine q_b ?_
    | refine q_be rfl ?_
    | refine q_bn rfl ?_
    | refine q_le ?_
    | refine q_ce ?_
    | (apply n3; exact a_new (gb := .bx _) rfl; exact rfl; (try dsimp only [List.map_cons, List.map_nil, scC, Nat.reduceAdd]))
    | (apply p3; (first | exact a_fa_immT 3 (T := 88) (f := 0) (off := 0) rfl (by kernel_rfl) rfl | exact a_fa_immT 3 (T := 88) (f := 1) (off := 3) rfl (by kernel_rfl) rfl | exact puL); exact rfl)
    | (apply c4 0; exact callK1 (θ := []) (hD := (eqMachine_ok _ _ preD5 preD5)); exact rfl; exact rfl; exact rfl; (try dsimp only [SV.ren, C.ren, C.ren.all, tRen, GB.ren, calF, upOf, List.cons_append, List.nil_append, Nat.reduceAdd]))
    | (apply c4 0; exact callK1 (θ := []) (hD := (eqProof_ok _ _ preD5 preD5 preD5 preD5 preD5 preD5)); exact rfl; exact rfl; exact rfl; (try dsimp only [SV.ren, C.ren, C.ren.all, tRen, GB.ren, calF, upOf, List.cons_append, List.nil_append, Nat.reduceAdd]))
    | (refine o_gs rfl rfl (fun hc => ?_) (fun hc => ?_) <;> (try simp only [decide_eq_true_eq, decide_eq_false_iff_not, Bool.not_eq_true', Bool.not_eq_false', Bool.not_eq_true, Bool.not_eq_false, Bool.and_eq_true, Bool.or_eq_false_iff, Bool.not_not] at hc) <;> (try (first | contradiction | (exfalso; omega))))
    | (refine g_cond rfl (fun hc => ?_) (fun hc => ?_) <;> (try simp only [decide_eq_true_eq, decide_eq_false_iff_not, Bool.not_eq_true', Bool.not_eq_false', Bool.not_eq_true, Bool.not_eq_false, Bool.and_eq_true, Bool.or_eq_false_iff, Bool.not_not] at hc) <;> (try (first | contradiction | (exfalso; omega))))
  all_goals
    repeat (first | refine g_ret ?_ | refine q_sr ?_ | refine q_br ?_ | refine q_lr ?_ | refine q_cr ?_)
    refine ends_id ?_
    refine endK [] (h2 := ?_) (h3 := ?_) (nd := ?_)
    all_goals (repeat' first | with_reducible exact SVLe.refl | exact SVLe.any | exact SVLe.one (.sh rfl) | exact SVLe.one (.nil (by decide)) | refine SVLe.agg ?_ | refine SVLe.tup ?_ | exact TLe.nil | refine TLe.cons ?_ ?_ | exact CsLe.nil | refine CsLe.cons ?_ ?_ | exact CLe.refl | exact CLe.sh rfl | exact CLe.nil (by decide) | refine cle_i ?_ | refine cle_b ?_ | exact trivial | refine And.intro ?_ ?_ | exact Or.inl rfl | exact Or.inr rfl | refine Or.inr (row_eq ?_) | (refine Or.inr (bx_eq rfl rfl ?_); (try dsimp only [C.ren, C.ren.all]); (try exact rfl)) | exact SVLe.refl | refine sle_i ?_ | refine sle_b ?_)
    all_goals first | exact (show nodupB _ = true from rfl) | exact Or.inr rfl | ((unfold eqV; simp [*]))
end Go.Proofs.YtbekdojhcokalaaGreatDoor
end
section
set_option linter.unusedVariables false
set_option linter.unusedSimpArgs false
set_option maxRecDepth 100000
set_option maxHeartbeats 4000000
namespace Go.Proofs.YtbekdojhcokalaaGreatDoor
open Go Foot
theorem szP_le {p : Prf} {l : Int} (h : l ≤ 1048576) : szP p l ≤ 1048576 := by
  unfold szP
  split
  · omega
  · have h1 := szL_le (n := p.nu.length) h
    have : ∀ (xs : List (List Int)) (k : Int), k ≤ 1048576 → szW xs k ≤ 1048576 := by
      intro xs
      induction xs with
      | nil => intro k hk; unfold szW; exact hk
      | cons x xs ih =>
        intro k hk
        unfold szW
        split
        · omega
        · exact ih _ (szL_le hk)
    unfold szWW
    split
    · omega
    · exact this _ _ (by omega)
theorem szV_le {v : Verd} {l : Int} (h : l ≤ 1048576) : szV v l ≤ 1048576 := by
  unfold szV
  split
  · omega
  · exact szP_le (szL_le h)
/-- What is left behind lists of verdicts. -/
@[irreducible] def szVl : List Verd → Int → Int
  | [], l => l
  | x :: xs, l => if szV x l < 0 then -1 else szVl xs (szV x l)
theorem szVl_step {xs : List Verd} {i l : Int} (h0 : 0 ≤ i) (h : i.toNat < xs.length) : szVl (xs.drop i.toNat) l = if szV (xs[i.toNat]) l < 0 then -1 else szVl (xs.drop (i + 1).toNat) (szV (xs[i.toNat]) l) := by
  rw [List.drop_eq_getElem_cons h, show (i + 1).toNat = i.toNat + 1 by omega]
  conv => lhs; unfold szVl
@[irreducible] def szVs (xs : List Verd) (left : Int) : Int := if left - xs.length < 0 then -1 else szVl xs (left - xs.length)
/-- Lists of verdicts whose slices have lengths. -/
structure LnsOk (l : List Verd) : Prop where
  n : (l.length : Int) ≤ 9223372036854775807
  a : ∀ v ∈ l, LenOk v
theorem lns_at {l : List Verd} (g : LnsOk l) {i : Nat} (h : i < l.length) : LenOk l[i] := g.a _ (List.getElem_mem h)
theorem preD6 {p : Prop} (h : p := by first | with_reducible assumption | omega | (simp only [List.length_append, List.length_cons, List.length_nil, List.length_set, List.length_replicate, List.length_take, List.length_drop, List.length_tail, List.length_dropLast, List.length_reverse] at *; omega) | exact mem_len (by assumption) (by omega) | (with_reducible refine Int.le_trans (Int.ofNat_le.2 (trimR_len _)) ?_; simp only [List.length_cons, List.length_tail]; omega) | (exact (ruAt_ok (by assumption) (by assumption) (by assumption)).2.1) | (exact (ruAt_ok (by assumption) (by assumption) (by assumption)).2.1) | (have := vMach_bd (by assumption); omega) | (simp only [mC_ch, mC_tu]; omega) | (have := vTag_bd (by assumption); omega) | (have := (‹Gd _ _›).le; omega) | (exact tgHalts_no (by assumption)) | (exact tgHead (by assumption) (by assumption) (by assumption)) | (exact Int.le_trans (tgStep_gd (by assumption) (by assumption) (by assumption) (by assumption)).le (by decide)) | (exact vTag_r (by assumption)) | (with_reducible refine Int.le_trans (Int.ofNat_le.2 (pushL_len _ _)) ?_; simp only [List.length_dropLast]; omega) | exact ls_at (by assumption) (by omega) | exact (ask_ok (by assumption)).1 | exact (ask_ok (by assumption)).2.1 | exact (ask_ok (by assumption)).2.2.1 | exact (ask_ok (by assumption)).2.2.2 | (simp only [marks_len]; omega) | (simp only [marksR_len]; omega) | exact lns_at (by assumption) (by omega) | trivial) : p := h
theorem szVerdictS_ok (xs : List Verd) (left : Int) (h1 : left ≤ 1048576) (h2 : 0 ≤ left) (g : LnsOk xs) : Does Tryz.prog 11 [.one (shV xs), .one (int left)] [] (.one (int (szVs xs left))) [] := by
  have hx := g.n
  refine does_of (k := 0) Tryz.func11 rfl Tryz.ntmps11 rfl rfl fun w F0 S0 ρ0 => ?_
  dsimp only [argT, argH]
  repeat' first
    | refine g_seq ?_
    | refine g_skip ?_
    | refine g_exit ?_
    | refine g_block ?_
    | refine g_reg ?_
    | refine g_if_t rfl ?_
    | refine g_if_f rfl ?_
    | refine o_nil ?_
    | refine q_s ?_
    | refine q_se ?_
    | refine q_b ?_
    | refine q_be rfl ?_
    | refine q_bn rfl ?_
    | refine q_le ?_
    | refine q_ce ?_
    | (apply p3; (first | exact pu1 | exact puL | exact puN | exact a_len_str rfl (fT rfl) | exact a_sub rfl rfl (by omega) (by omega) | exact puC | exact a_add rfl rfl (by omega) (by omega) | exact puI); exact rfl)
    | (apply c4 0; exact callK1 (θ := []) (hD := (szVerdict_ok _ _ preD6 preD6 preD6)); exact rfl; exact rfl; exact rfl; (try dsimp only [SV.ren, C.ren, C.ren.all, tRen, GB.ren, calF, upOf, List.cons_append, List.nil_append, Nat.reduceAdd]))
    | (refine o_gs rfl rfl (fun hc => ?_) (fun hc => ?_) <;> (try simp only [decide_eq_true_eq, decide_eq_false_iff_not, Bool.not_eq_true', Bool.not_eq_false', Bool.not_eq_true, Bool.not_eq_false, Bool.and_eq_true, Bool.or_eq_false_iff, Bool.not_not] at hc) <;> (try (first | contradiction | (exfalso; omega))))
    | (refine g_cond rfl (fun hc => ?_) (fun hc => ?_) <;> (try simp only [decide_eq_true_eq, decide_eq_false_iff_not, Bool.not_eq_true', Bool.not_eq_false', Bool.not_eq_true, Bool.not_eq_false, Bool.and_eq_true, Bool.or_eq_false_iff, Bool.not_not] at hc) <;> (try (first | contradiction | (exfalso; omega))))
  · repeat (first | refine g_ret ?_ | refine q_sr ?_ | refine q_br ?_ | refine q_lr ?_ | refine q_cr ?_)
    refine ends_id ?_
    refine endK [] (h2 := ?_) (h3 := ?_) (nd := ?_)
    all_goals (repeat' first | with_reducible exact SVLe.refl | exact SVLe.any | exact SVLe.one (.sh rfl) | exact SVLe.one (.nil (by decide)) | refine SVLe.agg ?_ | refine SVLe.tup ?_ | exact TLe.nil | refine TLe.cons ?_ ?_ | exact CsLe.nil | refine CsLe.cons ?_ ?_ | exact CLe.refl | exact CLe.sh rfl | exact CLe.nil (by decide) | refine cle_i ?_ | refine cle_b ?_ | exact trivial | refine And.intro ?_ ?_ | exact Or.inl rfl | exact Or.inr rfl | refine Or.inr (row_eq ?_) | (refine Or.inr (bx_eq rfl rfl ?_); (try dsimp only [C.ren, C.ren.all]); (try exact rfl)) | exact SVLe.refl | refine sle_i ?_ | refine sle_b ?_)
    all_goals first | exact (show nodupB _ = true from rfl) | exact Or.inr rfl | ((unfold szVs; simp [*]))
  · have e0 : szVs xs left = szVl xs (left - xs.length) := by unfold szVs; rw [if_neg hc]
    refine g_loop_id ?_
    refine loopK [0, 4] [] (fun y : Int × Int => 0 ≤ y.1 ∧ y.1 ≤ xs.length ∧ 0 ≤ y.2 ∧ y.2 ≤ 1048576 ∧ szVl (xs.drop y.1.toNat) y.2 = szVs xs left) (fun y => [(5, .one (int y.1)), (1, .one (int y.2))]) (fun _ => []) (fun y => (xs.length - y.1).toNat) ((0 : Int), left - xs.length) [] (hI := ?_) (hr := ?_)
    · exact ⟨by simp, by simp, by dsimp only; omega, by dsimp only; omega, by rw [e0]; rfl⟩
    · rintro ⟨i, l⟩ ⟨k1, k2, k3, k4, k5⟩
      dsimp only [List.cons_append, List.nil_append] at *
      skip
      repeat' first
        | refine g_seq ?_
        | refine g_skip ?_
        | refine g_exit ?_
        | refine g_block ?_
        | refine g_reg ?_
        | refine g_if_t rfl ?_
        | refine g_if_f rfl ?_
        | refine o_nil ?_
        | refine q_s ?_
        | refine q_se ?_
        | refine q_b ?_
        | refine q_be rfl ?_
        | refine q_bn rfl ?_
        | refine q_le ?_
        | refine q_ce ?_
        | (apply p3; (first | exact pu1 | exact puL | exact puN | exact a_len_str rfl (fT rfl) | exact puC | exact a_add rfl rfl (by omega) (by omega) | exact puI); exact rfl)
        | (apply c4 0; exact callK1 (θ := []) (hD := (szVerdict_ok _ _ preD6 preD6 preD6)); exact rfl; exact rfl; exact rfl; (try dsimp only [SV.ren, C.ren, C.ren.all, tRen, GB.ren, calF, upOf, List.cons_append, List.nil_append, Nat.reduceAdd]))
        | (refine o_gs rfl rfl (fun hc => ?_) (fun hc => ?_) <;> (try simp only [decide_eq_true_eq, decide_eq_false_iff_not, Bool.not_eq_true', Bool.not_eq_false', Bool.not_eq_true, Bool.not_eq_false, Bool.and_eq_true, Bool.or_eq_false_iff, Bool.not_not] at hc) <;> (try (first | contradiction | (exfalso; omega))))
        | (refine g_cond rfl (fun hc => ?_) (fun hc => ?_) <;> (try simp only [decide_eq_true_eq, decide_eq_false_iff_not, Bool.not_eq_true', Bool.not_eq_false', Bool.not_eq_true, Bool.not_eq_false, Bool.and_eq_true, Bool.or_eq_false_iff, Bool.not_not] at hc) <;> (try (first | contradiction | (exfalso; omega))))
      · rw [szVl_step k1 (by omega), if_pos hc] at k5
        repeat (first | refine g_ret ?_ | refine q_sr ?_ | refine q_br ?_ | refine q_lr ?_ | refine q_cr ?_)
        refine ends_id ?_
        refine endK [] (h2 := ?_) (h3 := ?_) (nd := ?_)
        all_goals (repeat' first | with_reducible exact SVLe.refl | exact SVLe.any | exact SVLe.one (.sh rfl) | exact SVLe.one (.nil (by decide)) | refine SVLe.agg ?_ | refine SVLe.tup ?_ | exact TLe.nil | refine TLe.cons ?_ ?_ | exact CsLe.nil | refine CsLe.cons ?_ ?_ | exact CLe.refl | exact CLe.sh rfl | exact CLe.nil (by decide) | refine cle_i ?_ | refine cle_b ?_ | exact trivial | refine And.intro ?_ ?_ | exact Or.inl rfl | exact Or.inr rfl | refine Or.inr (row_eq ?_) | (refine Or.inr (bx_eq rfl rfl ?_); (try dsimp only [C.ren, C.ren.all]); (try exact rfl)) | exact SVLe.refl | refine sle_i ?_ | refine sle_b ?_)
        all_goals first | exact (show nodupB _ = true from rfl) | exact Or.inr rfl | (exact k5)
      · rw [szVl_step k1 (by omega), if_neg hc] at k5
        have := szV_le (v := xs[i.toNat]'(by omega)) k4
        refine q_again (i + 1, _) [] (by exact stk) ?_ ?_
        · exact ⟨by dsimp only; omega, by dsimp only; omega, by dsimp only; omega, by dsimp only; omega, k5⟩
        · dsimp only; omega
      · rw [List.drop_eq_nil_of_le (by omega)] at k5
        unfold szVl at k5
        repeat (first | refine g_ret ?_ | refine q_sr ?_ | refine q_br ?_ | refine q_lr ?_ | refine q_cr ?_)
        refine ends_id ?_
        refine endK [] (h2 := ?_) (h3 := ?_) (nd := ?_)
        all_goals (repeat' first | with_reducible exact SVLe.refl | exact SVLe.any | exact SVLe.one (.sh rfl) | exact SVLe.one (.nil (by decide)) | refine SVLe.agg ?_ | refine SVLe.tup ?_ | exact TLe.nil | refine TLe.cons ?_ ?_ | exact CsLe.nil | refine CsLe.cons ?_ ?_ | exact CLe.refl | exact CLe.sh rfl | exact CLe.nil (by decide) | refine cle_i ?_ | refine cle_b ?_ | exact trivial | refine And.intro ?_ ?_ | exact Or.inl rfl | exact Or.inr rfl | refine Or.inr (row_eq ?_) | (refine Or.inr (bx_eq rfl rfl ?_); (try dsimp only [C.ren, C.ren.all]); (try exact rfl)) | exact SVLe.refl | refine sle_i ?_ | refine sle_b ?_)
        all_goals first | exact (show nodupB _ = true from rfl) | exact Or.inr rfl | (exact k5)
structure BgsOk (l : List Verd) : Prop where
  n : (l.length : Int) ≤ 1048576
  a : ∀ v ∈ l, BigOk v
theorem bgs_at {l : List Verd} (g : BgsOk l) {i : Nat} (h : i < l.length) : BigOk l[i] := g.a _ (List.getElem_mem h)
theorem szVl_ge : ∀ {xs : List Verd} {l : Int}, 0 ≤ l → l ≤ 1048576 → ¬ szVl xs l < 0 → ∀ x ∈ xs, BigOk x
  | [], l, _, _, _, x, hx => by cases hx
  | y :: xs, l, h0, hl, h, x, hx => by
    unfold szVl at h
    split at h
    · omega
    · rename_i h1
      rcases List.mem_cons.1 hx with rfl | hx
      · obtain ⟨g1, g2, g3, g4⟩ := szV_ge h0 hl h1
        exact ⟨g1, g2, g3, g4⟩
      · exact szVl_ge (by omega) (szV_le hl) h x hx
theorem szVs_ge {xs : List Verd} (h : ¬ szVs xs 1048576 < 0) : BgsOk xs := by
  unfold szVs at h
  split at h
  · omega
  · rename_i h1
    exact ⟨by omega, szVl_ge (by omega) (by omega) h⟩
theorem bgs_ls {l : List Verd} (g : BgsOk l) : LsGd l := ⟨by have := g.n; omega, fun v hv => big_gd (g.a v hv)⟩
theorem verds_len {l : List Verd} (h : l.length ≤ maxLen ∧ ∀ x ∈ l, VerdOk x) : LnsOk l := ⟨by have := h.1; unfold maxLen at this; omega, fun v hv => verd_len (h.2 v hv)⟩
abbrev eVo : Enc (Option Verd) := ⟨6, fun o => match o with | none => [.sc (.int .i64 0), .sc (.int .i64 0), .sc (.slice none 0 0), .sc (.int .i64 0), .sc (.slice none 0 0), .sc (.slice none 0 0)] | some v => [.sc (.int .i64 v.m.sy), .sc (.int .i64 v.m.st), .sl false 3 (rows eR v.m.ru), .sc (.int .i64 v.p.k), .sl false 1 (rows eI v.p.nu), .sl false 1 (rows eW v.p.wo)], fun o => by cases o <;> rfl, by decide⟩
theorem rows_vo (l : List Verd) : rows eVo (l.map some) = rows eV l := by
  induction l with
  | nil => rfl
  | cons a l ih => simp only [List.map_cons, rows] at *; simp_all
abbrev roV (l : List Verd) : GB := .row 6 (rows eV l)
theorem preD6_2 {p : Prop} (h : p := by first | with_reducible assumption | omega | (simp only [List.length_append, List.length_cons, List.length_nil, List.length_set, List.length_replicate, List.length_take, List.length_drop, List.length_tail, List.length_dropLast, List.length_reverse] at *; omega) | exact mem_len (by assumption) (by omega) | (with_reducible refine Int.le_trans (Int.ofNat_le.2 (trimR_len _)) ?_; simp only [List.length_cons, List.length_tail]; omega) | (exact (ruAt_ok (by assumption) (by assumption) (by assumption)).2.1) | (exact (ruAt_ok (by assumption) (by assumption) (by assumption)).2.1) | (have := vMach_bd (by assumption); omega) | (simp only [mC_ch, mC_tu]; omega) | (have := vTag_bd (by assumption); omega) | (have := (‹Gd _ _›).le; omega) | (exact tgHalts_no (by assumption)) | (exact tgHead (by assumption) (by assumption) (by assumption)) | (exact Int.le_trans (tgStep_gd (by assumption) (by assumption) (by assumption) (by assumption)).le (by decide)) | (exact vTag_r (by assumption)) | (with_reducible refine Int.le_trans (Int.ofNat_le.2 (pushL_len _ _)) ?_; simp only [List.length_dropLast]; omega) | exact ls_at (by assumption) (by omega) | exact (ask_ok (by assumption)).1 | exact (ask_ok (by assumption)).2.1 | exact (ask_ok (by assumption)).2.2.1 | exact (ask_ok (by assumption)).2.2.2 | (simp only [marks_len]; omega) | (simp only [marksR_len]; omega) | exact lns_at (by assumption) (by omega) | exact bgs_at (by assumption) (by omega) | trivial) : p := h
theorem toVerdictS_ok (xs : List Verd) (g : BgsOk xs) : Does Tryz.prog 13 [.one (shV xs)] [] (.one (.gv 0)) [roV xs] := by
  have hx := g.n
  refine does_of (k := 0) Tryz.func13 rfl Tryz.ntmps13 rfl rfl fun w F0 S0 ρ0 => ?_
  dsimp only [argT, argH]
  repeat' first
    | refine g_seq ?_
    | refine g_skip ?_
    | refine g_exit ?_
    | refine g_block ?_
    | refine g_reg ?_
    | refine g_if_t rfl ?_
    | refine g_if_f rfl ?_
    | refine o_nil ?_
    | refine q_s ?_
    | refine q_se ?_
    | refine q_b ?_
    | refine q_be rfl ?_
    | refine q_bn rfl ?_
    | refine q_le ?_
    | refine q_ce ?_
    | (apply n3; exact a_make (fE rfl) (fZ rfl) (fP rfl) (by decide) rfl rfl (by omega) rfl (by omega) (by omega) (rows_rep eVo none _); exact rfl; (try dsimp only [List.map_cons, List.map_nil, scC, Nat.reduceAdd]))
    | (apply p3; (first | exact pu1 | exact puL | exact puN | exact a_len_str rfl (fT rfl) | exact puC | exact a_add rfl rfl (by omega) (by omega) | exact puI); exact rfl)
    | (apply w3; (first | exact a_st_bx rfl rfl rfl rfl (fN rfl rfl) (Nat.le_of_ble_eq_true rfl) rfl | exact a_stF (E := eV) ⟨⟨_, _, _⟩, ⟨_, _, _⟩⟩ rfl rfl rfl rfl (fN rfl rfl) (Nat.le_of_ble_eq_true rfl) (Nat.le_of_ble_eq_true rfl) (by first | exact List.getElem?_set_self bnd | exact List.getElem?_eq_getElem bnd) (by (try dsimp only [setRow, List.set_cons_succ, List.set_cons_zero]); first | done | exact rfl) rfl | exact a_stE (E := eVo) (some ⟨⟨_, _, _⟩, ⟨_, _, _⟩⟩) rfl rfl rfl rfl (fN rfl rfl) bnd (by exact rfl)); exact rfl; (try dsimp only [setRow, List.map_cons, List.map_nil, scC, List.set_cons_zero, List.set_cons_succ, List.take_succ_cons, List.take_zero, List.drop_succ_cons, List.drop_zero, Nat.reduceAdd]))
    | (apply c4 0; exact callK0 (θ := []) (hD := (toVerdict_ok _ preD6_2)); exact rfl; exact rfl; exact rfl; (try dsimp only [SV.ren, C.ren, C.ren.all, tRen, GB.ren, calF, upOf, List.cons_append, List.nil_append, Nat.reduceAdd]))
    | (refine o_gs rfl rfl (fun hc => ?_) (fun hc => ?_) <;> (try simp only [decide_eq_true_eq, decide_eq_false_iff_not, Bool.not_eq_true', Bool.not_eq_false', Bool.not_eq_true, Bool.not_eq_false, Bool.and_eq_true, Bool.or_eq_false_iff, Bool.not_not] at hc) <;> (try (first | contradiction | (exfalso; omega))))
    | (refine g_cond rfl (fun hc => ?_) (fun hc => ?_) <;> (try simp only [decide_eq_true_eq, decide_eq_false_iff_not, Bool.not_eq_true', Bool.not_eq_false', Bool.not_eq_true, Bool.not_eq_false, Bool.and_eq_true, Bool.or_eq_false_iff, Bool.not_not] at hc) <;> (try (first | contradiction | (exfalso; omega))))
  refine g_loop_id ?_
  refine loopK [0, 2, 3] [0] (fun x : Int × List (Option Verd) => 0 ≤ x.1 ∧ x.1 ≤ xs.length ∧ x.2.length = xs.length ∧ ∀ k (h : k < xs.length), k < x.1 → x.2[k]? = some (some xs[k])) (fun x => [(4, .one (int x.1))]) (fun x => [(0, .row 6 (rows eVo x.2))]) (fun x => (xs.length - x.1).toNat) ((0 : Int), List.replicate xs.length (none : Option Verd)) [0] (hI := ?_) (hr := ?_)
  · exact ⟨by simp, by simp, by simp, by intro k h h'; simp at h'; omega⟩
  · rintro ⟨i, l⟩ ⟨h0, h1, h2, h3⟩
    dsimp only [List.cons_append, List.nil_append] at *
    skip
    repeat' first
      | refine g_seq ?_
      | refine g_skip ?_
      | refine g_exit ?_
      | refine g_block ?_
      | refine g_reg ?_
      | refine g_if_t rfl ?_
      | refine g_if_f rfl ?_
      | refine o_nil ?_
      | refine q_s ?_
      | refine q_se ?_
      | refine q_b ?_
      | refine q_be rfl ?_
      | refine q_bn rfl ?_
      | refine q_le ?_
      | refine q_ce ?_
      | (apply p3; (first | exact pu1 | exact puL | exact puN | exact a_len_str rfl (fT rfl) | exact puC | exact a_add rfl rfl (by omega) (by omega) | exact puI); exact rfl)
      | (apply w3; (first | exact a_st_bx rfl rfl rfl rfl (fN rfl rfl) (Nat.le_of_ble_eq_true rfl) rfl | exact a_stF (E := eV) ⟨⟨_, _, _⟩, ⟨_, _, _⟩⟩ rfl rfl rfl rfl (fN rfl rfl) (Nat.le_of_ble_eq_true rfl) (Nat.le_of_ble_eq_true rfl) (by first | exact List.getElem?_set_self bnd | exact List.getElem?_eq_getElem bnd) (by (try dsimp only [setRow, List.set_cons_succ, List.set_cons_zero]); first | done | exact rfl) rfl | exact a_stE (E := eVo) (some ⟨⟨_, _, _⟩, ⟨_, _, _⟩⟩) rfl rfl rfl rfl (fN rfl rfl) bnd (by exact rfl)); exact rfl; (try dsimp only [setRow, List.map_cons, List.map_nil, scC, List.set_cons_zero, List.set_cons_succ, List.take_succ_cons, List.take_zero, List.drop_succ_cons, List.drop_zero, Nat.reduceAdd]))
      | (apply c4 0; exact callK0 (θ := []) (hD := (toVerdict_ok _ preD6_2)); exact rfl; exact rfl; exact rfl; (try dsimp only [SV.ren, C.ren, C.ren.all, tRen, GB.ren, calF, upOf, List.cons_append, List.nil_append, Nat.reduceAdd]))
      | (refine o_gs rfl rfl (fun hc => ?_) (fun hc => ?_) <;> (try simp only [decide_eq_true_eq, decide_eq_false_iff_not, Bool.not_eq_true', Bool.not_eq_false', Bool.not_eq_true, Bool.not_eq_false, Bool.and_eq_true, Bool.or_eq_false_iff, Bool.not_not] at hc) <;> (try (first | contradiction | (exfalso; omega))))
      | (refine g_cond rfl (fun hc => ?_) (fun hc => ?_) <;> (try simp only [decide_eq_true_eq, decide_eq_false_iff_not, Bool.not_eq_true', Bool.not_eq_false', Bool.not_eq_true, Bool.not_eq_false, Bool.and_eq_true, Bool.or_eq_false_iff, Bool.not_not] at hc) <;> (try (first | contradiction | (exfalso; omega))))
    · refine q_again (i + 1, l.set i.toNat (some (xs[i.toNat]'(by omega)))) [0] (by exact stk) ?_ ?_
      · refine ⟨by dsimp only; omega, by dsimp only; omega, by simp [h2], fun k h h' => ?_⟩
        dsimp only at h' ⊢
        rw [List.getElem?_set]
        split
        · rename_i e
          subst e
          rw [if_pos (by omega)]
        · exact h3 k h (by omega)
      · dsimp only; omega
    · have hl : l = xs.map some := by
        apply List.ext_getElem?
        intro k
        by_cases hk : k < xs.length
        · rw [h3 k hk (by omega), List.getElem?_map, List.getElem?_eq_getElem hk]; rfl
        · rw [List.getElem?_eq_none (by omega), List.getElem?_eq_none (by rw [List.length_map]; omega)]
      subst hl
      rw [rows_vo]
      repeat (first | refine g_ret ?_ | refine q_sr ?_ | refine q_br ?_ | refine q_lr ?_ | refine q_cr ?_)
      refine ends_id ?_
      refine endK [?_] (h2 := ?_) (h3 := ?_) (nd := ?_)
      rotate_left 1
      all_goals (repeat' first | with_reducible exact SVLe.refl | exact SVLe.any | exact SVLe.one (.sh rfl) | exact SVLe.one (.nil (by decide)) | refine SVLe.agg ?_ | refine SVLe.tup ?_ | exact TLe.nil | refine TLe.cons ?_ ?_ | exact CsLe.nil | refine CsLe.cons ?_ ?_ | exact CLe.refl | exact CLe.sh rfl | exact CLe.nil (by decide) | refine cle_i ?_ | refine cle_b ?_ | exact trivial | refine And.intro ?_ ?_ | exact Or.inl rfl | exact Or.inr rfl | refine Or.inr (row_eq ?_) | (refine Or.inr (bx_eq rfl rfl ?_); (try dsimp only [C.ren, C.ren.all]); (try exact rfl)) | exact SVLe.refl | refine sle_i ?_ | refine sle_b ?_)
      all_goals first | exact (show nodupB _ = true from rfl) | exact Or.inr rfl | (rfl)
theorem eqV_iff {a b : Verd} : eqV a b = true ↔ a = b := by
  obtain ⟨⟨a1, a2, a3⟩, ⟨a4, a5, a6⟩⟩ := a
  obtain ⟨⟨b1, b2, b3⟩, ⟨b4, b5, b6⟩⟩ := b
  unfold eqV eqM eqP
  simp only [Bool.and_eq_true, decide_eq_true_eq, Verd.mk.injEq, Mach.mk.injEq, Prf.mk.injEq]
theorem eqVerdictSs_ok (xs : List Verd) (g : BgsOk xs) : Does Tryz.prog 16 [.one (shV xs), .one (shV xs)] [] (.one (boo true)) [] := by
  have hx := g.n
  have hq : ∀ v : Verd, ¬ eqV v v = false := fun v h => by rw [eqV_iff.2 rfl] at h; cases h
  refine does_of (k := 0) Tryz.func16 rfl Tryz.ntmps16 rfl rfl fun w F0 S0 ρ0 => ?_
  dsimp only [argT, argH]
  repeat' first
    | refine g_seq ?_
    | refine g_skip ?_
    | refine g_exit ?_
    | refine g_block ?_
    | refine g_reg ?_
    | refine g_if_t rfl ?_
    | refine g_if_f rfl ?_
    | refine o_nil ?_
    | refine q_s ?_
    | refine q_se ?_
    | refine q_b ?_
    | refine q_be rfl ?_
    | refine q_bn rfl ?_
    | refine q_le ?_
    | refine q_ce ?_
    | (apply p3; (first | exact pu1 | exact puN | exact a_len_str rfl (fT rfl) | exact a_ne rfl rfl | exact a_neS rfl rfl rfl | exact puC | exact a_add rfl rfl (by omega) (by omega)); exact rfl)
    | (apply g_drN (id := 6) okM [[], [], [0, 1], [0, 1, 2], [], [], [4, 5], [4, 5, 6], [0, 1, 2, 3, 4, 5, 6, 7], [0, 1, 2, 3, 4, 5, 6, 7, 8]] [([], []), ([], []), ([], []), ([], []), ([], []), ([], []), ([], []), ([], []), ([], []), ([], [])] 0; (focus (all_goals refine dp 0 0 [18, 21, 22, 23, 24] [] pu1 ?_; all_goals refine dp 1 0 [17, 21, 22, 23, 24] [] pu1 ?_; all_goals refine dp 2 3 [21, 22, 23, 24] [] puI ?_; all_goals refine dp 3 7 [21, 22, 23, 24] [] puL ?_; all_goals refine dp 4 0 [17, 18, 19, 20, 22] [] pu1 ?_; all_goals refine dp 5 0 [17, 18, 19, 20, 21] [] pu1 ?_; all_goals refine dp 6 3 [17, 18, 19, 20] [] puI ?_; all_goals refine dp 7 7 [17, 18, 19, 20] [] puL ?_; all_goals refine dp 8 255 [] [] (callD1 (n := _) 0 (θ := []) (hD := (eqVerdict_ok _ _ preD6_2 preD6_2))) ?_; all_goals refine dp 9 511 [] [] (a_pure (sv := .one _) rfl) ?_; all_goals (refine d_nil ?_; dsimp only [selT, selH, trues, SV.ren, C.ren, C.ren.all, tRen, GB.ren, calF, upOf, List.cons_append, List.nil_append, Nat.reduceAdd, setRow, List.map_cons, List.map_nil, scC, List.set_cons_zero, List.set_cons_succ, List.take_succ_cons, List.take_zero, List.drop_succ_cons, List.drop_zero]))); any_goals kernel_rfl)
    | (refine o_gs rfl rfl (fun hc => ?_) (fun hc => ?_) <;> (try simp only [decide_eq_true_eq, decide_eq_false_iff_not, Bool.not_eq_true', Bool.not_eq_false', Bool.not_eq_true, Bool.not_eq_false, Bool.and_eq_true, Bool.or_eq_false_iff, Bool.not_not] at hc) <;> (try (first | contradiction | (exfalso; omega))))
    | (refine g_cond rfl (fun hc => ?_) (fun hc => ?_) <;> (try simp only [decide_eq_true_eq, decide_eq_false_iff_not, Bool.not_eq_true', Bool.not_eq_false', Bool.not_eq_true, Bool.not_eq_false, Bool.and_eq_true, Bool.or_eq_false_iff, Bool.not_not] at hc) <;> (try (first | contradiction | (exfalso; omega))))
  refine g_loop_id ?_
  refine loopK [0, 1, 4] [] (fun i : Int => 0 ≤ i ∧ i ≤ xs.length) (fun i => [(5, .one (int i))]) (fun _ => []) (fun i => (xs.length - i).toNat) (0 : Int) [] (hI := ?_) (hr := ?_)
  · exact ⟨by simp, by simp⟩
  · rintro i ⟨h0, h1⟩
    dsimp only [List.cons_append, List.nil_append] at *
    skip
    repeat' first
      | refine g_seq ?_
      | refine g_skip ?_
      | refine g_exit ?_
      | refine g_block ?_
      | refine g_reg (id := 4) ?_
      | refine g_reg (id := 8) ?_
      | refine g_if_t rfl ?_
      | refine g_if_f rfl ?_
      | refine o_nil ?_
      | refine q_s ?_
      | refine q_se ?_
      | refine q_b ?_
      | refine q_be rfl ?_
      | refine q_bn rfl ?_
      | refine q_le ?_
      | refine q_ce ?_
      | (apply p3; (first | exact pu1 | exact puN | exact a_len_str rfl (fT rfl) | exact puC); exact rfl)
      | (refine o_gs rfl rfl (fun hc => ?_) (fun hc => ?_) <;> (try simp only [decide_eq_true_eq, decide_eq_false_iff_not, Bool.not_eq_true', Bool.not_eq_false', Bool.not_eq_true, Bool.not_eq_false, Bool.and_eq_true, Bool.or_eq_false_iff, Bool.not_not] at hc) <;> (try (first | contradiction | (exfalso; omega))))
      | (refine g_cond rfl (fun hc => ?_) (fun hc => ?_) <;> (try simp only [decide_eq_true_eq, decide_eq_false_iff_not, Bool.not_eq_true', Bool.not_eq_false', Bool.not_eq_true, Bool.not_eq_false, Bool.and_eq_true, Bool.or_eq_false_iff, Bool.not_not] at hc) <;> (try (first | contradiction | (exfalso; omega))))
    · have hq2 := hq (xs[i.toNat]'(by omega))
      repeat' first
        | refine g_seq ?_
        | refine g_skip ?_
        | refine g_exit ?_
        | refine g_block ?_
        | refine g_reg ?_
        | refine g_if_t rfl ?_
        | refine g_if_f rfl ?_
        | refine o_nil ?_
        | refine q_s ?_
        | refine q_se ?_
        | refine q_b ?_
        | refine q_be rfl ?_
        | refine q_bn rfl ?_
        | refine q_le ?_
        | refine q_ce ?_
        | (apply p3; (first | exact pu1 | exact puN | exact a_len_str rfl (fT rfl) | exact puC | exact a_add rfl rfl (by omega) (by omega)); exact rfl)
        | (apply g_drN (id := 6) okM [[], [], [0, 1], [0, 1, 2], [], [], [4, 5], [4, 5, 6], [0, 1, 2, 3, 4, 5, 6, 7], [0, 1, 2, 3, 4, 5, 6, 7, 8]] [([], []), ([], []), ([], []), ([], []), ([], []), ([], []), ([], []), ([], []), ([], []), ([], [])] 0; (focus (all_goals refine dp 0 0 [18, 21, 22, 23, 24] [] pu1 ?_; all_goals refine dp 1 0 [17, 21, 22, 23, 24] [] pu1 ?_; all_goals refine dp 2 3 [21, 22, 23, 24] [] puI ?_; all_goals refine dp 3 7 [21, 22, 23, 24] [] puL ?_; all_goals refine dp 4 0 [17, 18, 19, 20, 22] [] pu1 ?_; all_goals refine dp 5 0 [17, 18, 19, 20, 21] [] pu1 ?_; all_goals refine dp 6 3 [17, 18, 19, 20] [] puI ?_; all_goals refine dp 7 7 [17, 18, 19, 20] [] puL ?_; all_goals refine dp 8 255 [] [] (callD1 (n := _) 0 (θ := []) (hD := (eqVerdict_ok _ _ preD6_2 preD6_2))) ?_; all_goals refine dp 9 511 [] [] (a_pure (sv := .one _) rfl) ?_; all_goals (refine d_nil ?_; dsimp only [selT, selH, trues, SV.ren, C.ren, C.ren.all, tRen, GB.ren, calF, upOf, List.cons_append, List.nil_append, Nat.reduceAdd, setRow, List.map_cons, List.map_nil, scC, List.set_cons_zero, List.set_cons_succ, List.take_succ_cons, List.take_zero, List.drop_succ_cons, List.drop_zero]))); any_goals kernel_rfl)
        | (refine o_gs rfl rfl (fun hc => ?_) (fun hc => ?_) <;> (try simp only [decide_eq_true_eq, decide_eq_false_iff_not, Bool.not_eq_true', Bool.not_eq_false', Bool.not_eq_true, Bool.not_eq_false, Bool.and_eq_true, Bool.or_eq_false_iff, Bool.not_not] at hc) <;> (try (first | contradiction | (exfalso; omega))))
        | (refine g_cond rfl (fun hc => ?_) (fun hc => ?_) <;> (try simp only [decide_eq_true_eq, decide_eq_false_iff_not, Bool.not_eq_true', Bool.not_eq_false', Bool.not_eq_true, Bool.not_eq_false, Bool.and_eq_true, Bool.or_eq_false_iff, Bool.not_not] at hc) <;> (try (first | contradiction | (exfalso; omega))))
      refine q_again (i + 1) [] (by exact stk) ?_ ?_
      · exact ⟨by omega, by omega⟩
      · omega
    · repeat' first
        | refine g_seq ?_
        | refine g_skip ?_
        | refine g_exit ?_
        | refine g_block ?_
        | refine g_reg ?_
        | refine g_if_t rfl ?_
        | refine g_if_f rfl ?_
        | refine o_nil ?_
        | refine q_s ?_
        | refine q_se ?_
        | refine q_b ?_
        | refine q_be rfl ?_
        | refine q_bn rfl ?_
        | refine q_le ?_
        | refine q_ce ?_
        | (apply p3; (first | exact pu1 | exact puN | exact a_len_str rfl (fT rfl) | exact puC | exact a_add rfl rfl (by omega) (by omega)); exact rfl)
        | (apply g_drN (id := 6) okM [[], [], [0, 1], [0, 1, 2], [], [], [4, 5], [4, 5, 6], [0, 1, 2, 3, 4, 5, 6, 7], [0, 1, 2, 3, 4, 5, 6, 7, 8]] [([], []), ([], []), ([], []), ([], []), ([], []), ([], []), ([], []), ([], []), ([], []), ([], [])] 0; (focus (all_goals refine dp 0 0 [18, 21, 22, 23, 24] [] pu1 ?_; all_goals refine dp 1 0 [17, 21, 22, 23, 24] [] pu1 ?_; all_goals refine dp 2 3 [21, 22, 23, 24] [] puI ?_; all_goals refine dp 3 7 [21, 22, 23, 24] [] puL ?_; all_goals refine dp 4 0 [17, 18, 19, 20, 22] [] pu1 ?_; all_goals refine dp 5 0 [17, 18, 19, 20, 21] [] pu1 ?_; all_goals refine dp 6 3 [17, 18, 19, 20] [] puI ?_; all_goals refine dp 7 7 [17, 18, 19, 20] [] puL ?_; all_goals refine dp 8 255 [] [] (callD1 (n := _) 0 (θ := []) (hD := (eqVerdict_ok _ _ preD6_2 preD6_2))) ?_; all_goals refine dp 9 511 [] [] (a_pure (sv := .one _) rfl) ?_; all_goals (refine d_nil ?_; dsimp only [selT, selH, trues, SV.ren, C.ren, C.ren.all, tRen, GB.ren, calF, upOf, List.cons_append, List.nil_append, Nat.reduceAdd, setRow, List.map_cons, List.map_nil, scC, List.set_cons_zero, List.set_cons_succ, List.take_succ_cons, List.take_zero, List.drop_succ_cons, List.drop_zero]))); any_goals kernel_rfl)
        | (refine o_gs rfl rfl (fun hc => ?_) (fun hc => ?_) <;> (try simp only [decide_eq_true_eq, decide_eq_false_iff_not, Bool.not_eq_true', Bool.not_eq_false', Bool.not_eq_true, Bool.not_eq_false, Bool.and_eq_true, Bool.or_eq_false_iff, Bool.not_not] at hc) <;> (try (first | contradiction | (exfalso; omega))))
        | (refine g_cond rfl (fun hc => ?_) (fun hc => ?_) <;> (try simp only [decide_eq_true_eq, decide_eq_false_iff_not, Bool.not_eq_true', Bool.not_eq_false', Bool.not_eq_true, Bool.not_eq_false, Bool.and_eq_true, Bool.or_eq_false_iff, Bool.not_not] at hc) <;> (try (first | contradiction | (exfalso; omega))))
      repeat (first | refine g_ret ?_ | refine q_sr ?_ | refine q_br ?_ | refine q_lr ?_ | refine q_cr ?_)
      refine ends_id ?_
      refine endK [] (h2 := ?_) (h3 := ?_) (nd := ?_)
      all_goals (repeat' first | with_reducible exact SVLe.refl | exact SVLe.any | exact SVLe.one (.sh rfl) | exact SVLe.one (.nil (by decide)) | refine SVLe.agg ?_ | refine SVLe.tup ?_ | exact TLe.nil | refine TLe.cons ?_ ?_ | exact CsLe.nil | refine CsLe.cons ?_ ?_ | exact CLe.refl | exact CLe.sh rfl | exact CLe.nil (by decide) | refine cle_i ?_ | refine cle_b ?_ | exact trivial | refine And.intro ?_ ?_ | exact Or.inl rfl | exact Or.inr rfl | refine Or.inr (row_eq ?_) | (refine Or.inr (bx_eq rfl rfl ?_); (try dsimp only [C.ren, C.ren.all]); (try exact rfl)) | exact SVLe.refl | refine sle_i ?_ | refine sle_b ?_)
      all_goals first | exact (show nodupB _ = true from rfl) | exact Or.inr rfl | (rfl)
end Go.Proofs.YtbekdojhcokalaaGreatDoor
end
section
set_option linter.unusedVariables false
set_option linter.unusedSimpArgs false
set_option maxRecDepth 100000
set_option maxHeartbeats 4000000
namespace Go.Proofs.YtbekdojhcokalaaGreatDoor
open Go Foot
end Go.Proofs.YtbekdojhcokalaaGreatDoor
end
section
set_option linter.unusedVariables false
set_option linter.unusedSimpArgs false
set_option maxRecDepth 100000
set_option maxHeartbeats 4000000
namespace Go.Proofs.YtbekdojhcokalaaGreatDoor
open Go Foot
section
variable {m : Mach} {d n a b : Int} {c : Conf} {O : Option (Conf × Int × Int)}
end
end Go.Proofs.YtbekdojhcokalaaGreatDoor
end
section
set_option linter.unusedVariables false
set_option linter.unusedSimpArgs false
set_option maxRecDepth 100000
set_option maxHeartbeats 4000000
namespace Go.Proofs.YtbekdojhcokalaaGreatDoor
open Go Foot
end Go.Proofs.YtbekdojhcokalaaGreatDoor
end
section
set_option linter.unusedVariables false
set_option linter.unusedSimpArgs false
set_option maxRecDepth 100000
set_option maxHeartbeats 4000000
namespace Go.Proofs.YtbekdojhcokalaaGreatDoor
open Go Foot
/-- What a loop over the steps comes to. -/
structure ItOut (X : Type) where
  x : X
  j : Option Code
  c : Conf
section
variable {X : Type} {m : Mach} {bd : X → Conf × Int × Bool → X × Option Code} {b n : Int} {c : Conf} {x : X} {O : ItOut X} {k : Nat}
end
end Go.Proofs.YtbekdojhcokalaaGreatDoor
end
section
set_option linter.unusedVariables false
set_option linter.unusedSimpArgs false
set_option maxRecDepth 100000
set_option maxHeartbeats 4000000
namespace Go.Proofs.YtbekdojhcokalaaGreatDoor
open Go Foot
end Go.Proofs.YtbekdojhcokalaaGreatDoor
end
section
set_option linter.unusedVariables false
set_option linter.unusedSimpArgs false
set_option maxRecDepth 100000
set_option maxHeartbeats 4000000
namespace Go.Proofs.YtbekdojhcokalaaGreatDoor
open Go Foot
end Go.Proofs.YtbekdojhcokalaaGreatDoor
end
section
set_option linter.unusedVariables false
set_option linter.unusedSimpArgs false
set_option maxRecDepth 100000
set_option maxHeartbeats 4000000
namespace Go.Proofs.YtbekdojhcokalaaGreatDoor
open Go Foot
section
variable {m : Mach}
end
end Go.Proofs.YtbekdojhcokalaaGreatDoor
end
section
set_option linter.unusedVariables false
set_option linter.unusedSimpArgs false
set_option maxRecDepth 100000
set_option maxHeartbeats 4000000
namespace Go.Proofs.YtbekdojhcokalaaGreatDoor
open Go Foot
end Go.Proofs.YtbekdojhcokalaaGreatDoor
end
section
set_option linter.unusedVariables false
set_option linter.unusedSimpArgs false
set_option maxRecDepth 100000
set_option maxHeartbeats 4000000
namespace Go.Proofs.YtbekdojhcokalaaGreatDoor
open Go Foot
end Go.Proofs.YtbekdojhcokalaaGreatDoor
end
section
set_option linter.unusedVariables false
set_option linter.unusedSimpArgs false
set_option maxRecDepth 100000
set_option maxHeartbeats 4000000
namespace Go.Proofs.YtbekdojhcokalaaGreatDoor
open Go Foot
end Go.Proofs.YtbekdojhcokalaaGreatDoor
end
section
set_option linter.unusedVariables false
set_option linter.unusedSimpArgs false
set_option maxRecDepth 100000
set_option maxHeartbeats 4000000
namespace Go.Proofs.YtbekdojhcokalaaGreatDoor
open Go Foot
theorem preB60 {p : Prop} (h : p := by first | with_reducible assumption | omega | (simp only [List.length_append, List.length_cons, List.length_nil, List.length_set, List.length_replicate, List.length_take, List.length_drop, List.length_tail, List.length_dropLast, List.length_reverse] at *; omega) | exact mem_len (by assumption) (by omega) | (with_reducible refine Int.le_trans (Int.ofNat_le.2 (trimR_len _)) ?_; simp only [List.length_cons, List.length_tail]; omega) | (exact (ruAt_ok (by assumption) (by assumption) (by assumption)).2.1) | (exact (ruAt_ok (by assumption) (by assumption) (by assumption)).2.1) | (have := vMach_bd (by assumption); omega) | (simp only [mC_ch, mC_tu]; omega) | (have := vTag_bd (by assumption); omega) | (have := (‹Gd _ _›).le; omega) | (exact tgHalts_no (by assumption)) | (exact tgHead (by assumption) (by assumption) (by assumption)) | (exact Int.le_trans (tgStep_gd (by assumption) (by assumption) (by assumption) (by assumption)).le (by decide)) | (exact vTag_r (by assumption)) | (with_reducible refine Int.le_trans (Int.ofNat_le.2 (pushL_len _ _)) ?_; simp only [List.length_dropLast]; omega) | exact ls_at (by assumption) (by omega) | exact (ask_ok (by assumption)).1 | exact (ask_ok (by assumption)).2.1 | exact (ask_ok (by assumption)).2.2.1 | exact (ask_ok (by assumption)).2.2.2 | trivial) : p := h
/-- Lines, one behind another. -/
def linF : List Verd → Bs
  | [] => []
  | v :: l => linT v ++ linF l
@[irreducible] def jouT (l : List Verd) : Bs := if okVs l = true then linF l else []
theorem lin_next {l : List Verd} {i : Int} (h0 : 0 ≤ i) (h : i < l.length) (out : Bs) : out ++ linF (l.drop i.toNat) = out ++ linT (l[i.toNat]'(by omega)) ++ linF (l.drop (i + 1).toNat) := by
  rw [List.drop_eq_getElem_cons (show i.toNat < l.length by omega), show (i + 1).toNat = i.toNat + 1 by omega, linF, List.append_assoc]
theorem okVs_at {l : List Verd} (h : okVs l = true) : (l.length : Int) ≤ 40 ∧ ∀ (i : Nat) (hi : i < l.length), okV l[i] = true := by
  unfold okVs at h
  simp only [Bool.and_eq_true, decide_eq_true_eq, List.all_eq_true] at h
  exact ⟨h.1, fun i hi => h.2 _ (List.getElem_mem hi)⟩
theorem okV_lin {v : Verd} (h : okV v = true) : vMach v.m = true ∧ OkP v.p ∧ ((linT v).length : Int) ≤ 6000 ∧ verT v = linT v := by
  have e : verT v = linT v := by unfold verT; rw [if_pos h]
  unfold okV at h
  simp only [Bool.and_eq_true, Bool.or_eq_true, decide_eq_true_eq] at h
  exact ⟨h.1.1, ⟨h.1.2⟩, h.2, e⟩
theorem l31Journal_ok (l : List Verd) (ho : okVs l = true) : Does Tryz.prog 59 [.one (shV l)] [] (.one (str (linF l))) [] := by
  obtain ⟨hl, ha⟩ := okVs_at ho
  refine does_of (k := 0) Tryz.func59 rfl Tryz.ntmps59 rfl rfl fun w F0 S0 ρ0 => ?_
  dsimp only [argT, argH]
  repeat' first
    | refine g_seq ?_
    | refine g_skip ?_
    | refine g_exit ?_
    | refine g_block ?_
    | refine g_reg ?_
    | refine g_if_t rfl ?_
    | refine g_if_f rfl ?_
    | refine o_nil ?_
    | refine q_s ?_
    | refine q_se ?_
    | refine q_b ?_
    | refine q_be rfl ?_
    | refine q_bn rfl ?_
    | refine q_le ?_
    | refine q_ce ?_
    | (apply p3; (first | exact pu1 | exact puN | exact a_len_str rfl (fT rfl) | exact puC | exact a_addS rfl rfl (by first | omega | (simp only [List.length_append, List.length_cons, List.length_nil]; omega)) | exact a_add rfl rfl (by omega) (by omega) | exact puI); exact rfl)
    | (apply c4 0; exact callK1 (θ := []) (hD := (l31Line_ok _ preB60 preB60)); exact rfl; exact rfl; exact rfl; (try dsimp only [SV.ren, C.ren, C.ren.all, tRen, GB.ren, calF, upOf, List.cons_append, List.nil_append, Nat.reduceAdd]))
    | (refine o_gs rfl rfl (fun hc => ?_) (fun hc => ?_) <;> (try simp only [decide_eq_true_eq, decide_eq_false_iff_not, Bool.not_eq_true', Bool.not_eq_false', Bool.not_eq_true, Bool.not_eq_false, Bool.and_eq_true, Bool.or_eq_false_iff, Bool.not_not] at hc) <;> (try (first | contradiction | (exfalso; omega))))
    | (refine g_cond rfl (fun hc => ?_) (fun hc => ?_) <;> (try simp only [decide_eq_true_eq, decide_eq_false_iff_not, Bool.not_eq_true', Bool.not_eq_false', Bool.not_eq_true, Bool.not_eq_false, Bool.and_eq_true, Bool.or_eq_false_iff, Bool.not_not] at hc) <;> (try (first | contradiction | (exfalso; omega))))
  refine g_loop_id ?_
  refine loopK [0, 2] [] (fun y : Int × Bs => 0 ≤ y.1 ∧ y.1 ≤ l.length ∧ (y.2.length : Int) ≤ 6000 * y.1 ∧ y.2 ++ linF (l.drop y.1.toNat) = linF l) (fun y => [(4, .one (int y.1)), (3, .one (str y.2))]) (fun _ => []) (fun y => (l.length - y.1).toNat) ((0 : Int), []) [] (hI := ?_) (hr := ?_)
  · exact ⟨by simp, by simp, by simp, by simp⟩
  · rintro ⟨i, out⟩ ⟨j0, j1, j2, j3⟩
    dsimp only [List.cons_append, List.nil_append] at *
    skip
    repeat' first
      | refine g_seq ?_
      | refine g_skip ?_
      | refine g_exit ?_
      | refine g_block ?_
      | refine g_reg (id := 3) ?_
      | refine g_reg (id := 6) ?_
      | refine g_if_t rfl ?_
      | refine g_if_f rfl ?_
      | refine o_nil ?_
      | refine q_s ?_
      | refine q_se ?_
      | refine q_b ?_
      | refine q_be rfl ?_
      | refine q_bn rfl ?_
      | refine q_le ?_
      | refine q_ce ?_
      | (apply p3; (first | exact pu1 | exact puN | exact a_len_str rfl (fT rfl) | exact puC); exact rfl)
      | (refine o_gs rfl rfl (fun hc => ?_) (fun hc => ?_) <;> (try simp only [decide_eq_true_eq, decide_eq_false_iff_not, Bool.not_eq_true', Bool.not_eq_false', Bool.not_eq_true, Bool.not_eq_false, Bool.and_eq_true, Bool.or_eq_false_iff, Bool.not_not] at hc) <;> (try (first | contradiction | (exfalso; omega))))
      | (refine g_cond rfl (fun hc => ?_) (fun hc => ?_) <;> (try simp only [decide_eq_true_eq, decide_eq_false_iff_not, Bool.not_eq_true', Bool.not_eq_false', Bool.not_eq_true, Bool.not_eq_false, Bool.and_eq_true, Bool.or_eq_false_iff, Bool.not_not] at hc) <;> (try (first | contradiction | (exfalso; omega))))
    · obtain ⟨v1, v2, v3, v4⟩ := okV_lin (ha i.toNat (by omega))
      rw [lin_next j0 hc] at j3
      repeat' first
        | refine g_seq ?_
        | refine g_skip ?_
        | refine g_exit ?_
        | refine g_block ?_
        | refine g_reg ?_
        | refine g_if_t rfl ?_
        | refine g_if_f rfl ?_
        | refine o_nil ?_
        | refine q_s ?_
        | refine q_se ?_
        | refine q_b ?_
        | refine q_be rfl ?_
        | refine q_bn rfl ?_
        | refine q_le ?_
        | refine q_ce ?_
        | (apply p3; (first | exact pu1 | exact puN | exact a_len_str rfl (fT rfl) | exact puC | exact a_addS rfl rfl (by first | omega | (simp only [List.length_append, List.length_cons, List.length_nil]; omega)) | exact a_add rfl rfl (by omega) (by omega) | exact puI); exact rfl)
        | (apply c4 0; exact callK1 (θ := []) (hD := (l31Line_ok _ preB60 preB60)); exact rfl; exact rfl; exact rfl; (try dsimp only [SV.ren, C.ren, C.ren.all, tRen, GB.ren, calF, upOf, List.cons_append, List.nil_append, Nat.reduceAdd]))
        | (refine o_gs rfl rfl (fun hc => ?_) (fun hc => ?_) <;> (try simp only [decide_eq_true_eq, decide_eq_false_iff_not, Bool.not_eq_true', Bool.not_eq_false', Bool.not_eq_true, Bool.not_eq_false, Bool.and_eq_true, Bool.or_eq_false_iff, Bool.not_not] at hc) <;> (try (first | contradiction | (exfalso; omega))))
        | (refine g_cond rfl (fun hc => ?_) (fun hc => ?_) <;> (try simp only [decide_eq_true_eq, decide_eq_false_iff_not, Bool.not_eq_true', Bool.not_eq_false', Bool.not_eq_true, Bool.not_eq_false, Bool.and_eq_true, Bool.or_eq_false_iff, Bool.not_not] at hc) <;> (try (first | contradiction | (exfalso; omega))))
      refine q_again (i + 1, _) [] (by exact stk) ?_ ?_
      · dsimp only
        refine ⟨by omega, by omega, ?_, j3⟩
        rw [List.length_append]; omega
      · dsimp only; omega
    · have e : out = linF l := by rw [← j3, List.drop_eq_nil_of_le (by omega), linF, List.append_nil]
      rw [← e]
      repeat' first
        | refine g_seq ?_
        | refine g_skip ?_
        | refine g_exit ?_
        | refine g_block ?_
        | refine g_reg ?_
        | refine g_if_t rfl ?_
        | refine g_if_f rfl ?_
        | refine o_nil ?_
        | refine q_s ?_
        | refine q_se ?_
        | refine q_b ?_
        | refine q_be rfl ?_
        | refine q_bn rfl ?_
        | refine q_le ?_
        | refine q_ce ?_
        | (apply p3; (first | exact pu1 | exact puN | exact a_len_str rfl (fT rfl) | exact puC | exact a_addS rfl rfl (by first | omega | (simp only [List.length_append, List.length_cons, List.length_nil]; omega)) | exact a_add rfl rfl (by omega) (by omega) | exact puI); exact rfl)
        | (apply c4 0; exact callK1 (θ := []) (hD := (l31Line_ok _ preB60 preB60)); exact rfl; exact rfl; exact rfl; (try dsimp only [SV.ren, C.ren, C.ren.all, tRen, GB.ren, calF, upOf, List.cons_append, List.nil_append, Nat.reduceAdd]))
        | (refine o_gs rfl rfl (fun hc => ?_) (fun hc => ?_) <;> (try simp only [decide_eq_true_eq, decide_eq_false_iff_not, Bool.not_eq_true', Bool.not_eq_false', Bool.not_eq_true, Bool.not_eq_false, Bool.and_eq_true, Bool.or_eq_false_iff, Bool.not_not] at hc) <;> (try (first | contradiction | (exfalso; omega))))
        | (refine g_cond rfl (fun hc => ?_) (fun hc => ?_) <;> (try simp only [decide_eq_true_eq, decide_eq_false_iff_not, Bool.not_eq_true', Bool.not_eq_false', Bool.not_eq_true, Bool.not_eq_false, Bool.and_eq_true, Bool.or_eq_false_iff, Bool.not_not] at hc) <;> (try (first | contradiction | (exfalso; omega))))
      repeat (first | refine g_ret ?_ | refine q_sr ?_ | refine q_br ?_ | refine q_lr ?_ | refine q_cr ?_)
      refine ends_id ?_
      refine endK [] (h2 := ?_) (h3 := ?_) (nd := ?_)
      all_goals (repeat' first | with_reducible exact SVLe.refl | exact SVLe.any | exact SVLe.one (.sh rfl) | exact SVLe.one (.nil (by decide)) | refine SVLe.agg ?_ | refine SVLe.tup ?_ | exact TLe.nil | refine TLe.cons ?_ ?_ | exact CsLe.nil | refine CsLe.cons ?_ ?_ | exact CLe.refl | exact CLe.sh rfl | exact CLe.nil (by decide) | refine cle_i ?_ | refine cle_b ?_ | exact trivial | refine And.intro ?_ ?_ | exact Or.inl rfl | exact Or.inr rfl | refine Or.inr (row_eq ?_) | (refine Or.inr (bx_eq rfl rfl ?_); (try dsimp only [C.ren, C.ren.all]); (try exact rfl)) | exact SVLe.refl | refine sle_i ?_ | refine sle_b ?_)
      all_goals first | exact (show nodupB _ = true from rfl) | exact Or.inr rfl | (rfl)
theorem sJournalText_ok (l : List Verd) (g : LsGd l) : Does Tryz.prog 20 [.one (shV l)] [] (.one (str (jouT l))) [] := by
  cases ho : okVs l with
  | true =>
    have e : jouT l = linF l := by unfold jouT; rw [if_pos ho]
    have ho2 : ¬ okVs l = false := by simp [ho]
    rw [e]
    refine does_of (k := 0) Tryz.func20 rfl Tryz.ntmps20 rfl rfl fun w F0 S0 ρ0 => ?_
    dsimp only [argT, argH]
    repeat' first
      | refine g_seq ?_
      | refine g_skip ?_
      | refine g_exit ?_
      | refine g_block ?_
      | refine g_reg ?_
      | refine g_if_t rfl ?_
      | refine g_if_f rfl ?_
      | refine o_nil ?_
      | refine q_s ?_
      | refine q_se ?_
      | refine q_b ?_
      | refine q_be rfl ?_
      | refine q_bn rfl ?_
      | refine q_le ?_
      | refine q_ce ?_
      | (apply p3; exact pu1; exact rfl)
      | (apply c4 0; exact callK1 (θ := []) (hD := (l31List_ok _ preB60)); exact rfl; exact rfl; exact rfl; (try dsimp only [SV.ren, C.ren, C.ren.all, tRen, GB.ren, calF, upOf, List.cons_append, List.nil_append, Nat.reduceAdd]))
      | (apply c4 0; exact callK1 (θ := []) (hD := (l31Journal_ok _ preB60)); exact rfl; exact rfl; exact rfl; (try dsimp only [SV.ren, C.ren, C.ren.all, tRen, GB.ren, calF, upOf, List.cons_append, List.nil_append, Nat.reduceAdd]))
      | (refine o_gs rfl rfl (fun hc => ?_) (fun hc => ?_) <;> (try simp only [decide_eq_true_eq, decide_eq_false_iff_not, Bool.not_eq_true', Bool.not_eq_false', Bool.not_eq_true, Bool.not_eq_false, Bool.and_eq_true, Bool.or_eq_false_iff, Bool.not_not] at hc) <;> (try (first | contradiction | (exfalso; omega))))
      | (refine g_cond rfl (fun hc => ?_) (fun hc => ?_) <;> (try simp only [decide_eq_true_eq, decide_eq_false_iff_not, Bool.not_eq_true', Bool.not_eq_false', Bool.not_eq_true, Bool.not_eq_false, Bool.and_eq_true, Bool.or_eq_false_iff, Bool.not_not] at hc) <;> (try (first | contradiction | (exfalso; omega))))
    repeat (first | refine g_ret ?_ | refine q_sr ?_ | refine q_br ?_ | refine q_lr ?_ | refine q_cr ?_)
    refine ends_id ?_
    refine endK [] (h2 := ?_) (h3 := ?_) (nd := ?_)
    all_goals (repeat' first | with_reducible exact SVLe.refl | exact SVLe.any | exact SVLe.one (.sh rfl) | exact SVLe.one (.nil (by decide)) | refine SVLe.agg ?_ | refine SVLe.tup ?_ | exact TLe.nil | refine TLe.cons ?_ ?_ | exact CsLe.nil | refine CsLe.cons ?_ ?_ | exact CLe.refl | exact CLe.sh rfl | exact CLe.nil (by decide) | refine cle_i ?_ | refine cle_b ?_ | exact trivial | refine And.intro ?_ ?_ | exact Or.inl rfl | exact Or.inr rfl | refine Or.inr (row_eq ?_) | (refine Or.inr (bx_eq rfl rfl ?_); (try dsimp only [C.ren, C.ren.all]); (try exact rfl)) | exact SVLe.refl | refine sle_i ?_ | refine sle_b ?_)
    all_goals first | exact (show nodupB _ = true from rfl) | exact Or.inr rfl | (rfl)
  | false =>
    have e : jouT l = [] := by unfold jouT; rw [ho]; rfl
    have ho2 : ¬ okVs l = true := by simp [ho]
    rw [e]
    refine does_of (k := 0) Tryz.func20 rfl Tryz.ntmps20 rfl rfl fun w F0 S0 ρ0 => ?_
    dsimp only [argT, argH]
    repeat' first
      | refine g_seq ?_
      | refine g_skip ?_
      | refine g_exit ?_
      | refine g_block ?_
      | refine g_reg ?_
      | refine g_if_t rfl ?_
      | refine g_if_f rfl ?_
      | refine o_nil ?_
      | refine q_s ?_
      | refine q_se ?_
      | refine q_b ?_
      | refine q_be rfl ?_
      | refine q_bn rfl ?_
      | refine q_le ?_
      | refine q_ce ?_
      | (apply p3; exact pu1; exact rfl)
      | (apply c4 0; exact callK1 (θ := []) (hD := (l31List_ok _ preB60)); exact rfl; exact rfl; exact rfl; (try dsimp only [SV.ren, C.ren, C.ren.all, tRen, GB.ren, calF, upOf, List.cons_append, List.nil_append, Nat.reduceAdd]))
      | (apply c4 0; exact callK1 (θ := []) (hD := (l31Journal_ok _ preB60)); exact rfl; exact rfl; exact rfl; (try dsimp only [SV.ren, C.ren, C.ren.all, tRen, GB.ren, calF, upOf, List.cons_append, List.nil_append, Nat.reduceAdd]))
      | (refine o_gs rfl rfl (fun hc => ?_) (fun hc => ?_) <;> (try simp only [decide_eq_true_eq, decide_eq_false_iff_not, Bool.not_eq_true', Bool.not_eq_false', Bool.not_eq_true, Bool.not_eq_false, Bool.and_eq_true, Bool.or_eq_false_iff, Bool.not_not] at hc) <;> (try (first | contradiction | (exfalso; omega))))
      | (refine g_cond rfl (fun hc => ?_) (fun hc => ?_) <;> (try simp only [decide_eq_true_eq, decide_eq_false_iff_not, Bool.not_eq_true', Bool.not_eq_false', Bool.not_eq_true, Bool.not_eq_false, Bool.and_eq_true, Bool.or_eq_false_iff, Bool.not_not] at hc) <;> (try (first | contradiction | (exfalso; omega))))
    repeat (first | refine g_ret ?_ | refine q_sr ?_ | refine q_br ?_ | refine q_lr ?_ | refine q_cr ?_)
    refine ends_id ?_
    refine endK [] (h2 := ?_) (h3 := ?_) (nd := ?_)
    all_goals (repeat' first | with_reducible exact SVLe.refl | exact SVLe.any | exact SVLe.one (.sh rfl) | exact SVLe.one (.nil (by decide)) | refine SVLe.agg ?_ | refine SVLe.tup ?_ | exact TLe.nil | refine TLe.cons ?_ ?_ | exact CsLe.nil | refine CsLe.cons ?_ ?_ | exact CLe.refl | exact CLe.sh rfl | exact CLe.nil (by decide) | refine cle_i ?_ | refine cle_b ?_ | exact trivial | refine And.intro ?_ ?_ | exact Or.inl rfl | exact Or.inr rfl | refine Or.inr (row_eq ?_) | (refine Or.inr (bx_eq rfl rfl ?_); (try dsimp only [C.ren, C.ren.all]); (try exact rfl)) | exact SVLe.refl | refine sle_i ?_ | refine sle_b ?_)
    all_goals first | exact (show nodupB _ = true from rfl) | exact Or.inr rfl | (rfl)
theorem JournalText_ok (l : List Verd) (g : LsGd l) : Does Tryz.prog 21 [.one (shV l)] [] (.one (str (jouT l))) [] := by
  cases ho : okVs l with
  | true =>
    have e : jouT l = linF l := by unfold jouT; rw [if_pos ho]
    have ho2 : ¬ okVs l = false := by simp [ho]
    obtain ⟨hl, ha⟩ := okVs_at ho
    rw [e]
    refine does_of (k := 0) Tryz.func21 rfl Tryz.ntmps21 rfl rfl fun w F0 S0 ρ0 => ?_
    dsimp only [argT, argH]
    repeat' first
      | refine g_seq ?_
      | refine g_skip ?_
      | refine g_exit ?_
      | refine g_block ?_
      | refine g_reg ?_
      | refine g_if_t rfl ?_
      | refine g_if_f rfl ?_
      | refine o_nil ?_
      | refine q_s ?_
      | refine q_se ?_
      | refine q_b ?_
      | refine q_be rfl ?_
      | refine q_bn rfl ?_
      | refine q_le ?_
      | refine q_ce ?_
      | (apply n3; (first | exact a_newB | exact a_new (gb := .bx _) rfl); exact rfl; (try dsimp only [List.map_cons, List.map_nil, scC, Nat.reduceAdd]))
      | (apply p3; (first | exact pu1 | exact puL | exact puN | exact a_len_str rfl (fT rfl) | exact puC | exact a_add rfl rfl (by omega) (by omega) | exact puI); exact rfl)
      | (apply w3; (first | exact a_st_bx rfl rfl rfl rfl (fN rfl rfl) (Nat.le_of_ble_eq_true rfl) rfl | exact a_stE (E := eV) ⟨⟨_, _, _⟩, ⟨_, _, _⟩⟩ rfl rfl rfl rfl (fN rfl rfl) bnd (by exact rfl)); exact rfl; (try dsimp only [setRow, List.map_cons, List.map_nil, scC, List.set_cons_zero, List.set_cons_succ, List.take_succ_cons, List.take_zero, List.drop_succ_cons, List.drop_zero, Nat.reduceAdd]))
      | (apply c4 0; exact callK1 (θ := []) (hD := (areVerdicts_ok _ preB60)); exact rfl; exact rfl; exact rfl; (try dsimp only [SV.ren, C.ren, C.ren.all, tRen, GB.ren, calF, upOf, List.cons_append, List.nil_append, Nat.reduceAdd]))
      | (apply c4 0; exact callK1 (θ := []) (hD := (VerdictText_ok _ preB60)); exact rfl; exact rfl; exact rfl; (try dsimp only [SV.ren, C.ren, C.ren.all, tRen, GB.ren, calF, upOf, List.cons_append, List.nil_append, Nat.reduceAdd]))
      | (apply c4 0; exact callK1 (θ := [_]) (hD := (WriteString_ok _ _ preB60)); exact rfl; exact rfl; exact rfl; (try dsimp only [SV.ren, C.ren, C.ren.all, tRen, GB.ren, calF, upOf, List.cons_append, List.nil_append, Nat.reduceAdd]))
      | (apply c4 0; exact callK1 (θ := [_]) (hD := (String_ok _)); exact rfl; exact rfl; exact rfl; (try dsimp only [SV.ren, C.ren, C.ren.all, tRen, GB.ren, calF, upOf, List.cons_append, List.nil_append, Nat.reduceAdd]))
      | (refine o_gs rfl rfl (fun hc => ?_) (fun hc => ?_) <;> (try simp only [decide_eq_true_eq, decide_eq_false_iff_not, Bool.not_eq_true', Bool.not_eq_false', Bool.not_eq_true, Bool.not_eq_false, Bool.and_eq_true, Bool.or_eq_false_iff, Bool.not_not] at hc) <;> (try (first | contradiction | (exfalso; omega))))
      | (refine g_cond rfl (fun hc => ?_) (fun hc => ?_) <;> (try simp only [decide_eq_true_eq, decide_eq_false_iff_not, Bool.not_eq_true', Bool.not_eq_false', Bool.not_eq_true, Bool.not_eq_false, Bool.and_eq_true, Bool.or_eq_false_iff, Bool.not_not] at hc) <;> (try (first | contradiction | (exfalso; omega))))
    refine g_loop_id ?_
    refine loopK [2, 3, 9, 10] [0] (fun y : Int × Bs => 0 ≤ y.1 ∧ y.1 ≤ l.length ∧ (y.2.length : Int) ≤ 6000 * y.1 ∧ y.2 ++ linF (l.drop y.1.toNat) = linF l) (fun y => [(11, .one (int y.1))]) (fun y => [(0, bldr y.2)]) (fun y => (l.length - y.1).toNat) ((0 : Int), []) [0] (hI := ?_) (hr := ?_)
    · exact ⟨by simp, by simp, by simp, by simp⟩
    · rintro ⟨i, out⟩ ⟨j0, j1, j2, j3⟩
      dsimp only [List.cons_append, List.nil_append] at *
      skip
      repeat' first
        | refine g_seq ?_
        | refine g_skip ?_
        | refine g_exit ?_
        | refine g_block ?_
        | refine g_reg (id := 5) ?_
        | refine g_if_t rfl ?_
        | refine g_if_f rfl ?_
        | refine o_nil ?_
        | refine q_s ?_
        | refine q_se ?_
        | refine q_b ?_
        | refine q_be rfl ?_
        | refine q_bn rfl ?_
        | refine q_le ?_
        | refine q_ce ?_
        | (apply p3; (first | exact pu1 | exact puC); exact rfl)
        | (apply c4 0; exact callK1 (θ := [_]) (hD := (String_ok _)); exact rfl; exact rfl; exact rfl; (try dsimp only [SV.ren, C.ren, C.ren.all, tRen, GB.ren, calF, upOf, List.cons_append, List.nil_append, Nat.reduceAdd]))
        | (refine o_gs rfl rfl (fun hc => ?_) (fun hc => ?_) <;> (try simp only [decide_eq_true_eq, decide_eq_false_iff_not, Bool.not_eq_true', Bool.not_eq_false', Bool.not_eq_true, Bool.not_eq_false, Bool.and_eq_true, Bool.or_eq_false_iff, Bool.not_not] at hc) <;> (try (first | contradiction | (exfalso; omega))))
        | (refine g_cond rfl (fun hc => ?_) (fun hc => ?_) <;> (try simp only [decide_eq_true_eq, decide_eq_false_iff_not, Bool.not_eq_true', Bool.not_eq_false', Bool.not_eq_true, Bool.not_eq_false, Bool.and_eq_true, Bool.or_eq_false_iff, Bool.not_not] at hc) <;> (try (first | contradiction | (exfalso; omega))))
      · obtain ⟨v1, v2, v3, v4⟩ := okV_lin (ha i.toNat (by omega))
        have v5 := ls_at g (show i.toNat < l.length by omega)
        rw [lin_next j0 hc, ← v4] at j3
        rw [← v4] at v3
        repeat' first
          | refine g_seq ?_
          | refine g_skip ?_
          | refine g_exit ?_
          | refine g_block ?_
          | refine g_reg ?_
          | refine g_if_t rfl ?_
          | refine g_if_f rfl ?_
          | refine o_nil ?_
          | refine q_s ?_
          | refine q_se ?_
          | refine q_b ?_
          | refine q_be rfl ?_
          | refine q_bn rfl ?_
          | refine q_le ?_
          | refine q_ce ?_
          | (apply n3; exact a_new (gb := .bx _) rfl; exact rfl; (try dsimp only [List.map_cons, List.map_nil, scC, Nat.reduceAdd]))
          | (apply p3; (first | exact pu1 | exact puL | exact puC | exact a_add rfl rfl (by omega) (by omega) | exact puI); exact rfl)
          | (apply w3; (first | exact a_st_bx rfl rfl rfl rfl (fN rfl rfl) (Nat.le_of_ble_eq_true rfl) rfl | exact a_stE (E := eV) ⟨⟨_, _, _⟩, ⟨_, _, _⟩⟩ rfl rfl rfl rfl (fN rfl rfl) bnd (by exact rfl)); exact rfl; (try dsimp only [setRow, List.map_cons, List.map_nil, scC, List.set_cons_zero, List.set_cons_succ, List.take_succ_cons, List.take_zero, List.drop_succ_cons, List.drop_zero, Nat.reduceAdd]))
          | (apply c4 0; exact callK1 (θ := []) (hD := (VerdictText_ok _ preB60)); exact rfl; exact rfl; exact rfl; (try dsimp only [SV.ren, C.ren, C.ren.all, tRen, GB.ren, calF, upOf, List.cons_append, List.nil_append, Nat.reduceAdd]))
          | (apply c4 0; exact callK1 (θ := [_]) (hD := (WriteString_ok _ _ preB60)); exact rfl; exact rfl; exact rfl; (try dsimp only [SV.ren, C.ren, C.ren.all, tRen, GB.ren, calF, upOf, List.cons_append, List.nil_append, Nat.reduceAdd]))
          | (apply c4 0; exact callK1 (θ := [_]) (hD := (String_ok _)); exact rfl; exact rfl; exact rfl; (try dsimp only [SV.ren, C.ren, C.ren.all, tRen, GB.ren, calF, upOf, List.cons_append, List.nil_append, Nat.reduceAdd]))
          | (refine o_gs rfl rfl (fun hc => ?_) (fun hc => ?_) <;> (try simp only [decide_eq_true_eq, decide_eq_false_iff_not, Bool.not_eq_true', Bool.not_eq_false', Bool.not_eq_true, Bool.not_eq_false, Bool.and_eq_true, Bool.or_eq_false_iff, Bool.not_not] at hc) <;> (try (first | contradiction | (exfalso; omega))))
          | (refine g_cond rfl (fun hc => ?_) (fun hc => ?_) <;> (try simp only [decide_eq_true_eq, decide_eq_false_iff_not, Bool.not_eq_true', Bool.not_eq_false', Bool.not_eq_true, Bool.not_eq_false, Bool.and_eq_true, Bool.or_eq_false_iff, Bool.not_not] at hc) <;> (try (first | contradiction | (exfalso; omega))))
        refine q_again (i + 1, _) [0] (by exact stk) ?_ ?_
        · dsimp only
          refine ⟨by omega, by omega, ?_, j3⟩
          rw [List.length_append]; omega
        · dsimp only; omega
      · have e : out = linF l := by rw [← j3, List.drop_eq_nil_of_le (by omega), linF, List.append_nil]
        rw [← e]
        repeat' first
          | refine g_seq ?_
          | refine g_skip ?_
          | refine g_exit ?_
          | refine g_block ?_
          | refine g_reg ?_
          | refine g_if_t rfl ?_
          | refine g_if_f rfl ?_
          | refine o_nil ?_
          | refine q_s ?_
          | refine q_se ?_
          | refine q_b ?_
          | refine q_be rfl ?_
          | refine q_bn rfl ?_
          | refine q_le ?_
          | refine q_ce ?_
          | (apply n3; exact a_new (gb := .bx _) rfl; exact rfl; (try dsimp only [List.map_cons, List.map_nil, scC, Nat.reduceAdd]))
          | (apply p3; (first | exact pu1 | exact puL | exact puC | exact a_add rfl rfl (by omega) (by omega) | exact puI); exact rfl)
          | (apply w3; (first | exact a_st_bx rfl rfl rfl rfl (fN rfl rfl) (Nat.le_of_ble_eq_true rfl) rfl | exact a_stE (E := eV) ⟨⟨_, _, _⟩, ⟨_, _, _⟩⟩ rfl rfl rfl rfl (fN rfl rfl) bnd (by exact rfl)); exact rfl; (try dsimp only [setRow, List.map_cons, List.map_nil, scC, List.set_cons_zero, List.set_cons_succ, List.take_succ_cons, List.take_zero, List.drop_succ_cons, List.drop_zero, Nat.reduceAdd]))
          | (apply c4 0; exact callK1 (θ := []) (hD := (VerdictText_ok _ preB60)); exact rfl; exact rfl; exact rfl; (try dsimp only [SV.ren, C.ren, C.ren.all, tRen, GB.ren, calF, upOf, List.cons_append, List.nil_append, Nat.reduceAdd]))
          | (apply c4 0; exact callK1 (θ := [_]) (hD := (WriteString_ok _ _ preB60)); exact rfl; exact rfl; exact rfl; (try dsimp only [SV.ren, C.ren, C.ren.all, tRen, GB.ren, calF, upOf, List.cons_append, List.nil_append, Nat.reduceAdd]))
          | (apply c4 0; exact callK1 (θ := [_]) (hD := (String_ok _)); exact rfl; exact rfl; exact rfl; (try dsimp only [SV.ren, C.ren, C.ren.all, tRen, GB.ren, calF, upOf, List.cons_append, List.nil_append, Nat.reduceAdd]))
          | (refine o_gs rfl rfl (fun hc => ?_) (fun hc => ?_) <;> (try simp only [decide_eq_true_eq, decide_eq_false_iff_not, Bool.not_eq_true', Bool.not_eq_false', Bool.not_eq_true, Bool.not_eq_false, Bool.and_eq_true, Bool.or_eq_false_iff, Bool.not_not] at hc) <;> (try (first | contradiction | (exfalso; omega))))
          | (refine g_cond rfl (fun hc => ?_) (fun hc => ?_) <;> (try simp only [decide_eq_true_eq, decide_eq_false_iff_not, Bool.not_eq_true', Bool.not_eq_false', Bool.not_eq_true, Bool.not_eq_false, Bool.and_eq_true, Bool.or_eq_false_iff, Bool.not_not] at hc) <;> (try (first | contradiction | (exfalso; omega))))
        repeat (first | refine g_ret ?_ | refine q_sr ?_ | refine q_br ?_ | refine q_lr ?_ | refine q_cr ?_)
        refine ends_id ?_
        refine endK [] (h2 := ?_) (h3 := ?_) (nd := ?_)
        all_goals (repeat' first | with_reducible exact SVLe.refl | exact SVLe.any | exact SVLe.one (.sh rfl) | exact SVLe.one (.nil (by decide)) | refine SVLe.agg ?_ | refine SVLe.tup ?_ | exact TLe.nil | refine TLe.cons ?_ ?_ | exact CsLe.nil | refine CsLe.cons ?_ ?_ | exact CLe.refl | exact CLe.sh rfl | exact CLe.nil (by decide) | refine cle_i ?_ | refine cle_b ?_ | exact trivial | refine And.intro ?_ ?_ | exact Or.inl rfl | exact Or.inr rfl | refine Or.inr (row_eq ?_) | (refine Or.inr (bx_eq rfl rfl ?_); (try dsimp only [C.ren, C.ren.all]); (try exact rfl)) | exact SVLe.refl | refine sle_i ?_ | refine sle_b ?_)
        all_goals first | exact (show nodupB _ = true from rfl) | exact Or.inr rfl | (rfl)
  | false =>
    have e : jouT l = [] := by unfold jouT; rw [ho]; rfl
    have ho2 : ¬ okVs l = true := by simp [ho]
    rw [e]
    refine does_of (k := 0) Tryz.func21 rfl Tryz.ntmps21 rfl rfl fun w F0 S0 ρ0 => ?_
    dsimp only [argT, argH]
    repeat' first
      | refine g_seq ?_
      | refine g_skip ?_
      | refine g_exit ?_
      | refine g_block ?_
      | refine g_reg ?_
      | refine g_if_t rfl ?_
      | refine g_if_f rfl ?_
      | refine o_nil ?_
      | refine q_s ?_
      | refine q_se ?_
      | refine q_b ?_
      | refine q_be rfl ?_
      | refine q_bn rfl ?_
      | refine q_le ?_
      | refine q_ce ?_
      | (apply n3; (first | exact a_newB | exact a_new (gb := .bx _) rfl); exact rfl; (try dsimp only [List.map_cons, List.map_nil, scC, Nat.reduceAdd]))
      | (apply p3; (first | exact pu1 | exact puL | exact puN | exact a_len_str rfl (fT rfl) | exact puC | exact a_add rfl rfl (by omega) (by omega) | exact puI); exact rfl)
      | (apply w3; (first | exact a_st_bx rfl rfl rfl rfl (fN rfl rfl) (Nat.le_of_ble_eq_true rfl) rfl | exact a_stE (E := eV) ⟨⟨_, _, _⟩, ⟨_, _, _⟩⟩ rfl rfl rfl rfl (fN rfl rfl) bnd (by exact rfl)); exact rfl; (try dsimp only [setRow, List.map_cons, List.map_nil, scC, List.set_cons_zero, List.set_cons_succ, List.take_succ_cons, List.take_zero, List.drop_succ_cons, List.drop_zero, Nat.reduceAdd]))
      | (apply c4 0; exact callK1 (θ := []) (hD := (areVerdicts_ok _ preB60)); exact rfl; exact rfl; exact rfl; (try dsimp only [SV.ren, C.ren, C.ren.all, tRen, GB.ren, calF, upOf, List.cons_append, List.nil_append, Nat.reduceAdd]))
      | (apply c4 0; exact callK1 (θ := []) (hD := (VerdictText_ok _ preB60)); exact rfl; exact rfl; exact rfl; (try dsimp only [SV.ren, C.ren, C.ren.all, tRen, GB.ren, calF, upOf, List.cons_append, List.nil_append, Nat.reduceAdd]))
      | (apply c4 0; exact callK1 (θ := [_]) (hD := (WriteString_ok _ _ preB60)); exact rfl; exact rfl; exact rfl; (try dsimp only [SV.ren, C.ren, C.ren.all, tRen, GB.ren, calF, upOf, List.cons_append, List.nil_append, Nat.reduceAdd]))
      | (apply c4 0; exact callK1 (θ := [_]) (hD := (String_ok _)); exact rfl; exact rfl; exact rfl; (try dsimp only [SV.ren, C.ren, C.ren.all, tRen, GB.ren, calF, upOf, List.cons_append, List.nil_append, Nat.reduceAdd]))
      | (refine o_gs rfl rfl (fun hc => ?_) (fun hc => ?_) <;> (try simp only [decide_eq_true_eq, decide_eq_false_iff_not, Bool.not_eq_true', Bool.not_eq_false', Bool.not_eq_true, Bool.not_eq_false, Bool.and_eq_true, Bool.or_eq_false_iff, Bool.not_not] at hc) <;> (try (first | contradiction | (exfalso; omega))))
      | (refine g_cond rfl (fun hc => ?_) (fun hc => ?_) <;> (try simp only [decide_eq_true_eq, decide_eq_false_iff_not, Bool.not_eq_true', Bool.not_eq_false', Bool.not_eq_true, Bool.not_eq_false, Bool.and_eq_true, Bool.or_eq_false_iff, Bool.not_not] at hc) <;> (try (first | contradiction | (exfalso; omega))))
    repeat (first | refine g_ret ?_ | refine q_sr ?_ | refine q_br ?_ | refine q_lr ?_ | refine q_cr ?_)
    refine ends_id ?_
    refine endK [] (h2 := ?_) (h3 := ?_) (nd := ?_)
    all_goals (repeat' first | with_reducible exact SVLe.refl | exact SVLe.any | exact SVLe.one (.sh rfl) | exact SVLe.one (.nil (by decide)) | refine SVLe.agg ?_ | refine SVLe.tup ?_ | exact TLe.nil | refine TLe.cons ?_ ?_ | exact CsLe.nil | refine CsLe.cons ?_ ?_ | exact CLe.refl | exact CLe.sh rfl | exact CLe.nil (by decide) | refine cle_i ?_ | refine cle_b ?_ | exact trivial | refine And.intro ?_ ?_ | exact Or.inl rfl | exact Or.inr rfl | refine Or.inr (row_eq ?_) | (refine Or.inr (bx_eq rfl rfl ?_); (try dsimp only [C.ren, C.ren.all]); (try exact rfl)) | exact SVLe.refl | refine sle_i ?_ | refine sle_b ?_)
    all_goals first | exact (show nodupB _ = true from rfl) | exact Or.inr rfl | (rfl)
end Go.Proofs.YtbekdojhcokalaaGreatDoor
end
