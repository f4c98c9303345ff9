/- From the reading of an argument, as the rows take it, to the words of Base. -/
import Derived.Test.YtmkjboeaooindaaBase
import Derived.ProofKit
import Derived.OpenShut
import Derived.ShutString
import Derived.ChangeOld
import Derived.Deep.Slices
import Derived.Deep.Fields
namespace Go.Proofs.Ytmkjboeaooindaa
open Go.ChangeShapes Go.WideShapes Go.ChangeAt Go.RowKit Go.Deep

/-- Whatever is read at this type is laid as the word says. -/
def Opens {α : Type} (P : Program) (t : TypeId) (R : Rep α) : Prop :=
  ∀ {H : Type} (enc : TypeId × Value → H) (w : World) (base : Nat) (spare : Nat → Bool) (held : Bool) (fuel : Nat) (cs : List Value) (x : DataW H × List MemPlace),
    DataW.trod enc P w base spare held fuel t cs = some x → ∃ a fp, R.enc w a cs fp

theorem ok64_of_wf {n : Int} (h : (Lit.int .i64 n).wf = true) : Ok64 n := by
  have := h
  simp [Lit.wf, IntKind.min, IntKind.max, IntKind.signed, IntKind.bits] at this
  unfold Ok64
  omega
theorem opens_int {P : Program} {t : TypeId} (ht : P.underlying t = some (.int .i64)) : Opens P t RInt := by
  intro H enc w base spare held fuel cs x h
  obtain ⟨n, rfl, _, hw⟩ := DataW.trod_int ht h
  exact ⟨n, [], rfl, rfl, ok64_of_wf hw⟩
theorem opens_bool {P : Program} {t : TypeId} (ht : P.underlying t = some .bool) : Opens P t RBool := by
  intro H enc w base spare held fuel cs x h
  obtain ⟨b, rfl, _⟩ := DataW.trod_bool ht h
  exact ⟨b, [], rfl, rfl⟩
theorem opens_string {P : Program} {t : TypeId} (ht : P.underlying t = some .string) : Opens P t RStr := by
  intro H enc w base spare held fuel cs x h
  obtain ⟨s, rfl, _, hs⟩ := DataW.trod_string ht h
  exact ⟨s, [], rfl, rfl, hs⟩

theorem addr_plain {w : World} {a : Addr} {i : Nat} {v : Value} (h : w.cell? (a.add i) = some v) (hi : i = 0) : a.spot = none := by
  subst hi
  simp only [Addr.add, if_true] at h
  unfold World.cell? at h
  split at h
  · split at h
    · cases h
    · rename_i hs; simpa using hs
  · cases h

theorem opens_slice {α : Type} {P : Program} {t e : TypeId} {R : Rep α} (ht : P.underlying t = some (.slice e)) (hs : P.cellsOf e = R.sz) (hpos : 0 < R.sz) (he : Opens P e R) : Opens P t (RSl R) := by
  intro H enc w base spare held fuel cs x h
  rcases open_slice ht h with ⟨rfl, _⟩ | ⟨a, len, cap, m, n, D, Pl, rfl, hb, hl, hm, hmm, hx, hi⟩
  · exact ⟨[], [], none, 0, rfl, Nat.le_refl _, Nat.zero_le _, .inl ⟨rfl, rfl⟩⟩
  · have hlm : len ≤ m := by rw [hmm]; split <;> omega
    by_cases h0 : len = 0
    · subst h0
      exact ⟨[], [], some a, cap, rfl, Nat.zero_le _, hm, .inl ⟨rfl, rfl⟩⟩
    · have key : ∀ i, ∃ y : α × List Nat, i < len → ∃ cs, R.enc w y.1 cs y.2 ∧ ∀ j, j < R.sz → w.cell? (a.add (i * R.sz + j)) = cs[j]? := by
        intro i
        by_cases hil : i < len
        · obtain ⟨cs', hc, htr⟩ := hi i (by omega)
          obtain ⟨_, hcl, hat⟩ := World.cells?_some hc
          obtain ⟨y, fp, hy⟩ := he enc w base spare held n cs' _ htr
          refine ⟨(y, fp), fun _ => ⟨cs', hy, fun j hj => ?_⟩⟩
          rw [hs] at hat
          rw [← Go.Deep.add_add]
          exact hat j hj
        · by_cases hex : Nonempty α
          · exact ⟨(Classical.choice hex, []), fun h => absurd h hil⟩
          · exfalso
            obtain ⟨cs', hc, htr⟩ := hi 0 (by omega)
            obtain ⟨y, fp, hy⟩ := he enc w base spare held n cs' _ htr
            exact hex ⟨y⟩
      have hF := fun i => (key i).choose_spec
      have hsp : a.spot = none := by
        obtain ⟨cs, hc, hat⟩ := hF 0 (by omega)
        have h1 := hat 0 hpos
        have h2 : 0 < cs.length := by rw [R.size hc]; exact hpos
        rw [List.getElem?_eq_getElem h2] at h1
        exact addr_plain h1 (by simp)
      obtain ⟨b, off, sp⟩ := a
      simp only at hsp
      subst hsp
      refine ⟨(List.range len).map fun i => (key i).choose.1, b :: (List.range ((List.range len).map fun i => (key i).choose.1).length).flatMap fun i => (key i).choose.2, some ⟨b, off, none⟩, cap, by simp, by simpa using hl, hm, .inr ⟨b, off, fun i => (key i).choose.2, rfl, ?_, rfl, fun i hi => ?_⟩⟩
      · obtain ⟨cs, hc, hat⟩ := hF 0 (by omega)
        have h1 := hat 0 hpos
        have h2 : 0 < cs.length := by rw [R.size hc]; exact hpos
        rw [List.getElem?_eq_getElem h2] at h1
        have := World.block_lt_of_cell? w _ h1
        simpa [Addr.add] using this
      · simp only [List.length_map, List.length_range] at hi
        obtain ⟨cs, hc, hat⟩ := hF i hi
        refine ⟨cs, by simpa using hc, fun j v hv => ?_⟩
        have hj : j < R.sz := by rw [← R.size hc]; exact (List.getElem?_eq_some_iff.1 hv).1
        have h1 := (hat j hj).trans hv
        rw [← h1]
        unfold Addr.add
        split
        · rename_i h0
          have e1 : off + i * R.sz + j = off := by omega
          rw [e1]
        · rw [Nat.add_assoc]

/-- Fields one behind the other, from the cell `o` on. -/
def OpensL {α : Type} (P : Program) (fs : List Field) (o : Nat) (R : Rep α) : Prop :=
  ∀ {H : Type} (enc : TypeId × Value → H) (w : World) (base : Nat) (spare : Nat → Bool) (held : Bool) (n : Nat) (cs : List Value),
    (∀ (i : Nat) (f : Field), fs[i]? = some f → ∃ y, DataW.trod enc P w base spare held n f.type ((cs.drop f.offset).take (P.cellsOf f.type)) = some y) → cs.length = o + R.sz → ∃ a fp, R.enc w a (cs.drop o) fp
theorem opensL_one {α : Type} {P : Program} {f : Field} {o : Nat} {R : Rep α} (ho : f.offset = o) (hs : P.cellsOf f.type = R.sz) (h : Opens P f.type R) : OpensL P [f] o R := by
  intro H enc w base spare held n cs hf hl
  obtain ⟨y, hy⟩ := hf 0 f rfl
  obtain ⟨a, fp, ha⟩ := h enc w base spare held n _ _ hy
  rw [ho, hs, List.take_of_length_le (by simp; omega)] at ha
  exact ⟨a, fp, ha⟩
theorem opensL_cons {α β : Type} {P : Program} {f : Field} {fs : List Field} {o : Nat} {R : Rep α} {S : Rep β} (ho : f.offset = o) (hs : P.cellsOf f.type = R.sz) (h : Opens P f.type R) (hr : OpensL P fs (o + R.sz) S) : OpensL P (f :: fs) o (RPair R S) := by
  intro H enc w base spare held n cs hf hl
  obtain ⟨y, hy⟩ := hf 0 f rfl
  obtain ⟨a, fp, ha⟩ := h enc w base spare held n _ _ hy
  obtain ⟨b, fq, hb⟩ := hr enc w base spare held n cs (fun i g hg => hf (i + 1) g (by simpa using hg)) (by rw [hl]; simp [RPair]; omega)
  rw [ho, hs] at ha
  refine ⟨(a, b), fp ++ fq, (cs.drop o).take R.sz, cs.drop (o + R.sz), fp, fq, ?_, rfl, ha, hb⟩
  rw [← List.drop_drop, List.take_append_drop]
theorem opens_struct {α : Type} {P : Program} {t : TypeId} {fs : Array Field} {R : Rep α} (ht : P.underlying t = some (.struct fs)) (hs : P.cellsOf t = R.sz) (h : OpensL P fs.toList 0 R) : Opens P t R := by
  intro H enc w base spare held fuel cs x hx
  obtain ⟨xs, n, _, _, hlen, hxl, hf⟩ := DataW.trod_struct ht hx
  have := h enc w base spare held n cs (fun i f hfi => by
    have hfi' : fs[i]? = some f := by simpa using hfi
    rw [hf i f hfi']
    have hi : i < xs.length := by rw [hxl]; exact (Array.getElem?_eq_some_iff.1 hfi').1
    exact ⟨_, List.getElem?_eq_getElem hi⟩) (by rw [hlen, hs]; omega)
  simpa using this
theorem Opens.via {α β : Type} {P : Program} {t : TypeId} {R : Rep β} {f : α → β} (g : β → α) (hg : ∀ y, f (g y) = y) (h : Opens P t R) : Opens P t (R.via f) := by
  intro H enc w base spare held fuel cs x hx
  obtain ⟨a, fp, ha⟩ := h enc w base spare held fuel cs x hx
  exact ⟨g a, fp, by show R.enc w (f (g a)) cs fp; rw [hg]; exact ha⟩
end Go.Proofs.Ytmkjboeaooindaa
