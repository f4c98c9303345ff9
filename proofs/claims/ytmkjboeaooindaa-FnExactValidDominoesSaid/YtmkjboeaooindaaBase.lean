/- Words for memory that all texts of this seat share: how a datum lies in the heap (with the blocks that it takes), what is kept when a call only adds blocks. No program in sight. -/
import Derived.WalkKit
import Derived.Deep.QuietTactic
import Derived.BigQuiet
import Derived.Deep.RegionWith
import Derived.Lib.Hide
import Derived.KernelRfl
namespace Go.Proofs.Ytmkjboeaooindaa
open Go.RowKit

/-- The range of int64. -/
def Ok64 (n : Int) : Prop := -9223372036854775808 ≤ n ∧ n ≤ 9223372036854775807

/-- From cell `off` of block `b` on lie the cells `cs`. -/
def CellsAt (w : World) (b off : Nat) (cs : List Value) : Prop := ∀ i v, cs[i]? = some v → w.cell? ⟨b, off + i, none⟩ = some v

/-- A block of cells of which none is frozen. -/
def Free (w : World) (b : Nat) : Prop := ∃ c e, w.heap[b]? = some (.cells c e (0, 0))

theorem CellsAt.keep {w w' : World} {b off : Nat} {cs : List Value} (h : CellsAt w b off cs) (hb : w'.heap[b]? = w.heap[b]?) : CellsAt w' b off cs :=
  fun i v hv => (World.cell?_of_block (w := w) (a := ⟨b, off + i, none⟩) hb).trans (h i v hv)
theorem Free.keep {w w' : World} {b : Nat} (h : Free w b) (hb : w'.heap[b]? = w.heap[b]?) : Free w' b := by
  obtain ⟨c, e, h⟩ := h
  exact ⟨c, e, hb.trans h⟩
theorem Free.lt {w : World} {b : Nat} (h : Free w b) : b < w.heap.size := by
  obtain ⟨c, e, h⟩ := h
  exact (Array.getElem?_eq_some_iff.1 h).1
theorem Free.frozen {w : World} {b : Nat} (h : Free w b) (i : Nat) : w.frozen? ⟨b, i, none⟩ = false := by
  obtain ⟨c, e, h⟩ := h
  simp [World.frozen?, h]

/-- How a datum is laid: `sz` cells; what they are in a world; the blocks that its parts take. -/
structure Rep (α : Type) where
  sz : Nat
  enc : World → α → List Value → List Nat → Prop
  size : ∀ {w x cs fp}, enc w x cs fp → cs.length = sz
  keep : ∀ {w w' x cs fp}, enc w x cs fp → (∀ b ∈ fp, w'.heap[b]? = w.heap[b]?) → enc w' x cs fp
  lt : ∀ {w x cs fp}, enc w x cs fp → ∀ b ∈ fp, b < w.heap.size

/-- The slice at address `a` holds the list `xs`, in the blocks `fp`. -/
def EncSl {α : Type} (R : Rep α) (w : World) (a : Option Addr) (xs : List α) (fp : List Nat) : Prop :=
  (xs = [] ∧ fp = []) ∨ ∃ b off F, a = some ⟨b, off, none⟩ ∧ b < w.heap.size ∧ fp = b :: (List.range xs.length).flatMap F ∧
    ∀ i (h : i < xs.length), ∃ cs, R.enc w xs[i] cs (F i) ∧ CellsAt w b (off + i * R.sz) cs

theorem EncSl.keep {α : Type} {R : Rep α} {w w' : World} {a : Option Addr} {xs : List α} {fp : List Nat} (h : EncSl R w a xs fp) (hb : ∀ b ∈ fp, w'.heap[b]? = w.heap[b]?) : EncSl R w' a xs fp := by
  rcases h with h | ⟨b, off, F, ha, hlt, hfp, hi⟩
  · exact .inl h
  · subst hfp
    have hbb := hb b (by simp)
    refine .inr ⟨b, off, F, ha, ?_, rfl, fun i h => ?_⟩
    · rcases Nat.lt_or_ge b w'.heap.size with hl | hg
      · exact hl
      · rw [Array.getElem?_eq_none hg, Array.getElem?_eq_getElem hlt] at hbb
        cases hbb
    · obtain ⟨cs, hc, hat⟩ := hi i h
      exact ⟨cs, R.keep hc fun c hc' => hb c (by simp only [List.mem_cons, List.mem_flatMap, List.mem_range]; exact .inr ⟨i, h, hc'⟩), hat.keep hbb⟩

theorem EncSl.lt {α : Type} {R : Rep α} {w : World} {a : Option Addr} {xs : List α} {fp : List Nat} (h : EncSl R w a xs fp) : ∀ b ∈ fp, b < w.heap.size := by
  rcases h with ⟨_, rfl⟩ | ⟨b, off, F, ha, hlt, rfl, hi⟩
  · simp
  · intro c hc
    simp only [List.mem_cons, List.mem_flatMap, List.mem_range] at hc
    rcases hc with rfl | ⟨i, h, hc⟩
    · exact hlt
    · obtain ⟨cs, he, _⟩ := hi i h
      exact R.lt he c hc

/-- A slice that is read: all its blocks lie below `B`. -/
def Rd {α : Type} (R : Rep α) (B : Nat) (w : World) (a : Option Addr) (xs : List α) : Prop := ∃ fp, EncSl R w a xs fp ∧ ∀ b ∈ fp, b < B
/-- A datum that is read. -/
def RdV {α : Type} (R : Rep α) (B : Nat) (w : World) (x : α) (cs : List Value) : Prop := ∃ fp, R.enc w x cs fp ∧ ∀ b ∈ fp, b < B
/-- A slice of the call's own: its blocks differ, lie from `lo` on, none frozen. -/
def Own {α : Type} (R : Rep α) (lo hi : Nat) (w : World) (a : Option Addr) (xs : List α) : Prop := ∃ fp, EncSl R w a xs fp ∧ fp.Nodup ∧ ∀ b ∈ fp, lo ≤ b ∧ b < hi ∧ Free w b
def OwnV {α : Type} (R : Rep α) (lo hi : Nat) (w : World) (x : α) (cs : List Value) : Prop := ∃ fp, R.enc w x cs fp ∧ fp.Nodup ∧ ∀ b ∈ fp, lo ≤ b ∧ b < hi ∧ Free w b

section
variable {α : Type} {R : Rep α} {B B' lo hi : Nat} {w w' : World} {a : Option Addr} {xs : List α} {x : α} {cs : List Value}
theorem Rd.keep (h : Rd R B w a xs) (hb : Below B w w') : Rd R B w' a xs := by
  obtain ⟨fp, he, hl⟩ := h
  exact ⟨fp, he.keep fun b hm => hb.block b (hl b hm), hl⟩
theorem RdV.keep (h : RdV R B w x cs) (hb : Below B w w') : RdV R B w' x cs := by
  obtain ⟨fp, he, hl⟩ := h
  exact ⟨fp, R.keep he fun b hm => hb.block b (hl b hm), hl⟩
theorem Rd.more (h : Rd R B w a xs) (hB : B ≤ B') : Rd R B' w a xs := by
  obtain ⟨fp, he, hl⟩ := h
  exact ⟨fp, he, fun b hm => Nat.lt_of_lt_of_le (hl b hm) hB⟩
theorem RdV.more (h : RdV R B w x cs) (hB : B ≤ B') : RdV R B' w x cs := by
  obtain ⟨fp, he, hl⟩ := h
  exact ⟨fp, he, fun b hm => Nat.lt_of_lt_of_le (hl b hm) hB⟩
theorem Rd.nil : Rd R B w a [] := ⟨[], .inl ⟨rfl, rfl⟩, by simp⟩
theorem Own.nil : Own R lo hi w a [] := ⟨[], .inl ⟨rfl, rfl⟩, by simp, by simp⟩
theorem Own.rd (h : Own R lo hi w a xs) : Rd R hi w a xs := by
  obtain ⟨fp, he, _, hl⟩ := h
  exact ⟨fp, he, fun b hm => (hl b hm).2.1⟩
theorem OwnV.rd (h : OwnV R lo hi w x cs) : RdV R hi w x cs := by
  obtain ⟨fp, he, _, hl⟩ := h
  exact ⟨fp, he, fun b hm => (hl b hm).2.1⟩
theorem Own.far (h : Own R lo hi w a xs) (hb : ∀ b, lo ≤ b → b < hi → b < w.heap.size → w'.heap[b]? = w.heap[b]?) : Own R lo hi w' a xs := by
  obtain ⟨fp, he, hn, hl⟩ := h
  have hk : ∀ b ∈ fp, w'.heap[b]? = w.heap[b]? := fun b hm => hb b (hl b hm).1 (hl b hm).2.1 (he.lt b hm)
  exact ⟨fp, he.keep hk, hn, fun b hm => ⟨(hl b hm).1, (hl b hm).2.1, (hl b hm).2.2.keep (hk b hm)⟩⟩
theorem OwnV.far (h : OwnV R lo hi w x cs) (hb : ∀ b, lo ≤ b → b < hi → b < w.heap.size → w'.heap[b]? = w.heap[b]?) : OwnV R lo hi w' x cs := by
  obtain ⟨fp, he, hn, hl⟩ := h
  have hk : ∀ b ∈ fp, w'.heap[b]? = w.heap[b]? := fun b hm => hb b (hl b hm).1 (hl b hm).2.1 (R.lt he b hm)
  exact ⟨fp, R.keep he hk, hn, fun b hm => ⟨(hl b hm).1, (hl b hm).2.1, (hl b hm).2.2.keep (hk b hm)⟩⟩
theorem Own.keep (h : Own R lo hi w a xs) (hb : Below w.heap.size w w') : Own R lo hi w' a xs := h.far fun b _ _ hl => hb.block b hl
theorem OwnV.keep (h : OwnV R lo hi w x cs) (hb : Below w.heap.size w w') : OwnV R lo hi w' x cs := h.far fun b _ _ hl => hb.block b hl
theorem Own.setCell (h : Own R lo hi w a xs) {p : Addr} (hp : p.block < lo ∨ hi ≤ p.block) (v : Value) : Own R lo hi (w.setCell p v) a xs :=
  h.far fun b h1 h2 _ => Below.heap_setCell w p v b (by omega)
theorem OwnV.setCell (h : OwnV R lo hi w x cs) {p : Addr} (hp : p.block < lo ∨ hi ≤ p.block) (v : Value) : OwnV R lo hi (w.setCell p v) x cs :=
  h.far fun b h1 h2 _ => Below.heap_setCell w p v b (by omega)
theorem Own.alloc (h : Own R lo hi w a xs) (o : Obj) : Own R lo hi (w.alloc o) a xs := h.far fun b _ _ hl => Below.heap_alloc w o b hl
theorem OwnV.alloc (h : OwnV R lo hi w x cs) (o : Obj) : OwnV R lo hi (w.alloc o) x cs := h.far fun b _ _ hl => Below.heap_alloc w o b hl
theorem Own.wide {lo' hi' : Nat} (h : Own R lo hi w a xs) (hl : lo' ≤ lo) (hh : hi ≤ hi') : Own R lo' hi' w a xs := by
  obtain ⟨fp, he, hn, hf⟩ := h
  exact ⟨fp, he, hn, fun b hm => ⟨Nat.le_trans hl (hf b hm).1, Nat.lt_of_lt_of_le (hf b hm).2.1 hh, (hf b hm).2.2⟩⟩
theorem OwnV.wide {lo' hi' : Nat} (h : OwnV R lo hi w x cs) (hl : lo' ≤ lo) (hh : hi ≤ hi') : OwnV R lo' hi' w x cs := by
  obtain ⟨fp, he, hn, hf⟩ := h
  exact ⟨fp, he, hn, fun b hm => ⟨Nat.le_trans hl (hf b hm).1, Nat.lt_of_lt_of_le (hf b hm).2.1 hh, (hf b hm).2.2⟩⟩
theorem Rd.setCell (h : Rd R B w a xs) {p : Addr} (hp : B ≤ p.block) (v : Value) : Rd R B (w.setCell p v) a xs := h.keep ((Below.refl _ _).setCell hp v)
theorem nodup_parts {f1 f2 : List Nat} {m : Nat} (h1 : f1.Nodup) (h2 : f2.Nodup) (l1 : ∀ b ∈ f1, b < m) (l2 : ∀ b ∈ f2, m ≤ b) : (f1 ++ f2).Nodup := by
  rw [List.nodup_append]
  exact ⟨h1, h2, fun x hx y hy e => by have := l1 x hx; have := l2 y hy; omega⟩
/-- The element at a place, with its cells. -/
theorem Rd.elem (h : Rd R B w a xs) {k : Nat} (hk : k < xs.length) : ∃ b off cs, a = some ⟨b, off, none⟩ ∧ b < B ∧ CellsAt w b (off + k * R.sz) cs ∧ RdV R B w xs[k] cs := by
  obtain ⟨fp, he, hl⟩ := h
  rcases he with ⟨rfl, _⟩ | ⟨b, off, F, ha, hlt, rfl, hi⟩
  · simp at hk
  · obtain ⟨cs, hc, hat⟩ := hi k hk
    refine ⟨b, off, cs, ha, hl b (by simp), hat, F k, hc, fun c hc' => hl c ?_⟩
    simp only [List.mem_cons, List.mem_flatMap, List.mem_range]
    exact .inr ⟨k, hk, hc'⟩
end

/-- An int64. -/
def RInt : Rep Int where
  sz := 1
  enc := fun _ x cs fp => cs = [.int .i64 x] ∧ fp = [] ∧ Ok64 x
  size := fun h => by rw [h.1]; rfl
  keep := fun h _ => h
  lt := fun h => by rw [h.2.1]; simp
def RBool : Rep Bool where
  sz := 1
  enc := fun _ x cs fp => cs = [.bool x] ∧ fp = []
  size := fun h => by rw [h.1]; rfl
  keep := fun h _ => h
  lt := fun h => by rw [h.2]; simp
def RStr : Rep ByteArray where
  sz := 1
  enc := fun _ x cs fp => cs = [.string x] ∧ fp = [] ∧ x.size ≤ maxLen
  size := fun h => by rw [h.1]; rfl
  keep := fun h _ => h
  lt := fun h => by rw [h.2.1]; simp
/-- A slice, as one cell. -/
def RSl {α : Type} (R : Rep α) : Rep (List α) where
  sz := 1
  enc := fun w xs cs fp => ∃ a cap, cs = [.slice a xs.length cap] ∧ xs.length ≤ cap ∧ cap ≤ maxLen ∧ EncSl R w a xs fp
  size := fun ⟨_, _, h, _⟩ => by rw [h]; rfl
  keep := fun ⟨a, cap, h, h1, h2, he⟩ hb => ⟨a, cap, h, h1, h2, he.keep hb⟩
  lt := fun ⟨_, _, _, _, _, he⟩ => he.lt

/-- Two data, one behind the other. -/
def RPair {α β : Type} (R : Rep α) (S : Rep β) : Rep (α × β) where
  sz := R.sz + S.sz
  enc := fun w x cs fp => ∃ c1 c2 f1 f2, cs = c1 ++ c2 ∧ fp = f1 ++ f2 ∧ R.enc w x.1 c1 f1 ∧ S.enc w x.2 c2 f2
  size := fun ⟨_, _, _, _, h, _, h1, h2⟩ => by rw [h, List.length_append, R.size h1, S.size h2]
  keep := fun ⟨c1, c2, f1, f2, h, hf, h1, h2⟩ hb => ⟨c1, c2, f1, f2, h, hf, R.keep h1 fun b hm => hb b (by rw [hf]; simp [hm]), S.keep h2 fun b hm => hb b (by rw [hf]; simp [hm])⟩
  lt := fun ⟨_, _, _, _, _, hf, h1, h2⟩ b hb => by
    rw [hf] at hb
    rcases List.mem_append.1 hb with hb | hb
    · exact R.lt h1 b hb
    · exact S.lt h2 b hb
/-- A datum told by another. -/
def Rep.via {α β : Type} (R : Rep β) (f : α → β) : Rep α where
  sz := R.sz
  enc := fun w x cs fp => R.enc w (f x) cs fp
  size := fun h => R.size h
  keep := fun h hb => R.keep h hb
  lt := fun h => R.lt h

theorem Rd.int {B : Nat} {w : World} {a : Option Addr} {xs : List Int} (h : Rd RInt B w a xs) {k : Nat} (hk : k < xs.length) :
    ∃ b off, a = some ⟨b, off, none⟩ ∧ b < B ∧ w.cell? ⟨b, off + k, none⟩ = some (.int .i64 xs[k]) ∧ Ok64 xs[k] := by
  obtain ⟨b, off, cs, ha, hb, hat, fp, ⟨rfl, _, hok⟩, _⟩ := h.elem hk
  have := hat 0 _ rfl
  exact ⟨b, off, ha, hb, by simpa [RInt] using this, hok⟩

/-- A block of the call's own, of `n` elements' cells, of which the first hold `ys`; the blocks of these lie from `lo` to `hi` and differ. -/
def Row {α : Type} (R : Rep α) (lo hi : Nat) (w : World) (g e n : Nat) (ys : List α) : Prop :=
  ∃ cur F, w.heap[g]? = some (.cells cur e (0, 0)) ∧ cur.size = n * R.sz ∧ ys.length ≤ n ∧ (g < lo ∨ hi ≤ g) ∧ ((List.range ys.length).flatMap F).Nodup ∧
    ∀ i (h : i < ys.length), (∃ cs, R.enc w ys[i] cs (F i) ∧ ∀ j v, cs[j]? = some v → cur[i * R.sz + j]? = some v) ∧ ∀ b ∈ F i, lo ≤ b ∧ b < hi ∧ Free w b

section
variable {α : Type} {R : Rep α} {lo hi : Nat} {w w' : World} {g e n : Nat} {ys : List α}
theorem Row.new {cur : Array Value} (hh : w.heap[g]? = some (.cells cur e (0, 0))) (hs : cur.size = n * R.sz) (hg : g < lo ∨ hi ≤ g) : Row R lo hi w g e n [] :=
  ⟨cur, fun _ => [], hh, hs, Nat.zero_le _, hg, by simp, fun i h => by simp at h⟩
theorem Row.block (h : Row R lo hi w g e n ys) : ∃ cur, w.heap[g]? = some (.cells cur e (0, 0)) ∧ cur.size = n * R.sz := by
  obtain ⟨cur, F, hh, hs, _⟩ := h
  exact ⟨cur, hh, hs⟩
theorem Row.cell (h : Row R lo hi w g e n ys) {j : Nat} (hj : j < n * R.sz) : ∃ v, w.cell? ⟨g, j, none⟩ = some v := by
  obtain ⟨cur, hh, hs⟩ := h.block
  exact ⟨cur[j], by simp [World.cell?, hh, hs, hj]⟩
theorem Row.frozen (h : Row R lo hi w g e n ys) (j : Nat) : w.frozen? ⟨g, j, none⟩ = false := by
  obtain ⟨cur, hh, hs⟩ := h.block
  simp [World.frozen?, hh]
theorem Row.lt (h : Row R lo hi w g e n ys) : g < w.heap.size := by
  obtain ⟨cur, hh, hs⟩ := h.block
  exact (Array.getElem?_eq_some_iff.1 hh).1
theorem Row.far (h : Row R lo hi w g e n ys) (hb : ∀ b, lo ≤ b → b < hi → b < w.heap.size → w'.heap[b]? = w.heap[b]?) (hg : w'.heap[g]? = w.heap[g]?) : Row R lo hi w' g e n ys := by
  obtain ⟨cur, F, hh, hs, hn, hgl, hnd, hi⟩ := h
  refine ⟨cur, F, hg.trans hh, hs, hn, hgl, hnd, fun i hlt => ?_⟩
  obtain ⟨⟨cs, hc, hat⟩, hl⟩ := hi i hlt
  have hk : ∀ b ∈ F i, w'.heap[b]? = w.heap[b]? := fun b hm => hb b (hl b hm).1 (hl b hm).2.1 (R.lt hc b hm)
  exact ⟨⟨cs, R.keep hc hk, hat⟩, fun b hm => ⟨(hl b hm).1, (hl b hm).2.1, (hl b hm).2.2.keep (hk b hm)⟩⟩
theorem Row.keep (h : Row R lo hi w g e n ys) (hb : Below w.heap.size w w') : Row R lo hi w' g e n ys := h.far (fun b _ _ hl => hb.block b hl) (hb.block g h.lt)
theorem Row.wide {hi' : Nat} (h : Row R lo hi w g e n ys) (hh : hi ≤ hi') (hg : g < lo) : Row R lo hi' w g e n ys := by
  obtain ⟨cur, F, hh', hs, hn, hgl, hnd, hi⟩ := h
  refine ⟨cur, F, hh', hs, hn, .inl hg, hnd, fun i hlt => ⟨(hi i hlt).1, fun b hm => ?_⟩⟩
  have := (hi i hlt).2 b hm
  exact ⟨this.1, by omega, this.2.2⟩
/-- The next element is stored. -/
theorem Row.push {hi' : Nat} {x : α} {cs : List Value} (h : Row R lo hi w g e n ys) (hx : OwnV R hi hi' w x cs) (hh : hi ≤ hi') (hg : g < lo) (hn : ys.length < n) (hll : lo ≤ hi)
    (hsame : ∀ b, b ≠ g → w'.heap[b]? = w.heap[b]?)
    (hst : ∀ cur, w.heap[g]? = some (.cells cur e (0, 0)) → ∃ cur', w'.heap[g]? = some (.cells cur' e (0, 0)) ∧ cur'.size = cur.size ∧ (∀ j, (j < ys.length * R.sz ∨ (ys.length + 1) * R.sz ≤ j) → cur'[j]? = cur[j]?) ∧ ∀ j v, cs[j]? = some v → cur'[ys.length * R.sz + j]? = some v) :
    Row R lo hi' w' g e n (ys ++ [x]) := by
  obtain ⟨cur, F, hh', hs, hnn, hgl, hnd, hi0⟩ := h
  obtain ⟨fx, hex, hndx, hlx⟩ := hx
  obtain ⟨cur', h1, h2, h3, h4⟩ := hst cur hh'
  have hgfx : ∀ b ∈ fx, b ≠ g := fun b hm e => by have := (hlx b hm).1; omega
  refine ⟨cur', fun i => if i < ys.length then F i else fx, h1, h2.trans hs, by simp; omega, .inl hg, ?_, fun i hlt => ?_⟩
  · rw [List.length_append, List.length_singleton, List.range_succ, List.flatMap_append]
    have e1 : (List.range ys.length).flatMap (fun i => if i < ys.length then F i else fx) = (List.range ys.length).flatMap F := by
      simp only [List.flatMap_def]
      congr 1
      exact List.map_congr_left fun i hm => by simp [List.mem_range.1 hm]
    rw [e1]
    simp only [List.flatMap_cons, List.flatMap_nil, List.append_nil, Nat.lt_irrefl, if_false]
    refine nodup_parts (m := hi) hnd hndx (fun b hm => ?_) (fun b hm => (hlx b hm).1)
    simp only [List.mem_flatMap, List.mem_range] at hm
    obtain ⟨i, hil, hm⟩ := hm
    exact ((hi0 i hil).2 b hm).2.1
  · simp only [List.length_append, List.length_singleton] at hlt
    by_cases hil : i < ys.length
    · obtain ⟨⟨c1, hc1, hat⟩, hl⟩ := hi0 i hil
      have hne : ∀ b ∈ F i, b ≠ g := fun b hm e => by have := (hl b hm).1; omega
      simp only [hil, if_true]
      refine ⟨⟨c1, ?_, fun j v hv => ?_⟩, fun b hm => ⟨(hl b hm).1, by have := (hl b hm).2.1; omega, (hl b hm).2.2.keep (hsame b (hne b hm))⟩⟩
      · rw [List.getElem_append_left hil]
        exact R.keep hc1 fun b hm => hsame b (hne b hm)
      · rw [h3 _ (.inl ?_)]
        · exact hat j v hv
        · have hjl : j < R.sz := by rw [← R.size hc1]; exact (List.getElem?_eq_some_iff.1 hv).1
          have : (i + 1) * R.sz ≤ ys.length * R.sz := Nat.mul_le_mul_right _ hil
          rw [Nat.add_mul] at this
          omega
    · have : i = ys.length := by omega
      subst this
      simp only [Nat.lt_irrefl, if_false]
      refine ⟨⟨cs, ?_, h4⟩, fun b hm => ⟨by have := (hlx b hm).1; omega, (hlx b hm).2.1, (hlx b hm).2.2.keep (hsame b (hgfx b hm))⟩⟩
      rw [List.getElem_append_right (Nat.le_refl _)]
      simp only [Nat.sub_self, List.getElem_cons_zero]
      exact R.keep hex fun b hm => hsame b (hgfx b hm)
/-- Cells stored one behind the other. -/
def setRow (w : World) (g : Nat) : Nat → List Value → World
  | _, [] => w
  | off, v :: vs => setRow (w.setCell ⟨g, off, none⟩ v) g (off + 1) vs
theorem setRow_other (g : Nat) : ∀ (cs : List Value) (off : Nat) (w : World) (b : Nat), b ≠ g → (setRow w g off cs).heap[b]? = w.heap[b]?
  | [], _, _, _, _ => rfl
  | v :: vs, off, w, b, hb => (setRow_other g vs (off + 1) _ b hb).trans (Below.heap_setCell w ⟨g, off, none⟩ v b hb)
theorem setRow_size (g : Nat) : ∀ (cs : List Value) (off : Nat) (w : World), (setRow w g off cs).heap.size = w.heap.size
  | [], _, _ => rfl
  | v :: vs, off, w => (setRow_size g vs (off + 1) _).trans (by simp [World.setCell])
theorem setRow_same (g e : Nat) : ∀ (cs : List Value) (off : Nat) (w : World) (cur : Array Value), w.heap[g]? = some (.cells cur e (0, 0)) → off + cs.length ≤ cur.size →
    ∃ cur', (setRow w g off cs).heap[g]? = some (.cells cur' e (0, 0)) ∧ cur'.size = cur.size ∧ (∀ j, (j < off ∨ off + cs.length ≤ j) → cur'[j]? = cur[j]?) ∧ ∀ j v, cs[j]? = some v → cur'[off + j]? = some v
  | [], off, w, cur, hh, _ => ⟨cur, hh, rfl, fun _ _ => rfl, fun j v hv => by simp at hv⟩
  | v :: vs, off, w, cur, hh, hs => by
    simp only [List.length_cons] at hs
    obtain ⟨cur', h1, h2, h3, h4⟩ := setRow_same g e vs (off + 1) (w.setCell ⟨g, off, none⟩ v) (cur.setIfInBounds off v) (by simp [World.setCell, Array.getElem?_modify, hh]) (by simp; omega)
    refine ⟨cur', h1, by simpa using h2, fun j hj => ?_, fun j u hu => ?_⟩
    · simp only [List.length_cons] at hj
      rw [h3 j (by omega), Array.getElem?_setIfInBounds, if_neg (by omega)]
    · cases j with
      | zero =>
        simp at hu
        subst hu
        rw [Nat.add_zero, h3 off (.inl (by omega)), Array.getElem?_setIfInBounds, if_pos rfl, if_pos (by omega)]
      | succ j =>
        have := h4 j u (by simpa using hu)
        rw [← this]
        congr 1
        omega
/-- The next element is stored, cell by cell. -/
theorem Row.pushed {hi' k : Nat} {x : α} {cs : List Value} (h : Row R lo hi w g e n ys) (hx : OwnV R hi hi' w x cs) (hh : hi ≤ hi') (hg : g < lo) (hk : ys.length = k) (hn : k < n) (hll : lo ≤ hi) :
    Row R lo hi' (setRow w g (k * R.sz) cs) g e n (ys ++ [x]) := by
  subst hk
  have hcs : cs.length = R.sz := by obtain ⟨fp, he, _⟩ := hx; exact R.size he
  have hmul : (ys.length + 1) * R.sz ≤ n * R.sz := Nat.mul_le_mul_right _ hn
  rw [Nat.add_mul, Nat.one_mul] at hmul
  refine h.push hx hh hg hn hll (fun b hb => setRow_other g cs _ w b hb) (fun cur hc => ?_)
  have hsz : cur.size = n * R.sz := by
    obtain ⟨cur2, h2, h3⟩ := h.block
    rw [hc] at h2
    injection h2 with h2
    injection h2 with h2
    rw [h2]
    exact h3
  obtain ⟨cur', h1, h2, h3, h4⟩ := setRow_same g e cs (ys.length * R.sz) w cur hc (by omega)
  exact ⟨cur', h1, h2, fun j hj => h3 j (by rw [Nat.add_mul, Nat.one_mul] at hj; omega), h4⟩
/-- The row is whole. -/
theorem Row.own {off0 : Nat} (h : Row R lo hi w g e n ys) (hg : off0 ≤ g) (hg' : g < lo) (hll : lo ≤ hi) : Own R off0 hi w (some ⟨g, 0, none⟩) ys := by
  have hlt := h.lt
  obtain ⟨cur, F, hh, hs, hnn, hgl, hnd, hi0⟩ := h
  refine ⟨g :: (List.range ys.length).flatMap F, .inr ⟨g, 0, F, rfl, hlt, rfl, fun i hil => ?_⟩, ?_, ?_⟩
  · obtain ⟨⟨cs, hc, hat⟩, hl⟩ := hi0 i hil
    exact ⟨cs, hc, fun j v hv => by simp [World.cell?, hh, hat j v hv]⟩
  · rw [List.nodup_cons]
    refine ⟨fun hm => ?_, hnd⟩
    simp only [List.mem_flatMap, List.mem_range] at hm
    obtain ⟨i, hil, hm⟩ := hm
    have := ((hi0 i hil).2 g hm).1
    omega
  · intro b hm
    rcases List.mem_cons.1 hm with rfl | hm
    · exact ⟨hg, by omega, cur, e, hh⟩
    · simp only [List.mem_flatMap, List.mem_range] at hm
      obtain ⟨i, hil, hm⟩ := hm
      have := (hi0 i hil).2 b hm
      exact ⟨by omega, this.2⟩
end

/-- What a world that a call leaves has kept. -/
abbrev Ext (w w' : World) : Prop := Below w.heap.size w w'
theorem Ext.trans {a b c : World} (h : Ext a b) (k : Ext b c) : Ext a c := Below.trans h (k.mono h.size)
theorem ext_cells {w w' : World} (h : Ext w w') : (∀ b o, b < w.heap.size → w'.cell? ⟨b, o, none⟩ = w.cell? ⟨b, o, none⟩) ∧ (∀ b o, b < w.heap.size → w'.frozen? ⟨b, o, none⟩ = w.frozen? ⟨b, o, none⟩) :=
  ⟨fun b o hb => h.cell (p := ⟨b, o, none⟩) hb, fun b o hb => h.frozen (p := ⟨b, o, none⟩) hb⟩
theorem below_drewN {B : Nat} {a w : World} (h : Below B a w) (n : Nat) : Below B a (w.drewN n) := ⟨h.os, h.tape, h.output, h.size, h.block⟩

theorem dr2 (w : World) (n m : Nat) : ∃ k, (w.drewN n).drewN m = w.drewN k := ⟨_, World.drewN_drewN _ _ _⟩
theorem dr1 (w : World) (n : Nat) : ∃ k, w.drewN n = w.drewN k := ⟨_, rfl⟩
theorem dr0 (w : World) : ∃ k, w = w.drewN k := ⟨0, rfl⟩

/-! A region that draws its order, whose operations read and whose calls only add blocks: one walk in the order of the text, in whatever world that extends the first. -/
structure ExtOf (w : World) where
  to : World
  ext : Ext w to
instance (w : World) : Nonempty (ExtOf w) := ⟨⟨w, Below.refl _ _⟩⟩
def extW (w : World) (e : ExtOf w) : World := e.to
theorem ext_of (w : World) (e : ExtOf w) : Ext w (extW w e) := e.ext
theorem wp_region_ext {P : Program} {id : Nat} {Q : Exit → Act → World → Prop} {a : Act} {w : World} {l : List Oper} (hm : P.follows .mixedOrders = true) (hB : Region.lexB .any l.toArray = true)
    (h : wpQuiet P l.toArray (fun w' => ∃ e, w' = extW w e) (fun a' => ∀ w', (∃ e, w' = extW w e) → Q .normal a' w') l a) : (Code.region id l.toArray true).wp P Q a w :=
  wp_region_quiet (C := fun w' => ∃ e, w' = extW w e) hm hB ⟨⟨_, (Below.refl _ _).drew⟩, rfl⟩ (by simpa using h)
theorem cell_extW (w : World) : ∀ (e : ExtOf w) (b o : Nat), b < w.heap.size → (extW w e).cell? ⟨b, o, none⟩ = w.cell? ⟨b, o, none⟩ := fun e b o hb => e.ext.cell (p := ⟨b, o, none⟩) hb
theorem call_ext {P : Program} {f : FuncId} {args : Array Value} {w : World} {e : ExtOf w} {v v' : Value} (h : Calls P f args (extW w e) fun r w' => r = .returned v' ∧ Ext (extW w e) w') (hv : v' = v) :
    Calls P f args (extW w e) fun r w'' => r = .returned v ∧ ∃ e', w'' = extW w e' :=
  h.mono fun _ w' ⟨hr, hw⟩ => ⟨hv ▸ hr, ⟨w', Ext.trans e.ext hw⟩, rfl⟩
theorem call_same {P : Program} {f : FuncId} {args : Array Value} {w : World} {e : ExtOf w} {v v' : Value} (h : Calls P f args (extW w e) fun r w' => r = .returned v' ∧ extW w e = w') (hv : v' = v) :
    Calls P f args (extW w e) fun r w'' => r = .returned v ∧ ∃ e', w'' = extW w e' :=
  h.mono fun _ w' ⟨hr, hw⟩ => ⟨hv ▸ hr, e, hw.symm⟩
theorem call_drew {P : Program} {f : FuncId} {args : Array Value} {w : World} {e : ExtOf w} {v v' : Value} (h : Calls P f args (extW w e) fun r w' => r = .returned v' ∧ ∃ n, w' = (extW w e).drewN n) (hv : v' = v) :
    Calls P f args (extW w e) fun r w'' => r = .returned v ∧ ∃ e', w'' = extW w e' :=
  h.mono fun _ w' ⟨hr, n, hw⟩ => ⟨hv ▸ hr, ⟨w', Ext.trans e.ext (hw ▸ below_drewN (Below.refl _ _) n)⟩, rfl⟩
section
variable {α : Type} {R : Rep α} {B : Nat} {w : World} {a : Option Addr} {xs : List α}
theorem Rd.inExt (h : Rd R w.heap.size w a xs) (e : ExtOf w) : Rd R (extW w e).heap.size (extW w e) a xs := (h.keep e.ext).more e.ext.size
theorem Rd.ext {w' : World} (h : Rd R w.heap.size w a xs) (e : Ext w w') : Rd R w'.heap.size w' a xs := (h.keep e).more e.size
end

/-- A call of this function comes to its body. -/
def Enters (P : Program) (c : Nat) : Prop := ∀ (args : Array Value) (w : World), (callFunc c args).run P w = .ok (.enter c args) w
theorem enters_of {P : Program} {c : Nat} {fn : Func} (hf : P.funcs[c]? = some fn) (hn : (fn.name == "runtime.NumGoroutine") = false) (hb : fn.body.isNone = false) : Enters P c := by
  intro args w
  have h1 : ¬ fn.name = "runtime.NumGoroutine" := by simpa using hn
  have h2 : ¬ fn.body = none := by intro h; rw [h] at hb; cases hb
  simp [callFunc, program, Sem.run, hf, h1, h2]

theorem ret_bool {a b : Bool} (h : a = b) : Ending.returned (.bool a) = .returned (.bool b) := by rw [h]
theorem ret_int {k : IntKind} {a b : Int} (h : a = b) : Ending.returned (.int k a) = .returned (.int k b) := by rw [h]
end Go.Proofs.Ytmkjboeaooindaa
