/- The helpers of the statements at dominoes. -/
import Derived.Test.YtmkjboeaooindaaInts
namespace Go.Proofs.Ytmkjboeaooindaa
open Go.RowKit

structure Domino where
  top : List Int
  bottom : List Int
  deriving DecidableEq

def RDomino : Rep Domino := (RPair (RSl RInt) (RSl RInt)).via fun x => (x.top, x.bottom)
theorem RDomino.to {w : World} {x : Domino} {cs : List Value} {fp : List Nat} (h : RDomino.enc w x cs fp) :
    ∃ a1 c1 f1 a2 c2 f2, cs = [.slice a1 x.top.length c1, .slice a2 x.bottom.length c2] ∧ fp = f1 ++ f2 ∧ x.top.length ≤ c1 ∧ c1 ≤ maxLen ∧ EncSl RInt w a1 x.top f1 ∧ x.bottom.length ≤ c2 ∧ c2 ≤ maxLen ∧ EncSl RInt w a2 x.bottom f2 := by
  obtain ⟨_, _, f1, f2, rfl, rfl, ⟨a1, c1, rfl, l1, m1, e1⟩, ⟨a2, c2, rfl, l2, m2, e2⟩⟩ := h
  exact ⟨a1, c1, f1, a2, c2, f2, rfl, rfl, l1, m1, e1, l2, m2, e2⟩
theorem RDomino.of {w : World} {x : Domino} {a1 a2 : Option Addr} {c1 c2 : Nat} {f1 f2 : List Nat} (l1 : x.top.length ≤ c1) (m1 : c1 ≤ maxLen) (e1 : EncSl RInt w a1 x.top f1) (l2 : x.bottom.length ≤ c2) (m2 : c2 ≤ maxLen) (e2 : EncSl RInt w a2 x.bottom f2) :
    RDomino.enc w x [.slice a1 x.top.length c1, .slice a2 x.bottom.length c2] (f1 ++ f2) :=
  ⟨[_], [_], f1, f2, rfl, rfl, ⟨a1, c1, rfl, l1, m1, e1⟩, ⟨a2, c2, rfl, l2, m2, e2⟩⟩

theorem RdV.domino {B : Nat} {w : World} {x : Domino} {cs : List Value} (h : RdV RDomino B w x cs) :
    ∃ a1 c1 a2 c2, cs = [.slice a1 x.top.length c1, .slice a2 x.bottom.length c2] ∧ x.top.length ≤ c1 ∧ c1 ≤ maxLen ∧ Rd RInt B w a1 x.top ∧ x.bottom.length ≤ c2 ∧ c2 ≤ maxLen ∧ Rd RInt B w a2 x.bottom := by
  obtain ⟨fp, he, hl⟩ := h
  obtain ⟨a1, c1, f1, a2, c2, f2, h, hfp, l1, m1, e1, l2, m2, e2⟩ := RDomino.to he
  subst hfp
  exact ⟨a1, c1, a2, c2, h, l1, m1, ⟨f1, e1, fun b hb => hl b (by simp [hb])⟩, l2, m2, ⟨f2, e2, fun b hb => hl b (by simp [hb])⟩⟩

theorem Rd.domino {B : Nat} {w : World} {a : Option Addr} {xs : List Domino} (h : Rd RDomino B w a xs) {k : Nat} (hk : k < xs.length) :
    ∃ b off a1 c1 a2 c2, a = some ⟨b, off, none⟩ ∧ b < B ∧ w.cell? ⟨b, off + k * 2, none⟩ = some (.slice a1 xs[k].top.length c1) ∧ w.cell? ⟨b, off + k * 2 + 1, none⟩ = some (.slice a2 xs[k].bottom.length c2) ∧
      (xs[k].top.length ≤ c1 ∧ c1 ≤ maxLen ∧ Rd RInt B w a1 xs[k].top) ∧ (xs[k].bottom.length ≤ c2 ∧ c2 ≤ maxLen ∧ Rd RInt B w a2 xs[k].bottom) := by
  obtain ⟨b, off, cs, ha, hb, hat, hv⟩ := h.elem hk
  obtain ⟨a1, c1, a2, c2, rfl, l1, m1, e1, l2, m2, e2⟩ := hv.domino
  exact ⟨b, off, a1, c1, a2, c2, ha, hb, hat 0 _ rfl, hat 1 _ rfl, ⟨l1, m1, e1⟩, l2, m2, e2⟩

theorem OwnV.domino_mk {lo m hi : Nat} {w : World} {x : Domino} {a1 a2 : Option Addr} {c1 c2 : Nat} (l1 : x.top.length ≤ c1) (m1 : c1 ≤ maxLen) (h1 : Own RInt lo m w a1 x.top) (l2 : x.bottom.length ≤ c2) (m2 : c2 ≤ maxLen) (h2 : Own RInt m hi w a2 x.bottom) (hl : lo ≤ m) (hh : m ≤ hi) :
    OwnV RDomino lo hi w x [.slice a1 x.top.length c1, .slice a2 x.bottom.length c2] := by
  obtain ⟨f1, e1, n1, b1⟩ := h1
  obtain ⟨f2, e2, n2, b2⟩ := h2
  refine ⟨f1 ++ f2, RDomino.of l1 m1 e1 l2 m2 e2, nodup_parts (m := m) n1 n2 (fun b hb => (b1 b hb).2.1) (fun b hb => (b2 b hb).1), fun b hb => ?_⟩
  rcases List.mem_append.1 hb with hb | hb
  · have := b1 b hb; exact ⟨this.1, by omega, this.2.2⟩
  · have := b2 b hb; exact ⟨by omega, this.2⟩

def szDom (x : Domino) (left : Int) : Int := if szI x.top.length left < 0 then -1 else szI x.bottom.length (szI x.top.length left)
def szDomS : List Domino → Int → Int
  | [], left => left
  | x :: xs, left => if szDom x left < 0 then -1 else szDomS xs (szDom x left)

theorem szI_le {n : Nat} {left : Int} (h : left ≤ 1048576) : szI n left ≤ 1048576 := by unfold szI; split <;> omega

theorem szDomino (x : Domino) (a1 a2 : Option Addr) (c1 c2 : Nat) (left : Int) (w : World) (hn : x.top.length ≤ 9223372036854775807) (hn' : x.bottom.length ≤ 9223372036854775807) (h1 : left ≤ 1048576) (h0 : 0 ≤ left) :
    Calls Try.prog 9 #[.agg #[.slice a1 x.top.length c1, .slice a2 x.bottom.length c2], .int .i64 left] w fun e w' => e = .returned (.int .i64 (szDom x left)) ∧ Ext w w' := by
  have g1 := szI_le (n := x.top.length) h1
  go_enter Try.func9, Try.ntmps9
  go_wp2_with (go_at_call 18; refine (szInt64S _ _ _ _ _ (by omega) (by omega) (by omega)).mono ?_; rintro e w' ⟨rfl, rfl⟩)
  · go_ret
    exact ⟨ret_int (by rw [szDom, if_pos (by assumption)]), (Below.refl _ _).alloc (Nat.le_refl _) _⟩
  all_goals
    go_ret
    refine ⟨ret_int ?_, (Below.refl _ _).alloc (Nat.le_refl _) _⟩
    rw [szDom, if_neg (by omega)]
    first | done | (unfold szI at *; split <;> omega)

theorem toDomino (x : Domino) (a1 a2 : Option Addr) (c1 c2 : Nat) (w : World) (e1 : Rd RInt w.heap.size w a1 x.top) (e2 : Rd RInt w.heap.size w a2 x.bottom) (hm1 : x.top.length ≤ 1048576) (hm2 : x.bottom.length ≤ 1048576) :
    Calls Try.prog 11 #[.agg #[.slice a1 x.top.length c1, .slice a2 x.bottom.length c2]] w fun e w' => ∃ a1' c1' a2' c2', e = .returned (.agg #[.slice a1' x.top.length c1', .slice a2' x.bottom.length c2']) ∧ OwnV RDomino w.heap.size w'.heap.size w' x [.slice a1' x.top.length c1', .slice a2' x.bottom.length c2'] ∧ Ext w w' := by
  go_enter Try.func11, Try.ntmps11
  go_wp2_with fail
  have hb1 : Ext w _ := ((((Below.refl _ _).alloc (Nat.le_refl _) (.cells #[.slice a1 x.top.length c1, .slice a2 x.bottom.length c2] 32)).alloc (by simp <;> omega) (.cells #[.slice none 0 0, .slice none 0 0] 33)).alloc (by simp <;> omega) (.cells #[.slice none 0 0, .slice none 0 0] 33))
  refine (toInt64S _ _ _ _ ((e1.keep hb1).more hb1.size) hm1).mono ?_
  rintro e w1 ⟨b1, rfl, own1, hb2⟩
  obtain ⟨hc, hf⟩ := ext_cells hb2
  have hz := hb2.size
  simp at hz
  have z0 : w.heap.size < w1.heap.size := by omega
  have z1 : w.heap.size + 1 < w1.heap.size := by omega
  have z2 : w.heap.size + 1 + 1 < w1.heap.size := by omega
  go_wp2_with fail
  have hb3 : Ext w _ := ((hb1.trans hb2).setCell (p := ⟨w.heap.size + 1 + 1, 0, none⟩) (by simp <;> omega) (.slice b1 x.top.length x.top.length))
  refine (toInt64S _ _ _ _ ((e2.keep hb3).more hb3.size) hm2).mono ?_
  rintro e w2 ⟨b2, rfl, own2, hb4⟩
  obtain ⟨hc', hf'⟩ := ext_cells hb4
  have hz' := hb4.size
  simp at hz'
  have z0' : w.heap.size < w2.heap.size := by omega
  have z1' : w.heap.size + 1 < w2.heap.size := by omega
  have z2' : w.heap.size + 1 + 1 < w2.heap.size := by omega
  go_wp2_with fail
  refine bodyPost_ret (v := .agg #[.slice b1 x.top.length x.top.length, .slice b2 x.bottom.length x.bottom.length]) (by simp [results, Try.results11, go_sem, z0', z1', z2', hc', hc, z1, z2]) rfl ⟨_, _, _, _, rfl, ?_, ?_⟩
  · have hm : (1048576 : Nat) ≤ maxLen := by simp [maxLen]
    have o1 := ((own1.setCell (p := ⟨w.heap.size + 1 + 1, 0, none⟩) (by simp <;> omega) (.slice b1 x.top.length x.top.length)).keep hb4)
    have q1 := ((o1.setCell (p := ⟨w.heap.size + 1 + 1, 1, none⟩) (by simp <;> omega) (.slice b2 x.bottom.length x.bottom.length)).setCell (p := ⟨w.heap.size + 1, 0, none⟩) (by simp <;> omega) (.slice b1 x.top.length x.top.length)).setCell (p := ⟨w.heap.size + 1, 1, none⟩) (by simp <;> omega) (.slice b2 x.bottom.length x.bottom.length)
    have q2 := ((own2.setCell (p := ⟨w.heap.size + 1 + 1, 1, none⟩) (by simp <;> omega) (.slice b2 x.bottom.length x.bottom.length)).setCell (p := ⟨w.heap.size + 1, 0, none⟩) (by simp <;> omega) (.slice b1 x.top.length x.top.length)).setCell (p := ⟨w.heap.size + 1, 1, none⟩) (by simp <;> omega) (.slice b2 x.bottom.length x.bottom.length)
    exact OwnV.domino_mk (m := w1.heap.size) (Nat.le_refl _) (by omega) (q1.wide (by simp <;> omega) (Nat.le_refl _)) (Nat.le_refl _) (by omega) (q2.wide (by simp) (by simp)) (by omega) (by simpa using hz')
  · exact (((hb3.trans hb4).setCell (p := ⟨w.heap.size + 1 + 1, 1, none⟩) (by simp <;> omega) _).setCell (p := ⟨w.heap.size + 1, 0, none⟩) (by simp <;> omega) _).setCell (p := ⟨w.heap.size + 1, 1, none⟩) (by simp <;> omega) _

theorem eqDomino (x y : Domino) (a1 a2 b1 b2 : Option Addr) (c1 c2 d1 d2 : Nat) (w : World) (e1 : Rd RInt w.heap.size w a1 x.top) (e2 : Rd RInt w.heap.size w a2 x.bottom) (g1 : Rd RInt w.heap.size w b1 y.top) (g2 : Rd RInt w.heap.size w b2 y.bottom)
    (hm1 : x.top.length ≤ 1048576) (hm2 : x.bottom.length ≤ 1048576) (hn1 : y.top.length ≤ 1048576) (hn2 : y.bottom.length ≤ 1048576) :
    Calls Try.prog 17 #[.agg #[.slice a1 x.top.length c1, .slice a2 x.bottom.length c2], .agg #[.slice b1 y.top.length d1, .slice b2 y.bottom.length d2]] w fun e w' => e = .returned (.bool (decide (x = y))) ∧ Ext w w' := by
  have hb1 : Ext w _ := (((Below.refl _ _).alloc (Nat.le_refl _) (.cells #[.slice a1 x.top.length c1, .slice a2 x.bottom.length c2] 33)).alloc (by simp <;> omega) (.cells #[.slice b1 y.top.length d1, .slice b2 y.bottom.length d2] 33))
  have hxy : x = y ↔ x.top = y.top ∧ x.bottom = y.bottom := by
    obtain ⟨_, _⟩ := x; obtain ⟨_, _⟩ := y; simp
  have HXY := Lib.hid hxy
  clear hxy
  go_enter Try.func17, Try.ntmps17
  go_wp2_with fail
  refine (eqInt64S _ _ _ _ _ _ _ (e1.ext hb1) (g1.ext hb1) (by omega) (by omega)).mono ?_
  rintro e w1 ⟨rfl, n1, rfl⟩
  by_cases t1 : x.top = y.top
  · have t1' : decide (x.top = y.top) = true := by simp [t1]
    rw [t1']
    have T1 := Lib.hid t1
    clear t1 t1'
    go_wp2_with fail
    refine (eqInt64S _ _ _ _ _ _ _ (e2.ext (below_drewN hb1 _)) (g2.ext (below_drewN hb1 _)) (by omega) (by omega)).mono ?_
    rintro e w1 ⟨rfl, n2, rfl⟩
    by_cases t2 : x.bottom = y.bottom
    · have t2' : decide (x.bottom = y.bottom) = true := by simp [t2]
      rw [t2']
      have T2 := Lib.hid t2
      clear t2 t2'
      go_wp2_with fail
      go_ret
      exact ⟨ret_bool (by have := HXY.out.2 ⟨T1.out, T2.out⟩; simp [this]), below_drewN hb1 _⟩
    · have t2' : decide (x.bottom = y.bottom) = false := by simp [t2]
      rw [t2']
      have T2 := Lib.hid t2
      clear t2 t2'
      go_wp2_with fail
      go_ret
      exact ⟨ret_bool (by have : ¬ x = y := fun h => T2.out (HXY.out.1 h).2; simp [this]), below_drewN hb1 _⟩
  · have t1' : decide (x.top = y.top) = false := by simp [t1]
    rw [t1']
    have T1 := Lib.hid t1
    clear t1 t1'
    go_wp2_with fail
    go_ret
    exact ⟨ret_bool (by have : ¬ x = y := fun h => T1.out (HXY.out.1 h).1; simp [this]), below_drewN hb1 _⟩
end Go.Proofs.Ytmkjboeaooindaa
