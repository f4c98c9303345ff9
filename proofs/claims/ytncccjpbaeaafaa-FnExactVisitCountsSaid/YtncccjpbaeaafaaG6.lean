/- Structs and slices that are built, that grow, parts of them; what is known in another way. No program in sight. -/
import Derived.Test.YtncccjpbaeaafaaG5
set_option linter.unusedVariables false
set_option linter.unusedSimpArgs false
namespace Go.Proofs.Ytncccjpbaeaafaa
open Go Foot

section
variable {P : Program} {w w' : World} {S F G : Foot}
/-- What append asks of the types. -/
def appB (P : Program) (T z bytes : Nat) : Bool := match P.underlying T with
  | some (.slice e) => match P.info? e with
    | some i => Nat.beq i.size z && Nat.beq i.bytes bytes && (match i.zero with | some v => Nat.beq v.cells.size z | none => false)
    | none => false
  | _ => false

theorem rep_append {T ty z bytes : Nat} (hT : appB P T z bytes = true) {row row2 : List D} {us : List Value} {v : Value} {a2 : Option Addr} {n2 c2 : Nat} (hr : Rep w S (.sl true z row) v F)
    (hsrc : n2 = 0 ∨ ∃ b2 off2, a2 = some ⟨b2, off2, none⟩ ∧ lies w b2 off2 us) (hus : Reps w S row2 us G) (hl2 : row2.length = n2 * z) (hGF : dis G F)
    (hF : ∀ b o, F b o → b < w.heap.size) (hG : ∀ b o, G b o → b < w.heap.size) (hS : ∀ b o, S b o → b < w.heap.size) (hFS : dis F S)
    (h63 : cnt z row + n2 ≤ 9223372036854775807) (hby : (cnt z row + n2) * bytes ≤ 140737488355328) :
    ∃ v' w' F', (Builtin.append_ #[T, T] ty #[v, .slice a2 n2 c2]).run P w = .ok v' w' ∧ Keeps F w w' ∧ Rep w' S (.sl true z (row ++ row2)) v' F' ∧
      (∀ b o, F' b o → (F b o ∨ G b o ∨ w.heap.size ≤ b) ∧ b < w'.heap.size) := by
  unfold appB at hT
  split at hT
  case h_2 => cases hT
  rename_i e hu
  split at hT
  case h_2 => cases hT
  rename_i i hi
  simp only [Bool.and_eq_true] at hT
  obtain ⟨⟨hz1, hb1⟩, hz3⟩ := hT
  have hz1 := Nat.eq_of_beq_eq_true hz1
  have hb1 := Nat.eq_of_beq_eq_true hb1
  subst hz1 hb1
  split at hz3
  case h_2 => cases hz3
  rename_i zv hzv
  have hzs := Nat.eq_of_beq_eq_true hz3
  have hul := hus.length
  have h1c : ∀ u ∈ us, u.oneCell' = true := hus.one
  simp only [Rep, if_true] at hr
  obtain ⟨ad, len, cap, rfl, hlr, hz, hlc, hr⟩ := hr
  have hcn : cnt i.size row = len := by unfold cnt; rw [hlr]; exact Nat.mul_div_cancel _ hz
  rw [hcn] at h63 hby
  have hrowlen : (row ++ row2).length = (len + n2) * i.size := by rw [List.length_append, hlr, hl2, Nat.add_mul]
  by_cases hroom : len + n2 ≤ cap
  · -- room
    rcases hr with ⟨rfl, ha⟩ | ⟨b, off, vs, G0, rfl, hl, hrs, h1, h2, h3, h4⟩
    · obtain rfl := ha (by trivial)
      have hlen0 : len = 0 := by omega
      have hn0 : n2 = 0 := by omega
      subst hlen0 hn0
      have hrow : row = [] := by simpa using hlr
      have hrow2 : row2 = [] := by simpa using hl2
      subst hrow hrow2
      refine ⟨.slice none 0 0, w, no, ?_, Keeps.refl _ _, ?_, fun _ _ hb => hb.elim⟩
      · rcases hsrc with _ | ⟨b2, off2, rfl, _⟩
        · cases a2 <;> simp [Builtin.append_, run_underlying hu, sizeOf, typeInfo, hi, Builtin.lenOf, Builtin.firstCells, loadCells, loadCellsFrom]
        · simp [Builtin.append_, run_underlying hu, sizeOf, typeInfo, hi, Builtin.lenOf, Builtin.firstCells, loadCells, loadCellsFrom]
      · simp only [Rep, if_true]
        exact ⟨none, 0, 0, rfl, by simp, hz, Nat.le_refl _, .inl ⟨rfl, fun _ => rfl⟩⟩
    · have hvl := hrs.length
      have hspan : len * i.size + us.length ≤ cap * i.size := by
        rw [hul, hl2, ← Nat.add_mul]
        exact Nat.mul_le_mul_right _ hroom
      have hsub : le (rng b (off + len * i.size) us.length) F := fun b' o' ⟨e1, e2, e3⟩ => h1 _ _ ⟨e1, by omega, by omega⟩
      have hk := (keeps_sets b us (off + len * i.size) w).mono hsub
      have hrun : (Builtin.append_ #[T, T] ty #[.slice (some ⟨b, off, none⟩) len cap, .slice a2 n2 c2]).run P w = .ok (.slice (some ⟨b, off, none⟩) (len + n2) cap) (w.setCells b (off + len * i.size) us) := by
        rcases hsrc with rfl | ⟨b2, off2, rfl, hl'⟩
        · have : us = [] := by cases us with | nil => rfl | cons _ _ => simp at hul hl2; rw [hl2] at hul; simp at hul
          subst this
          cases a2 <;> simp [Builtin.append_, run_underlying hu, sizeOf, typeInfo, hi, Builtin.lenOf, Builtin.firstCells, loadCells, loadCellsFrom, hlc, storeCells, World.setCells]
        · exact run_append_room_cells (P := P) w T ty e i hu hi b off len cap ⟨b2, off2, none⟩ n2 c2 us (hul.trans hl2) (fun j u hj => by rw [addr_add]; exact hl' j u hj) h1c hroom
            (fun j hj => by rw [Nat.add_assoc]; exact (h4 _ (by omega)).1) (fun j hj => by rw [Nat.add_assoc]; exact (h4 _ (by omega)).2)
      refine ⟨_, _, F.or G, hrun, hk, ?_, fun b' o' hb => ⟨hb.elim .inl (fun h => .inr (.inl h)), Nat.lt_of_lt_of_le (hb.elim (hF _ _) (hG _ _)) hk.size⟩⟩
      have hagS : Agree w (w.setCells b (off + len * i.size) us) S := hk.agree hS hFS.symm
      have hagG : Agree w (w.setCells b (off + len * i.size) us) G := hk.agree hG hGF
      have hagR : ∀ X : Foot, (∀ b o, X b o → b < w.heap.size) → dis X (rng b (off + len * i.size) us.length) → Agree w (w.setCells b (off + len * i.size) us) X := fun X hx hd => (keeps_sets b us (off + len * i.size) w).agree hx hd
      have hagG0 : Agree w (w.setCells b (off + len * i.size) us) G0 := hagR G0 (fun b' o' hb => hF _ _ (h2 _ _ hb)) (fun b' o' hb hb' => h3 b' o' (by obtain ⟨e1, e2, e3⟩ := hb'; exact ⟨e1, by omega, by omega⟩) hb)
      simp only [Rep, if_true]
      refine ⟨some ⟨b, off, none⟩, len + n2, cap, rfl, hrowlen, hz, hroom, .inr ⟨b, off, vs ++ us, G0.or G, rfl, ?_, Reps.append (Reps.keep hrs hagG0 hagS (le_refl _) (le_refl _)) (Reps.keep hus hagG hagS (le_refl _) (le_refl _)) (hGF.symm.le h2 (le_refl _)) (le_or_left _ _) (le_or_right _ _), fun b' o' hb => .inl (h1 _ _ hb), or_le (h2.trans (le_or_left _ _)) (le_or_right _ _), ?_, ?_⟩⟩
      · intro k u hk'
        rw [List.getElem?_append] at hk'
        split at hk'
        · rename_i hlt
          have hag := hagR (rng b off vs.length) (fun b' o' ⟨e1, e2, e3⟩ => hF b' o' (h1 _ _ ⟨e1, by omega, by omega⟩)) (fun b' o' ⟨_, _, e3⟩ ⟨_, e5, _⟩ => by omega)
          rw [(hag b (off + k) ⟨rfl, by omega, by omega⟩).1]
          exact hl k u hk'
        · rename_i hge
          have hj : k - vs.length < us.length := (List.getElem?_eq_some_iff.1 hk').1
          have := World.cell?_setCells_in b us (off + len * i.size) w (fun j hj => by rw [Nat.add_assoc]; exact (h4 _ (by omega)).1) (k - vs.length) hj
          rw [show off + k = off + len * i.size + (k - vs.length) by omega]
          rw [this]
          rw [List.getElem?_eq_getElem hj] at hk'
          exact hk'
      · exact fun b' o' h5 h6 => h6.elim (fun h6 => h3 b' o' h5 h6) (fun h6 => hGF b' o' h6 (h1 _ _ h5))
      · intro k hk'
        rw [World.frozen?_setCells]
        refine ⟨?_, (h4 k hk').2⟩
        by_cases hin : len * i.size ≤ k ∧ k < len * i.size + us.length
        · have := World.cell?_setCells_in b us (off + len * i.size) w (fun j hj => by rw [Nat.add_assoc]; exact (h4 _ (by omega)).1) (k - len * i.size) (by omega)
          rw [show off + k = off + len * i.size + (k - len * i.size) by omega, this]
          rfl
        · rw [World.cell?_setCells_out b us (off + len * i.size) w ⟨b, off + k, none⟩ (fun _ _ => by show off + k < off + len * i.size ∨ off + len * i.size + us.length ≤ off + k; omega)]
          exact (h4 k hk').1
  · -- grows
    have hn2 : 0 < n2 := by omega
    obtain ⟨b2, off2, rfl, hl'⟩ : ∃ b2 off2, a2 = some ⟨b2, off2, none⟩ ∧ lies w b2 off2 us := by
      rcases hsrc with h | h
      · omega
      · exact h
    have hge := grownCap_ge w (len + n2) cap e
    have key : ∃ vs G0, vs.length = row.length ∧ Reps w S row vs G0 ∧ le G0 F ∧ ∃ W, W = w.drew.alloc (.cells (vs.toArray ++ us.toArray ++ Builtin.zeroCells zv.cells (grownCap w (len + n2) cap e - (len + n2))) e) ∧
        (Builtin.append_ #[T, T] ty #[.slice ad len cap, .slice (some ⟨b2, off2, none⟩) n2 c2]).run P w = .ok (.slice (some ⟨w.heap.size, 0, none⟩) (len + n2) (grownCap w (len + n2) cap e)) W := by
      rcases hr with ⟨rfl, ha⟩ | ⟨b, off, vs, G0, rfl, hl, hrs, h1, h2, h3, h4⟩
      · obtain rfl := ha (by trivial)
        have hlen0 : len = 0 := by omega
        subst hlen0
        have hrow : row = [] := by simpa using hlr
        subst hrow
        refine ⟨[], no, rfl, by simp [Reps], no_le _, _, rfl, ?_⟩
        have hby' : n2 * i.bytes ≤ 140737488355328 := by simpa using hby
        have := run_append_nil (P := P) w T ty e i zv hu hi hzv ⟨b2, off2, none⟩ n2 c2 us (hul.trans hl2) (fun j u hj => by rw [addr_add]; exact hl' j u hj) hn2 (by omega) (by omega)
        simpa using this
      · have hvl := hrs.length
        refine ⟨vs, G0, hvl, hrs, h2, _, rfl, ?_⟩
        exact run_append_grow (P := P) w T ty e i zv hu hi hzv ⟨b, off, none⟩ len cap vs (hvl.trans hlr) (fun j u hj => by rw [addr_add]; exact hl j u hj) ⟨b2, off2, none⟩ n2 c2 us (hul.trans hl2) (fun j u hj => by rw [addr_add]; exact hl' j u hj) (by omega) (by omega) (growslice_fits (by omega) hby)
    obtain ⟨vs, G0, hvl, hrs, hG0, W, hW, hrun⟩ := key
    have hk : Keeps no w W := by
      rw [hW]
      exact keeps_drew.trans (keeps_alloc _) (no_le _)
    have hsz : W.heap.size = w.heap.size + 1 := by rw [hW, heap_alloc, Array.size_push]; rfl
    have hcells : W.heap[w.heap.size]? = some (.cells (vs.toArray ++ us.toArray ++ Builtin.zeroCells zv.cells (grownCap w (len + n2) cap e - (len + n2))) e) := by
      rw [hW, heap_alloc]
      exact Array.getElem?_push_size
    have hfull : (vs.toArray ++ us.toArray ++ Builtin.zeroCells zv.cells (grownCap w (len + n2) cap e - (len + n2))).size = grownCap w (len + n2) cap e * i.size := by
      simp only [Array.size_append, List.size_toArray, size_zeroCells, hzs, hvl, hlr, hul, hl2, ← Nat.add_mul]
      congr 1
      omega
    refine ⟨_, W, (rng w.heap.size 0 (grownCap w (len + n2) cap e * i.size)).or (G0.or G), hrun, hk.mono (no_le _), ?_, ?_⟩
    · simp only [Rep, if_true]
      refine ⟨some ⟨w.heap.size, 0, none⟩, len + n2, _, rfl, hrowlen, hz, hge, .inr ⟨w.heap.size, 0, vs ++ us, G0.or G, rfl, ?_, Reps.append (Reps.keep hrs (hk.agree (fun b o hb => hF _ _ (hG0 _ _ hb)) (dis_no _)) (hk.agree hS (dis_no _)) (le_refl _) (le_refl _)) (Reps.keep hus (hk.agree hG (dis_no _)) (hk.agree hS (dis_no _)) (le_refl _) (le_refl _)) (hGF.symm.le hG0 (le_refl _)) (le_or_left _ _) (le_or_right _ _), le_or_left _ _, le_or_right _ _, ?_, ?_⟩⟩
      · intro k u hk'
        have hkl : k < (vs ++ us).length := (List.getElem?_eq_some_iff.1 hk').1
        simp only [World.cell?, hcells]
        simp only [Nat.zero_add, Option.isSome_none, Bool.false_eq_true, if_false]
        rw [Array.getElem?_append_left (by simpa using hkl)]
        simpa using hk'
      · rintro b' o' ⟨rfl, _, _⟩ hb
        have : w.heap.size < w.heap.size := hb.elim (fun hb => hF _ _ (hG0 _ _ hb)) (fun hb => hG _ _ hb)
        omega
      · intro k hk'
        have : k < (vs.toArray ++ us.toArray ++ Builtin.zeroCells zv.cells (grownCap w (len + n2) cap e - (len + n2))).size := by rw [hfull]; exact hk'
        simp only [World.cell?, World.frozen?, hcells, Nat.zero_add]
        simp only [Option.isSome_none, Bool.false_eq_true, if_false]
        rw [Array.getElem?_eq_getElem this]
        simp
    · rintro b' o' (⟨rfl, _, _⟩ | hb)
      · exact ⟨.inr (.inr (Nat.le_refl _)), by omega⟩
      · refine ⟨hb.elim (fun h => .inl (hG0 _ _ h)) (fun h => .inr (.inl h)), ?_⟩
        have := hb.elim (fun h => hF _ _ (hG0 _ _ h)) (fun h => hG _ _ h)
        omega
end

section
variable {P : Program} {g : Gh} {st : St} {sv : SV}
variable {dst : Option Tmp} {ty : TypeId} {pos : String} {after : Array Edge} {guard : Option (Nat × Bool)} {x y z : Operand}

/-- What is put behind a slice, as the model reads it. -/
theorem rel_src {a : Act} {w : World} {S : Foot} {ρ : Env} {F : Nat → Foot} (h : Rel g st a w S ρ F) {c : C} {v : Value} {z : Nat} {row : List D} (hc : RepC w S ρ c v) (hs : slv st c = some (z, row)) (hno : D.noOwn.all row) :
    ∃ ad len cap us, v = .slice ad len cap ∧ row.length = len * z ∧ 0 < z ∧ cnt z row = len ∧ (len = 0 ∨ ∃ b off, ad = some ⟨b, off, none⟩ ∧ lies w b off us) ∧ Reps w S row us no := by
  obtain ⟨ow, G, h1⟩ := h.slv hc hs
  obtain ⟨ad, len, cap, hv, hlr, hz, hlc, hcn⟩ := sl_len h1
  simp only [Rep] at h1
  obtain ⟨ad', len', cap', he, hlr', _, hlc', h2⟩ := h1
  rw [hv] at he
  simp only [Value.slice.injEq] at he
  obtain ⟨rfl, rfl, rfl⟩ := he
  rcases h2 with ⟨rfl, _⟩ | ⟨b, off, vs, G0, rfl, hl, hr, _⟩
  · have : len = 0 := by omega
    subst this
    have : row = [] := by simpa using hlr
    subst this
    exact ⟨_, 0, 0, [], hv, by simp, hz, hcn, .inl rfl, rfl⟩
  · exact ⟨_, len, cap, vs, hv, hlr, hz, hcn, .inr ⟨b, off, rfl, hl⟩, hr.noOwn hno⟩
theorem run_app {a : Act} {w w' : World} {T : Nat} {v v1 v2 : Value} (e1 : a.eval x = v1) (e2 : a.eval y = v2) (h : (Builtin.append_ #[T, T] ty #[v1, v2]).run P w = .ok v w') : (execOp a.eval ⟨dst, .call { callee := .builtin .append, args := #[x, y], argTypes := #[T, T] }, ty, pos, after, guard⟩).run P w = .ok (.value v) w' := by
  simp only [execOp, resolve, invoke, builtin]
  simp [e1, e2, h, builtin]
theorem a_app {T i j zz bytes : Nat} {c2 : C} {row row2 row' : List D} (hT : appB P T zz bytes = true) (hx : opd st x = .one (.gv i)) (hg : lkG st.h i = .row zz row) (hy : opd st y = .one c2) (hs : slv st c2 = some (zz, row2)) (hno : D.noOwn.all row2)
    (h63 : cnt zz row + cnt zz row2 ≤ 9223372036854775807) (hby : (cnt zz row + cnt zz row2) * bytes ≤ 140737488355328) (he : row ++ row2 = row') (hji : ¬ j = i) :
    Acts P g ⟨dst, .call { callee := .builtin .append, args := #[x, y], argTypes := #[T, T] }, ty, pos, after, guard⟩ st (.one (.gv j)) [i] [(j, .row zz row'), (i, .dead)] := by
  subst he
  refine ⟨fun a w S ρ F h hn K Q hK => ?_⟩
  have hn' : ρ j = none := by simpa [hji] using hn (j, .row zz (row ++ row2)) (by simp)
  rcases h.root i with h0 | ⟨u, r1, r2⟩
  · rw [hg] at h0; cases h0
  rw [hg] at r2
  have hx1 := (opd_one h hx).1
  rw [r1] at hx1
  simp only [Option.some.injEq] at hx1
  obtain ⟨ad, len, cap, us, e1, e2, e3, e4, e5, e6⟩ := rel_src h (opd_one h hy) hs hno
  rw [e4] at h63 hby
  obtain ⟨v', w', F', q1, q2, q3, q4⟩ := rep_append (ty := ty) (c2 := cap) hT (show Rep w S (.sl true zz row) u (F i) from r2) e5 e6 e2 (no_dis _) (h.ex i) (fun _ _ h => h.elim) h.exS (h.disS i) h63 hby
  have hrun := run_app (dst := dst) (pos := pos) (after := after) (guard := guard) hx1.symm e1 q1
  unfold Oper.wp
  rw [hrun, Oper.upon_value]
  refine hK v' w' no _ _ (Done.swap (G := F') q2 r1 hn' (fun ρ' hl => q3) (fun b o hb => ⟨(q4 b o hb).1.imp id (fun h => h.elim (fun h => h.elim) id), (q4 b o hb).2⟩)) ⟨by simp, q3.one⟩
theorem a_app_nil {T j zz bytes : Nat} {c2 : C} {row2 : List D} (hT : appB P T zz bytes = true) (hz : 0 < zz) (hx : opd st x = .one (.d (.sc (.slice none 0 0)))) (hy : opd st y = .one c2) (hs : slv st c2 = some (zz, row2)) (hno : D.noOwn.all row2)
    (h63 : cnt zz row2 ≤ 9223372036854775807) (hby : cnt zz row2 * bytes ≤ 140737488355328) :
    Acts P g ⟨dst, .call { callee := .builtin .append, args := #[x, y], argTypes := #[T, T] }, ty, pos, after, guard⟩ st (.one (.gv j)) [] [(j, .row zz row2)] := by
  refine ⟨fun a w S ρ F h hn K Q hK => ?_⟩
  have hn' : ρ j = none := by simpa using hn (j, .row zz row2) (by simp)
  have hx1 := opd_sc h hx
  obtain ⟨ad, len, cap, us, e1, e2, e3, e4, e5, e6⟩ := rel_src h (opd_one h hy) hs hno
  rw [e4] at h63 hby
  have h00 : Rep w S (.sl true zz []) (.slice none 0 0) no := by
    simp only [Rep]
    exact ⟨none, 0, 0, rfl, by simp, hz, Nat.le_refl _, .inl ⟨rfl, fun _ => rfl⟩⟩
  have hc0 : cnt zz ([] : List D) = 0 := by simp [cnt]
  obtain ⟨v', w', F', q1, q2, q3, q4⟩ := rep_append (ty := ty) (c2 := cap) hT h00 e5 e6 e2 (no_dis _) (fun _ _ h => h.elim) (fun _ _ h => h.elim) h.exS (no_dis _) (by rw [hc0]; omega) (by rw [hc0, Nat.zero_add]; exact hby)
  have hrun := run_app (dst := dst) (pos := pos) (after := after) (guard := guard) hx1 e1 q1
  unfold Oper.wp
  rw [hrun, Oper.upon_value]
  refine hK v' w' no _ _ (Done.new (S1 := no) (G := F') q2 hn' (fun ρ' hl _ => by simp only [List.nil_append] at q3; exact q3) (fun b o hb => ⟨(q4 b o hb).1.elim (fun h => h.elim) (fun h => h.elim (fun h => h.elim) id), (q4 b o hb).2⟩)) ⟨by simp, q3.one⟩

/-- A bound of a slice expression. -/
def bndOk (st : St) (dflt : Nat) : Option Operand → Nat → Prop
  | none, n => n = dflt
  | some x, n => ∃ k i, opd st x = .one (.d (.sc (.int k i))) ∧ 0 ≤ i ∧ i.toNat = n
theorem run_slice {w : World} {T z len cap l u : Nat} {ad : Option Addr} {lo hi : Option Value} (hT : sliceB P T z = true) (hlo : (lo = none ∧ l = 0) ∨ ∃ k, lo = some (.int k l)) (hhi : (hi = none ∧ u = len) ∨ ∃ k, hi = some (.int k u)) (h1 : l ≤ u) (h2 : u ≤ len) (h3 : len ≤ cap) :
    (Instr.sliceAt T (.slice ad len cap) lo hi none).run P w = .ok (.slice (if cap = l then ad else ad.map (·.add (l * z))) (u - l) (cap - l)) w := by
  unfold sliceB at hT
  split at hT
  · rename_i e hu
    split at hT
    · rename_i i hi'
      have hs := Nat.eq_of_beq_eq_true hT
      subst hs
      have a1 : (u : Int) ≤ cap := by omega
      have a2 : (l : Int) ≤ u := by omega
      have a3 : (l : Int) ≤ len := by omega
      have b1 : u ≤ cap := by omega
      have b2 : ¬ cap < u := by omega
      have b3 : ¬ u < l := by omega
      have b4 : l ≤ len := by omega
      have b5 : ¬ len < l := by omega
      rcases hlo with ⟨rfl, rfl⟩ | ⟨k, rfl⟩ <;> rcases hhi with ⟨rfl, rfl⟩ | ⟨k', rfl⟩ <;>
        simp [Instr.sliceAt, run_underlying hu, Instr.slice, Instr.sliceBounds, Instr.sliceBound, asIntOf, sizeOf, typeInfo, hi', a1, a2, a3, b1, b2, b3, b4, b5, h1, h3]
    · cases hT
  · cases hT
theorem bnd_eval {a : Act} {w : World} {S : Foot} {ρ : Env} {F : Nat → Foot} (h : Rel g st a w S ρ F) {dflt n : Nat} {x : Option Operand} (hb : bndOk st dflt x n) : (x.map a.eval = none ∧ n = dflt) ∨ ∃ k, x.map a.eval = some (.int k n) := by
  cases x with
  | none => exact .inl ⟨rfl, hb⟩
  | some x =>
    obtain ⟨k, i, h1, h2, h3⟩ := hb
    have : i = (n : Int) := by omega
    subst this
    exact .inr ⟨k, by simp [opd_sc h h1]⟩
theorem a_slice_imm {T zz l u : Nat} {c : C} {row es : List D} {lo hi : Option Operand} (hc : opd st x = .one c) (hs : shv st c = some (zz, row)) (hlo : bndOk st 0 lo l) (hhi : bndOk st (cnt zz row) hi u) (hT : sliceB P T zz = true) (h1 : l ≤ u) (h2 : u ≤ cnt zz row) (he : (row.drop (l * zz)).take ((u - l) * zz) = es) :
    Acts P g ⟨dst, .slice T x lo hi none, ty, pos, after, guard⟩ st (.one (.d (.sl false zz es))) [] [] := by
  subst he
  refine acts_of fun a w S ρ F h => ?_
  have hx1 := h.shv (opd_one h hc) hs
  obtain ⟨ad, len, cap, hv, hlr, hz, hlc, hcn⟩ := sl_len hx1
  simp only [RepS, RepC, Rep, Bool.false_eq_true, if_false] at hx1 ⊢
  obtain ⟨ad', len', cap', he, hlr', hz', hlc', h2'⟩ := hx1
  rw [hv] at he
  simp only [Value.slice.injEq] at he
  obtain ⟨e1, e2, e3⟩ := he
  subst e1 e2 e3
  rw [hcn] at hhi h2
  have hm : (u - l) * zz + l * zz = u * zz := by rw [← Nat.add_mul]; congr 1; omega
  have hm2 : u * zz ≤ row.length := by rw [hlr]; exact Nat.mul_le_mul_right _ h2
  refine ⟨.slice (if cap = l then ad else ad.map (·.add (l * zz))) (u - l) (cap - l), ?_, ⟨_, u - l, cap - l, rfl, ?_, hz, by omega, ?_⟩⟩
  · show (do pure (.value (← Instr.sliceAt T (a.eval x) (lo.map a.eval) (hi.map a.eval) (none.map a.eval))) : Sem Next).run P w = _
    rw [hv]
    have := run_slice (P := P) (w := w) (ad := ad) (cap := cap) hT (bnd_eval h hlo) (bnd_eval h hhi) h1 h2 hlc
    simp only [Option.map_none, Sem.run_bind, this]
    rfl
  · simp only [List.length_take, List.length_drop]; omega
  · rcases h2' with ⟨rfl, _⟩ | ⟨b, of0, vs, G, rfl, hl, hrs, hle, rfl⟩
    · exact .inl ⟨by omega, fun h => by cases h⟩
    · refine .inr ?_
      split
      · rename_i hcl
        have hul : u - l = 0 := by omega
        refine ⟨b, of0, [], no, rfl, fun i v hv => by simp at hv, ?_, ?_, rfl⟩
        · rw [hul]; simp [Reps]
        · rw [hul]; simp only [Nat.zero_mul, List.take_zero, List.length_nil]; rintro b' o' ⟨_, e1, e2⟩; omega
      · refine ⟨b, of0 + l * zz, (vs.drop (l * zz)).take ((u - l) * zz), no, by simp [addr_add], (hl.drop _).take _, (hrs.drop _).take _, ?_, rfl⟩
        rintro b' o' ⟨rfl, e1, e2⟩
        simp only [List.length_take, List.length_drop] at e2
        exact hle _ _ ⟨rfl, by omega, by omega⟩
/-- A part of an own slice; the slice itself is given up for it. -/
theorem a_slice_own {T zz l u i j : Nat} {row es : List D} {lo hi : Option Operand} (hx : opd st x = .one (.gv i)) (hg : lkG st.h i = .row zz row) (hlo : bndOk st 0 lo l) (hhi : bndOk st (cnt zz row) hi u) (hT : sliceB P T zz = true) (h1 : l ≤ u) (h2 : u ≤ cnt zz row) (he : (row.drop (l * zz)).take ((u - l) * zz) = es) (hji : ¬ j = i) :
    Acts P g ⟨dst, .slice T x lo hi none, ty, pos, after, guard⟩ st (.one (.gv j)) [i] [(j, .row zz es), (i, .dead)] := by
  subst he
  refine ⟨fun a w S ρ F h hn K Q hK => ?_⟩
  have hn' : ρ j = none := by simpa [hji] using hn (j, .row zz ((row.drop (l * zz)).take ((u - l) * zz))) (by simp)
  rcases h.root i with h0 | ⟨uu, r1, r2⟩
  · rw [hg] at h0; cases h0
  rw [hg] at r2
  have hx1 := (opd_one h hx).1
  rw [r1] at hx1
  simp only [Option.some.injEq] at hx1
  simp only [RepG, Rep, if_true] at r2
  obtain ⟨ad, len, cap, he, hlr, hz, hlc, hr⟩ := r2
  have hcn : cnt zz row = len := by unfold cnt; rw [hlr]; exact Nat.mul_div_cancel _ hz
  rw [hcn] at hhi h2
  have hm : (u - l) * zz + l * zz = u * zz := by rw [← Nat.add_mul]; congr 1; omega
  have hm2 : u * zz ≤ row.length := by rw [hlr]; exact Nat.mul_le_mul_right _ h2
  have hm3 : (cap - l) * zz + l * zz = cap * zz := by rw [← Nat.add_mul]; congr 1; omega
  have hrun : (execOp a.eval ⟨dst, .slice T x lo hi none, ty, pos, after, guard⟩).run P w = .ok (.value (.slice (if cap = l then ad else ad.map (·.add (l * zz))) (u - l) (cap - l))) w := by
    show (do pure (.value (← Instr.sliceAt T (a.eval x) (lo.map a.eval) (hi.map a.eval) (none.map a.eval))) : Sem Next).run P w = _
    rw [← hx1, he]
    have := run_slice (P := P) (w := w) (ad := ad) (cap := cap) hT (bnd_eval h hlo) (bnd_eval h hhi) h1 h2 hlc
    simp only [Option.map_none, Sem.run_bind, this]
    rfl
  unfold Oper.wp
  rw [hrun, Oper.upon_value]
  have hrep : Rep w S (.sl true zz ((row.drop (l * zz)).take ((u - l) * zz))) (.slice (if cap = l then ad else ad.map (·.add (l * zz))) (u - l) (cap - l)) (F i) := by
    simp only [Rep, if_true]
    refine ⟨_, u - l, cap - l, rfl, ?_, hz, by omega, ?_⟩
    · simp only [List.length_take, List.length_drop]; omega
    · rcases hr with ⟨rfl, ha⟩ | ⟨b, of0, vs, G, rfl, hl, hrs, g1, g2, g3, g4⟩
      · obtain rfl := ha (by trivial)
        exact .inl ⟨by omega, fun _ => by split <;> rfl⟩
      · refine .inr ?_
        split
        · rename_i hcl
          have hul : u - l = 0 := by omega
          refine ⟨b, of0, [], no, rfl, fun i v hv => by simp at hv, ?_, ?_, no_le _, dis_no _, ?_⟩
          · rw [hul]; simp [Reps]
          · rw [hcl]; simp only [Nat.sub_self, Nat.zero_mul]; rintro b' o' ⟨_, e1, e2⟩; omega
          · rw [hcl]; intro i hi; simp at hi
        · refine ⟨b, of0 + l * zz, (vs.drop (l * zz)).take ((u - l) * zz), G, by simp [addr_add], (hl.drop _).take _, (hrs.drop _).take _, ?_, g2, ?_, ?_⟩
          · rintro b' o' ⟨rfl, e1, e2⟩
            exact g1 _ _ ⟨rfl, by omega, by omega⟩
          · rintro b' o' ⟨rfl, e1, e2⟩ hb
            exact g3 _ _ ⟨rfl, by omega, by omega⟩ hb
          · intro i hi
            have := g4 (l * zz + i) (by omega)
            rw [← Nat.add_assoc] at this
            exact this
  exact hK _ w no _ _ (Done.swap (G := F i) (Keeps.refl _ _) r1 hn' (fun ρ' hl => hrep) (fun b o hb => ⟨.inl hb, h.ex i b o hb⟩)) ⟨by simp, hrep.one⟩

theorem a_min {Ts : Array TypeId} {k k' : IntKind} {n m : Int} (e1 : opd st x = .one (.d (.sc (.int k n)))) (e2 : opd st y = .one (.d (.sc (.int k' m)))) :
    Acts P g ⟨dst, .call { callee := .builtin .min, args := #[x, y], argTypes := Ts }, ty, pos, after, guard⟩ st (.one (.d (.sc (.int k (if m < n then m else n))))) [] [] := by
  refine acts_of fun a w S ρ F h => ⟨_, ?_, ⟨rfl, rfl⟩⟩
  simp [execOp, resolve, invoke, builtin, opd_sc h e1, opd_sc h e2, Builtin.min_, Builtin.min2]
theorem a_max {Ts : Array TypeId} {k k' : IntKind} {n m : Int} (e1 : opd st x = .one (.d (.sc (.int k n)))) (e2 : opd st y = .one (.d (.sc (.int k' m)))) :
    Acts P g ⟨dst, .call { callee := .builtin .max, args := #[x, y], argTypes := Ts }, ty, pos, after, guard⟩ st (.one (.d (.sc (.int k (if m > n then m else n))))) [] [] := by
  refine acts_of fun a w S ρ F h => ⟨_, ?_, ⟨rfl, rfl⟩⟩
  simp [execOp, resolve, invoke, builtin, opd_sc h e1, opd_sc h e2, Builtin.max_, Builtin.max2]
def noIfc (P : Program) (T : Nat) : Bool := match P.underlying T with
  | some (.interface _) => false
  | some _ => true
  | none => false
theorem a_ifc {T : Nat} {c : C} (hc : opd st x = .one c) (hT : noIfc P T = true) : Acts P g ⟨dst, .makeInterface T x, ty, pos, after, guard⟩ st (.one (.ifc T false [c])) [] [] := by
  refine acts_of fun a w S ρ F h => ⟨.iface T (a.eval x), ?_, ⟨_, rfl, by simp only [Bool.false_eq_true, if_false]; exact ⟨_, [], rfl, opd_one h hc, rfl⟩⟩⟩
  show (do pure (.value (← Instr.makeInterface T (a.eval x))) : Sem Next).run P w = _
  unfold noIfc at hT
  split at hT
  · cases hT
  · rename_i d hd hu
    unfold Instr.makeInterface
    simp only [Sem.run_bind, run_underlying hu, Result.andThen_ok]
    first
      | rfl
      | (split
         · rename_i m; exact absurd rfl (hd m)
         · rfl)
  · cases hT
theorem a_ifcs {T : Nat} {cs : List C} (hc : opd st x = .agg cs) (hT : noIfc P T = true) : Acts P g ⟨dst, .makeInterface T x, ty, pos, after, guard⟩ st (.one (.ifc T true cs)) [] [] := by
  refine acts_of fun a w S ρ F h => ⟨.iface T (a.eval x), ?_, ⟨_, rfl, by have := h.opd x; rw [hc] at this; simp only [if_true]; exact this⟩⟩
  show (do pure (.value (← Instr.makeInterface T (a.eval x))) : Sem Next).run P w = _
  unfold noIfc at hT
  split at hT
  · cases hT
  · rename_i d hd hu
    unfold Instr.makeInterface
    simp only [Sem.run_bind, run_underlying hu, Result.andThen_ok]
    first
      | rfl
      | (split
         · rename_i m; exact absurd rfl (hd m)
         · rfl)
  · cases hT
/-- Operands that are one cell each. -/
def oneCells (st : St) : List Operand → Option (List C)
  | [] => some []
  | x :: xs => match opd st x, oneCells st xs with
    | .one c, some cs => some (c :: cs)
    | _, _ => none
theorem rel_oneCells {a : Act} {w : World} {S : Foot} {ρ : Env} {F : Nat → Foot} (h : Rel g st a w S ρ F) : ∀ {xs : List Operand} {cs : List C}, oneCells st xs = some cs → RepCs w S ρ cs (xs.map a.eval)
  | [], cs, hc => by simp only [oneCells, Option.some.injEq] at hc; subst hc; rfl
  | x :: xs, cs, hc => by
    simp only [oneCells] at hc
    split at hc
    · rename_i c cs' h1 h2
      cases hc
      exact ⟨_, _, rfl, opd_one h h1, rel_oneCells h h2⟩
    · cases hc
theorem a_fn {f : Fn} {cap : List Operand} {cs : List C} (hc : oneCells st cap = some cs) : Acts P g ⟨dst, .makeFunc f #[] cap.toArray, ty, pos, after, guard⟩ st (.one (.fn f cs)) [] [] := by
  refine acts_of fun a w S ρ F h => ⟨.func f #[] (cap.map a.eval).toArray, ?_, ⟨_, rfl, by simpa using rel_oneCells h hc⟩⟩
  show (do pure (.value (← Instr.makeFunc f (#[].map a.eval) (cap.toArray.map a.eval))) : Sem Next).run P w = _
  simp [Instr.makeFunc]
end

/-- What is known in another way. -/
def Turn (g : Gh) (st st' : St) : Prop := st.n ≤ st'.n ∧ ∀ a w S ρ F, Rel g st a w S ρ F → ∃ S' F', Rel g st' a w S' ρ F'
theorem g_turn {P : Program} {g : Gh} {st st' : St} {c : Code} {Q : Exit → St → Prop} (h : Turn g st st') (hk : GWp P g c st' Q) : GWp P g c st Q := ⟨fun a w S ρ F hr hf =>
  let ⟨S', F', h'⟩ := h.2 a w S ρ F hr; hk.run a w S' ρ F' h' (fun i hi => hf i (Nat.le_trans h.1 hi))⟩
theorem o_turn {P : Program} {g : Gh} {st st' : St} {ops : Array Oper} {l : List Oper} {Q : Exit → St → Prop} (h : Turn g st st') (hk : GOps P g ops l st' Q) : GOps P g ops l st Q := ⟨fun a w S ρ F hr hf =>
  let ⟨S', F', h'⟩ := h.2 a w S ρ F hr; hk.run a w S' ρ F' h' (fun i hi => hf i (Nat.le_trans h.1 hi))⟩
theorem sl_freeze {w : World} {S G : Foot} {z : Nat} {xs : List D} {v : Value} (h : Rep w S (.sl true z xs) v G) (hno : D.noOwn.all xs) : Rep w (S.or G) (.sl false z xs) v no := by
  simp only [Rep, if_true, Bool.false_eq_true, if_false] at h ⊢
  obtain ⟨a, len, cap, rfl, h1, h2, h3, h4⟩ := h
  refine ⟨a, len, cap, rfl, h1, h2, h3, h4.imp (fun x => ⟨x.1, fun h => h.elim⟩) ?_⟩
  rintro ⟨b, off, vs, G0, rfl, e1, e2, e3, e4, e5, e6⟩
  refine ⟨b, off, vs, no, rfl, e1, (e2.noOwn hno).keep Agree.no (Agree.refl _ _) (le_or_left _ _) (le_refl _), ?_, rfl⟩
  have : xs.length ≤ cap * z := by rw [h1]; exact Nat.mul_le_mul_right _ h3
  exact ((rng_le this).trans e3).trans (le_or_right _ _)
/-- An own slice is not written any more. -/
theorem t_freeze {g : Gh} {t : List (Nat × SV)} {h : List (Nat × GB)} {n i z : Nat} {xs : List D} (hg : lkG h i = .row z xs) (hno : D.noOwn.all xs) : Turn g ⟨t, h, n⟩ ⟨t, (i, .sh z xs) :: h, n⟩ := by
  refine ⟨Nat.le_refl _, fun a w S ρ F hr => ⟨S.or (F i), fun j => if j = i then no else F j, ?_⟩⟩
  have hS : le S (S.or (F i)) := le_or_left _ _
  refine ⟨hr.size, hr.defers, fun j => (hr.slot j).keep (Agree.refl _ _) hS (Env.le.refl _), fun j => ?_, fun j k hjk => ?_, fun j => ?_, fun j => ?_, fun j b o hb => ?_, fun b o hb => ?_, hr.old, hr.inS.trans hS, fun b o hb => ?_, hr.pin⟩
  · simp only [lkG]
    by_cases hj : j = i
    · subst hj
      have hb : Nat.beq j j = true := by simp
      simp only [hb, cond_true, if_true]
      rcases hr.root j with h0 | ⟨u, r1, r2⟩
      · simp only [hg] at h0; cases h0
      · simp only [hg] at r2
        exact .inr ⟨u, r1, sl_freeze r2 hno⟩
    · have hb : Nat.beq j i = false := beq_ne hj
      simp only [hb, cond_false, if_neg hj]
      rcases hr.root j with h0 | ⟨u, r1, r2⟩
      · exact .inl h0
      · exact .inr ⟨u, r1, r2.keep (Agree.refl _ _) (Agree.refl _ _) hS (Env.le.refl _) (le_refl _)⟩
  · by_cases hj : j = i
    · simp only [hj, if_true]; exact no_dis _
    · by_cases hk : k = i
      · simp only [hk, if_true]; exact dis_no _
      · simp only [if_neg hj, if_neg hk]; exact hr.dis j k hjk
  · by_cases hj : j = i
    · simp only [hj, if_true]; exact no_dis _
    · simp only [if_neg hj]
      exact fun b o hb hs => hs.elim (fun hs => hr.disS j b o hb hs) (fun hs => hr.dis j i hj b o hb hs)
  · by_cases hj : j = i
    · simp only [hj, if_true]; exact no_le _
    · simp only [if_neg hj]; exact hr.own j
  · by_cases hj : j = i
    · simp only [hj, if_true] at hb; exact hb.elim
    · simp only [if_neg hj] at hb; exact hr.ex j b o hb
  · exact hb.elim (hr.exS b o) (hr.ex i b o)
  · exact hb.elim (hr.newS b o) (fun hb => .inr (hr.own i b o hb))
end Go.Proofs.Ytncccjpbaeaafaa
