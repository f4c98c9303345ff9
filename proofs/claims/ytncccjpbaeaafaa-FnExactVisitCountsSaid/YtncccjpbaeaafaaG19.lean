/- Parts of an own slice that stand beside it for a while; copying. -/
import Derived.Test.YtncccjpbaeaafaaG18
import Derived.Laws.IdiomCopy
import Derived.Laws.Append
set_option linter.unusedVariables false
set_option linter.unusedSimpArgs false
set_option maxRecDepth 100000
namespace Go.Proofs.Ytncccjpbaeaafaa
open Go Foot
theorem addr0 (ad : Option Addr) (z : Nat) : ad.map (·.add (0 * z)) = ad := by
  cases ad with
  | none => rfl
  | some a => simp [Addr.add]
section
variable {P : Program} {g : Gh} {st : St}
variable {dst : Option Tmp} {ty : TypeId} {pos : String} {after : Array Edge} {guard : Option (Nat × Bool)} {x y : Operand} {T : TypeId}
/-- The row of a root. -/
theorem rel_row {a : Act} {w : World} {S : Foot} {ρ : Env} {F : Nat → Foot} {z i : Nat} {ys : List D} (h : Rel g st a w S ρ F) (hg : lkG st.h i = .row z ys) :
    ∃ ad len cap, ρ i = some (.slice ad len cap) ∧ ys.length = len * z ∧ 0 < z ∧ len ≤ cap ∧ ((cap = 0 ∧ ad = none) ∨ ∃ b off vs G, ad = some ⟨b, off, none⟩ ∧ lies w b off vs ∧ Reps w S ys vs G ∧ le (rng b off (cap * z)) (F i) ∧ le G (F i) ∧ dis (rng b off (cap * z)) G ∧ free w b off (cap * z)) := by
  rcases h.root i with h0 | ⟨u, r1, r2⟩
  · rw [hg] at h0; cases h0
  rw [hg] at r2
  simp only [RepG, Rep, if_true] at r2
  obtain ⟨ad, len, cap, rfl, e1, e2, e3, e4⟩ := r2
  refine ⟨ad, len, cap, r1, e1, e2, e3, e4.imp (fun h => ⟨h.1, h.2 trivial⟩) fun ⟨b, off, vs, G, h⟩ => ⟨b, off, vs, G, h⟩⟩
theorem a_slG {zz l u i : Nat} {row : List D} {lo hi : Option Operand} (hx : opd st x = .one (.gv i)) (hg : lkG st.h i = .row zz row) (hlo : bndOk st 0 lo l) (hhi : bndOk st (cnt zz row) hi u) (hT : sliceB P T zz = true) (h1 : l ≤ u) (h2 : u ≤ cnt zz row) :
    Acts P g ⟨dst, .slice T x lo hi none, ty, pos, after, guard⟩ st (.one (.gs i zz l u)) [] [] := by
  refine acts_of fun a w S ρ F h => ?_
  obtain ⟨ad, len, cap, r1, e1, e2, e3, _⟩ := rel_row h hg
  have hx1 := (opd_one h hx).1
  rw [r1] at hx1
  simp only [Option.some.injEq] at hx1
  have hcn : cnt zz row = len := by unfold cnt; rw [e1]; exact Nat.mul_div_cancel _ e2
  rw [hcn] at hhi h2
  refine ⟨.slice (if cap = l then ad else ad.map (·.add (l * zz))) (u - l) (cap - l), ?_, ⟨ad, len, cap, r1, h1, by omega, rfl⟩⟩
  show (do pure (.value (← Instr.sliceAt T (a.eval x) (lo.map a.eval) (hi.map a.eval) (none.map a.eval))) : Sem Next).run P w = _
  rw [← hx1]
  have := run_slice (P := P) (w := w) (ad := ad) (cap := cap) hT (bnd_eval h hlo) (bnd_eval h hhi) h1 h2 e3
  simp only [Option.map_none, Sem.run_bind, this]
  rfl
theorem a_slTG {α : Type} {E : Enc α} {l : List α} {lo : Operand} {zz i : Nat} {a : Int} (hc : opd st x = .one (.gv i)) (hg : lkG st.h i = .row zz (rows E l)) (hlo : opd st lo = .one (int a)) (hT : sliceB P T zz = true) (h0 : 0 ≤ a) (h1 : a ≤ l.length) (hz : E.z = zz) :
    Acts P g ⟨dst, .slice T x (some lo) none none, ty, pos, after, guard⟩ st (.one (.gs i zz a.toNat l.length)) [] [] := by
  subst hz
  exact a_slG hc hg ⟨_, a, hlo, h0, rfl⟩ (by show l.length = _; rw [cnt_rows']) hT (by omega) (by rw [cnt_rows']; omega)
theorem a_slHG {α : Type} {E : Enc α} {l : List α} {hi : Operand} {zz i : Nat} {b : Int} (hc : opd st x = .one (.gv i)) (hg : lkG st.h i = .row zz (rows E l)) (hhi : opd st hi = .one (int b)) (hT : sliceB P T zz = true) (h0 : 0 ≤ b) (h1 : b ≤ l.length) (hz : E.z = zz) :
    Acts P g ⟨dst, .slice T x none (some hi) none, ty, pos, after, guard⟩ st (.one (.gs i zz 0 b.toNat)) [] [] := by
  subst hz
  exact a_slG hc hg rfl ⟨_, b, hhi, h0, rfl⟩ hT (by omega) (by rw [cnt_rows']; omega)
/-- Copying, as the model does it. -/
theorem run_copyZ {w : World} {z : Nat} {sT ty : TypeId} {b o dLen dCap sLen sCap n : Nat} {a : Addr} {cs : List Value} (hT : sliceB P T z = true) (hn : Nat.min sLen dLen = n) (hl : cs.length = n * z)
    (hsrc : ∀ j v, cs[j]? = some v → w.cell? (a.add j) = some v) (hf : free w b o cs.length) (h1 : ∀ v ∈ cs, v.oneCell' = true) :
    (Builtin.copy_ #[T, sT] ty #[.slice (some ⟨b, o, none⟩) dLen dCap, .slice (some a) sLen sCap]).run P w = .ok (goInt n) (w.setCells b o cs) := by
  unfold sliceB at hT
  split at hT
  · rename_i e hu
    split at hT
    · rename_i i hi
      have hs := Nat.eq_of_beq_eq_true hT
      subst hs
      have h2 := run_firstCells_some (P := P) w i.size n a sLen sCap cs hl hsrc
      have h3 := run_storeCells_cells (P := P) b o cs 0 w (fun j hj => by rw [Nat.add_zero]; exact (hf j hj).1) (fun j hj => by rw [Nat.add_zero]; exact (hf j hj).2) h1
      rw [Nat.add_zero] at h3
      simp [Builtin.copy_, run_underlying hu, Builtin.lenOf, sizeOf, typeInfo, hi, hn, h2, h3]
    · cases hT
  · cases hT
theorem run_copy0 {w : World} {z : Nat} {sT ty : TypeId} {d a : Option Addr} {dLen dCap sLen sCap : Nat} (hT : sliceB P T z = true) (hn : Nat.min sLen dLen = 0) :
    (Builtin.copy_ #[T, sT] ty #[.slice d dLen dCap, .slice a sLen sCap]).run P w = .ok (goInt 0) w := by
  unfold sliceB at hT
  split at hT
  · rename_i e hu
    split at hT
    · rename_i i hi
      have hl : ∀ (x : Addr), (loadCells x 0).run P w = .ok #[] w := fun x => by simpa using run_loadCells_list (P := P) w x [] (by simp)
      cases d <;> cases a <;> simp [Builtin.copy_, run_underlying hu, Builtin.lenOf, Builtin.firstCells, sizeOf, typeInfo, hi, hn, storeCells, hl]
    · cases hT
  · cases hT
theorem setRow_all {α : Type} {b ds : List α} (h : b.length = ds.length) : setRow b 0 ds = ds := by
  apply List.ext_getElem?
  intro i
  rw [setRow_get ds b 0 i (by omega)]
  split
  · simp
  · rw [List.getElem?_eq_none (by omega), List.getElem?_eq_none (by omega)]
theorem rows_copy {α : Type} (E : Enc α) {l k : List α} {lo : Nat} (h : lo + k.length ≤ l.length) : setRow (rows E l) (lo * E.z) (rows E k) = rows E (l.take lo ++ k ++ l.drop (lo + k.length)) := by
  have h0 : l = l.take lo ++ ((l.drop lo).take k.length ++ l.drop (lo + k.length)) := by rw [← List.drop_drop, List.take_append_drop, List.take_append_drop]
  have h1 : rows E l = rows E (l.take lo) ++ (rows E ((l.drop lo).take k.length) ++ rows E (l.drop (lo + k.length))) := by
    conv => lhs; rw [h0]
    rw [← rows_app, ← rows_app]
  have h2 : lo * E.z = (rows E (l.take lo)).length + 0 := by rw [rows_len, List.length_take, Nat.add_zero]; congr 1; omega
  have h3 : (rows E ((l.drop lo).take k.length)).length = (rows E k).length := by rw [rows_len, rows_len, List.length_take, List.length_drop]; congr 1; omega
  rw [h1, h2, setRow_app (rows E k) _ _ _ 0 (by omega), setRow_all h3, ← rows_app, ← rows_app, List.append_assoc]
theorem copy_core {α : Type} {E : Enc α} {l k : List α} {a : Act} {w : World} {S : Foot} {ρ : Env} {F : Nat → Foot} {i lo b off len cap : Nat} {vs us : List Value} {G : Foot} (h : Rel g st a w S ρ F) (hk : lo + k.length ≤ l.length) (hus : Reps w S (rows E k) us no)
    (r1 : ρ i = some (.slice (some ⟨b, off, none⟩) len cap)) (e1 : (rows E l).length = len * E.z) (e3 : len ≤ cap) (f1 : lies w b off vs) (f2 : Reps w S (rows E l) vs G) (f3 : le (rng b off (cap * E.z)) (F i)) (f4 : le G (F i)) (f5 : dis (rng b off (cap * E.z)) G) (f6 : free w b off (cap * E.z)) (hpos : 0 < k.length) :
    Done w (w.setCells b (off + lo * E.z) us) S no ρ ρ F (fun j => if j = i then F i else F j) [i] [(i, .row E.z (rows E (l.take lo ++ k ++ l.drop (lo + k.length))))] := by
  have hul := hus.length
  rw [rows_len] at hul e1
  have hvl := f2.length
  rw [rows_len] at hvl
  have hz := E.pos
  have hlen : l.length = len := Nat.eq_of_mul_eq_mul_right hz e1
  have hm1 : lo * E.z + k.length * E.z ≤ l.length * E.z := by rw [← Nat.add_mul]; exact Nat.mul_le_mul_right _ hk
  have hm2 : l.length * E.z ≤ cap * E.z := by rw [hlen]; exact Nat.mul_le_mul_right _ e3
  have hkz : 0 < k.length * E.z := Nat.mul_pos hpos hz
  have hfr : free w b (off + lo * E.z) us.length := by
    intro j hj
    have := f6 (lo * E.z + j) (by omega)
    rwa [← Nat.add_assoc] at this
  have hks := keeps_sets b us (off + lo * E.z) w
  have hin : le (rng b (off + lo * E.z) us.length) (F i) := fun b' o' ⟨q1, q2, q3⟩ => f3 b' o' ⟨q1, by omega, by omega⟩
  have hk' := hks.mono hin
  have hbl : b < w.heap.size := block_lt (f6 0 (by omega)).1
  have hagS : Agree w (w.setCells b (off + lo * E.z) us) S := hk'.agree h.exS (fun b o hb hf => h.disS i b o hf hb)
  have hagG : Agree w (w.setCells b (off + lo * E.z) us) G := hks.agree (fun b o hb => h.ex i b o (f4 b o hb)) (fun b' o' hb ⟨q1, q2, q3⟩ => f5 b' o' ⟨q1, by omega, by omega⟩ hb)
  have r3 : ∀ j u, us[j]? = some u → (w.setCells b (off + lo * E.z) us).cell? ⟨b, off + lo * E.z + j, none⟩ = some u := by
    intro j u hj
    obtain ⟨hj', rfl⟩ := List.getElem?_eq_some_iff.1 hj
    exact World.cell?_setCells_in b us (off + lo * E.z) w (fun j hj => (hfr j hj).1) j hj'
  have r4 : ∀ b' o', (w.setCells b (off + lo * E.z) us).frozen? ⟨b', o', none⟩ = w.frozen? ⟨b', o', none⟩ := fun b' o' => World.frozen?_setCells b us _ w _
  refine Done.chg (G := F i) hk' r1 ?_ (fun b o hb => ⟨.inl hb, Nat.lt_of_lt_of_le (h.ex i b o hb) hk'.size⟩)
  rw [← rows_copy E hk]
  simp only [RepG, Rep, if_true]
  refine ⟨_, len, cap, rfl, by rw [setRow_length, rows_len]; exact e1, hz, e3, .inr ⟨b, off, setRow vs (lo * E.z) us, G, rfl, lies_stored (F0 := no) f1 (fun _ => hbl) hks r3 (by omega), (Reps.setRow f2 hus (by rw [rows_len, rows_len]; exact hm1)).keep hagG hagS (le_refl _) (le_refl _), f3, f4, f5, ?_⟩⟩
  exact free_stored f6 (fun _ => hbl) hks r3 r4
theorem copy_same {α : Type} {E : Enc α} {l k : List α} {a : Act} {w : World} {S : Foot} {ρ : Env} {F : Nat → Foot} {i lo : Nat} (h : Rel g st a w S ρ F) (hg : lkG st.h i = .row E.z (rows E l)) (hk : k.length = 0) : Done w w S no ρ ρ F (fun j => if j = i then F i else F j) [i] [(i, .row E.z (rows E (l.take lo ++ k ++ l.drop (lo + k.length))))] := by
  have hk0 : k = [] := List.eq_nil_of_length_eq_zero hk
  subst hk0
  rcases h.root i with h0 | ⟨u, r1, r2⟩
  · rw [hg] at h0; cases h0
  rw [hg] at r2
  refine Done.chg (G := F i) (Keeps.refl _ _) r1 ?_ (fun b o hb => ⟨.inl hb, h.ex i b o hb⟩)
  simp only [List.append_nil, List.length_nil, Nat.add_zero, List.take_append_drop]
  exact r2
theorem run_cp {a : Act} {w w' : World} {sT : Nat} {v v1 v2 : Value} (e1 : a.eval x = v1) (e2 : a.eval y = v2) (h : (Builtin.copy_ #[T, sT] ty #[v1, v2]).run P w = .ok v w') : (execOp a.eval ⟨dst, .call { callee := .builtin .copy, args := #[x, y], argTypes := #[T, sT] }, ty, pos, after, guard⟩).run P w = .ok (.value v) w' := by
  simp only [execOp, resolve, invoke, builtin]
  simp [e1, e2, h, builtin]
/-- One part of an own slice is copied over another part of it. -/
theorem a_copyG {α : Type} {E : Enc α} {l l' : List α} {i zz lo hi c d n : Nat} {sT : TypeId} {r : Int} (hx : opd st x = .one (.gs i zz lo hi)) (hy : opd st y = .one (.gs i zz c d)) (hg : lkG st.h i = .row zz (rows E l)) (hT : sliceB P T zz = true) (hz : E.z = zz) (hno : D.noOwn.all (rows E l)) (h1 : hi ≤ l.length) (h2 : d ≤ l.length) (hn : Nat.min (d - c) (hi - lo) = n) (hr : (n : Int) = r) (he : l.take lo ++ (l.drop c).take n ++ l.drop (lo + n) = l') :
    Acts P g ⟨dst, .call { callee := .builtin .copy, args := #[x, y], argTypes := #[T, sT] }, ty, pos, after, guard⟩ st (.one (int r)) [i] [(i, .row zz (rows E l'))] := by
  subst hz hr he
  refine ⟨fun a w S ρ F h _ K Q hK => ?_⟩
  obtain ⟨ad, len, cap, r1, e1, e2, e3, e4⟩ := rel_row h hg
  obtain ⟨ad1, len1, cap1, q1, q2, q3, q4⟩ := opd_one h hx
  obtain ⟨ad2, len2, cap2, p1, p2, p3, p4⟩ := opd_one h hy
  rw [r1] at q1 p1
  simp only [Option.some.injEq, Value.slice.injEq] at q1 p1
  obtain ⟨rfl, rfl, rfl⟩ := q1
  obtain ⟨rfl, rfl, rfl⟩ := p1
  rw [rows_len] at e1
  have hlen : l.length = len := Nat.eq_of_mul_eq_mul_right e2 e1
  have hnl : n ≤ d - c := by rw [← hn]; exact Nat.min_le_left _ _
  have hnr : n ≤ hi - lo := by rw [← hn]; exact Nat.min_le_right _ _
  have hkl : ((l.drop c).take n).length = n := by rw [List.length_take, List.length_drop]; omega
  unfold Oper.wp
  by_cases h0 : n = 0
  · have hrun := run_cp (dst := dst) (pos := pos) (after := after) (guard := guard) q4 p4 (run_copy0 (P := P) (w := w) (T := T) (sT := sT) (ty := ty) (d := if cap = lo then ad else ad.map (·.add (lo * E.z))) (a := if cap = c then ad else ad.map (·.add (c * E.z))) (dLen := hi - lo) (dCap := cap - lo) (sLen := d - c) (sCap := cap - c) hT (hn.trans h0))
    rw [hrun, Oper.upon_value]
    have := copy_same (k := (l.drop c).take n) (lo := lo) h hg (by omega)
    rw [hkl] at this
    exact hK _ w no ρ _ this ⟨by rw [h0]; rfl, rfl⟩
  · rcases e4 with ⟨e5, _⟩ | ⟨b, off, vs, G, rfl, f1, f2, f3, f4, f5, f6⟩
    · omega
    have hvl := f2.length
    rw [rows_len] at hvl
    have hcl : ¬ cap = lo := by omega
    have hcc : ¬ cap = c := by omega
    have hadd : ∀ k, (Addr.mk b off none).add k = ⟨b, off + k, none⟩ := by intro k; unfold Addr.add; split <;> simp_all
    rw [if_neg hcl] at q4
    rw [if_neg hcc] at p4
    simp only [Option.map_some, hadd] at q4 p4
    have hus : Reps w S (rows E ((l.drop c).take n)) ((vs.drop (c * E.z)).take (n * E.z)) no := by
      have := ((f2.noOwn hno).drop (c * E.z)).take (n * E.z)
      rwa [rows_drop, rows_take] at this
    have hul := hus.length
    rw [rows_len, hkl] at hul
    have hmul : lo * E.z + n * E.z ≤ cap * E.z := by rw [← Nat.add_mul]; exact Nat.mul_le_mul_right _ (by omega)
    have hsrc : ∀ j v, ((vs.drop (c * E.z)).take (n * E.z))[j]? = some v → w.cell? ((Addr.mk b (off + c * E.z) none).add j) = some v := by
      intro j v hv
      have h3 := ((f1.drop (c * E.z)).take (n * E.z)) j v hv
      have h4 : (Addr.mk b (off + c * E.z) none).add j = ⟨b, off + c * E.z + j, none⟩ := by unfold Addr.add; split <;> simp_all
      rw [h4]
      exact h3
    have hrun := run_cp (dst := dst) (pos := pos) (after := after) (guard := guard) q4 p4 (run_copyZ (P := P) (w := w) (T := T) (sT := sT) (ty := ty) (n := n) (dCap := cap - lo) (sCap := cap - c) hT hn hul hsrc (fun j hj => by rw [Nat.add_assoc]; exact f6 _ (by omega)) hus.one)
    rw [hrun, Oper.upon_value]
    have := copy_core (k := (l.drop c).take n) (lo := lo) h (by omega) hus r1 (by rw [rows_len]; exact e1) e3 f1 f2 f3 f4 f5 f6 (by omega)
    rw [hkl] at this
    exact hK _ _ no ρ _ this ⟨rfl, rfl⟩
/-- A slice is copied over the beginning of an own one. -/
theorem a_copyV {α : Type} {E : Enc α} {l m l' : List α} {i zz n : Nat} {c2 : C} {sT : TypeId} {r : Int} (hx : opd st x = .one (.gv i)) (hy : opd st y = .one c2) (hs : slv st c2 = some (zz, rows E m)) (hg : lkG st.h i = .row zz (rows E l)) (hT : sliceB P T zz = true) (hz : E.z = zz) (hno : D.noOwn.all (rows E m)) (hn : Nat.min m.length l.length = n) (hr : (n : Int) = r) (he : m.take n ++ l.drop n = l') :
    Acts P g ⟨dst, .call { callee := .builtin .copy, args := #[x, y], argTypes := #[T, sT] }, ty, pos, after, guard⟩ st (.one (int r)) [i] [(i, .row zz (rows E l'))] := by
  subst hz hr he
  refine ⟨fun a w S ρ F h _ K Q hK => ?_⟩
  obtain ⟨ad, len, cap, r1, e1, e2, e3, e4⟩ := rel_row h hg
  have q4 := (opd_one h hx).1
  rw [r1] at q4
  simp only [Option.some.injEq] at q4
  obtain ⟨ad2, len2, cap2, us, p4, p5, p6, p7, p8, p9⟩ := rel_src h (opd_one h hy) hs hno
  rw [rows_len] at e1 p5
  have hlen : l.length = len := Nat.eq_of_mul_eq_mul_right e2 e1
  have hlen2 : m.length = len2 := Nat.eq_of_mul_eq_mul_right e2 p5
  have hnl : n ≤ m.length := by rw [← hn]; exact Nat.min_le_left _ _
  have hnr : n ≤ l.length := by rw [← hn]; exact Nat.min_le_right _ _
  have hkl : (m.take n).length = n := by rw [List.length_take]; omega
  have hl' : l.take 0 ++ m.take n ++ l.drop (0 + n) = m.take n ++ l.drop n := by simp
  unfold Oper.wp
  by_cases h0 : n = 0
  · have hrun := run_cp (dst := dst) (pos := pos) (after := after) (guard := guard) q4.symm p4 (run_copy0 (P := P) (w := w) (T := T) (sT := sT) (ty := ty) (dCap := cap) (sCap := cap2) hT (by rw [← hlen, ← hlen2, hn, h0]))
    rw [hrun, Oper.upon_value]
    have := copy_same (k := m.take n) (lo := 0) h hg (by omega)
    rw [hkl, hl'] at this
    exact hK _ w no ρ _ this ⟨by rw [h0]; rfl, rfl⟩
  · rcases e4 with ⟨e5, _⟩ | ⟨b, off, vs, G, rfl, f1, f2, f3, f4, f5, f6⟩
    · omega
    rcases p8 with p8 | ⟨b2, off2, rfl, hl2⟩
    · omega
    have hus : Reps w S (rows E (m.take n)) (us.take (n * E.z)) no := by
      have := p9.take (n * E.z)
      rwa [rows_take] at this
    have hul := hus.length
    rw [rows_len, hkl] at hul
    have hmul : n * E.z ≤ cap * E.z := Nat.mul_le_mul_right _ (by omega)
    have hsrc : ∀ j v, (us.take (n * E.z))[j]? = some v → w.cell? ((Addr.mk b2 off2 none).add j) = some v := by
      intro j v hv
      have h4 : (Addr.mk b2 off2 none).add j = ⟨b2, off2 + j, none⟩ := by unfold Addr.add; split <;> simp_all
      rw [h4]
      exact (hl2.take (n * E.z)) j v hv
    have hrun := run_cp (dst := dst) (pos := pos) (after := after) (guard := guard) q4.symm p4 (run_copyZ (P := P) (w := w) (T := T) (sT := sT) (ty := ty) (n := n) (dCap := cap) (sCap := cap2) hT (by rw [← hlen, ← hlen2, hn]) hul hsrc (fun j hj => f6 _ (by omega)) hus.one)
    rw [hrun, Oper.upon_value]
    have := copy_core (k := m.take n) (lo := 0) h (by omega) hus r1 (by rw [rows_len]; exact e1) e3 f1 f2 f3 f4 f5 f6 (by omega)
    rw [hkl, hl'] at this
    simp only [Nat.zero_mul, Nat.add_zero] at this
    exact hK _ _ no ρ _ this ⟨rfl, rfl⟩
end
end Go.Proofs.Ytncccjpbaeaafaa
