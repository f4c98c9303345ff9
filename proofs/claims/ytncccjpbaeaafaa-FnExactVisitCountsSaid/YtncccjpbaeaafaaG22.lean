/- Ranging over a map: one entry after the other, in whatever order the tape says. -/
import Derived.Test.YtncccjpbaeaafaaG21
import Derived.Maps.RangeRun
set_option linter.unusedVariables false
set_option linter.unusedSimpArgs false
set_option maxRecDepth 100000
namespace Go.Proofs.Ytncccjpbaeaafaa
open Go Foot MapKept
theorem key_one {d : TypeDesc} {v : Value} (h : IsKey d v) : v.oneCell' = true := by
  unfold IsKey at h
  split at h <;> first | rfl | exact h.elim
/-- An iterator over the map in block b: what it holds, what is to come, what came last. -/
abbrev itOf {α β : Type} (M : MapE α β) (b : Nat) (l todo : List (α × β)) (cur : Option (α × β)) : GB :=
  .it b (l.map fun p => (M.ke p.1, M.ve p.2)) (todo.map fun p => (M.ke p.1, M.ve p.2)) (cur.map fun p => (M.ke p.1, M.ve p.2))
theorem filter_push {e : MapEntry} {seen : Array Nat} : ∀ {L L1 L2 : List MapEntry}, (L.map (·.born)).Nodup → L.filter (fun x => !seen.contains x.born) = L1 ++ e :: L2 → L.filter (fun x => !(seen.push e.born).contains x.born) = L1 ++ L2 := by
  intro L L1 L2 hn h
  have h1 : L.filter (fun x => !(seen.push e.born).contains x.born) = (L.filter (fun x => !seen.contains x.born)).filter (fun x => !(x.born == e.born)) := by
    rw [List.filter_filter]
    congr 1
    funext x
    rw [Array.contains_push]
    cases seen.contains x.born <;> cases hx : (x.born == e.born) <;> simp_all
  have h2 : ((L1 ++ e :: L2).map (·.born)).Nodup := by
    rw [← h]
    exact (List.Sublist.map _ List.filter_sublist).nodup hn
  rw [h1, h]
  rw [List.map_append, List.map_cons, List.nodup_append] at h2
  obtain ⟨_, h4, h5⟩ := h2
  have h6 := (List.nodup_cons.1 h4).1
  rw [List.filter_append, List.filter_cons]
  simp only [beq_self_eq_true, Bool.not_true, Bool.false_eq_true, if_false]
  congr 1
  · rw [List.filter_eq_self]
    intro x hx
    have := h5 x.born (List.mem_map_of_mem hx) e.born (by simp)
    simpa using this
  · rw [List.filter_eq_self]
    intro x hx
    have : x.born ≠ e.born := fun he => h6 (he ▸ List.mem_map_of_mem hx)
    simpa using this
theorem keeps_obj {w : World} {b : Nat} {ob ob' : Obj} (hb : w.heap[b]? = some ob) : Keeps (fun b' _ => b' = b) w { w with heap := w.heap.setIfInBounds b ob' } := by
  obtain ⟨_, h2⟩ := heap_set (o' := ob') hb
  refine ⟨rfl, rfl, rfl, by simp, fun b' _ hn => h2 b' (fun e => hn 0 e), fun b' o _ hn => ?_⟩
  have := h2 b' hn
  simp [World.cell?, World.frozen?, mapAt, this]
section
variable {P : Program} {g : Gh} {t : List (Nat × SV)} {h : List (Nat × GB)} {n : Nat} {Q : Exit → St → Prop} {ops : Array Oper} {l : List Oper}
variable {ty : TypeId} {pos : String} {after : Array Edge} {x : Operand} {T kt et : TypeId} {α β : Type}
/-- 'range m': the map lies with the iterator for a while. -/
theorem o_range {d i : Nat} {M : MapE α β} {es : List (α × β)} (hx : opd ⟨t, h, n⟩ x = .one (.gv i)) (hg : lkG h i = mpOf M es) (hT : P.underlying T = some (.map kt et)) (hd : Nat.blt d g.n = true)
    (hk : ∀ b, GOps P g ops l ⟨(d, .one (.gv n)) :: t, (i, .isv (.map (some b))) :: (n, itOf M b es es none) :: h, n + 1⟩ Q) : GOps P g ops (⟨some d, .range T x, ty, pos, after, none⟩ :: l) ⟨t, h, n⟩ Q := by
  refine ⟨fun a w S ρ F hr hf => ?_⟩
  obtain ⟨b, es', c, e1, e0, e2, e3, e4, e5⟩ := rel_map hr hx hg
  have hbs : b < w.heap.size := (Array.getElem?_eq_some_iff.1 e2).1
  have hn : ρ n = none := hf n (Nat.le_refl n)
  have hin : i ≠ n := fun e => by rw [e, hn] at e0; cases e0
  refine wpList_plain rfl fun K hK => ?_
  have hrun : (execOp a.eval ⟨some d, .range T x, ty, pos, after, none⟩).run P w = .ok (.value (.pointer (some ⟨w.heap.size, 0, none⟩))) (w.alloc (.mapIter (some b) c #[] c)) := by
    show (do pure (.value (← Instr.range T (a.eval x))) : Sem Next).run P w = _
    rw [e1]
    simp [run_range_map w T kt et b es' c hT e2]
  unfold Oper.wp
  rw [hrun, Oper.upon_value]
  have hb1 : (w.alloc (.mapIter (some b) c #[] c)).heap[b]? = some (.map es' c) := by rw [heap_alloc]; simp [Array.getElem?_push, Nat.ne_of_lt hbs, e2]
  have hdone : Done w (w.alloc (.mapIter (some b) c #[] c)) S no ρ (fun j => if j = n then some (.pointer (some ⟨w.heap.size, 0, none⟩)) else ρ j) F (fun j => if j = n then (fun b' _ => b' = b ∨ b' = w.heap.size) else no) [i] [(i, .isv (.map (some b))), (n, itOf M b es es none)] := by
    refine ⟨by simp, (keeps_alloc _).mono (no_le _), no_le _, fun _ _ hh => hh.elim, fun j u hj => ?_, fun j hj hm => ?_, ?_, ?_, ?_, ?_, ?_⟩
    · have : j ≠ n := fun e => by rw [e, hn] at hj; cases hj
      simp [this, hj]
    · have : j ≠ n := fun e => hm (itOf M b es es none) (by rw [e]; simp)
      simp [this, hj]
    · intro y hy
      simp only [List.mem_cons, List.not_mem_nil, or_false] at hy
      rcases hy with rfl | rfl
      · exact .inr ⟨.map (some b), by simp [hin, e0], rfl⟩
      · refine .inr ⟨_, by simp, w.heap.size, es', c, c, #[], c, rfl, by omega, by simp [mapAt, hb1], e3, e5, by simp [mapAt, heap_alloc], e5.2, Nat.le_refl _, Nat.le_refl _, by rw [show (es'.toList.filter fun e => !(#[] : Array Nat).contains e.born) = es'.toList from List.filter_eq_self.2 (by simp)]; exact e3, by simp, fun o => by simp⟩
    · intro y hy b' o' hb'
      simp only [List.mem_cons, List.not_mem_nil, or_false] at hy
      rcases hy with rfl | rfl
      · simp only [if_neg hin] at hb'; exact hb'.elim
      · simp only [if_true] at hb'
        rcases hb' with rfl | rfl
        · exact .inl ⟨i, by simp, e4 o'⟩
        · exact .inr (Nat.le_refl _)
    · intro y hy b' o' hb'
      simp only [List.mem_cons, List.not_mem_nil, or_false] at hy
      rcases hy with rfl | rfl
      · simp only [if_neg hin] at hb'; exact hb'.elim
      · simp only [if_true] at hb'
        rcases hb' with rfl | rfl
        · simp; omega
        · simp
    · intro y _ b' o' _ hh; exact hh.elim
    · intro y hy z hz hyz b' o' h1 h2
      simp only [List.mem_cons, List.not_mem_nil, or_false] at hy hz
      rcases hy with rfl | rfl <;> rcases hz with rfl | rfl
      · exact hyz rfl
      · simp only [if_neg hin] at h1; exact h1.elim
      · simp only [if_neg hin] at h2; exact h2.elim
      · exact hyz rfl
  exact hK _ _ ((hk b).run _ _ _ _ _ (hr.done (n := n + 1) (dst := some d) (v := .pointer (some ⟨w.heap.size, 0, none⟩)) hdone (fun d' e => by cases e; exact blt_lt hd) (sv := .one (.gv n)) ⟨by simp, rfl⟩) (fresh_done (dst := some d) (sv := .one (.gv n)) hr hf (fun j hj => by simp only [List.mem_singleton] at hj; subst hj; rw [hg]; simp) (by simp [upOk]) hdone))
/-- The root of an iterator. -/
theorem rel_it {a : Act} {w : World} {S : Foot} {ρ : Env} {F : Nat → Foot} {st : St} {M : MapE α β} {b m : Nat} {es todo : List (α × β)} {cur : Option (α × β)} (hr : Rel g st a w S ρ F) (hx : opd st x = .one (.gv m)) (hg : lkG st.h m = itOf M b es todo cur) :
    a.eval x = (match ρ m with | some v => v | none => undef) ∧ ∃ v, ρ m = some v ∧ RepG w S ρ (itOf M b es todo cur) v (F m) := by
  have h1 := (opd_one hr hx).1
  rcases hr.root m with h0 | ⟨u, r1, r2⟩
  · rw [hg] at h0; cases h0
  rw [hg] at r2
  rw [r1] at h1
  simp only [Option.some.injEq] at h1
  exact ⟨by rw [r1, h1], u, r1, r2⟩
theorem o_next {d m b : Nat} {M : MapE α β} {es todo : List (α × β)} {cur : Option (α × β)} (hx : opd ⟨t, h, n⟩ x = .one (.gv m)) (hg : lkG h m = itOf M b es todo cur) (hd : Nat.blt d g.n = true)
    (h0 : todo = [] → GOps P g ops l ⟨(d, .tup [(false, [boo false])]) :: t, h, n⟩ Q)
    (h1 : ∀ (p : α × β) (l1 l2 : List (α × β)), todo = l1 ++ p :: l2 → GOps P g ops l ⟨(d, .tup [(false, [boo true]), (false, [.d (.sc (M.ke p.1))]), (false, [.d (.sc (M.ve p.2))])]) :: t, (m, itOf M b es (l1 ++ l2) (some p)) :: h, n⟩ Q) :
    GOps P g ops (⟨some d, .next x false, ty, pos, after, none⟩ :: l) ⟨t, h, n⟩ Q := by
  refine ⟨fun a w S ρ F hr hf => ?_⟩
  obtain ⟨ev, v, r1, r2⟩ := rel_it hr hx hg
  obtain ⟨r, es', c, since, seen, c0, rfl, i1, i2, i3, i4, i5, i6, i7, i8, i9, i10, i11⟩ := r2
  rw [r1] at ev
  have hrr := mapAt_it i5
  have hbb := mapAt_some i2
  refine wpList_plain rfl fun K hK => ?_
  have hsplit := run_next_at (P := P) w ty r b since c0 seen es' c hrr hbb i6 i7
  have hlist : (leftOf es' seen).toList = es'.toList.filter fun e => !seen.contains e.born := by unfold leftOf; rw [Array.toList_filter]
  rcases hsplit with ⟨hz, hrun⟩ | ⟨e, he, w1, hal, hrun⟩
  · have htodo : todo = [] := by
      have : (es'.toList.filter fun e => !seen.contains e.born) = [] := by rw [← hlist]; exact List.eq_nil_of_length_eq_zero (by simpa using hz)
      rw [this] at i9
      simpa using i9.symm
    have hrun' : (execOp a.eval ⟨some d, .next x false, ty, pos, after, none⟩).run P w = .ok (.value (.tuple #[.bool false])) w := by
      show (do pure (.value (← Instr.next (a.eval x) false ty)) : Sem Next).run P w = _
      rw [ev]
      simp [hrun]
    unfold Oper.wp
    rw [hrun', Oper.upon_value]
    have hdone := Done.nil w S ρ F
    exact hK _ _ ((h0 htodo).run _ _ _ _ _ (hr.done (n := n) (dst := some d) (v := .tuple #[.bool false]) hdone (fun d' e => by cases e; exact blt_lt hd) (sv := .tup [(false, [boo false])]) ⟨_, rfl, _, _, rfl, ⟨_, _, rfl, ⟨rfl, rfl⟩, rfl⟩, rfl⟩) (fun j hj => hf j hj))
  · rw [hlist] at he
    obtain ⟨L1, L2, hL⟩ := List.append_of_mem he
    have hem : e ∈ es'.toList := (List.mem_filter.1 he).1
    rw [hL, List.map_append, List.map_cons] at i9
    obtain ⟨l1, l2', ht, ht1, ht2⟩ := List.map_eq_append_iff.1 i9.symm
    obtain ⟨p, l2, rfl, hp, ht3⟩ := List.map_eq_cons_iff.1 ht2
    have hfp := filter_push i4.1 hL
    have hkey : e.key = M.ke p.1 := (Prod.mk.injEq _ _ _ _ ▸ hp).1.symm
    have hval : e.val = M.ve p.2 := (Prod.mk.injEq _ _ _ _ ▸ hp).2.symm
    have hr1 : Rel g ⟨t, h, n⟩ a w1 S ρ F := by
      rcases hal with rfl | rfl
      · exact hr
      · exact hr.drew
    have hw : w1.heap = w.heap := by rcases hal with rfl | rfl <;> rfl
    have hrr1 : w1.heap[r]? = some (.mapIter (some b) since seen c0) := by rw [hw]; exact hrr
    have hbb1 : w1.heap[b]? = some (.map es' c) := by rw [hw]; exact hbb
    have hset := heap_set (o' := .mapIter (some b) since (seen.push e.born) c) hrr1
    have hrun' : (execOp a.eval ⟨some d, .next x false, ty, pos, after, none⟩).run P w = .ok (.value (.tuple #[.bool true, e.key, e.val])) (ChangeMaps.setBlock w1 r (.mapIter (some b) since (seen.push e.born) c)) := by
      show (do pure (.value (← Instr.next (a.eval x) false ty)) : Sem Next).run P w = _
      rw [ev]
      simp [hrun]
    unfold Oper.wp
    rw [hrun', Oper.upon_value]
    have hk' := (keeps_obj (ob' := .mapIter (some b) since (seen.push e.born) c) hrr1).mono (F1 := F m) (by rintro b' o rfl; exact (i11 o).2)
    have hdone := Done.chg (S := S) (gb := itOf M b es (l1 ++ l2) (some p)) (G := F m) hk' r1 ⟨r, es', c, since, seen.push e.born, c, rfl, i1, by simp [mapAt, hset.2 b (fun e' => i1 e'.symm), hbb1], i3, i4, by simp [mapAt, hset.1], i6, i8, i8, by rw [hfp, List.map_append, List.map_append, ht1, ht3], (fun q hq => ⟨rfl, e, seen, hem, rfl, by simp only [Option.map_some, Option.some.injEq] at hq; rw [← hq, hkey, hval]⟩), i11⟩ (fun b' o hb => ⟨.inl hb, by simpa using hr1.ex m b' o hb⟩)
    refine hK _ _ ((h1 p l1 l2 ht).run _ _ _ _ _ (hr1.done (n := n) (dst := some d) (v := .tuple #[.bool true, e.key, e.val]) hdone (fun d' e => by cases e; exact blt_lt hd) (sv := .tup [(false, [boo true]), (false, [.d (.sc (M.ke p.1))]), (false, [.d (.sc (M.ve p.2))])]) ?_) (fresh_done (dst := some d) (sv := .tup [(false, [boo true]), (false, [.d (.sc (M.ke p.1))]), (false, [.d (.sc (M.ve p.2))])]) hr1 hf (fun j hj => by simp only [List.mem_singleton] at hj; subst hj; rw [hg]; simp) (by simp [upOk]) hdone))
    exact ⟨_, rfl, _, _, rfl, ⟨_, _, rfl, ⟨rfl, rfl⟩, rfl⟩, _, _, rfl, ⟨_, _, rfl, ⟨hkey, by first | (rw [hkey]; exact key_one (M.isK _)) | exact key_one (M.isK _)⟩, rfl⟩, _, _, rfl, ⟨_, _, rfl, ⟨hval, by first | (rw [hval]; exact M.one _) | exact M.one _⟩, rfl⟩, rfl⟩
variable {st : St} {dst : Option Tmp} {guard : Option (Nat × Bool)}
theorem a_entry {m b : Nat} {M : MapE α β} {es todo : List (α × β)} {p : α × β} (hx : opd st x = .one (.gv m)) (hg : lkG st.h m = itOf M b es todo (some p)) :
    Acts P g ⟨dst, .entry x, ty, pos, after, guard⟩ st (.tup [(false, [.d (.sc (M.ke p.1))]), (false, [.d (.sc (M.ve p.2))])]) [] [] := by
  refine acts_of fun a w S ρ F hr => ?_
  obtain ⟨ev, v, r1, r2⟩ := rel_it hr hx hg
  obtain ⟨r, es', c, since, seen, c0, rfl, i1, i2, i3, i4, i5, i6, i7, i8, i9, i10, i11⟩ := r2
  rw [r1] at ev
  obtain ⟨rfl, e, sn, hem, rfl, hp⟩ := i10 _ rfl
  have hkey : e.key = M.ke p.1 := (Prod.mk.injEq _ _ _ _ ▸ hp).1
  have hval : e.val = M.ve p.2 := (Prod.mk.injEq _ _ _ _ ▸ hp).2
  refine ⟨.tuple #[e.key, e.val], ?_, ⟨_, rfl, _, _, rfl, ⟨_, _, rfl, ⟨hkey, by first | (rw [hkey]; exact key_one (M.isK _)) | exact key_one (M.isK _)⟩, rfl⟩, _, _, rfl, ⟨_, _, rfl, ⟨hval, by first | (rw [hval]; exact M.one _) | exact M.one _⟩, rfl⟩, rfl⟩⟩
  show (do pure (.value (← Instr.entry (a.eval x))) : Sem Next).run P w = _
  rw [ev]
  simp [run_entry_at w r b since sn es' c0 e (mapAt_it i5) (mapAt_some i2) hem i4.1]
/-- The loop is over: the map stands by itself again. -/
theorem t_itEnd {i m b : Nat} {M : MapE α β} {es todo : List (α × β)} {cur : Option (α × β)} (hi : lkG h i = .isv (.map (some b))) (hm : lkG h m = itOf M b es todo cur) : Conv g ⟨t, h, n⟩ ⟨t, (i, mpOf M es) :: (m, .dead) :: h, n⟩ := by
  intro a w S ρ F hr hf
  have him : i ≠ m := fun e => by rw [e, hm] at hi; cases hi
  rcases hr.root i with h0 | ⟨u, q1, q2⟩
  · rw [hi] at h0; cases h0
  rcases hr.root m with h0 | ⟨v, r1, r2⟩
  · rw [hm] at h0; cases h0
  rw [hi] at q2
  rw [hm] at r2
  obtain rfl : u = .map (some b) := q2
  obtain ⟨r, es', c, since, seen, c0, rfl, i1, i2, i3, i4, i5, i6, i7, i8, i9, i10, i11⟩ := r2
  refine ⟨S, ρ, fun j => if j = i then F m else if j = m then no else F j, ⟨hr.size, hr.defers, hr.slot, fun j => ?_, fun j k hjk b' o h1 h2 => ?_, fun j b' o h1 h2 => ?_, fun j b' o h1 => ?_, fun j b' o h1 => ?_, hr.exS, hr.old, hr.inS, hr.newS, hr.pin⟩, hf⟩
  · by_cases hj : j = i
    · subst hj
      have hb : Nat.beq j j = true := by simp
      simp only [lkG, hb, cond_true, if_true]
      exact .inr ⟨_, q1, b, es', c, rfl, i2, i3, i4, fun o => (i11 o).1⟩
    · by_cases hj' : j = m
      · subst hj'
        have hb : Nat.beq j j = true := by simp
        have hb' := beq_ne him.symm
        simp only [lkG, hb, hb', cond_true, cond_false]
        exact .inl (by first | rfl | trivial)
      · have hb' := beq_ne hj
        have hb'' := beq_ne hj'
        simp only [lkG, hb', hb'', cond_false, if_neg hj, if_neg hj']
        exact hr.root j
  · try dsimp only at h1 h2
    split at h1 <;> split at h2
    · rename_i e1 e2; exact hjk (e1.trans e2.symm)
    · rename_i e1 e2
      split at h2
      · exact h2.elim
      · rename_i e3; exact hr.dis m k (fun e => e3 e.symm) b' o h1 h2
    · rename_i e1 e2
      split at h1
      · exact h1.elim
      · rename_i e3; exact hr.dis j m e3 b' o h1 h2
    · split at h1
      · exact h1.elim
      · split at h2
        · exact h2.elim
        · exact hr.dis j k hjk b' o h1 h2
  · try dsimp only at h1
    split at h1
    · exact hr.disS m b' o h1 h2
    · split at h1
      · exact h1.elim
      · exact hr.disS j b' o h1 h2
  · try dsimp only at h1
    split at h1
    · exact hr.own m b' o h1
    · split at h1
      · exact h1.elim
      · exact hr.own j b' o h1
  · try dsimp only at h1
    split at h1
    · exact hr.ex m b' o h1
    · split at h1
      · exact h1.elim
      · exact hr.ex j b' o h1
end
end Go.Proofs.Ytncccjpbaeaafaa
