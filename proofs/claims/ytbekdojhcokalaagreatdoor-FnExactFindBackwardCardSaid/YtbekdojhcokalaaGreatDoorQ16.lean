/- Parts of the proof (16 of 19). -/
import Derived.Lib.AppendZerosOnto
import Derived.Test.YtbekdojhcokalaaGreatDoorQ15
section
set_option linter.unusedVariables false
set_option linter.unusedSimpArgs false
set_option maxRecDepth 100000
namespace Go.Proofs.YtbekdojhcokalaaGreatDoor
open Go Foot
section
variable {P : Program} {g : Gh} {st : St} {dst : Option Tmp} {ty : TypeId} {pos : String} {after : Array Edge} {guard : Option (Nat × Bool)} {x y : Operand}
theorem a_cap0 {T e : Nat} (hx : opd st x = .one nilC) (hu : P.underlying T = some (.slice e)) : Acts P g ⟨dst, .call { callee := .builtin .cap, args := #[x], argTypes := #[T] }, ty, pos, after, guard⟩ st (.one (int 0)) [] [] := by
  refine acts_of fun a w S ρ F h => ⟨.int .i64 0, ?_, ⟨rfl, rfl⟩⟩
  have e := opd_sc h hx
  simp only [execOp, resolve, invoke, builtin]
  simp [e, builtin, Builtin.cap_, run_underlying hu, goInt]
theorem a_sl0 {T zz : Nat} {hi : Operand} (hx : opd st x = .one nilC) (hh : opd st hi = .one (int 0)) (hT : sliceB P T zz = true) : Acts P g ⟨dst, .slice T x none (some hi) none, ty, pos, after, guard⟩ st (.one nilC) [] [] := by
  refine acts_of fun a w S ρ F h => ⟨.slice none 0 0, ?_, ⟨rfl, rfl⟩⟩
  show (do pure (.value (← Instr.sliceAt T (a.eval x) ((none : Option Operand).map a.eval) ((some hi).map a.eval) ((none : Option Operand).map a.eval))) : Sem Next).run P w = _
  rw [opd_sc h hx]
  have := run_slice (P := P) (w := w) (T := T) (z := zz) (len := 0) (cap := 0) (l := 0) (u := 0) (ad := none) (lo := none) (hi := some (a.eval hi)) hT (.inl ⟨rfl, rfl⟩) (.inr ⟨.i64, by rw [opd_sc h hh]; rfl⟩) (Nat.le_refl _) (Nat.le_refl _) (Nat.le_refl _)
  simp at this
  simp [this]
theorem a_appZ {T Tn e zz bytes n i : Nat} {vs : List Value} {row : List D} {k1 kn : IntKind} {m : Int} (hu : P.underlying T = some (.slice e)) (hun : P.underlying Tn = some (.int kn)) (hT : zeroC P e = some vs) (hT2 : appB P T zz bytes = true) (hz0 : 0 < zz)
    (hx : opd st x = .one nilC) (hy : opd st y = .one (.d (.sc (.int k1 m)))) (hm : 0 < m) (hmn : m.toNat = n) (hn : m < 9223372036854775808) (hb : n * bytes ≤ 281474976710656) (hrow : repRow (vs.map scD) n = row) :
    Acts P g ⟨dst, .call { callee := .builtin .append, args := #[x, y], argTypes := #[T, Tn] }, ty, pos, after, guard⟩ st (.one (.gv i)) [] [(i, .row zz row)] := by
  subst hrow
  have hmn' : m = (n : Int) := by omega
  subst hmn'
  refine ⟨fun a w S ρ F h hfr K Q hK => ?_⟩
  have hfr' : ρ i = none := by simpa using hfr _ (List.mem_singleton.2 rfl)
  clear hfr
  obtain ⟨inf, zv, hi, hz, rfl, hall⟩ := zeroC_spec hT
  unfold appB at hT2
  rw [hu] at hT2
  simp only [hi, hz, Bool.and_eq_true] at hT2
  obtain ⟨⟨hz1, hb1⟩, hz3⟩ := hT2
  have hz1 := Nat.eq_of_beq_eq_true hz1
  have hb1 := Nat.eq_of_beq_eq_true hb1
  have hz3 := Nat.eq_of_beq_eq_true hz3
  subst hz1 hb1
  have hnp : 0 < n := by omega
  have hnc : Builtin.nextslicecap (0 + n) 0 = n := by unfold Builtin.nextslicecap; rw [if_pos (by omega)]; omega
  have hrun := Lib.run_append_grow_zeros (P := P) w T Tn ty e inf zv k1 kn hu hun hi hz none 0 0 [] (by simp [Builtin.firstCells]) n hnp hz0 (by omega) (by omega) hb (by rw [hnc]; exact hb)
  have hge := grownCap_ge w (0 + n) 0 e
  have hrun2 : (execOp a.eval ⟨dst, .call { callee := .builtin .append, args := #[x, y], argTypes := #[T, Tn] }, ty, pos, after, guard⟩).run P w = .ok (.value (.slice (some ⟨w.heap.size, 0, none⟩) (0 + n) (grownCap w (0 + n) 0 e))) (w.drew.alloc (.cells ((#[] : Array Value) ++ Builtin.zeroCells zv.cells n ++ Builtin.zeroCells zv.cells (grownCap w (0 + n) 0 e - (0 + n))) e)) := by
    simp only [execOp, resolve, invoke, builtin]
    simp [opd_sc h hx, opd_sc h hy, builtin]
    simp at hrun
    rw [hrun]
    rfl
  refine oper_in (fun _ h => nomatch h) ?_
  rw [hrun2, Oper.uponIn_value]
  rw [Nat.zero_add] at hge ⊢
  generalize grownCap w n 0 e = c at *
  have hzr : (Builtin.zeroCells zv.cells n).toList = repRow zv.cells.toList n := by unfold Builtin.zeroCells; exact zero_row zv.cells n
  have hzs : zv.cells.toList.length = inf.size := by simpa using hz3
  have hallr : (repRow zv.cells.toList n).all Value.oneCell' = true := by
    rw [List.all_eq_true] at hall ⊢
    intro u hu
    simp only [repRow, List.mem_flatten, List.mem_replicate] at hu
    obtain ⟨l, ⟨_, rfl⟩, hu⟩ := hu
    exact hall u hu
  have hrs := reps_sc (w := w) (S := S) hallr
  rw [repRow_map] at hrs
  have hk : Keeps no w (w.drew.alloc (.cells ((#[] : Array Value) ++ Builtin.zeroCells zv.cells n ++ Builtin.zeroCells zv.cells (c - n)) e)) := keeps_drew.trans (keeps_alloc _) (no_le _)
  have hcells : (w.drew.alloc (.cells ((#[] : Array Value) ++ Builtin.zeroCells zv.cells n ++ Builtin.zeroCells zv.cells (c - n)) e)).heap[w.heap.size]? = some (.cells ((#[] : Array Value) ++ Builtin.zeroCells zv.cells n ++ Builtin.zeroCells zv.cells (c - n)) e) := by
    rw [heap_alloc]
    exact Array.getElem?_push_size
  have hsz : (w.drew.alloc (.cells ((#[] : Array Value) ++ Builtin.zeroCells zv.cells n ++ Builtin.zeroCells zv.cells (c - n)) e)).heap.size = w.heap.size + 1 := by rw [heap_alloc, Array.size_push]; rfl
  have hfull : ((#[] : Array Value) ++ Builtin.zeroCells zv.cells n ++ Builtin.zeroCells zv.cells (c - n)).size = c * inf.size := by
    have hz4 : zv.cells.size = inf.size := hz3
    simp only [Array.size_append, size_zeroCells, hz4, Array.size_empty, Nat.zero_add, ← Nat.add_mul]
    congr 1
    omega
  generalize w.drew.alloc (.cells ((#[] : Array Value) ++ Builtin.zeroCells zv.cells n ++ Builtin.zeroCells zv.cells (c - n)) e) = W at *
  have hrep : Rep W S (.sl true inf.size (repRow (zv.cells.toList.map scD) n)) (.slice (some ⟨w.heap.size, 0, none⟩) n c) (rng w.heap.size 0 (c * inf.size)) := by
    simp only [Rep, if_true]
    refine ⟨_, n, c, rfl, by rw [repRow_len, List.length_map, hzs], hz0, hge, .inr ⟨w.heap.size, 0, repRow zv.cells.toList n, no, rfl, ?_, hrs.keep Agree.no (hk.agree h.exS (dis_no _)) (le_refl _) (le_refl _), le_refl _, no_le _, dis_no _, ?_⟩⟩
    · intro k u hk'
      have hkl : k < (repRow zv.cells.toList n).length := (List.getElem?_eq_some_iff.1 hk').1
      rw [← hzr] at hkl hk'
      simp only [World.cell?, hcells]
      simp only [Nat.zero_add, Option.isSome_none, Bool.false_eq_true, if_false]
      rw [Array.getElem?_append_left (by simpa using hkl)]
      simpa using hk'
    · intro k hk'
      have : k < ((#[] : Array Value) ++ Builtin.zeroCells zv.cells n ++ Builtin.zeroCells zv.cells (c - n)).size := by rw [hfull]; exact hk'
      simp only [World.cell?, World.frozen?, hcells, Nat.zero_add]
      simp only [Option.isSome_none, Bool.false_eq_true, if_false]
      rw [Array.getElem?_eq_getElem this]
      simp
  refine hK _ _ no _ _ (Done.new (S1 := no) hk hfr' (fun ρ' hl _ => hrep) ?_) ⟨by simp, rfl⟩
  rintro b o ⟨rfl, _, _⟩
  exact ⟨Nat.le_refl _, by omega⟩
/-- The same at a slice of numbers. -/
theorem a_appZI {T Tn e i : Nat} {k1 kn : IntKind} {m : Int} (hu : P.underlying T = some (.slice e)) (hun : P.underlying Tn = some (.int kn)) (hT : zeroC P e = some [.int .i64 0]) (hT2 : appB P T 1 8 = true)
    (hx : opd st x = .one nilC) (hy : opd st y = .one (.d (.sc (.int k1 m)))) (hm : 0 < m) (hn : m ≤ 16777216) :
    Acts P g ⟨dst, .call { callee := .builtin .append, args := #[x, y], argTypes := #[T, Tn] }, ty, pos, after, guard⟩ st (.one (.gv i)) [] [(i, .row 1 (rows eI (List.replicate m.toNat 0)))] :=
  a_appZ hu hun hT hT2 (by decide) hx hy hm rfl (by omega) (by omega) (rows_rep eI 0 _)
end
end Go.Proofs.YtbekdojhcokalaaGreatDoor
end
section
set_option linter.unusedVariables false
set_option linter.unusedSimpArgs false
set_option maxRecDepth 100000
set_option maxHeartbeats 4000000
namespace Go.Proofs.YtbekdojhcokalaaGreatDoor
open Go Foot
theorem preB69 {p : Prop} (h : p := by first | with_reducible assumption | omega | (simp only [List.length_append, List.length_cons, List.length_nil, List.length_set, List.length_replicate, List.length_take, List.length_drop, List.length_tail, List.length_dropLast, List.length_reverse] at *; omega) | exact mem_len (by assumption) (by omega) | (with_reducible refine Int.le_trans (Int.ofNat_le.2 (trimR_len _)) ?_; simp only [List.length_cons, List.length_tail]; omega) | (exact (ruAt_ok (by assumption) (by assumption) (by assumption)).2.1) | (exact (ruAt_ok (by assumption) (by assumption) (by assumption)).2.1) | (have := vMach_bd (by assumption); omega) | (simp only [mC_ch, mC_tu]; omega) | (have := vTag_bd (by assumption); omega) | (have := (‹Gd _ _›).le; omega) | (exact tgHalts_no (by assumption)) | (exact tgHead (by assumption) (by assumption) (by assumption)) | (exact Int.le_trans (tgStep_gd (by assumption) (by assumption) (by assumption) (by assumption)).le (by decide)) | (exact vTag_r (by assumption)) | (with_reducible refine Int.le_trans (Int.ofNat_le.2 (pushL_len _ _)) ?_; simp only [List.length_dropLast]; omega) | exact ls_at (by assumption) (by omega) | exact pt_gd (by assumption) | exact lv_at (by assumption) (by omega) | exact pt_gd (lv_at (by assumption) (by omega)) | exact (ask_ok (by assumption)).1 | exact (ask_ok (by assumption)).2.1 | exact (ask_ok (by assumption)).2.2.1 | exact (ask_ok (by assumption)).2.2.2 | trivial) : p := h
theorem growI_ok (n : Int) (h0 : 0 ≤ n) (h1 : n ≤ 16777216) : Does Tryz.prog 220 [.one nilC, .one (int n)] [] (.one (.gv 0)) [roI []] := by
  refine does_of (k := 0) Tryz.func220 rfl Tryz.ntmps220 rfl rfl fun w F0 S0 ρ0 => ?_
  dsimp only [argT, argH]
  repeat' first | (apply n3; exact a_nilO eI rfl; exact rfl) | (apply p3; (first | exact pu1 | exact puC | exact a_cap0 rfl (fE rfl) | exact puN | exact a_len_str rfl (fT rfl) | exact a_sub rfl rfl (by omega) (by omega)); exact rfl) | refine cdn ?_ | refine g_reg (id := 0) ?_ | refine g_reg (id := 1) ?_ | refine g_reg (id := 2) ?_ | refine g_reg (id := 3) ?_ | refine g_reg (id := 4) ?_ | ((first | refine o_gs rfl rfl (fun hc => ?_) (fun hc => ?_) | refine g_cond rfl (fun hc => ?_) (fun hc => ?_)) <;> (try simp only [dcB] at hc) <;> (try first | contradiction | (exfalso; omega)))
  · repeat' first | (apply n3; exact a_nilO eI rfl; exact rfl) | (apply n3; exact a_appZI (fE rfl) (fK rfl) (fZ rfl) (fP rfl) rfl rfl (by omega) (by omega); exact rfl; refine dA ?_) | (apply p3; (first | exact pu1 | exact puC | exact a_cap0 rfl (fE rfl) | exact puN | exact a_len_str rfl (fT rfl) | exact a_sub rfl rfl (by omega) (by omega) | exact a_sl0 rfl rfl (fS rfl) | exact a_slH rfl rfl rfl (fS rfl) (by omega) (by omega) (by exact rfl)); exact rfl) | refine cd ?_ | (apply s3; exact a_slHO rfl rfl rfl (fS rfl) (by omega) (by omega) (by exact rfl) (by decide); exact rfl; exact rfl) | ((first | refine o_gs rfl rfl (fun hc => ?_) (fun hc => ?_) | refine g_cond rfl (fun hc => ?_) (fun hc => ?_)) <;> (try simp only [dcB] at hc) <;> (try first | contradiction | (exfalso; omega)))
    repeat refine cr ?_
    refine ends_id ?_
    refine endK [?_] (h2 := ?_) (h3 := ?_) (nd := ?_)
    rotate_left 1
    all_goals (repeat' first | exact ce0 | refine ce ?_ | refine ce2 ?_ ?_ | exact SVLe.refl | refine ceb ?_)
    all_goals first | exact (show nodupB _ = true from rfl) | exact Or.inr rfl | (rfl)
  · repeat' first | (apply n3; exact a_nilO eI rfl; exact rfl) | (apply n3; exact a_appZI (fE rfl) (fK rfl) (fZ rfl) (fP rfl) rfl rfl (by omega) (by omega); exact rfl; refine dA ?_) | (apply p3; (first | exact pu1 | exact puC | exact a_cap0 rfl (fE rfl) | exact puN | exact a_len_str rfl (fT rfl) | exact a_sub rfl rfl (by omega) (by omega) | exact a_sl0 rfl rfl (fS rfl) | exact a_slH rfl rfl rfl (fS rfl) (by omega) (by omega) (by exact rfl)); exact rfl) | refine cd ?_ | (apply s3; exact a_slHO rfl rfl rfl (fS rfl) (by omega) (by omega) (by exact rfl) (by decide); exact rfl; exact rfl) | ((first | refine o_gs rfl rfl (fun hc => ?_) (fun hc => ?_) | refine g_cond rfl (fun hc => ?_) (fun hc => ?_)) <;> (try simp only [dcB] at hc) <;> (try first | contradiction | (exfalso; omega)))
    repeat refine cr ?_
    refine ends_id ?_
    refine endK [?_] (h2 := ?_) (h3 := ?_) (nd := ?_)
    rotate_left 1
    all_goals (repeat' first | exact ce0 | refine ce ?_ | refine ce2 ?_ ?_ | exact SVLe.refl | refine ceb ?_)
    all_goals first | exact (show nodupB _ = true from rfl) | exact Or.inr rfl | (rfl)
theorem concatI_ok (ls : List (List Int)) (hn : (ls.length : Int) ≤ 16777216) (hl : ∀ x ∈ ls, (x.length : Int) ≤ 16777216) (ht : (ls.flatten.length : Int) ≤ 16777216) : Does Tryz.prog 169 [.one (shW ls)] [] (.one (.gv 0)) [roI ls.flatten] := by
  have key : ∀ i : Nat, (ls.take i).flatten.length ≤ ls.flatten.length := fun i => by
    have := congrArg (fun l => l.flatten.length) (List.take_append_drop i ls)
    simp only [List.flatten_append, List.length_append] at this
    omega
  have nx : ∀ (i : Int) (h0 : 0 ≤ i) (h : i.toNat < ls.length), (ls.take (i + 1).toNat).flatten = (ls.take i.toNat).flatten ++ ls[i.toNat] := fun i h0 h => by
    rw [show (i + 1).toNat = i.toNat + 1 by omega, List.take_succ_eq_append_getElem h, List.flatten_append, List.flatten_cons, List.flatten_nil, List.append_nil]
  refine does_of (k := 0) Tryz.func169 rfl Tryz.ntmps169 rfl rfl fun w F0 S0 ρ0 => ?_
  dsimp only [argT, argH]
  repeat' first | (apply n3; exact a_nilO eI rfl; exact rfl) | (apply n3; exact a_appN (fP rfl) rfl rfl rfl nowR (by first | omega | (simp; omega)) (by decide) (by exact rfl); exact rfl; refine dA ?_) | (apply p3; (first | exact pu1 | exact puL | exact puN | exact a_len_str rfl (fT rfl) | exact puC | exact a_add rfl rfl (by omega) (by omega) | exact puI); exact rfl) | refine cd ?_ | (apply s3; exact a_appE (fP rfl) rfl rfl rfl rfl nowR (by first | omega | (simp; omega)) (by decide) (by decide) (by exact rfl); exact rfl; exact rfl) | (apply c4 1; exact callK1 (θ := []) (hD := (growI_ok _ preB69 preB69)); exact rfl; exact rfl; exact rfl; refine dM ?_) | ((first | refine o_gs rfl rfl (fun hc => ?_) (fun hc => ?_) | refine g_cond rfl (fun hc => ?_) (fun hc => ?_)) <;> (try simp only [dcB] at hc) <;> (try first | contradiction | (exfalso; omega)))
  refine g_loop_id ?_
  refine loopK [0, 2, 9, 10] [] (fun y : Int × Int => 0 ≤ y.1 ∧ y.1 ≤ ls.length ∧ y.2 = (ls.take y.1.toNat).flatten.length) (fun y => [(11, .one (int y.1)), (3, .one (int y.2))]) (fun y => []) (fun y => (ls.length - y.1).toNat) ((0 : Int), (0 : Int)) [0] (hI := ?_) (hr := ?_)
  · exact ⟨by simp, by simp, by simp⟩
  · rintro ⟨i, s⟩ ⟨h0, h1, h2⟩
    dsimp only [List.cons_append, List.nil_append] at *
    skip
    repeat' first | (apply n3; exact a_appN (fP rfl) rfl rfl rfl nowR (by first | omega | (simp; omega)) (by decide) (by exact rfl); exact rfl; refine dA ?_) | (apply p3; (first | exact pu1 | exact puL | exact puC | exact puN | exact a_len_str rfl (fT rfl) | exact a_add rfl rfl (by omega) (by omega) | exact puI); exact rfl) | refine cdn ?_ | refine g_reg (id := 3) ?_ | refine g_reg (id := 10) ?_ | refine g_reg (id := 11) ?_ | refine g_reg (id := 12) ?_ | refine g_reg (id := 13) ?_ | refine g_reg (id := 14) ?_ | refine g_reg (id := 15) ?_ | (apply s3; exact a_appE (fP rfl) rfl rfl rfl rfl nowR (by first | omega | (simp; omega)) (by decide) (by decide) (by exact rfl); exact rfl; exact rfl) | (apply c4 1; exact callK1 (θ := []) (hD := (growI_ok _ preB69 preB69)); exact rfl; exact rfl; exact rfl; refine dM ?_) | ((first | refine o_gs rfl rfl (fun hc => ?_) (fun hc => ?_) | refine g_cond rfl (fun hc => ?_) (fun hc => ?_)) <;> (try simp only [dcB] at hc) <;> (try first | contradiction | (exfalso; omega)))
    · have hk := key i.toNat
      have hk2 := key (i + 1).toNat
      have hx := nx i h0 (by omega)
      have hv := hl _ (List.getElem_mem (show i.toNat < ls.length by omega))
      have hx2 := congrArg List.length hx
      rw [List.length_append] at hx2
      repeat' first | (apply n3; exact a_appN (fP rfl) rfl rfl rfl nowR (by first | omega | (simp; omega)) (by decide) (by exact rfl); exact rfl; refine dA ?_) | (apply p3; (first | exact pu1 | exact puL | exact puC | exact puN | exact a_len_str rfl (fT rfl) | exact a_add rfl rfl (by omega) (by omega) | exact puI); exact rfl) | refine cd ?_ | (apply s3; exact a_appE (fP rfl) rfl rfl rfl rfl nowR (by first | omega | (simp; omega)) (by decide) (by decide) (by exact rfl); exact rfl; exact rfl) | (apply c4 1; exact callK1 (θ := []) (hD := (growI_ok _ preB69 preB69)); exact rfl; exact rfl; exact rfl; refine dM ?_) | ((first | refine o_gs rfl rfl (fun hc => ?_) (fun hc => ?_) | refine g_cond rfl (fun hc => ?_) (fun hc => ?_)) <;> (try simp only [dcB] at hc) <;> (try first | contradiction | (exfalso; omega)))
      refine q_again (i + 1, _) [0] (by exact stk) ?_ ?_
      · exact ⟨by dsimp only; omega, by dsimp only; omega, by dsimp only; omega⟩
      · dsimp only; omega
    · have hk := key i.toNat
      repeat' first | (apply n3; exact a_appN (fP rfl) rfl rfl rfl nowR (by first | omega | (simp; omega)) (by decide) (by exact rfl); exact rfl; refine dA ?_) | (apply p3; (first | exact pu1 | exact puL | exact puC | exact puN | exact a_len_str rfl (fT rfl) | exact a_add rfl rfl (by omega) (by omega) | exact puI); exact rfl) | refine cd ?_ | (apply s3; exact a_appE (fP rfl) rfl rfl rfl rfl nowR (by first | omega | (simp; omega)) (by decide) (by decide) (by exact rfl); exact rfl; exact rfl) | (apply c4 1; exact callK1 (θ := []) (hD := (growI_ok _ preB69 preB69)); exact rfl; exact rfl; exact rfl; refine dM ?_) | ((first | refine o_gs rfl rfl (fun hc => ?_) (fun hc => ?_) | refine g_cond rfl (fun hc => ?_) (fun hc => ?_)) <;> (try simp only [dcB] at hc) <;> (try first | contradiction | (exfalso; omega)))
      refine g_loop_id ?_
      refine loopK [2, 6, 25, 26] [1] (fun y : Int × List Int => 0 ≤ y.1 ∧ y.1 ≤ ls.length ∧ y.2 = (ls.take y.1.toNat).flatten) (fun y => [(27, .one (int y.1))]) (fun y => [(1, roI y.2)]) (fun y => (ls.length - y.1).toNat) ((0 : Int), ([] : List Int)) [0, 1] (hI := ?_) (hr := ?_)
      · exact ⟨by simp, by simp, by simp⟩
      · rintro ⟨j, o⟩ ⟨j0, j1, j2⟩
        dsimp only [List.cons_append, List.nil_append] at *
        skip
        repeat' first | (apply p3; (first | exact pu1 | exact puC); exact rfl) | refine cdn ?_ | refine g_reg (id := 11) ?_ | ((first | refine o_gs rfl rfl (fun hc => ?_) (fun hc => ?_) | refine g_cond rfl (fun hc => ?_) (fun hc => ?_)) <;> (try simp only [dcB] at hc) <;> (try first | contradiction | (exfalso; omega)))
        · have hk2 := key (j + 1).toNat
          have hx := nx j j0 (by omega)
          have hv := hl _ (List.getElem_mem (show j.toNat < ls.length by omega))
          have hx2 := congrArg List.length hx
          rw [List.length_append] at hx2
          have hx3 := congrArg List.length j2
          repeat' first | (apply n3; exact a_appN (fP rfl) rfl rfl rfl nowR (by first | omega | (simp; omega)) (by decide) (by exact rfl); exact rfl; refine dA ?_) | (apply p3; (first | exact pu1 | exact puL | exact puC | exact a_add rfl rfl (by omega) (by omega) | exact puI); exact rfl) | refine cd ?_ | (apply s3; exact a_appE (fP rfl) rfl rfl rfl rfl nowR (by first | omega | (simp; omega)) (by decide) (by decide) (by exact rfl); exact rfl; exact rfl) | ((first | refine o_gs rfl rfl (fun hc => ?_) (fun hc => ?_) | refine g_cond rfl (fun hc => ?_) (fun hc => ?_)) <;> (try simp only [dcB] at hc) <;> (try first | contradiction | (exfalso; omega)))
          refine q_again (j + 1, _) [0, 2] (by exact stk) ?_ ?_
          · exact ⟨by dsimp only; omega, by dsimp only; omega, by dsimp only; rw [hx, j2]⟩
          · dsimp only; omega
        · rw [List.take_of_length_le (by omega)] at j2
          rw [← j2]
          repeat' first | (apply n3; exact a_appN (fP rfl) rfl rfl rfl nowR (by first | omega | (simp; omega)) (by decide) (by exact rfl); exact rfl; refine dA ?_) | (apply p3; (first | exact pu1 | exact puL | exact puC | exact a_add rfl rfl (by omega) (by omega) | exact puI); exact rfl) | refine cd ?_ | (apply s3; exact a_appE (fP rfl) rfl rfl rfl rfl nowR (by first | omega | (simp; omega)) (by decide) (by decide) (by exact rfl); exact rfl; exact rfl) | ((first | refine o_gs rfl rfl (fun hc => ?_) (fun hc => ?_) | refine g_cond rfl (fun hc => ?_) (fun hc => ?_)) <;> (try simp only [dcB] at hc) <;> (try first | contradiction | (exfalso; omega)))
          repeat refine cr ?_
          refine ends_id ?_
          refine endK [?_] (h2 := ?_) (h3 := ?_) (nd := ?_)
          rotate_left 1
          all_goals (repeat' first | exact ce0 | refine ce ?_ | refine ce2 ?_ ?_ | exact SVLe.refl | refine ceb ?_)
          all_goals first | exact (show nodupB _ = true from rfl) | exact Or.inr rfl | (rfl)
/-- Lists that are small together. -/
structure JnOk (ls : List (List Int)) : Prop where
  n : (ls.length : Int) ≤ 16777216
  l : ∀ x ∈ ls, (x.length : Int) ≤ 16777216
  t : (ls.flatten.length : Int) ≤ 16777216
theorem jn_two {a b : List Int} (h : (a.length : Int) + b.length ≤ 16777216) : JnOk [a, b] := by
  refine ⟨by simp, fun x hx => ?_, by simp; omega⟩
  simp only [List.mem_cons, List.not_mem_nil, or_false] at hx
  rcases hx with rfl | rfl <;> omega
theorem joined_ok (ls : List (List Int)) (g : JnOk ls) : Does Tryz.prog 108 [.one (shW ls)] [] (.one (.gv 0)) [roI ls.flatten] := by
  obtain ⟨hn, hl, ht⟩ := g
  refine does_of (k := 0) Tryz.func108 rfl Tryz.ntmps108 rfl rfl fun w F0 S0 ρ0 => ?_
  dsimp only [argT, argH]
  repeat' first | (apply p3; exact pu1; exact rfl) | refine cd ?_ | (apply c4 1; exact callK1 (θ := []) (hD := (concatI_ok _ preB69 preB69 preB69)); exact rfl; exact rfl; exact rfl; refine dM ?_) | ((first | refine o_gs rfl rfl (fun hc => ?_) (fun hc => ?_) | refine g_cond rfl (fun hc => ?_) (fun hc => ?_)) <;> (try simp only [dcB] at hc) <;> (try first | contradiction | (exfalso; omega)))
  repeat refine cr ?_
  refine ends_id ?_
  refine endK [?_] (h2 := ?_) (h3 := ?_) (nd := ?_)
  rotate_left 1
  all_goals (repeat' first | exact ce0 | refine ce ?_ | refine ce2 ?_ ?_ | exact SVLe.refl | refine ceb ?_)
  all_goals first | exact (show nodupB _ = true from rfl) | exact Or.inr rfl | (rfl)
end Go.Proofs.YtbekdojhcokalaaGreatDoor
end
section
set_option linter.unusedVariables false
set_option linter.unusedSimpArgs false
set_option maxRecDepth 100000
set_option maxHeartbeats 4000000
namespace Go.Proofs.YtbekdojhcokalaaGreatDoor
open Go Foot
theorem vMach_len {m : Mach} (hm : vMach m = true) : (m.ru.length : Int) ≤ 6000 := by
  have hb := vMach_bd hm
  have : m.sy * m.st ≤ 6 * 1000 := Int.mul_le_mul hb.1.2 hb.2.1.2 (by omega) (by omega)
  omega
def haF (m : Mach) : Nat → List Part
  | 0 => []
  | i + 1 => if ruI m i = noR then haF m i ++ [⟨i / m.sy, 0, [i % m.sy]⟩] else haF m i
theorem haF_len (m : Mach) : ∀ i, (haF m i).length ≤ i
  | 0 => by simp [haF]
  | i + 1 => by
    have := haF_len m i
    unfold haF
    split
    · simp; omega
    · omega
@[irreducible] def haltP (m : Mach) : List Part := haF m m.ru.length
theorem haF_yes {m : Mach} {i : Int} (h0 : 0 ≤ i) (h : ruI m i = noR) : haF m (i + 1).toNat = haF m i.toNat ++ [⟨i / m.sy, 0, [i % m.sy]⟩] := by
  rw [show (i + 1).toNat = i.toNat + 1 by omega, haF, show ((i.toNat : Nat) : Int) = i by omega, if_pos h]
theorem haF_no {m : Mach} {i : Int} (h0 : 0 ≤ i) (h : ¬ ruI m i = noR) : haF m (i + 1).toNat = haF m i.toNat := by
  rw [show (i + 1).toNat = i.toNat + 1 by omega, haF, show ((i.toNat : Nat) : Int) = i by omega, if_neg h]
theorem l26Halting_ok (m : Mach) (hm : vMach m = true) : Does Tryz.prog 144 [.one (maB m)] [] (.one (shPa (haltP m))) [] := by
  have hb := vMach_bd hm
  have hl := vMach_len hm
  refine does_of (k := 0) Tryz.func144 rfl Tryz.ntmps144 rfl rfl fun w F0 S0 ρ0 => ?_
  dsimp only [argT, argH]
  repeat' first | (apply n3; exact a_litE eP [] rfl rfl rfl rfl rfl rfl rfl rfl; exact rfl; refine dA ?_) | (apply p3; (first | exact pu1 | exact puL | exact puN | exact a_len_str rfl (fT rfl) | exact puC | exact a_add rfl rfl (by omega) (by omega)); exact rfl) | refine cd ?_ | (apply g_drN (id := 5) okM [[],[0],[0,1],[0,1,2],[],[0,1,2,3,4],[0,1,2,3,4,5],[],[0,1,2,3,4,5,6,7]] [([],[]),([],[]),([],[]),([],[]),([],[]),([],[]),([],[]),([],[]),([],[])] 0; (focus (refine dp 0 0 [19, 22] [] pu1 ?_; refine dp 1 1 [19, 22] [] (a_pure (sv := .one _) rfl) ?_; refine dp 2 3 [19, 22] [] (a_pure (sv := .one _) rfl) ?_; refine dp 3 7 [19, 22] [] puL ?_; refine dp 4 0 [15, 16, 17, 18, 22] [] pu1 ?_; refine dp 5 31 [22] [] puI ?_; refine dp 6 63 [22] [] puL ?_; refine dp 7 0 [15, 16, 17, 18, 19, 20, 21] [] (callD1 (n := _) 0 (θ := []) (hD := l05None_ok)) ?_; refine dp 8 255 [] [] (by first | exact a_eqRule rfl rfl | exact a_eqRule (s := ⟨_, _, _⟩) rfl rfl | exact a_eqRule (r := ⟨_, _, _⟩) rfl rfl | exact a_eqRule (r := ⟨_, _, _⟩) (s := ⟨_, _, _⟩) rfl rfl) ?_; (refine d_nil ?_; refine dN ?_))); any_goals kernel_rfl) | (apply g_drN (id := 6) okM [[],[],[],[2],[2,3],[2,3,4],[1,2,3,4,5],[],[],[8],[8,9],[8,9,10],[7,8,9,10,11],[7,8,9,10,11,12],[1,2,3,4,5,6,7,8,9,10,11,12,13],[1,2,3,4,5,6,7,8,9,10,11,12,13,14],[0,1,2,3,4,5,6,7,8,9,10,11,12,13,14,15],[0,1,2,3,4,5,6,7,8,9,10,11,12,13,14,15,16]] [([],[]),([],[]),([],[]),([],[]),([],[]),([],[]),([],[]),([],[]),([],[]),([],[]),([],[]),([],[]),([],[]),([],[]),([],[]),([0],[]),([1],[_]),([],[])] 2; (focus (refine dp 0 0 [25, 26, 27, 28, 29, 30, 31, 32, 33, 34, 35, 36, 37, 38, 39] [(true, 0)] pu1 ?_; refine dp 1 0 [24, 26, 27, 28, 29, 31, 32, 33, 34, 35, 36, 37] [] pu1 ?_; refine dp 2 0 [24, 25, 31, 32, 33, 34, 35, 36, 37] [] pu1 ?_; refine dp 3 1 [24, 25, 31, 32, 33, 34, 35, 36, 37] [] (a_pure (sv := .one _) rfl) ?_; refine dp 4 3 [24, 25, 31, 32, 33, 34, 35, 36, 37] [] (a_pure (sv := .one _) rfl) ?_; refine dp 5 7 [24, 25, 31, 32, 33, 34, 35, 36, 37] [] puL ?_; refine dp 6 31 [24, 31, 32, 33, 34, 35, 36, 37] [] (a_quo rfl rfl (by omega) (by omega) (by omega)) ?_; refine dp 7 0 [24, 25, 26, 27, 28, 29, 30, 32, 33, 34, 35] [] pu1 ?_; refine dp 8 0 [24, 25, 26, 27, 28, 29, 30, 31] [] pu1 ?_; refine dp 9 1 [24, 25, 26, 27, 28, 29, 30, 31] [] (a_pure (sv := .one _) rfl) ?_; refine dp 10 3 [24, 25, 26, 27, 28, 29, 30, 31] [] (a_pure (sv := .one _) rfl) ?_; refine dp 11 7 [24, 25, 26, 27, 28, 29, 30, 31] [] puL ?_; refine dp 12 31 [24, 25, 26, 27, 28, 29, 30] [] (a_rem rfl rfl (by omega) (by omega) (by omega)) ?_; refine dp 13 63 [24, 25, 26, 27, 28, 29, 30] [] (a_litF (dst := some 37) eI [_] rfl rfl rfl rfl rfl rfl rfl rfl nowR) ?_; refine dp 14 8191 [24] [] (a_pure (sv := .agg _) rfl) ?_; refine duE 15 16383 [24] [] (atN 0 (fun _ => a_litE eP [⟨_, _, _⟩] rfl rfl rfl rfl rfl rfl rfl rfl)) (by exact rfl) (by exact rfl) ?_; refine duE 16 65535 [] [] (atS 1 (fun _ hj => a_appE (fP rfl) rfl rfl rfl rfl nowR (by first | omega | (simp; omega)) (by decide) hj (by exact rfl)) (by decide)) (by exact rfl) (by exact rfl) ?_; refine dp 17 131071 [] [] pu1 ?_; (refine d_nil ?_; refine dN ?_))); any_goals kernel_rfl) | ((first | refine o_gs rfl rfl (fun hc => ?_) (fun hc => ?_) | refine g_cond rfl (fun hc => ?_) (fun hc => ?_)) <;> (try simp only [dcB] at hc) <;> (try first | contradiction | (exfalso; omega)))
  refine g_loop_id ?_
  refine loopK [0, 2, 3] [0] (fun y : Int × List Part => 0 ≤ y.1 ∧ y.1 ≤ m.ru.length ∧ y.2 = haF m y.1.toNat) (fun y => [(4, .one (int y.1))]) (fun y => [(0, roPa y.2)]) (fun y => (m.ru.length - y.1).toNat) ((0 : Int), ([] : List Part)) [0] (hI := ?_) (hr := ?_)
  · exact ⟨by simp, by simp, rfl⟩
  · rintro ⟨i, out⟩ ⟨h0, h1, h2⟩
    dsimp only [List.cons_append, List.nil_append] at *
    skip
    repeat' first | (apply p3; (first | exact pu1 | exact puL | exact puN | exact a_len_str rfl (fT rfl) | exact puC); exact rfl) | refine cdn ?_ | refine g_reg (id := 3) ?_ | refine g_reg (id := 7) ?_ | ((first | refine o_gs rfl rfl (fun hc => ?_) (fun hc => ?_) | refine g_cond rfl (fun hc => ?_) (fun hc => ?_)) <;> (try simp only [dcB] at hc) <;> (try first | contradiction | (exfalso; omega)))
    · have hg := ruI_get (m := m) (i := i) (by omega)
      have ho := haF_len m i.toNat
      rw [← h2] at ho
      have hd : -100000000 ≤ i / m.sy ∧ i / m.sy ≤ 100000000 := by
        have a1 := Int.ediv_nonneg h0 (show 0 ≤ m.sy by omega)
        have a2 := Int.ediv_le_self m.sy h0
        omega
      have ht : -100000000 ≤ i % m.sy ∧ i % m.sy ≤ 100000000 := by
        have a1 := Int.emod_nonneg i (show m.sy ≠ 0 by omega)
        have a2 := Int.emod_lt_of_pos i (show 0 < m.sy by omega)
        omega
      repeat' first | (apply p3; (first | exact pu1 | exact puL | exact puN | exact a_len_str rfl (fT rfl) | exact puC); exact rfl) | refine cd ?_ | (apply g_drN (id := 5) okM [[],[0],[0,1],[0,1,2],[],[0,1,2,3,4],[0,1,2,3,4,5],[],[0,1,2,3,4,5,6,7]] [([],[]),([],[]),([],[]),([],[]),([],[]),([],[]),([],[]),([],[]),([],[])] 0; (focus (refine dp 0 0 [19, 22] [] pu1 ?_; refine dp 1 1 [19, 22] [] (a_pure (sv := .one _) rfl) ?_; refine dp 2 3 [19, 22] [] (a_pure (sv := .one _) rfl) ?_; refine dp 3 7 [19, 22] [] puL ?_; refine dp 4 0 [15, 16, 17, 18, 22] [] pu1 ?_; refine dp 5 31 [22] [] puI ?_; refine dp 6 63 [22] [] puL ?_; refine dp 7 0 [15, 16, 17, 18, 19, 20, 21] [] (callD1 (n := _) 0 (θ := []) (hD := l05None_ok)) ?_; refine dp 8 255 [] [] (by first | exact a_eqRule rfl rfl | exact a_eqRule (s := ⟨_, _, _⟩) rfl rfl | exact a_eqRule (r := ⟨_, _, _⟩) rfl rfl | exact a_eqRule (r := ⟨_, _, _⟩) (s := ⟨_, _, _⟩) rfl rfl) ?_; (refine d_nil ?_; refine dN ?_))); any_goals kernel_rfl) | (refine o_gs rfl rfl (fun hc => ?_) (fun hc => ?_) <;> (try simp only [dcB] at hc) <;> (try first | contradiction | (exfalso; omega))) | (refine g_cond (c := .tmp 12) rfl (fun hc => ?_) (fun hc => ?_) <;> (try simp only [dcB] at hc) <;> (try (first | contradiction | (exfalso; omega))))
      rw [hg]
      by_cases hn : ruI m i = noR
      · rw [hn]
        repeat' first | (apply p3; (first | exact pu1 | exact puL | exact puN | exact a_len_str rfl (fT rfl) | exact puC | exact a_add rfl rfl (by omega) (by omega)); exact rfl) | refine cd ?_ | (apply g_drN (id := 5) okM [[],[0],[0,1],[0,1,2],[],[0,1,2,3,4],[0,1,2,3,4,5],[],[0,1,2,3,4,5,6,7]] [([],[]),([],[]),([],[]),([],[]),([],[]),([],[]),([],[]),([],[]),([],[])] 0; (focus (refine dp 0 0 [19, 22] [] pu1 ?_; refine dp 1 1 [19, 22] [] (a_pure (sv := .one _) rfl) ?_; refine dp 2 3 [19, 22] [] (a_pure (sv := .one _) rfl) ?_; refine dp 3 7 [19, 22] [] puL ?_; refine dp 4 0 [15, 16, 17, 18, 22] [] pu1 ?_; refine dp 5 31 [22] [] puI ?_; refine dp 6 63 [22] [] puL ?_; refine dp 7 0 [15, 16, 17, 18, 19, 20, 21] [] (callD1 (n := _) 0 (θ := []) (hD := l05None_ok)) ?_; refine dp 8 255 [] [] (by first | exact a_eqRule rfl rfl | exact a_eqRule (s := ⟨_, _, _⟩) rfl rfl | exact a_eqRule (r := ⟨_, _, _⟩) rfl rfl | exact a_eqRule (r := ⟨_, _, _⟩) (s := ⟨_, _, _⟩) rfl rfl) ?_; (refine d_nil ?_; refine dN ?_))); any_goals kernel_rfl) | (apply g_drN (id := 6) okM [[],[],[],[2],[2,3],[2,3,4],[1,2,3,4,5],[],[],[8],[8,9],[8,9,10],[7,8,9,10,11],[7,8,9,10,11,12],[1,2,3,4,5,6,7,8,9,10,11,12,13],[1,2,3,4,5,6,7,8,9,10,11,12,13,14],[0,1,2,3,4,5,6,7,8,9,10,11,12,13,14,15],[0,1,2,3,4,5,6,7,8,9,10,11,12,13,14,15,16]] [([],[]),([],[]),([],[]),([],[]),([],[]),([],[]),([],[]),([],[]),([],[]),([],[]),([],[]),([],[]),([],[]),([],[]),([],[]),([0],[]),([1],[_]),([],[])] 2; (focus (refine dp 0 0 [25, 26, 27, 28, 29, 30, 31, 32, 33, 34, 35, 36, 37, 38, 39] [(true, 0)] pu1 ?_; refine dp 1 0 [24, 26, 27, 28, 29, 31, 32, 33, 34, 35, 36, 37] [] pu1 ?_; refine dp 2 0 [24, 25, 31, 32, 33, 34, 35, 36, 37] [] pu1 ?_; refine dp 3 1 [24, 25, 31, 32, 33, 34, 35, 36, 37] [] (a_pure (sv := .one _) rfl) ?_; refine dp 4 3 [24, 25, 31, 32, 33, 34, 35, 36, 37] [] (a_pure (sv := .one _) rfl) ?_; refine dp 5 7 [24, 25, 31, 32, 33, 34, 35, 36, 37] [] puL ?_; refine dp 6 31 [24, 31, 32, 33, 34, 35, 36, 37] [] (a_quo rfl rfl (by omega) (by omega) (by omega)) ?_; refine dp 7 0 [24, 25, 26, 27, 28, 29, 30, 32, 33, 34, 35] [] pu1 ?_; refine dp 8 0 [24, 25, 26, 27, 28, 29, 30, 31] [] pu1 ?_; refine dp 9 1 [24, 25, 26, 27, 28, 29, 30, 31] [] (a_pure (sv := .one _) rfl) ?_; refine dp 10 3 [24, 25, 26, 27, 28, 29, 30, 31] [] (a_pure (sv := .one _) rfl) ?_; refine dp 11 7 [24, 25, 26, 27, 28, 29, 30, 31] [] puL ?_; refine dp 12 31 [24, 25, 26, 27, 28, 29, 30] [] (a_rem rfl rfl (by omega) (by omega) (by omega)) ?_; refine dp 13 63 [24, 25, 26, 27, 28, 29, 30] [] (a_litF (dst := some 37) eI [_] rfl rfl rfl rfl rfl rfl rfl rfl nowR) ?_; refine dp 14 8191 [24] [] (a_pure (sv := .agg _) rfl) ?_; refine duE 15 16383 [24] [] (atN 0 (fun _ => a_litE eP [⟨_, _, _⟩] rfl rfl rfl rfl rfl rfl rfl rfl)) (by exact rfl) (by exact rfl) ?_; refine duE 16 65535 [] [] (atS 1 (fun _ hj => a_appE (fP rfl) rfl rfl rfl rfl nowR (by first | omega | (simp; omega)) (by decide) hj (by exact rfl)) (by decide)) (by exact rfl) (by exact rfl) ?_; refine dp 17 131071 [] [] pu1 ?_; (refine d_nil ?_; refine dN ?_))); any_goals kernel_rfl) | ((first | refine o_gs rfl rfl (fun hc => ?_) (fun hc => ?_) | refine g_cond rfl (fun hc => ?_) (fun hc => ?_)) <;> (try simp only [dcB] at hc) <;> (try first | contradiction | (exfalso; omega)))
        refine q_again (i + 1, _) [2] (by exact stk) ?_ ?_
        · refine ⟨by dsimp only; omega, by dsimp only; omega, ?_⟩
          dsimp only
          rw [haF_yes h0 hn, h2]
        · dsimp only; omega
      · have hn2 : ¬ ruI m i = ⟨0, 0, -1⟩ := hn
        repeat' first | (apply p3; (first | exact pu1 | exact puL | exact puN | exact a_len_str rfl (fT rfl) | exact puC | exact a_add rfl rfl (by omega) (by omega)); exact rfl) | refine cd ?_ | (apply g_drN (id := 5) okM [[],[0],[0,1],[0,1,2],[],[0,1,2,3,4],[0,1,2,3,4,5],[],[0,1,2,3,4,5,6,7]] [([],[]),([],[]),([],[]),([],[]),([],[]),([],[]),([],[]),([],[]),([],[])] 0; (focus (refine dp 0 0 [19, 22] [] pu1 ?_; refine dp 1 1 [19, 22] [] (a_pure (sv := .one _) rfl) ?_; refine dp 2 3 [19, 22] [] (a_pure (sv := .one _) rfl) ?_; refine dp 3 7 [19, 22] [] puL ?_; refine dp 4 0 [15, 16, 17, 18, 22] [] pu1 ?_; refine dp 5 31 [22] [] puI ?_; refine dp 6 63 [22] [] puL ?_; refine dp 7 0 [15, 16, 17, 18, 19, 20, 21] [] (callD1 (n := _) 0 (θ := []) (hD := l05None_ok)) ?_; refine dp 8 255 [] [] (by first | exact a_eqRule rfl rfl | exact a_eqRule (s := ⟨_, _, _⟩) rfl rfl | exact a_eqRule (r := ⟨_, _, _⟩) rfl rfl | exact a_eqRule (r := ⟨_, _, _⟩) (s := ⟨_, _, _⟩) rfl rfl) ?_; (refine d_nil ?_; refine dN ?_))); any_goals kernel_rfl) | (apply g_drN (id := 6) okM [[],[],[],[2],[2,3],[2,3,4],[1,2,3,4,5],[],[],[8],[8,9],[8,9,10],[7,8,9,10,11],[7,8,9,10,11,12],[1,2,3,4,5,6,7,8,9,10,11,12,13],[1,2,3,4,5,6,7,8,9,10,11,12,13,14],[0,1,2,3,4,5,6,7,8,9,10,11,12,13,14,15],[0,1,2,3,4,5,6,7,8,9,10,11,12,13,14,15,16]] [([],[]),([],[]),([],[]),([],[]),([],[]),([],[]),([],[]),([],[]),([],[]),([],[]),([],[]),([],[]),([],[]),([],[]),([],[]),([0],[]),([1],[_]),([],[])] 2; (focus (refine dp 0 0 [25, 26, 27, 28, 29, 30, 31, 32, 33, 34, 35, 36, 37, 38, 39] [(true, 0)] pu1 ?_; refine dp 1 0 [24, 26, 27, 28, 29, 31, 32, 33, 34, 35, 36, 37] [] pu1 ?_; refine dp 2 0 [24, 25, 31, 32, 33, 34, 35, 36, 37] [] pu1 ?_; refine dp 3 1 [24, 25, 31, 32, 33, 34, 35, 36, 37] [] (a_pure (sv := .one _) rfl) ?_; refine dp 4 3 [24, 25, 31, 32, 33, 34, 35, 36, 37] [] (a_pure (sv := .one _) rfl) ?_; refine dp 5 7 [24, 25, 31, 32, 33, 34, 35, 36, 37] [] puL ?_; refine dp 6 31 [24, 31, 32, 33, 34, 35, 36, 37] [] (a_quo rfl rfl (by omega) (by omega) (by omega)) ?_; refine dp 7 0 [24, 25, 26, 27, 28, 29, 30, 32, 33, 34, 35] [] pu1 ?_; refine dp 8 0 [24, 25, 26, 27, 28, 29, 30, 31] [] pu1 ?_; refine dp 9 1 [24, 25, 26, 27, 28, 29, 30, 31] [] (a_pure (sv := .one _) rfl) ?_; refine dp 10 3 [24, 25, 26, 27, 28, 29, 30, 31] [] (a_pure (sv := .one _) rfl) ?_; refine dp 11 7 [24, 25, 26, 27, 28, 29, 30, 31] [] puL ?_; refine dp 12 31 [24, 25, 26, 27, 28, 29, 30] [] (a_rem rfl rfl (by omega) (by omega) (by omega)) ?_; refine dp 13 63 [24, 25, 26, 27, 28, 29, 30] [] (a_litF (dst := some 37) eI [_] rfl rfl rfl rfl rfl rfl rfl rfl nowR) ?_; refine dp 14 8191 [24] [] (a_pure (sv := .agg _) rfl) ?_; refine duE 15 16383 [24] [] (atN 0 (fun _ => a_litE eP [⟨_, _, _⟩] rfl rfl rfl rfl rfl rfl rfl rfl)) (by exact rfl) (by exact rfl) ?_; refine duE 16 65535 [] [] (atS 1 (fun _ hj => a_appE (fP rfl) rfl rfl rfl rfl nowR (by first | omega | (simp; omega)) (by decide) hj (by exact rfl)) (by decide)) (by exact rfl) (by exact rfl) ?_; refine dp 17 131071 [] [] pu1 ?_; (refine d_nil ?_; refine dN ?_))); any_goals kernel_rfl) | ((first | refine o_gs rfl rfl (fun hc => ?_) (fun hc => ?_) | refine g_cond rfl (fun hc => ?_) (fun hc => ?_)) <;> (try simp only [dcB] at hc) <;> (try first | contradiction | (exfalso; omega)))
        refine q_again (i + 1, out) [0] (by exact stk) ?_ ?_
        · refine ⟨by dsimp only; omega, by dsimp only; omega, ?_⟩
          dsimp only
          rw [haF_no h0 hn, h2]
        · dsimp only; omega
    · have hi : i.toNat = m.ru.length := by omega
      have e : haltP m = out := by unfold haltP; rw [h2, hi]
      rw [e]
      repeat' first | (apply p3; (first | exact pu1 | exact puL | exact puN | exact a_len_str rfl (fT rfl) | exact puC | exact a_add rfl rfl (by omega) (by omega)); exact rfl) | refine cd ?_ | (apply g_drN (id := 5) okM [[],[0],[0,1],[0,1,2],[],[0,1,2,3,4],[0,1,2,3,4,5],[],[0,1,2,3,4,5,6,7]] [([],[]),([],[]),([],[]),([],[]),([],[]),([],[]),([],[]),([],[]),([],[])] 0; (focus (refine dp 0 0 [19, 22] [] pu1 ?_; refine dp 1 1 [19, 22] [] (a_pure (sv := .one _) rfl) ?_; refine dp 2 3 [19, 22] [] (a_pure (sv := .one _) rfl) ?_; refine dp 3 7 [19, 22] [] puL ?_; refine dp 4 0 [15, 16, 17, 18, 22] [] pu1 ?_; refine dp 5 31 [22] [] puI ?_; refine dp 6 63 [22] [] puL ?_; refine dp 7 0 [15, 16, 17, 18, 19, 20, 21] [] (callD1 (n := _) 0 (θ := []) (hD := l05None_ok)) ?_; refine dp 8 255 [] [] (by first | exact a_eqRule rfl rfl | exact a_eqRule (s := ⟨_, _, _⟩) rfl rfl | exact a_eqRule (r := ⟨_, _, _⟩) rfl rfl | exact a_eqRule (r := ⟨_, _, _⟩) (s := ⟨_, _, _⟩) rfl rfl) ?_; (refine d_nil ?_; refine dN ?_))); any_goals kernel_rfl) | (apply g_drN (id := 6) okM [[],[],[],[2],[2,3],[2,3,4],[1,2,3,4,5],[],[],[8],[8,9],[8,9,10],[7,8,9,10,11],[7,8,9,10,11,12],[1,2,3,4,5,6,7,8,9,10,11,12,13],[1,2,3,4,5,6,7,8,9,10,11,12,13,14],[0,1,2,3,4,5,6,7,8,9,10,11,12,13,14,15],[0,1,2,3,4,5,6,7,8,9,10,11,12,13,14,15,16]] [([],[]),([],[]),([],[]),([],[]),([],[]),([],[]),([],[]),([],[]),([],[]),([],[]),([],[]),([],[]),([],[]),([],[]),([],[]),([0],[]),([1],[_]),([],[])] 2; (focus (refine dp 0 0 [25, 26, 27, 28, 29, 30, 31, 32, 33, 34, 35, 36, 37, 38, 39] [(true, 0)] pu1 ?_; refine dp 1 0 [24, 26, 27, 28, 29, 31, 32, 33, 34, 35, 36, 37] [] pu1 ?_; refine dp 2 0 [24, 25, 31, 32, 33, 34, 35, 36, 37] [] pu1 ?_; refine dp 3 1 [24, 25, 31, 32, 33, 34, 35, 36, 37] [] (a_pure (sv := .one _) rfl) ?_; refine dp 4 3 [24, 25, 31, 32, 33, 34, 35, 36, 37] [] (a_pure (sv := .one _) rfl) ?_; refine dp 5 7 [24, 25, 31, 32, 33, 34, 35, 36, 37] [] puL ?_; refine dp 6 31 [24, 31, 32, 33, 34, 35, 36, 37] [] (a_quo rfl rfl (by omega) (by omega) (by omega)) ?_; refine dp 7 0 [24, 25, 26, 27, 28, 29, 30, 32, 33, 34, 35] [] pu1 ?_; refine dp 8 0 [24, 25, 26, 27, 28, 29, 30, 31] [] pu1 ?_; refine dp 9 1 [24, 25, 26, 27, 28, 29, 30, 31] [] (a_pure (sv := .one _) rfl) ?_; refine dp 10 3 [24, 25, 26, 27, 28, 29, 30, 31] [] (a_pure (sv := .one _) rfl) ?_; refine dp 11 7 [24, 25, 26, 27, 28, 29, 30, 31] [] puL ?_; refine dp 12 31 [24, 25, 26, 27, 28, 29, 30] [] (a_rem rfl rfl (by omega) (by omega) (by omega)) ?_; refine dp 13 63 [24, 25, 26, 27, 28, 29, 30] [] (a_litF (dst := some 37) eI [_] rfl rfl rfl rfl rfl rfl rfl rfl nowR) ?_; refine dp 14 8191 [24] [] (a_pure (sv := .agg _) rfl) ?_; refine duE 15 16383 [24] [] (atN 0 (fun _ => a_litE eP [⟨_, _, _⟩] rfl rfl rfl rfl rfl rfl rfl rfl)) (by exact rfl) (by exact rfl) ?_; refine duE 16 65535 [] [] (atS 1 (fun _ hj => a_appE (fP rfl) rfl rfl rfl rfl nowR (by first | omega | (simp; omega)) (by decide) hj (by exact rfl)) (by decide)) (by exact rfl) (by exact rfl) ?_; refine dp 17 131071 [] [] pu1 ?_; (refine d_nil ?_; refine dN ?_))); any_goals kernel_rfl) | ((first | refine o_gs rfl rfl (fun hc => ?_) (fun hc => ?_) | refine g_cond rfl (fun hc => ?_) (fun hc => ?_)) <;> (try simp only [dcB] at hc) <;> (try first | contradiction | (exfalso; omega)))
      refine g_turn (t_freeze (i := 0) rfl nowR) ?_
      repeat refine cr ?_
      refine ends_id ?_
      refine endK [] (h2 := ?_) (h3 := ?_) (nd := ?_)
      all_goals (repeat' first | exact ce0 | refine ce ?_ | refine ce2 ?_ ?_ | exact SVLe.refl | refine ceb ?_)
      all_goals first | exact (show nodupB _ = true from rfl) | exact Or.inr rfl | (rfl)
end Go.Proofs.YtbekdojhcokalaaGreatDoor
end
section
set_option linter.unusedVariables false
set_option linter.unusedSimpArgs false
set_option maxRecDepth 100000
set_option maxHeartbeats 4000000
namespace Go.Proofs.YtbekdojhcokalaaGreatDoor
open Go Foot
/-- A partial configuration of a machine. -/
structure PtOk (m : Mach) (x : Part) : Prop where
  s : 0 ≤ x.st ∧ x.st ≤ m.st - 1
  a : 0 ≤ x.pl ∧ x.pl < x.ce.length
  l : (x.ce.length : Int) ≤ 60
  c : ∀ v ∈ x.ce, 0 ≤ v ∧ v ≤ m.sy - 1
theorem pt_gd {m : Mach} {x : Part} (g : PtOk m x) : PtGd x := ⟨g.a.1, g.a.2, by have := g.l; omega⟩
theorem idx_bd {m : Mach} (hm : vMach m = true) {i : Int} (h0 : 0 ≤ i) (h : i < m.ru.length) : (0 ≤ i / m.sy ∧ i / m.sy ≤ m.st - 1) ∧ 0 ≤ i % m.sy ∧ i % m.sy ≤ m.sy - 1 := by
  have hb := vMach_bd hm
  have h1 : i / m.sy < m.st := Int.ediv_lt_of_lt_mul (by omega) (by rw [Int.mul_comm]; omega)
  have h2 := Int.ediv_nonneg h0 (show 0 ≤ m.sy by omega)
  have h3 := Int.emod_nonneg i (show m.sy ≠ 0 by omega)
  have h4 := Int.emod_lt_of_pos i (show 0 < m.sy by omega)
  omega
theorem bef_ok {m : Mach} {x y : Part} {i : Int} (hm : vMach m = true) (g : PtOk m x) (h0 : 0 ≤ i) (h : i < m.ru.length) (e : befP m x i = some y) : (y.ce.length : Int) ≤ 61 ∧ ((y.ce.length : Int) ≤ 60 → PtOk m y) := by
  obtain ⟨g1, g2, g3, g4⟩ := g
  unfold befP at e
  split at e
  · cases e
  · rename_i hn
    have hk := ruI_ok hm h0 h (fun q => hn (.inl q))
    obtain ⟨i1, i2⟩ := idx_bd hm h0 h
    split at e
    · cases e
    · rename_i hw
      simp only [Option.some.injEq] at e
      subst e
      dsimp only
      have key : ((wid x (x.pl - (ruI m i).m) (ruI m i).w).1.length : Int) ≤ 61 ∧ 0 ≤ (wid x (x.pl - (ruI m i).m) (ruI m i).w).2 ∧ (wid x (x.pl - (ruI m i).m) (ruI m i).w).2 < (wid x (x.pl - (ruI m i).m) (ruI m i).w).1.length ∧ ∀ v ∈ (wid x (x.pl - (ruI m i).m) (ruI m i).w).1, 0 ≤ v ∧ v ≤ m.sy - 1 := by
        unfold wid
        split
        · dsimp only
          refine ⟨by simp <;> omega, by simp, by simp <;> omega, fun v hv => ?_⟩
          rcases List.mem_cons.1 hv with rfl | hv
          · exact hk.1
          · exact g4 v hv
        · split
          · dsimp only
            refine ⟨by simp; omega, by omega, by simp; omega, fun v hv => ?_⟩
            rcases List.mem_append.1 hv with hv | hv
            · exact g4 v hv
            · rw [List.mem_singleton.1 hv]; exact hk.1
          · dsimp only
            exact ⟨by omega, by omega, by rcases hk.2.1 with q | q <;> omega, g4⟩
      refine ⟨by rw [List.length_set]; exact key.1, fun hl => ⟨i1, ⟨key.2.1, by rw [List.length_set]; exact key.2.2.1⟩, hl, fun v hv => ?_⟩⟩
      rcases List.mem_or_eq_of_mem_set hv with hv | rfl
      · exact key.2.2.2 v hv
      · exact i2
def prdF (m : Mach) (x : Part) : Nat → Option (List Part)
  | 0 => some []
  | i + 1 => match prdF m x i with
    | none => none
    | some l => match befP m x i with
      | none => some l
      | some y => if 60 < (y.ce.length : Int) then none else some (l ++ [y])
@[irreducible] def prds (m : Mach) (x : Part) : Option (List Part) := prdF m x m.ru.length
theorem prdF_next (m : Mach) (x : Part) {i : Int} (h0 : 0 ≤ i) : prdF m x (i + 1).toNat = match prdF m x i.toNat with
    | none => none
    | some l => match befP m x i with
      | none => some l
      | some y => if 60 < (y.ce.length : Int) then none else some (l ++ [y]) := by
  rw [show (i + 1).toNat = i.toNat + 1 by omega, prdF, show ((i.toNat : Nat) : Int) = i by omega]
theorem prdF_none {m : Mach} {x : Part} : ∀ {n i : Nat}, prdF m x i = none → i ≤ n → prdF m x n = none
  | 0, i, h, hi => by
    have e : i = 0 := by omega
    rw [← e]
    exact h
  | n + 1, i, h, hi => by
    by_cases e : i = n + 1
    · rw [← e]; exact h
    · rw [prdF, prdF_none h (by omega)]
theorem prdF_len {m : Mach} {x : Part} : ∀ {i : Nat} {l : List Part}, prdF m x i = some l → l.length ≤ i
  | 0, l, h => by simp only [prdF, Option.some.injEq] at h; subst h; simp
  | i + 1, l, h => by
    rw [prdF] at h
    split at h
    · cases h
    · rename_i l0 h0
      have := prdF_len h0
      split at h
      · cases h; omega
      · split at h
        · cases h
        · cases h; simp; omega
theorem prdF_ok {m : Mach} {x : Part} (hm : vMach m = true) (g : PtOk m x) : ∀ {i : Nat} {l : List Part}, i ≤ m.ru.length → prdF m x i = some l → ∀ y ∈ l, PtOk m y
  | 0, l, _, h => by simp only [prdF, Option.some.injEq] at h; subst h; simp
  | i + 1, l, hi, h => by
    rw [prdF] at h
    split at h
    · cases h
    · rename_i l0 h0
      have ih := prdF_ok hm g (by omega) h0
      split at h
      · cases h; exact ih
      · rename_i y hy
        split at h
        · cases h
        · rename_i hn
          cases h
          intro z hz
          rcases List.mem_append.1 hz with hz | hz
          · exact ih z hz
          · rw [List.mem_singleton.1 hz]
            exact (bef_ok hm g (by omega) (by omega) hy).2 (by omega)
theorem preB64 {p : Prop} (h : p := by first | with_reducible assumption | omega | (simp only [List.length_append, List.length_cons, List.length_nil, List.length_set, List.length_replicate, List.length_take, List.length_drop, List.length_tail, List.length_dropLast, List.length_reverse] at *; omega) | exact mem_len (by assumption) (by omega) | (with_reducible refine Int.le_trans (Int.ofNat_le.2 (trimR_len _)) ?_; simp only [List.length_cons, List.length_tail]; omega) | (exact (ruAt_ok (by assumption) (by assumption) (by assumption)).2.1) | (exact (ruAt_ok (by assumption) (by assumption) (by assumption)).2.1) | (have := vMach_bd (by assumption); omega) | (simp only [mC_ch, mC_tu]; omega) | (have := vTag_bd (by assumption); omega) | (have := (‹Gd _ _›).le; omega) | (exact tgHalts_no (by assumption)) | (exact tgHead (by assumption) (by assumption) (by assumption)) | (exact Int.le_trans (tgStep_gd (by assumption) (by assumption) (by assumption) (by assumption)).le (by decide)) | (exact vTag_r (by assumption)) | (with_reducible refine Int.le_trans (Int.ofNat_le.2 (pushL_len _ _)) ?_; simp only [List.length_dropLast]; omega) | exact ls_at (by assumption) (by omega) | exact (ask_ok (by assumption)).1 | exact (ask_ok (by assumption)).2.1 | exact (ask_ok (by assumption)).2.2.1 | exact (ask_ok (by assumption)).2.2.2 | exact pt_gd (by assumption) | trivial) : p := h
theorem l26Predecessors_ok (m : Mach) (x : Part) (hm : vMach m = true) (g : PtOk m x) : Does Tryz.prog 207 [.one (maB m), .one (paB x)] [] (.tup [(false, [shPa ((prds m x).getD [])]), (false, [boo (prds m x).isSome])]) [] := by
  have hl := vMach_len hm
  refine does_of (k := 0) Tryz.func207 rfl Tryz.ntmps207 rfl rfl fun w F0 S0 ρ0 => ?_
  dsimp only [argT, argH]
  repeat' first | (apply n3; (first | exact a_litE eP [] rfl rfl rfl rfl rfl rfl rfl rfl | exact a_new (gb := .bx _) rfl | exact a_litE eP [⟨_, _, _⟩] rfl rfl rfl rfl rfl rfl rfl rfl | exact a_appN (fP rfl) rfl rfl rfl nowR (by first | omega | (simp; omega)) (by decide) (by exact rfl)); exact rfl; refine dA ?_) | (apply p3; (first | exact pu1 | exact puL | exact puN | exact a_len_str rfl (fT rfl) | exact puC | exact a_add rfl rfl (by omega) (by omega)); exact rfl) | refine cd ?_ | (apply s3; exact a_appE (fP rfl) rfl rfl rfl rfl nowR (by first | omega | (simp; omega)) (by decide) (by decide) (by exact rfl); exact rfl; exact rfl) | (apply w3; (first | exact a_st_bx rfl rfl rfl rfl (fN rfl rfl) (Nat.le_of_ble_eq_true rfl) rfl | exact a_stE (E := eP) ⟨_, _, _⟩ rfl rfl rfl rfl (fN rfl rfl) bnd (by exact rfl)); exact rfl; refine dS ?_) | (apply c4 0; exact callK0 (θ := []) (hD := (l26Before_ok _ _ _ preB64 preB64 preB64 preB64)); exact rfl; exact rfl; exact rfl; refine dM ?_) | refine o_no rfl rfl rfl rfl ?_ | refine o_noN rfl rfl rfl ?_ | (apply py3; exact rfl; exact rfl; (first | exact pu1 | exact puL | exact puN | exact a_len_str rfl (fT rfl) | exact puC | exact a_add rfl rfl (by omega) (by omega)); exact rfl; exact rfl) | (apply ny3; exact rfl; exact rfl; (first | exact a_litE eP [] rfl rfl rfl rfl rfl rfl rfl rfl | exact a_new (gb := .bx _) rfl | exact a_litE eP [⟨_, _, _⟩] rfl rfl rfl rfl rfl rfl rfl rfl | exact a_appN (fP rfl) rfl rfl rfl nowR (by first | omega | (simp; omega)) (by decide) (by exact rfl)); exact rfl; exact rfl) | (apply cy4 0; exact rfl; exact rfl; exact callK0 (θ := []) (hD := (l26Before_ok _ _ _ preB64 preB64 preB64 preB64)); exact rfl; exact rfl; exact rfl; exact rfl; refine dM ?_) | ((first | refine o_gs rfl rfl (fun hc => ?_) (fun hc => ?_) | refine g_cond rfl (fun hc => ?_) (fun hc => ?_)) <;> (try simp only [dcB] at hc) <;> (try first | contradiction | (exfalso; omega)))
  refine g_loop_id ?_
  refine loopK [0, 1, 4, 5, 6] [0] (fun y : Int × List Part => 0 ≤ y.1 ∧ y.1 ≤ m.ru.length ∧ prdF m x y.1.toNat = some y.2) (fun y => [(7, .one (int y.1))]) (fun y => [(0, roPa y.2)]) (fun y => (m.ru.length - y.1).toNat) ((0 : Int), ([] : List Part)) [0] (hI := ?_) (hr := ?_)
  · exact ⟨by simp, by simp, rfl⟩
  · rintro ⟨i, out⟩ ⟨h0, h1, h2⟩
    dsimp only [List.cons_append, List.nil_append] at *
    skip
    repeat' first | (apply p3; (first | exact pu1 | exact puL | exact puN | exact a_len_str rfl (fT rfl) | exact puC); exact rfl) | refine cdn ?_ | refine g_reg (id := 3) ?_ | refine g_reg (id := 10) ?_ | ((first | refine o_gs rfl rfl (fun hc => ?_) (fun hc => ?_) | refine g_cond rfl (fun hc => ?_) (fun hc => ?_)) <;> (try simp only [dcB] at hc) <;> (try first | contradiction | (exfalso; omega)))
    · have ho := prdF_len h2
      have hn := prdF_next m x h0
      rw [h2] at hn
      dsimp only at hn
      cases hf : befP m x i with
      | none =>
        rw [hf] at hn
        dsimp only at hn
        repeat' first | (apply n3; exact a_new (gb := .bx _) rfl; exact rfl; refine dA ?_) | (apply p3; (first | exact pu1 | exact puL | exact puN | exact a_len_str rfl (fT rfl) | exact puC); exact rfl) | refine cdn ?_ | refine g_reg (id := 3) ?_ | refine g_reg (id := 5) ?_ | refine g_reg (id := 10) ?_ | (apply w3; (first | exact a_st_bx rfl rfl rfl rfl (fN rfl rfl) (Nat.le_of_ble_eq_true rfl) rfl | exact a_stE (E := eP) ⟨_, _, _⟩ rfl rfl rfl rfl (fN rfl rfl) bnd (by exact rfl)); exact rfl; refine dS ?_) | (apply c4 0; exact callK0 (θ := []) (hD := (l26Before_ok _ _ _ preB64 preB64 preB64 preB64)); exact rfl; exact rfl; exact rfl; refine dM ?_) | ((first | refine o_gs rfl rfl (fun hc => ?_) (fun hc => ?_) | refine g_cond rfl (fun hc => ?_) (fun hc => ?_)) <;> (try simp only [dcB] at hc) <;> (try first | contradiction | (exfalso; omega)))
        simp only [hf, Option.isSome_none, Option.getD_none]
        repeat' first | (apply n3; (first | exact a_new (gb := .bx _) rfl | exact a_litE eP [⟨_, _, _⟩] rfl rfl rfl rfl rfl rfl rfl rfl | exact a_appN (fP rfl) rfl rfl rfl nowR (by first | omega | (simp; omega)) (by decide) (by exact rfl)); exact rfl; refine dA ?_) | (apply p3; (first | exact pu1 | exact puL | exact puN | exact a_len_str rfl (fT rfl) | exact puC | exact a_add rfl rfl (by omega) (by omega)); exact rfl) | refine cd ?_ | (apply s3; exact a_appE (fP rfl) rfl rfl rfl rfl nowR (by first | omega | (simp; omega)) (by decide) (by decide) (by exact rfl); exact rfl; exact rfl) | (apply w3; (first | exact a_st_bx rfl rfl rfl rfl (fN rfl rfl) (Nat.le_of_ble_eq_true rfl) rfl | exact a_stE (E := eP) ⟨_, _, _⟩ rfl rfl rfl rfl (fN rfl rfl) bnd (by exact rfl)); exact rfl; refine dS ?_) | (apply c4 0; exact callK0 (θ := []) (hD := (l26Before_ok _ _ _ preB64 preB64 preB64 preB64)); exact rfl; exact rfl; exact rfl; refine dM ?_) | refine o_no rfl rfl rfl rfl ?_ | refine o_noN rfl rfl rfl ?_ | (apply py3; exact rfl; exact rfl; (first | exact pu1 | exact puL | exact puN | exact a_len_str rfl (fT rfl) | exact puC | exact a_add rfl rfl (by omega) (by omega)); exact rfl; exact rfl) | (apply ny3; exact rfl; exact rfl; (first | exact a_new (gb := .bx _) rfl | exact a_litE eP [⟨_, _, _⟩] rfl rfl rfl rfl rfl rfl rfl rfl | exact a_appN (fP rfl) rfl rfl rfl nowR (by first | omega | (simp; omega)) (by decide) (by exact rfl)); exact rfl; exact rfl) | (apply cy4 0; exact rfl; exact rfl; exact callK0 (θ := []) (hD := (l26Before_ok _ _ _ preB64 preB64 preB64 preB64)); exact rfl; exact rfl; exact rfl; exact rfl; refine dM ?_) | ((first | refine o_gs rfl rfl (fun hc => ?_) (fun hc => ?_) | refine g_cond rfl (fun hc => ?_) (fun hc => ?_)) <;> (try simp only [dcB] at hc) <;> (try first | contradiction | (exfalso; omega)))
        refine q_again (i + 1, out) [0] (by exact stk) ?_ ?_
        · exact ⟨by dsimp only; omega, by dsimp only; omega, hn⟩
        · dsimp only; omega
      | some y =>
        rw [hf] at hn
        dsimp only at hn
        have hy := bef_ok hm g h0 hc hf
        repeat' first | (apply n3; exact a_new (gb := .bx _) rfl; exact rfl; refine dA ?_) | (apply p3; (first | exact pu1 | exact puL | exact puN | exact a_len_str rfl (fT rfl) | exact puC); exact rfl) | refine cdn ?_ | refine g_reg (id := 3) ?_ | refine g_reg (id := 5) ?_ | refine g_reg (id := 10) ?_ | (apply w3; (first | exact a_st_bx rfl rfl rfl rfl (fN rfl rfl) (Nat.le_of_ble_eq_true rfl) rfl | exact a_stE (E := eP) ⟨_, _, _⟩ rfl rfl rfl rfl (fN rfl rfl) bnd (by exact rfl)); exact rfl; refine dS ?_) | (apply c4 0; exact callK0 (θ := []) (hD := (l26Before_ok _ _ _ preB64 preB64 preB64 preB64)); exact rfl; exact rfl; exact rfl; refine dM ?_) | ((first | refine o_gs rfl rfl (fun hc => ?_) (fun hc => ?_) | refine g_cond rfl (fun hc => ?_) (fun hc => ?_)) <;> (try simp only [dcB] at hc) <;> (try first | contradiction | (exfalso; omega)))
        simp only [hf, Option.isSome_some, Option.getD_some]
        by_cases hy6 : 60 < (y.ce.length : Int)
        · rw [if_pos hy6] at hn
          have e : prds m x = none := by unfold prds; exact prdF_none hn (by omega)
          rw [e]
          repeat' first | (apply n3; (first | exact a_new (gb := .bx _) rfl | exact a_litE eP [⟨_, _, _⟩] rfl rfl rfl rfl rfl rfl rfl rfl | exact a_appN (fP rfl) rfl rfl rfl nowR (by first | omega | (simp; omega)) (by decide) (by exact rfl)); exact rfl; refine dA ?_) | (apply p3; (first | exact pu1 | exact puL | exact puN | exact a_len_str rfl (fT rfl) | exact puC | exact a_add rfl rfl (by omega) (by omega)); exact rfl) | refine cd ?_ | (apply s3; exact a_appE (fP rfl) rfl rfl rfl rfl nowR (by first | omega | (simp; omega)) (by decide) (by decide) (by exact rfl); exact rfl; exact rfl) | (apply w3; (first | exact a_st_bx rfl rfl rfl rfl (fN rfl rfl) (Nat.le_of_ble_eq_true rfl) rfl | exact a_stE (E := eP) ⟨_, _, _⟩ rfl rfl rfl rfl (fN rfl rfl) bnd (by exact rfl)); exact rfl; refine dS ?_) | (apply c4 0; exact callK0 (θ := []) (hD := (l26Before_ok _ _ _ preB64 preB64 preB64 preB64)); exact rfl; exact rfl; exact rfl; refine dM ?_) | refine o_no rfl rfl rfl rfl ?_ | refine o_noN rfl rfl rfl ?_ | (apply py3; exact rfl; exact rfl; (first | exact pu1 | exact puL | exact puN | exact a_len_str rfl (fT rfl) | exact puC | exact a_add rfl rfl (by omega) (by omega)); exact rfl; exact rfl) | (apply ny3; exact rfl; exact rfl; (first | exact a_new (gb := .bx _) rfl | exact a_litE eP [⟨_, _, _⟩] rfl rfl rfl rfl rfl rfl rfl rfl | exact a_appN (fP rfl) rfl rfl rfl nowR (by first | omega | (simp; omega)) (by decide) (by exact rfl)); exact rfl; exact rfl) | (apply cy4 0; exact rfl; exact rfl; exact callK0 (θ := []) (hD := (l26Before_ok _ _ _ preB64 preB64 preB64 preB64)); exact rfl; exact rfl; exact rfl; exact rfl; refine dM ?_) | ((first | refine o_gs rfl rfl (fun hc => ?_) (fun hc => ?_) | refine g_cond rfl (fun hc => ?_) (fun hc => ?_)) <;> (try simp only [dcB] at hc) <;> (try first | contradiction | (exfalso; omega)))
          repeat refine cr ?_
          refine ends_id ?_
          refine endK [] (h2 := ?_) (h3 := ?_) (nd := ?_)
          all_goals (repeat' first | exact ce0 | refine ce ?_ | refine ce2 ?_ ?_ | exact SVLe.refl | refine ceb ?_)
          all_goals first | exact (show nodupB _ = true from rfl) | exact Or.inr rfl | (rfl)
        · rw [if_neg hy6] at hn
          repeat' first | (apply n3; (first | exact a_new (gb := .bx _) rfl | exact a_litE eP [⟨_, _, _⟩] rfl rfl rfl rfl rfl rfl rfl rfl | exact a_appN (fP rfl) rfl rfl rfl nowR (by first | omega | (simp; omega)) (by decide) (by exact rfl)); exact rfl; refine dA ?_) | (apply p3; (first | exact pu1 | exact puL | exact puN | exact a_len_str rfl (fT rfl) | exact puC | exact a_add rfl rfl (by omega) (by omega)); exact rfl) | refine cd ?_ | (apply s3; exact a_appE (fP rfl) rfl rfl rfl rfl nowR (by first | omega | (simp; omega)) (by decide) (by decide) (by exact rfl); exact rfl; exact rfl) | (apply w3; (first | exact a_st_bx rfl rfl rfl rfl (fN rfl rfl) (Nat.le_of_ble_eq_true rfl) rfl | exact a_stE (E := eP) ⟨_, _, _⟩ rfl rfl rfl rfl (fN rfl rfl) bnd (by exact rfl)); exact rfl; refine dS ?_) | (apply c4 0; exact callK0 (θ := []) (hD := (l26Before_ok _ _ _ preB64 preB64 preB64 preB64)); exact rfl; exact rfl; exact rfl; refine dM ?_) | refine o_no rfl rfl rfl rfl ?_ | refine o_noN rfl rfl rfl ?_ | (apply py3; exact rfl; exact rfl; (first | exact pu1 | exact puL | exact puN | exact a_len_str rfl (fT rfl) | exact puC | exact a_add rfl rfl (by omega) (by omega)); exact rfl; exact rfl) | (apply ny3; exact rfl; exact rfl; (first | exact a_new (gb := .bx _) rfl | exact a_litE eP [⟨_, _, _⟩] rfl rfl rfl rfl rfl rfl rfl rfl | exact a_appN (fP rfl) rfl rfl rfl nowR (by first | omega | (simp; omega)) (by decide) (by exact rfl)); exact rfl; exact rfl) | (apply cy4 0; exact rfl; exact rfl; exact callK0 (θ := []) (hD := (l26Before_ok _ _ _ preB64 preB64 preB64 preB64)); exact rfl; exact rfl; exact rfl; exact rfl; refine dM ?_) | ((first | refine o_gs rfl rfl (fun hc => ?_) (fun hc => ?_) | refine g_cond rfl (fun hc => ?_) (fun hc => ?_)) <;> (try simp only [dcB] at hc) <;> (try first | contradiction | (exfalso; omega)))
          refine q_again (i + 1, _) [3] (by exact stk) ?_ ?_
          · exact ⟨by dsimp only; omega, by dsimp only; omega, hn⟩
          · dsimp only; omega
    · have hi : i.toNat = m.ru.length := by omega
      have e : prds m x = some out := by unfold prds; rw [← h2, hi]
      rw [e]
      repeat' first | (apply n3; (first | exact a_new (gb := .bx _) rfl | exact a_litE eP [⟨_, _, _⟩] rfl rfl rfl rfl rfl rfl rfl rfl | exact a_appN (fP rfl) rfl rfl rfl nowR (by first | omega | (simp; omega)) (by decide) (by exact rfl)); exact rfl; refine dA ?_) | (apply p3; (first | exact pu1 | exact puL | exact puN | exact a_len_str rfl (fT rfl) | exact puC | exact a_add rfl rfl (by omega) (by omega)); exact rfl) | refine cd ?_ | (apply s3; exact a_appE (fP rfl) rfl rfl rfl rfl nowR (by first | omega | (simp; omega)) (by decide) (by decide) (by exact rfl); exact rfl; exact rfl) | (apply w3; (first | exact a_st_bx rfl rfl rfl rfl (fN rfl rfl) (Nat.le_of_ble_eq_true rfl) rfl | exact a_stE (E := eP) ⟨_, _, _⟩ rfl rfl rfl rfl (fN rfl rfl) bnd (by exact rfl)); exact rfl; refine dS ?_) | (apply c4 0; exact callK0 (θ := []) (hD := (l26Before_ok _ _ _ preB64 preB64 preB64 preB64)); exact rfl; exact rfl; exact rfl; refine dM ?_) | refine o_no rfl rfl rfl rfl ?_ | refine o_noN rfl rfl rfl ?_ | (apply py3; exact rfl; exact rfl; (first | exact pu1 | exact puL | exact puN | exact a_len_str rfl (fT rfl) | exact puC | exact a_add rfl rfl (by omega) (by omega)); exact rfl; exact rfl) | (apply ny3; exact rfl; exact rfl; (first | exact a_new (gb := .bx _) rfl | exact a_litE eP [⟨_, _, _⟩] rfl rfl rfl rfl rfl rfl rfl rfl | exact a_appN (fP rfl) rfl rfl rfl nowR (by first | omega | (simp; omega)) (by decide) (by exact rfl)); exact rfl; exact rfl) | (apply cy4 0; exact rfl; exact rfl; exact callK0 (θ := []) (hD := (l26Before_ok _ _ _ preB64 preB64 preB64 preB64)); exact rfl; exact rfl; exact rfl; exact rfl; refine dM ?_) | ((first | refine o_gs rfl rfl (fun hc => ?_) (fun hc => ?_) | refine g_cond rfl (fun hc => ?_) (fun hc => ?_)) <;> (try simp only [dcB] at hc) <;> (try first | contradiction | (exfalso; omega)))
      refine g_turn (t_freeze (i := 0) rfl nowR) ?_
      repeat refine cr ?_
      refine ends_id ?_
      refine endK [] (h2 := ?_) (h3 := ?_) (nd := ?_)
      all_goals (repeat' first | exact ce0 | refine ce ?_ | refine ce2 ?_ ?_ | exact SVLe.refl | refine ceb ?_)
      all_goals first | exact (show nodupB _ = true from rfl) | exact Or.inr rfl | (rfl)
end Go.Proofs.YtbekdojhcokalaaGreatDoor
end
section
set_option linter.unusedVariables false
set_option linter.unusedSimpArgs false
set_option maxRecDepth 100000
set_option maxHeartbeats 4000000
namespace Go.Proofs.YtbekdojhcokalaaGreatDoor
open Go Foot
@[irreducible] def eqPt (a b : Part) : Bool := decide (a = b)
theorem eqPt_iff {a b : Part} : (a = b) ↔ (a.st = b.st ∧ a.pl = b.pl ∧ a.ce = b.ce) := by
  cases a; cases b; simp
theorem preB65 {p : Prop} (h : p := by first | with_reducible assumption | omega | (simp only [List.length_append, List.length_cons, List.length_nil, List.length_set, List.length_replicate, List.length_take, List.length_drop, List.length_tail, List.length_dropLast, List.length_reverse] at *; omega) | exact mem_len (by assumption) (by omega) | (with_reducible refine Int.le_trans (Int.ofNat_le.2 (trimR_len _)) ?_; simp only [List.length_cons, List.length_tail]; omega) | (exact (ruAt_ok (by assumption) (by assumption) (by assumption)).2.1) | (exact (ruAt_ok (by assumption) (by assumption) (by assumption)).2.1) | (have := vMach_bd (by assumption); omega) | (simp only [mC_ch, mC_tu]; omega) | (have := vTag_bd (by assumption); omega) | (have := (‹Gd _ _›).le; omega) | (exact tgHalts_no (by assumption)) | (exact tgHead (by assumption) (by assumption) (by assumption)) | (exact Int.le_trans (tgStep_gd (by assumption) (by assumption) (by assumption) (by assumption)).le (by decide)) | (exact vTag_r (by assumption)) | (with_reducible refine Int.le_trans (Int.ofNat_le.2 (pushL_len _ _)) ?_; simp only [List.length_dropLast]; omega) | exact ls_at (by assumption) (by omega) | exact pt_gd (by assumption) | exact (ask_ok (by assumption)).1 | exact (ask_ok (by assumption)).2.1 | exact (ask_ok (by assumption)).2.2.1 | exact (ask_ok (by assumption)).2.2.2 | trivial) : p := h
theorem l26Same_ok (a b : Part) (g : PtGd a) (k : PtGd b) : Does Tryz.prog 208 [.one (paB a), .one (paB b)] [] (.one (boo (eqPt a b))) [] := by
  have g3 := g.c
  have k3 := k.c
  refine does_of (k := 0) Tryz.func208 rfl Tryz.ntmps208 rfl rfl fun w F0 S0 ρ0 => ?_
  dsimp only [argT, argH]
  repeat' first | (apply p3; exact a_pure (sv := .one _) rfl; exact rfl) | refine cd ?_ | (apply g_drN (id := 1) okM [[],[0],[0,1],[0,1,2],[],[4],[4,5],[4,5,6],[0,1,2,3,4,5,6,7],[0,1,2,3,4,5,6,7,8],[0,1,2,3,4,5,6,7,8,9],[0,1,2,3,4,5,6,7,8,9,10],[0,1,2,3,4,5,6,7,8,9,10,11],[0,1,2,3,4,5,6,7,8,9,10,11,12],[0,1,2,3,4,5,6,7,8,9],[0,1,2,3,4,5,6,7,8,9,14],[0,1,2,3,4,5,6,7,8,9,14,15],[0,1,2,3,4,5,6,7,8,9,14,15,16],[0,1,2,3,4,5,6,7,8,9,10,11,12,13,14,15,16,17],[0,1,2,3,4,5,6,7,8,9,10,11,12,13,14,15,16,17,18],[0,1,2,3,4,5,6,7,8,9,10,11,12,13,14,15,16,17,18,19],[0,1,2,3,4,5,6,7,8,9,10,11,12,13,14,15,16,17,18,19,20],[0,1,2,3,4,5,6,7,8,9,10,11,12,13,14,15,16,17,18,19,20,21],[0,1,2,3,4,5,6,7,8,9,10,11,12,13,14,15,16,17,18,19,20,21,22],[0,1,2,3,4,5,6,7,8,9,10,11,12,13,14,15,16,17,18,19,20,21,22,23],[0,1,2,3,4,5,6,7,8,9,10,11,12,13,14,15,16,17,18,19,20],[0,1,2,3,4,5,6,7,8,9,10,11,12,13,14,15,16,17,18,19,20,25],[0,1,2,3,4,5,6,7,8,9,10,11,12,13,14,15,16,17,18,19,20,25,26],[0,1,2,3,4,5,6,7,8,9,10,11,12,13,14,15,16,17,18,19,20,25,26,27],[0,1,2,3,4,5,6,7,8,9,10,11,12,13,14,15,16,17,18,19,20,21,22,23,24,25,26,27,28],[0,1,2,3,4,5,6,7,8,9,10,11,12,13,14,15,16,17,18,19,20,21,22,23,24,25,26,27,28,29],[0,1,2,3,4,5,6,7,8,9,10,11,12,13,14,15,16,17,18,19,20,21,22,23,24,25,26,27,28,29,30]] [([],[]),([],[]),([],[]),([],[]),([],[]),([],[]),([],[]),([],[]),([],[]),([],[]),([],[]),([],[]),([],[]),([],[]),([],[]),([],[]),([],[]),([],[]),([],[]),([],[]),([],[]),([],[]),([],[]),([],[]),([],[]),([],[]),([],[]),([],[]),([],[]),([],[]),([],[]),([],[])] 0; (focus (all_goals refine dp 0 0 [9, 10, 11, 12] [] pu1 ?_; all_goals refine dp 1 1 [9, 10, 11, 12] [] (a_pure (sv := .one _) rfl) ?_; all_goals refine dp 2 3 [9, 10, 11, 12] [] (a_pure (sv := .one _) rfl) ?_; all_goals refine dp 3 7 [9, 10, 11, 12] [] puL ?_; all_goals refine dp 4 0 [5, 6, 7, 8] [] pu1 ?_; all_goals refine dp 5 1 [5, 6, 7, 8] [] (a_pure (sv := .one _) rfl) ?_; all_goals refine dp 6 3 [5, 6, 7, 8] [] (a_pure (sv := .one _) rfl) ?_; all_goals refine dp 7 7 [5, 6, 7, 8] [] puL ?_; all_goals refine dp 8 255 [] [] (by first | exact puC | exact a_eqS rfl rfl rfl) ?_; all_goals (refine db 9 511 [] [] pu1 ?_ ?_ <;> (intro hc; first | cases hc | (try simp only [dcB] at hc); first | contradiction | (exfalso; omega) | skip)); all_goals (first | refine dn 10 1023 [19, 20, 21, 22] [] ?_ | refine dpy 10 1023 [19, 20, 21, 22] [] pu1 ?_); all_goals (first | refine dn 11 2047 [19, 20, 21, 22] [] ?_ | refine dpy 11 2047 [19, 20, 21, 22] [] (a_pure (sv := .one _) rfl) ?_); all_goals (first | refine dn 12 4095 [19, 20, 21, 22] [] ?_ | refine dpy 12 4095 [19, 20, 21, 22] [] (a_pure (sv := .one _) rfl) ?_); all_goals (first | refine dn 13 8191 [19, 20, 21, 22] [] ?_ | refine dpy 13 8191 [19, 20, 21, 22] [] puL ?_); all_goals (first | refine dn 14 16368 [15, 16, 17, 18] [] ?_ | refine dpy 14 16368 [15, 16, 17, 18] [] pu1 ?_); all_goals (first | refine dn 15 32737 [15, 16, 17, 18] [] ?_ | refine dpy 15 32737 [15, 16, 17, 18] [] (a_pure (sv := .one _) rfl) ?_); all_goals (first | refine dn 16 65475 [15, 16, 17, 18] [] ?_ | refine dpy 16 65475 [15, 16, 17, 18] [] (a_pure (sv := .one _) rfl) ?_); all_goals (first | refine dn 17 130951 [15, 16, 17, 18] [] ?_ | refine dpy 17 130951 [15, 16, 17, 18] [] puL ?_); all_goals (first | refine dn 18 262143 [] [] ?_ | refine dpy 18 262143 [] [] (by first | exact puC | exact a_eqS rfl rfl rfl) ?_); all_goals refine dp 19 524287 [] [] (a_pure (sv := .one _) rfl) ?_; all_goals (refine db 20 1048575 [] [] pu1 ?_ ?_ <;> (intro hc; first | cases hc | (try simp only [dcB] at hc); first | contradiction | (exfalso; omega) | skip)); all_goals (first | refine dn 21 2097151 [30, 31, 32, 33] [] ?_ | refine dpy 21 2097151 [30, 31, 32, 33] [] pu1 ?_); all_goals (first | refine dn 22 4194303 [30, 31, 32, 33] [] ?_ | refine dpy 22 4194303 [30, 31, 32, 33] [] (a_pure (sv := .one _) rfl) ?_); all_goals (first | refine dn 23 8388607 [30, 31, 32, 33] [] ?_ | refine dpy 23 8388607 [30, 31, 32, 33] [] (a_pure (sv := .one _) rfl) ?_); all_goals (first | refine dn 24 16777215 [30, 31, 32, 33] [] ?_ | refine dpy 24 16777215 [30, 31, 32, 33] [] puL ?_); all_goals (first | refine dn 25 33554416 [26, 27, 28, 29] [] ?_ | refine dpy 25 33554416 [26, 27, 28, 29] [] pu1 ?_); all_goals (first | refine dn 26 67108833 [26, 27, 28, 29] [] ?_ | refine dpy 26 67108833 [26, 27, 28, 29] [] (a_pure (sv := .one _) rfl) ?_); all_goals (first | refine dn 27 134217667 [26, 27, 28, 29] [] ?_ | refine dpy 27 134217667 [26, 27, 28, 29] [] (a_pure (sv := .one _) rfl) ?_); all_goals (first | refine dn 28 268435335 [26, 27, 28, 29] [] ?_ | refine dpy 28 268435335 [26, 27, 28, 29] [] puL ?_); all_goals (first | refine dn 29 536870911 [] [] ?_ | refine dpy 29 536870911 [] [] (callD1 (n := _) 0 (θ := []) (hD := (l00Same_ok _ _ preB65 preB65))) ?_); all_goals refine dp 30 1073741823 [] [] (a_pure (sv := .one _) rfl) ?_; all_goals refine dp 31 2147483647 [] [] pu1 ?_; all_goals (refine d_nil ?_; refine dN ?_))); any_goals kernel_rfl) | ((first | refine o_gs rfl rfl (fun hc => ?_) (fun hc => ?_) | refine g_cond rfl (fun hc => ?_) (fun hc => ?_)) <;> (try simp only [dcB] at hc) <;> (try first | contradiction | (exfalso; omega)))
  all_goals
    repeat refine cr ?_
    refine ends_id ?_
    refine endK [] (h2 := ?_) (h3 := ?_) (nd := ?_)
    all_goals (repeat' first | exact ce0 | refine ce ?_ | refine ce2 ?_ ?_ | exact SVLe.refl | refine ceb ?_)
    all_goals first | exact (show nodupB _ = true from rfl) | exact Or.inr rfl | ((symm; unfold eqPt; (try unfold eqI at *); first | (rw [decide_eq_false_iff_not, eqPt_iff]; simp_all; done) | (rw [decide_eq_true_eq, eqPt_iff]; simp_all; done) | (congr 1; rw [eqPt_iff]; simp_all; done)))
/-- New ones of a list are put behind another. -/
def addP (acc : List Part) : List Part → List Part
  | [] => acc
  | y :: r => addP (if acc.any (eqPt · y) then acc else acc ++ [y]) r
@[irreducible] def nxtL (m : Mach) : List Part → List Part → Option (List Part)
  | [], acc => some acc
  | x :: r, acc => match prds m x with
    | none => none
    | some l => if 300 < ((addP acc l).length : Int) then none else nxtL m r (addP acc l)
theorem addP_mem : ∀ {l acc : List Part} {z : Part}, z ∈ addP acc l → z ∈ acc ∨ z ∈ l
  | [], acc, z, h => .inl h
  | y :: r, acc, z, h => by
    simp only [addP] at h
    rcases addP_mem h with h | h
    · split at h
      · exact .inl h
      · rcases List.mem_append.1 h with h | h
        · exact .inl h
        · exact .inr (by simp [List.mem_singleton.1 h])
    · exact .inr (by simp [h])
/-- Levels. -/
structure LvOk (m : Mach) (l : List Part) : Prop where
  n : (l.length : Int) ≤ 6000
  a : ∀ x ∈ l, PtOk m x
theorem lv_at {m : Mach} {l : List Part} (g : LvOk m l) {i : Nat} (h : i < l.length) : PtOk m l[i] := g.a _ (List.getElem_mem h)
theorem prds_lv {m : Mach} {x : Part} {l : List Part} (hm : vMach m = true) (g : PtOk m x) (h : prds m x = some l) : LvOk m l := by
  unfold prds at h
  have hl := vMach_len hm
  exact ⟨by have := prdF_len h; omega, prdF_ok hm g (Nat.le_refl _) h⟩
theorem addP_lv {m : Mach} {a l : List Part} (g : LvOk m a) (k : LvOk m l) (h : ((addP a l).length : Int) ≤ 300) : LvOk m (addP a l) := ⟨by omega, fun x hx => (addP_mem hx).elim (g.a x) (k.a x)⟩
theorem nxtL_next {m : Mach} {lv acc : List Part} {i : Int} (h0 : 0 ≤ i) (h : i < lv.length) : nxtL m (lv.drop i.toNat) acc = match prds m (lv[i.toNat]'(by omega)) with
    | none => none
    | some l => if 300 < ((addP acc l).length : Int) then none else nxtL m (lv.drop (i + 1).toNat) (addP acc l) := by
  rw [List.drop_eq_getElem_cons (show i.toNat < lv.length by omega), show (i + 1).toNat = i.toNat + 1 by omega]
  conv => lhs; unfold nxtL
theorem nxtL_end {m : Mach} {lv acc : List Part} {i : Int} (h : ¬ i < lv.length) : nxtL m (lv.drop i.toNat) acc = some acc := by
  rw [List.drop_eq_nil_of_le (by omega)]
  unfold nxtL
  rfl
theorem addP_next {acc l : List Part} {k : Int} (h0 : 0 ≤ k) (h : k < l.length) : addP acc (l.drop k.toNat) = addP (if acc.any (eqPt · (l[k.toNat]'(by omega))) then acc else acc ++ [l[k.toNat]'(by omega)]) (l.drop (k + 1).toNat) := by
  rw [List.drop_eq_getElem_cons (show k.toNat < l.length by omega), show (k + 1).toNat = k.toNat + 1 by omega, addP]
theorem addP_end {acc l : List Part} {k : Int} (h : ¬ k < l.length) : addP acc (l.drop k.toNat) = acc := by
  rw [List.drop_eq_nil_of_le (by omega), addP]
theorem any_next {l : List Part} {p : Part → Bool} {j : Int} (h0 : 0 ≤ j) (h : j.toNat < l.length) : (l.take (j + 1).toNat).any p = ((l.take j.toNat).any p || p l[j.toNat]) := by
  rw [show (j + 1).toNat = j.toNat + 1 by omega, List.take_succ_eq_append_getElem h, List.any_append]
  simp
theorem preB65_2 {p : Prop} (h : p := by first | with_reducible assumption | omega | (simp only [List.length_append, List.length_cons, List.length_nil, List.length_set, List.length_replicate, List.length_take, List.length_drop, List.length_tail, List.length_dropLast, List.length_reverse] at *; omega) | exact mem_len (by assumption) (by omega) | (with_reducible refine Int.le_trans (Int.ofNat_le.2 (trimR_len _)) ?_; simp only [List.length_cons, List.length_tail]; omega) | (exact (ruAt_ok (by assumption) (by assumption) (by assumption)).2.1) | (exact (ruAt_ok (by assumption) (by assumption) (by assumption)).2.1) | (have := vMach_bd (by assumption); omega) | (simp only [mC_ch, mC_tu]; omega) | (have := vTag_bd (by assumption); omega) | (have := (‹Gd _ _›).le; omega) | (exact tgHalts_no (by assumption)) | (exact tgHead (by assumption) (by assumption) (by assumption)) | (exact Int.le_trans (tgStep_gd (by assumption) (by assumption) (by assumption) (by assumption)).le (by decide)) | (exact vTag_r (by assumption)) | (with_reducible refine Int.le_trans (Int.ofNat_le.2 (pushL_len _ _)) ?_; simp only [List.length_dropLast]; omega) | exact ls_at (by assumption) (by omega) | exact pt_gd (by assumption) | exact (ask_ok (by assumption)).1 | exact (ask_ok (by assumption)).2.1 | exact (ask_ok (by assumption)).2.2.1 | exact (ask_ok (by assumption)).2.2.2 | exact lv_at (by assumption) (by omega) | exact pt_gd (lv_at (by assumption) (by omega)) | trivial) : p := h
theorem l26Next_ok (m : Mach) (lv : List Part) (hm : vMach m = true) (g : LvOk m lv) : Does Tryz.prog 145 [.one (maB m), .one (shPa lv)] [] (.tup [(false, [shPa ((nxtL m lv []).getD [])]), (false, [boo (nxtL m lv []).isSome])]) [] := by
  have hx := g.n
  refine does_of (k := 0) Tryz.func145 rfl Tryz.ntmps145 rfl rfl fun w F0 S0 ρ0 => ?_
  dsimp only [argT, argH]
  repeat' first | (apply n3; (first | exact a_litE eP [] rfl rfl rfl rfl rfl rfl rfl rfl | exact a_litE eP [⟨_, _, _⟩] rfl rfl rfl rfl rfl rfl rfl rfl | exact a_appN (fP rfl) rfl rfl rfl nowR (by first | omega | (simp; omega)) (by decide) (by exact rfl)); exact rfl; refine dA ?_) | (apply p3; (first | exact pu1 | exact puL | exact puN | exact a_len_str rfl (fT rfl) | exact puC | exact a_add rfl rfl (by omega) (by omega) | exact puI); exact rfl) | refine cd ?_ | (apply s3; exact a_appE (fP rfl) rfl rfl rfl rfl nowR (by first | omega | (simp; omega)) (by decide) (by decide) (by exact rfl); exact rfl; exact rfl) | (apply c4 0; exact callK0 (θ := []) (hD := (l26Predecessors_ok _ _ preB65_2 preB65_2)); exact rfl; exact rfl; exact rfl; refine dM ?_) | (apply g_drN (id := 15) okM [[],[0],[0,1],[0,1],[0,1,2,3],[0,1],[0,1],[0,1,5,6],[0,1,2,3,4,5,6,7],[0,1,2,3,4,5,6,7,8],[0,1,2,3,4,5,6,7,8,9]] [([],[]),([],[]),([],[]),([],[]),([],[]),([],[]),([],[]),([],[]),([],[]),([],[]),([],[])] 0; (focus (all_goals refine dp 0 0 [] [] pu1 ?_; all_goals (refine db 1 1 [] [] pu1 ?_ ?_ <;> (intro hc; first | cases hc | (try simp only [dcB] at hc); first | contradiction | (exfalso; omega) | skip)); all_goals (first | refine dn 2 3 [45, 47, 48, 49] [] ?_ | refine dpy 2 3 [45, 47, 48, 49] [] pu1 ?_); all_goals (first | refine dn 3 6 [44, 47, 48, 49] [] ?_ | refine dpy 3 6 [44, 47, 48, 49] [] pu1 ?_); all_goals (first | refine dn 4 15 [47, 48, 49] [] ?_ | refine dpy 4 15 [47, 48, 49] [] puI ?_); all_goals (first | refine dn 5 24 [44, 45, 46, 48] [] ?_ | refine dpy 5 24 [44, 45, 46, 48] [] pu1 ?_); all_goals (first | refine dn 6 48 [44, 45, 46, 47] [] ?_ | refine dpy 6 48 [44, 45, 46, 47] [] pu1 ?_); all_goals (first | refine dn 7 99 [44, 45, 46] [] ?_ | refine dpy 7 99 [44, 45, 46] [] puI ?_); all_goals (first | refine dn 8 255 [] [] ?_ | refine dpy 8 255 [] [] (callD1 (n := _) 0 (θ := []) (hD := (l26Same_ok _ _ preB65_2 preB65_2))) ?_); all_goals refine dp 9 511 [] [] (a_pure (sv := .one _) rfl) ?_; all_goals refine dp 10 1023 [] [] pu1 ?_; all_goals (refine d_nil ?_; refine dN ?_))); any_goals kernel_rfl) | ((first | refine o_gs rfl rfl (fun hc => ?_) (fun hc => ?_) | refine g_cond rfl (fun hc => ?_) (fun hc => ?_)) <;> (try simp only [dcB] at hc) <;> (try first | contradiction | (exfalso; omega)))
  refine g_loop_id ?_
  refine loopK [0, 1, 4, 5, 6] [0] (fun y : Int × List Part => 0 ≤ y.1 ∧ y.1 ≤ lv.length ∧ (y.2.length : Int) ≤ 300 ∧ LvOk m y.2 ∧ nxtL m (lv.drop y.1.toNat) y.2 = nxtL m lv []) (fun y => [(7, .one (int y.1))]) (fun y => [(0, roPa y.2)]) (fun y => (lv.length - y.1).toNat) ((0 : Int), ([] : List Part)) [0] (hI := ?_) (hr := ?_)
  · exact ⟨by simp, by simp, by simp, ⟨by simp, by simp⟩, rfl⟩
  · rintro ⟨i, out⟩ ⟨h0, h1, h2, h3, h4⟩
    dsimp only [List.cons_append, List.nil_append] at *
    skip
    repeat' first | (apply p3; (first | exact pu1 | exact puN | exact a_len_str rfl (fT rfl) | exact puC); exact rfl) | refine cdn ?_ | refine g_reg (id := 3) ?_ | refine g_reg (id := 20) ?_ | ((first | refine o_gs rfl rfl (fun hc => ?_) (fun hc => ?_) | refine g_cond rfl (fun hc => ?_) (fun hc => ?_)) <;> (try simp only [dcB] at hc) <;> (try first | contradiction | (exfalso; omega)))
    · have hn := nxtL_next (m := m) (acc := out) h0 hc
      have gi := lv_at g (show i.toNat < lv.length by omega)
      rw [h4] at hn
      cases hf : prds m (lv[i.toNat]'(by omega)) with
      | none =>
        rw [hf] at hn
        dsimp only at hn
        rw [hn]
        repeat' first | (apply p3; (first | exact pu1 | exact puN | exact a_len_str rfl (fT rfl) | exact puC | exact puI); exact rfl) | refine cdn ?_ | refine g_reg (id := 3) ?_ | refine g_reg (id := 5) ?_ | refine g_reg (id := 20) ?_ | (apply c4 0; exact callK0 (θ := []) (hD := (l26Predecessors_ok _ _ preB65_2 preB65_2)); exact rfl; exact rfl; exact rfl; refine dM ?_) | ((first | refine o_gs rfl rfl (fun hc => ?_) (fun hc => ?_) | refine g_cond rfl (fun hc => ?_) (fun hc => ?_)) <;> (try simp only [dcB] at hc) <;> (try first | contradiction | (exfalso; omega)))
        simp only [hf, Option.isSome_none, Option.getD_none]
        repeat' first | (apply n3; (first | exact a_litE eP [⟨_, _, _⟩] rfl rfl rfl rfl rfl rfl rfl rfl | exact a_appN (fP rfl) rfl rfl rfl nowR (by first | omega | (simp; omega)) (by decide) (by exact rfl)); exact rfl; refine dA ?_) | (apply p3; (first | exact pu1 | exact puL | exact puN | exact a_len_str rfl (fT rfl) | exact puC | exact a_add rfl rfl (by omega) (by omega) | exact puI); exact rfl) | refine cd ?_ | (apply s3; exact a_appE (fP rfl) rfl rfl rfl rfl nowR (by first | omega | (simp; omega)) (by decide) (by decide) (by exact rfl); exact rfl; exact rfl) | (apply c4 0; exact callK0 (θ := []) (hD := (l26Predecessors_ok _ _ preB65_2 preB65_2)); exact rfl; exact rfl; exact rfl; refine dM ?_) | (apply g_drN (id := 15) okM [[],[0],[0,1],[0,1],[0,1,2,3],[0,1],[0,1],[0,1,5,6],[0,1,2,3,4,5,6,7],[0,1,2,3,4,5,6,7,8],[0,1,2,3,4,5,6,7,8,9]] [([],[]),([],[]),([],[]),([],[]),([],[]),([],[]),([],[]),([],[]),([],[]),([],[]),([],[])] 0; (focus (all_goals refine dp 0 0 [] [] pu1 ?_; all_goals (refine db 1 1 [] [] pu1 ?_ ?_ <;> (intro hc; first | cases hc | (try simp only [dcB] at hc); first | contradiction | (exfalso; omega) | skip)); all_goals (first | refine dn 2 3 [45, 47, 48, 49] [] ?_ | refine dpy 2 3 [45, 47, 48, 49] [] pu1 ?_); all_goals (first | refine dn 3 6 [44, 47, 48, 49] [] ?_ | refine dpy 3 6 [44, 47, 48, 49] [] pu1 ?_); all_goals (first | refine dn 4 15 [47, 48, 49] [] ?_ | refine dpy 4 15 [47, 48, 49] [] puI ?_); all_goals (first | refine dn 5 24 [44, 45, 46, 48] [] ?_ | refine dpy 5 24 [44, 45, 46, 48] [] pu1 ?_); all_goals (first | refine dn 6 48 [44, 45, 46, 47] [] ?_ | refine dpy 6 48 [44, 45, 46, 47] [] pu1 ?_); all_goals (first | refine dn 7 99 [44, 45, 46] [] ?_ | refine dpy 7 99 [44, 45, 46] [] puI ?_); all_goals (first | refine dn 8 255 [] [] ?_ | refine dpy 8 255 [] [] (callD1 (n := _) 0 (θ := []) (hD := (l26Same_ok _ _ preB65_2 preB65_2))) ?_); all_goals refine dp 9 511 [] [] (a_pure (sv := .one _) rfl) ?_; all_goals refine dp 10 1023 [] [] pu1 ?_; all_goals (refine d_nil ?_; refine dN ?_))); any_goals kernel_rfl) | ((first | refine o_gs rfl rfl (fun hc => ?_) (fun hc => ?_) | refine g_cond rfl (fun hc => ?_) (fun hc => ?_)) <;> (try simp only [dcB] at hc) <;> (try first | contradiction | (exfalso; omega)))
        repeat refine cr ?_
        refine ends_id ?_
        refine endK [] (h2 := ?_) (h3 := ?_) (nd := ?_)
        all_goals (repeat' first | exact ce0 | refine ce ?_ | refine ce2 ?_ ?_ | exact SVLe.refl | refine ceb ?_)
        all_goals first | exact (show nodupB _ = true from rfl) | exact Or.inr rfl | (rfl)
      | some l =>
        rw [hf] at hn
        dsimp only at hn
        have gl := prds_lv hm gi hf
        have hll := gl.n
        repeat' first | (apply p3; (first | exact pu1 | exact puN | exact a_len_str rfl (fT rfl) | exact puC | exact puI); exact rfl) | refine cdn ?_ | refine g_reg (id := 3) ?_ | refine g_reg (id := 5) ?_ | refine g_reg (id := 20) ?_ | (apply c4 0; exact callK0 (θ := []) (hD := (l26Predecessors_ok _ _ preB65_2 preB65_2)); exact rfl; exact rfl; exact rfl; refine dM ?_) | ((first | refine o_gs rfl rfl (fun hc => ?_) (fun hc => ?_) | refine g_cond rfl (fun hc => ?_) (fun hc => ?_)) <;> (try simp only [dcB] at hc) <;> (try first | contradiction | (exfalso; omega)))
        simp only [hf, Option.isSome_some, Option.getD_some]
        repeat' first | (apply n3; (first | exact a_litE eP [⟨_, _, _⟩] rfl rfl rfl rfl rfl rfl rfl rfl | exact a_appN (fP rfl) rfl rfl rfl nowR (by first | omega | (simp; omega)) (by decide) (by exact rfl)); exact rfl; refine dA ?_) | (apply p3; (first | exact pu1 | exact puL | exact puN | exact a_len_str rfl (fT rfl) | exact puC | exact a_add rfl rfl (by omega) (by omega) | exact puI); exact rfl) | refine cd ?_ | (apply s3; exact a_appE (fP rfl) rfl rfl rfl rfl nowR (by first | omega | (simp; omega)) (by decide) (by decide) (by exact rfl); exact rfl; exact rfl) | (apply c4 0; exact callK0 (θ := []) (hD := (l26Predecessors_ok _ _ preB65_2 preB65_2)); exact rfl; exact rfl; exact rfl; refine dM ?_) | (apply g_drN (id := 15) okM [[],[0],[0,1],[0,1],[0,1,2,3],[0,1],[0,1],[0,1,5,6],[0,1,2,3,4,5,6,7],[0,1,2,3,4,5,6,7,8],[0,1,2,3,4,5,6,7,8,9]] [([],[]),([],[]),([],[]),([],[]),([],[]),([],[]),([],[]),([],[]),([],[]),([],[]),([],[])] 0; (focus (all_goals refine dp 0 0 [] [] pu1 ?_; all_goals (refine db 1 1 [] [] pu1 ?_ ?_ <;> (intro hc; first | cases hc | (try simp only [dcB] at hc); first | contradiction | (exfalso; omega) | skip)); all_goals (first | refine dn 2 3 [45, 47, 48, 49] [] ?_ | refine dpy 2 3 [45, 47, 48, 49] [] pu1 ?_); all_goals (first | refine dn 3 6 [44, 47, 48, 49] [] ?_ | refine dpy 3 6 [44, 47, 48, 49] [] pu1 ?_); all_goals (first | refine dn 4 15 [47, 48, 49] [] ?_ | refine dpy 4 15 [47, 48, 49] [] puI ?_); all_goals (first | refine dn 5 24 [44, 45, 46, 48] [] ?_ | refine dpy 5 24 [44, 45, 46, 48] [] pu1 ?_); all_goals (first | refine dn 6 48 [44, 45, 46, 47] [] ?_ | refine dpy 6 48 [44, 45, 46, 47] [] pu1 ?_); all_goals (first | refine dn 7 99 [44, 45, 46] [] ?_ | refine dpy 7 99 [44, 45, 46] [] puI ?_); all_goals (first | refine dn 8 255 [] [] ?_ | refine dpy 8 255 [] [] (callD1 (n := _) 0 (θ := []) (hD := (l26Same_ok _ _ preB65_2 preB65_2))) ?_); all_goals refine dp 9 511 [] [] (a_pure (sv := .one _) rfl) ?_; all_goals refine dp 10 1023 [] [] pu1 ?_; all_goals (refine d_nil ?_; refine dN ?_))); any_goals kernel_rfl) | ((first | refine o_gs rfl rfl (fun hc => ?_) (fun hc => ?_) | refine g_cond rfl (fun hc => ?_) (fun hc => ?_)) <;> (try simp only [dcB] at hc) <;> (try first | contradiction | (exfalso; omega)))
        refine g_loop_id ?_
        refine loopK [0, 1, 4, 5, 6, 7, 8, 9, 14, 15, 16, 17, 20, 21, 22, 23, 24, 25, 26, 27, 28, 29] [0] (fun y : Int × List Part => 0 ≤ y.1 ∧ y.1 ≤ l.length ∧ (y.2.length : Int) ≤ 300 + y.1 ∧ (∀ x ∈ y.2, PtOk m x) ∧ addP y.2 (l.drop y.1.toNat) = addP out l) (fun y => [(10, .one (int y.1))]) (fun y => [(0, roPa y.2)]) (fun y => (l.length - y.1).toNat) ((0 : Int), out) [0] (hI := ?_) (hr := ?_)
        · exact ⟨by simp, by simp, by dsimp only; omega, h3.a, rfl⟩
        · rintro ⟨k, acc⟩ ⟨k0, k1, k2, k3, k4⟩
          dsimp only [List.cons_append, List.nil_append] at *
          skip
          repeat' first | (apply n3; (first | exact a_litE eP [⟨_, _, _⟩] rfl rfl rfl rfl rfl rfl rfl rfl | exact a_appN (fP rfl) rfl rfl rfl nowR (by first | omega | (simp; omega)) (by decide) (by exact rfl)); exact rfl; refine dA ?_) | (apply p3; (first | exact pu1 | exact puL | exact puN | exact a_len_str rfl (fT rfl) | exact puC | exact a_add rfl rfl (by omega) (by omega) | exact puI); exact rfl) | refine cd ?_ | (apply s3; exact a_appE (fP rfl) rfl rfl rfl rfl nowR (by first | omega | (simp; omega)) (by decide) (by decide) (by exact rfl); exact rfl; exact rfl) | (apply g_drN (id := 15) okM [[],[0],[0,1],[0,1],[0,1,2,3],[0,1],[0,1],[0,1,5,6],[0,1,2,3,4,5,6,7],[0,1,2,3,4,5,6,7,8],[0,1,2,3,4,5,6,7,8,9]] [([],[]),([],[]),([],[]),([],[]),([],[]),([],[]),([],[]),([],[]),([],[]),([],[]),([],[])] 0; (focus (all_goals refine dp 0 0 [] [] pu1 ?_; all_goals (refine db 1 1 [] [] pu1 ?_ ?_ <;> (intro hc; first | cases hc | (try simp only [dcB] at hc); first | contradiction | (exfalso; omega) | skip)); all_goals (first | refine dn 2 3 [45, 47, 48, 49] [] ?_ | refine dpy 2 3 [45, 47, 48, 49] [] pu1 ?_); all_goals (first | refine dn 3 6 [44, 47, 48, 49] [] ?_ | refine dpy 3 6 [44, 47, 48, 49] [] pu1 ?_); all_goals (first | refine dn 4 15 [47, 48, 49] [] ?_ | refine dpy 4 15 [47, 48, 49] [] puI ?_); all_goals (first | refine dn 5 24 [44, 45, 46, 48] [] ?_ | refine dpy 5 24 [44, 45, 46, 48] [] pu1 ?_); all_goals (first | refine dn 6 48 [44, 45, 46, 47] [] ?_ | refine dpy 6 48 [44, 45, 46, 47] [] pu1 ?_); all_goals (first | refine dn 7 99 [44, 45, 46] [] ?_ | refine dpy 7 99 [44, 45, 46] [] puI ?_); all_goals (first | refine dn 8 255 [] [] ?_ | refine dpy 8 255 [] [] (callD1 (n := _) 0 (θ := []) (hD := (l26Same_ok _ _ preB65_2 preB65_2))) ?_); all_goals refine dp 9 511 [] [] (a_pure (sv := .one _) rfl) ?_; all_goals refine dp 10 1023 [] [] pu1 ?_; all_goals (refine d_nil ?_; refine dN ?_))); any_goals kernel_rfl) | ((first | refine o_gs rfl rfl (fun hc => ?_) (fun hc => ?_) | refine g_cond rfl (fun hc => ?_) (fun hc => ?_)) <;> (try simp only [dcB] at hc) <;> (try first | contradiction | (exfalso; omega)))
          · have gk2 := pt_gd (lv_at gl (show k.toNat < l.length by omega))
            have hk := hc
            rw [addP_next k0 hk] at k4
            refine g_loop_id ?_
            refine loopK [0, 1, 4, 5, 6, 7, 8, 9, 10, 14, 15, 16, 17, 20, 21, 22, 23, 24, 25, 26, 27, 28, 29, 30, 31, 32, 33] [] (fun y : Int × Bool => 0 ≤ y.1 ∧ y.1 ≤ acc.length ∧ y.2 = (acc.take y.1.toNat).any (eqPt · (l[k.toNat]'(by omega)))) (fun y => [(12, .one (int y.1)), (11, .one (boo y.2))]) (fun y => []) (fun y => (acc.length - y.1).toNat) ((0 : Int), false) [0] (hI := ?_) (hr := ?_)
            · exact ⟨by simp, by simp, by simp⟩
            · rintro ⟨j, kn⟩ ⟨j0, j1, j2⟩
              dsimp only [List.cons_append, List.nil_append] at *
              skip
              repeat' first | (apply n3; (first | exact a_litE eP [⟨_, _, _⟩] rfl rfl rfl rfl rfl rfl rfl rfl | exact a_appN (fP rfl) rfl rfl rfl nowR (by first | omega | (simp; omega)) (by decide) (by exact rfl)); exact rfl; refine dA ?_) | (apply p3; (first | exact pu1 | exact puL | exact puN | exact a_len_str rfl (fT rfl) | exact puC | exact a_add rfl rfl (by omega) (by omega) | exact puI); exact rfl) | refine cdn ?_ | refine g_reg (id := 13) ?_ | refine g_reg (id := 17) ?_ | refine g_reg (id := 10) ?_ | refine g_reg (id := 18) ?_ | refine g_reg (id := 19) ?_ | refine g_reg (id := 4) ?_ | refine g_reg (id := 20) ?_ | (apply s3; exact a_appE (fP rfl) rfl rfl rfl rfl nowR (by first | omega | (simp; omega)) (by decide) (by decide) (by exact rfl); exact rfl; exact rfl) | ((first | refine o_gs rfl rfl (fun hc => ?_) (fun hc => ?_) | refine g_cond rfl (fun hc => ?_) (fun hc => ?_)) <;> (try simp only [dcB] at hc) <;> (try first | contradiction | (exfalso; omega)))
              · have gj := pt_gd (k3 _ (List.getElem_mem (show j.toNat < acc.length by omega)))
                have hj := any_next (l := acc) (p := (eqPt · (l[k.toNat]'(by omega)))) j0 (by omega)
                rw [← j2] at hj
                repeat' first | (apply n3; (first | exact a_litE eP [⟨_, _, _⟩] rfl rfl rfl rfl rfl rfl rfl rfl | exact a_appN (fP rfl) rfl rfl rfl nowR (by first | omega | (simp; omega)) (by decide) (by exact rfl)); exact rfl; refine dA ?_) | (apply p3; (first | exact pu1 | exact puL | exact puN | exact a_len_str rfl (fT rfl) | exact puC | exact a_add rfl rfl (by omega) (by omega) | exact puI); exact rfl) | refine cd ?_ | (apply s3; exact a_appE (fP rfl) rfl rfl rfl rfl nowR (by first | omega | (simp; omega)) (by decide) (by decide) (by exact rfl); exact rfl; exact rfl) | (apply g_drN (id := 15) okM [[],[0],[0,1],[0,1],[0,1,2,3],[0,1],[0,1],[0,1,5,6],[0,1,2,3,4,5,6,7],[0,1,2,3,4,5,6,7,8],[0,1,2,3,4,5,6,7,8,9]] [([],[]),([],[]),([],[]),([],[]),([],[]),([],[]),([],[]),([],[]),([],[]),([],[]),([],[])] 0; (focus (all_goals refine dp 0 0 [] [] pu1 ?_; all_goals (refine db 1 1 [] [] pu1 ?_ ?_ <;> (intro hc; first | cases hc | (try simp only [dcB] at hc); first | contradiction | (exfalso; omega) | skip)); all_goals (first | refine dn 2 3 [45, 47, 48, 49] [] ?_ | refine dpy 2 3 [45, 47, 48, 49] [] pu1 ?_); all_goals (first | refine dn 3 6 [44, 47, 48, 49] [] ?_ | refine dpy 3 6 [44, 47, 48, 49] [] pu1 ?_); all_goals (first | refine dn 4 15 [47, 48, 49] [] ?_ | refine dpy 4 15 [47, 48, 49] [] puI ?_); all_goals (first | refine dn 5 24 [44, 45, 46, 48] [] ?_ | refine dpy 5 24 [44, 45, 46, 48] [] pu1 ?_); all_goals (first | refine dn 6 48 [44, 45, 46, 47] [] ?_ | refine dpy 6 48 [44, 45, 46, 47] [] pu1 ?_); all_goals (first | refine dn 7 99 [44, 45, 46] [] ?_ | refine dpy 7 99 [44, 45, 46] [] puI ?_); all_goals (first | refine dn 8 255 [] [] ?_ | refine dpy 8 255 [] [] (callD1 (n := _) 0 (θ := []) (hD := (l26Same_ok _ _ preB65_2 preB65_2))) ?_); all_goals refine dp 9 511 [] [] (a_pure (sv := .one _) rfl) ?_; all_goals refine dp 10 1023 [] [] pu1 ?_; all_goals (refine d_nil ?_; refine dN ?_))); any_goals kernel_rfl) | ((first | refine o_gs rfl rfl (fun hc => ?_) (fun hc => ?_) | refine g_cond rfl (fun hc => ?_) (fun hc => ?_)) <;> (try simp only [dcB] at hc) <;> (try first | contradiction | (exfalso; omega)))
                · refine q_again (j + 1, true) [0] (by exact stk) ?_ ?_
                  · refine ⟨by dsimp only; omega, by dsimp only; omega, ?_⟩
                    dsimp only
                    rw [hj, Bool.true_or]
                  · dsimp only; omega
                · refine q_again (j + 1, _) [0] (by exact stk) ?_ ?_
                  · refine ⟨by dsimp only; omega, by dsimp only; omega, ?_⟩
                    dsimp only
                    rw [hj, Bool.false_or]
                  · dsimp only; omega
              · rw [List.take_of_length_le (by omega)] at j2
                rw [← j2] at k4
                cases kn with
                | true =>
                  rw [if_pos rfl] at k4
                  repeat' first | (apply n3; (first | exact a_litE eP [⟨_, _, _⟩] rfl rfl rfl rfl rfl rfl rfl rfl | exact a_appN (fP rfl) rfl rfl rfl nowR (by first | omega | (simp; omega)) (by decide) (by exact rfl)); exact rfl; refine dA ?_) | (apply p3; (first | exact pu1 | exact puL | exact puN | exact a_len_str rfl (fT rfl) | exact puC | exact a_add rfl rfl (by omega) (by omega) | exact puI); exact rfl) | refine cd ?_ | (apply s3; exact a_appE (fP rfl) rfl rfl rfl rfl nowR (by first | omega | (simp; omega)) (by decide) (by decide) (by exact rfl); exact rfl; exact rfl) | (apply g_drN (id := 15) okM [[],[0],[0,1],[0,1],[0,1,2,3],[0,1],[0,1],[0,1,5,6],[0,1,2,3,4,5,6,7],[0,1,2,3,4,5,6,7,8],[0,1,2,3,4,5,6,7,8,9]] [([],[]),([],[]),([],[]),([],[]),([],[]),([],[]),([],[]),([],[]),([],[]),([],[]),([],[])] 0; (focus (all_goals refine dp 0 0 [] [] pu1 ?_; all_goals (refine db 1 1 [] [] pu1 ?_ ?_ <;> (intro hc; first | cases hc | (try simp only [dcB] at hc); first | contradiction | (exfalso; omega) | skip)); all_goals (first | refine dn 2 3 [45, 47, 48, 49] [] ?_ | refine dpy 2 3 [45, 47, 48, 49] [] pu1 ?_); all_goals (first | refine dn 3 6 [44, 47, 48, 49] [] ?_ | refine dpy 3 6 [44, 47, 48, 49] [] pu1 ?_); all_goals (first | refine dn 4 15 [47, 48, 49] [] ?_ | refine dpy 4 15 [47, 48, 49] [] puI ?_); all_goals (first | refine dn 5 24 [44, 45, 46, 48] [] ?_ | refine dpy 5 24 [44, 45, 46, 48] [] pu1 ?_); all_goals (first | refine dn 6 48 [44, 45, 46, 47] [] ?_ | refine dpy 6 48 [44, 45, 46, 47] [] pu1 ?_); all_goals (first | refine dn 7 99 [44, 45, 46] [] ?_ | refine dpy 7 99 [44, 45, 46] [] puI ?_); all_goals (first | refine dn 8 255 [] [] ?_ | refine dpy 8 255 [] [] (callD1 (n := _) 0 (θ := []) (hD := (l26Same_ok _ _ preB65_2 preB65_2))) ?_); all_goals refine dp 9 511 [] [] (a_pure (sv := .one _) rfl) ?_; all_goals refine dp 10 1023 [] [] pu1 ?_; all_goals (refine d_nil ?_; refine dN ?_))); any_goals kernel_rfl) | ((first | refine o_gs rfl rfl (fun hc => ?_) (fun hc => ?_) | refine g_cond rfl (fun hc => ?_) (fun hc => ?_)) <;> (try simp only [dcB] at hc) <;> (try first | contradiction | (exfalso; omega)))
                  refine q_again (k + 1, acc) [0] (by exact stk) ?_ ?_
                  · exact ⟨by dsimp only; omega, by dsimp only; omega, by dsimp only; omega, k3, k4⟩
                  · dsimp only; omega
                | false =>
                  rw [if_neg (by simp)] at k4
                  repeat' first | (apply n3; (first | exact a_litE eP [⟨_, _, _⟩] rfl rfl rfl rfl rfl rfl rfl rfl | exact a_appN (fP rfl) rfl rfl rfl nowR (by first | omega | (simp; omega)) (by decide) (by exact rfl)); exact rfl; refine dA ?_) | (apply p3; (first | exact pu1 | exact puL | exact puN | exact a_len_str rfl (fT rfl) | exact puC | exact a_add rfl rfl (by omega) (by omega) | exact puI); exact rfl) | refine cd ?_ | (apply s3; exact a_appE (fP rfl) rfl rfl rfl rfl nowR (by first | omega | (simp; omega)) (by decide) (by decide) (by exact rfl); exact rfl; exact rfl) | (apply g_drN (id := 15) okM [[],[0],[0,1],[0,1],[0,1,2,3],[0,1],[0,1],[0,1,5,6],[0,1,2,3,4,5,6,7],[0,1,2,3,4,5,6,7,8],[0,1,2,3,4,5,6,7,8,9]] [([],[]),([],[]),([],[]),([],[]),([],[]),([],[]),([],[]),([],[]),([],[]),([],[]),([],[])] 0; (focus (all_goals refine dp 0 0 [] [] pu1 ?_; all_goals (refine db 1 1 [] [] pu1 ?_ ?_ <;> (intro hc; first | cases hc | (try simp only [dcB] at hc); first | contradiction | (exfalso; omega) | skip)); all_goals (first | refine dn 2 3 [45, 47, 48, 49] [] ?_ | refine dpy 2 3 [45, 47, 48, 49] [] pu1 ?_); all_goals (first | refine dn 3 6 [44, 47, 48, 49] [] ?_ | refine dpy 3 6 [44, 47, 48, 49] [] pu1 ?_); all_goals (first | refine dn 4 15 [47, 48, 49] [] ?_ | refine dpy 4 15 [47, 48, 49] [] puI ?_); all_goals (first | refine dn 5 24 [44, 45, 46, 48] [] ?_ | refine dpy 5 24 [44, 45, 46, 48] [] pu1 ?_); all_goals (first | refine dn 6 48 [44, 45, 46, 47] [] ?_ | refine dpy 6 48 [44, 45, 46, 47] [] pu1 ?_); all_goals (first | refine dn 7 99 [44, 45, 46] [] ?_ | refine dpy 7 99 [44, 45, 46] [] puI ?_); all_goals (first | refine dn 8 255 [] [] ?_ | refine dpy 8 255 [] [] (callD1 (n := _) 0 (θ := []) (hD := (l26Same_ok _ _ preB65_2 preB65_2))) ?_); all_goals refine dp 9 511 [] [] (a_pure (sv := .one _) rfl) ?_; all_goals refine dp 10 1023 [] [] pu1 ?_; all_goals (refine d_nil ?_; refine dN ?_))); any_goals kernel_rfl) | ((first | refine o_gs rfl rfl (fun hc => ?_) (fun hc => ?_) | refine g_cond rfl (fun hc => ?_) (fun hc => ?_)) <;> (try simp only [dcB] at hc) <;> (try first | contradiction | (exfalso; omega)))
                  refine q_again (k + 1, _) [2] (by exact stk) ?_ ?_
                  · refine ⟨by dsimp only; omega, by dsimp only; omega, by simp; omega, ?_, k4⟩
                    intro z hz
                    rcases List.mem_append.1 hz with hz | hz
                    · exact k3 z hz
                    · rw [List.mem_singleton.1 hz]; exact lv_at gl (by omega)
                  · dsimp only; omega
          · rw [addP_end (by assumption)] at k4
            subst k4
            have e : nxtL m lv [] = none := by rw [hn]; exact if_pos hc
            rw [e]
            repeat' first | (apply n3; (first | exact a_litE eP [⟨_, _, _⟩] rfl rfl rfl rfl rfl rfl rfl rfl | exact a_appN (fP rfl) rfl rfl rfl nowR (by first | omega | (simp; omega)) (by decide) (by exact rfl)); exact rfl; refine dA ?_) | (apply p3; (first | exact pu1 | exact puL | exact puN | exact a_len_str rfl (fT rfl) | exact puC | exact a_add rfl rfl (by omega) (by omega) | exact puI); exact rfl) | refine cd ?_ | (apply s3; exact a_appE (fP rfl) rfl rfl rfl rfl nowR (by first | omega | (simp; omega)) (by decide) (by decide) (by exact rfl); exact rfl; exact rfl) | (apply g_drN (id := 15) okM [[],[0],[0,1],[0,1],[0,1,2,3],[0,1],[0,1],[0,1,5,6],[0,1,2,3,4,5,6,7],[0,1,2,3,4,5,6,7,8],[0,1,2,3,4,5,6,7,8,9]] [([],[]),([],[]),([],[]),([],[]),([],[]),([],[]),([],[]),([],[]),([],[]),([],[]),([],[])] 0; (focus (all_goals refine dp 0 0 [] [] pu1 ?_; all_goals (refine db 1 1 [] [] pu1 ?_ ?_ <;> (intro hc; first | cases hc | (try simp only [dcB] at hc); first | contradiction | (exfalso; omega) | skip)); all_goals (first | refine dn 2 3 [45, 47, 48, 49] [] ?_ | refine dpy 2 3 [45, 47, 48, 49] [] pu1 ?_); all_goals (first | refine dn 3 6 [44, 47, 48, 49] [] ?_ | refine dpy 3 6 [44, 47, 48, 49] [] pu1 ?_); all_goals (first | refine dn 4 15 [47, 48, 49] [] ?_ | refine dpy 4 15 [47, 48, 49] [] puI ?_); all_goals (first | refine dn 5 24 [44, 45, 46, 48] [] ?_ | refine dpy 5 24 [44, 45, 46, 48] [] pu1 ?_); all_goals (first | refine dn 6 48 [44, 45, 46, 47] [] ?_ | refine dpy 6 48 [44, 45, 46, 47] [] pu1 ?_); all_goals (first | refine dn 7 99 [44, 45, 46] [] ?_ | refine dpy 7 99 [44, 45, 46] [] puI ?_); all_goals (first | refine dn 8 255 [] [] ?_ | refine dpy 8 255 [] [] (callD1 (n := _) 0 (θ := []) (hD := (l26Same_ok _ _ preB65_2 preB65_2))) ?_); all_goals refine dp 9 511 [] [] (a_pure (sv := .one _) rfl) ?_; all_goals refine dp 10 1023 [] [] pu1 ?_; all_goals (refine d_nil ?_; refine dN ?_))); any_goals kernel_rfl) | ((first | refine o_gs rfl rfl (fun hc => ?_) (fun hc => ?_) | refine g_cond rfl (fun hc => ?_) (fun hc => ?_)) <;> (try simp only [dcB] at hc) <;> (try first | contradiction | (exfalso; omega)))
            repeat refine cr ?_
            refine ends_id ?_
            refine endK [] (h2 := ?_) (h3 := ?_) (nd := ?_)
            all_goals (repeat' first | exact ce0 | refine ce ?_ | refine ce2 ?_ ?_ | exact SVLe.refl | refine ceb ?_)
            all_goals first | exact (show nodupB _ = true from rfl) | exact Or.inr rfl | (rfl)
          · rw [addP_end (by assumption)] at k4
            subst k4
            rw [if_neg hc] at hn
            refine q_again (i + 1, _) [0] (by exact stk) ?_ ?_
            · exact ⟨by dsimp only; omega, by dsimp only; omega, by dsimp only; omega, ⟨by dsimp only; omega, k3⟩, hn.symm⟩
            · dsimp only; omega
    · rw [nxtL_end hc] at h4
      rw [← h4]
      repeat' first | (apply n3; (first | exact a_litE eP [⟨_, _, _⟩] rfl rfl rfl rfl rfl rfl rfl rfl | exact a_appN (fP rfl) rfl rfl rfl nowR (by first | omega | (simp; omega)) (by decide) (by exact rfl)); exact rfl; refine dA ?_) | (apply p3; (first | exact pu1 | exact puL | exact puN | exact a_len_str rfl (fT rfl) | exact puC | exact a_add rfl rfl (by omega) (by omega) | exact puI); exact rfl) | refine cd ?_ | (apply s3; exact a_appE (fP rfl) rfl rfl rfl rfl nowR (by first | omega | (simp; omega)) (by decide) (by decide) (by exact rfl); exact rfl; exact rfl) | (apply g_drN (id := 15) okM [[],[0],[0,1],[0,1],[0,1,2,3],[0,1],[0,1],[0,1,5,6],[0,1,2,3,4,5,6,7],[0,1,2,3,4,5,6,7,8],[0,1,2,3,4,5,6,7,8,9]] [([],[]),([],[]),([],[]),([],[]),([],[]),([],[]),([],[]),([],[]),([],[]),([],[]),([],[])] 0; (focus (all_goals refine dp 0 0 [] [] pu1 ?_; all_goals (refine db 1 1 [] [] pu1 ?_ ?_ <;> (intro hc; first | cases hc | (try simp only [dcB] at hc); first | contradiction | (exfalso; omega) | skip)); all_goals (first | refine dn 2 3 [45, 47, 48, 49] [] ?_ | refine dpy 2 3 [45, 47, 48, 49] [] pu1 ?_); all_goals (first | refine dn 3 6 [44, 47, 48, 49] [] ?_ | refine dpy 3 6 [44, 47, 48, 49] [] pu1 ?_); all_goals (first | refine dn 4 15 [47, 48, 49] [] ?_ | refine dpy 4 15 [47, 48, 49] [] puI ?_); all_goals (first | refine dn 5 24 [44, 45, 46, 48] [] ?_ | refine dpy 5 24 [44, 45, 46, 48] [] pu1 ?_); all_goals (first | refine dn 6 48 [44, 45, 46, 47] [] ?_ | refine dpy 6 48 [44, 45, 46, 47] [] pu1 ?_); all_goals (first | refine dn 7 99 [44, 45, 46] [] ?_ | refine dpy 7 99 [44, 45, 46] [] puI ?_); all_goals (first | refine dn 8 255 [] [] ?_ | refine dpy 8 255 [] [] (callD1 (n := _) 0 (θ := []) (hD := (l26Same_ok _ _ preB65_2 preB65_2))) ?_); all_goals refine dp 9 511 [] [] (a_pure (sv := .one _) rfl) ?_; all_goals refine dp 10 1023 [] [] pu1 ?_; all_goals (refine d_nil ?_; refine dN ?_))); any_goals kernel_rfl) | ((first | refine o_gs rfl rfl (fun hc => ?_) (fun hc => ?_) | refine g_cond rfl (fun hc => ?_) (fun hc => ?_)) <;> (try simp only [dcB] at hc) <;> (try first | contradiction | (exfalso; omega)))
      refine g_turn (t_freeze (i := 0) rfl nowR) ?_
      repeat refine cr ?_
      refine ends_id ?_
      refine endK [] (h2 := ?_) (h3 := ?_) (nd := ?_)
      all_goals (repeat' first | exact ce0 | refine ce ?_ | refine ce2 ?_ ?_ | exact SVLe.refl | refine ceb ?_)
      all_goals first | exact (show nodupB _ = true from rfl) | exact Or.inr rfl | (rfl)
end Go.Proofs.YtbekdojhcokalaaGreatDoor
end
section
set_option linter.unusedVariables false
set_option linter.unusedSimpArgs false
set_option maxRecDepth 100000
set_option maxHeartbeats 4000000
namespace Go.Proofs.YtbekdojhcokalaaGreatDoor
open Go Foot
/-- A run: where it ends, after how many steps, whether it halts, whether there is room. -/
def rlO (m : Mach) : Nat → Int → Conf → Conf × Int × Bool × Bool
  | 0, n, c => (c, n, decide (ruAt m c = noR), true)
  | k + 1, n, c => if ruAt m c = noR then (c, n, true, true) else if roomS (stepS (ruAt m c) c) then rlO m k (n + 1) (stepS (ruAt m c) c) else (⟨0, [], []⟩, 0, false, false)
theorem rl_halt {m : Mach} {n b : Int} {c : Conf} {O : Conf × Int × Bool × Bool} (hn : n < b) (h : ruAt m c = noR) (hO : rlO m (b - n).toNat n c = O) : O = (c, n, true, true) := by
  rw [← hO, show (b - n).toNat = (b - n - 1).toNat + 1 by omega]; unfold rlO; rw [if_pos h]
theorem rl_full {m : Mach} {n b : Int} {c : Conf} {O : Conf × Int × Bool × Bool} (hn : n < b) (h : ¬ ruAt m c = noR) (hr : roomS (stepS (ruAt m c) c) = false) (hO : rlO m (b - n).toNat n c = O) : O = (⟨0, [], []⟩, 0, false, false) := by
  rw [← hO, show (b - n).toNat = (b - n - 1).toNat + 1 by omega]; unfold rlO; rw [if_neg h]; simp [hr]
theorem rl_next {m : Mach} {n b : Int} {c : Conf} {O : Conf × Int × Bool × Bool} (hn : n < b) (h : ¬ ruAt m c = noR) (hr : roomS (stepS (ruAt m c) c) = true) (hO : rlO m (b - n).toNat n c = O) : rlO m (b - (n + 1)).toNat (n + 1) (stepS (ruAt m c) c) = O := by
  rw [← hO, show (b - n).toNat = (b - (n + 1)).toNat + 1 by omega]; conv => rhs; unfold rlO
  rw [if_neg h]; simp [hr]
theorem rl_end {m : Mach} {n b : Int} {c : Conf} {O : Conf × Int × Bool × Bool} (hn : ¬ n < b) (hO : rlO m (b - n).toNat n c = O) : O = (c, n, decide (ruAt m c = noR), true) := by
  rw [← hO, show (b - n).toNat = 0 by omega]; unfold rlO; rfl
theorem preB66 {p : Prop} (h : p := by first | with_reducible assumption | omega | (simp only [List.length_append, List.length_cons, List.length_nil, List.length_set, List.length_replicate, List.length_take, List.length_drop, List.length_tail, List.length_dropLast, List.length_reverse] at *; omega) | exact mem_len (by assumption) (by omega) | (with_reducible refine Int.le_trans (Int.ofNat_le.2 (trimR_len _)) ?_; simp only [List.length_cons, List.length_tail]; omega) | (exact (ruAt_ok (by assumption) (by assumption) (by assumption)).2.1) | (exact (ruAt_ok (by assumption) (by assumption) (by assumption)).2.1) | (have := vMach_bd (by assumption); omega) | (simp only [mC_ch, mC_tu]; omega) | (have := vTag_bd (by assumption); omega) | (have := (‹Gd _ _›).le; omega) | (exact tgHalts_no (by assumption)) | (exact tgHead (by assumption) (by assumption) (by assumption)) | (exact Int.le_trans (tgStep_gd (by assumption) (by assumption) (by assumption) (by assumption)).le (by decide)) | (exact vTag_r (by assumption)) | (with_reducible refine Int.le_trans (Int.ofNat_le.2 (pushL_len _ _)) ?_; simp only [List.length_dropLast]; omega) | exact ls_at (by assumption) (by omega) | exact pt_gd (by assumption) | exact lv_at (by assumption) (by omega) | exact pt_gd (lv_at (by assumption) (by omega)) | exact (ask_ok (by assumption)).1 | exact (ask_ok (by assumption)).2.1 | exact (ask_ok (by assumption)).2.2.1 | exact (ask_ok (by assumption)).2.2.2 | trivial) : p := h
theorem l05Run_ok (m : Mach) (c : Conf) (b : Int) (hm : vMach m = true) (hc : vConf m c = true) (h0 : 0 ≤ b) (hb : b ≤ 1000000) (O : Conf × Int × Bool × Bool) (hO : rlO m b.toNat 0 c = O) : Does Tryz.prog 146 [.one (maB m), .agg (coC c), .one (int b)] [] (.tup [(true, [int O.1.st, .gv 0, .gv 1]), (false, [int O.2.1]), (false, [boo O.2.2.1]), (false, [boo O.2.2.2])]) [roI O.1.le, roI O.1.ri] := by
  have hbd := at_bd hm hc
  refine does_of (k := 0) Tryz.func146 rfl Tryz.ntmps146 rfl rfl fun w F0 S0 ρ0 => ?_
  dsimp only [argT, argH]
  repeat' first | (apply n3; exact a_new (gb := .bx _) rfl; exact rfl; refine dA ?_) | (apply p3; (first | exact pu1 | exact puL | exact puC | exact a_add rfl rfl (by omega) (by omega)); exact rfl) | refine cd ?_ | (apply w3; (first | exact a_st_bx rfl rfl rfl rfl (fN rfl rfl) (Nat.le_of_ble_eq_true rfl) rfl | exact a_stE (E := eCf) ⟨_, _, _⟩ rfl rfl rfl rfl (fN rfl rfl) bnd (by exact rfl)); exact rfl; refine dS ?_) | (apply c4 2; exact callK1 (θ := []) (hD := (l05OwnConfig_ok _ preB66 preB66)); exact rfl; exact rfl; exact rfl; refine dM ?_) | (apply c4 0; exact callK1 (θ := []) (hD := (l05HaltsC_ok _ _ preB66 preB66)); exact rfl; exact rfl; exact rfl; refine dM ?_) | (apply c4 2; exact callK1 (θ := []) (hD := (l05StepC_ok _ _ preB66 preB66)); exact rfl; exact rfl; exact rfl; refine dM ?_) | (apply g_drN (id := 11) okM [[],[],[],[2],[0,2,3],[0,1,2,3,4],[0,1,2,3,4,5],[0,1,2,3,4,5,6]] [([],[]),([],[]),([],[]),([],[]),([],[1]),([],[]),([],[]),([],[])] 0; (focus (refine dp 0 0 [34, 35, 36] [] puL ?_; refine dp 1 0 [33, 35, 36] [(false, 1)] pu1 ?_; refine dp 2 0 [33, 34] [] pu1 ?_; refine dp 3 1 [33, 34] [] (callD1 (n := _) 0 (θ := []) (hD := (l05HaltsC_ok _ _ preB66 preB66))) ?_; refine duE 4 11 [34] [] (by first | exact a_st_bx rfl rfl rfl rfl (fN rfl rfl) (Nat.le_of_ble_eq_true rfl) rfl | exact a_stE (E := eCf) ⟨_, _, _⟩ rfl rfl rfl rfl (fN rfl rfl) bnd (by exact rfl)) (by exact rfl) (by exact rfl) ?_; refine dp 5 31 [] [] pu1 ?_; refine dp 6 63 [] [] pu1 ?_; refine dp 7 127 [] [] (a_pure (sv := .one _) rfl) ?_; (refine d_nil ?_; refine dN ?_))); any_goals kernel_rfl) | ((first | refine o_gs rfl rfl (fun hc => ?_) (fun hc => ?_) | refine g_cond rfl (fun hc => ?_) (fun hc => ?_)) <;> (try simp only [dcB] at hc) <;> (try first | contradiction | (exfalso; omega)))
  refine g_loop_id ?_
  refine loopK [0, 2, 6, 7, 8, 9, 10] [2, 3, 4] (fun y : Int × Conf => vConf m y.2 = true ∧ 0 ≤ y.1 ∧ y.1 ≤ b ∧ rlO m (b - y.1).toNat y.1 y.2 = O) (fun y => [(11, .one (int y.1))]) (fun y => [(4, .bx [int y.2.st, .gv 2, .gv 3]), (2, roI y.2.le), (3, roI y.2.ri)]) (fun y => (b - y.1).toNat) ((0 : Int), c) [0, 1, 2, 3, 4] (hI := ?_) (hr := ?_)
  · exact ⟨hc, by simp, h0, by simpa using hO⟩
  · rintro ⟨n, c⟩ ⟨i1, i2, i3, i6⟩
    dsimp only [List.cons_append, List.nil_append] at *
    skip
    have hbd := at_bd hm i1; have hok := ruAt_ok hm i1
    repeat' first | (apply p3; (first | exact pu1 | exact puL | exact puC); exact rfl) | refine cdn ?_ | refine g_reg (id := 3) ?_ | refine g_reg (id := 5) ?_ | refine g_reg (id := 6) ?_ | (apply w3; (first | exact a_st_bx rfl rfl rfl rfl (fN rfl rfl) (Nat.le_of_ble_eq_true rfl) rfl | exact a_stE (E := eCf) ⟨_, _, _⟩ rfl rfl rfl rfl (fN rfl rfl) bnd (by exact rfl)); exact rfl; refine dS ?_) | (apply c4 0; exact callK1 (θ := []) (hD := (l05HaltsC_ok _ _ preB66 preB66)); exact rfl; exact rfl; exact rfl; refine dM ?_) | ((first | refine o_gs rfl rfl (fun hc => ?_) (fun hc => ?_) | refine g_cond rfl (fun hc => ?_) (fun hc => ?_)) <;> (try simp only [dcB] at hc) <;> (try first | contradiction | (exfalso; omega)))
    · obtain rfl := rl_halt (by omega) hc i6
      repeat refine cr ?_
      refine ends_id ?_
      refine endK [?_, ?_] (h2 := ?_) (h3 := ?_) (nd := ?_)
      rotate_left 2
      all_goals (repeat' first | exact ce0 | refine ce ?_ | refine ce2 ?_ ?_ | exact SVLe.refl | refine ceb ?_)
      all_goals first | exact (show nodupB _ = true from rfl) | exact Or.inr rfl | (rfl)
    · have hnr : ¬ ruAt m c = noR := hc
      have hok := hok hnr
      repeat' first | (apply n3; exact a_new (gb := .bx _) rfl; exact rfl; refine dA ?_) | (apply p3; (first | exact pu1 | exact puL | exact puC | exact a_add rfl rfl (by omega) (by omega)); exact rfl) | refine cd ?_ | (apply w3; (first | exact a_st_bx rfl rfl rfl rfl (fN rfl rfl) (Nat.le_of_ble_eq_true rfl) rfl | exact a_stE (E := eCf) ⟨_, _, _⟩ rfl rfl rfl rfl (fN rfl rfl) bnd (by exact rfl)); exact rfl; refine dS ?_) | (apply c4 0; exact callK1 (θ := []) (hD := (l05HaltsC_ok _ _ preB66 preB66)); exact rfl; exact rfl; exact rfl; refine dM ?_) | (apply c4 2; exact callK1 (θ := []) (hD := (l05StepC_ok _ _ preB66 preB66)); exact rfl; exact rfl; exact rfl; refine dM ?_) | (apply g_drN (id := 11) okM [[],[],[],[2],[0,2,3],[0,1,2,3,4],[0,1,2,3,4,5],[0,1,2,3,4,5,6]] [([],[]),([],[]),([],[]),([],[]),([],[1]),([],[]),([],[]),([],[])] 0; (focus (refine dp 0 0 [34, 35, 36] [] puL ?_; refine dp 1 0 [33, 35, 36] [(false, 1)] pu1 ?_; refine dp 2 0 [33, 34] [] pu1 ?_; refine dp 3 1 [33, 34] [] (callD1 (n := _) 0 (θ := []) (hD := (l05HaltsC_ok _ _ preB66 preB66))) ?_; refine duE 4 11 [34] [] (by first | exact a_st_bx rfl rfl rfl rfl (fN rfl rfl) (Nat.le_of_ble_eq_true rfl) rfl | exact a_stE (E := eCf) ⟨_, _, _⟩ rfl rfl rfl rfl (fN rfl rfl) bnd (by exact rfl)) (by exact rfl) (by exact rfl) ?_; refine dp 5 31 [] [] pu1 ?_; refine dp 6 63 [] [] pu1 ?_; refine dp 7 127 [] [] (a_pure (sv := .one _) rfl) ?_; (refine d_nil ?_; refine dN ?_))); any_goals kernel_rfl) | ((first | refine o_gs rfl rfl (fun hc => ?_) (fun hc => ?_) | refine g_cond rfl (fun hc => ?_) (fun hc => ?_)) <;> (try simp only [dcB] at hc) <;> (try first | contradiction | (exfalso; omega)))
      · obtain rfl := rl_full (by omega) hnr (by assumption) i6
        refine g_conv (t_nilB (i := 1) (k := 1) (z := 1) rfl rfl rfl (by decide)) ?_
        try dsimp only [setRow, List.map_cons, List.map_nil, scC, List.set_cons_zero, List.set_cons_succ]
        refine g_conv (t_nilB (i := 1) (k := 2) (z := 1) rfl rfl rfl (by decide)) ?_
        try dsimp only [setRow, List.map_cons, List.map_nil, scC, List.set_cons_zero, List.set_cons_succ]
        repeat refine cr ?_
        refine ends_id ?_
        refine endK [?_, ?_] (h2 := ?_) (h3 := ?_) (nd := ?_)
        rotate_left 2
        all_goals (repeat' first | exact ce0 | refine ce ?_ | refine ce2 ?_ ?_ | exact SVLe.refl | refine ceb ?_)
        all_goals first | exact (show nodupB _ = true from rfl) | exact Or.inr rfl | (rfl)
      · have hr : roomS (stepS (ruAt m c) c) = true := by assumption
        refine q_again (n + 1, stepS (ruAt m c) c) [0, 1, 5, 6, 4] (by exact stk) ?_ ?_
        · exact ⟨stepS_ok hm i1 hnr hr, by dsimp only; omega, by dsimp only; omega, rl_next (by omega) hnr hr i6⟩
        · dsimp only; omega
    · have hnb : n = b := by omega
      obtain rfl := rl_end hc i6
      subst hnb
      repeat' first | (apply n3; exact a_new (gb := .bx _) rfl; exact rfl; refine dA ?_) | (apply p3; (first | exact pu1 | exact puL | exact puC | exact a_add rfl rfl (by omega) (by omega)); exact rfl) | refine cd ?_ | (apply w3; (first | exact a_st_bx rfl rfl rfl rfl (fN rfl rfl) (Nat.le_of_ble_eq_true rfl) rfl | exact a_stE (E := eCf) ⟨_, _, _⟩ rfl rfl rfl rfl (fN rfl rfl) bnd (by exact rfl)); exact rfl; refine dS ?_) | (apply c4 0; exact callK1 (θ := []) (hD := (l05HaltsC_ok _ _ preB66 preB66)); exact rfl; exact rfl; exact rfl; refine dM ?_) | (apply c4 2; exact callK1 (θ := []) (hD := (l05StepC_ok _ _ preB66 preB66)); exact rfl; exact rfl; exact rfl; refine dM ?_) | (apply g_drN (id := 11) okM [[],[],[],[2],[0,2,3],[0,1,2,3,4],[0,1,2,3,4,5],[0,1,2,3,4,5,6]] [([],[]),([],[]),([],[]),([],[]),([],[1]),([],[]),([],[]),([],[])] 0; (focus (refine dp 0 0 [34, 35, 36] [] puL ?_; refine dp 1 0 [33, 35, 36] [(false, 1)] pu1 ?_; refine dp 2 0 [33, 34] [] pu1 ?_; refine dp 3 1 [33, 34] [] (callD1 (n := _) 0 (θ := []) (hD := (l05HaltsC_ok _ _ preB66 preB66))) ?_; refine duE 4 11 [34] [] (by first | exact a_st_bx rfl rfl rfl rfl (fN rfl rfl) (Nat.le_of_ble_eq_true rfl) rfl | exact a_stE (E := eCf) ⟨_, _, _⟩ rfl rfl rfl rfl (fN rfl rfl) bnd (by exact rfl)) (by exact rfl) (by exact rfl) ?_; refine dp 5 31 [] [] pu1 ?_; refine dp 6 63 [] [] pu1 ?_; refine dp 7 127 [] [] (a_pure (sv := .one _) rfl) ?_; (refine d_nil ?_; refine dN ?_))); any_goals kernel_rfl) | ((first | refine o_gs rfl rfl (fun hc => ?_) (fun hc => ?_) | refine g_cond rfl (fun hc => ?_) (fun hc => ?_)) <;> (try simp only [dcB] at hc) <;> (try first | contradiction | (exfalso; omega)))
      repeat refine cr ?_
      refine ends_id ?_
      refine endK [?_, ?_] (h2 := ?_) (h3 := ?_) (nd := ?_)
      rotate_left 2
      all_goals (repeat' first | exact ce0 | refine ce ?_ | refine ce2 ?_ ?_ | exact SVLe.refl | refine ceb ?_)
      all_goals first | exact (show nodupB _ = true from rfl) | exact Or.inr rfl | (rfl)
/-- The program's run with one step more halts early just where this run halts. -/
theorem it_rl {m : Mach} : ∀ (k : Nat) (n : Int) (c : Conf) (b : Bool), ((rlO m k n c).2.2.2 && (rlO m k n c).2.2.1) = true ↔ ((itSteps m bdRun (k + 1) n c (n, b)).j = none ∧ ruAt m (itSteps m bdRun (k + 1) n c (n, b)).c = noR ∧ (itSteps m bdRun (k + 1) n c (n, b)).x.1 < n + k + 1)
  | 0, n, c, b => by
    have e1 : ∀ (c : Conf) (n n' : Int), bdRun (n', b) (c, n, true) = ((n, b), none) := by simp [bdRun]
    unfold itSteps
    rw [e1]
    simp only [Option.isSome_none, Bool.false_eq_true, if_false]
    by_cases hr : ruAt m c = noR
    · rw [if_pos hr]
      simp only [rlO, hr]
      simp
      omega
    · rw [if_neg hr]
      simp only [rlO, hr]
      by_cases hf : roomS (stepS (ruAt m c) c) = true
      · rw [if_pos hf]
        unfold itSteps
        rw [e1]
        simp only [Option.isSome_none, Bool.false_eq_true, if_false]
        split <;> simp
      · rw [if_neg hf]
        simp [bdRun]
  | k + 1, n, c, b => by
    have e1 : ∀ (c : Conf) (n n' : Int), bdRun (n', b) (c, n, true) = ((n, b), none) := by simp [bdRun]
    have ih := it_rl (m := m) k (n + 1) (stepS (ruAt m c) c) b
    have e2 : itSteps m bdRun (k + 1) (n + 1) (stepS (ruAt m c) c) (n, b) = itSteps m bdRun (k + 1) (n + 1) (stepS (ruAt m c) c) (n + 1, b) := by
      conv => lhs; unfold itSteps
      conv => rhs; unfold itSteps
      rw [e1, e1]
    rw [← e2] at ih
    rw [show itSteps m bdRun (k + 1 + 1) n c (n, b) = _ by unfold itSteps; rw [e1]]
    simp only [Option.isSome_none, Bool.false_eq_true, if_false]
    unfold rlO
    by_cases hr : ruAt m c = noR
    · rw [if_pos hr, if_pos hr]
      simp only [hr]
      simp
      omega
    · rw [if_neg hr, if_neg hr]
      by_cases hf : roomS (stepS (ruAt m c) c) = true
      · rw [if_pos hf, if_pos hf, ih, show n + ((k + 1 : Nat) : Int) + 1 = n + 1 + k + 1 by omega]
      · rw [if_neg hf, if_neg hf]
        simp [bdRun]
@[irreducible] def erly (m : Mach) (d : Int) : Bool := if d = 0 then false else (rlO m (d - 1).toNat 0 blank).2.2.2 && (rlO m (d - 1).toNat 0 blank).2.2.1
theorem hb_erly (m : Mach) (d : Int) (h0 : 0 ≤ d) : (runHalts m (runIt m d blank) && decide (runMade (runIt m d blank) < d)) = erly m d := by
  have e : itSteps m bdRun d.toNat 0 blank (0, false) = runIt m d blank := by unfold runIt; rfl
  by_cases hd : d = 0
  · have e2 : erly m d = false := by unfold erly; rw [if_pos hd]
    rw [e2, Bool.and_eq_false_iff]
    right
    rw [decide_eq_false_iff_not, ← e, hd, show (0 : Int).toNat = 0 from rfl]
    unfold itSteps runMade
    have e1 : bdRun (0, false) (blank, 0, true) = ((0, false), none) := by simp [bdRun]
    rw [e1]
    simp only [Option.isSome_none, Bool.false_eq_true, if_false]
    split <;> split <;> simp
  · have e2 : erly m d = ((rlO m (d - 1).toNat 0 blank).2.2.2 && (rlO m (d - 1).toNat 0 blank).2.2.1) := by unfold erly; rw [if_neg hd]
    have h1 := it_rl (m := m) (d - 1).toNat 0 blank false
    rw [show (d - 1).toNat + 1 = d.toNat by omega, e, ← e2] at h1
    rw [Bool.eq_iff_iff, h1]
    unfold runHalts runMade
    by_cases hj : (runIt m d blank).j = none
    · rw [if_pos hj, if_pos hj]
      simp only [hj, Bool.and_eq_true, decide_eq_true_eq, true_and]
      constructor
      · rintro ⟨q1, q2⟩; exact ⟨q1, by omega⟩
      · rintro ⟨q1, q2⟩; exact ⟨q1, by omega⟩
    · rw [if_neg hj, if_neg hj]
      simp [hj]
theorem l26Early_ok (m : Mach) (d : Int) (hm : vMach m = true) (h0 : 0 ≤ d) (h1 : d ≤ 1000000) : Does Tryz.prog 86 [.one (maB m), .one (int d)] [] (.one (boo (erly m d))) [] := by
  have hb := vBlank hm
  by_cases hd : d = 0
  · have e2 : erly m d = false := by unfold erly; rw [if_pos hd]
    refine does_of (k := 0) Tryz.func86 rfl Tryz.ntmps86 rfl rfl fun w F0 S0 ρ0 => ?_
    dsimp only [argT, argH]
    repeat' first | (apply n3; exact a_new (gb := .bx _) rfl; exact rfl; refine dA ?_) | (apply p3; (first | exact pu1 | exact puC | exact a_eqS rfl rfl rfl | exact a_sub rfl rfl (by omega) (by omega)); exact rfl) | refine cd ?_ | (apply w3; (first | exact a_st_bx rfl rfl rfl rfl (fN rfl rfl) (Nat.le_of_ble_eq_true rfl) rfl | exact a_stE (E := eCf) ⟨_, _, _⟩ rfl rfl rfl rfl (fN rfl rfl) bnd (by exact rfl)); exact rfl; refine dS ?_) | (apply c4 2; exact callK1 (θ := []) (hD := (l05Run_ok _ _ _ preB66 preB66 preB66 preB66 _ preB66)); exact rfl; exact rfl; exact rfl; refine dM ?_) | refine o_no rfl rfl rfl rfl ?_ | refine o_noN rfl rfl rfl ?_ | (apply py3; exact rfl; exact rfl; (first | exact pu1 | exact puC | exact a_eqS rfl rfl rfl | exact a_sub rfl rfl (by omega) (by omega)); exact rfl; exact rfl) | (apply ny3; exact rfl; exact rfl; exact a_new (gb := .bx _) rfl; exact rfl; exact rfl) | (apply cy4 2; exact rfl; exact rfl; exact callK1 (θ := []) (hD := (l05Run_ok _ _ _ preB66 preB66 preB66 preB66 _ preB66)); exact rfl; exact rfl; exact rfl; exact rfl; refine dM ?_) | ((first | refine o_gs rfl rfl (fun hc => ?_) (fun hc => ?_) | refine g_cond rfl (fun hc => ?_) (fun hc => ?_)) <;> (try simp only [dcB] at hc) <;> (try first | contradiction | (exfalso; omega)))
    repeat refine cr ?_
    refine ends_id ?_
    refine endK [] (h2 := ?_) (h3 := ?_) (nd := ?_)
    all_goals (repeat' first | exact ce0 | refine ce ?_ | refine ce2 ?_ ?_ | exact SVLe.refl | refine ceb ?_)
    all_goals first | exact (show nodupB _ = true from rfl) | exact Or.inr rfl | (exact e2.symm)
  · have e2 : erly m d = ((rlO m (d - 1).toNat 0 blank).2.2.2 && (rlO m (d - 1).toNat 0 blank).2.2.1) := by unfold erly; rw [if_neg hd]
    generalize hO : rlO m (d - 1).toNat 0 blank = O at *
    rw [e2]
    refine does_of (k := 0) Tryz.func86 rfl Tryz.ntmps86 rfl rfl fun w F0 S0 ρ0 => ?_
    dsimp only [argT, argH]
    repeat' first | (apply n3; exact a_new (gb := .bx _) rfl; exact rfl; refine dA ?_) | (apply p3; (first | exact pu1 | exact puC | exact a_eqS rfl rfl rfl | exact a_sub rfl rfl (by omega) (by omega)); exact rfl) | refine cd ?_ | (apply w3; (first | exact a_st_bx rfl rfl rfl rfl (fN rfl rfl) (Nat.le_of_ble_eq_true rfl) rfl | exact a_stE (E := eCf) ⟨_, _, _⟩ rfl rfl rfl rfl (fN rfl rfl) bnd (by exact rfl)); exact rfl; refine dS ?_) | (apply c4 2; exact callK1 (θ := []) (hD := (l05Run_ok m blank (d - 1) hm hb preB66 preB66 O hO)); exact rfl; exact rfl; exact rfl; refine dM ?_) | refine o_no rfl rfl rfl rfl ?_ | refine o_noN rfl rfl rfl ?_ | (apply py3; exact rfl; exact rfl; (first | exact pu1 | exact puC | exact a_eqS rfl rfl rfl | exact a_sub rfl rfl (by omega) (by omega)); exact rfl; exact rfl) | (apply ny3; exact rfl; exact rfl; exact a_new (gb := .bx _) rfl; exact rfl; exact rfl) | (apply cy4 2; exact rfl; exact rfl; exact callK1 (θ := []) (hD := (l05Run_ok m blank (d - 1) hm hb preB66 preB66 O hO)); exact rfl; exact rfl; exact rfl; exact rfl; refine dM ?_) | ((first | refine o_gs rfl rfl (fun hc => ?_) (fun hc => ?_) | refine g_cond rfl (fun hc => ?_) (fun hc => ?_)) <;> (try simp only [dcB] at hc) <;> (try first | contradiction | (exfalso; omega)))
    all_goals
      repeat refine cr ?_
      refine ends_id ?_
      refine endK [] (h2 := ?_) (h3 := ?_) (nd := ?_)
      all_goals (repeat' first | exact ce0 | refine ce ?_ | refine ce2 ?_ ?_ | exact SVLe.refl | refine ceb ?_)
      all_goals first | exact (show nodupB _ = true from rfl) | exact Or.inr rfl | ((simp_all))
end Go.Proofs.YtbekdojhcokalaaGreatDoor
end
section
set_option linter.unusedVariables false
set_option linter.unusedSimpArgs false
set_option maxRecDepth 100000
set_option maxHeartbeats 4000000
namespace Go.Proofs.YtbekdojhcokalaaGreatDoor
open Go Foot
theorem haF_ok {m : Mach} (hm : vMach m = true) : ∀ {i : Nat}, i ≤ m.ru.length → ∀ x ∈ haF m i, PtOk m x
  | 0, _, x, hx => by simp [haF] at hx
  | i + 1, hi, x, hx => by
    have ih := haF_ok hm (i := i) (by omega)
    unfold haF at hx
    split at hx
    · rcases List.mem_append.1 hx with hx | hx
      · exact ih x hx
      · rw [List.mem_singleton.1 hx]
        obtain ⟨i1, i2⟩ := idx_bd hm (i := i) (by omega) (by omega)
        exact ⟨i1, by simp, by simp, fun v hv => by rw [List.mem_singleton.1 hv]; exact i2⟩
    · exact ih x hx
theorem halt_lv {m : Mach} (hm : vMach m = true) : LvOk m (haltP m) := by
  have hl := vMach_len hm
  unfold haltP
  exact ⟨by have := haF_len m m.ru.length; omega, haF_ok hm (Nat.le_refl _)⟩
theorem nxtL_lv {m : Mach} (hm : vMach m = true) : ∀ {lv acc l : List Part}, (∀ x ∈ lv, PtOk m x) → LvOk m acc → (acc.length : Int) ≤ 300 → nxtL m lv acc = some l → LvOk m l ∧ (l.length : Int) ≤ 300
  | [], acc, l, _, ga, hl, h => by unfold nxtL at h; cases h; exact ⟨ga, hl⟩
  | x :: r, acc, l, g, ga, hl, h => by
    unfold nxtL at h
    split at h
    · cases h
    · rename_i l0 h0
      split at h
      · cases h
      · rename_i hn
        exact nxtL_lv hm (fun y hy => g y (by simp [hy])) (addP_lv ga (prds_lv hm (g x (by simp)) h0) (by omega)) (by omega) h
theorem nxt_lv {m : Mach} (hm : vMach m = true) {lv l : List Part} (g : LvOk m lv) (h : nxtL m lv [] = some l) : LvOk m l ∧ (l.length : Int) ≤ 300 := nxtL_lv hm g.a ⟨by simp, by simp⟩ (by simp) h
theorem preB67 {p : Prop} (h : p := by first | with_reducible assumption | omega | (simp only [List.length_append, List.length_cons, List.length_nil, List.length_set, List.length_replicate, List.length_take, List.length_drop, List.length_tail, List.length_dropLast, List.length_reverse] at *; omega) | exact mem_len (by assumption) (by omega) | (with_reducible refine Int.le_trans (Int.ofNat_le.2 (trimR_len _)) ?_; simp only [List.length_cons, List.length_tail]; omega) | (exact (ruAt_ok (by assumption) (by assumption) (by assumption)).2.1) | (exact (ruAt_ok (by assumption) (by assumption) (by assumption)).2.1) | (have := vMach_bd (by assumption); omega) | (simp only [mC_ch, mC_tu]; omega) | (have := vTag_bd (by assumption); omega) | (have := (‹Gd _ _›).le; omega) | (exact tgHalts_no (by assumption)) | (exact tgHead (by assumption) (by assumption) (by assumption)) | (exact Int.le_trans (tgStep_gd (by assumption) (by assumption) (by assumption) (by assumption)).le (by decide)) | (exact vTag_r (by assumption)) | (with_reducible refine Int.le_trans (Int.ofNat_le.2 (pushL_len _ _)) ?_; simp only [List.length_dropLast]; omega) | exact ls_at (by assumption) (by omega) | exact pt_gd (by assumption) | exact lv_at (by assumption) (by omega) | exact pt_gd (lv_at (by assumption) (by omega)) | exact (ask_ok (by assumption)).1 | exact (ask_ok (by assumption)).2.1 | exact (ask_ok (by assumption)).2.2.1 | exact (ask_ok (by assumption)).2.2.2 | trivial) : p := h
/-- The depth of the levels behind a list, within a number of steps. -/
def dpF (m : Mach) (b : Int) : Nat → Int → List Part → Int → Option Int
  | 0, _, _, _ => none
  | f + 1, d, lv, s => if lv = [] then some d else if b < s + lv.length then none else match nxtL m lv [] with
    | none => none
    | some l => dpF m b f (d + 1) l (s + lv.length)
theorem dpF_next {m : Mach} {b d s : Int} {lv : List Part} (h : d ≤ 60) : dpF m b (61 - d).toNat d lv s = if lv = [] then some d else if b < s + lv.length then none else match nxtL m lv [] with
    | none => none
    | some l => dpF m b (61 - (d + 1)).toNat (d + 1) l (s + lv.length) := by
  rw [show (61 - d).toNat = (61 - (d + 1)).toNat + 1 by omega, dpF]
theorem dpF_end {m : Mach} {b d s : Int} {lv : List Part} (h : ¬ d ≤ 60) : dpF m b (61 - d).toNat d lv s = none := by
  rw [show (61 - d).toNat = 0 by omega, dpF]
@[irreducible] def depQ (m : Mach) (lv : List Part) (b : Int) : Option Int := if 300 < (lv.length : Int) then none else dpF m b 61 0 lv 0
theorem l26Depth_ok (m : Mach) (lv : List Part) (b : Int) (hm : vMach m = true) (g : LvOk m lv) (h0 : 0 ≤ b) (h1 : b ≤ 1000000) : Does Tryz.prog 153 [.one (maB m), .one (shPa lv), .one (int b)] [] (.tup [(false, [int ((depQ m lv b).getD 0)]), (false, [boo (depQ m lv b).isSome])]) [] := by
  have hn := g.n
  by_cases hb : 300 < (lv.length : Int)
  · have e : depQ m lv b = none := by unfold depQ; rw [if_pos hb]
    rw [e]
    refine does_of (k := 0) Tryz.func153 rfl Tryz.ntmps153 rfl rfl fun w F0 S0 ρ0 => ?_
    dsimp only [argT, argH]
    repeat' first | (apply p3; (first | exact pu1 | exact puN | exact a_len_str rfl (fT rfl) | exact puC | exact a_eqS rfl rfl rfl | exact a_add rfl rfl (by omega) (by omega)); exact rfl) | refine cd ?_ | (apply c4 0; exact callK0 (θ := []) (hD := (l26Next_ok _ _ preB67 preB67)); exact rfl; exact rfl; exact rfl; refine dM ?_) | ((first | refine o_gs rfl rfl (fun hc => ?_) (fun hc => ?_) | refine g_cond rfl (fun hc => ?_) (fun hc => ?_)) <;> (try simp only [dcB] at hc) <;> (try first | contradiction | (exfalso; omega)))
    repeat refine cr ?_
    refine ends_id ?_
    refine endK [] (h2 := ?_) (h3 := ?_) (nd := ?_)
    all_goals (repeat' first | exact ce0 | refine ce ?_ | refine ce2 ?_ ?_ | exact SVLe.refl | refine ceb ?_)
    all_goals first | exact (show nodupB _ = true from rfl) | exact Or.inr rfl | (rfl)
  · have e : depQ m lv b = dpF m b 61 0 lv 0 := by unfold depQ; rw [if_neg hb]
    refine does_of (k := 0) Tryz.func153 rfl Tryz.ntmps153 rfl rfl fun w F0 S0 ρ0 => ?_
    dsimp only [argT, argH]
    repeat' first | (apply p3; (first | exact pu1 | exact puN | exact a_len_str rfl (fT rfl) | exact puC | exact a_eqS rfl rfl rfl | exact a_add rfl rfl (by omega) (by omega)); exact rfl) | refine cd ?_ | (apply c4 0; exact callK0 (θ := []) (hD := (l26Next_ok _ _ preB67 preB67)); exact rfl; exact rfl; exact rfl; refine dM ?_) | ((first | refine o_gs rfl rfl (fun hc => ?_) (fun hc => ?_) | refine g_cond rfl (fun hc => ?_) (fun hc => ?_)) <;> (try simp only [dcB] at hc) <;> (try first | contradiction | (exfalso; omega)))
    refine g_loop_id ?_
    refine loopK [0, 2, 6, 7] [] (fun y : Int × List Part × Int => 0 ≤ y.1 ∧ y.1 ≤ 61 ∧ LvOk m y.2.1 ∧ 0 ≤ y.2.2 ∧ y.2.2 ≤ b ∧ dpF m b (61 - y.1).toNat y.1 y.2.1 y.2.2 = depQ m lv b) (fun y => [(9, .one (int y.1)), (1, .one (shPa y.2.1)), (8, .one (int y.2.2))]) (fun y => []) (fun y => (61 - y.1).toNat) ((0 : Int), lv, (0 : Int)) [] (hI := ?_) (hr := ?_)
    · exact ⟨by simp, by simp, g, by simp, h0, e.symm⟩
    · rintro ⟨d, l, s⟩ ⟨k0, k1, k2, k3, k4, k5⟩
      dsimp only [List.cons_append, List.nil_append] at *
      skip
      repeat' first | (apply p3; (first | exact pu1 | exact puC); exact rfl) | refine cdn ?_ | refine g_reg (id := 5) ?_ | ((first | refine o_gs rfl rfl (fun hc => ?_) (fun hc => ?_) | refine g_cond rfl (fun hc => ?_) (fun hc => ?_)) <;> (try simp only [dcB] at hc) <;> (try first | contradiction | (exfalso; omega)))
      · rw [dpF_next hc] at k5
        have hn := k2.n
        have hl : l = [] ↔ (l.length : Int) = 0 := by rw [← List.length_eq_zero_iff]; omega
        by_cases he : (l.length : Int) = 0
        · rw [if_pos (hl.2 he)] at k5
          rw [← k5]
          repeat' first | (apply p3; (first | exact pu1 | exact puC | exact puN | exact a_len_str rfl (fT rfl) | exact a_eqS rfl rfl rfl | exact a_add rfl rfl (by omega) (by omega)); exact rfl) | refine cd ?_ | (apply c4 0; exact callK0 (θ := []) (hD := (l26Next_ok _ _ preB67 preB67)); exact rfl; exact rfl; exact rfl; refine dM ?_) | ((first | refine o_gs rfl rfl (fun hc => ?_) (fun hc => ?_) | refine g_cond rfl (fun hc => ?_) (fun hc => ?_)) <;> (try simp only [dcB] at hc) <;> (try first | contradiction | (exfalso; omega)))
          repeat refine cr ?_
          refine ends_id ?_
          refine endK [] (h2 := ?_) (h3 := ?_) (nd := ?_)
          all_goals (repeat' first | exact ce0 | refine ce ?_ | refine ce2 ?_ ?_ | exact SVLe.refl | refine ceb ?_)
          all_goals first | exact (show nodupB _ = true from rfl) | exact Or.inr rfl | (rfl)
        · rw [if_neg (fun q => he (hl.1 q))] at k5
          by_cases hs : b < s + l.length
          · rw [if_pos hs] at k5
            rw [← k5]
            repeat' first | (apply p3; (first | exact pu1 | exact puC | exact puN | exact a_len_str rfl (fT rfl) | exact a_eqS rfl rfl rfl | exact a_add rfl rfl (by omega) (by omega)); exact rfl) | refine cd ?_ | (apply c4 0; exact callK0 (θ := []) (hD := (l26Next_ok _ _ preB67 preB67)); exact rfl; exact rfl; exact rfl; refine dM ?_) | ((first | refine o_gs rfl rfl (fun hc => ?_) (fun hc => ?_) | refine g_cond rfl (fun hc => ?_) (fun hc => ?_)) <;> (try simp only [dcB] at hc) <;> (try first | contradiction | (exfalso; omega)))
            repeat refine cr ?_
            refine ends_id ?_
            refine endK [] (h2 := ?_) (h3 := ?_) (nd := ?_)
            all_goals (repeat' first | exact ce0 | refine ce ?_ | refine ce2 ?_ ?_ | exact SVLe.refl | refine ceb ?_)
            all_goals first | exact (show nodupB _ = true from rfl) | exact Or.inr rfl | (rfl)
          · rw [if_neg hs] at k5
            cases hf : nxtL m l [] with
            | none =>
              rw [hf] at k5
              dsimp only at k5
              rw [← k5]
              repeat' first | (apply p3; (first | exact pu1 | exact puC | exact puN | exact a_len_str rfl (fT rfl) | exact a_eqS rfl rfl rfl | exact a_add rfl rfl (by omega) (by omega)); exact rfl) | refine cdn ?_ | refine g_reg (id := 5) ?_ | refine g_reg (id := 7) ?_ | refine g_reg (id := 8) ?_ | refine g_reg (id := 9) ?_ | refine g_reg (id := 10) ?_ | refine g_reg (id := 11) ?_ | refine g_reg (id := 12) ?_ | refine g_reg (id := 16) ?_ | (apply c4 0; exact callK0 (θ := []) (hD := (l26Next_ok _ _ preB67 preB67)); exact rfl; exact rfl; exact rfl; refine dM ?_) | ((first | refine o_gs rfl rfl (fun hc => ?_) (fun hc => ?_) | refine g_cond rfl (fun hc => ?_) (fun hc => ?_)) <;> (try simp only [dcB] at hc) <;> (try first | contradiction | (exfalso; omega)))
              simp only [hf, Option.isSome_none, Option.getD_none]
              repeat' first | (apply p3; (first | exact pu1 | exact puC | exact puN | exact a_len_str rfl (fT rfl) | exact a_eqS rfl rfl rfl | exact a_add rfl rfl (by omega) (by omega)); exact rfl) | refine cd ?_ | (apply c4 0; exact callK0 (θ := []) (hD := (l26Next_ok _ _ preB67 preB67)); exact rfl; exact rfl; exact rfl; refine dM ?_) | ((first | refine o_gs rfl rfl (fun hc => ?_) (fun hc => ?_) | refine g_cond rfl (fun hc => ?_) (fun hc => ?_)) <;> (try simp only [dcB] at hc) <;> (try first | contradiction | (exfalso; omega)))
              repeat refine cr ?_
              refine ends_id ?_
              refine endK [] (h2 := ?_) (h3 := ?_) (nd := ?_)
              all_goals (repeat' first | exact ce0 | refine ce ?_ | refine ce2 ?_ ?_ | exact SVLe.refl | refine ceb ?_)
              all_goals first | exact (show nodupB _ = true from rfl) | exact Or.inr rfl | (rfl)
            | some l2 =>
              rw [hf] at k5
              dsimp only at k5
              have gl := (nxt_lv hm k2 hf).1
              have gn := gl.n
              repeat' first | (apply p3; (first | exact pu1 | exact puC | exact puN | exact a_len_str rfl (fT rfl) | exact a_eqS rfl rfl rfl | exact a_add rfl rfl (by omega) (by omega)); exact rfl) | refine cdn ?_ | refine g_reg (id := 5) ?_ | refine g_reg (id := 7) ?_ | refine g_reg (id := 8) ?_ | refine g_reg (id := 9) ?_ | refine g_reg (id := 10) ?_ | refine g_reg (id := 11) ?_ | refine g_reg (id := 12) ?_ | refine g_reg (id := 16) ?_ | (apply c4 0; exact callK0 (θ := []) (hD := (l26Next_ok _ _ preB67 preB67)); exact rfl; exact rfl; exact rfl; refine dM ?_) | ((first | refine o_gs rfl rfl (fun hc => ?_) (fun hc => ?_) | refine g_cond rfl (fun hc => ?_) (fun hc => ?_)) <;> (try simp only [dcB] at hc) <;> (try first | contradiction | (exfalso; omega)))
              simp only [hf, Option.isSome_some, Option.getD_some]
              repeat' first | (apply p3; (first | exact pu1 | exact puC | exact puN | exact a_len_str rfl (fT rfl) | exact a_eqS rfl rfl rfl | exact a_add rfl rfl (by omega) (by omega)); exact rfl) | refine cd ?_ | (apply c4 0; exact callK0 (θ := []) (hD := (l26Next_ok _ _ preB67 preB67)); exact rfl; exact rfl; exact rfl; refine dM ?_) | ((first | refine o_gs rfl rfl (fun hc => ?_) (fun hc => ?_) | refine g_cond rfl (fun hc => ?_) (fun hc => ?_)) <;> (try simp only [dcB] at hc) <;> (try first | contradiction | (exfalso; omega)))
              refine q_again (d + 1, l2, s + l.length) [] (by exact stk) ?_ ?_
              · exact ⟨by dsimp only; omega, by dsimp only; omega, gl, by dsimp only; omega, by dsimp only; omega, k5⟩
              · dsimp only; omega
      · rw [dpF_end hc] at k5
        rw [← k5]
        repeat' first | (apply p3; (first | exact pu1 | exact puC | exact puN | exact a_len_str rfl (fT rfl) | exact a_eqS rfl rfl rfl | exact a_add rfl rfl (by omega) (by omega)); exact rfl) | refine cd ?_ | (apply c4 0; exact callK0 (θ := []) (hD := (l26Next_ok _ _ preB67 preB67)); exact rfl; exact rfl; exact rfl; refine dM ?_) | ((first | refine o_gs rfl rfl (fun hc => ?_) (fun hc => ?_) | refine g_cond rfl (fun hc => ?_) (fun hc => ?_)) <;> (try simp only [dcB] at hc) <;> (try first | contradiction | (exfalso; omega)))
        repeat refine cr ?_
        refine ends_id ?_
        refine endK [] (h2 := ?_) (h3 := ?_) (nd := ?_)
        all_goals (repeat' first | exact ce0 | refine ce ?_ | refine ce2 ?_ ?_ | exact SVLe.refl | refine ceb ?_)
        all_goals first | exact (show nodupB _ = true from rfl) | exact Or.inr rfl | (rfl)
end Go.Proofs.YtbekdojhcokalaaGreatDoor
end
section
set_option linter.unusedVariables false
set_option linter.unusedSimpArgs false
set_option maxRecDepth 100000
set_option maxHeartbeats 4000000
namespace Go.Proofs.YtbekdojhcokalaaGreatDoor
open Go Foot
def frF (m : Mach) : Nat → List Int
  | 0 => []
  | i + 1 => if ruI m i = noR then frF m i ++ [(i : Int)] else frF m i
theorem frF_yes {m : Mach} {i : Int} (h0 : 0 ≤ i) (h : ruI m i = noR) : frF m (i + 1).toNat = frF m i.toNat ++ [i] := by
  rw [show (i + 1).toNat = i.toNat + 1 by omega, frF, show ((i.toNat : Nat) : Int) = i by omega, if_pos h]
theorem frF_no {m : Mach} {i : Int} (h0 : 0 ≤ i) (h : ¬ ruI m i = noR) : frF m (i + 1).toNat = frF m i.toNat := by
  rw [show (i + 1).toNat = i.toNat + 1 by omega, frF, show ((i.toNat : Nat) : Int) = i by omega, if_neg h]
theorem frF_len (m : Mach) : ∀ i, (frF m i).length ≤ i
  | 0 => by simp [frF]
  | i + 1 => by
    have := frF_len m i
    unfold frF
    split
    · simp; omega
    · omega
theorem frF_bd (m : Mach) : ∀ (i : Nat), ∀ k ∈ frF m i, 0 ≤ k ∧ k < i
  | 0, k, h => by simp [frF] at h
  | i + 1, k, h => by
    unfold frF at h
    split at h
    · rcases List.mem_append.1 h with h | h
      · have := frF_bd m i k h; omega
      · rw [List.mem_singleton.1 h]; omega
    · have := frF_bd m i k h; omega
theorem haF_map (m : Mach) : ∀ i, haF m i = (frF m i).map fun k => (⟨k / m.sy, 0, [k % m.sy]⟩ : Part)
  | 0 => rfl
  | i + 1 => by
    unfold haF frF
    split
    · rw [List.map_append, haF_map m i]; rfl
    · exact haF_map m i
@[irreducible] def freeL (m : Mach) : List Int := frF m m.ru.length
theorem preB70 {p : Prop} (h : p := by first | with_reducible assumption | omega | (simp only [List.length_append, List.length_cons, List.length_nil, List.length_set, List.length_replicate, List.length_take, List.length_drop, List.length_tail, List.length_dropLast, List.length_reverse] at *; omega) | exact mem_len (by assumption) (by omega) | (with_reducible refine Int.le_trans (Int.ofNat_le.2 (trimR_len _)) ?_; simp only [List.length_cons, List.length_tail]; omega) | (exact (ruAt_ok (by assumption) (by assumption) (by assumption)).2.1) | (exact (ruAt_ok (by assumption) (by assumption) (by assumption)).2.1) | (have := vMach_bd (by assumption); omega) | (simp only [mC_ch, mC_tu]; omega) | (have := vTag_bd (by assumption); omega) | (have := (‹Gd _ _›).le; omega) | (exact tgHalts_no (by assumption)) | (exact tgHead (by assumption) (by assumption) (by assumption)) | (exact Int.le_trans (tgStep_gd (by assumption) (by assumption) (by assumption) (by assumption)).le (by decide)) | (exact vTag_r (by assumption)) | (with_reducible refine Int.le_trans (Int.ofNat_le.2 (pushL_len _ _)) ?_; simp only [List.length_dropLast]; omega) | exact ls_at (by assumption) (by omega) | exact pt_gd (by assumption) | exact lv_at (by assumption) (by omega) | exact pt_gd (lv_at (by assumption) (by omega)) | exact (ask_ok (by assumption)).1 | exact (ask_ok (by assumption)).2.1 | exact (ask_ok (by assumption)).2.2.1 | exact (ask_ok (by assumption)).2.2.2 | trivial) : p := h
theorem freeRules_ok (m : Mach) (hm : vMach m = true) : Does Tryz.prog 245 [.agg (maC m)] [] (.one (.gv 0)) [roI (freeL m)] := by
  have hl := vMach_len hm
  refine does_of (k := 0) Tryz.func245 rfl Tryz.ntmps245 rfl rfl fun w F0 S0 ρ0 => ?_
  dsimp only [argT, argH]
  repeat' first | (apply n3; exact a_nilO eI rfl; exact rfl) | (apply n3; (first | exact a_new (gb := .bx _) rfl | exact a_litE eI [] rfl rfl rfl rfl rfl rfl rfl rfl | exact a_litE eI [_] rfl rfl rfl rfl rfl rfl rfl rfl | exact a_appN (fP rfl) rfl rfl rfl nowR (by first | omega | (simp; omega)) (by decide) (by exact rfl)); exact rfl; refine dA ?_) | (apply p3; (first | exact pu1 | exact puL | exact puN | exact a_len_str rfl (fT rfl) | exact puC | exact a_add rfl rfl (by omega) (by omega) | exact puI); exact rfl) | refine cd ?_ | (apply s3; exact a_appE (fP rfl) rfl rfl rfl rfl nowR (by first | omega | (simp; omega)) (by decide) (by decide) (by exact rfl); exact rfl; exact rfl) | (apply w3; (first | exact a_st_bx rfl rfl rfl rfl (fN rfl rfl) (Nat.le_of_ble_eq_true rfl) rfl | exact a_stE (E := eR) ⟨_, _, _⟩ rfl rfl rfl rfl (fN rfl rfl) bnd (by exact rfl)); exact rfl; refine dS ?_) | (apply c4 0; exact callK1 (θ := []) (hD := (isRule_ok _)); exact rfl; exact rfl; exact rfl; refine dM ?_) | ((first | refine o_gs rfl rfl (fun hc => ?_) (fun hc => ?_) | refine g_cond rfl (fun hc => ?_) (fun hc => ?_)) <;> (try simp only [dcB] at hc) <;> (try first | contradiction | (exfalso; omega)))
  refine g_loop_id ?_
  refine loopK [2, 3, 8, 9] [2] (fun y : Int × List Int => 0 ≤ y.1 ∧ y.1 ≤ m.ru.length ∧ y.2 = frF m y.1.toNat) (fun y => [(10, .one (int y.1))]) (fun y => [(2, roI y.2)]) (fun y => (m.ru.length - y.1).toNat) ((0 : Int), ([] : List Int)) [0, 1, 2] (hI := ?_) (hr := ?_)
  · exact ⟨by simp, by simp, rfl⟩
  · rintro ⟨i, out⟩ ⟨h0, h1, h2⟩
    dsimp only [List.cons_append, List.nil_append] at *
    skip
    repeat' first | (apply p3; (first | exact pu1 | exact puC); exact rfl) | refine cdn ?_ | refine g_reg (id := 3) ?_ | refine g_reg (id := 8) ?_ | ((first | refine o_gs rfl rfl (fun hc => ?_) (fun hc => ?_) | refine g_cond rfl (fun hc => ?_) (fun hc => ?_)) <;> (try simp only [dcB] at hc) <;> (try first | contradiction | (exfalso; omega)))
    · have hg := ruI_get (m := m) (i := i) (by omega)
      have ho := frF_len m i.toNat
      rw [← h2] at ho
      repeat' first | (apply n3; exact a_new (gb := .bx _) rfl; exact rfl; refine dA ?_) | (apply p3; (first | exact pu1 | exact puL | exact puC | exact puI); exact rfl) | refine cdn ?_ | refine g_reg (id := 3) ?_ | refine g_reg (id := 4) ?_ | refine g_reg (id := 8) ?_ | (apply w3; (first | exact a_st_bx rfl rfl rfl rfl (fN rfl rfl) (Nat.le_of_ble_eq_true rfl) rfl | exact a_stE (E := eR) ⟨_, _, _⟩ rfl rfl rfl rfl (fN rfl rfl) bnd (by exact rfl)); exact rfl; refine dS ?_) | ((first | refine o_gs rfl rfl (fun hc => ?_) (fun hc => ?_) | refine g_cond rfl (fun hc => ?_) (fun hc => ?_)) <;> (try simp only [dcB] at hc) <;> (try first | contradiction | (exfalso; omega)))
      simp only [hg]
      by_cases hn : ruI m i = noR
      · have hn2 : ¬ ¬ ruI m i = ⟨0, 0, -1⟩ := fun h => h hn
        repeat' first | (apply n3; (first | exact a_new (gb := .bx _) rfl | exact a_litE eI [_] rfl rfl rfl rfl rfl rfl rfl rfl | exact a_appN (fP rfl) rfl rfl rfl nowR (by first | omega | (simp; omega)) (by decide) (by exact rfl)); exact rfl; refine dA ?_) | (apply p3; (first | exact pu1 | exact puL | exact puC | exact a_add rfl rfl (by omega) (by omega) | exact puI); exact rfl) | refine cd ?_ | (apply s3; exact a_appE (fP rfl) rfl rfl rfl rfl nowR (by first | omega | (simp; omega)) (by decide) (by decide) (by exact rfl); exact rfl; exact rfl) | (apply w3; (first | exact a_st_bx rfl rfl rfl rfl (fN rfl rfl) (Nat.le_of_ble_eq_true rfl) rfl | exact a_stE (E := eR) ⟨_, _, _⟩ rfl rfl rfl rfl (fN rfl rfl) bnd (by exact rfl)); exact rfl; refine dS ?_) | (apply c4 0; exact callK1 (θ := []) (hD := (isRule_ok _)); exact rfl; exact rfl; exact rfl; refine dM ?_) | ((first | refine o_gs rfl rfl (fun hc => ?_) (fun hc => ?_) | refine g_cond rfl (fun hc => ?_) (fun hc => ?_)) <;> (try simp only [dcB] at hc) <;> (try first | contradiction | (exfalso; omega)))
        refine q_again (i + 1, _) [0, 1, 5] (by exact stk) ?_ ?_
        · refine ⟨by dsimp only; omega, by dsimp only; omega, ?_⟩
          dsimp only
          rw [frF_yes h0 hn, h2]
        · dsimp only; omega
      · have hn2 : ¬ ruI m i = ⟨0, 0, -1⟩ := hn
        repeat' first | (apply n3; (first | exact a_new (gb := .bx _) rfl | exact a_litE eI [_] rfl rfl rfl rfl rfl rfl rfl rfl | exact a_appN (fP rfl) rfl rfl rfl nowR (by first | omega | (simp; omega)) (by decide) (by exact rfl)); exact rfl; refine dA ?_) | (apply p3; (first | exact pu1 | exact puL | exact puC | exact a_add rfl rfl (by omega) (by omega) | exact puI); exact rfl) | refine cd ?_ | (apply s3; exact a_appE (fP rfl) rfl rfl rfl rfl nowR (by first | omega | (simp; omega)) (by decide) (by decide) (by exact rfl); exact rfl; exact rfl) | (apply w3; (first | exact a_st_bx rfl rfl rfl rfl (fN rfl rfl) (Nat.le_of_ble_eq_true rfl) rfl | exact a_stE (E := eR) ⟨_, _, _⟩ rfl rfl rfl rfl (fN rfl rfl) bnd (by exact rfl)); exact rfl; refine dS ?_) | (apply c4 0; exact callK1 (θ := []) (hD := (isRule_ok _)); exact rfl; exact rfl; exact rfl; refine dM ?_) | ((first | refine o_gs rfl rfl (fun hc => ?_) (fun hc => ?_) | refine g_cond rfl (fun hc => ?_) (fun hc => ?_)) <;> (try simp only [dcB] at hc) <;> (try first | contradiction | (exfalso; omega)))
        refine q_again (i + 1, out) [0, 1, 2] (by exact stk) ?_ ?_
        · refine ⟨by dsimp only; omega, by dsimp only; omega, ?_⟩
          dsimp only
          rw [frF_no h0 hn, h2]
        · dsimp only; omega
    · have hi : i.toNat = m.ru.length := by omega
      have e : freeL m = out := by unfold freeL; rw [h2, hi]
      rw [e]
      repeat' first | (apply n3; (first | exact a_new (gb := .bx _) rfl | exact a_litE eI [_] rfl rfl rfl rfl rfl rfl rfl rfl | exact a_appN (fP rfl) rfl rfl rfl nowR (by first | omega | (simp; omega)) (by decide) (by exact rfl)); exact rfl; refine dA ?_) | (apply p3; (first | exact pu1 | exact puL | exact puC | exact a_add rfl rfl (by omega) (by omega) | exact puI); exact rfl) | refine cd ?_ | (apply s3; exact a_appE (fP rfl) rfl rfl rfl rfl nowR (by first | omega | (simp; omega)) (by decide) (by decide) (by exact rfl); exact rfl; exact rfl) | (apply w3; (first | exact a_st_bx rfl rfl rfl rfl (fN rfl rfl) (Nat.le_of_ble_eq_true rfl) rfl | exact a_stE (E := eR) ⟨_, _, _⟩ rfl rfl rfl rfl (fN rfl rfl) bnd (by exact rfl)); exact rfl; refine dS ?_) | (apply c4 0; exact callK1 (θ := []) (hD := (isRule_ok _)); exact rfl; exact rfl; exact rfl; refine dM ?_) | ((first | refine o_gs rfl rfl (fun hc => ?_) (fun hc => ?_) | refine g_cond rfl (fun hc => ?_) (fun hc => ?_)) <;> (try simp only [dcB] at hc) <;> (try first | contradiction | (exfalso; omega)))
      repeat refine cr ?_
      refine ends_id ?_
      refine endK [?_] (h2 := ?_) (h3 := ?_) (nd := ?_)
      rotate_left 1
      all_goals (repeat' first | exact ce0 | refine ce ?_ | refine ce2 ?_ ?_ | (refine Or.inr (bx_eq rfl rfl ?_); (try dsimp only [C.ren, C.ren.all]); (try exact rfl)) | exact SVLe.refl | refine ceb ?_)
      all_goals first | exact (show nodupB _ = true from rfl) | exact Or.inr rfl | (rfl)
theorem haltP_map (m : Mach) : haltP m = (freeL m).map fun k => (⟨k / m.sy, 0, [k % m.sy]⟩ : Part) := by
  unfold haltP freeL
  exact haF_map m _
theorem freeL_bd {m : Mach} (hm : vMach m = true) : ((freeL m).length : Int) ≤ 6000 ∧ ∀ k ∈ freeL m, 0 ≤ k ∧ k < 6000 := by
  have hl := vMach_len hm
  unfold freeL
  refine ⟨by have := frF_len m m.ru.length; omega, fun k hk => ?_⟩
  have := frF_bd m _ k hk
  omega
theorem map_next {α β : Type} (f : α → β) {l : List α} {i : Int} (h0 : 0 ≤ i) (h : i.toNat < l.length) : (l.map f).take (i + 1).toNat = (l.map f).take i.toNat ++ [f l[i.toNat]] := by
  rw [show (i + 1).toNat = i.toNat + 1 by omega, List.take_succ_eq_append_getElem (by simpa using h)]
  simp
theorem haltingPartials_ok (m : Mach) (hm : vMach m = true) : Does Tryz.prog 209 [.agg (maC m)] [] (.one (shPa (haltP m))) [] := by
  have hb := vMach_bd hm
  have hf := freeL_bd hm
  have hf1 := hf.1
  refine does_of (k := 0) Tryz.func209 rfl Tryz.ntmps209 rfl rfl fun w F0 S0 ρ0 => ?_
  dsimp only [argT, argH]
  repeat' first | (apply n3; (first | exact a_new (gb := .bx _) rfl | exact a_litE eP [] rfl rfl rfl rfl rfl rfl rfl rfl); exact rfl; refine dA ?_) | (apply p3; (first | exact pu1 | exact puL | exact puN | exact a_len_str rfl (fT rfl) | exact puC | exact a_add rfl rfl (by omega) (by omega) | exact puI); exact rfl) | refine cd ?_ | (apply c4 1; exact callK1 (θ := []) (hD := (freeRules_ok _ preB70)); exact rfl; exact rfl; exact rfl; refine dM ?_) | (apply g_drN (id := 5) okM [[],[],[],[2],[1,2,3],[],[],[6],[5,6,7],[5,6,7,8],[1,2,3,4,5,6,7,8,9],[1,2,3,4,5,6,7,8,9,10],[0,1,2,3,4,5,6,7,8,9,10,11],[0,1,2,3,4,5,6,7,8,9,10,11,12]] [([],[]),([],[]),([],[]),([],[]),([],[]),([],[]),([],[]),([],[]),([],[]),([],[]),([],[]),([0],[]),([1],[_]),([],[])] 2; (focus (refine dp 0 0 [15, 16, 17, 18, 19, 20, 21, 22, 23, 24, 25] [(true, 0)] pu1 ?_; refine dp 1 0 [14, 16, 17, 19, 20, 21, 22, 23] [] pu1 ?_; refine dp 2 0 [14, 15, 19, 20, 21, 22, 23] [] (a_pure (sv := .one _) rfl) ?_; refine dp 3 1 [14, 15, 19, 20, 21, 22, 23] [] puL ?_; refine dp 4 7 [14, 19, 20, 21, 22, 23] [] (a_quo rfl rfl (by omega) (by omega) (by omega)) ?_; refine dp 5 0 [14, 15, 16, 17, 18, 20, 21] [] pu1 ?_; refine dp 6 0 [14, 15, 16, 17, 18, 19] [] (a_pure (sv := .one _) rfl) ?_; refine dp 7 1 [14, 15, 16, 17, 18, 19] [] puL ?_; refine dp 8 7 [14, 15, 16, 17, 18] [] (a_rem rfl rfl (by omega) (by omega) (by omega)) ?_; refine dp 9 15 [14, 15, 16, 17, 18] [] (a_litF (dst := some 23) eI [_] rfl rfl rfl rfl rfl rfl rfl rfl nowR) ?_; refine dp 10 511 [14] [] (a_pure (sv := .agg _) rfl) ?_; refine duE 11 1023 [14] [] (atN 0 (fun _ => a_litE eP [⟨_, _, _⟩] rfl rfl rfl rfl rfl rfl rfl rfl)) (by exact rfl) (by exact rfl) ?_; refine duE 12 4095 [] [] (atS 1 (fun _ hj => a_appE (fP rfl) rfl rfl rfl rfl nowR (by first | omega | (simp; omega)) (by decide) hj (by exact rfl)) (by decide)) (by exact rfl) (by exact rfl) ?_; refine dp 13 8191 [] [] pu1 ?_; (refine d_nil ?_; refine dN ?_))); any_goals kernel_rfl) | ((first | refine o_gs rfl rfl (fun hc => ?_) (fun hc => ?_) | refine g_cond rfl (fun hc => ?_) (fun hc => ?_)) <;> (try simp only [dcB] at hc) <;> (try first | contradiction | (exfalso; omega)))
  refine g_loop_id ?_
  refine loopK [1, 2, 3, 8, 9] [1] (fun y : Int × List Part => 0 ≤ y.1 ∧ y.1 ≤ (freeL m).length ∧ y.2 = (haltP m).take y.1.toNat) (fun y => [(10, .one (int y.1))]) (fun y => [(1, roPa y.2)]) (fun y => ((freeL m).length - y.1).toNat) ((0 : Int), ([] : List Part)) [0, 1, 2] (hI := ?_) (hr := ?_)
  · exact ⟨by simp, by simp, by simp⟩
  · rintro ⟨i, out⟩ ⟨h0, h1, h2⟩
    dsimp only [List.cons_append, List.nil_append] at *
    skip
    repeat' first | (apply p3; (first | exact pu1 | exact puC); exact rfl) | refine cdn ?_ | refine g_reg (id := 3) ?_ | ((first | refine o_gs rfl rfl (fun hc => ?_) (fun hc => ?_) | refine g_cond rfl (fun hc => ?_) (fun hc => ?_)) <;> (try simp only [dcB] at hc) <;> (try first | contradiction | (exfalso; omega)))
    · have hk := hf.2 _ (List.getElem_mem (show i.toNat < (freeL m).length by omega))
      have ho := congrArg List.length h2
      rw [List.length_take] at ho
      have hx := map_next (fun k => (⟨k / m.sy, 0, [k % m.sy]⟩ : Part)) h0 (show i.toNat < (freeL m).length by omega)
      rw [← haltP_map, ← h2] at hx
      try dsimp only at hx
      repeat' first | (apply p3; (first | exact pu1 | exact puL | exact puC | exact puI); exact rfl) | refine cdn ?_ | refine g_reg (id := 3) ?_ | refine g_reg (id := 4) ?_ | refine g_reg (id := 7) ?_ | ((first | refine o_gs rfl rfl (fun hc => ?_) (fun hc => ?_) | refine g_cond rfl (fun hc => ?_) (fun hc => ?_)) <;> (try simp only [dcB] at hc) <;> (try first | contradiction | (exfalso; omega)))
      generalize (freeL m)[i.toNat] = k at *
      have hd : -100000000 ≤ k / m.sy ∧ k / m.sy ≤ 100000000 := by
        have a1 := Int.ediv_nonneg hk.1 (show 0 ≤ m.sy by omega)
        have a2 := Int.ediv_le_self m.sy hk.1
        omega
      have ht : -100000000 ≤ k % m.sy ∧ k % m.sy ≤ 100000000 := by
        have a1 := Int.emod_nonneg k (show m.sy ≠ 0 by omega)
        have a2 := Int.emod_lt_of_pos k (show 0 < m.sy by omega)
        omega
      repeat' first | (apply p3; (first | exact pu1 | exact puL | exact puC | exact a_add rfl rfl (by omega) (by omega) | exact puI); exact rfl) | refine cd ?_ | (apply g_drN (id := 5) okM [[],[],[],[2],[1,2,3],[],[],[6],[5,6,7],[5,6,7,8],[1,2,3,4,5,6,7,8,9],[1,2,3,4,5,6,7,8,9,10],[0,1,2,3,4,5,6,7,8,9,10,11],[0,1,2,3,4,5,6,7,8,9,10,11,12]] [([],[]),([],[]),([],[]),([],[]),([],[]),([],[]),([],[]),([],[]),([],[]),([],[]),([],[]),([0],[]),([1],[_]),([],[])] 2; (focus (refine dp 0 0 [15, 16, 17, 18, 19, 20, 21, 22, 23, 24, 25] [(true, 0)] pu1 ?_; refine dp 1 0 [14, 16, 17, 19, 20, 21, 22, 23] [] pu1 ?_; refine dp 2 0 [14, 15, 19, 20, 21, 22, 23] [] (a_pure (sv := .one _) rfl) ?_; refine dp 3 1 [14, 15, 19, 20, 21, 22, 23] [] puL ?_; refine dp 4 7 [14, 19, 20, 21, 22, 23] [] (a_quo rfl rfl (by omega) (by omega) (by omega)) ?_; refine dp 5 0 [14, 15, 16, 17, 18, 20, 21] [] pu1 ?_; refine dp 6 0 [14, 15, 16, 17, 18, 19] [] (a_pure (sv := .one _) rfl) ?_; refine dp 7 1 [14, 15, 16, 17, 18, 19] [] puL ?_; refine dp 8 7 [14, 15, 16, 17, 18] [] (a_rem rfl rfl (by omega) (by omega) (by omega)) ?_; refine dp 9 15 [14, 15, 16, 17, 18] [] (a_litF (dst := some 23) eI [_] rfl rfl rfl rfl rfl rfl rfl rfl nowR) ?_; refine dp 10 511 [14] [] (a_pure (sv := .agg _) rfl) ?_; refine duE 11 1023 [14] [] (atN 0 (fun _ => a_litE eP [⟨_, _, _⟩] rfl rfl rfl rfl rfl rfl rfl rfl)) (by exact rfl) (by exact rfl) ?_; refine duE 12 4095 [] [] (atS 1 (fun _ hj => a_appE (fP rfl) rfl rfl rfl rfl nowR (by first | omega | (simp; omega)) (by decide) hj (by exact rfl)) (by decide)) (by exact rfl) (by exact rfl) ?_; refine dp 13 8191 [] [] pu1 ?_; (refine d_nil ?_; refine dN ?_))); any_goals kernel_rfl) | ((first | refine o_gs rfl rfl (fun hc => ?_) (fun hc => ?_) | refine g_cond rfl (fun hc => ?_) (fun hc => ?_)) <;> (try simp only [dcB] at hc) <;> (try first | contradiction | (exfalso; omega)))
      refine q_again (i + 1, _) [0, 4, 2] (by exact stk) ?_ ?_
      · exact ⟨by dsimp only; omega, by dsimp only; omega, hx.symm⟩
      · dsimp only; omega
    · rw [List.take_of_length_le (by rw [haltP_map, List.length_map]; omega)] at h2
      rw [← h2]
      repeat' first | (apply p3; (first | exact pu1 | exact puL | exact puC | exact a_add rfl rfl (by omega) (by omega) | exact puI); exact rfl) | refine cd ?_ | (apply g_drN (id := 5) okM [[],[],[],[2],[1,2,3],[],[],[6],[5,6,7],[5,6,7,8],[1,2,3,4,5,6,7,8,9],[1,2,3,4,5,6,7,8,9,10],[0,1,2,3,4,5,6,7,8,9,10,11],[0,1,2,3,4,5,6,7,8,9,10,11,12]] [([],[]),([],[]),([],[]),([],[]),([],[]),([],[]),([],[]),([],[]),([],[]),([],[]),([],[]),([0],[]),([1],[_]),([],[])] 2; (focus (refine dp 0 0 [15, 16, 17, 18, 19, 20, 21, 22, 23, 24, 25] [(true, 0)] pu1 ?_; refine dp 1 0 [14, 16, 17, 19, 20, 21, 22, 23] [] pu1 ?_; refine dp 2 0 [14, 15, 19, 20, 21, 22, 23] [] (a_pure (sv := .one _) rfl) ?_; refine dp 3 1 [14, 15, 19, 20, 21, 22, 23] [] puL ?_; refine dp 4 7 [14, 19, 20, 21, 22, 23] [] (a_quo rfl rfl (by omega) (by omega) (by omega)) ?_; refine dp 5 0 [14, 15, 16, 17, 18, 20, 21] [] pu1 ?_; refine dp 6 0 [14, 15, 16, 17, 18, 19] [] (a_pure (sv := .one _) rfl) ?_; refine dp 7 1 [14, 15, 16, 17, 18, 19] [] puL ?_; refine dp 8 7 [14, 15, 16, 17, 18] [] (a_rem rfl rfl (by omega) (by omega) (by omega)) ?_; refine dp 9 15 [14, 15, 16, 17, 18] [] (a_litF (dst := some 23) eI [_] rfl rfl rfl rfl rfl rfl rfl rfl nowR) ?_; refine dp 10 511 [14] [] (a_pure (sv := .agg _) rfl) ?_; refine duE 11 1023 [14] [] (atN 0 (fun _ => a_litE eP [⟨_, _, _⟩] rfl rfl rfl rfl rfl rfl rfl rfl)) (by exact rfl) (by exact rfl) ?_; refine duE 12 4095 [] [] (atS 1 (fun _ hj => a_appE (fP rfl) rfl rfl rfl rfl nowR (by first | omega | (simp; omega)) (by decide) hj (by exact rfl)) (by decide)) (by exact rfl) (by exact rfl) ?_; refine dp 13 8191 [] [] pu1 ?_; (refine d_nil ?_; refine dN ?_))); any_goals kernel_rfl) | ((first | refine o_gs rfl rfl (fun hc => ?_) (fun hc => ?_) | refine g_cond rfl (fun hc => ?_) (fun hc => ?_)) <;> (try simp only [dcB] at hc) <;> (try first | contradiction | (exfalso; omega)))
      refine g_turn (t_freeze (i := 1) rfl nowR) ?_
      repeat refine cr ?_
      refine ends_id ?_
      refine endK [] (h2 := ?_) (h3 := ?_) (nd := ?_)
      all_goals (repeat' first | exact ce0 | refine ce ?_ | refine ce2 ?_ ?_ | exact SVLe.refl | refine ceb ?_)
      all_goals first | exact (show nodupB _ = true from rfl) | exact Or.inr rfl | (rfl)
end Go.Proofs.YtbekdojhcokalaaGreatDoor
end
section
set_option linter.unusedVariables false
set_option linter.unusedSimpArgs false
set_option maxRecDepth 100000
set_option maxHeartbeats 4000000
namespace Go.Proofs.YtbekdojhcokalaaGreatDoor
open Go Foot
theorem preB71 {p : Prop} (h : p := by first | with_reducible assumption | omega | (simp only [List.length_append, List.length_cons, List.length_nil, List.length_set, List.length_replicate, List.length_take, List.length_drop, List.length_tail, List.length_dropLast, List.length_reverse] at *; omega) | exact mem_len (by assumption) (by omega) | (with_reducible refine Int.le_trans (Int.ofNat_le.2 (trimR_len _)) ?_; simp only [List.length_cons, List.length_tail]; omega) | (exact (ruAt_ok (by assumption) (by assumption) (by assumption)).2.1) | (exact (ruAt_ok (by assumption) (by assumption) (by assumption)).2.1) | (have := vMach_bd (by assumption); omega) | (simp only [mC_ch, mC_tu]; omega) | (have := vTag_bd (by assumption); omega) | (have := (‹Gd _ _›).le; omega) | (exact tgHalts_no (by assumption)) | (exact tgHead (by assumption) (by assumption) (by assumption)) | (exact Int.le_trans (tgStep_gd (by assumption) (by assumption) (by assumption) (by assumption)).le (by decide)) | (exact vTag_r (by assumption)) | (with_reducible refine Int.le_trans (Int.ofNat_le.2 (pushL_len _ _)) ?_; simp only [List.length_dropLast]; omega) | exact ls_at (by assumption) (by omega) | exact pt_gd (by assumption) | exact lv_at (by assumption) (by omega) | exact pt_gd (lv_at (by assumption) (by omega)) | exact (ask_ok (by assumption)).1 | exact (ask_ok (by assumption)).2.1 | exact (ask_ok (by assumption)).2.2.1 | exact (ask_ok (by assumption)).2.2.2 | trivial) : p := h
theorem predecessor_ok (m : Mach) (x : Part) (i : Int) (hm : vMach m = true) (gx : PtGd x) (h0 : 0 ≤ i) (h1 : i < m.ru.length) (hn : ¬ ruI m i = noR) : Does Tryz.prog 164 [.agg (paC x), .one (int (i / m.sy)), .one (int (i % m.sy)), .agg (ruC (ruI m i))] [] (.tup [(true, paC ((befP m x i).getD part0)), (false, [boo (befP m x i).isSome])]) [] := by
  obtain ⟨g1, g2, g3⟩ := gx
  have hb := vMach_bd hm
  have hk := ruI_ok hm h0 h1 hn
  have e1 : (ruI m i).n ≠ x.st → befP m x i = none := fun h => by unfold befP; rw [if_pos (.inr h)]
  have eb : (ruI m i).n = x.st → befP m x i = if (wid x (x.pl - (ruI m i).m) (ruI m i).w).1.getD (wid x (x.pl - (ruI m i).m) (ruI m i).w).2.toNat 0 ≠ (ruI m i).w then none else some ⟨i / m.sy, (wid x (x.pl - (ruI m i).m) (ruI m i).w).2, (wid x (x.pl - (ruI m i).m) (ruI m i).w).1.set (wid x (x.pl - (ruI m i).m) (ruI m i).w).2.toNat (i % m.sy)⟩ := fun q2 => by unfold befP; rw [if_neg (by rintro (q | q); exact hn q; exact q q2)]
  generalize ruI m i = r at *
  generalize i / m.sy = p at *
  generalize i % m.sy = a at *
  have j1 : JnOk [[a], x.ce] := jn_two (by simp; omega)
  have j2 : JnOk [x.ce, [a]] := jn_two (by simp; omega)
  refine does_of (k := 0) Tryz.func164 rfl Tryz.ntmps164 rfl rfl fun w F0 S0 ρ0 => ?_
  dsimp only [argT, argH]
  repeat' first | (apply p3; exact a_litF (dst := some 29) eI [_] rfl rfl rfl rfl rfl rfl rfl rfl nowR; exact rfl) | (apply p3; exact a_litF (dst := some 32) eW [_, _] rfl rfl rfl rfl rfl rfl rfl rfl nowR; exact rfl) | (apply p3; exact a_litF (dst := some 46) eI [_] rfl rfl rfl rfl rfl rfl rfl rfl nowR; exact rfl) | (apply p3; exact a_litF (dst := some 47) eW [_, _] rfl rfl rfl rfl rfl rfl rfl rfl nowR; exact rfl) | (apply n3; exact a_new (gb := .bx _) rfl; exact rfl; refine dA ?_) | (apply p3; (first | exact pu1 | exact puL | exact a_sub rfl rfl (by omega) (by omega) | exact a_ne rfl rfl | exact a_neS rfl rfl rfl | exact puC | exact a_eqS rfl rfl rfl | exact puI); exact rfl) | refine cd ?_ | (apply w3; (first | exact a_st_bx rfl rfl rfl rfl (fN rfl rfl) (Nat.le_of_ble_eq_true rfl) rfl | exact a_stE (E := eP) ⟨_, _, _⟩ rfl rfl rfl rfl (fN rfl rfl) bnd (by exact rfl) | exact a_st_rowI rfl rfl rfl rfl (fN rfl rfl) bnd | exact a_stE (E := eI) _ rfl rfl rfl rfl (fN rfl rfl) bnd (by exact rfl)); exact rfl; refine dS ?_) | (apply c4 1; exact callK1 (θ := []) (hD := (joined_ok _ preB71)); exact rfl; exact rfl; exact rfl; refine dM ?_) | (apply c4 0; exact callK1 (θ := []) (hD := (sizeI_ok _ preB71)); exact rfl; exact rfl; exact rfl; refine dM ?_) | (apply c4 1; exact callK1 (θ := []) (hD := (clone_ok _ preB71)); exact rfl; exact rfl; exact rfl; refine dM ?_) | (apply g_drN (id := 8) okM [[],[0],[],[0,1,2],[0,1,2,3],[],[5],[0,1,2,3,4,5,6],[0,1,2,3,4,5,6,7]] [([],[]),([],[]),([],[]),([],[]),([],[]),([],[]),([],[]),([],[]),([],[])] 0; (focus (refine dp 0 0 [53, 56, 57] [] (a_pure (sv := .one _) rfl) ?_; refine dp 1 1 [53, 56, 57] [] puL ?_; refine dp 2 0 [51, 52, 56, 57] [] pu1 ?_; refine dp 3 7 [56, 57] [] puI ?_; refine dp 4 15 [56, 57] [] puL ?_; refine dp 5 0 [51, 52, 53, 54, 55] [] (a_pure (sv := .one _) rfl) ?_; refine dp 6 1 [51, 52, 53, 54, 55] [] puL ?_; refine dp 7 127 [] [] (by first | exact a_ne rfl rfl | exact a_neS rfl rfl rfl) ?_; refine dp 8 255 [] [] pu1 ?_; (refine d_nil ?_; refine dN ?_))); any_goals kernel_rfl) | ((first | refine o_gs rfl rfl (fun hc => ?_) (fun hc => ?_) | refine g_cond rfl (fun hc => ?_) (fun hc => ?_)) <;> (try simp only [dcB] at hc) <;> (try first | contradiction | (exfalso; omega)))
  · rw [e1 (by assumption)]
    repeat refine cr ?_
    refine ends_id ?_
    refine endK [] (h2 := ?_) (h3 := ?_) (nd := ?_)
    all_goals (repeat' first | exact ce0 | refine ce ?_ | refine ce2 ?_ ?_ | exact SVLe.refl | refine ceb ?_)
    all_goals first | exact (show nodupB _ = true from rfl) | exact Or.inr rfl | (rfl)
  · have e : befP m x i = some ⟨p, 0, a :: x.ce⟩ := by
      rw [eb (by assumption), wid_l (by assumption)]
      exact if_neg (by simp)
    rw [e, show ([[a], x.ce] : List (List Int)).flatten = a :: x.ce by simp]
    refine g_turn (t_freeze (i := 3) rfl nowR) ?_
    repeat refine cr ?_
    refine ends_id ?_
    refine endK [] (h2 := ?_) (h3 := ?_) (nd := ?_)
    all_goals (repeat' first | exact ce0 | refine ce ?_ | refine ce2 ?_ ?_ | exact SVLe.refl | refine ceb ?_)
    all_goals first | exact (show nodupB _ = true from rfl) | exact Or.inr rfl | (rfl)
  · have e : befP m x i = some ⟨p, x.pl - r.m, x.ce ++ [a]⟩ := by
      rw [eb (by assumption), wid_r (by assumption) (by assumption)]
      have hl : (x.pl - r.m).toNat = x.ce.length := by omega
      refine (if_neg ?_).trans ?_
      · dsimp only
        rw [getD_get (by simp; omega)]
        simp [hl]
      · dsimp only
        rw [hl, List.set_append_right _ _ (Nat.le_refl _)]
        simp
    rw [e, show ([x.ce, [a]] : List (List Int)).flatten = x.ce ++ [a] by simp]
    refine g_turn (t_freeze (i := 3) rfl nowR) ?_
    repeat refine cr ?_
    refine ends_id ?_
    refine endK [] (h2 := ?_) (h3 := ?_) (nd := ?_)
    all_goals (repeat' first | exact ce0 | refine ce ?_ | refine ce2 ?_ ?_ | exact SVLe.refl | refine ceb ?_)
    all_goals first | exact (show nodupB _ = true from rfl) | exact Or.inr rfl | (rfl)
  · have e : befP m x i = none := by
      rw [eb (by assumption), wid_m (by assumption) (by assumption)]
      have hlt : (x.pl - r.m).toNat < x.ce.length := by rcases hk.2.1 with q | q <;> omega
      exact if_pos (by rw [getD_get hlt]; exact hc)
    rw [e]
    repeat refine cr ?_
    refine ends_id ?_
    refine endK [] (h2 := ?_) (h3 := ?_) (nd := ?_)
    all_goals (repeat' first | exact ce0 | refine ce ?_ | refine ce2 ?_ ?_ | exact SVLe.refl | refine ceb ?_)
    all_goals first | exact (show nodupB _ = true from rfl) | exact Or.inr rfl | (rfl)
  · have e : befP m x i = some ⟨p, x.pl - r.m, x.ce.set (x.pl - r.m).toNat a⟩ := by
      rw [eb (by assumption), wid_m (by assumption) (by assumption)]
      have hlt : (x.pl - r.m).toNat < x.ce.length := by rcases hk.2.1 with q | q <;> omega
      exact if_neg (by rw [getD_get hlt]; exact fun h => h hc)
    rw [e]
    refine g_turn (t_freeze (i := 3) rfl nowR) ?_
    repeat refine cr ?_
    refine ends_id ?_
    refine endK [] (h2 := ?_) (h3 := ?_) (nd := ?_)
    all_goals (repeat' first | exact ce0 | refine ce ?_ | refine ce2 ?_ ?_ | exact SVLe.refl | refine ceb ?_)
    all_goals first | exact (show nodupB _ = true from rfl) | exact Or.inr rfl | (rfl)
theorem predecessors_ok (m : Mach) (x : Part) (hm : vMach m = true) (g : PtOk m x) : Does Tryz.prog 104 [.agg (maC m), .agg (paC x)] [] (.tup [(false, [shPa ((prds m x).getD [])]), (false, [int (if (prds m x).isSome = true then 0 else 5)])]) [] := by
  have hl := vMach_len hm
  have hb := vMach_bd hm
  refine does_of (k := 0) Tryz.func104 rfl Tryz.ntmps104 rfl rfl fun w F0 S0 ρ0 => ?_
  dsimp only [argT, argH]
  repeat' first | (apply n3; (first | exact a_new (gb := .bx _) rfl | exact a_litE eP [] rfl rfl rfl rfl rfl rfl rfl rfl | exact a_litE eP [⟨_, _, _⟩] rfl rfl rfl rfl rfl rfl rfl rfl | exact a_appN (fP rfl) rfl rfl rfl nowR (by first | omega | (simp; omega)) (by decide) (by exact rfl)); exact rfl; refine dA ?_) | (apply p3; (first | exact pu1 | exact puL | exact puN | exact a_len_str rfl (fT rfl) | exact puC | exact a_add rfl rfl (by omega) (by omega) | exact puI); exact rfl) | refine cd ?_ | (apply s3; exact a_appE (fP rfl) rfl rfl rfl rfl nowR (by first | omega | (simp; omega)) (by decide) (by decide) (by exact rfl); exact rfl; exact rfl) | (apply w3; (first | exact a_st_bx rfl rfl rfl rfl (fN rfl rfl) (Nat.le_of_ble_eq_true rfl) rfl | exact a_stE (E := eR) ⟨_, _, _⟩ rfl rfl rfl rfl (fN rfl rfl) bnd (by exact rfl)); exact rfl; refine dS ?_) | (apply c4 0; exact callK1 (θ := []) (hD := (isRule_ok _)); exact rfl; exact rfl; exact rfl; refine dM ?_) | (apply g_drN (id := 6) okM [[],[],[],[2],[1,2,3],[],[],[6],[5,6,7],[],[0,1,2,3,4,5,6,7,8,9],[0,1,2,3,4,5,6,7,8,9,10],[0,1,2,3,4,5,6,7,8,9,10,11],[0,1,2,3,4,5,6,7,8,9,10,11],[],[0,1,2,3,4,5,6,7,8,9,10,11,12,14],[0,1,2,3,4,5,6,7,8,9,10,11,12,13,14,15]] [([],[]),([],[]),([],[]),([],[]),([],[]),([],[]),([],[]),([],[]),([],[]),([],[]),([],[]),([],[]),([],[]),([],[]),([0],[]),([],[4]),([],[])] 1; (focus (refine dp 0 0 [25, 26, 27, 28, 29, 30, 31, 32, 33, 9] [(true, 0)] puL ?_; refine dp 1 0 [24, 26, 27, 29, 30, 31, 32, 33, 9] [(true, 0)] pu1 ?_; refine dp 2 0 [24, 25, 29, 30, 31, 32, 33, 9] [(true, 0)] (a_pure (sv := .one _) rfl) ?_; refine dp 3 1 [24, 25, 29, 30, 31, 32, 33, 9] [(true, 0)] puL ?_; refine dp 4 7 [24, 29, 30, 31, 32, 33, 9] [(true, 0)] (a_quo rfl rfl (by omega) (by omega) (by omega)) ?_; refine dp 5 0 [24, 25, 26, 27, 28, 30, 31, 33, 9] [(true, 0)] pu1 ?_; refine dp 6 0 [24, 25, 26, 27, 28, 29, 33, 9] [(true, 0)] (a_pure (sv := .one _) rfl) ?_; refine dp 7 1 [24, 25, 26, 27, 28, 29, 33, 9] [(true, 0)] puL ?_; refine dp 8 7 [24, 25, 26, 27, 28, 33, 9] [(true, 0)] (a_rem rfl rfl (by omega) (by omega) (by omega)) ?_; refine dp 9 0 [24, 25, 26, 27, 28, 29, 30, 31, 32, 9] [(true, 0)] puL ?_; refine dp 10 1023 [9] [(true, 0)] (callD0 (n := _) 0 (θ := []) (hD := (predecessor_ok _ _ _ preB71 preB71 preB71 preB71 preB71))) ?_; refine dp 11 2047 [9] [(true, 0)] pu1 ?_; refine dp 12 4095 [36, 9] [(true, 0)] pu2 ?_; refine dp 13 8190 [35, 9] [(true, 0), (false, 4)] pu2 ?_; refine duE 14 0 [24, 25, 26, 27, 28, 29, 30, 31, 32, 33, 34, 23, 35, 36] [] (atN 0 (fun _ => a_new (gb := .bx _) rfl)) (by exact rfl) (by exact rfl) ?_; refine duE 15 32765 [36] [] (by first | exact a_st_bx rfl rfl rfl rfl (fN rfl rfl) (Nat.le_of_ble_eq_true rfl) rfl | exact a_stF (E := eR) ⟨_, _, _⟩ rfl rfl rfl rfl (fN rfl rfl) (Nat.le_of_ble_eq_true rfl) (Nat.le_of_ble_eq_true rfl) (by first | exact List.getElem?_set_self bnd | exact List.getElem?_eq_getElem bnd) (by (try dsimp only [setRow, List.set_cons_succ, List.set_cons_zero]); first | done | exact rfl) rfl | exact a_stE (E := eP) ⟨_, _, _⟩ rfl rfl rfl rfl (fN rfl rfl) bnd (by exact rfl)) (by exact rfl) (by exact rfl) ?_; refine dp 16 65535 [] [] pu1 ?_; (refine d_nil ?_; refine dN ?_))); any_goals kernel_rfl) | ((first | refine o_gs rfl rfl (fun hc => ?_) (fun hc => ?_) | refine g_cond rfl (fun hc => ?_) (fun hc => ?_)) <;> (try simp only [dcB] at hc) <;> (try first | contradiction | (exfalso; omega)))
  refine g_loop_id ?_
  refine loopK [2, 3, 4, 5, 6, 13, 14] [2] (fun y : Int × List Part => 0 ≤ y.1 ∧ y.1 ≤ m.ru.length ∧ prdF m x y.1.toNat = some y.2) (fun y => [(15, .one (int y.1))]) (fun y => [(2, roPa y.2)]) (fun y => (m.ru.length - y.1).toNat) ((0 : Int), ([] : List Part)) [0, 1, 2] (hI := ?_) (hr := ?_)
  · exact ⟨by simp, by simp, rfl⟩
  · rintro ⟨i, out⟩ ⟨h0, h1, h2⟩
    dsimp only [List.cons_append, List.nil_append] at *
    skip
    repeat' first | (apply p3; (first | exact pu1 | exact puC); exact rfl) | refine cdn ?_ | refine g_reg (id := 3) ?_ | refine g_reg (id := 12) ?_ | ((first | refine o_gs rfl rfl (fun hc => ?_) (fun hc => ?_) | refine g_cond rfl (fun hc => ?_) (fun hc => ?_)) <;> (try simp only [dcB] at hc) <;> (try first | contradiction | (exfalso; omega)))
    · have ho := prdF_len h2
      have hn := prdF_next m x h0
      rw [h2] at hn
      dsimp only at hn
      have hg := ruI_get (m := m) (i := i) (by omega)
      have hi := idx_bd hm h0 hc
      have hq := hc
      repeat' first | (apply n3; exact a_new (gb := .bx _) rfl; exact rfl; refine dA ?_) | (apply p3; (first | exact pu1 | exact puL | exact puC | exact puI); exact rfl) | refine cdn ?_ | refine g_reg (id := 3) ?_ | refine g_reg (id := 4) ?_ | refine g_reg (id := 12) ?_ | (apply w3; (first | exact a_st_bx rfl rfl rfl rfl (fN rfl rfl) (Nat.le_of_ble_eq_true rfl) rfl | exact a_stE (E := eR) ⟨_, _, _⟩ rfl rfl rfl rfl (fN rfl rfl) bnd (by exact rfl)); exact rfl; refine dS ?_) | ((first | refine o_gs rfl rfl (fun hc => ?_) (fun hc => ?_) | refine g_cond rfl (fun hc => ?_) (fun hc => ?_)) <;> (try simp only [dcB] at hc) <;> (try first | contradiction | (exfalso; omega)))
      simp only [hg]
      by_cases hr : ruI m i = noR
      · have hr2 : ¬ ¬ ruI m i = ⟨0, 0, -1⟩ := fun h => h hr
        have hf : befP m x i = none := by unfold befP; rw [if_pos (.inl hr)]
        rw [hf] at hn
        dsimp only at hn
        repeat' first | (apply n3; (first | exact a_new (gb := .bx _) rfl | exact a_litE eP [⟨_, _, _⟩] rfl rfl rfl rfl rfl rfl rfl rfl | exact a_appN (fP rfl) rfl rfl rfl nowR (by first | omega | (simp; omega)) (by decide) (by exact rfl)); exact rfl; refine dA ?_) | (apply p3; (first | exact pu1 | exact puL | exact puC | exact puN | exact a_len_str rfl (fT rfl) | exact a_add rfl rfl (by omega) (by omega) | exact puI); exact rfl) | refine cd ?_ | (apply s3; exact a_appE (fP rfl) rfl rfl rfl rfl nowR (by first | omega | (simp; omega)) (by decide) (by decide) (by exact rfl); exact rfl; exact rfl) | (apply w3; (first | exact a_st_bx rfl rfl rfl rfl (fN rfl rfl) (Nat.le_of_ble_eq_true rfl) rfl | exact a_stE (E := eR) ⟨_, _, _⟩ rfl rfl rfl rfl (fN rfl rfl) bnd (by exact rfl)); exact rfl; refine dS ?_) | (apply c4 0; exact callK1 (θ := []) (hD := (isRule_ok _)); exact rfl; exact rfl; exact rfl; refine dM ?_) | (apply g_drN (id := 6) okM [[],[],[],[2],[1,2,3],[],[],[6],[5,6,7],[],[0,1,2,3,4,5,6,7,8,9],[0,1,2,3,4,5,6,7,8,9,10],[0,1,2,3,4,5,6,7,8,9,10,11],[0,1,2,3,4,5,6,7,8,9,10,11],[],[0,1,2,3,4,5,6,7,8,9,10,11,12,14],[0,1,2,3,4,5,6,7,8,9,10,11,12,13,14,15]] [([],[]),([],[]),([],[]),([],[]),([],[]),([],[]),([],[]),([],[]),([],[]),([],[]),([],[]),([],[]),([],[]),([],[]),([0],[]),([],[4]),([],[])] 1; (focus (refine dp 0 0 [25, 26, 27, 28, 29, 30, 31, 32, 33, 9] [(true, 0)] puL ?_; refine dp 1 0 [24, 26, 27, 29, 30, 31, 32, 33, 9] [(true, 0)] pu1 ?_; refine dp 2 0 [24, 25, 29, 30, 31, 32, 33, 9] [(true, 0)] (a_pure (sv := .one _) rfl) ?_; refine dp 3 1 [24, 25, 29, 30, 31, 32, 33, 9] [(true, 0)] puL ?_; refine dp 4 7 [24, 29, 30, 31, 32, 33, 9] [(true, 0)] (a_quo rfl rfl (by omega) (by omega) (by omega)) ?_; refine dp 5 0 [24, 25, 26, 27, 28, 30, 31, 33, 9] [(true, 0)] pu1 ?_; refine dp 6 0 [24, 25, 26, 27, 28, 29, 33, 9] [(true, 0)] (a_pure (sv := .one _) rfl) ?_; refine dp 7 1 [24, 25, 26, 27, 28, 29, 33, 9] [(true, 0)] puL ?_; refine dp 8 7 [24, 25, 26, 27, 28, 33, 9] [(true, 0)] (a_rem rfl rfl (by omega) (by omega) (by omega)) ?_; refine dp 9 0 [24, 25, 26, 27, 28, 29, 30, 31, 32, 9] [(true, 0)] puL ?_; refine dp 10 1023 [9] [(true, 0)] (callD0 (n := _) 0 (θ := []) (hD := (predecessor_ok _ _ _ preB71 preB71 preB71 preB71 preB71))) ?_; refine dp 11 2047 [9] [(true, 0)] pu1 ?_; refine dp 12 4095 [36, 9] [(true, 0)] pu2 ?_; refine dp 13 8190 [35, 9] [(true, 0), (false, 4)] pu2 ?_; refine duE 14 0 [24, 25, 26, 27, 28, 29, 30, 31, 32, 33, 34, 23, 35, 36] [] (atN 0 (fun _ => a_new (gb := .bx _) rfl)) (by exact rfl) (by exact rfl) ?_; refine duE 15 32765 [36] [] (by first | exact a_st_bx rfl rfl rfl rfl (fN rfl rfl) (Nat.le_of_ble_eq_true rfl) rfl | exact a_stF (E := eR) ⟨_, _, _⟩ rfl rfl rfl rfl (fN rfl rfl) (Nat.le_of_ble_eq_true rfl) (Nat.le_of_ble_eq_true rfl) (by first | exact List.getElem?_set_self bnd | exact List.getElem?_eq_getElem bnd) (by (try dsimp only [setRow, List.set_cons_succ, List.set_cons_zero]); first | done | exact rfl) rfl | exact a_stE (E := eP) ⟨_, _, _⟩ rfl rfl rfl rfl (fN rfl rfl) bnd (by exact rfl)) (by exact rfl) (by exact rfl) ?_; refine dp 16 65535 [] [] pu1 ?_; (refine d_nil ?_; refine dN ?_))); any_goals kernel_rfl) | ((first | refine o_gs rfl rfl (fun hc => ?_) (fun hc => ?_) | refine g_cond rfl (fun hc => ?_) (fun hc => ?_)) <;> (try simp only [dcB] at hc) <;> (try first | contradiction | (exfalso; omega)))
        refine q_again (i + 1, out) [0, 1, 2] (by exact stk) ?_ ?_
        · exact ⟨by dsimp only; omega, by dsimp only; omega, hn⟩
        · dsimp only; omega
      · have hr2 : ¬ ruI m i = ⟨0, 0, -1⟩ := hr
        cases hf : befP m x i with
        | none =>
          rw [hf] at hn
          dsimp only at hn
          repeat' first | (apply n3; exact a_new (gb := .bx _) rfl; exact rfl; refine dA ?_) | (apply p3; (first | exact pu1 | exact puL | exact puC | exact puI); exact rfl) | refine cdn ?_ | refine g_reg (id := 3) ?_ | refine g_reg (id := 4) ?_ | refine g_reg (id := 5) ?_ | refine g_reg (id := 12) ?_ | (apply w3; (first | exact a_st_bx rfl rfl rfl rfl (fN rfl rfl) (Nat.le_of_ble_eq_true rfl) rfl | exact a_stE (E := eR) ⟨_, _, _⟩ rfl rfl rfl rfl (fN rfl rfl) bnd (by exact rfl)); exact rfl; refine dS ?_) | (apply c4 0; exact callK1 (θ := []) (hD := (isRule_ok _)); exact rfl; exact rfl; exact rfl; refine dM ?_) | (apply g_drN (id := 6) okM [[],[],[],[2],[1,2,3],[],[],[6],[5,6,7],[],[0,1,2,3,4,5,6,7,8,9],[0,1,2,3,4,5,6,7,8,9,10],[0,1,2,3,4,5,6,7,8,9,10,11],[0,1,2,3,4,5,6,7,8,9,10,11],[],[0,1,2,3,4,5,6,7,8,9,10,11,12,14],[0,1,2,3,4,5,6,7,8,9,10,11,12,13,14,15]] [([],[]),([],[]),([],[]),([],[]),([],[]),([],[]),([],[]),([],[]),([],[]),([],[]),([],[]),([],[]),([],[]),([],[]),([0],[]),([],[4]),([],[])] 1; (focus (refine dp 0 0 [25, 26, 27, 28, 29, 30, 31, 32, 33, 9] [(true, 0)] puL ?_; refine dp 1 0 [24, 26, 27, 29, 30, 31, 32, 33, 9] [(true, 0)] pu1 ?_; refine dp 2 0 [24, 25, 29, 30, 31, 32, 33, 9] [(true, 0)] (a_pure (sv := .one _) rfl) ?_; refine dp 3 1 [24, 25, 29, 30, 31, 32, 33, 9] [(true, 0)] puL ?_; refine dp 4 7 [24, 29, 30, 31, 32, 33, 9] [(true, 0)] (a_quo rfl rfl (by omega) (by omega) (by omega)) ?_; refine dp 5 0 [24, 25, 26, 27, 28, 30, 31, 33, 9] [(true, 0)] pu1 ?_; refine dp 6 0 [24, 25, 26, 27, 28, 29, 33, 9] [(true, 0)] (a_pure (sv := .one _) rfl) ?_; refine dp 7 1 [24, 25, 26, 27, 28, 29, 33, 9] [(true, 0)] puL ?_; refine dp 8 7 [24, 25, 26, 27, 28, 33, 9] [(true, 0)] (a_rem rfl rfl (by omega) (by omega) (by omega)) ?_; refine dp 9 0 [24, 25, 26, 27, 28, 29, 30, 31, 32, 9] [(true, 0)] puL ?_; refine dp 10 1023 [9] [(true, 0)] (callD0 (n := _) 0 (θ := []) (hD := (predecessor_ok _ _ _ preB71 preB71 preB71 preB71 preB71))) ?_; refine dp 11 2047 [9] [(true, 0)] pu1 ?_; refine dp 12 4095 [36, 9] [(true, 0)] pu2 ?_; refine dp 13 8190 [35, 9] [(true, 0), (false, 4)] pu2 ?_; refine duE 14 0 [24, 25, 26, 27, 28, 29, 30, 31, 32, 33, 34, 23, 35, 36] [] (atN 0 (fun _ => a_new (gb := .bx _) rfl)) (by exact rfl) (by exact rfl) ?_; refine duE 15 32765 [36] [] (by first | exact a_st_bx rfl rfl rfl rfl (fN rfl rfl) (Nat.le_of_ble_eq_true rfl) rfl | exact a_stF (E := eR) ⟨_, _, _⟩ rfl rfl rfl rfl (fN rfl rfl) (Nat.le_of_ble_eq_true rfl) (Nat.le_of_ble_eq_true rfl) (by first | exact List.getElem?_set_self bnd | exact List.getElem?_eq_getElem bnd) (by (try dsimp only [setRow, List.set_cons_succ, List.set_cons_zero]); first | done | exact rfl) rfl | exact a_stE (E := eP) ⟨_, _, _⟩ rfl rfl rfl rfl (fN rfl rfl) bnd (by exact rfl)) (by exact rfl) (by exact rfl) ?_; refine dp 16 65535 [] [] pu1 ?_; (refine d_nil ?_; refine dN ?_))); any_goals kernel_rfl) | ((first | refine o_gs rfl rfl (fun hc => ?_) (fun hc => ?_) | refine g_cond rfl (fun hc => ?_) (fun hc => ?_)) <;> (try simp only [dcB] at hc) <;> (try first | contradiction | (exfalso; omega)))
          simp only [hf, Option.isSome_none, Option.getD_none]
          repeat' first | (apply n3; (first | exact a_new (gb := .bx _) rfl | exact a_litE eP [⟨_, _, _⟩] rfl rfl rfl rfl rfl rfl rfl rfl | exact a_appN (fP rfl) rfl rfl rfl nowR (by first | omega | (simp; omega)) (by decide) (by exact rfl)); exact rfl; refine dA ?_) | (apply p3; (first | exact pu1 | exact puL | exact puC | exact puN | exact a_len_str rfl (fT rfl) | exact a_add rfl rfl (by omega) (by omega) | exact puI); exact rfl) | refine cd ?_ | (apply s3; exact a_appE (fP rfl) rfl rfl rfl rfl nowR (by first | omega | (simp; omega)) (by decide) (by decide) (by exact rfl); exact rfl; exact rfl) | (apply w3; (first | exact a_st_bx rfl rfl rfl rfl (fN rfl rfl) (Nat.le_of_ble_eq_true rfl) rfl | exact a_stE (E := eR) ⟨_, _, _⟩ rfl rfl rfl rfl (fN rfl rfl) bnd (by exact rfl)); exact rfl; refine dS ?_) | (apply c4 0; exact callK1 (θ := []) (hD := (isRule_ok _)); exact rfl; exact rfl; exact rfl; refine dM ?_) | (apply g_drN (id := 6) okM [[],[],[],[2],[1,2,3],[],[],[6],[5,6,7],[],[0,1,2,3,4,5,6,7,8,9],[0,1,2,3,4,5,6,7,8,9,10],[0,1,2,3,4,5,6,7,8,9,10,11],[0,1,2,3,4,5,6,7,8,9,10,11],[],[0,1,2,3,4,5,6,7,8,9,10,11,12,14],[0,1,2,3,4,5,6,7,8,9,10,11,12,13,14,15]] [([],[]),([],[]),([],[]),([],[]),([],[]),([],[]),([],[]),([],[]),([],[]),([],[]),([],[]),([],[]),([],[]),([],[]),([0],[]),([],[4]),([],[])] 1; (focus (refine dp 0 0 [25, 26, 27, 28, 29, 30, 31, 32, 33, 9] [(true, 0)] puL ?_; refine dp 1 0 [24, 26, 27, 29, 30, 31, 32, 33, 9] [(true, 0)] pu1 ?_; refine dp 2 0 [24, 25, 29, 30, 31, 32, 33, 9] [(true, 0)] (a_pure (sv := .one _) rfl) ?_; refine dp 3 1 [24, 25, 29, 30, 31, 32, 33, 9] [(true, 0)] puL ?_; refine dp 4 7 [24, 29, 30, 31, 32, 33, 9] [(true, 0)] (a_quo rfl rfl (by omega) (by omega) (by omega)) ?_; refine dp 5 0 [24, 25, 26, 27, 28, 30, 31, 33, 9] [(true, 0)] pu1 ?_; refine dp 6 0 [24, 25, 26, 27, 28, 29, 33, 9] [(true, 0)] (a_pure (sv := .one _) rfl) ?_; refine dp 7 1 [24, 25, 26, 27, 28, 29, 33, 9] [(true, 0)] puL ?_; refine dp 8 7 [24, 25, 26, 27, 28, 33, 9] [(true, 0)] (a_rem rfl rfl (by omega) (by omega) (by omega)) ?_; refine dp 9 0 [24, 25, 26, 27, 28, 29, 30, 31, 32, 9] [(true, 0)] puL ?_; refine dp 10 1023 [9] [(true, 0)] (callD0 (n := _) 0 (θ := []) (hD := (predecessor_ok _ _ _ preB71 preB71 preB71 preB71 preB71))) ?_; refine dp 11 2047 [9] [(true, 0)] pu1 ?_; refine dp 12 4095 [36, 9] [(true, 0)] pu2 ?_; refine dp 13 8190 [35, 9] [(true, 0), (false, 4)] pu2 ?_; refine duE 14 0 [24, 25, 26, 27, 28, 29, 30, 31, 32, 33, 34, 23, 35, 36] [] (atN 0 (fun _ => a_new (gb := .bx _) rfl)) (by exact rfl) (by exact rfl) ?_; refine duE 15 32765 [36] [] (by first | exact a_st_bx rfl rfl rfl rfl (fN rfl rfl) (Nat.le_of_ble_eq_true rfl) rfl | exact a_stF (E := eR) ⟨_, _, _⟩ rfl rfl rfl rfl (fN rfl rfl) (Nat.le_of_ble_eq_true rfl) (Nat.le_of_ble_eq_true rfl) (by first | exact List.getElem?_set_self bnd | exact List.getElem?_eq_getElem bnd) (by (try dsimp only [setRow, List.set_cons_succ, List.set_cons_zero]); first | done | exact rfl) rfl | exact a_stE (E := eP) ⟨_, _, _⟩ rfl rfl rfl rfl (fN rfl rfl) bnd (by exact rfl)) (by exact rfl) (by exact rfl) ?_; refine dp 16 65535 [] [] pu1 ?_; (refine d_nil ?_; refine dN ?_))); any_goals kernel_rfl) | ((first | refine o_gs rfl rfl (fun hc => ?_) (fun hc => ?_) | refine g_cond rfl (fun hc => ?_) (fun hc => ?_)) <;> (try simp only [dcB] at hc) <;> (try first | contradiction | (exfalso; omega)))
          refine q_again (i + 1, out) [0, 1, 2] (by exact stk) ?_ ?_
          · exact ⟨by dsimp only; omega, by dsimp only; omega, hn⟩
          · dsimp only; omega
        | some y =>
          rw [hf] at hn
          dsimp only at hn
          have hy := bef_ok hm g h0 hq hf
          repeat' first | (apply n3; exact a_new (gb := .bx _) rfl; exact rfl; refine dA ?_) | (apply p3; (first | exact pu1 | exact puL | exact puC | exact puI); exact rfl) | refine cdn ?_ | refine g_reg (id := 3) ?_ | refine g_reg (id := 4) ?_ | refine g_reg (id := 5) ?_ | refine g_reg (id := 12) ?_ | (apply w3; (first | exact a_st_bx rfl rfl rfl rfl (fN rfl rfl) (Nat.le_of_ble_eq_true rfl) rfl | exact a_stE (E := eR) ⟨_, _, _⟩ rfl rfl rfl rfl (fN rfl rfl) bnd (by exact rfl)); exact rfl; refine dS ?_) | (apply c4 0; exact callK1 (θ := []) (hD := (isRule_ok _)); exact rfl; exact rfl; exact rfl; refine dM ?_) | (apply g_drN (id := 6) okM [[],[],[],[2],[1,2,3],[],[],[6],[5,6,7],[],[0,1,2,3,4,5,6,7,8,9],[0,1,2,3,4,5,6,7,8,9,10],[0,1,2,3,4,5,6,7,8,9,10,11],[0,1,2,3,4,5,6,7,8,9,10,11],[],[0,1,2,3,4,5,6,7,8,9,10,11,12,14],[0,1,2,3,4,5,6,7,8,9,10,11,12,13,14,15]] [([],[]),([],[]),([],[]),([],[]),([],[]),([],[]),([],[]),([],[]),([],[]),([],[]),([],[]),([],[]),([],[]),([],[]),([0],[]),([],[4]),([],[])] 1; (focus (refine dp 0 0 [25, 26, 27, 28, 29, 30, 31, 32, 33, 9] [(true, 0)] puL ?_; refine dp 1 0 [24, 26, 27, 29, 30, 31, 32, 33, 9] [(true, 0)] pu1 ?_; refine dp 2 0 [24, 25, 29, 30, 31, 32, 33, 9] [(true, 0)] (a_pure (sv := .one _) rfl) ?_; refine dp 3 1 [24, 25, 29, 30, 31, 32, 33, 9] [(true, 0)] puL ?_; refine dp 4 7 [24, 29, 30, 31, 32, 33, 9] [(true, 0)] (a_quo rfl rfl (by omega) (by omega) (by omega)) ?_; refine dp 5 0 [24, 25, 26, 27, 28, 30, 31, 33, 9] [(true, 0)] pu1 ?_; refine dp 6 0 [24, 25, 26, 27, 28, 29, 33, 9] [(true, 0)] (a_pure (sv := .one _) rfl) ?_; refine dp 7 1 [24, 25, 26, 27, 28, 29, 33, 9] [(true, 0)] puL ?_; refine dp 8 7 [24, 25, 26, 27, 28, 33, 9] [(true, 0)] (a_rem rfl rfl (by omega) (by omega) (by omega)) ?_; refine dp 9 0 [24, 25, 26, 27, 28, 29, 30, 31, 32, 9] [(true, 0)] puL ?_; refine dp 10 1023 [9] [(true, 0)] (callD0 (n := _) 0 (θ := []) (hD := (predecessor_ok _ _ _ preB71 preB71 preB71 preB71 preB71))) ?_; refine dp 11 2047 [9] [(true, 0)] pu1 ?_; refine dp 12 4095 [36, 9] [(true, 0)] pu2 ?_; refine dp 13 8190 [35, 9] [(true, 0), (false, 4)] pu2 ?_; refine duE 14 0 [24, 25, 26, 27, 28, 29, 30, 31, 32, 33, 34, 23, 35, 36] [] (atN 0 (fun _ => a_new (gb := .bx _) rfl)) (by exact rfl) (by exact rfl) ?_; refine duE 15 32765 [36] [] (by first | exact a_st_bx rfl rfl rfl rfl (fN rfl rfl) (Nat.le_of_ble_eq_true rfl) rfl | exact a_stF (E := eR) ⟨_, _, _⟩ rfl rfl rfl rfl (fN rfl rfl) (Nat.le_of_ble_eq_true rfl) (Nat.le_of_ble_eq_true rfl) (by first | exact List.getElem?_set_self bnd | exact List.getElem?_eq_getElem bnd) (by (try dsimp only [setRow, List.set_cons_succ, List.set_cons_zero]); first | done | exact rfl) rfl | exact a_stE (E := eP) ⟨_, _, _⟩ rfl rfl rfl rfl (fN rfl rfl) bnd (by exact rfl)) (by exact rfl) (by exact rfl) ?_; refine dp 16 65535 [] [] pu1 ?_; (refine d_nil ?_; refine dN ?_))); any_goals kernel_rfl) | ((first | refine o_gs rfl rfl (fun hc => ?_) (fun hc => ?_) | refine g_cond rfl (fun hc => ?_) (fun hc => ?_)) <;> (try simp only [dcB] at hc) <;> (try first | contradiction | (exfalso; omega)))
          simp only [hf, Option.isSome_some, Option.getD_some]
          by_cases hy6 : 60 < (y.ce.length : Int)
          · rw [if_pos hy6] at hn
            have e : prds m x = none := by unfold prds; exact prdF_none hn (by omega)
            rw [e]
            repeat' first | (apply n3; (first | exact a_new (gb := .bx _) rfl | exact a_litE eP [⟨_, _, _⟩] rfl rfl rfl rfl rfl rfl rfl rfl | exact a_appN (fP rfl) rfl rfl rfl nowR (by first | omega | (simp; omega)) (by decide) (by exact rfl)); exact rfl; refine dA ?_) | (apply p3; (first | exact pu1 | exact puL | exact puC | exact puN | exact a_len_str rfl (fT rfl) | exact a_add rfl rfl (by omega) (by omega) | exact puI); exact rfl) | refine cd ?_ | (apply s3; exact a_appE (fP rfl) rfl rfl rfl rfl nowR (by first | omega | (simp; omega)) (by decide) (by decide) (by exact rfl); exact rfl; exact rfl) | (apply w3; (first | exact a_st_bx rfl rfl rfl rfl (fN rfl rfl) (Nat.le_of_ble_eq_true rfl) rfl | exact a_stE (E := eR) ⟨_, _, _⟩ rfl rfl rfl rfl (fN rfl rfl) bnd (by exact rfl)); exact rfl; refine dS ?_) | (apply c4 0; exact callK1 (θ := []) (hD := (isRule_ok _)); exact rfl; exact rfl; exact rfl; refine dM ?_) | (apply g_drN (id := 6) okM [[],[],[],[2],[1,2,3],[],[],[6],[5,6,7],[],[0,1,2,3,4,5,6,7,8,9],[0,1,2,3,4,5,6,7,8,9,10],[0,1,2,3,4,5,6,7,8,9,10,11],[0,1,2,3,4,5,6,7,8,9,10,11],[],[0,1,2,3,4,5,6,7,8,9,10,11,12,14],[0,1,2,3,4,5,6,7,8,9,10,11,12,13,14,15]] [([],[]),([],[]),([],[]),([],[]),([],[]),([],[]),([],[]),([],[]),([],[]),([],[]),([],[]),([],[]),([],[]),([],[]),([0],[]),([],[4]),([],[])] 1; (focus (refine dp 0 0 [25, 26, 27, 28, 29, 30, 31, 32, 33, 9] [(true, 0)] puL ?_; refine dp 1 0 [24, 26, 27, 29, 30, 31, 32, 33, 9] [(true, 0)] pu1 ?_; refine dp 2 0 [24, 25, 29, 30, 31, 32, 33, 9] [(true, 0)] (a_pure (sv := .one _) rfl) ?_; refine dp 3 1 [24, 25, 29, 30, 31, 32, 33, 9] [(true, 0)] puL ?_; refine dp 4 7 [24, 29, 30, 31, 32, 33, 9] [(true, 0)] (a_quo rfl rfl (by omega) (by omega) (by omega)) ?_; refine dp 5 0 [24, 25, 26, 27, 28, 30, 31, 33, 9] [(true, 0)] pu1 ?_; refine dp 6 0 [24, 25, 26, 27, 28, 29, 33, 9] [(true, 0)] (a_pure (sv := .one _) rfl) ?_; refine dp 7 1 [24, 25, 26, 27, 28, 29, 33, 9] [(true, 0)] puL ?_; refine dp 8 7 [24, 25, 26, 27, 28, 33, 9] [(true, 0)] (a_rem rfl rfl (by omega) (by omega) (by omega)) ?_; refine dp 9 0 [24, 25, 26, 27, 28, 29, 30, 31, 32, 9] [(true, 0)] puL ?_; refine dp 10 1023 [9] [(true, 0)] (callD0 (n := _) 0 (θ := []) (hD := (predecessor_ok _ _ _ preB71 preB71 preB71 preB71 preB71))) ?_; refine dp 11 2047 [9] [(true, 0)] pu1 ?_; refine dp 12 4095 [36, 9] [(true, 0)] pu2 ?_; refine dp 13 8190 [35, 9] [(true, 0), (false, 4)] pu2 ?_; refine duE 14 0 [24, 25, 26, 27, 28, 29, 30, 31, 32, 33, 34, 23, 35, 36] [] (atN 0 (fun _ => a_new (gb := .bx _) rfl)) (by exact rfl) (by exact rfl) ?_; refine duE 15 32765 [36] [] (by first | exact a_st_bx rfl rfl rfl rfl (fN rfl rfl) (Nat.le_of_ble_eq_true rfl) rfl | exact a_stF (E := eR) ⟨_, _, _⟩ rfl rfl rfl rfl (fN rfl rfl) (Nat.le_of_ble_eq_true rfl) (Nat.le_of_ble_eq_true rfl) (by first | exact List.getElem?_set_self bnd | exact List.getElem?_eq_getElem bnd) (by (try dsimp only [setRow, List.set_cons_succ, List.set_cons_zero]); first | done | exact rfl) rfl | exact a_stE (E := eP) ⟨_, _, _⟩ rfl rfl rfl rfl (fN rfl rfl) bnd (by exact rfl)) (by exact rfl) (by exact rfl) ?_; refine dp 16 65535 [] [] pu1 ?_; (refine d_nil ?_; refine dN ?_))); any_goals kernel_rfl) | ((first | refine o_gs rfl rfl (fun hc => ?_) (fun hc => ?_) | refine g_cond rfl (fun hc => ?_) (fun hc => ?_)) <;> (try simp only [dcB] at hc) <;> (try first | contradiction | (exfalso; omega)))
            repeat refine cr ?_
            refine ends_id ?_
            refine endK [] (h2 := ?_) (h3 := ?_) (nd := ?_)
            all_goals (repeat' first | exact ce0 | refine ce ?_ | refine ce2 ?_ ?_ | exact SVLe.refl | refine ceb ?_)
            all_goals first | exact (show nodupB _ = true from rfl) | exact Or.inr rfl | (rfl)
          · rw [if_neg hy6] at hn
            repeat' first | (apply n3; (first | exact a_new (gb := .bx _) rfl | exact a_litE eP [⟨_, _, _⟩] rfl rfl rfl rfl rfl rfl rfl rfl | exact a_appN (fP rfl) rfl rfl rfl nowR (by first | omega | (simp; omega)) (by decide) (by exact rfl)); exact rfl; refine dA ?_) | (apply p3; (first | exact pu1 | exact puL | exact puC | exact puN | exact a_len_str rfl (fT rfl) | exact a_add rfl rfl (by omega) (by omega) | exact puI); exact rfl) | refine cd ?_ | (apply s3; exact a_appE (fP rfl) rfl rfl rfl rfl nowR (by first | omega | (simp; omega)) (by decide) (by decide) (by exact rfl); exact rfl; exact rfl) | (apply w3; (first | exact a_st_bx rfl rfl rfl rfl (fN rfl rfl) (Nat.le_of_ble_eq_true rfl) rfl | exact a_stE (E := eR) ⟨_, _, _⟩ rfl rfl rfl rfl (fN rfl rfl) bnd (by exact rfl)); exact rfl; refine dS ?_) | (apply c4 0; exact callK1 (θ := []) (hD := (isRule_ok _)); exact rfl; exact rfl; exact rfl; refine dM ?_) | (apply g_drN (id := 6) okM [[],[],[],[2],[1,2,3],[],[],[6],[5,6,7],[],[0,1,2,3,4,5,6,7,8,9],[0,1,2,3,4,5,6,7,8,9,10],[0,1,2,3,4,5,6,7,8,9,10,11],[0,1,2,3,4,5,6,7,8,9,10,11],[],[0,1,2,3,4,5,6,7,8,9,10,11,12,14],[0,1,2,3,4,5,6,7,8,9,10,11,12,13,14,15]] [([],[]),([],[]),([],[]),([],[]),([],[]),([],[]),([],[]),([],[]),([],[]),([],[]),([],[]),([],[]),([],[]),([],[]),([0],[]),([],[4]),([],[])] 1; (focus (refine dp 0 0 [25, 26, 27, 28, 29, 30, 31, 32, 33, 9] [(true, 0)] puL ?_; refine dp 1 0 [24, 26, 27, 29, 30, 31, 32, 33, 9] [(true, 0)] pu1 ?_; refine dp 2 0 [24, 25, 29, 30, 31, 32, 33, 9] [(true, 0)] (a_pure (sv := .one _) rfl) ?_; refine dp 3 1 [24, 25, 29, 30, 31, 32, 33, 9] [(true, 0)] puL ?_; refine dp 4 7 [24, 29, 30, 31, 32, 33, 9] [(true, 0)] (a_quo rfl rfl (by omega) (by omega) (by omega)) ?_; refine dp 5 0 [24, 25, 26, 27, 28, 30, 31, 33, 9] [(true, 0)] pu1 ?_; refine dp 6 0 [24, 25, 26, 27, 28, 29, 33, 9] [(true, 0)] (a_pure (sv := .one _) rfl) ?_; refine dp 7 1 [24, 25, 26, 27, 28, 29, 33, 9] [(true, 0)] puL ?_; refine dp 8 7 [24, 25, 26, 27, 28, 33, 9] [(true, 0)] (a_rem rfl rfl (by omega) (by omega) (by omega)) ?_; refine dp 9 0 [24, 25, 26, 27, 28, 29, 30, 31, 32, 9] [(true, 0)] puL ?_; refine dp 10 1023 [9] [(true, 0)] (callD0 (n := _) 0 (θ := []) (hD := (predecessor_ok _ _ _ preB71 preB71 preB71 preB71 preB71))) ?_; refine dp 11 2047 [9] [(true, 0)] pu1 ?_; refine dp 12 4095 [36, 9] [(true, 0)] pu2 ?_; refine dp 13 8190 [35, 9] [(true, 0), (false, 4)] pu2 ?_; refine duE 14 0 [24, 25, 26, 27, 28, 29, 30, 31, 32, 33, 34, 23, 35, 36] [] (atN 0 (fun _ => a_new (gb := .bx _) rfl)) (by exact rfl) (by exact rfl) ?_; refine duE 15 32765 [36] [] (by first | exact a_st_bx rfl rfl rfl rfl (fN rfl rfl) (Nat.le_of_ble_eq_true rfl) rfl | exact a_stF (E := eR) ⟨_, _, _⟩ rfl rfl rfl rfl (fN rfl rfl) (Nat.le_of_ble_eq_true rfl) (Nat.le_of_ble_eq_true rfl) (by first | exact List.getElem?_set_self bnd | exact List.getElem?_eq_getElem bnd) (by (try dsimp only [setRow, List.set_cons_succ, List.set_cons_zero]); first | done | exact rfl) rfl | exact a_stE (E := eP) ⟨_, _, _⟩ rfl rfl rfl rfl (fN rfl rfl) bnd (by exact rfl)) (by exact rfl) (by exact rfl) ?_; refine dp 16 65535 [] [] pu1 ?_; (refine d_nil ?_; refine dN ?_))); any_goals kernel_rfl) | ((first | refine o_gs rfl rfl (fun hc => ?_) (fun hc => ?_) | refine g_cond rfl (fun hc => ?_) (fun hc => ?_)) <;> (try simp only [dcB] at hc) <;> (try first | contradiction | (exfalso; omega)))
            refine q_again (i + 1, _) [0, 1, 6] (by exact stk) ?_ ?_
            · exact ⟨by dsimp only; omega, by dsimp only; omega, hn⟩
            · dsimp only; omega
    · have hi : i.toNat = m.ru.length := by omega
      have e : prds m x = some out := by unfold prds; rw [← h2, hi]
      rw [e]
      repeat' first | (apply n3; (first | exact a_new (gb := .bx _) rfl | exact a_litE eP [⟨_, _, _⟩] rfl rfl rfl rfl rfl rfl rfl rfl | exact a_appN (fP rfl) rfl rfl rfl nowR (by first | omega | (simp; omega)) (by decide) (by exact rfl)); exact rfl; refine dA ?_) | (apply p3; (first | exact pu1 | exact puL | exact puC | exact puN | exact a_len_str rfl (fT rfl) | exact a_add rfl rfl (by omega) (by omega) | exact puI); exact rfl) | refine cd ?_ | (apply s3; exact a_appE (fP rfl) rfl rfl rfl rfl nowR (by first | omega | (simp; omega)) (by decide) (by decide) (by exact rfl); exact rfl; exact rfl) | (apply w3; (first | exact a_st_bx rfl rfl rfl rfl (fN rfl rfl) (Nat.le_of_ble_eq_true rfl) rfl | exact a_stE (E := eR) ⟨_, _, _⟩ rfl rfl rfl rfl (fN rfl rfl) bnd (by exact rfl)); exact rfl; refine dS ?_) | (apply c4 0; exact callK1 (θ := []) (hD := (isRule_ok _)); exact rfl; exact rfl; exact rfl; refine dM ?_) | (apply g_drN (id := 6) okM [[],[],[],[2],[1,2,3],[],[],[6],[5,6,7],[],[0,1,2,3,4,5,6,7,8,9],[0,1,2,3,4,5,6,7,8,9,10],[0,1,2,3,4,5,6,7,8,9,10,11],[0,1,2,3,4,5,6,7,8,9,10,11],[],[0,1,2,3,4,5,6,7,8,9,10,11,12,14],[0,1,2,3,4,5,6,7,8,9,10,11,12,13,14,15]] [([],[]),([],[]),([],[]),([],[]),([],[]),([],[]),([],[]),([],[]),([],[]),([],[]),([],[]),([],[]),([],[]),([],[]),([0],[]),([],[4]),([],[])] 1; (focus (refine dp 0 0 [25, 26, 27, 28, 29, 30, 31, 32, 33, 9] [(true, 0)] puL ?_; refine dp 1 0 [24, 26, 27, 29, 30, 31, 32, 33, 9] [(true, 0)] pu1 ?_; refine dp 2 0 [24, 25, 29, 30, 31, 32, 33, 9] [(true, 0)] (a_pure (sv := .one _) rfl) ?_; refine dp 3 1 [24, 25, 29, 30, 31, 32, 33, 9] [(true, 0)] puL ?_; refine dp 4 7 [24, 29, 30, 31, 32, 33, 9] [(true, 0)] (a_quo rfl rfl (by omega) (by omega) (by omega)) ?_; refine dp 5 0 [24, 25, 26, 27, 28, 30, 31, 33, 9] [(true, 0)] pu1 ?_; refine dp 6 0 [24, 25, 26, 27, 28, 29, 33, 9] [(true, 0)] (a_pure (sv := .one _) rfl) ?_; refine dp 7 1 [24, 25, 26, 27, 28, 29, 33, 9] [(true, 0)] puL ?_; refine dp 8 7 [24, 25, 26, 27, 28, 33, 9] [(true, 0)] (a_rem rfl rfl (by omega) (by omega) (by omega)) ?_; refine dp 9 0 [24, 25, 26, 27, 28, 29, 30, 31, 32, 9] [(true, 0)] puL ?_; refine dp 10 1023 [9] [(true, 0)] (callD0 (n := _) 0 (θ := []) (hD := (predecessor_ok _ _ _ preB71 preB71 preB71 preB71 preB71))) ?_; refine dp 11 2047 [9] [(true, 0)] pu1 ?_; refine dp 12 4095 [36, 9] [(true, 0)] pu2 ?_; refine dp 13 8190 [35, 9] [(true, 0), (false, 4)] pu2 ?_; refine duE 14 0 [24, 25, 26, 27, 28, 29, 30, 31, 32, 33, 34, 23, 35, 36] [] (atN 0 (fun _ => a_new (gb := .bx _) rfl)) (by exact rfl) (by exact rfl) ?_; refine duE 15 32765 [36] [] (by first | exact a_st_bx rfl rfl rfl rfl (fN rfl rfl) (Nat.le_of_ble_eq_true rfl) rfl | exact a_stF (E := eR) ⟨_, _, _⟩ rfl rfl rfl rfl (fN rfl rfl) (Nat.le_of_ble_eq_true rfl) (Nat.le_of_ble_eq_true rfl) (by first | exact List.getElem?_set_self bnd | exact List.getElem?_eq_getElem bnd) (by (try dsimp only [setRow, List.set_cons_succ, List.set_cons_zero]); first | done | exact rfl) rfl | exact a_stE (E := eP) ⟨_, _, _⟩ rfl rfl rfl rfl (fN rfl rfl) bnd (by exact rfl)) (by exact rfl) (by exact rfl) ?_; refine dp 16 65535 [] [] pu1 ?_; (refine d_nil ?_; refine dN ?_))); any_goals kernel_rfl) | ((first | refine o_gs rfl rfl (fun hc => ?_) (fun hc => ?_) | refine g_cond rfl (fun hc => ?_) (fun hc => ?_)) <;> (try simp only [dcB] at hc) <;> (try first | contradiction | (exfalso; omega)))
      refine g_turn (t_freeze (i := 2) rfl nowR) ?_
      repeat refine cr ?_
      refine ends_id ?_
      refine endK [] (h2 := ?_) (h3 := ?_) (nd := ?_)
      all_goals (repeat' first | exact ce0 | refine ce ?_ | refine ce2 ?_ ?_ | exact SVLe.refl | refine ceb ?_)
      all_goals first | exact (show nodupB _ = true from rfl) | exact Or.inr rfl | (rfl)
end Go.Proofs.YtbekdojhcokalaaGreatDoor
end
section
set_option linter.unusedVariables false
set_option linter.unusedSimpArgs false
set_option maxRecDepth 100000
set_option maxHeartbeats 4000000
namespace Go.Proofs.YtbekdojhcokalaaGreatDoor
open Go Foot
/-- A digit's byte. -/
def isDg (c : UInt8) : Prop := 48 ≤ c.toNat ∧ c.toNat ≤ 57
def valD (l : Bs) : Nat := l.foldl (fun a c => 10 * a + (c.toNat - 48)) 0
theorem valD_snoc (l : Bs) (c : UInt8) : valD (l ++ [c]) = 10 * valD l + (c.toNat - 48) := by unfold valD; rw [List.foldl_append]; rfl
theorem dg_nat {d : Nat} (h : d < 10) : isDg (UInt8.ofNat (48 + d)) ∧ (UInt8.ofNat (48 + d)).toNat - 48 = d := by
  have : (UInt8.ofNat (48 + d)).toNat = 48 + d := by rw [UInt8.toNat_ofNat']; omega
  unfold isDg
  omega
theorem dec_val : ∀ (u : Nat), valD (Lib.decDigits u) = u ∧ (∀ c ∈ Lib.decDigits u, isDg c) ∧ Lib.decDigits u ≠ [] := by
  intro u
  induction u using Nat.strongRecOn with
  | _ u ih =>
    rw [Lib.decDigits]
    by_cases h : u < 10
    · rw [dif_pos h]
      obtain ⟨d1, d2⟩ := dg_nat h
      refine ⟨?_, fun c hc => by rw [List.mem_singleton.1 hc]; exact d1, by simp⟩
      have := valD_snoc [] (UInt8.ofNat (48 + u))
      rw [List.nil_append, d2] at this
      rw [this]
      simp [valD]
    · rw [dif_neg h]
      obtain ⟨i1, i2, i3⟩ := ih (u / 10) (by omega)
      obtain ⟨d1, d2⟩ := dg_nat (show u % 10 < 10 by omega)
      refine ⟨by rw [valD_snoc, i1, d2]; omega, fun c hc => ?_, by simp⟩
      rcases List.mem_append.1 hc with hc | hc
      · exact i2 c hc
      · rw [List.mem_singleton.1 hc]; exact d1
theorem split_at {α : Type} {s : α} : ∀ {a a' b b' : List α}, a ++ s :: b = a' ++ s :: b' → s ∉ a → s ∉ a' → a = a' ∧ b = b'
  | [], [], b, b', h, _, _ => ⟨rfl, by simpa using h⟩
  | [], y :: a', b, b', h, _, h2 => by
    simp only [List.nil_append, List.cons_append, List.cons.injEq] at h
    exact absurd (by simp [h.1]) h2
  | x :: a, [], b, b', h, h1, _ => by
    simp only [List.nil_append, List.cons_append, List.cons.injEq] at h
    exact absurd (by simp [h.1]) h1
  | x :: a, y :: a', b, b', h, h1, h2 => by
    simp only [List.cons_append, List.cons.injEq] at h
    obtain ⟨q1, q2⟩ := split_at h.2 (fun q => h1 (by simp [q])) (fun q => h2 (by simp [q]))
    exact ⟨by rw [h.1, q1], q2⟩
theorem byt_injP : ∀ {a b : List Int}, (∀ x ∈ a, 0 ≤ x ∧ x ≤ 255) → (∀ x ∈ b, 0 ≤ x ∧ x ≤ 255) → byt a = byt b → a = b := by
  intro a b ha hb h
  unfold byt at h
  have e : ∀ l : List Int, (∀ x ∈ l, 0 ≤ x ∧ x ≤ 255) → (l.map fun n => UInt8.ofNat n.toNat).map (fun c => ((c.toNat : Nat) : Int)) = l := by
    intro l hl
    rw [List.map_map]
    conv => rhs; rw [← List.map_id l]
    apply List.map_congr_left
    intro x hx
    have := hl x hx
    simp only [Function.comp, UInt8.toNat_ofNat']
    simp
    omega
  rw [← e a ha, ← e b hb, h]
theorem digT_inj {a b : List Int} (ha : ∀ x ∈ a, 0 ≤ x ∧ x ≤ 9) (hb : ∀ x ∈ b, 0 ≤ x ∧ x ≤ 9) (h : digT a = digT b) : a = b := by
  unfold digT at h
  have h := byt_injP (fun x hx => by obtain ⟨y, hy, rfl⟩ := List.mem_map.1 hx; have := ha y hy; omega) (fun x hx => by obtain ⟨y, hy, rfl⟩ := List.mem_map.1 hx; have := hb y hy; omega) h
  have e : ∀ l : List Int, (l.map fun x => 48 + x).map (fun x => x - 48) = l := fun l => by
    rw [List.map_map]
    conv => rhs; rw [← List.map_id l]
    apply List.map_congr_left
    intro x hx
    simp only [Function.comp, id]
    omega
  rw [← e a, ← e b, h]
theorem digT_dg {a : List Int} (ha : ∀ x ∈ a, 0 ≤ x ∧ x ≤ 9) : ∀ c ∈ digT a, isDg c := by
  intro c hc
  unfold digT byt at hc
  obtain ⟨x, hx, rfl⟩ := List.mem_map.1 hc
  obtain ⟨y, hy, rfl⟩ := List.mem_map.1 hx
  have := ha y hy
  have h2 := (dg_nat (d := y.toNat) (by omega)).1
  rwa [show 48 + y.toNat = (48 + y).toNat by omega] at h2
theorem decT_nat {n : Int} (h : 0 ≤ n) : decT n = Lib.decDigits n.toNat := by
  unfold decT Lib.itoa
  rw [if_neg (by omega)]
theorem decT_dg {n : Int} (h : 0 ≤ n) : ∀ c ∈ decT n, isDg c := by rw [decT_nat h]; exact (dec_val _).2.1
theorem decT_inj {a b : Int} (ha : 0 ≤ a) (hb : 0 ≤ b) (h : decT a = decT b) : a = b := by
  rw [decT_nat ha, decT_nat hb] at h
  have := congrArg valD h
  rw [(dec_val _).1, (dec_val _).1] at this
  omega
/-- The text of a partial configuration. -/
@[irreducible] def ptT (x : Part) : Bs := digT (x.ce.take x.pl.toNat) ++ [91] ++ decT x.st ++ [93] ++ digT (x.ce.drop x.pl.toNat)
theorem ptT_inj {m : Mach} {x y : Part} (hm : vMach m = true) (g : PtOk m x) (k : PtOk m y) (h : ptT x = ptT y) : x = y := by
  have hb := vMach_bd hm
  have n1 : ∀ c : UInt8, c = 91 ∨ c = 93 → ¬ isDg c := by
    rintro c (rfl | rfl) h <;> (unfold isDg at h; revert h; decide)
  have dg : ∀ {z : Part}, PtOk m z → ∀ v ∈ z.ce, 0 ≤ v ∧ v ≤ 9 := fun gz v hv => by have := gz.c v hv; omega
  unfold ptT at h
  simp only [List.append_assoc, List.singleton_append] at h
  obtain ⟨h1, h2⟩ := split_at h (fun q => n1 91 (.inl rfl) (digT_dg (fun v hv => dg g v (List.mem_of_mem_take hv)) _ q)) (fun q => n1 91 (.inl rfl) (digT_dg (fun v hv => dg k v (List.mem_of_mem_take hv)) _ q))
  obtain ⟨h3, h4⟩ := split_at h2 (fun q => n1 93 (.inr rfl) (decT_dg g.s.1 _ q)) (fun q => n1 93 (.inr rfl) (decT_dg k.s.1 _ q))
  have e1 := digT_inj (fun v hv => dg g v (List.mem_of_mem_take hv)) (fun v hv => dg k v (List.mem_of_mem_take hv)) h1
  have e2 := decT_inj g.s.1 k.s.1 h3
  have e3 := digT_inj (fun v hv => dg g v (List.mem_of_mem_drop hv)) (fun v hv => dg k v (List.mem_of_mem_drop hv)) h4
  have e4 : x.ce = y.ce := by rw [← List.take_append_drop x.pl.toNat x.ce, e1, e3, List.take_append_drop]
  have e5 : x.pl = y.pl := by
    have := congrArg List.length e1
    rw [List.length_take, List.length_take] at this
    have a1 := g.a
    have a2 := k.a
    omega
  exact eqPt_iff.2 ⟨e2, e5, e4⟩
theorem preB72 {p : Prop} (h : p := by first | with_reducible assumption | omega | (simp only [List.length_append, List.length_cons, List.length_nil, List.length_set, List.length_replicate, List.length_take, List.length_drop, List.length_tail, List.length_dropLast, List.length_reverse] at *; omega) | exact mem_len (by assumption) (by omega) | (with_reducible refine Int.le_trans (Int.ofNat_le.2 (trimR_len _)) ?_; simp only [List.length_cons, List.length_tail]; omega) | (exact (ruAt_ok (by assumption) (by assumption) (by assumption)).2.1) | (exact (ruAt_ok (by assumption) (by assumption) (by assumption)).2.1) | (have := vMach_bd (by assumption); omega) | (simp only [mC_ch, mC_tu]; omega) | (have := vTag_bd (by assumption); omega) | (have := (‹Gd _ _›).le; omega) | (exact tgHalts_no (by assumption)) | (exact tgHead (by assumption) (by assumption) (by assumption)) | (exact Int.le_trans (tgStep_gd (by assumption) (by assumption) (by assumption) (by assumption)).le (by decide)) | (exact vTag_r (by assumption)) | (with_reducible refine Int.le_trans (Int.ofNat_le.2 (pushL_len _ _)) ?_; simp only [List.length_dropLast]; omega) | exact ls_at (by assumption) (by omega) | exact pt_gd (by assumption) | exact lv_at (by assumption) (by omega) | exact pt_gd (lv_at (by assumption) (by omega)) | exact (ask_ok (by assumption)).1 | exact (ask_ok (by assumption)).2.1 | exact (ask_ok (by assumption)).2.2.1 | exact (ask_ok (by assumption)).2.2.2 | trivial) : p := h
theorem partialText_ok (m : Mach) (x : Part) (hm : vMach m = true) (g : PtOk m x) : Does Tryz.prog 109 [.agg (paC x)] [] (.one (str (ptT x))) [] := by
  obtain ⟨g1, g2, g3, g4⟩ := g
  have hb := vMach_bd hm
  have d1 : ∀ v ∈ x.ce.take x.pl.toNat, 0 ≤ v ∧ v ≤ 9 := fun v hv => by have := g4 v (List.mem_of_mem_take hv); omega
  have d2 : ∀ v ∈ x.ce.drop x.pl.toNat, 0 ≤ v ∧ v ≤ 9 := fun v hv => by have := g4 v (List.mem_of_mem_drop hv); omega
  have l1 := digT_len (x.ce.take x.pl.toNat)
  have l2 := digT_len (x.ce.drop x.pl.toNat)
  have l3 := decT_le (n := x.st) (by omega) (by omega)
  rw [List.length_take] at l1
  rw [List.length_drop] at l2
  have e : ptT x = digT (x.ce.take x.pl.toNat) ++ [91] ++ decT x.st ++ [93] ++ digT (x.ce.drop x.pl.toNat) := by unfold ptT; rfl
  rw [e]
  refine does_of (k := 0) Tryz.func109 rfl Tryz.ntmps109 rfl rfl fun w F0 S0 ρ0 => ?_
  dsimp only [argT, argH]
  repeat' first | (apply n3; exact a_new (gb := .bx _) rfl; exact rfl; refine dA ?_) | (apply p3; exact pu1; exact rfl) | refine cd ?_ | (apply g_drN (id := 1) okM [[],[0],[],[2],[0,1,2,3],[0,1,2,3,4],[0,1,2,3,4,5],[],[7],[0,1,2,3,4,5,7,8],[0,1,2,3,4,5,6,7,8,9],[0,1,2,3,4,5,6,7,8,9,10],[],[12],[],[14],[12,13,14,15],[0,1,2,3,4,5,7,8,9,12,13,14,15,16],[0,1,2,3,4,5,6,7,8,9,10,11,12,13,14,15,16,17],[0,1,2,3,4,5,6,7,8,9,10,11,12,13,14,15,16,17,18]] [([],[]),([],[]),([],[]),([],[]),([],[]),([],[]),([],[]),([],[]),([],[]),([],[]),([],[]),([],[]),([],[]),([],[]),([],[]),([],[]),([],[]),([],[]),([],[]),([],[])] 0; (focus (refine dp 0 0 [5, 6, 10, 11, 15, 16, 17, 18, 19] [] (a_pure (sv := .one _) rfl) ?_; refine dp 1 1 [5, 6, 10, 11, 15, 16, 17, 18, 19] [] puL ?_; refine dp 2 0 [3, 4, 10, 11, 15, 16, 17, 18, 19] [] (a_pure (sv := .one _) rfl) ?_; refine dp 3 1 [3, 4, 10, 11, 15, 16, 17, 18, 19] [] puL ?_; refine dp 4 15 [10, 11, 15, 16, 17, 18, 19] [] (by first | exact a_sl0 rfl rfl (fS rfl) | exact a_slH rfl rfl rfl (fS rfl) (by omega) (by omega) (by exact rfl) | exact atS 0 (fun _ hj => a_slHO rfl rfl rfl (fS rfl) (by omega) (by omega) (by exact rfl) hj) (by decide)) ?_; refine dp 5 31 [10, 11, 15, 16, 17, 18, 19] [] (callD1 (n := _) 0 (θ := []) (hD := (digitsText_ok _ preB72 preB72))) ?_; refine dp 6 63 [10, 11, 12, 15, 16, 17, 18, 19, 20] [] (a_addS rfl rfl (by first | omega | (simp only [List.length_append, List.length_cons, List.length_nil]; omega))) ?_; refine dp 7 0 [3, 4, 5, 6, 7, 8, 9, 15, 16, 17, 18, 19] [] (a_pure (sv := .one _) rfl) ?_; refine dp 8 1 [3, 4, 5, 6, 7, 8, 9, 15, 16, 17, 18, 19] [] puL ?_; refine dp 9 507 [9, 15, 16, 17, 18, 19] [] (callD1 (n := _) 0 (θ := []) (hD := (Decimal_ok _ preB72 preB72))) ?_; refine dp 10 1023 [15, 16, 17, 18, 19, 20] [] (a_addS rfl rfl (by first | omega | (simp only [List.length_append, List.length_cons, List.length_nil]; omega))) ?_; refine dp 11 2047 [15, 16, 17, 18, 19, 20] [] (a_addS rfl rfl (by first | omega | (simp only [List.length_append, List.length_cons, List.length_nil]; omega))) ?_; refine dp 12 0 [3, 4, 5, 6, 7, 8, 9, 10, 11, 12, 13, 14, 17, 18] [] (a_pure (sv := .one _) rfl) ?_; refine dp 13 1 [3, 4, 5, 6, 7, 8, 9, 10, 11, 12, 13, 14, 17, 18] [] puL ?_; refine dp 14 0 [3, 4, 5, 6, 7, 8, 9, 10, 11, 12, 13, 14, 15, 16] [] (a_pure (sv := .one _) rfl) ?_; refine dp 15 1 [3, 4, 5, 6, 7, 8, 9, 10, 11, 12, 13, 14, 15, 16] [] puL ?_; refine dp 16 15 [3, 4, 5, 6, 7, 8, 9, 10, 11, 12, 13, 14] [] (by first | exact a_slT rfl rfl rfl (fS rfl) (by omega) (by omega) (by exact rfl) | exact atS 0 (fun _ hj => a_slTO rfl rfl rfl (fS rfl) (by omega) (by omega) (by exact rfl) hj) (by decide)) ?_; refine dp 17 129951 [9, 13, 14] [] (callD1 (n := _) 0 (θ := []) (hD := (digitsText_ok _ preB72 preB72))) ?_; refine dp 18 262143 [] [] (a_addS rfl rfl (by first | omega | (simp only [List.length_append, List.length_cons, List.length_nil]; omega))) ?_; refine dp 19 524287 [] [] pu1 ?_; (refine d_nil ?_; refine dN ?_))); any_goals kernel_rfl) | ((first | refine o_gs rfl rfl (fun hc => ?_) (fun hc => ?_) | refine g_cond rfl (fun hc => ?_) (fun hc => ?_)) <;> (try simp only [dcB] at hc) <;> (try first | contradiction | (exfalso; omega)))
  repeat refine cr ?_
  refine ends_id ?_
  refine endK [] (h2 := ?_) (h3 := ?_) (nd := ?_)
  all_goals (repeat' first | exact ce0 | refine ce ?_ | refine ce2 ?_ ?_ | exact SVLe.refl | refine ceb ?_)
  all_goals first | exact (show nodupB _ = true from rfl) | exact Or.inr rfl | (rfl)
end Go.Proofs.YtbekdojhcokalaaGreatDoor
end
