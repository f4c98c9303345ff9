/- Parts of the proof (16 of 23). -/
import Derived.Lib.AppendZerosOnto
import Derived.Test.YtcmdfohamphndaaGreatDoorQ15
section
set_option linter.unusedVariables false
set_option linter.unusedSimpArgs false
set_option maxRecDepth 100000
namespace Go.Proofs.YtcmdfohamphndaaGreatDoor
open Go Foot
section
variable {P : Program} {g : Gh} {st : St} {dst : Option Tmp} {ty : TypeId} {pos : String} {after : Array Edge} {guard : Option (Nat × Bool)} {x y : Operand}
theorem a_cap0 {T e : Nat} (hx : opd st x = .one nilC) (hu : P.underlying T = some (.slice e)) : Acts P g ⟨dst, .call { callee := .builtin .cap, args := #[x], argTypes := #[T] }, ty, pos, after, guard⟩ st (.one (int 0)) [] [] := by
  refine acts_of fun a w S ρ F h => ⟨.int .i64 0, ?_, ⟨rfl, rfl⟩⟩
  have e := opd_sc h hx
  simp only [execOp, resolve, invoke, builtin]
  simp [e, builtin, Builtin.cap_, run_underlying hu, goInt]
theorem a_sl0 {T zz : Nat} {hi : Operand} (hx : opd st x = .one nilC) (hh : opd st hi = .one (int 0)) (hT : sliceB P T zz = true) : Acts P g ⟨dst, .slice T x none (some hi) none, ty, pos, after, guard⟩ st (.one nilC) [] [] := by
  refine acts_of fun a w S ρ F h => ⟨.slice none 0 0, ?_, ⟨rfl, rfl⟩⟩
  show (do pure (.value (← Instr.sliceAt T (a.eval x) ((none : Option Operand).map a.eval) ((some hi).map a.eval) ((none : Option Operand).map a.eval))) : Sem Next).run P w = _
  rw [opd_sc h hx]
  have := run_slice (P := P) (w := w) (T := T) (z := zz) (len := 0) (cap := 0) (l := 0) (u := 0) (ad := none) (lo := none) (hi := some (a.eval hi)) hT (.inl ⟨rfl, rfl⟩) (.inr ⟨.i64, by rw [opd_sc h hh]; rfl⟩) (Nat.le_refl _) (Nat.le_refl _) (Nat.le_refl _)
  simp at this
  simp [this]
theorem a_appZ {T Tn e zz bytes n i : Nat} {vs : List Value} {row : List D} {k1 kn : IntKind} {m : Int} (hu : P.underlying T = some (.slice e)) (hun : P.underlying Tn = some (.int kn)) (hT : zeroC P e = some vs) (hT2 : appB P T zz bytes = true) (hz0 : 0 < zz)
    (hx : opd st x = .one nilC) (hy : opd st y = .one (.d (.sc (.int k1 m)))) (hm : 0 < m) (hmn : m.toNat = n) (hn : m < 9223372036854775808) (hb : n * bytes ≤ 281474976710656) (hrow : repRow (vs.map scD) n = row) :
    Acts P g ⟨dst, .call { callee := .builtin .append, args := #[x, y], argTypes := #[T, Tn] }, ty, pos, after, guard⟩ st (.one (.gv i)) [] [(i, .row zz row)] := by
  subst hrow
  have hmn' : m = (n : Int) := by omega
  subst hmn'
  refine ⟨fun a w S ρ F h hfr K Q hK => ?_⟩
  have hfr' : ρ i = none := by simpa using hfr _ (List.mem_singleton.2 rfl)
  clear hfr
  obtain ⟨inf, zv, hi, hz, rfl, hall⟩ := zeroC_spec hT
  unfold appB at hT2
  rw [hu] at hT2
  simp only [hi, hz, Bool.and_eq_true] at hT2
  obtain ⟨⟨hz1, hb1⟩, hz3⟩ := hT2
  have hz1 := Nat.eq_of_beq_eq_true hz1
  have hb1 := Nat.eq_of_beq_eq_true hb1
  have hz3 := Nat.eq_of_beq_eq_true hz3
  subst hz1 hb1
  have hnp : 0 < n := by omega
  have hnc : Builtin.nextslicecap (0 + n) 0 = n := by unfold Builtin.nextslicecap; rw [if_pos (by omega)]; omega
  have hrun := Lib.run_append_grow_zeros (P := P) w T Tn ty e inf zv k1 kn hu hun hi hz none 0 0 [] (by simp [Builtin.firstCells]) n hnp hz0 (by omega) (by omega) hb (by rw [hnc]; exact hb)
  have hge := grownCap_ge w (0 + n) 0 e
  have hrun2 : (execOp a.eval ⟨dst, .call { callee := .builtin .append, args := #[x, y], argTypes := #[T, Tn] }, ty, pos, after, guard⟩).run P w = .ok (.value (.slice (some ⟨w.heap.size, 0, none⟩) (0 + n) (grownCap w (0 + n) 0 e))) (w.drew.alloc (.cells ((#[] : Array Value) ++ Builtin.zeroCells zv.cells n ++ Builtin.zeroCells zv.cells (grownCap w (0 + n) 0 e - (0 + n))) e)) := by
    simp only [execOp, resolve, invoke, builtin]
    simp [opd_sc h hx, opd_sc h hy, builtin]
    simp at hrun
    rw [hrun]
    rfl
  refine oper_in (fun _ h => nomatch h) ?_
  rw [hrun2, Oper.uponIn_value]
  rw [Nat.zero_add] at hge ⊢
  generalize grownCap w n 0 e = c at *
  have hzr : (Builtin.zeroCells zv.cells n).toList = repRow zv.cells.toList n := by unfold Builtin.zeroCells; exact zero_row zv.cells n
  have hzs : zv.cells.toList.length = inf.size := by simpa using hz3
  have hallr : (repRow zv.cells.toList n).all Value.oneCell' = true := by
    rw [List.all_eq_true] at hall ⊢
    intro u hu
    simp only [repRow, List.mem_flatten, List.mem_replicate] at hu
    obtain ⟨l, ⟨_, rfl⟩, hu⟩ := hu
    exact hall u hu
  have hrs := reps_sc (w := w) (S := S) hallr
  rw [repRow_map] at hrs
  have hk : Keeps no w (w.drew.alloc (.cells ((#[] : Array Value) ++ Builtin.zeroCells zv.cells n ++ Builtin.zeroCells zv.cells (c - n)) e)) := keeps_drew.trans (keeps_alloc _) (no_le _)
  have hcells : (w.drew.alloc (.cells ((#[] : Array Value) ++ Builtin.zeroCells zv.cells n ++ Builtin.zeroCells zv.cells (c - n)) e)).heap[w.heap.size]? = some (.cells ((#[] : Array Value) ++ Builtin.zeroCells zv.cells n ++ Builtin.zeroCells zv.cells (c - n)) e) := by
    rw [heap_alloc]
    exact Array.getElem?_push_size
  have hsz : (w.drew.alloc (.cells ((#[] : Array Value) ++ Builtin.zeroCells zv.cells n ++ Builtin.zeroCells zv.cells (c - n)) e)).heap.size = w.heap.size + 1 := by rw [heap_alloc, Array.size_push]; rfl
  have hfull : ((#[] : Array Value) ++ Builtin.zeroCells zv.cells n ++ Builtin.zeroCells zv.cells (c - n)).size = c * inf.size := by
    have hz4 : zv.cells.size = inf.size := hz3
    simp only [Array.size_append, size_zeroCells, hz4, Array.size_empty, Nat.zero_add, ← Nat.add_mul]
    congr 1
    omega
  generalize w.drew.alloc (.cells ((#[] : Array Value) ++ Builtin.zeroCells zv.cells n ++ Builtin.zeroCells zv.cells (c - n)) e) = W at *
  have hrep : Rep W S (.sl true inf.size (repRow (zv.cells.toList.map scD) n)) (.slice (some ⟨w.heap.size, 0, none⟩) n c) (rng w.heap.size 0 (c * inf.size)) := by
    simp only [Rep, if_true]
    refine ⟨_, n, c, rfl, by rw [repRow_len, List.length_map, hzs], hz0, hge, .inr ⟨w.heap.size, 0, repRow zv.cells.toList n, no, rfl, ?_, hrs.keep Agree.no (hk.agree h.exS (dis_no _)) (le_refl _) (le_refl _), le_refl _, no_le _, dis_no _, ?_⟩⟩
    · intro k u hk'
      have hkl : k < (repRow zv.cells.toList n).length := (List.getElem?_eq_some_iff.1 hk').1
      rw [← hzr] at hkl hk'
      simp only [World.cell?, hcells]
      simp only [Nat.zero_add, Option.isSome_none, Bool.false_eq_true, if_false]
      rw [Array.getElem?_append_left (by simpa using hkl)]
      simpa using hk'
    · intro k hk'
      have : k < ((#[] : Array Value) ++ Builtin.zeroCells zv.cells n ++ Builtin.zeroCells zv.cells (c - n)).size := by rw [hfull]; exact hk'
      simp only [World.cell?, World.frozen?, hcells, Nat.zero_add]
      simp only [Option.isSome_none, Bool.false_eq_true, if_false]
      rw [Array.getElem?_eq_getElem this]
      simp
  refine hK _ _ no _ _ (Done.new (S1 := no) hk hfr' (fun ρ' hl _ => hrep) ?_) ⟨by simp, rfl⟩
  rintro b o ⟨rfl, _, _⟩
  exact ⟨Nat.le_refl _, by omega⟩
/-- The same at a slice of numbers. -/
theorem a_appZI {T Tn e i : Nat} {k1 kn : IntKind} {m : Int} (hu : P.underlying T = some (.slice e)) (hun : P.underlying Tn = some (.int kn)) (hT : zeroC P e = some [.int .i64 0]) (hT2 : appB P T 1 8 = true)
    (hx : opd st x = .one nilC) (hy : opd st y = .one (.d (.sc (.int k1 m)))) (hm : 0 < m) (hn : m ≤ 16777216) :
    Acts P g ⟨dst, .call { callee := .builtin .append, args := #[x, y], argTypes := #[T, Tn] }, ty, pos, after, guard⟩ st (.one (.gv i)) [] [(i, .row 1 (rows eI (List.replicate m.toNat 0)))] :=
  a_appZ hu hun hT hT2 (by decide) hx hy hm rfl (by omega) (by omega) (rows_rep eI 0 _)
end
end Go.Proofs.YtcmdfohamphndaaGreatDoor
end
section
set_option linter.unusedVariables false
set_option linter.unusedSimpArgs false
set_option maxRecDepth 100000
set_option maxHeartbeats 4000000
namespace Go.Proofs.YtcmdfohamphndaaGreatDoor
open Go Foot
theorem preB69 {p : Prop} (h : p := by first | with_reducible assumption | omega | (simp only [List.length_append, List.length_cons, List.length_nil, List.length_set, List.length_replicate, List.length_take, List.length_drop, List.length_tail, List.length_dropLast, List.length_reverse] at *; omega) | exact mem_len (by assumption) (by omega) | (with_reducible refine Int.le_trans (Int.ofNat_le.2 (trimR_len _)) ?_; simp only [List.length_cons, List.length_tail]; omega) | (exact (ruAt_ok (by assumption) (by assumption) (by assumption)).2.1) | (exact (ruAt_ok (by assumption) (by assumption) (by assumption)).2.1) | (have := vMach_bd (by assumption); omega) | (simp only [mC_ch, mC_tu]; omega) | (have := vTag_bd (by assumption); omega) | (have := (‹Gd _ _›).le; omega) | (exact tgHalts_no (by assumption)) | (exact tgHead (by assumption) (by assumption) (by assumption)) | (exact Int.le_trans (tgStep_gd (by assumption) (by assumption) (by assumption) (by assumption)).le (by decide)) | (exact vTag_r (by assumption)) | (with_reducible refine Int.le_trans (Int.ofNat_le.2 (pushL_len _ _)) ?_; simp only [List.length_dropLast]; omega) | exact ls_at (by assumption) (by omega) | exact pt_gd (by assumption) | exact lv_at (by assumption) (by omega) | exact pt_gd (lv_at (by assumption) (by omega)) | exact (ask_ok (by assumption)).1 | exact (ask_ok (by assumption)).2.1 | exact (ask_ok (by assumption)).2.2.1 | exact (ask_ok (by assumption)).2.2.2 | trivial) : p := h
theorem growI_ok (n : Int) (h0 : 0 ≤ n) (h1 : n ≤ 16777216) : Does Tryz.prog 226 [.one nilC, .one (int n)] [] (.one (.gv 0)) [roI []] := by
  refine does_of (k := 0) Tryz.func226 rfl Tryz.ntmps226 rfl rfl fun w F0 S0 ρ0 => ?_
  dsimp only [argT, argH]
  repeat' first | (apply n3; exact a_nilO eI rfl; exact rfl) | (apply p3; (first | exact pu1 | exact puC | exact a_cap0 rfl (fE rfl) | exact puN | exact a_len_str rfl (fT rfl) | exact a_sub rfl rfl (by omega) (by omega)); exact rfl) | refine cdn ?_ | refine g_reg (id := 0) ?_ | refine g_reg (id := 1) ?_ | refine g_reg (id := 2) ?_ | refine g_reg (id := 3) ?_ | refine g_reg (id := 4) ?_ | ((first | refine o_gs rfl rfl (fun hc => ?_) (fun hc => ?_) | refine g_cond rfl (fun hc => ?_) (fun hc => ?_)) <;> (try simp only [dcB] at hc) <;> (try first | contradiction | (exfalso; omega)))
  · repeat' first | (apply n3; exact a_nilO eI rfl; exact rfl) | (apply n3; exact a_appZI (fE rfl) (fK rfl) (fZ rfl) (fP rfl) rfl rfl (by omega) (by omega); exact rfl; refine dA ?_) | (apply p3; (first | exact pu1 | exact puC | exact a_cap0 rfl (fE rfl) | exact puN | exact a_len_str rfl (fT rfl) | exact a_sub rfl rfl (by omega) (by omega) | exact a_sl0 rfl rfl (fS rfl) | exact a_slH rfl rfl rfl (fS rfl) (by omega) (by omega) (by exact rfl)); exact rfl) | refine cd ?_ | (apply s3; exact a_slHO rfl rfl rfl (fS rfl) (by omega) (by omega) (by exact rfl) (by decide); exact rfl; exact rfl) | ((first | refine o_gs rfl rfl (fun hc => ?_) (fun hc => ?_) | refine g_cond rfl (fun hc => ?_) (fun hc => ?_)) <;> (try simp only [dcB] at hc) <;> (try first | contradiction | (exfalso; omega)))
    repeat refine cr ?_
    refine ends_id ?_
    refine endK [?_] (h2 := ?_) (h3 := ?_) (nd := ?_)
    rotate_left 1
    all_goals (repeat' first | exact ce0 | refine ce ?_ | refine ce2 ?_ ?_ | exact SVLe.refl | refine ceb ?_)
    all_goals first | exact (show nodupB _ = true from rfl) | exact Or.inr rfl | (rfl)
  · repeat' first | (apply n3; exact a_nilO eI rfl; exact rfl) | (apply n3; exact a_appZI (fE rfl) (fK rfl) (fZ rfl) (fP rfl) rfl rfl (by omega) (by omega); exact rfl; refine dA ?_) | (apply p3; (first | exact pu1 | exact puC | exact a_cap0 rfl (fE rfl) | exact puN | exact a_len_str rfl (fT rfl) | exact a_sub rfl rfl (by omega) (by omega) | exact a_sl0 rfl rfl (fS rfl) | exact a_slH rfl rfl rfl (fS rfl) (by omega) (by omega) (by exact rfl)); exact rfl) | refine cd ?_ | (apply s3; exact a_slHO rfl rfl rfl (fS rfl) (by omega) (by omega) (by exact rfl) (by decide); exact rfl; exact rfl) | ((first | refine o_gs rfl rfl (fun hc => ?_) (fun hc => ?_) | refine g_cond rfl (fun hc => ?_) (fun hc => ?_)) <;> (try simp only [dcB] at hc) <;> (try first | contradiction | (exfalso; omega)))
    repeat refine cr ?_
    refine ends_id ?_
    refine endK [?_] (h2 := ?_) (h3 := ?_) (nd := ?_)
    rotate_left 1
    all_goals (repeat' first | exact ce0 | refine ce ?_ | refine ce2 ?_ ?_ | exact SVLe.refl | refine ceb ?_)
    all_goals first | exact (show nodupB _ = true from rfl) | exact Or.inr rfl | (rfl)
theorem concatI_ok (ls : List (List Int)) (hn : (ls.length : Int) ≤ 16777216) (hl : ∀ x ∈ ls, (x.length : Int) ≤ 16777216) (ht : (ls.flatten.length : Int) ≤ 16777216) : Does Tryz.prog 191 [.one (shW ls)] [] (.one (.gv 0)) [roI ls.flatten] := by
  have key : ∀ i : Nat, (ls.take i).flatten.length ≤ ls.flatten.length := fun i => by
    have := congrArg (fun l => l.flatten.length) (List.take_append_drop i ls)
    simp only [List.flatten_append, List.length_append] at this
    omega
  have nx : ∀ (i : Int) (h0 : 0 ≤ i) (h : i.toNat < ls.length), (ls.take (i + 1).toNat).flatten = (ls.take i.toNat).flatten ++ ls[i.toNat] := fun i h0 h => by
    rw [show (i + 1).toNat = i.toNat + 1 by omega, List.take_succ_eq_append_getElem h, List.flatten_append, List.flatten_cons, List.flatten_nil, List.append_nil]
  refine does_of (k := 0) Tryz.func191 rfl Tryz.ntmps191 rfl rfl fun w F0 S0 ρ0 => ?_
  dsimp only [argT, argH]
  repeat' first | (apply n3; exact a_nilO eI rfl; exact rfl) | (apply n3; exact a_appN (fP rfl) rfl rfl rfl nowR (by first | omega | (simp; omega)) (by decide) (by exact rfl); exact rfl; refine dA ?_) | (apply p3; (first | exact pu1 | exact puL | exact puN | exact a_len_str rfl (fT rfl) | exact puC | exact a_add rfl rfl (by omega) (by omega) | exact puI); exact rfl) | refine cd ?_ | (apply s3; exact a_appE (fP rfl) rfl rfl rfl rfl nowR (by first | omega | (simp; omega)) (by decide) (by decide) (by exact rfl); exact rfl; exact rfl) | (apply c4 1; exact callK1 (θ := []) (hD := (growI_ok _ preB69 preB69)); exact rfl; exact rfl; exact rfl; refine dM ?_) | ((first | refine o_gs rfl rfl (fun hc => ?_) (fun hc => ?_) | refine g_cond rfl (fun hc => ?_) (fun hc => ?_)) <;> (try simp only [dcB] at hc) <;> (try first | contradiction | (exfalso; omega)))
  refine g_loop_id ?_
  refine loopK [0, 2, 9, 10] [] (fun y : Int × Int => 0 ≤ y.1 ∧ y.1 ≤ ls.length ∧ y.2 = (ls.take y.1.toNat).flatten.length) (fun y => [(11, .one (int y.1)), (3, .one (int y.2))]) (fun y => []) (fun y => (ls.length - y.1).toNat) ((0 : Int), (0 : Int)) [0] (hI := ?_) (hr := ?_)
  · exact ⟨by simp, by simp, by simp⟩
  · rintro ⟨i, s⟩ ⟨h0, h1, h2⟩
    dsimp only [List.cons_append, List.nil_append] at *
    skip
    repeat' first | (apply n3; exact a_appN (fP rfl) rfl rfl rfl nowR (by first | omega | (simp; omega)) (by decide) (by exact rfl); exact rfl; refine dA ?_) | (apply p3; (first | exact pu1 | exact puL | exact puC | exact puN | exact a_len_str rfl (fT rfl) | exact a_add rfl rfl (by omega) (by omega) | exact puI); exact rfl) | refine cdn ?_ | refine g_reg (id := 3) ?_ | refine g_reg (id := 10) ?_ | refine g_reg (id := 11) ?_ | refine g_reg (id := 12) ?_ | refine g_reg (id := 13) ?_ | refine g_reg (id := 14) ?_ | refine g_reg (id := 15) ?_ | (apply s3; exact a_appE (fP rfl) rfl rfl rfl rfl nowR (by first | omega | (simp; omega)) (by decide) (by decide) (by exact rfl); exact rfl; exact rfl) | (apply c4 1; exact callK1 (θ := []) (hD := (growI_ok _ preB69 preB69)); exact rfl; exact rfl; exact rfl; refine dM ?_) | ((first | refine o_gs rfl rfl (fun hc => ?_) (fun hc => ?_) | refine g_cond rfl (fun hc => ?_) (fun hc => ?_)) <;> (try simp only [dcB] at hc) <;> (try first | contradiction | (exfalso; omega)))
    · have hk := key i.toNat
      have hk2 := key (i + 1).toNat
      have hx := nx i h0 (by omega)
      have hv := hl _ (List.getElem_mem (show i.toNat < ls.length by omega))
      have hx2 := congrArg List.length hx
      rw [List.length_append] at hx2
      repeat' first | (apply n3; exact a_appN (fP rfl) rfl rfl rfl nowR (by first | omega | (simp; omega)) (by decide) (by exact rfl); exact rfl; refine dA ?_) | (apply p3; (first | exact pu1 | exact puL | exact puC | exact puN | exact a_len_str rfl (fT rfl) | exact a_add rfl rfl (by omega) (by omega) | exact puI); exact rfl) | refine cd ?_ | (apply s3; exact a_appE (fP rfl) rfl rfl rfl rfl nowR (by first | omega | (simp; omega)) (by decide) (by decide) (by exact rfl); exact rfl; exact rfl) | (apply c4 1; exact callK1 (θ := []) (hD := (growI_ok _ preB69 preB69)); exact rfl; exact rfl; exact rfl; refine dM ?_) | ((first | refine o_gs rfl rfl (fun hc => ?_) (fun hc => ?_) | refine g_cond rfl (fun hc => ?_) (fun hc => ?_)) <;> (try simp only [dcB] at hc) <;> (try first | contradiction | (exfalso; omega)))
      refine q_again (i + 1, _) [0] (by exact stk) ?_ ?_
      · exact ⟨by dsimp only; omega, by dsimp only; omega, by dsimp only; omega⟩
      · dsimp only; omega
    · have hk := key i.toNat
      repeat' first | (apply n3; exact a_appN (fP rfl) rfl rfl rfl nowR (by first | omega | (simp; omega)) (by decide) (by exact rfl); exact rfl; refine dA ?_) | (apply p3; (first | exact pu1 | exact puL | exact puC | exact puN | exact a_len_str rfl (fT rfl) | exact a_add rfl rfl (by omega) (by omega) | exact puI); exact rfl) | refine cd ?_ | (apply s3; exact a_appE (fP rfl) rfl rfl rfl rfl nowR (by first | omega | (simp; omega)) (by decide) (by decide) (by exact rfl); exact rfl; exact rfl) | (apply c4 1; exact callK1 (θ := []) (hD := (growI_ok _ preB69 preB69)); exact rfl; exact rfl; exact rfl; refine dM ?_) | ((first | refine o_gs rfl rfl (fun hc => ?_) (fun hc => ?_) | refine g_cond rfl (fun hc => ?_) (fun hc => ?_)) <;> (try simp only [dcB] at hc) <;> (try first | contradiction | (exfalso; omega)))
      refine g_loop_id ?_
      refine loopK [2, 6, 25, 26] [1] (fun y : Int × List Int => 0 ≤ y.1 ∧ y.1 ≤ ls.length ∧ y.2 = (ls.take y.1.toNat).flatten) (fun y => [(27, .one (int y.1))]) (fun y => [(1, roI y.2)]) (fun y => (ls.length - y.1).toNat) ((0 : Int), ([] : List Int)) [0, 1] (hI := ?_) (hr := ?_)
      · exact ⟨by simp, by simp, by simp⟩
      · rintro ⟨j, o⟩ ⟨j0, j1, j2⟩
        dsimp only [List.cons_append, List.nil_append] at *
        skip
        repeat' first | (apply p3; (first | exact pu1 | exact puC); exact rfl) | refine cdn ?_ | refine g_reg (id := 11) ?_ | ((first | refine o_gs rfl rfl (fun hc => ?_) (fun hc => ?_) | refine g_cond rfl (fun hc => ?_) (fun hc => ?_)) <;> (try simp only [dcB] at hc) <;> (try first | contradiction | (exfalso; omega)))
        · have hk2 := key (j + 1).toNat
          have hx := nx j j0 (by omega)
          have hv := hl _ (List.getElem_mem (show j.toNat < ls.length by omega))
          have hx2 := congrArg List.length hx
          rw [List.length_append] at hx2
          have hx3 := congrArg List.length j2
          repeat' first | (apply n3; exact a_appN (fP rfl) rfl rfl rfl nowR (by first | omega | (simp; omega)) (by decide) (by exact rfl); exact rfl; refine dA ?_) | (apply p3; (first | exact pu1 | exact puL | exact puC | exact a_add rfl rfl (by omega) (by omega) | exact puI); exact rfl) | refine cd ?_ | (apply s3; exact a_appE (fP rfl) rfl rfl rfl rfl nowR (by first | omega | (simp; omega)) (by decide) (by decide) (by exact rfl); exact rfl; exact rfl) | ((first | refine o_gs rfl rfl (fun hc => ?_) (fun hc => ?_) | refine g_cond rfl (fun hc => ?_) (fun hc => ?_)) <;> (try simp only [dcB] at hc) <;> (try first | contradiction | (exfalso; omega)))
          refine q_again (j + 1, _) [0, 2] (by exact stk) ?_ ?_
          · exact ⟨by dsimp only; omega, by dsimp only; omega, by dsimp only; rw [hx, j2]⟩
          · dsimp only; omega
        · rw [List.take_of_length_le (by omega)] at j2
          rw [← j2]
          repeat' first | (apply n3; exact a_appN (fP rfl) rfl rfl rfl nowR (by first | omega | (simp; omega)) (by decide) (by exact rfl); exact rfl; refine dA ?_) | (apply p3; (first | exact pu1 | exact puL | exact puC | exact a_add rfl rfl (by omega) (by omega) | exact puI); exact rfl) | refine cd ?_ | (apply s3; exact a_appE (fP rfl) rfl rfl rfl rfl nowR (by first | omega | (simp; omega)) (by decide) (by decide) (by exact rfl); exact rfl; exact rfl) | ((first | refine o_gs rfl rfl (fun hc => ?_) (fun hc => ?_) | refine g_cond rfl (fun hc => ?_) (fun hc => ?_)) <;> (try simp only [dcB] at hc) <;> (try first | contradiction | (exfalso; omega)))
          repeat refine cr ?_
          refine ends_id ?_
          refine endK [?_] (h2 := ?_) (h3 := ?_) (nd := ?_)
          rotate_left 1
          all_goals (repeat' first | exact ce0 | refine ce ?_ | refine ce2 ?_ ?_ | exact SVLe.refl | refine ceb ?_)
          all_goals first | exact (show nodupB _ = true from rfl) | exact Or.inr rfl | (rfl)
/-- Lists that are small together. -/
structure JnOk (ls : List (List Int)) : Prop where
  n : (ls.length : Int) ≤ 16777216
  l : ∀ x ∈ ls, (x.length : Int) ≤ 16777216
  t : (ls.flatten.length : Int) ≤ 16777216
theorem jn_two {a b : List Int} (h : (a.length : Int) + b.length ≤ 16777216) : JnOk [a, b] := by
  refine ⟨by simp, fun x hx => ?_, by simp; omega⟩
  simp only [List.mem_cons, List.not_mem_nil, or_false] at hx
  rcases hx with rfl | rfl <;> omega
theorem joined_ok (ls : List (List Int)) (g : JnOk ls) : Does Tryz.prog 128 [.one (shW ls)] [] (.one (.gv 0)) [roI ls.flatten] := by
  obtain ⟨hn, hl, ht⟩ := g
  refine does_of (k := 0) Tryz.func128 rfl Tryz.ntmps128 rfl rfl fun w F0 S0 ρ0 => ?_
  dsimp only [argT, argH]
  repeat' first | (apply p3; exact pu1; exact rfl) | refine cd ?_ | (apply c4 1; exact callK1 (θ := []) (hD := (concatI_ok _ preB69 preB69 preB69)); exact rfl; exact rfl; exact rfl; refine dM ?_) | ((first | refine o_gs rfl rfl (fun hc => ?_) (fun hc => ?_) | refine g_cond rfl (fun hc => ?_) (fun hc => ?_)) <;> (try simp only [dcB] at hc) <;> (try first | contradiction | (exfalso; omega)))
  repeat refine cr ?_
  refine ends_id ?_
  refine endK [?_] (h2 := ?_) (h3 := ?_) (nd := ?_)
  rotate_left 1
  all_goals (repeat' first | exact ce0 | refine ce ?_ | refine ce2 ?_ ?_ | exact SVLe.refl | refine ceb ?_)
  all_goals first | exact (show nodupB _ = true from rfl) | exact Or.inr rfl | (rfl)
end Go.Proofs.YtcmdfohamphndaaGreatDoor
end
section
set_option linter.unusedVariables false
set_option linter.unusedSimpArgs false
set_option maxRecDepth 100000
set_option maxHeartbeats 4000000
namespace Go.Proofs.YtcmdfohamphndaaGreatDoor
open Go Foot
theorem vMach_len {m : Mach} (hm : vMach m = true) : (m.ru.length : Int) ≤ 6000 := by
  have hb := vMach_bd hm
  have : m.sy * m.st ≤ 6 * 1000 := Int.mul_le_mul hb.1.2 hb.2.1.2 (by omega) (by omega)
  omega
end Go.Proofs.YtcmdfohamphndaaGreatDoor
end
section
set_option linter.unusedVariables false
set_option linter.unusedSimpArgs false
set_option maxRecDepth 100000
set_option maxHeartbeats 4000000
namespace Go.Proofs.YtcmdfohamphndaaGreatDoor
open Go Foot
/-- A partial configuration of a machine. -/
structure PtOk (m : Mach) (x : Part) : Prop where
  s : 0 ≤ x.st ∧ x.st ≤ m.st - 1
  a : 0 ≤ x.pl ∧ x.pl < x.ce.length
  l : (x.ce.length : Int) ≤ 60
  c : ∀ v ∈ x.ce, 0 ≤ v ∧ v ≤ m.sy - 1
theorem pt_gd {m : Mach} {x : Part} (g : PtOk m x) : PtGd x := ⟨g.a.1, g.a.2, by have := g.l; omega⟩
theorem idx_bd {m : Mach} (hm : vMach m = true) {i : Int} (h0 : 0 ≤ i) (h : i < m.ru.length) : (0 ≤ i / m.sy ∧ i / m.sy ≤ m.st - 1) ∧ 0 ≤ i % m.sy ∧ i % m.sy ≤ m.sy - 1 := by
  have hb := vMach_bd hm
  have h1 : i / m.sy < m.st := Int.ediv_lt_of_lt_mul (by omega) (by rw [Int.mul_comm]; omega)
  have h2 := Int.ediv_nonneg h0 (show 0 ≤ m.sy by omega)
  have h3 := Int.emod_nonneg i (show m.sy ≠ 0 by omega)
  have h4 := Int.emod_lt_of_pos i (show 0 < m.sy by omega)
  omega
theorem bef_ok {m : Mach} {x y : Part} {i : Int} (hm : vMach m = true) (g : PtOk m x) (h0 : 0 ≤ i) (h : i < m.ru.length) (e : befP m x i = some y) : (y.ce.length : Int) ≤ 61 ∧ ((y.ce.length : Int) ≤ 60 → PtOk m y) := by
  obtain ⟨g1, g2, g3, g4⟩ := g
  unfold befP at e
  split at e
  · cases e
  · rename_i hn
    have hk := ruI_ok hm h0 h (fun q => hn (.inl q))
    obtain ⟨i1, i2⟩ := idx_bd hm h0 h
    split at e
    · cases e
    · rename_i hw
      simp only [Option.some.injEq] at e
      subst e
      dsimp only
      have key : ((wid x (x.pl - (ruI m i).m) (ruI m i).w).1.length : Int) ≤ 61 ∧ 0 ≤ (wid x (x.pl - (ruI m i).m) (ruI m i).w).2 ∧ (wid x (x.pl - (ruI m i).m) (ruI m i).w).2 < (wid x (x.pl - (ruI m i).m) (ruI m i).w).1.length ∧ ∀ v ∈ (wid x (x.pl - (ruI m i).m) (ruI m i).w).1, 0 ≤ v ∧ v ≤ m.sy - 1 := by
        unfold wid
        split
        · dsimp only
          refine ⟨by simp <;> omega, by simp, by simp <;> omega, fun v hv => ?_⟩
          rcases List.mem_cons.1 hv with rfl | hv
          · exact hk.1
          · exact g4 v hv
        · split
          · dsimp only
            refine ⟨by simp; omega, by omega, by simp; omega, fun v hv => ?_⟩
            rcases List.mem_append.1 hv with hv | hv
            · exact g4 v hv
            · rw [List.mem_singleton.1 hv]; exact hk.1
          · dsimp only
            exact ⟨by omega, by omega, by rcases hk.2.1 with q | q <;> omega, g4⟩
      refine ⟨by rw [List.length_set]; exact key.1, fun hl => ⟨i1, ⟨key.2.1, by rw [List.length_set]; exact key.2.2.1⟩, hl, fun v hv => ?_⟩⟩
      rcases List.mem_or_eq_of_mem_set hv with hv | rfl
      · exact key.2.2.2 v hv
      · exact i2
def prdF (m : Mach) (x : Part) : Nat → Option (List Part)
  | 0 => some []
  | i + 1 => match prdF m x i with
    | none => none
    | some l => match befP m x i with
      | none => some l
      | some y => if 60 < (y.ce.length : Int) then none else some (l ++ [y])
@[irreducible] def prds (m : Mach) (x : Part) : Option (List Part) := prdF m x m.ru.length
theorem prdF_next (m : Mach) (x : Part) {i : Int} (h0 : 0 ≤ i) : prdF m x (i + 1).toNat = match prdF m x i.toNat with
    | none => none
    | some l => match befP m x i with
      | none => some l
      | some y => if 60 < (y.ce.length : Int) then none else some (l ++ [y]) := by
  rw [show (i + 1).toNat = i.toNat + 1 by omega, prdF, show ((i.toNat : Nat) : Int) = i by omega]
theorem prdF_none {m : Mach} {x : Part} : ∀ {n i : Nat}, prdF m x i = none → i ≤ n → prdF m x n = none
  | 0, i, h, hi => by
    have e : i = 0 := by omega
    rw [← e]
    exact h
  | n + 1, i, h, hi => by
    by_cases e : i = n + 1
    · rw [← e]; exact h
    · rw [prdF, prdF_none h (by omega)]
theorem prdF_len {m : Mach} {x : Part} : ∀ {i : Nat} {l : List Part}, prdF m x i = some l → l.length ≤ i
  | 0, l, h => by simp only [prdF, Option.some.injEq] at h; subst h; simp
  | i + 1, l, h => by
    rw [prdF] at h
    split at h
    · cases h
    · rename_i l0 h0
      have := prdF_len h0
      split at h
      · cases h; omega
      · split at h
        · cases h
        · cases h; simp; omega
theorem prdF_ok {m : Mach} {x : Part} (hm : vMach m = true) (g : PtOk m x) : ∀ {i : Nat} {l : List Part}, i ≤ m.ru.length → prdF m x i = some l → ∀ y ∈ l, PtOk m y
  | 0, l, _, h => by simp only [prdF, Option.some.injEq] at h; subst h; simp
  | i + 1, l, hi, h => by
    rw [prdF] at h
    split at h
    · cases h
    · rename_i l0 h0
      have ih := prdF_ok hm g (by omega) h0
      split at h
      · cases h; exact ih
      · rename_i y hy
        split at h
        · cases h
        · rename_i hn
          cases h
          intro z hz
          rcases List.mem_append.1 hz with hz | hz
          · exact ih z hz
          · rw [List.mem_singleton.1 hz]
            exact (bef_ok hm g (by omega) (by omega) hy).2 (by omega)
end Go.Proofs.YtcmdfohamphndaaGreatDoor
end
section
set_option linter.unusedVariables false
set_option linter.unusedSimpArgs false
set_option maxRecDepth 100000
set_option maxHeartbeats 4000000
namespace Go.Proofs.YtcmdfohamphndaaGreatDoor
open Go Foot
/-- Levels. -/
structure LvOk (m : Mach) (l : List Part) : Prop where
  n : (l.length : Int) ≤ 6000
  a : ∀ x ∈ l, PtOk m x
theorem lv_at {m : Mach} {l : List Part} (g : LvOk m l) {i : Nat} (h : i < l.length) : PtOk m l[i] := g.a _ (List.getElem_mem h)
end Go.Proofs.YtcmdfohamphndaaGreatDoor
end
section
set_option linter.unusedVariables false
set_option linter.unusedSimpArgs false
set_option maxRecDepth 100000
set_option maxHeartbeats 4000000
namespace Go.Proofs.YtcmdfohamphndaaGreatDoor
open Go Foot
end Go.Proofs.YtcmdfohamphndaaGreatDoor
end
section
set_option linter.unusedVariables false
set_option linter.unusedSimpArgs false
set_option maxRecDepth 100000
set_option maxHeartbeats 4000000
namespace Go.Proofs.YtcmdfohamphndaaGreatDoor
open Go Foot
end Go.Proofs.YtcmdfohamphndaaGreatDoor
end
section
set_option linter.unusedVariables false
set_option linter.unusedSimpArgs false
set_option maxRecDepth 100000
set_option maxHeartbeats 4000000
namespace Go.Proofs.YtcmdfohamphndaaGreatDoor
open Go Foot
end Go.Proofs.YtcmdfohamphndaaGreatDoor
end
section
set_option linter.unusedVariables false
set_option linter.unusedSimpArgs false
set_option maxRecDepth 100000
set_option maxHeartbeats 4000000
namespace Go.Proofs.YtcmdfohamphndaaGreatDoor
open Go Foot
theorem preB71 {p : Prop} (h : p := by first | with_reducible assumption | omega | (simp only [List.length_append, List.length_cons, List.length_nil, List.length_set, List.length_replicate, List.length_take, List.length_drop, List.length_tail, List.length_dropLast, List.length_reverse] at *; omega) | exact mem_len (by assumption) (by omega) | (with_reducible refine Int.le_trans (Int.ofNat_le.2 (trimR_len _)) ?_; simp only [List.length_cons, List.length_tail]; omega) | (exact (ruAt_ok (by assumption) (by assumption) (by assumption)).2.1) | (exact (ruAt_ok (by assumption) (by assumption) (by assumption)).2.1) | (have := vMach_bd (by assumption); omega) | (simp only [mC_ch, mC_tu]; omega) | (have := vTag_bd (by assumption); omega) | (have := (‹Gd _ _›).le; omega) | (exact tgHalts_no (by assumption)) | (exact tgHead (by assumption) (by assumption) (by assumption)) | (exact Int.le_trans (tgStep_gd (by assumption) (by assumption) (by assumption) (by assumption)).le (by decide)) | (exact vTag_r (by assumption)) | (with_reducible refine Int.le_trans (Int.ofNat_le.2 (pushL_len _ _)) ?_; simp only [List.length_dropLast]; omega) | exact ls_at (by assumption) (by omega) | exact pt_gd (by assumption) | exact lv_at (by assumption) (by omega) | exact pt_gd (lv_at (by assumption) (by omega)) | exact (ask_ok (by assumption)).1 | exact (ask_ok (by assumption)).2.1 | exact (ask_ok (by assumption)).2.2.1 | exact (ask_ok (by assumption)).2.2.2 | trivial) : p := h
theorem predecessor_ok (m : Mach) (x : Part) (i : Int) (hm : vMach m = true) (gx : PtGd x) (h0 : 0 ≤ i) (h1 : i < m.ru.length) (hn : ¬ ruI m i = noR) : Does Tryz.prog 186 [.agg (paC x), .one (int (i / m.sy)), .one (int (i % m.sy)), .agg (ruC (ruI m i))] [] (.tup [(true, paC ((befP m x i).getD part0)), (false, [boo (befP m x i).isSome])]) [] := by
  obtain ⟨g1, g2, g3⟩ := gx
  have hb := vMach_bd hm
  have hk := ruI_ok hm h0 h1 hn
  have e1 : (ruI m i).n ≠ x.st → befP m x i = none := fun h => by unfold befP; rw [if_pos (.inr h)]
  have eb : (ruI m i).n = x.st → befP m x i = if (wid x (x.pl - (ruI m i).m) (ruI m i).w).1.getD (wid x (x.pl - (ruI m i).m) (ruI m i).w).2.toNat 0 ≠ (ruI m i).w then none else some ⟨i / m.sy, (wid x (x.pl - (ruI m i).m) (ruI m i).w).2, (wid x (x.pl - (ruI m i).m) (ruI m i).w).1.set (wid x (x.pl - (ruI m i).m) (ruI m i).w).2.toNat (i % m.sy)⟩ := fun q2 => by unfold befP; rw [if_neg (by rintro (q | q); exact hn q; exact q q2)]
  generalize ruI m i = r at *
  generalize i / m.sy = p at *
  generalize i % m.sy = a at *
  have j1 : JnOk [[a], x.ce] := jn_two (by simp; omega)
  have j2 : JnOk [x.ce, [a]] := jn_two (by simp; omega)
  refine does_of (k := 0) Tryz.func186 rfl Tryz.ntmps186 rfl rfl fun w F0 S0 ρ0 => ?_
  dsimp only [argT, argH]
  repeat' first | (apply p3; exact a_litF (dst := some 29) eI [_] rfl rfl rfl rfl rfl rfl rfl rfl nowR; exact rfl) | (apply p3; exact a_litF (dst := some 32) eW [_, _] rfl rfl rfl rfl rfl rfl rfl rfl nowR; exact rfl) | (apply p3; exact a_litF (dst := some 46) eI [_] rfl rfl rfl rfl rfl rfl rfl rfl nowR; exact rfl) | (apply p3; exact a_litF (dst := some 47) eW [_, _] rfl rfl rfl rfl rfl rfl rfl rfl nowR; exact rfl) | (apply n3; exact a_new (gb := .bx _) rfl; exact rfl; refine dA ?_) | (apply p3; (first | exact pu1 | exact puL | exact a_sub rfl rfl (by omega) (by omega) | exact a_ne rfl rfl | exact a_neS rfl rfl rfl | exact puC | exact a_eqS rfl rfl rfl | exact puI); exact rfl) | refine cd ?_ | (apply w3; (first | exact a_st_bx rfl rfl rfl rfl (fN rfl rfl) (Nat.le_of_ble_eq_true rfl) rfl | exact a_stE (E := eP) ⟨_, _, _⟩ rfl rfl rfl rfl (fN rfl rfl) bnd (by exact rfl) | exact a_st_rowI rfl rfl rfl rfl (fN rfl rfl) bnd | exact a_stE (E := eI) _ rfl rfl rfl rfl (fN rfl rfl) bnd (by exact rfl)); exact rfl; refine dS ?_) | (apply c4 1; exact callK1 (θ := []) (hD := (joined_ok _ preB71)); exact rfl; exact rfl; exact rfl; refine dM ?_) | (apply c4 0; exact callK1 (θ := []) (hD := (sizeI_ok _ preB71)); exact rfl; exact rfl; exact rfl; refine dM ?_) | (apply c4 1; exact callK1 (θ := []) (hD := (clone_ok _ preB71)); exact rfl; exact rfl; exact rfl; refine dM ?_) | (apply g_drN (id := 8) okM [[],[0],[],[0,1,2],[0,1,2,3],[],[5],[0,1,2,3,4,5,6],[0,1,2,3,4,5,6,7]] [([],[]),([],[]),([],[]),([],[]),([],[]),([],[]),([],[]),([],[]),([],[])] 0; (focus (refine dp 0 0 [53, 56, 57] [] (a_pure (sv := .one _) rfl) ?_; refine dp 1 1 [53, 56, 57] [] puL ?_; refine dp 2 0 [51, 52, 56, 57] [] pu1 ?_; refine dp 3 7 [56, 57] [] puI ?_; refine dp 4 15 [56, 57] [] puL ?_; refine dp 5 0 [51, 52, 53, 54, 55] [] (a_pure (sv := .one _) rfl) ?_; refine dp 6 1 [51, 52, 53, 54, 55] [] puL ?_; refine dp 7 127 [] [] (by first | exact a_ne rfl rfl | exact a_neS rfl rfl rfl) ?_; refine dp 8 255 [] [] pu1 ?_; (refine d_nil ?_; refine dN ?_))); any_goals kernel_rfl) | ((first | refine o_gs rfl rfl (fun hc => ?_) (fun hc => ?_) | refine g_cond rfl (fun hc => ?_) (fun hc => ?_)) <;> (try simp only [dcB] at hc) <;> (try first | contradiction | (exfalso; omega)))
  · rw [e1 (by assumption)]
    repeat refine cr ?_
    refine ends_id ?_
    refine endK [] (h2 := ?_) (h3 := ?_) (nd := ?_)
    all_goals (repeat' first | exact ce0 | refine ce ?_ | refine ce2 ?_ ?_ | exact SVLe.refl | refine ceb ?_)
    all_goals first | exact (show nodupB _ = true from rfl) | exact Or.inr rfl | (rfl)
  · have e : befP m x i = some ⟨p, 0, a :: x.ce⟩ := by
      rw [eb (by assumption), wid_l (by assumption)]
      exact if_neg (by simp)
    rw [e, show ([[a], x.ce] : List (List Int)).flatten = a :: x.ce by simp]
    refine g_turn (t_freeze (i := 3) rfl nowR) ?_
    repeat refine cr ?_
    refine ends_id ?_
    refine endK [] (h2 := ?_) (h3 := ?_) (nd := ?_)
    all_goals (repeat' first | exact ce0 | refine ce ?_ | refine ce2 ?_ ?_ | exact SVLe.refl | refine ceb ?_)
    all_goals first | exact (show nodupB _ = true from rfl) | exact Or.inr rfl | (rfl)
  · have e : befP m x i = some ⟨p, x.pl - r.m, x.ce ++ [a]⟩ := by
      rw [eb (by assumption), wid_r (by assumption) (by assumption)]
      have hl : (x.pl - r.m).toNat = x.ce.length := by omega
      refine (if_neg ?_).trans ?_
      · dsimp only
        rw [getD_get (by simp; omega)]
        simp [hl]
      · dsimp only
        rw [hl, List.set_append_right _ _ (Nat.le_refl _)]
        simp
    rw [e, show ([x.ce, [a]] : List (List Int)).flatten = x.ce ++ [a] by simp]
    refine g_turn (t_freeze (i := 3) rfl nowR) ?_
    repeat refine cr ?_
    refine ends_id ?_
    refine endK [] (h2 := ?_) (h3 := ?_) (nd := ?_)
    all_goals (repeat' first | exact ce0 | refine ce ?_ | refine ce2 ?_ ?_ | exact SVLe.refl | refine ceb ?_)
    all_goals first | exact (show nodupB _ = true from rfl) | exact Or.inr rfl | (rfl)
  · have e : befP m x i = none := by
      rw [eb (by assumption), wid_m (by assumption) (by assumption)]
      have hlt : (x.pl - r.m).toNat < x.ce.length := by rcases hk.2.1 with q | q <;> omega
      exact if_pos (by rw [getD_get hlt]; exact hc)
    rw [e]
    repeat refine cr ?_
    refine ends_id ?_
    refine endK [] (h2 := ?_) (h3 := ?_) (nd := ?_)
    all_goals (repeat' first | exact ce0 | refine ce ?_ | refine ce2 ?_ ?_ | exact SVLe.refl | refine ceb ?_)
    all_goals first | exact (show nodupB _ = true from rfl) | exact Or.inr rfl | (rfl)
  · have e : befP m x i = some ⟨p, x.pl - r.m, x.ce.set (x.pl - r.m).toNat a⟩ := by
      rw [eb (by assumption), wid_m (by assumption) (by assumption)]
      have hlt : (x.pl - r.m).toNat < x.ce.length := by rcases hk.2.1 with q | q <;> omega
      exact if_neg (by rw [getD_get hlt]; exact fun h => h hc)
    rw [e]
    refine g_turn (t_freeze (i := 3) rfl nowR) ?_
    repeat refine cr ?_
    refine ends_id ?_
    refine endK [] (h2 := ?_) (h3 := ?_) (nd := ?_)
    all_goals (repeat' first | exact ce0 | refine ce ?_ | refine ce2 ?_ ?_ | exact SVLe.refl | refine ceb ?_)
    all_goals first | exact (show nodupB _ = true from rfl) | exact Or.inr rfl | (rfl)
theorem predecessors_ok (m : Mach) (x : Part) (hm : vMach m = true) (g : PtOk m x) : Does Tryz.prog 124 [.agg (maC m), .agg (paC x)] [] (.tup [(false, [shPa ((prds m x).getD [])]), (false, [int (if (prds m x).isSome = true then 0 else 5)])]) [] := by
  have hl := vMach_len hm
  have hb := vMach_bd hm
  refine does_of (k := 0) Tryz.func124 rfl Tryz.ntmps124 rfl rfl fun w F0 S0 ρ0 => ?_
  dsimp only [argT, argH]
  repeat' first | (apply n3; (first | exact a_new (gb := .bx _) rfl | exact a_litE eP [] rfl rfl rfl rfl rfl rfl rfl rfl | exact a_litE eP [⟨_, _, _⟩] rfl rfl rfl rfl rfl rfl rfl rfl | exact a_appN (fP rfl) rfl rfl rfl nowR (by first | omega | (simp; omega)) (by decide) (by exact rfl)); exact rfl; refine dA ?_) | (apply p3; (first | exact pu1 | exact puL | exact puN | exact a_len_str rfl (fT rfl) | exact puC | exact a_add rfl rfl (by omega) (by omega) | exact puI); exact rfl) | refine cd ?_ | (apply s3; exact a_appE (fP rfl) rfl rfl rfl rfl nowR (by first | omega | (simp; omega)) (by decide) (by decide) (by exact rfl); exact rfl; exact rfl) | (apply w3; (first | exact a_st_bx rfl rfl rfl rfl (fN rfl rfl) (Nat.le_of_ble_eq_true rfl) rfl | exact a_stE (E := eR) ⟨_, _, _⟩ rfl rfl rfl rfl (fN rfl rfl) bnd (by exact rfl)); exact rfl; refine dS ?_) | (apply c4 0; exact callK1 (θ := []) (hD := (isRule_ok _)); exact rfl; exact rfl; exact rfl; refine dM ?_) | (apply g_drN (id := 6) okM [[],[],[],[2],[1,2,3],[],[],[6],[5,6,7],[],[0,1,2,3,4,5,6,7,8,9],[0,1,2,3,4,5,6,7,8,9,10],[0,1,2,3,4,5,6,7,8,9,10,11],[0,1,2,3,4,5,6,7,8,9,10,11],[],[0,1,2,3,4,5,6,7,8,9,10,11,12,14],[0,1,2,3,4,5,6,7,8,9,10,11,12,13,14,15]] [([],[]),([],[]),([],[]),([],[]),([],[]),([],[]),([],[]),([],[]),([],[]),([],[]),([],[]),([],[]),([],[]),([],[]),([0],[]),([],[4]),([],[])] 1; (focus (refine dp 0 0 [25, 26, 27, 28, 29, 30, 31, 32, 33, 9] [(true, 0)] puL ?_; refine dp 1 0 [24, 26, 27, 29, 30, 31, 32, 33, 9] [(true, 0)] pu1 ?_; refine dp 2 0 [24, 25, 29, 30, 31, 32, 33, 9] [(true, 0)] (a_pure (sv := .one _) rfl) ?_; refine dp 3 1 [24, 25, 29, 30, 31, 32, 33, 9] [(true, 0)] puL ?_; refine dp 4 7 [24, 29, 30, 31, 32, 33, 9] [(true, 0)] (a_quo rfl rfl (by omega) (by omega) (by omega)) ?_; refine dp 5 0 [24, 25, 26, 27, 28, 30, 31, 33, 9] [(true, 0)] pu1 ?_; refine dp 6 0 [24, 25, 26, 27, 28, 29, 33, 9] [(true, 0)] (a_pure (sv := .one _) rfl) ?_; refine dp 7 1 [24, 25, 26, 27, 28, 29, 33, 9] [(true, 0)] puL ?_; refine dp 8 7 [24, 25, 26, 27, 28, 33, 9] [(true, 0)] (a_rem rfl rfl (by omega) (by omega) (by omega)) ?_; refine dp 9 0 [24, 25, 26, 27, 28, 29, 30, 31, 32, 9] [(true, 0)] puL ?_; refine dp 10 1023 [9] [(true, 0)] (callD0 (n := _) 0 (θ := []) (hD := (predecessor_ok _ _ _ preB71 preB71 preB71 preB71 preB71))) ?_; refine dp 11 2047 [9] [(true, 0)] pu1 ?_; refine dp 12 4095 [36, 9] [(true, 0)] pu2 ?_; refine dp 13 8190 [35, 9] [(true, 0), (false, 4)] pu2 ?_; refine duE 14 0 [24, 25, 26, 27, 28, 29, 30, 31, 32, 33, 34, 23, 35, 36] [] (atN 0 (fun _ => a_new (gb := .bx _) rfl)) (by exact rfl) (by exact rfl) ?_; refine duE 15 32765 [36] [] (by first | exact a_st_bx rfl rfl rfl rfl (fN rfl rfl) (Nat.le_of_ble_eq_true rfl) rfl | exact a_stF (E := eR) ⟨_, _, _⟩ rfl rfl rfl rfl (fN rfl rfl) (Nat.le_of_ble_eq_true rfl) (Nat.le_of_ble_eq_true rfl) (by first | exact List.getElem?_set_self bnd | exact List.getElem?_eq_getElem bnd) (by (try dsimp only [setRow, List.set_cons_succ, List.set_cons_zero]); first | done | exact rfl) rfl | exact a_stE (E := eP) ⟨_, _, _⟩ rfl rfl rfl rfl (fN rfl rfl) bnd (by exact rfl)) (by exact rfl) (by exact rfl) ?_; refine dp 16 65535 [] [] pu1 ?_; (refine d_nil ?_; refine dN ?_))); any_goals kernel_rfl) | ((first | refine o_gs rfl rfl (fun hc => ?_) (fun hc => ?_) | refine g_cond rfl (fun hc => ?_) (fun hc => ?_)) <;> (try simp only [dcB] at hc) <;> (try first | contradiction | (exfalso; omega)))
  refine g_loop_id ?_
  refine loopK [2, 3, 4, 5, 6, 13, 14] [2] (fun y : Int × List Part => 0 ≤ y.1 ∧ y.1 ≤ m.ru.length ∧ prdF m x y.1.toNat = some y.2) (fun y => [(15, .one (int y.1))]) (fun y => [(2, roPa y.2)]) (fun y => (m.ru.length - y.1).toNat) ((0 : Int), ([] : List Part)) [0, 1, 2] (hI := ?_) (hr := ?_)
  · exact ⟨by simp, by simp, rfl⟩
  · rintro ⟨i, out⟩ ⟨h0, h1, h2⟩
    dsimp only [List.cons_append, List.nil_append] at *
    skip
    repeat' first | (apply p3; (first | exact pu1 | exact puC); exact rfl) | refine cdn ?_ | refine g_reg (id := 3) ?_ | refine g_reg (id := 12) ?_ | ((first | refine o_gs rfl rfl (fun hc => ?_) (fun hc => ?_) | refine g_cond rfl (fun hc => ?_) (fun hc => ?_)) <;> (try simp only [dcB] at hc) <;> (try first | contradiction | (exfalso; omega)))
    · have ho := prdF_len h2
      have hn := prdF_next m x h0
      rw [h2] at hn
      dsimp only at hn
      have hg := ruI_get (m := m) (i := i) (by omega)
      have hi := idx_bd hm h0 hc
      have hq := hc
      repeat' first | (apply n3; exact a_new (gb := .bx _) rfl; exact rfl; refine dA ?_) | (apply p3; (first | exact pu1 | exact puL | exact puC | exact puI); exact rfl) | refine cdn ?_ | refine g_reg (id := 3) ?_ | refine g_reg (id := 4) ?_ | refine g_reg (id := 12) ?_ | (apply w3; (first | exact a_st_bx rfl rfl rfl rfl (fN rfl rfl) (Nat.le_of_ble_eq_true rfl) rfl | exact a_stE (E := eR) ⟨_, _, _⟩ rfl rfl rfl rfl (fN rfl rfl) bnd (by exact rfl)); exact rfl; refine dS ?_) | ((first | refine o_gs rfl rfl (fun hc => ?_) (fun hc => ?_) | refine g_cond rfl (fun hc => ?_) (fun hc => ?_)) <;> (try simp only [dcB] at hc) <;> (try first | contradiction | (exfalso; omega)))
      simp only [hg]
      by_cases hr : ruI m i = noR
      · have hr2 : ¬ ¬ ruI m i = ⟨0, 0, -1⟩ := fun h => h hr
        have hf : befP m x i = none := by unfold befP; rw [if_pos (.inl hr)]
        rw [hf] at hn
        dsimp only at hn
        repeat' first | (apply n3; (first | exact a_new (gb := .bx _) rfl | exact a_litE eP [⟨_, _, _⟩] rfl rfl rfl rfl rfl rfl rfl rfl | exact a_appN (fP rfl) rfl rfl rfl nowR (by first | omega | (simp; omega)) (by decide) (by exact rfl)); exact rfl; refine dA ?_) | (apply p3; (first | exact pu1 | exact puL | exact puC | exact puN | exact a_len_str rfl (fT rfl) | exact a_add rfl rfl (by omega) (by omega) | exact puI); exact rfl) | refine cd ?_ | (apply s3; exact a_appE (fP rfl) rfl rfl rfl rfl nowR (by first | omega | (simp; omega)) (by decide) (by decide) (by exact rfl); exact rfl; exact rfl) | (apply w3; (first | exact a_st_bx rfl rfl rfl rfl (fN rfl rfl) (Nat.le_of_ble_eq_true rfl) rfl | exact a_stE (E := eR) ⟨_, _, _⟩ rfl rfl rfl rfl (fN rfl rfl) bnd (by exact rfl)); exact rfl; refine dS ?_) | (apply c4 0; exact callK1 (θ := []) (hD := (isRule_ok _)); exact rfl; exact rfl; exact rfl; refine dM ?_) | (apply g_drN (id := 6) okM [[],[],[],[2],[1,2,3],[],[],[6],[5,6,7],[],[0,1,2,3,4,5,6,7,8,9],[0,1,2,3,4,5,6,7,8,9,10],[0,1,2,3,4,5,6,7,8,9,10,11],[0,1,2,3,4,5,6,7,8,9,10,11],[],[0,1,2,3,4,5,6,7,8,9,10,11,12,14],[0,1,2,3,4,5,6,7,8,9,10,11,12,13,14,15]] [([],[]),([],[]),([],[]),([],[]),([],[]),([],[]),([],[]),([],[]),([],[]),([],[]),([],[]),([],[]),([],[]),([],[]),([0],[]),([],[4]),([],[])] 1; (focus (refine dp 0 0 [25, 26, 27, 28, 29, 30, 31, 32, 33, 9] [(true, 0)] puL ?_; refine dp 1 0 [24, 26, 27, 29, 30, 31, 32, 33, 9] [(true, 0)] pu1 ?_; refine dp 2 0 [24, 25, 29, 30, 31, 32, 33, 9] [(true, 0)] (a_pure (sv := .one _) rfl) ?_; refine dp 3 1 [24, 25, 29, 30, 31, 32, 33, 9] [(true, 0)] puL ?_; refine dp 4 7 [24, 29, 30, 31, 32, 33, 9] [(true, 0)] (a_quo rfl rfl (by omega) (by omega) (by omega)) ?_; refine dp 5 0 [24, 25, 26, 27, 28, 30, 31, 33, 9] [(true, 0)] pu1 ?_; refine dp 6 0 [24, 25, 26, 27, 28, 29, 33, 9] [(true, 0)] (a_pure (sv := .one _) rfl) ?_; refine dp 7 1 [24, 25, 26, 27, 28, 29, 33, 9] [(true, 0)] puL ?_; refine dp 8 7 [24, 25, 26, 27, 28, 33, 9] [(true, 0)] (a_rem rfl rfl (by omega) (by omega) (by omega)) ?_; refine dp 9 0 [24, 25, 26, 27, 28, 29, 30, 31, 32, 9] [(true, 0)] puL ?_; refine dp 10 1023 [9] [(true, 0)] (callD0 (n := _) 0 (θ := []) (hD := (predecessor_ok _ _ _ preB71 preB71 preB71 preB71 preB71))) ?_; refine dp 11 2047 [9] [(true, 0)] pu1 ?_; refine dp 12 4095 [36, 9] [(true, 0)] pu2 ?_; refine dp 13 8190 [35, 9] [(true, 0), (false, 4)] pu2 ?_; refine duE 14 0 [24, 25, 26, 27, 28, 29, 30, 31, 32, 33, 34, 23, 35, 36] [] (atN 0 (fun _ => a_new (gb := .bx _) rfl)) (by exact rfl) (by exact rfl) ?_; refine duE 15 32765 [36] [] (by first | exact a_st_bx rfl rfl rfl rfl (fN rfl rfl) (Nat.le_of_ble_eq_true rfl) rfl | exact a_stF (E := eR) ⟨_, _, _⟩ rfl rfl rfl rfl (fN rfl rfl) (Nat.le_of_ble_eq_true rfl) (Nat.le_of_ble_eq_true rfl) (by first | exact List.getElem?_set_self bnd | exact List.getElem?_eq_getElem bnd) (by (try dsimp only [setRow, List.set_cons_succ, List.set_cons_zero]); first | done | exact rfl) rfl | exact a_stE (E := eP) ⟨_, _, _⟩ rfl rfl rfl rfl (fN rfl rfl) bnd (by exact rfl)) (by exact rfl) (by exact rfl) ?_; refine dp 16 65535 [] [] pu1 ?_; (refine d_nil ?_; refine dN ?_))); any_goals kernel_rfl) | ((first | refine o_gs rfl rfl (fun hc => ?_) (fun hc => ?_) | refine g_cond rfl (fun hc => ?_) (fun hc => ?_)) <;> (try simp only [dcB] at hc) <;> (try first | contradiction | (exfalso; omega)))
        refine q_again (i + 1, out) [0, 1, 2] (by exact stk) ?_ ?_
        · exact ⟨by dsimp only; omega, by dsimp only; omega, hn⟩
        · dsimp only; omega
      · have hr2 : ¬ ruI m i = ⟨0, 0, -1⟩ := hr
        cases hf : befP m x i with
        | none =>
          rw [hf] at hn
          dsimp only at hn
          repeat' first | (apply n3; exact a_new (gb := .bx _) rfl; exact rfl; refine dA ?_) | (apply p3; (first | exact pu1 | exact puL | exact puC | exact puI); exact rfl) | refine cdn ?_ | refine g_reg (id := 3) ?_ | refine g_reg (id := 4) ?_ | refine g_reg (id := 5) ?_ | refine g_reg (id := 12) ?_ | (apply w3; (first | exact a_st_bx rfl rfl rfl rfl (fN rfl rfl) (Nat.le_of_ble_eq_true rfl) rfl | exact a_stE (E := eR) ⟨_, _, _⟩ rfl rfl rfl rfl (fN rfl rfl) bnd (by exact rfl)); exact rfl; refine dS ?_) | (apply c4 0; exact callK1 (θ := []) (hD := (isRule_ok _)); exact rfl; exact rfl; exact rfl; refine dM ?_) | (apply g_drN (id := 6) okM [[],[],[],[2],[1,2,3],[],[],[6],[5,6,7],[],[0,1,2,3,4,5,6,7,8,9],[0,1,2,3,4,5,6,7,8,9,10],[0,1,2,3,4,5,6,7,8,9,10,11],[0,1,2,3,4,5,6,7,8,9,10,11],[],[0,1,2,3,4,5,6,7,8,9,10,11,12,14],[0,1,2,3,4,5,6,7,8,9,10,11,12,13,14,15]] [([],[]),([],[]),([],[]),([],[]),([],[]),([],[]),([],[]),([],[]),([],[]),([],[]),([],[]),([],[]),([],[]),([],[]),([0],[]),([],[4]),([],[])] 1; (focus (refine dp 0 0 [25, 26, 27, 28, 29, 30, 31, 32, 33, 9] [(true, 0)] puL ?_; refine dp 1 0 [24, 26, 27, 29, 30, 31, 32, 33, 9] [(true, 0)] pu1 ?_; refine dp 2 0 [24, 25, 29, 30, 31, 32, 33, 9] [(true, 0)] (a_pure (sv := .one _) rfl) ?_; refine dp 3 1 [24, 25, 29, 30, 31, 32, 33, 9] [(true, 0)] puL ?_; refine dp 4 7 [24, 29, 30, 31, 32, 33, 9] [(true, 0)] (a_quo rfl rfl (by omega) (by omega) (by omega)) ?_; refine dp 5 0 [24, 25, 26, 27, 28, 30, 31, 33, 9] [(true, 0)] pu1 ?_; refine dp 6 0 [24, 25, 26, 27, 28, 29, 33, 9] [(true, 0)] (a_pure (sv := .one _) rfl) ?_; refine dp 7 1 [24, 25, 26, 27, 28, 29, 33, 9] [(true, 0)] puL ?_; refine dp 8 7 [24, 25, 26, 27, 28, 33, 9] [(true, 0)] (a_rem rfl rfl (by omega) (by omega) (by omega)) ?_; refine dp 9 0 [24, 25, 26, 27, 28, 29, 30, 31, 32, 9] [(true, 0)] puL ?_; refine dp 10 1023 [9] [(true, 0)] (callD0 (n := _) 0 (θ := []) (hD := (predecessor_ok _ _ _ preB71 preB71 preB71 preB71 preB71))) ?_; refine dp 11 2047 [9] [(true, 0)] pu1 ?_; refine dp 12 4095 [36, 9] [(true, 0)] pu2 ?_; refine dp 13 8190 [35, 9] [(true, 0), (false, 4)] pu2 ?_; refine duE 14 0 [24, 25, 26, 27, 28, 29, 30, 31, 32, 33, 34, 23, 35, 36] [] (atN 0 (fun _ => a_new (gb := .bx _) rfl)) (by exact rfl) (by exact rfl) ?_; refine duE 15 32765 [36] [] (by first | exact a_st_bx rfl rfl rfl rfl (fN rfl rfl) (Nat.le_of_ble_eq_true rfl) rfl | exact a_stF (E := eR) ⟨_, _, _⟩ rfl rfl rfl rfl (fN rfl rfl) (Nat.le_of_ble_eq_true rfl) (Nat.le_of_ble_eq_true rfl) (by first | exact List.getElem?_set_self bnd | exact List.getElem?_eq_getElem bnd) (by (try dsimp only [setRow, List.set_cons_succ, List.set_cons_zero]); first | done | exact rfl) rfl | exact a_stE (E := eP) ⟨_, _, _⟩ rfl rfl rfl rfl (fN rfl rfl) bnd (by exact rfl)) (by exact rfl) (by exact rfl) ?_; refine dp 16 65535 [] [] pu1 ?_; (refine d_nil ?_; refine dN ?_))); any_goals kernel_rfl) | ((first | refine o_gs rfl rfl (fun hc => ?_) (fun hc => ?_) | refine g_cond rfl (fun hc => ?_) (fun hc => ?_)) <;> (try simp only [dcB] at hc) <;> (try first | contradiction | (exfalso; omega)))
          simp only [hf, Option.isSome_none, Option.getD_none]
          repeat' first | (apply n3; (first | exact a_new (gb := .bx _) rfl | exact a_litE eP [⟨_, _, _⟩] rfl rfl rfl rfl rfl rfl rfl rfl | exact a_appN (fP rfl) rfl rfl rfl nowR (by first | omega | (simp; omega)) (by decide) (by exact rfl)); exact rfl; refine dA ?_) | (apply p3; (first | exact pu1 | exact puL | exact puC | exact puN | exact a_len_str rfl (fT rfl) | exact a_add rfl rfl (by omega) (by omega) | exact puI); exact rfl) | refine cd ?_ | (apply s3; exact a_appE (fP rfl) rfl rfl rfl rfl nowR (by first | omega | (simp; omega)) (by decide) (by decide) (by exact rfl); exact rfl; exact rfl) | (apply w3; (first | exact a_st_bx rfl rfl rfl rfl (fN rfl rfl) (Nat.le_of_ble_eq_true rfl) rfl | exact a_stE (E := eR) ⟨_, _, _⟩ rfl rfl rfl rfl (fN rfl rfl) bnd (by exact rfl)); exact rfl; refine dS ?_) | (apply c4 0; exact callK1 (θ := []) (hD := (isRule_ok _)); exact rfl; exact rfl; exact rfl; refine dM ?_) | (apply g_drN (id := 6) okM [[],[],[],[2],[1,2,3],[],[],[6],[5,6,7],[],[0,1,2,3,4,5,6,7,8,9],[0,1,2,3,4,5,6,7,8,9,10],[0,1,2,3,4,5,6,7,8,9,10,11],[0,1,2,3,4,5,6,7,8,9,10,11],[],[0,1,2,3,4,5,6,7,8,9,10,11,12,14],[0,1,2,3,4,5,6,7,8,9,10,11,12,13,14,15]] [([],[]),([],[]),([],[]),([],[]),([],[]),([],[]),([],[]),([],[]),([],[]),([],[]),([],[]),([],[]),([],[]),([],[]),([0],[]),([],[4]),([],[])] 1; (focus (refine dp 0 0 [25, 26, 27, 28, 29, 30, 31, 32, 33, 9] [(true, 0)] puL ?_; refine dp 1 0 [24, 26, 27, 29, 30, 31, 32, 33, 9] [(true, 0)] pu1 ?_; refine dp 2 0 [24, 25, 29, 30, 31, 32, 33, 9] [(true, 0)] (a_pure (sv := .one _) rfl) ?_; refine dp 3 1 [24, 25, 29, 30, 31, 32, 33, 9] [(true, 0)] puL ?_; refine dp 4 7 [24, 29, 30, 31, 32, 33, 9] [(true, 0)] (a_quo rfl rfl (by omega) (by omega) (by omega)) ?_; refine dp 5 0 [24, 25, 26, 27, 28, 30, 31, 33, 9] [(true, 0)] pu1 ?_; refine dp 6 0 [24, 25, 26, 27, 28, 29, 33, 9] [(true, 0)] (a_pure (sv := .one _) rfl) ?_; refine dp 7 1 [24, 25, 26, 27, 28, 29, 33, 9] [(true, 0)] puL ?_; refine dp 8 7 [24, 25, 26, 27, 28, 33, 9] [(true, 0)] (a_rem rfl rfl (by omega) (by omega) (by omega)) ?_; refine dp 9 0 [24, 25, 26, 27, 28, 29, 30, 31, 32, 9] [(true, 0)] puL ?_; refine dp 10 1023 [9] [(true, 0)] (callD0 (n := _) 0 (θ := []) (hD := (predecessor_ok _ _ _ preB71 preB71 preB71 preB71 preB71))) ?_; refine dp 11 2047 [9] [(true, 0)] pu1 ?_; refine dp 12 4095 [36, 9] [(true, 0)] pu2 ?_; refine dp 13 8190 [35, 9] [(true, 0), (false, 4)] pu2 ?_; refine duE 14 0 [24, 25, 26, 27, 28, 29, 30, 31, 32, 33, 34, 23, 35, 36] [] (atN 0 (fun _ => a_new (gb := .bx _) rfl)) (by exact rfl) (by exact rfl) ?_; refine duE 15 32765 [36] [] (by first | exact a_st_bx rfl rfl rfl rfl (fN rfl rfl) (Nat.le_of_ble_eq_true rfl) rfl | exact a_stF (E := eR) ⟨_, _, _⟩ rfl rfl rfl rfl (fN rfl rfl) (Nat.le_of_ble_eq_true rfl) (Nat.le_of_ble_eq_true rfl) (by first | exact List.getElem?_set_self bnd | exact List.getElem?_eq_getElem bnd) (by (try dsimp only [setRow, List.set_cons_succ, List.set_cons_zero]); first | done | exact rfl) rfl | exact a_stE (E := eP) ⟨_, _, _⟩ rfl rfl rfl rfl (fN rfl rfl) bnd (by exact rfl)) (by exact rfl) (by exact rfl) ?_; refine dp 16 65535 [] [] pu1 ?_; (refine d_nil ?_; refine dN ?_))); any_goals kernel_rfl) | ((first | refine o_gs rfl rfl (fun hc => ?_) (fun hc => ?_) | refine g_cond rfl (fun hc => ?_) (fun hc => ?_)) <;> (try simp only [dcB] at hc) <;> (try first | contradiction | (exfalso; omega)))
          refine q_again (i + 1, out) [0, 1, 2] (by exact stk) ?_ ?_
          · exact ⟨by dsimp only; omega, by dsimp only; omega, hn⟩
          · dsimp only; omega
        | some y =>
          rw [hf] at hn
          dsimp only at hn
          have hy := bef_ok hm g h0 hq hf
          repeat' first | (apply n3; exact a_new (gb := .bx _) rfl; exact rfl; refine dA ?_) | (apply p3; (first | exact pu1 | exact puL | exact puC | exact puI); exact rfl) | refine cdn ?_ | refine g_reg (id := 3) ?_ | refine g_reg (id := 4) ?_ | refine g_reg (id := 5) ?_ | refine g_reg (id := 12) ?_ | (apply w3; (first | exact a_st_bx rfl rfl rfl rfl (fN rfl rfl) (Nat.le_of_ble_eq_true rfl) rfl | exact a_stE (E := eR) ⟨_, _, _⟩ rfl rfl rfl rfl (fN rfl rfl) bnd (by exact rfl)); exact rfl; refine dS ?_) | (apply c4 0; exact callK1 (θ := []) (hD := (isRule_ok _)); exact rfl; exact rfl; exact rfl; refine dM ?_) | (apply g_drN (id := 6) okM [[],[],[],[2],[1,2,3],[],[],[6],[5,6,7],[],[0,1,2,3,4,5,6,7,8,9],[0,1,2,3,4,5,6,7,8,9,10],[0,1,2,3,4,5,6,7,8,9,10,11],[0,1,2,3,4,5,6,7,8,9,10,11],[],[0,1,2,3,4,5,6,7,8,9,10,11,12,14],[0,1,2,3,4,5,6,7,8,9,10,11,12,13,14,15]] [([],[]),([],[]),([],[]),([],[]),([],[]),([],[]),([],[]),([],[]),([],[]),([],[]),([],[]),([],[]),([],[]),([],[]),([0],[]),([],[4]),([],[])] 1; (focus (refine dp 0 0 [25, 26, 27, 28, 29, 30, 31, 32, 33, 9] [(true, 0)] puL ?_; refine dp 1 0 [24, 26, 27, 29, 30, 31, 32, 33, 9] [(true, 0)] pu1 ?_; refine dp 2 0 [24, 25, 29, 30, 31, 32, 33, 9] [(true, 0)] (a_pure (sv := .one _) rfl) ?_; refine dp 3 1 [24, 25, 29, 30, 31, 32, 33, 9] [(true, 0)] puL ?_; refine dp 4 7 [24, 29, 30, 31, 32, 33, 9] [(true, 0)] (a_quo rfl rfl (by omega) (by omega) (by omega)) ?_; refine dp 5 0 [24, 25, 26, 27, 28, 30, 31, 33, 9] [(true, 0)] pu1 ?_; refine dp 6 0 [24, 25, 26, 27, 28, 29, 33, 9] [(true, 0)] (a_pure (sv := .one _) rfl) ?_; refine dp 7 1 [24, 25, 26, 27, 28, 29, 33, 9] [(true, 0)] puL ?_; refine dp 8 7 [24, 25, 26, 27, 28, 33, 9] [(true, 0)] (a_rem rfl rfl (by omega) (by omega) (by omega)) ?_; refine dp 9 0 [24, 25, 26, 27, 28, 29, 30, 31, 32, 9] [(true, 0)] puL ?_; refine dp 10 1023 [9] [(true, 0)] (callD0 (n := _) 0 (θ := []) (hD := (predecessor_ok _ _ _ preB71 preB71 preB71 preB71 preB71))) ?_; refine dp 11 2047 [9] [(true, 0)] pu1 ?_; refine dp 12 4095 [36, 9] [(true, 0)] pu2 ?_; refine dp 13 8190 [35, 9] [(true, 0), (false, 4)] pu2 ?_; refine duE 14 0 [24, 25, 26, 27, 28, 29, 30, 31, 32, 33, 34, 23, 35, 36] [] (atN 0 (fun _ => a_new (gb := .bx _) rfl)) (by exact rfl) (by exact rfl) ?_; refine duE 15 32765 [36] [] (by first | exact a_st_bx rfl rfl rfl rfl (fN rfl rfl) (Nat.le_of_ble_eq_true rfl) rfl | exact a_stF (E := eR) ⟨_, _, _⟩ rfl rfl rfl rfl (fN rfl rfl) (Nat.le_of_ble_eq_true rfl) (Nat.le_of_ble_eq_true rfl) (by first | exact List.getElem?_set_self bnd | exact List.getElem?_eq_getElem bnd) (by (try dsimp only [setRow, List.set_cons_succ, List.set_cons_zero]); first | done | exact rfl) rfl | exact a_stE (E := eP) ⟨_, _, _⟩ rfl rfl rfl rfl (fN rfl rfl) bnd (by exact rfl)) (by exact rfl) (by exact rfl) ?_; refine dp 16 65535 [] [] pu1 ?_; (refine d_nil ?_; refine dN ?_))); any_goals kernel_rfl) | ((first | refine o_gs rfl rfl (fun hc => ?_) (fun hc => ?_) | refine g_cond rfl (fun hc => ?_) (fun hc => ?_)) <;> (try simp only [dcB] at hc) <;> (try first | contradiction | (exfalso; omega)))
          simp only [hf, Option.isSome_some, Option.getD_some]
          by_cases hy6 : 60 < (y.ce.length : Int)
          · rw [if_pos hy6] at hn
            have e : prds m x = none := by unfold prds; exact prdF_none hn (by omega)
            rw [e]
            repeat' first | (apply n3; (first | exact a_new (gb := .bx _) rfl | exact a_litE eP [⟨_, _, _⟩] rfl rfl rfl rfl rfl rfl rfl rfl | exact a_appN (fP rfl) rfl rfl rfl nowR (by first | omega | (simp; omega)) (by decide) (by exact rfl)); exact rfl; refine dA ?_) | (apply p3; (first | exact pu1 | exact puL | exact puC | exact puN | exact a_len_str rfl (fT rfl) | exact a_add rfl rfl (by omega) (by omega) | exact puI); exact rfl) | refine cd ?_ | (apply s3; exact a_appE (fP rfl) rfl rfl rfl rfl nowR (by first | omega | (simp; omega)) (by decide) (by decide) (by exact rfl); exact rfl; exact rfl) | (apply w3; (first | exact a_st_bx rfl rfl rfl rfl (fN rfl rfl) (Nat.le_of_ble_eq_true rfl) rfl | exact a_stE (E := eR) ⟨_, _, _⟩ rfl rfl rfl rfl (fN rfl rfl) bnd (by exact rfl)); exact rfl; refine dS ?_) | (apply c4 0; exact callK1 (θ := []) (hD := (isRule_ok _)); exact rfl; exact rfl; exact rfl; refine dM ?_) | (apply g_drN (id := 6) okM [[],[],[],[2],[1,2,3],[],[],[6],[5,6,7],[],[0,1,2,3,4,5,6,7,8,9],[0,1,2,3,4,5,6,7,8,9,10],[0,1,2,3,4,5,6,7,8,9,10,11],[0,1,2,3,4,5,6,7,8,9,10,11],[],[0,1,2,3,4,5,6,7,8,9,10,11,12,14],[0,1,2,3,4,5,6,7,8,9,10,11,12,13,14,15]] [([],[]),([],[]),([],[]),([],[]),([],[]),([],[]),([],[]),([],[]),([],[]),([],[]),([],[]),([],[]),([],[]),([],[]),([0],[]),([],[4]),([],[])] 1; (focus (refine dp 0 0 [25, 26, 27, 28, 29, 30, 31, 32, 33, 9] [(true, 0)] puL ?_; refine dp 1 0 [24, 26, 27, 29, 30, 31, 32, 33, 9] [(true, 0)] pu1 ?_; refine dp 2 0 [24, 25, 29, 30, 31, 32, 33, 9] [(true, 0)] (a_pure (sv := .one _) rfl) ?_; refine dp 3 1 [24, 25, 29, 30, 31, 32, 33, 9] [(true, 0)] puL ?_; refine dp 4 7 [24, 29, 30, 31, 32, 33, 9] [(true, 0)] (a_quo rfl rfl (by omega) (by omega) (by omega)) ?_; refine dp 5 0 [24, 25, 26, 27, 28, 30, 31, 33, 9] [(true, 0)] pu1 ?_; refine dp 6 0 [24, 25, 26, 27, 28, 29, 33, 9] [(true, 0)] (a_pure (sv := .one _) rfl) ?_; refine dp 7 1 [24, 25, 26, 27, 28, 29, 33, 9] [(true, 0)] puL ?_; refine dp 8 7 [24, 25, 26, 27, 28, 33, 9] [(true, 0)] (a_rem rfl rfl (by omega) (by omega) (by omega)) ?_; refine dp 9 0 [24, 25, 26, 27, 28, 29, 30, 31, 32, 9] [(true, 0)] puL ?_; refine dp 10 1023 [9] [(true, 0)] (callD0 (n := _) 0 (θ := []) (hD := (predecessor_ok _ _ _ preB71 preB71 preB71 preB71 preB71))) ?_; refine dp 11 2047 [9] [(true, 0)] pu1 ?_; refine dp 12 4095 [36, 9] [(true, 0)] pu2 ?_; refine dp 13 8190 [35, 9] [(true, 0), (false, 4)] pu2 ?_; refine duE 14 0 [24, 25, 26, 27, 28, 29, 30, 31, 32, 33, 34, 23, 35, 36] [] (atN 0 (fun _ => a_new (gb := .bx _) rfl)) (by exact rfl) (by exact rfl) ?_; refine duE 15 32765 [36] [] (by first | exact a_st_bx rfl rfl rfl rfl (fN rfl rfl) (Nat.le_of_ble_eq_true rfl) rfl | exact a_stF (E := eR) ⟨_, _, _⟩ rfl rfl rfl rfl (fN rfl rfl) (Nat.le_of_ble_eq_true rfl) (Nat.le_of_ble_eq_true rfl) (by first | exact List.getElem?_set_self bnd | exact List.getElem?_eq_getElem bnd) (by (try dsimp only [setRow, List.set_cons_succ, List.set_cons_zero]); first | done | exact rfl) rfl | exact a_stE (E := eP) ⟨_, _, _⟩ rfl rfl rfl rfl (fN rfl rfl) bnd (by exact rfl)) (by exact rfl) (by exact rfl) ?_; refine dp 16 65535 [] [] pu1 ?_; (refine d_nil ?_; refine dN ?_))); any_goals kernel_rfl) | ((first | refine o_gs rfl rfl (fun hc => ?_) (fun hc => ?_) | refine g_cond rfl (fun hc => ?_) (fun hc => ?_)) <;> (try simp only [dcB] at hc) <;> (try first | contradiction | (exfalso; omega)))
            repeat refine cr ?_
            refine ends_id ?_
            refine endK [] (h2 := ?_) (h3 := ?_) (nd := ?_)
            all_goals (repeat' first | exact ce0 | refine ce ?_ | refine ce2 ?_ ?_ | exact SVLe.refl | refine ceb ?_)
            all_goals first | exact (show nodupB _ = true from rfl) | exact Or.inr rfl | (rfl)
          · rw [if_neg hy6] at hn
            repeat' first | (apply n3; (first | exact a_new (gb := .bx _) rfl | exact a_litE eP [⟨_, _, _⟩] rfl rfl rfl rfl rfl rfl rfl rfl | exact a_appN (fP rfl) rfl rfl rfl nowR (by first | omega | (simp; omega)) (by decide) (by exact rfl)); exact rfl; refine dA ?_) | (apply p3; (first | exact pu1 | exact puL | exact puC | exact puN | exact a_len_str rfl (fT rfl) | exact a_add rfl rfl (by omega) (by omega) | exact puI); exact rfl) | refine cd ?_ | (apply s3; exact a_appE (fP rfl) rfl rfl rfl rfl nowR (by first | omega | (simp; omega)) (by decide) (by decide) (by exact rfl); exact rfl; exact rfl) | (apply w3; (first | exact a_st_bx rfl rfl rfl rfl (fN rfl rfl) (Nat.le_of_ble_eq_true rfl) rfl | exact a_stE (E := eR) ⟨_, _, _⟩ rfl rfl rfl rfl (fN rfl rfl) bnd (by exact rfl)); exact rfl; refine dS ?_) | (apply c4 0; exact callK1 (θ := []) (hD := (isRule_ok _)); exact rfl; exact rfl; exact rfl; refine dM ?_) | (apply g_drN (id := 6) okM [[],[],[],[2],[1,2,3],[],[],[6],[5,6,7],[],[0,1,2,3,4,5,6,7,8,9],[0,1,2,3,4,5,6,7,8,9,10],[0,1,2,3,4,5,6,7,8,9,10,11],[0,1,2,3,4,5,6,7,8,9,10,11],[],[0,1,2,3,4,5,6,7,8,9,10,11,12,14],[0,1,2,3,4,5,6,7,8,9,10,11,12,13,14,15]] [([],[]),([],[]),([],[]),([],[]),([],[]),([],[]),([],[]),([],[]),([],[]),([],[]),([],[]),([],[]),([],[]),([],[]),([0],[]),([],[4]),([],[])] 1; (focus (refine dp 0 0 [25, 26, 27, 28, 29, 30, 31, 32, 33, 9] [(true, 0)] puL ?_; refine dp 1 0 [24, 26, 27, 29, 30, 31, 32, 33, 9] [(true, 0)] pu1 ?_; refine dp 2 0 [24, 25, 29, 30, 31, 32, 33, 9] [(true, 0)] (a_pure (sv := .one _) rfl) ?_; refine dp 3 1 [24, 25, 29, 30, 31, 32, 33, 9] [(true, 0)] puL ?_; refine dp 4 7 [24, 29, 30, 31, 32, 33, 9] [(true, 0)] (a_quo rfl rfl (by omega) (by omega) (by omega)) ?_; refine dp 5 0 [24, 25, 26, 27, 28, 30, 31, 33, 9] [(true, 0)] pu1 ?_; refine dp 6 0 [24, 25, 26, 27, 28, 29, 33, 9] [(true, 0)] (a_pure (sv := .one _) rfl) ?_; refine dp 7 1 [24, 25, 26, 27, 28, 29, 33, 9] [(true, 0)] puL ?_; refine dp 8 7 [24, 25, 26, 27, 28, 33, 9] [(true, 0)] (a_rem rfl rfl (by omega) (by omega) (by omega)) ?_; refine dp 9 0 [24, 25, 26, 27, 28, 29, 30, 31, 32, 9] [(true, 0)] puL ?_; refine dp 10 1023 [9] [(true, 0)] (callD0 (n := _) 0 (θ := []) (hD := (predecessor_ok _ _ _ preB71 preB71 preB71 preB71 preB71))) ?_; refine dp 11 2047 [9] [(true, 0)] pu1 ?_; refine dp 12 4095 [36, 9] [(true, 0)] pu2 ?_; refine dp 13 8190 [35, 9] [(true, 0), (false, 4)] pu2 ?_; refine duE 14 0 [24, 25, 26, 27, 28, 29, 30, 31, 32, 33, 34, 23, 35, 36] [] (atN 0 (fun _ => a_new (gb := .bx _) rfl)) (by exact rfl) (by exact rfl) ?_; refine duE 15 32765 [36] [] (by first | exact a_st_bx rfl rfl rfl rfl (fN rfl rfl) (Nat.le_of_ble_eq_true rfl) rfl | exact a_stF (E := eR) ⟨_, _, _⟩ rfl rfl rfl rfl (fN rfl rfl) (Nat.le_of_ble_eq_true rfl) (Nat.le_of_ble_eq_true rfl) (by first | exact List.getElem?_set_self bnd | exact List.getElem?_eq_getElem bnd) (by (try dsimp only [setRow, List.set_cons_succ, List.set_cons_zero]); first | done | exact rfl) rfl | exact a_stE (E := eP) ⟨_, _, _⟩ rfl rfl rfl rfl (fN rfl rfl) bnd (by exact rfl)) (by exact rfl) (by exact rfl) ?_; refine dp 16 65535 [] [] pu1 ?_; (refine d_nil ?_; refine dN ?_))); any_goals kernel_rfl) | ((first | refine o_gs rfl rfl (fun hc => ?_) (fun hc => ?_) | refine g_cond rfl (fun hc => ?_) (fun hc => ?_)) <;> (try simp only [dcB] at hc) <;> (try first | contradiction | (exfalso; omega)))
            refine q_again (i + 1, _) [0, 1, 6] (by exact stk) ?_ ?_
            · exact ⟨by dsimp only; omega, by dsimp only; omega, hn⟩
            · dsimp only; omega
    · have hi : i.toNat = m.ru.length := by omega
      have e : prds m x = some out := by unfold prds; rw [← h2, hi]
      rw [e]
      repeat' first | (apply n3; (first | exact a_new (gb := .bx _) rfl | exact a_litE eP [⟨_, _, _⟩] rfl rfl rfl rfl rfl rfl rfl rfl | exact a_appN (fP rfl) rfl rfl rfl nowR (by first | omega | (simp; omega)) (by decide) (by exact rfl)); exact rfl; refine dA ?_) | (apply p3; (first | exact pu1 | exact puL | exact puC | exact puN | exact a_len_str rfl (fT rfl) | exact a_add rfl rfl (by omega) (by omega) | exact puI); exact rfl) | refine cd ?_ | (apply s3; exact a_appE (fP rfl) rfl rfl rfl rfl nowR (by first | omega | (simp; omega)) (by decide) (by decide) (by exact rfl); exact rfl; exact rfl) | (apply w3; (first | exact a_st_bx rfl rfl rfl rfl (fN rfl rfl) (Nat.le_of_ble_eq_true rfl) rfl | exact a_stE (E := eR) ⟨_, _, _⟩ rfl rfl rfl rfl (fN rfl rfl) bnd (by exact rfl)); exact rfl; refine dS ?_) | (apply c4 0; exact callK1 (θ := []) (hD := (isRule_ok _)); exact rfl; exact rfl; exact rfl; refine dM ?_) | (apply g_drN (id := 6) okM [[],[],[],[2],[1,2,3],[],[],[6],[5,6,7],[],[0,1,2,3,4,5,6,7,8,9],[0,1,2,3,4,5,6,7,8,9,10],[0,1,2,3,4,5,6,7,8,9,10,11],[0,1,2,3,4,5,6,7,8,9,10,11],[],[0,1,2,3,4,5,6,7,8,9,10,11,12,14],[0,1,2,3,4,5,6,7,8,9,10,11,12,13,14,15]] [([],[]),([],[]),([],[]),([],[]),([],[]),([],[]),([],[]),([],[]),([],[]),([],[]),([],[]),([],[]),([],[]),([],[]),([0],[]),([],[4]),([],[])] 1; (focus (refine dp 0 0 [25, 26, 27, 28, 29, 30, 31, 32, 33, 9] [(true, 0)] puL ?_; refine dp 1 0 [24, 26, 27, 29, 30, 31, 32, 33, 9] [(true, 0)] pu1 ?_; refine dp 2 0 [24, 25, 29, 30, 31, 32, 33, 9] [(true, 0)] (a_pure (sv := .one _) rfl) ?_; refine dp 3 1 [24, 25, 29, 30, 31, 32, 33, 9] [(true, 0)] puL ?_; refine dp 4 7 [24, 29, 30, 31, 32, 33, 9] [(true, 0)] (a_quo rfl rfl (by omega) (by omega) (by omega)) ?_; refine dp 5 0 [24, 25, 26, 27, 28, 30, 31, 33, 9] [(true, 0)] pu1 ?_; refine dp 6 0 [24, 25, 26, 27, 28, 29, 33, 9] [(true, 0)] (a_pure (sv := .one _) rfl) ?_; refine dp 7 1 [24, 25, 26, 27, 28, 29, 33, 9] [(true, 0)] puL ?_; refine dp 8 7 [24, 25, 26, 27, 28, 33, 9] [(true, 0)] (a_rem rfl rfl (by omega) (by omega) (by omega)) ?_; refine dp 9 0 [24, 25, 26, 27, 28, 29, 30, 31, 32, 9] [(true, 0)] puL ?_; refine dp 10 1023 [9] [(true, 0)] (callD0 (n := _) 0 (θ := []) (hD := (predecessor_ok _ _ _ preB71 preB71 preB71 preB71 preB71))) ?_; refine dp 11 2047 [9] [(true, 0)] pu1 ?_; refine dp 12 4095 [36, 9] [(true, 0)] pu2 ?_; refine dp 13 8190 [35, 9] [(true, 0), (false, 4)] pu2 ?_; refine duE 14 0 [24, 25, 26, 27, 28, 29, 30, 31, 32, 33, 34, 23, 35, 36] [] (atN 0 (fun _ => a_new (gb := .bx _) rfl)) (by exact rfl) (by exact rfl) ?_; refine duE 15 32765 [36] [] (by first | exact a_st_bx rfl rfl rfl rfl (fN rfl rfl) (Nat.le_of_ble_eq_true rfl) rfl | exact a_stF (E := eR) ⟨_, _, _⟩ rfl rfl rfl rfl (fN rfl rfl) (Nat.le_of_ble_eq_true rfl) (Nat.le_of_ble_eq_true rfl) (by first | exact List.getElem?_set_self bnd | exact List.getElem?_eq_getElem bnd) (by (try dsimp only [setRow, List.set_cons_succ, List.set_cons_zero]); first | done | exact rfl) rfl | exact a_stE (E := eP) ⟨_, _, _⟩ rfl rfl rfl rfl (fN rfl rfl) bnd (by exact rfl)) (by exact rfl) (by exact rfl) ?_; refine dp 16 65535 [] [] pu1 ?_; (refine d_nil ?_; refine dN ?_))); any_goals kernel_rfl) | ((first | refine o_gs rfl rfl (fun hc => ?_) (fun hc => ?_) | refine g_cond rfl (fun hc => ?_) (fun hc => ?_)) <;> (try simp only [dcB] at hc) <;> (try first | contradiction | (exfalso; omega)))
      refine g_turn (t_freeze (i := 2) rfl nowR) ?_
      repeat refine cr ?_
      refine ends_id ?_
      refine endK [] (h2 := ?_) (h3 := ?_) (nd := ?_)
      all_goals (repeat' first | exact ce0 | refine ce ?_ | refine ce2 ?_ ?_ | exact SVLe.refl | refine ceb ?_)
      all_goals first | exact (show nodupB _ = true from rfl) | exact Or.inr rfl | (rfl)
end Go.Proofs.YtcmdfohamphndaaGreatDoor
end
section
set_option linter.unusedVariables false
set_option linter.unusedSimpArgs false
set_option maxRecDepth 100000
set_option maxHeartbeats 4000000
namespace Go.Proofs.YtcmdfohamphndaaGreatDoor
open Go Foot
/-- A digit's byte. -/
def isDg (c : UInt8) : Prop := 48 ≤ c.toNat ∧ c.toNat ≤ 57
def valD (l : Bs) : Nat := l.foldl (fun a c => 10 * a + (c.toNat - 48)) 0
theorem valD_snoc (l : Bs) (c : UInt8) : valD (l ++ [c]) = 10 * valD l + (c.toNat - 48) := by unfold valD; rw [List.foldl_append]; rfl
theorem dg_nat {d : Nat} (h : d < 10) : isDg (UInt8.ofNat (48 + d)) ∧ (UInt8.ofNat (48 + d)).toNat - 48 = d := by
  have : (UInt8.ofNat (48 + d)).toNat = 48 + d := by rw [UInt8.toNat_ofNat']; omega
  unfold isDg
  omega
theorem dec_val : ∀ (u : Nat), valD (Lib.decDigits u) = u ∧ (∀ c ∈ Lib.decDigits u, isDg c) ∧ Lib.decDigits u ≠ [] := by
  intro u
  induction u using Nat.strongRecOn with
  | _ u ih =>
    rw [Lib.decDigits]
    by_cases h : u < 10
    · rw [dif_pos h]
      obtain ⟨d1, d2⟩ := dg_nat h
      refine ⟨?_, fun c hc => by rw [List.mem_singleton.1 hc]; exact d1, by simp⟩
      have := valD_snoc [] (UInt8.ofNat (48 + u))
      rw [List.nil_append, d2] at this
      rw [this]
      simp [valD]
    · rw [dif_neg h]
      obtain ⟨i1, i2, i3⟩ := ih (u / 10) (by omega)
      obtain ⟨d1, d2⟩ := dg_nat (show u % 10 < 10 by omega)
      refine ⟨by rw [valD_snoc, i1, d2]; omega, fun c hc => ?_, by simp⟩
      rcases List.mem_append.1 hc with hc | hc
      · exact i2 c hc
      · rw [List.mem_singleton.1 hc]; exact d1
theorem decT_nat {n : Int} (h : 0 ≤ n) : decT n = Lib.decDigits n.toNat := by
  unfold decT Lib.itoa
  rw [if_neg (by omega)]
theorem decT_dg {n : Int} (h : 0 ≤ n) : ∀ c ∈ decT n, isDg c := by rw [decT_nat h]; exact (dec_val _).2.1
/-- The text of a partial configuration. -/
@[irreducible] def ptT (x : Part) : Bs := digT (x.ce.take x.pl.toNat) ++ [91] ++ decT x.st ++ [93] ++ digT (x.ce.drop x.pl.toNat)
theorem preB72 {p : Prop} (h : p := by first | with_reducible assumption | omega | (simp only [List.length_append, List.length_cons, List.length_nil, List.length_set, List.length_replicate, List.length_take, List.length_drop, List.length_tail, List.length_dropLast, List.length_reverse] at *; omega) | exact mem_len (by assumption) (by omega) | (with_reducible refine Int.le_trans (Int.ofNat_le.2 (trimR_len _)) ?_; simp only [List.length_cons, List.length_tail]; omega) | (exact (ruAt_ok (by assumption) (by assumption) (by assumption)).2.1) | (exact (ruAt_ok (by assumption) (by assumption) (by assumption)).2.1) | (have := vMach_bd (by assumption); omega) | (simp only [mC_ch, mC_tu]; omega) | (have := vTag_bd (by assumption); omega) | (have := (‹Gd _ _›).le; omega) | (exact tgHalts_no (by assumption)) | (exact tgHead (by assumption) (by assumption) (by assumption)) | (exact Int.le_trans (tgStep_gd (by assumption) (by assumption) (by assumption) (by assumption)).le (by decide)) | (exact vTag_r (by assumption)) | (with_reducible refine Int.le_trans (Int.ofNat_le.2 (pushL_len _ _)) ?_; simp only [List.length_dropLast]; omega) | exact ls_at (by assumption) (by omega) | exact pt_gd (by assumption) | exact lv_at (by assumption) (by omega) | exact pt_gd (lv_at (by assumption) (by omega)) | exact (ask_ok (by assumption)).1 | exact (ask_ok (by assumption)).2.1 | exact (ask_ok (by assumption)).2.2.1 | exact (ask_ok (by assumption)).2.2.2 | trivial) : p := h
theorem partialText_ok (m : Mach) (x : Part) (hm : vMach m = true) (g : PtOk m x) : Does Tryz.prog 129 [.agg (paC x)] [] (.one (str (ptT x))) [] := by
  obtain ⟨g1, g2, g3, g4⟩ := g
  have hb := vMach_bd hm
  have d1 : ∀ v ∈ x.ce.take x.pl.toNat, 0 ≤ v ∧ v ≤ 9 := fun v hv => by have := g4 v (List.mem_of_mem_take hv); omega
  have d2 : ∀ v ∈ x.ce.drop x.pl.toNat, 0 ≤ v ∧ v ≤ 9 := fun v hv => by have := g4 v (List.mem_of_mem_drop hv); omega
  have l1 := digT_len (x.ce.take x.pl.toNat)
  have l2 := digT_len (x.ce.drop x.pl.toNat)
  have l3 := decT_le (n := x.st) (by omega) (by omega)
  rw [List.length_take] at l1
  rw [List.length_drop] at l2
  have e : ptT x = digT (x.ce.take x.pl.toNat) ++ [91] ++ decT x.st ++ [93] ++ digT (x.ce.drop x.pl.toNat) := by unfold ptT; rfl
  rw [e]
  refine does_of (k := 0) Tryz.func129 rfl Tryz.ntmps129 rfl rfl fun w F0 S0 ρ0 => ?_
  dsimp only [argT, argH]
  repeat' first | (apply n3; exact a_new (gb := .bx _) rfl; exact rfl; refine dA ?_) | (apply p3; exact pu1; exact rfl) | refine cd ?_ | (apply g_drN (id := 1) okM [[],[0],[],[2],[0,1,2,3],[0,1,2,3,4],[0,1,2,3,4,5],[],[7],[0,1,2,3,4,5,7,8],[0,1,2,3,4,5,6,7,8,9],[0,1,2,3,4,5,6,7,8,9,10],[],[12],[],[14],[12,13,14,15],[0,1,2,3,4,5,7,8,9,12,13,14,15,16],[0,1,2,3,4,5,6,7,8,9,10,11,12,13,14,15,16,17],[0,1,2,3,4,5,6,7,8,9,10,11,12,13,14,15,16,17,18]] [([],[]),([],[]),([],[]),([],[]),([],[]),([],[]),([],[]),([],[]),([],[]),([],[]),([],[]),([],[]),([],[]),([],[]),([],[]),([],[]),([],[]),([],[]),([],[]),([],[])] 0; (focus (refine dp 0 0 [5, 6, 10, 11, 15, 16, 17, 18, 19] [] (a_pure (sv := .one _) rfl) ?_; refine dp 1 1 [5, 6, 10, 11, 15, 16, 17, 18, 19] [] puL ?_; refine dp 2 0 [3, 4, 10, 11, 15, 16, 17, 18, 19] [] (a_pure (sv := .one _) rfl) ?_; refine dp 3 1 [3, 4, 10, 11, 15, 16, 17, 18, 19] [] puL ?_; refine dp 4 15 [10, 11, 15, 16, 17, 18, 19] [] (by first | exact a_sl0 rfl rfl (fS rfl) | exact a_slH rfl rfl rfl (fS rfl) (by omega) (by omega) (by exact rfl) | exact atS 0 (fun _ hj => a_slHO rfl rfl rfl (fS rfl) (by omega) (by omega) (by exact rfl) hj) (by decide)) ?_; refine dp 5 31 [10, 11, 15, 16, 17, 18, 19] [] (callD1 (n := _) 0 (θ := []) (hD := (digitsText_ok _ preB72 preB72))) ?_; refine dp 6 63 [10, 11, 12, 15, 16, 17, 18, 19, 20] [] (a_addS rfl rfl (by first | omega | (simp only [List.length_append, List.length_cons, List.length_nil]; omega))) ?_; refine dp 7 0 [3, 4, 5, 6, 7, 8, 9, 15, 16, 17, 18, 19] [] (a_pure (sv := .one _) rfl) ?_; refine dp 8 1 [3, 4, 5, 6, 7, 8, 9, 15, 16, 17, 18, 19] [] puL ?_; refine dp 9 507 [9, 15, 16, 17, 18, 19] [] (callD1 (n := _) 0 (θ := []) (hD := (Decimal_ok _ preB72 preB72))) ?_; refine dp 10 1023 [15, 16, 17, 18, 19, 20] [] (a_addS rfl rfl (by first | omega | (simp only [List.length_append, List.length_cons, List.length_nil]; omega))) ?_; refine dp 11 2047 [15, 16, 17, 18, 19, 20] [] (a_addS rfl rfl (by first | omega | (simp only [List.length_append, List.length_cons, List.length_nil]; omega))) ?_; refine dp 12 0 [3, 4, 5, 6, 7, 8, 9, 10, 11, 12, 13, 14, 17, 18] [] (a_pure (sv := .one _) rfl) ?_; refine dp 13 1 [3, 4, 5, 6, 7, 8, 9, 10, 11, 12, 13, 14, 17, 18] [] puL ?_; refine dp 14 0 [3, 4, 5, 6, 7, 8, 9, 10, 11, 12, 13, 14, 15, 16] [] (a_pure (sv := .one _) rfl) ?_; refine dp 15 1 [3, 4, 5, 6, 7, 8, 9, 10, 11, 12, 13, 14, 15, 16] [] puL ?_; refine dp 16 15 [3, 4, 5, 6, 7, 8, 9, 10, 11, 12, 13, 14] [] (by first | exact a_slT rfl rfl rfl (fS rfl) (by omega) (by omega) (by exact rfl) | exact atS 0 (fun _ hj => a_slTO rfl rfl rfl (fS rfl) (by omega) (by omega) (by exact rfl) hj) (by decide)) ?_; refine dp 17 129951 [9, 13, 14] [] (callD1 (n := _) 0 (θ := []) (hD := (digitsText_ok _ preB72 preB72))) ?_; refine dp 18 262143 [] [] (a_addS rfl rfl (by first | omega | (simp only [List.length_append, List.length_cons, List.length_nil]; omega))) ?_; refine dp 19 524287 [] [] pu1 ?_; (refine d_nil ?_; refine dN ?_))); any_goals kernel_rfl) | ((first | refine o_gs rfl rfl (fun hc => ?_) (fun hc => ?_) | refine g_cond rfl (fun hc => ?_) (fun hc => ?_)) <;> (try simp only [dcB] at hc) <;> (try first | contradiction | (exfalso; omega)))
  repeat refine cr ?_
  refine ends_id ?_
  refine endK [] (h2 := ?_) (h3 := ?_) (nd := ?_)
  all_goals (repeat' first | exact ce0 | refine ce ?_ | refine ce2 ?_ ?_ | exact SVLe.refl | refine ceb ?_)
  all_goals first | exact (show nodupB _ = true from rfl) | exact Or.inr rfl | (rfl)
end Go.Proofs.YtcmdfohamphndaaGreatDoor
end
section
set_option linter.unusedVariables false
set_option linter.unusedSimpArgs false
set_option maxRecDepth 100000
namespace Go.Proofs.YtcmdfohamphndaaGreatDoor
open Go Foot
@[irreducible] def mulW (a b : Int) : Int := IntKind.u64.wrap (a * b)
@[irreducible] def addW (a b : Int) : Int := IntKind.u64.wrap (a + b)
@[irreducible] def cnvW (a : Int) : Int := IntKind.u64.wrap a
@[irreducible] def shrW (a b : Int) : Int := a.fdiv (2 ^ min b.toNat IntKind.u64.bits)
@[irreducible] def andW (a b : Int) : Int := IntKind.u64.wrap ((BitVec.ofInt IntKind.u64.bits a &&& BitVec.ofInt IntKind.u64.bits b).toNat : Nat)
theorem andW_le (a : Int) : 0 ≤ andW a 255 ∧ andW a 255 ≤ 255 := by
  have h : (BitVec.ofInt IntKind.u64.bits a &&& BitVec.ofInt IntKind.u64.bits 255).toNat ≤ 255 := by
    show (BitVec.ofInt 64 a &&& BitVec.ofInt 64 255).toNat ≤ 255
    rw [BitVec.toNat_and]
    have h5 : (BitVec.ofInt 64 255).toNat = 255 := by decide
    rw [h5]
    exact Nat.and_le_right
  unfold andW
  rw [wrapU (by omega) (by omega)]
  omega
section
variable {P : Program} {g : Gh} {st : St}
variable {dst : Option Tmp} {ty : TypeId} {pos : String} {after : Array Edge} {guard : Option (Nat × Bool)} {x y : Operand} {T U : TypeId} {a b : Int}
theorem w_mul (e1 : opd st x = .one (u64 a)) (e2 : opd st y = .one (u64 b)) : Acts P g ⟨dst, .binOp .mul T x y U, ty, pos, after, guard⟩ st (.one (u64 (mulW a b))) [] [] := by
  unfold mulW
  exact a_bin (op := .mul) e1 e2 rfl trivial
theorem w_add (e1 : opd st x = .one (u64 a)) (e2 : opd st y = .one (u64 b)) : Acts P g ⟨dst, .binOp .add T x y U, ty, pos, after, guard⟩ st (.one (u64 (addW a b))) [] [] := by
  unfold addW
  exact a_bin (op := .add) e1 e2 rfl trivial
theorem w_and (e1 : opd st x = .one (u64 a)) (e2 : opd st y = .one (u64 b)) : Acts P g ⟨dst, .binOp .and T x y U, ty, pos, after, guard⟩ st (.one (u64 (andW a b))) [] [] := by
  unfold andW
  exact a_bin (op := .and) e1 e2 rfl trivial
theorem w_shr (e1 : opd st x = .one (u64 a)) (e2 : opd st y = .one (u64 b)) (h : 0 ≤ b) : Acts P g ⟨dst, .binOp .shr T x y U, ty, pos, after, guard⟩ st (.one (u64 (shrW a b))) [] [] := by
  unfold shrW
  exact a_bin (op := .shr) e1 e2 rfl h
theorem w_cnv (e1 : opd st x = .one (int a)) (hT : P.underlying T = some (.int .i64)) (hU : P.underlying U = some (.int .u64)) : Acts P g ⟨dst, .convert T U x, ty, pos, after, guard⟩ st (.one (u64 (cnvW a))) [] [] := by
  unfold cnvW
  exact a_conv e1 (by rw [hT]; rfl) hU
end
end Go.Proofs.YtcmdfohamphndaaGreatDoor
end
section
set_option linter.unusedVariables false
set_option linter.unusedSimpArgs false
set_option maxRecDepth 100000
set_option maxHeartbeats 4000000
namespace Go.Proofs.YtcmdfohamphndaaGreatDoor
open Go Foot
abbrev shY (l : List Int) : C := .d (.sl false 1 (rows eY l))
/-- A source: its bytes, how many are used, its seed. -/
structure Src where
  co : List Int
  pl : Int
  sd : Int
abbrev srB (s : Src) : GB := .bx [shY s.co, int s.pl, u64 s.sd]
structure SrOk (s : Src) : Prop where
  n : (s.co.length : Int) ≤ 9223372036854775807
  p : 0 ≤ s.pl ∧ s.pl ≤ 1000000000000000000
  b : ∀ x ∈ s.co, 0 ≤ x ∧ x ≤ 255
@[irreducible] def nxB (s : Src) : Int := if s.pl < s.co.length then s.co.getD s.pl.toNat 0 else 0
@[irreducible] def nxS (s : Src) : Src := ⟨s.co, s.pl + 1, addW (addW (mulW s.sd 6364136223846793005) (cnvW (nxB s))) 1442695040888963407⟩
@[irreducible] def nxV (s : Src) : Int := if s.pl + 1 ≤ s.co.length then nxB s else andW (shrW (nxS s).sd 40) 255
theorem nxB_bd {s : Src} (g : SrOk s) : 0 ≤ nxB s ∧ nxB s ≤ 255 := by
  unfold nxB
  split
  · rename_i h
    have := g.p
    rw [List.getD_eq_getElem?_getD, List.getElem?_eq_getElem (by omega)]
    exact g.b _ (List.getElem_mem _)
  · omega
theorem nxV_bd {s : Src} (g : SrOk s) : 0 ≤ nxV s ∧ nxV s ≤ 255 := by
  unfold nxV
  split
  · exact nxB_bd g
  · exact andW_le _
theorem preB76 {p : Prop} (h : p := by first | with_reducible assumption | omega | (simp only [List.length_append, List.length_cons, List.length_nil, List.length_set, List.length_replicate, List.length_take, List.length_drop, List.length_tail, List.length_dropLast, List.length_reverse] at *; omega) | exact mem_len (by assumption) (by omega) | (with_reducible refine Int.le_trans (Int.ofNat_le.2 (trimR_len _)) ?_; simp only [List.length_cons, List.length_tail]; omega) | (exact (ruAt_ok (by assumption) (by assumption) (by assumption)).2.1) | (exact (ruAt_ok (by assumption) (by assumption) (by assumption)).2.1) | (have := vMach_bd (by assumption); omega) | (simp only [mC_ch, mC_tu]; omega) | (have := vTag_bd (by assumption); omega) | (have := (‹Gd _ _›).le; omega) | (exact tgHalts_no (by assumption)) | (exact tgHead (by assumption) (by assumption) (by assumption)) | (exact Int.le_trans (tgStep_gd (by assumption) (by assumption) (by assumption) (by assumption)).le (by decide)) | (exact vTag_r (by assumption)) | (with_reducible refine Int.le_trans (Int.ofNat_le.2 (pushL_len _ _)) ?_; simp only [List.length_dropLast]; omega) | exact ls_at (by assumption) (by omega) | exact pt_gd (by assumption) | exact lv_at (by assumption) (by omega) | exact pt_gd (lv_at (by assumption) (by omega)) | exact (ask_ok (by assumption)).1 | exact (ask_ok (by assumption)).2.1 | exact (ask_ok (by assumption)).2.2.1 | exact (ask_ok (by assumption)).2.2.2 | trivial) : p := h
theorem srcFrom_ok (l : List Int) : Does Tryz.prog 99 [.one (shY l)] [] (.one (.gv 0)) [srB ⟨l, 0, 0⟩] := by
  refine does_of (k := 0) Tryz.func99 rfl Tryz.ntmps99 rfl rfl fun w F0 S0 ρ0 => ?_
  dsimp only [argT, argH]
  repeat' first | (apply n3; exact a_new (gb := .bx _) rfl; exact rfl; refine dA ?_) | (apply p3; exact pu1; exact rfl) | refine cd ?_ | ((first | refine o_gs rfl rfl (fun hc => ?_) (fun hc => ?_) | refine g_cond rfl (fun hc => ?_) (fun hc => ?_)) <;> (try simp only [dcB] at hc) <;> (try first | contradiction | (exfalso; omega)))
  repeat refine cr ?_
  refine ends_id ?_
  refine endK [?_] (h2 := ?_) (h3 := ?_) (nd := ?_)
  rotate_left 1
  all_goals (repeat' first | exact ce0 | refine ce ?_ | refine ce2 ?_ ?_ | (refine Or.inr (bx_eq rfl rfl ?_); (try dsimp only [C.ren, C.ren.all]); (try exact rfl)) | exact SVLe.refl | refine ceb ?_)
  all_goals first | exact (show nodupB _ = true from rfl) | exact Or.inr rfl | (rfl)
theorem nxS_eq {s : Src} {b : Int} (h : nxB s = b) : nxS s = ⟨s.co, s.pl + 1, addW (addW (mulW s.sd 6364136223846793005) (cnvW b)) 1442695040888963407⟩ := by unfold nxS; rw [h]
theorem srcNext_ok (s : Src) (g : SrOk s) : Does Tryz.prog 162 [.one (.gv 0)] [srB s] (.one (int (nxV s))) [srB (nxS s)] := by
  have hp := g.p
  have hn := g.n
  by_cases hl : s.pl < s.co.length
  · have hg := g.b _ (List.getElem_mem (show s.pl.toNat < s.co.length by omega))
    have hb : nxB s = s.co[s.pl.toNat]'(by omega) := by
      unfold nxB
      rw [if_pos hl, List.getD_eq_getElem?_getD, List.getElem?_eq_getElem (by omega)]
      rfl
    have hv : nxV s = s.co[s.pl.toNat]'(by omega) := by unfold nxV; rw [if_pos (by omega), hb]
    rw [hv, nxS_eq hb]
    refine does_of (k := 1) Tryz.func162 rfl Tryz.ntmps162 rfl rfl fun w F0 S0 ρ0 => ?_
    dsimp only [argT, argH]
    repeat' first | (apply p3; (first | exact pu1 | exact puL | exact a_add rfl rfl (by omega) (by omega) | exact w_mul rfl rfl | exact w_cnv rfl Tryz.underlying3 Tryz.underlying190 | exact w_add rfl rfl | exact w_shr rfl rfl (by decide) | exact w_and rfl rfl | exact u_vnoc rfl Tryz.underlying190 Tryz.underlying2 bnd bnd); exact rfl) | refine cd ?_ | (apply w3; (first | exact a_st_bx rfl rfl rfl rfl (fN rfl rfl) (Nat.le_of_ble_eq_true rfl) rfl | exact a_st_rowI rfl rfl rfl rfl (fN rfl rfl) bnd | exact a_stE (E := eI) _ rfl rfl rfl rfl (fN rfl rfl) bnd (by exact rfl)); exact rfl; refine dS ?_) | (apply g_drN (id := 2) okM [[],[0],[0,1],[0,1,2],[],[4],[4,5],[4,5,6],[4,5,6,7],[0,1,2,3,4,5,6,7,8]] [([],[]),([],[]),([],[]),([],[]),([],[]),([],[]),([],[]),([],[]),([],[]),([],[])] 0; (focus (refine dp 0 0 [8, 9, 10, 11, 12] [] pu1 ?_; refine dp 1 1 [8, 9, 10, 11, 12] [] (a_pure (sv := .one _) rfl) ?_; refine dp 2 3 [8, 9, 10, 11, 12] [] (a_pure (sv := .one _) rfl) ?_; refine dp 3 7 [8, 9, 10, 11, 12] [] puL ?_; refine dp 4 0 [4, 5, 6, 7] [] pu1 ?_; refine dp 5 1 [4, 5, 6, 7] [] (a_pure (sv := .one _) rfl) ?_; refine dp 6 3 [4, 5, 6, 7] [] (a_pure (sv := .one _) rfl) ?_; refine dp 7 7 [4, 5, 6, 7] [] puL ?_; refine dp 8 15 [4, 5, 6, 7] [] (by first | exact puN | exact a_pure (sv := .one _) rfl | exact a_len_str rfl (fT rfl)) ?_; refine dp 9 511 [] [] puC ?_; (refine d_nil ?_; refine dN ?_))); any_goals kernel_rfl) | (apply g_drN (id := 3) okM [[],[0],[0,1],[0,1,2],[],[4],[4,5],[4,5,6],[0,1,2,3,4,5,6,7],[0,1,2,3,4,5,6,7,8],[0,1,2,3,4,5,6,7,8,9],[0,1,2,3,4,5,6,7,8,9,10]] [([],[]),([],[]),([],[]),([],[]),([],[]),([],[]),([],[]),([],[]),([],[]),([],[]),([],[]),([],[])] 0; (focus (refine dp 0 0 [18, 19, 20, 21] [] pu1 ?_; refine dp 1 1 [18, 19, 20, 21] [] (a_pure (sv := .one _) rfl) ?_; refine dp 2 3 [18, 19, 20, 21] [] (a_pure (sv := .one _) rfl) ?_; refine dp 3 7 [18, 19, 20, 21] [] puL ?_; refine dp 4 0 [14, 15, 16, 17] [] pu1 ?_; refine dp 5 1 [14, 15, 16, 17] [] (a_pure (sv := .one _) rfl) ?_; refine dp 6 3 [14, 15, 16, 17] [] (a_pure (sv := .one _) rfl) ?_; refine dp 7 7 [14, 15, 16, 17] [] puL ?_; refine dp 8 255 [] [] puI ?_; refine dp 9 511 [] [] (by first | exact a_pure (sv := .one _) rfl | exact a_ld_rowY rfl rfl rfl (fC rfl) bnd) ?_; refine dp 10 1023 [] [] (a_of8 rfl Tryz.underlying5 Tryz.underlying3 (by omega) (by first | omega | exact byte_lt _)) ?_; refine dp 11 2047 [] [] pu1 ?_; (refine d_nil ?_; refine dN ?_))); any_goals kernel_rfl) | (apply g_drN (id := 6) okM [[],[0],[0,1],[0,1,2],[],[4],[4,5],[4,5,6],[4,5,6,7],[0,1,2,3,4,5,6,7,8]] [([],[]),([],[]),([],[]),([],[]),([],[]),([],[]),([],[]),([],[]),([],[]),([],[])] 0; (focus (refine dp 0 0 [48, 49, 50, 51, 52] [] pu1 ?_; refine dp 1 1 [48, 49, 50, 51, 52] [] (a_pure (sv := .one _) rfl) ?_; refine dp 2 3 [48, 49, 50, 51, 52] [] (a_pure (sv := .one _) rfl) ?_; refine dp 3 7 [48, 49, 50, 51, 52] [] puL ?_; refine dp 4 0 [44, 45, 46, 47] [] pu1 ?_; refine dp 5 1 [44, 45, 46, 47] [] (a_pure (sv := .one _) rfl) ?_; refine dp 6 3 [44, 45, 46, 47] [] (a_pure (sv := .one _) rfl) ?_; refine dp 7 7 [44, 45, 46, 47] [] puL ?_; refine dp 8 15 [44, 45, 46, 47] [] (by first | exact puN | exact a_pure (sv := .one _) rfl | exact a_len_str rfl (fT rfl)) ?_; refine dp 9 511 [] [] puC ?_; (refine d_nil ?_; refine dN ?_))); any_goals kernel_rfl) | ((first | refine o_gs rfl rfl (fun hc => ?_) (fun hc => ?_) | refine g_cond rfl (fun hc => ?_) (fun hc => ?_)) <;> (try simp only [dcB] at hc) <;> (try first | contradiction | (exfalso; omega)))
    repeat refine cr ?_
    refine ends_id ?_
    refine endK [] (h2 := ?_) (h3 := ?_) (nd := ?_)
    all_goals (repeat' first | exact ce0 | refine ce ?_ | refine ce2 ?_ ?_ | (refine Or.inr (bx_eq rfl rfl ?_); (try dsimp only [C.ren, C.ren.all]); (try exact rfl)) | exact SVLe.refl | refine ceb ?_)
    all_goals first | exact (show nodupB _ = true from rfl) | exact Or.inr rfl | (rfl)
  · have hb : nxB s = 0 := by unfold nxB; rw [if_neg hl]
    have hv : nxV s = andW (shrW (nxS s).sd 40) 255 := by unfold nxV; rw [if_neg (by omega)]
    rw [nxS_eq hb] at hv ⊢
    rw [hv]
    have h9 := andW_le (shrW (addW (addW (mulW s.sd 6364136223846793005) (cnvW 0)) 1442695040888963407) 40)
    refine does_of (k := 1) Tryz.func162 rfl Tryz.ntmps162 rfl rfl fun w F0 S0 ρ0 => ?_
    dsimp only [argT, argH]
    repeat' first | (apply p3; (first | exact pu1 | exact puL | exact a_add rfl rfl (by omega) (by omega) | exact w_mul rfl rfl | exact w_cnv rfl Tryz.underlying3 Tryz.underlying190 | exact w_add rfl rfl | exact w_shr rfl rfl (by decide) | exact w_and rfl rfl | exact u_vnoc rfl Tryz.underlying190 Tryz.underlying2 bnd bnd); exact rfl) | refine cd ?_ | (apply w3; (first | exact a_st_bx rfl rfl rfl rfl (fN rfl rfl) (Nat.le_of_ble_eq_true rfl) rfl | exact a_st_rowI rfl rfl rfl rfl (fN rfl rfl) bnd | exact a_stE (E := eI) _ rfl rfl rfl rfl (fN rfl rfl) bnd (by exact rfl)); exact rfl; refine dS ?_) | (apply g_drN (id := 2) okM [[],[0],[0,1],[0,1,2],[],[4],[4,5],[4,5,6],[4,5,6,7],[0,1,2,3,4,5,6,7,8]] [([],[]),([],[]),([],[]),([],[]),([],[]),([],[]),([],[]),([],[]),([],[]),([],[])] 0; (focus (refine dp 0 0 [8, 9, 10, 11, 12] [] pu1 ?_; refine dp 1 1 [8, 9, 10, 11, 12] [] (a_pure (sv := .one _) rfl) ?_; refine dp 2 3 [8, 9, 10, 11, 12] [] (a_pure (sv := .one _) rfl) ?_; refine dp 3 7 [8, 9, 10, 11, 12] [] puL ?_; refine dp 4 0 [4, 5, 6, 7] [] pu1 ?_; refine dp 5 1 [4, 5, 6, 7] [] (a_pure (sv := .one _) rfl) ?_; refine dp 6 3 [4, 5, 6, 7] [] (a_pure (sv := .one _) rfl) ?_; refine dp 7 7 [4, 5, 6, 7] [] puL ?_; refine dp 8 15 [4, 5, 6, 7] [] (by first | exact puN | exact a_pure (sv := .one _) rfl | exact a_len_str rfl (fT rfl)) ?_; refine dp 9 511 [] [] puC ?_; (refine d_nil ?_; refine dN ?_))); any_goals kernel_rfl) | (apply g_drN (id := 3) okM [[],[0],[0,1],[0,1,2],[],[4],[4,5],[4,5,6],[0,1,2,3,4,5,6,7],[0,1,2,3,4,5,6,7,8],[0,1,2,3,4,5,6,7,8,9],[0,1,2,3,4,5,6,7,8,9,10]] [([],[]),([],[]),([],[]),([],[]),([],[]),([],[]),([],[]),([],[]),([],[]),([],[]),([],[]),([],[])] 0; (focus (refine dp 0 0 [18, 19, 20, 21] [] pu1 ?_; refine dp 1 1 [18, 19, 20, 21] [] (a_pure (sv := .one _) rfl) ?_; refine dp 2 3 [18, 19, 20, 21] [] (a_pure (sv := .one _) rfl) ?_; refine dp 3 7 [18, 19, 20, 21] [] puL ?_; refine dp 4 0 [14, 15, 16, 17] [] pu1 ?_; refine dp 5 1 [14, 15, 16, 17] [] (a_pure (sv := .one _) rfl) ?_; refine dp 6 3 [14, 15, 16, 17] [] (a_pure (sv := .one _) rfl) ?_; refine dp 7 7 [14, 15, 16, 17] [] puL ?_; refine dp 8 255 [] [] puI ?_; refine dp 9 511 [] [] (by first | exact a_pure (sv := .one _) rfl | exact a_ld_rowY rfl rfl rfl (fC rfl) bnd) ?_; refine dp 10 1023 [] [] (a_of8 rfl Tryz.underlying5 Tryz.underlying3 (by omega) (by first | omega | exact byte_lt _)) ?_; refine dp 11 2047 [] [] pu1 ?_; (refine d_nil ?_; refine dN ?_))); any_goals kernel_rfl) | (apply g_drN (id := 6) okM [[],[0],[0,1],[0,1,2],[],[4],[4,5],[4,5,6],[4,5,6,7],[0,1,2,3,4,5,6,7,8]] [([],[]),([],[]),([],[]),([],[]),([],[]),([],[]),([],[]),([],[]),([],[]),([],[])] 0; (focus (refine dp 0 0 [48, 49, 50, 51, 52] [] pu1 ?_; refine dp 1 1 [48, 49, 50, 51, 52] [] (a_pure (sv := .one _) rfl) ?_; refine dp 2 3 [48, 49, 50, 51, 52] [] (a_pure (sv := .one _) rfl) ?_; refine dp 3 7 [48, 49, 50, 51, 52] [] puL ?_; refine dp 4 0 [44, 45, 46, 47] [] pu1 ?_; refine dp 5 1 [44, 45, 46, 47] [] (a_pure (sv := .one _) rfl) ?_; refine dp 6 3 [44, 45, 46, 47] [] (a_pure (sv := .one _) rfl) ?_; refine dp 7 7 [44, 45, 46, 47] [] puL ?_; refine dp 8 15 [44, 45, 46, 47] [] (by first | exact puN | exact a_pure (sv := .one _) rfl | exact a_len_str rfl (fT rfl)) ?_; refine dp 9 511 [] [] puC ?_; (refine d_nil ?_; refine dN ?_))); any_goals kernel_rfl) | ((first | refine o_gs rfl rfl (fun hc => ?_) (fun hc => ?_) | refine g_cond rfl (fun hc => ?_) (fun hc => ?_)) <;> (try simp only [dcB] at hc) <;> (try first | contradiction | (exfalso; omega)))
    repeat refine cr ?_
    refine ends_id ?_
    refine endK [] (h2 := ?_) (h3 := ?_) (nd := ?_)
    all_goals (repeat' first | exact ce0 | refine ce ?_ | refine ce2 ?_ ?_ | (refine Or.inr (bx_eq rfl rfl ?_); (try dsimp only [C.ren, C.ren.all]); (try exact rfl)) | exact SVLe.refl | refine ceb ?_)
    all_goals first | exact (show nodupB _ = true from rfl) | exact Or.inr rfl | (rfl)
@[irreducible] def pkS (s : Src) (n : Int) : Src := if n ≤ 1 then s else if 200 < n then nxS (nxS s) else nxS s
@[irreducible] def pkV (s : Src) (n : Int) : Int := if n ≤ 1 then 0 else if 200 < n then (nxV s * 256 + nxV (nxS s)) % n else nxV s % n
theorem sr_next {s : Src} (g : SrOk s) (h : s.pl ≤ 999999999999999999) : SrOk (nxS s) := by
  unfold nxS
  exact ⟨g.n, ⟨by have := g.p; dsimp only; omega, by dsimp only; omega⟩, g.b⟩
theorem nxS_pl (s : Src) : (nxS s).pl = s.pl + 1 := by unfold nxS; rfl
theorem pkS_pl (s : Src) (n : Int) : s.pl ≤ (pkS s n).pl ∧ (pkS s n).pl ≤ s.pl + 2 := by
  unfold pkS
  split
  · omega
  · split
    · rw [nxS_pl, nxS_pl]; omega
    · rw [nxS_pl]; omega
theorem sr_pick {s : Src} {n : Int} (g : SrOk s) (h : s.pl ≤ 999999999999999998) : SrOk (pkS s n) := by
  unfold pkS
  split
  · exact g
  · split
    · exact sr_next (sr_next g (by omega)) (by rw [nxS_pl]; omega)
    · exact sr_next g (by omega)
theorem pkV_bd {s : Src} {n : Int} (g : SrOk s) (h : 1 ≤ n) : 0 ≤ pkV s n ∧ pkV s n < n := by
  unfold pkV
  split
  · omega
  · split
    · exact ⟨Int.emod_nonneg _ (by omega), Int.emod_lt_of_pos _ (by omega)⟩
    · exact ⟨Int.emod_nonneg _ (by omega), Int.emod_lt_of_pos _ (by omega)⟩
theorem srcPick_ok (s : Src) (n : Int) (g : SrOk s) (h : s.pl ≤ 999999999999999998) (h1 : n ≤ 1000000) : Does Tryz.prog 101 [.one (.gv 0), .one (int n)] [srB s] (.one (int (pkV s n))) [srB (pkS s n)] := by
  have g2 := sr_next g (by omega)
  have hb := nxV_bd g
  have hb2 := nxV_bd g2
  by_cases hn : n ≤ 1
  · rw [show pkV s n = 0 by unfold pkV; rw [if_pos hn], show pkS s n = s by unfold pkS; rw [if_pos hn]]
    refine does_of (k := 1) Tryz.func101 rfl Tryz.ntmps101 rfl rfl fun w F0 S0 ρ0 => ?_
    dsimp only [argT, argH]
    repeat' first | (apply p3; (first | exact pu1 | exact puC | exact a_mulB rfl rfl (by omega) (by omega) (by omega) (by omega) | exact a_mul rfl rfl (by first | omega | assumption) (by first | omega | assumption) | exact a_add rfl rfl (by omega) (by omega) | exact a_rem rfl rfl (by omega) (by omega) (by omega)); exact rfl) | refine cd ?_ | (apply c4 0; exact callK0 (θ := [_]) (hD := (srcNext_ok _ preB76)); exact rfl; exact rfl; exact rfl; refine dM ?_) | ((first | refine o_gs rfl rfl (fun hc => ?_) (fun hc => ?_) | refine g_cond rfl (fun hc => ?_) (fun hc => ?_)) <;> (try simp only [dcB] at hc) <;> (try first | contradiction | (exfalso; omega)))
    repeat refine cr ?_
    refine ends_id ?_
    refine endK [] (h2 := ?_) (h3 := ?_) (nd := ?_)
    all_goals (repeat' first | exact ce0 | refine ce ?_ | refine ce2 ?_ ?_ | (refine Or.inr (bx_eq rfl rfl ?_); (try dsimp only [C.ren, C.ren.all]); (try exact rfl)) | exact SVLe.refl | refine ceb ?_)
    all_goals first | exact (show nodupB _ = true from rfl) | exact Or.inr rfl | (rfl)
  · by_cases hn2 : 200 < n
    · rw [show pkV s n = (nxV s * 256 + nxV (nxS s)) % n by unfold pkV; rw [if_neg hn, if_pos hn2], show pkS s n = nxS (nxS s) by unfold pkS; rw [if_neg hn, if_pos hn2]]
      refine does_of (k := 1) Tryz.func101 rfl Tryz.ntmps101 rfl rfl fun w F0 S0 ρ0 => ?_
      dsimp only [argT, argH]
      repeat' first | (apply p3; (first | exact pu1 | exact puC | exact a_mulB rfl rfl (by omega) (by omega) (by omega) (by omega) | exact a_mul rfl rfl (by first | omega | assumption) (by first | omega | assumption) | exact a_add rfl rfl (by omega) (by omega) | exact a_rem rfl rfl (by omega) (by omega) (by omega)); exact rfl) | refine cd ?_ | (apply c4 0; exact callK0 (θ := [_]) (hD := (srcNext_ok _ preB76)); exact rfl; exact rfl; exact rfl; refine dM ?_) | ((first | refine o_gs rfl rfl (fun hc => ?_) (fun hc => ?_) | refine g_cond rfl (fun hc => ?_) (fun hc => ?_)) <;> (try simp only [dcB] at hc) <;> (try first | contradiction | (exfalso; omega)))
      repeat refine cr ?_
      refine ends_id ?_
      refine endK [] (h2 := ?_) (h3 := ?_) (nd := ?_)
      all_goals (repeat' first | exact ce0 | refine ce ?_ | refine ce2 ?_ ?_ | (refine Or.inr (bx_eq rfl rfl ?_); (try dsimp only [C.ren, C.ren.all]); (try exact rfl)) | exact SVLe.refl | refine ceb ?_)
      all_goals first | exact (show nodupB _ = true from rfl) | exact Or.inr rfl | (rfl)
    · rw [show pkV s n = nxV s % n by unfold pkV; rw [if_neg hn, if_neg hn2], show pkS s n = nxS s by unfold pkS; rw [if_neg hn, if_neg hn2]]
      refine does_of (k := 1) Tryz.func101 rfl Tryz.ntmps101 rfl rfl fun w F0 S0 ρ0 => ?_
      dsimp only [argT, argH]
      repeat' first | (apply p3; (first | exact pu1 | exact puC | exact a_mulB rfl rfl (by omega) (by omega) (by omega) (by omega) | exact a_mul rfl rfl (by first | omega | assumption) (by first | omega | assumption) | exact a_add rfl rfl (by omega) (by omega) | exact a_rem rfl rfl (by omega) (by omega) (by omega)); exact rfl) | refine cd ?_ | (apply c4 0; exact callK0 (θ := [_]) (hD := (srcNext_ok _ preB76)); exact rfl; exact rfl; exact rfl; refine dM ?_) | ((first | refine o_gs rfl rfl (fun hc => ?_) (fun hc => ?_) | refine g_cond rfl (fun hc => ?_) (fun hc => ?_)) <;> (try simp only [dcB] at hc) <;> (try first | contradiction | (exfalso; omega)))
      repeat refine cr ?_
      refine ends_id ?_
      refine endK [] (h2 := ?_) (h3 := ?_) (nd := ?_)
      all_goals (repeat' first | exact ce0 | refine ce ?_ | refine ce2 ?_ ?_ | (refine Or.inr (bx_eq rfl rfl ?_); (try dsimp only [C.ren, C.ren.all]); (try exact rfl)) | exact SVLe.refl | refine ceb ?_)
      all_goals first | exact (show nodupB _ = true from rfl) | exact Or.inr rfl | (rfl)
theorem srcOne_ok (s : Src) (n : Int) (g : SrOk s) (h : s.pl ≤ 999999999999999998) (h1 : n ≤ 1000000) : Does Tryz.prog 181 [.one (.gv 0), .one (int n)] [srB s] (.one (boo (decide (pkV s n = 0)))) [srB (pkS s n)] := by
  refine does_of (k := 1) Tryz.func181 rfl Tryz.ntmps181 rfl rfl fun w F0 S0 ρ0 => ?_
  dsimp only [argT, argH]
  repeat' first | (apply p3; (first | exact pu1 | exact puC | exact a_eqS rfl rfl rfl); exact rfl) | refine cd ?_ | (apply c4 0; exact callK0 (θ := [_]) (hD := (srcPick_ok _ _ preB76 preB76 preB76)); exact rfl; exact rfl; exact rfl; refine dM ?_) | ((first | refine o_gs rfl rfl (fun hc => ?_) (fun hc => ?_) | refine g_cond rfl (fun hc => ?_) (fun hc => ?_)) <;> (try simp only [dcB] at hc) <;> (try first | contradiction | (exfalso; omega)))
  repeat refine cr ?_
  refine ends_id ?_
  refine endK [] (h2 := ?_) (h3 := ?_) (nd := ?_)
  all_goals (repeat' first | exact ce0 | refine ce ?_ | refine ce2 ?_ ?_ | (refine Or.inr (bx_eq rfl rfl ?_); (try dsimp only [C.ren, C.ren.all]); (try exact rfl)) | exact SVLe.refl | refine ceb ?_)
  all_goals first | exact (show nodupB _ = true from rfl) | exact Or.inr rfl | (rfl)
end Go.Proofs.YtcmdfohamphndaaGreatDoor
end
section
set_option linter.unusedVariables false
set_option linter.unusedSimpArgs false
set_option maxRecDepth 100000
set_option maxHeartbeats 4000000
namespace Go.Proofs.YtcmdfohamphndaaGreatDoor
open Go Foot
/-- A rule that is drawn, and the source behind it. -/
@[irreducible] def dsR (s : Src) (sy st : Int) : Rule' := if pkV (pkS (pkS (pkS s sy) 2) st) 7 = 0 then noR else ⟨pkV s sy, 2 * pkV (pkS s sy) 2 - 1, pkV (pkS (pkS s sy) 2) st⟩
@[irreducible] def dsS (s : Src) (sy st : Int) : Src := pkS (pkS (pkS (pkS s sy) 2) st) 7
def dsF (sy st : Int) : Nat → Src → List Rule' → List Rule' × Src
  | 0, s, r => (r, s)
  | n + 1, s, r => dsF sy st n (dsS s sy st) (r ++ [dsR s sy st])
@[irreducible] def dsO (s : Src) (sy st : Int) : List Rule' × Src := dsF sy st (sy * st).toNat s []
theorem dsS_pl (s : Src) (sy st : Int) : s.pl ≤ (dsS s sy st).pl ∧ (dsS s sy st).pl ≤ s.pl + 8 := by
  unfold dsS
  have h1 := pkS_pl s sy
  have h2 := pkS_pl (pkS s sy) 2
  have h3 := pkS_pl (pkS (pkS s sy) 2) st
  have h4 := pkS_pl (pkS (pkS (pkS s sy) 2) st) 7
  omega
theorem dsS_ok {s : Src} {sy st : Int} (g : SrOk s) (h : s.pl ≤ 999999999999999900) : SrOk (dsS s sy st) := by
  have h1 := pkS_pl s sy
  have h2 := pkS_pl (pkS s sy) 2
  have h3 := pkS_pl (pkS (pkS s sy) 2) st
  unfold dsS
  exact sr_pick (sr_pick (sr_pick (sr_pick g (by omega)) (by omega)) (by omega)) (by omega)
theorem dsR_ok {s : Src} {sy st : Int} (g : SrOk s) (h : s.pl ≤ 999999999999999900) (h1 : 1 ≤ sy) (h2 : 1 ≤ st) : okRule sy st (dsR s sy st) = true := by
  have k1 := pkS_pl s sy
  have k2 := pkS_pl (pkS s sy) 2
  have g1 := sr_pick (n := sy) g (by omega)
  have g2 := sr_pick (n := 2) g1 (by omega)
  have b1 := pkV_bd (n := sy) g h1
  have b2 := pkV_bd (n := 2) g1 (by omega)
  have b3 := pkV_bd (n := st) g2 h2
  unfold okRule dsR
  rw [decide_eq_true_eq]
  split
  · exact .inl rfl
  · exact .inr ⟨⟨b1.1, by dsimp only; omega⟩, by dsimp only; omega, b3.1, by dsimp only; omega⟩
theorem dsF_len (sy st : Int) : ∀ (n : Nat) (s : Src) (r : List Rule'), (dsF sy st n s r).1.length = r.length + n
  | 0, s, r => rfl
  | n + 1, s, r => by rw [dsF, dsF_len sy st n]; simp; omega
theorem dsF_pl (sy st : Int) : ∀ (n : Nat) (s : Src) (r : List Rule'), s.pl ≤ (dsF sy st n s r).2.pl ∧ (dsF sy st n s r).2.pl ≤ s.pl + 8 * n
  | 0, s, r => by simp [dsF]
  | n + 1, s, r => by
    have h1 := dsF_pl sy st n (dsS s sy st) (r ++ [dsR s sy st])
    have h2 := dsS_pl s sy st
    rw [dsF]
    omega
theorem dsF_ok {sy st : Int} (h1 : 1 ≤ sy) (h2 : 1 ≤ st) : ∀ (n : Nat) (s : Src) (r : List Rule'), SrOk s → s.pl + 8 * n ≤ 999999999999999900 → (∀ x ∈ r, okRule sy st x = true) → SrOk (dsF sy st n s r).2 ∧ ∀ x ∈ (dsF sy st n s r).1, okRule sy st x = true
  | 0, s, r, g, _, h => ⟨g, h⟩
  | n + 1, s, r, g, hp, h => by
    have k := dsS_pl s sy st
    rw [dsF]
    refine dsF_ok h1 h2 n _ _ (dsS_ok g (by omega)) (by omega) fun x hx => ?_
    rcases List.mem_append.1 hx with hx | hx
    · exact h x hx
    · rw [List.mem_singleton.1 hx]; exact dsR_ok g (by omega) h1 h2
theorem preB77 {p : Prop} (h : p := by first | with_reducible assumption | omega | (simp only [List.length_append, List.length_cons, List.length_nil, List.length_set, List.length_replicate, List.length_take, List.length_drop, List.length_tail, List.length_dropLast, List.length_reverse] at *; omega) | exact mem_len (by assumption) (by omega) | (with_reducible refine Int.le_trans (Int.ofNat_le.2 (trimR_len _)) ?_; simp only [List.length_cons, List.length_tail]; omega) | (exact (ruAt_ok (by assumption) (by assumption) (by assumption)).2.1) | (exact (ruAt_ok (by assumption) (by assumption) (by assumption)).2.1) | (have := vMach_bd (by assumption); omega) | (simp only [mC_ch, mC_tu]; omega) | (have := vTag_bd (by assumption); omega) | (have := (‹Gd _ _›).le; omega) | (exact tgHalts_no (by assumption)) | (exact tgHead (by assumption) (by assumption) (by assumption)) | (exact Int.le_trans (tgStep_gd (by assumption) (by assumption) (by assumption) (by assumption)).le (by decide)) | (exact vTag_r (by assumption)) | (with_reducible refine Int.le_trans (Int.ofNat_le.2 (pushL_len _ _)) ?_; simp only [List.length_dropLast]; omega) | exact ls_at (by assumption) (by omega) | exact pt_gd (by assumption) | exact lv_at (by assumption) (by omega) | exact pt_gd (lv_at (by assumption) (by omega)) | exact (ask_ok (by assumption)).1 | exact (ask_ok (by assumption)).2.1 | exact (ask_ok (by assumption)).2.2.1 | exact (ask_ok (by assumption)).2.2.2 | trivial) : p := h
theorem drawSize_ok (s : Src) (sy st : Int) (g : SrOk s) (h : s.pl ≤ 100000000000000000) (h1 : 1 ≤ sy) (h2 : sy ≤ 6) (h3 : 1 ≤ st) (h4 : st ≤ 6) (hN : 0 ≤ sy * st) (hN2 : sy * st ≤ 36) : Does Tryz.prog 120 [.one (.gv 0), .one (int sy), .one (int st)] [srB s] (.agg [int sy, int st, .gv 1]) [srB (dsO s sy st).2, .row 3 (rows eR (dsO s sy st).1)] := by
  have e0 : dsF sy st (sy * st).toNat s [] = dsO s sy st := by unfold dsO; rfl
  refine does_of (k := 1) Tryz.func120 rfl Tryz.ntmps120 rfl rfl fun w F0 S0 ρ0 => ?_
  dsimp only [argT, argH]
  repeat' first | (apply n3; (first | exact a_new (gb := .bx _) rfl | exact a_litE eR [⟨_, _, _⟩] rfl rfl rfl rfl rfl rfl rfl rfl | exact a_appN (fP rfl) rfl rfl rfl nowR (by first | omega | (simp; omega)) (by decide) (by exact rfl)); exact rfl; refine dA ?_) | (apply p3; (first | exact pu1 | exact puL | exact a_mulB rfl rfl (by omega) (by omega) (by omega) (by omega) | exact a_mul rfl rfl (by first | omega | assumption) (by first | omega | assumption) | exact puC | exact a_sub rfl rfl (by omega) (by omega)); exact rfl) | refine cd ?_ | (apply s3; exact a_appE (fP rfl) rfl rfl rfl rfl nowR (by first | omega | (simp; omega)) (by decide) (by decide) (by exact rfl); exact rfl; exact rfl) | (apply w3; (first | exact a_st_bx rfl rfl rfl rfl (fN rfl rfl) (Nat.le_of_ble_eq_true rfl) rfl | exact a_stE (E := eMa) ⟨_, _, _⟩ rfl rfl rfl rfl (fN rfl rfl) bnd (by exact rfl) | exact a_stE (E := eR) ⟨_, _, _⟩ rfl rfl rfl rfl (fN rfl rfl) bnd (by exact rfl)); exact rfl; refine dS ?_) | (apply c4 0; exact callK0 (θ := [_]) (hD := (srcPick_ok _ _ preB77 preB77 preB77)); exact rfl; exact rfl; exact rfl; refine dM ?_) | (apply c4 0; exact callK0 (θ := [_]) (hD := (srcOne_ok _ _ preB77 preB77 preB77)); exact rfl; exact rfl; exact rfl; refine dM ?_) | (apply c4 0; exact callK1 (θ := []) (hD := l05None_ok); exact rfl; exact rfl; exact rfl; refine dM ?_) | ((first | refine o_gs rfl rfl (fun hc => ?_) (fun hc => ?_) | refine g_cond rfl (fun hc => ?_) (fun hc => ?_)) <;> (try simp only [dcB] at hc) <;> (try first | contradiction | (exfalso; omega)))
  refine g_conv (t_nilB (i := 2) (k := 2) (z := 3) rfl rfl rfl (by decide)) ?_
  try dsimp only [setRow, List.map_cons, List.map_nil, scC, List.set_cons_zero, List.set_cons_succ, Nat.reduceAdd]
  refine g_loop_id ?_
  refine loopK [0, 1, 2, 6, 7] [0, 2, 3] (fun y : Int × Src × List Rule' => 0 ≤ y.1 ∧ y.1 ≤ sy * st ∧ SrOk y.2.1 ∧ y.2.1.pl ≤ s.pl + 8 * (sy * st - y.1) ∧ (y.2.2.length : Int) ≤ sy * st - y.1 ∧ dsF sy st y.1.toNat y.2.1 y.2.2 = dsO s sy st) (fun y => [(8, .one (int y.1))]) (fun y => [(0, srB y.2.1), (2, .bx [int sy, int st, .gv 3]), (3, .row 3 (rows eR y.2.2))]) (fun y => y.1.toNat) (sy * st, s, ([] : List Rule')) [0, 1, 2, 3] (hI := ?_) (hr := ?_)
  · exact ⟨hN, by simp, g, by simp, by simp, e0⟩
  · rintro ⟨n, u, r⟩ ⟨k0, k1, k2, k3, k4, k5⟩
    dsimp only [List.cons_append, List.nil_append] at *
    skip
    repeat' first | (apply p3; (first | exact pu1 | exact puL | exact puC); exact rfl) | refine cdn ?_ | refine g_reg (id := 3) ?_ | (apply w3; (first | exact a_st_bx rfl rfl rfl rfl (fN rfl rfl) (Nat.le_of_ble_eq_true rfl) rfl | exact a_stE (E := eMa) ⟨_, _, _⟩ rfl rfl rfl rfl (fN rfl rfl) bnd (by exact rfl)); exact rfl; refine dS ?_) | ((first | refine o_gs rfl rfl (fun hc => ?_) (fun hc => ?_) | refine g_cond rfl (fun hc => ?_) (fun hc => ?_)) <;> (try simp only [dcB] at hc) <;> (try first | contradiction | (exfalso; omega)))
    · have z1 := pkS_pl u sy
      have z2 := pkS_pl (pkS u sy) 2
      have z3 := pkS_pl (pkS (pkS u sy) 2) st
      have g1 := sr_pick (n := sy) k2 (by omega)
      have g2 := sr_pick (n := 2) g1 (by omega)
      have g3 := sr_pick (n := st) g2 (by omega)
      have b1 := pkV_bd (n := sy) k2 h1
      have b2 := pkV_bd (n := 2) g1 (by omega)
      have b3 := pkV_bd (n := st) g2 h3
      have q0 := dsS_pl u sy st
      have q1 := dsS_ok (st := st) (sy := sy) k2 (by omega)
      have q2 : dsF sy st (n - 1).toNat (dsS u sy st) (r ++ [dsR u sy st]) = dsO s sy st := by
        rw [← k5, show n.toNat = (n - 1).toNat + 1 by omega, dsF]
      unfold dsS dsR at q2
      unfold dsS at q0 q1
      repeat' first | (apply n3; (first | exact a_new (gb := .bx _) rfl | exact a_litE eR [⟨_, _, _⟩] rfl rfl rfl rfl rfl rfl rfl rfl | exact a_appN (fP rfl) rfl rfl rfl nowR (by first | omega | (simp; omega)) (by decide) (by exact rfl)); exact rfl; refine dA ?_) | (apply p3; (first | exact pu1 | exact puL | exact puC | exact a_mulB rfl rfl (by omega) (by omega) (by omega) (by omega) | exact a_mul rfl rfl (by first | omega | assumption) (by first | omega | assumption) | exact a_sub rfl rfl (by omega) (by omega)); exact rfl) | refine cd ?_ | (apply s3; exact a_appE (fP rfl) rfl rfl rfl rfl nowR (by first | omega | (simp; omega)) (by decide) (by decide) (by exact rfl); exact rfl; exact rfl) | (apply w3; (first | exact a_st_bx rfl rfl rfl rfl (fN rfl rfl) (Nat.le_of_ble_eq_true rfl) rfl | exact a_stE (E := eR) ⟨_, _, _⟩ rfl rfl rfl rfl (fN rfl rfl) bnd (by exact rfl) | exact a_stE (E := eMa) ⟨_, _, _⟩ rfl rfl rfl rfl (fN rfl rfl) bnd (by exact rfl)); exact rfl; refine dS ?_) | (apply c4 0; exact callK0 (θ := [_]) (hD := (srcPick_ok _ _ preB77 preB77 preB77)); exact rfl; exact rfl; exact rfl; refine dM ?_) | (apply c4 0; exact callK0 (θ := [_]) (hD := (srcOne_ok _ _ preB77 preB77 preB77)); exact rfl; exact rfl; exact rfl; refine dM ?_) | (apply c4 0; exact callK1 (θ := []) (hD := l05None_ok); exact rfl; exact rfl; exact rfl; refine dM ?_) | ((first | refine o_gs rfl rfl (fun hc => ?_) (fun hc => ?_) | refine g_cond rfl (fun hc => ?_) (fun hc => ?_)) <;> (try simp only [dcB] at hc) <;> (try first | contradiction | (exfalso; omega)))
      · rename_i hc
        rw [if_pos hc] at q2
        refine q_again (n - 1, pkS (pkS (pkS (pkS u sy) 2) st) 7, r ++ [noR]) [0, 1, 2, 6] (by exact stk) ?_ ?_
        · exact ⟨by omega, by omega, q1, by dsimp only; omega, by simp; omega, q2⟩
        · omega
      · rename_i hc
        rw [if_neg hc] at q2
        refine q_again (n - 1, pkS (pkS (pkS (pkS u sy) 2) st) 7, r ++ [⟨pkV u sy, 2 * pkV (pkS u sy) 2 - 1, pkV (pkS (pkS u sy) 2) st⟩]) [0, 1, 2, 6] (by exact stk) ?_ ?_
        · exact ⟨by omega, by omega, q1, by dsimp only; omega, by simp; omega, q2⟩
        · omega
    · have q0 : n.toNat = 0 := by omega
      rw [q0, dsF] at k5
      have q1 := congrArg Prod.fst k5
      have q2 := congrArg Prod.snd k5
      dsimp only at q1 q2
      rw [← q1, ← q2]
      repeat' first | (apply n3; (first | exact a_new (gb := .bx _) rfl | exact a_litE eR [⟨_, _, _⟩] rfl rfl rfl rfl rfl rfl rfl rfl | exact a_appN (fP rfl) rfl rfl rfl nowR (by first | omega | (simp; omega)) (by decide) (by exact rfl)); exact rfl; refine dA ?_) | (apply p3; (first | exact pu1 | exact puL | exact puC | exact a_mulB rfl rfl (by omega) (by omega) (by omega) (by omega) | exact a_mul rfl rfl (by first | omega | assumption) (by first | omega | assumption) | exact a_sub rfl rfl (by omega) (by omega)); exact rfl) | refine cd ?_ | (apply s3; exact a_appE (fP rfl) rfl rfl rfl rfl nowR (by first | omega | (simp; omega)) (by decide) (by decide) (by exact rfl); exact rfl; exact rfl) | (apply w3; (first | exact a_st_bx rfl rfl rfl rfl (fN rfl rfl) (Nat.le_of_ble_eq_true rfl) rfl | exact a_stE (E := eR) ⟨_, _, _⟩ rfl rfl rfl rfl (fN rfl rfl) bnd (by exact rfl) | exact a_stE (E := eMa) ⟨_, _, _⟩ rfl rfl rfl rfl (fN rfl rfl) bnd (by exact rfl)); exact rfl; refine dS ?_) | (apply c4 0; exact callK0 (θ := [_]) (hD := (srcPick_ok _ _ preB77 preB77 preB77)); exact rfl; exact rfl; exact rfl; refine dM ?_) | (apply c4 0; exact callK0 (θ := [_]) (hD := (srcOne_ok _ _ preB77 preB77 preB77)); exact rfl; exact rfl; exact rfl; refine dM ?_) | (apply c4 0; exact callK1 (θ := []) (hD := l05None_ok); exact rfl; exact rfl; exact rfl; refine dM ?_) | ((first | refine o_gs rfl rfl (fun hc => ?_) (fun hc => ?_) | refine g_cond rfl (fun hc => ?_) (fun hc => ?_)) <;> (try simp only [dcB] at hc) <;> (try first | contradiction | (exfalso; omega)))
      repeat refine cr ?_
      refine ends_id ?_
      refine endK [?_] (h2 := ?_) (h3 := ?_) (nd := ?_)
      rotate_left 1
      all_goals (repeat' first | exact ce0 | refine ce ?_ | refine ce2 ?_ ?_ | (refine Or.inr (bx_eq rfl rfl ?_); (try dsimp only [C.ren, C.ren.all]); (try exact rfl)) | exact SVLe.refl | refine ceb ?_)
      all_goals first | exact (show nodupB _ = true from rfl) | exact Or.inr rfl | (rfl)
end Go.Proofs.YtcmdfohamphndaaGreatDoor
end
section
set_option linter.unusedVariables false
set_option linter.unusedSimpArgs false
set_option maxRecDepth 100000
set_option maxHeartbeats 4000000
namespace Go.Proofs.YtcmdfohamphndaaGreatDoor
open Go Foot
structure DsOk (s : Src) (sy st : Int) : Prop where
  src : SrOk (dsO s sy st).2
  lo : s.pl ≤ (dsO s sy st).2.pl
  hi : (dsO s sy st).2.pl ≤ s.pl + 8 * (sy * st)
  len : ((dsO s sy st).1.length : Int) = sy * st
  ok : ∀ x ∈ (dsO s sy st).1, okRule sy st x = true
theorem dsO_ok {s : Src} {sy st : Int} (g : SrOk s) (h : s.pl ≤ 100000000000000000) (h1 : 1 ≤ sy) (h3 : 1 ≤ st) (hN : 0 ≤ sy * st) (hN2 : sy * st ≤ 36) : DsOk s sy st := by
  have k1 := dsF_ok h1 h3 (sy * st).toNat s [] g (by omega) (by simp)
  have k2 := dsF_pl sy st (sy * st).toNat s []
  have k3 := dsF_len sy st (sy * st).toNat s []
  rw [List.length_nil] at k3
  have e : dsF sy st (sy * st).toNat s [] = dsO s sy st := by unfold dsO; rfl
  rw [e] at k1 k2 k3
  exact ⟨k1.1, k2.1, by omega, by omega, k1.2⟩
/-- Marks that are drawn, and the source behind them. -/
def dwF : Nat → Src → List Int → List Int × Src
  | 0, s, r => (r, s)
  | n + 1, s, r => dwF n (pkS s 2) (r ++ [pkV s 2])
@[irreducible] def dwO (s : Src) (n : Int) : List Int × Src := dwF n.toNat s []
theorem dwF_pl : ∀ (n : Nat) (s : Src) (r : List Int), s.pl ≤ (dwF n s r).2.pl ∧ (dwF n s r).2.pl ≤ s.pl + 2 * n
  | 0, s, r => by simp [dwF]
  | n + 1, s, r => by
    have h1 := dwF_pl n (pkS s 2) (r ++ [pkV s 2])
    have h2 := pkS_pl s 2
    rw [dwF]
    omega
theorem dwF_ok : ∀ (n : Nat) (s : Src) (r : List Int), SrOk s → s.pl + 2 * n ≤ 999999999999999900 → (∀ x ∈ r, 0 ≤ x ∧ x < 2) → SrOk (dwF n s r).2 ∧ (∀ x ∈ (dwF n s r).1, 0 ≤ x ∧ x < 2) ∧ (dwF n s r).1.length = r.length + n
  | 0, s, r, g, _, h => ⟨g, h, rfl⟩
  | n + 1, s, r, g, hp, h => by
    have k := pkS_pl s 2
    have b := pkV_bd (n := 2) g (by omega)
    rw [dwF]
    have := dwF_ok n (pkS s 2) (r ++ [pkV s 2]) (sr_pick g (by omega)) (by omega) fun x hx => by
      rcases List.mem_append.1 hx with hx | hx
      · exact h x hx
      · rw [List.mem_singleton.1 hx]; exact b
    exact ⟨this.1, this.2.1, by rw [this.2.2]; simp; omega⟩
structure DwOk (s : Src) (n : Int) : Prop where
  src : SrOk (dwO s n).2
  lo : s.pl ≤ (dwO s n).2.pl
  hi : (dwO s n).2.pl ≤ s.pl + 2 * n
  len : ((dwO s n).1.length : Int) = n
  ok : ∀ x ∈ (dwO s n).1, 0 ≤ x ∧ x < 2
theorem dwO_ok {s : Src} {n : Int} (g : SrOk s) (h : s.pl ≤ 100000000000000000) (h1 : 0 ≤ n) (h2 : n ≤ 100) : DwOk s n := by
  have k1 := dwF_ok n.toNat s [] g (by omega) (by simp)
  have k2 := dwF_pl n.toNat s []
  have e : dwF n.toNat s [] = dwO s n := by unfold dwO; rfl
  rw [e] at k1 k2
  rw [List.length_nil] at k1
  exact ⟨k1.1, k2.1, by omega, by omega, k1.2.1⟩
@[irreducible] def smS (s : Src) : Src := pkS s 2
@[irreducible] def smT (s : Src) : Int := 1 + pkV s 2
@[irreducible] def sm1 (s : Src) : Src := (dsO (smS s) 2 (smT s)).2
@[irreducible] def sm2 (s : Src) : Src := pkS (sm1 s) (smT s)
@[irreducible] def smK (s : Src) : Int := pkV (sm2 s) 3
@[irreducible] def sm3 (s : Src) : Src := pkS (sm2 s) 3
@[irreducible] def sm4 (s : Src) : Src := (dwO (sm3 s) (smK s)).2
@[irreducible] def smJ (s : Src) : Int := pkV (sm4 s) 4
@[irreducible] def sm5 (s : Src) : Src := pkS (sm4 s) 4
@[irreducible] def smM (s : Src) : Mach := ⟨2, smT s, (dsO (smS s) 2 (smT s)).1⟩
@[irreducible] def smC (s : Src) : Conf := ⟨pkV (sm1 s) (smT s), trimR (dwO (sm3 s) (smK s)).1, trimR (dwO (sm5 s) (smJ s)).1⟩
theorem preB78 {p : Prop} (h : p := by first | with_reducible assumption | omega | (simp only [List.length_append, List.length_cons, List.length_nil, List.length_set, List.length_replicate, List.length_take, List.length_drop, List.length_tail, List.length_dropLast, List.length_reverse] at *; omega) | exact mem_len (by assumption) (by omega) | (with_reducible refine Int.le_trans (Int.ofNat_le.2 (trimR_len _)) ?_; simp only [List.length_cons, List.length_tail]; omega) | (exact (ruAt_ok (by assumption) (by assumption) (by assumption)).2.1) | (exact (ruAt_ok (by assumption) (by assumption) (by assumption)).2.1) | (have := vMach_bd (by assumption); omega) | (simp only [mC_ch, mC_tu]; omega) | (have := vTag_bd (by assumption); omega) | (have := (‹Gd _ _›).le; omega) | (exact tgHalts_no (by assumption)) | (exact tgHead (by assumption) (by assumption) (by assumption)) | (exact Int.le_trans (tgStep_gd (by assumption) (by assumption) (by assumption) (by assumption)).le (by decide)) | (exact vTag_r (by assumption)) | (with_reducible refine Int.le_trans (Int.ofNat_le.2 (pushL_len _ _)) ?_; simp only [List.length_dropLast]; omega) | exact ls_at (by assumption) (by omega) | exact pt_gd (by assumption) | exact lv_at (by assumption) (by omega) | exact pt_gd (lv_at (by assumption) (by omega)) | exact (ask_ok (by assumption)).1 | exact (ask_ok (by assumption)).2.1 | exact (ask_ok (by assumption)).2.2.1 | exact (ask_ok (by assumption)).2.2.2 | trivial) : p := h
theorem small_ok (l : List Int) (g : SrOk ⟨l, 0, 0⟩) : Does Tryz.prog 59 [.one (shY l)] [] (.tup [(true, [int 2, int (smM ⟨l, 0, 0⟩).st, .gv 0]), (true, [int (smC ⟨l, 0, 0⟩).st, .gv 1, .gv 2])]) [.row 3 (rows eR (smM ⟨l, 0, 0⟩).ru), .row 1 (rows eI (smC ⟨l, 0, 0⟩).le), .row 1 (rows eI (smC ⟨l, 0, 0⟩).ri)] := by
  have z1 := pkS_pl ⟨l, 0, 0⟩ 2
  dsimp only at z1
  have g1 := sr_pick (n := 2) g (by dsimp only; omega)
  have b1 := pkV_bd (n := 2) g (by omega)
  have D := dsO_ok (sy := 2) (st := 1 + pkV ⟨l, 0, 0⟩ 2) g1 (by omega) (by omega) (by omega) (by omega) (by omega)
  have d1 := D.lo
  have d2 := D.hi
  have g2 := D.src
  have z3 := pkS_pl (dsO (pkS ⟨l, 0, 0⟩ 2) 2 (1 + pkV ⟨l, 0, 0⟩ 2)).2 (1 + pkV ⟨l, 0, 0⟩ 2)
  have g3 := sr_pick (n := 1 + pkV ⟨l, 0, 0⟩ 2) g2 (by omega)
  have b3 := pkV_bd (n := 1 + pkV ⟨l, 0, 0⟩ 2) g2 (by omega)
  generalize hs3 : pkS (dsO (pkS ⟨l, 0, 0⟩ 2) 2 (1 + pkV ⟨l, 0, 0⟩ 2)).2 (1 + pkV ⟨l, 0, 0⟩ 2) = so3 at z3 g3
  have z4 := pkS_pl so3 3
  have g4 := sr_pick (n := 3) g3 (by omega)
  have b4 := pkV_bd (n := 3) g3 (by omega)
  have hm : smM ⟨l, 0, 0⟩ = ⟨2, 1 + pkV ⟨l, 0, 0⟩ 2, (dsO (pkS ⟨l, 0, 0⟩ 2) 2 (1 + pkV ⟨l, 0, 0⟩ 2)).1⟩ := by unfold smM smT smS; rfl
  have hcc : smC ⟨l, 0, 0⟩ = ⟨pkV (dsO (pkS ⟨l, 0, 0⟩ 2) 2 (1 + pkV ⟨l, 0, 0⟩ 2)).2 (1 + pkV ⟨l, 0, 0⟩ 2), trimR (dwO (pkS so3 3) (pkV so3 3)).1, trimR (dwO (pkS (dwO (pkS so3 3) (pkV so3 3)).2 4) (pkV (dwO (pkS so3 3) (pkV so3 3)).2 4)).1⟩ := by
    rw [← hs3]; unfold smC sm5 smJ sm4 smK sm3 sm2 sm1 smS smT; rfl
  rw [hm, hcc]
  clear hm hcc
  dsimp only
  refine does_of (k := 0) Tryz.func59 rfl Tryz.ntmps59 rfl rfl fun w F0 S0 ρ0 => ?_
  dsimp only [argT, argH]
  repeat' first | (apply n3; exact a_new (gb := .bx _) rfl; exact rfl; refine dA ?_) | (apply p3; (first | exact pu1 | exact a_add rfl rfl (by omega) (by omega)); exact rfl) | refine cdn ?_ | refine g_reg (id := 0) ?_ | refine g_reg (id := 1) ?_ | refine g_reg (id := 2) ?_ | (apply w3; (first | exact a_st_bx rfl rfl rfl rfl (fN rfl rfl) (Nat.le_of_ble_eq_true rfl) rfl | exact a_stE (E := eMa) ⟨_, _, _⟩ rfl rfl rfl rfl (fN rfl rfl) bnd (by exact rfl)); exact rfl; refine dS ?_) | (apply c4 1; exact callK0 (θ := []) (hD := (srcFrom_ok _)); exact rfl; exact rfl; exact rfl; refine dM ?_) | (apply c4 0; exact callK0 (θ := [_]) (hD := (srcPick_ok ⟨l, 0, 0⟩ 2 g (by dsimp only; omega) (by omega))); exact rfl; exact rfl; exact rfl; refine dM ?_) | (apply c4 1; exact callK0 (θ := [_]) (hD := (drawSize_ok _ _ _ preB78 preB78 preB78 preB78 preB78 preB78 preB78 preB78)); exact rfl; exact rfl; exact rfl; refine dM ?_) | ((first | refine o_gs rfl rfl (fun hc => ?_) (fun hc => ?_) | refine g_cond rfl (fun hc => ?_) (fun hc => ?_)) <;> (try simp only [dcB] at hc) <;> (try first | contradiction | (exfalso; omega)))
  have u1 : (dsO (pkS ⟨l, 0, 0⟩ 2) 2 (1 + pkV ⟨l, 0, 0⟩ 2)).2.pl ≤ 999999999999999998 := by omega
  repeat' first | (apply n3; exact a_new (gb := .bx _) rfl; exact rfl; refine dA ?_) | (apply p3; (first | exact pu1 | exact puL | exact a_add rfl rfl (by omega) (by omega)); exact rfl) | refine cdn ?_ | refine g_reg (id := 0) ?_ | refine g_reg (id := 1) ?_ | refine g_reg (id := 2) ?_ | refine g_reg (id := 3) ?_ | (apply w3; (first | exact a_st_bx rfl rfl rfl rfl (fN rfl rfl) (Nat.le_of_ble_eq_true rfl) rfl | exact a_stE (E := eMa) ⟨_, _, _⟩ rfl rfl rfl rfl (fN rfl rfl) bnd (by exact rfl) | exact a_stE (E := eCf) ⟨_, _, _⟩ rfl rfl rfl rfl (fN rfl rfl) bnd (by exact rfl)); exact rfl; refine dS ?_) | (apply c4 1; exact callK0 (θ := []) (hD := (srcFrom_ok _)); exact rfl; exact rfl; exact rfl; refine dM ?_) | (apply c4 0; exact callK0 (θ := [_]) (hD := (srcPick_ok ⟨l, 0, 0⟩ 2 g (by dsimp only; omega) (by omega))); exact rfl; exact rfl; exact rfl; refine dM ?_) | (apply c4 0; exact callK0 (θ := [_]) (hD := (srcPick_ok (dsO (pkS ⟨l, 0, 0⟩ 2) 2 (1 + pkV ⟨l, 0, 0⟩ 2)).2 (1 + pkV ⟨l, 0, 0⟩ 2) g2 u1 (by omega))); exact rfl; exact rfl; exact rfl; refine dM ?_) | (apply c4 1; exact callK0 (θ := [_]) (hD := (drawSize_ok _ _ _ preB78 preB78 preB78 preB78 preB78 preB78 preB78 preB78)); exact rfl; exact rfl; exact rfl; refine dM ?_) | (apply c4 0; exact callK0 (θ := [_]) (hD := (srcPick_ok ⟨l, 0, 0⟩ 2 g (by dsimp only; omega) (by omega))); exact rfl; exact rfl; exact rfl; refine dM ?_) | (apply c4 0; exact callK0 (θ := [_]) (hD := (srcPick_ok (dsO (pkS ⟨l, 0, 0⟩ 2) 2 (1 + pkV ⟨l, 0, 0⟩ 2)).2 (1 + pkV ⟨l, 0, 0⟩ 2) g2 u1 (by omega))); exact rfl; exact rfl; exact rfl; refine dM ?_) | ((first | refine o_gs rfl rfl (fun hc => ?_) (fun hc => ?_) | refine g_cond rfl (fun hc => ?_) (fun hc => ?_)) <;> (try simp only [dcB] at hc) <;> (try first | contradiction | (exfalso; omega)))
  rw [hs3]
  have u2 : so3.pl ≤ 1000 := by omega
  generalize (dsO (pkS ⟨l, 0, 0⟩ 2) 2 (1 + pkV ⟨l, 0, 0⟩ 2)).2 = sD at *
  repeat' first | (apply n3; exact a_new (gb := .bx _) rfl; exact rfl; refine dA ?_) | (apply p3; (first | exact pu1 | exact puL | exact a_add rfl rfl (by omega) (by omega) | exact puC | exact a_sub rfl rfl (by omega) (by omega)); exact rfl) | refine cd ?_ | (apply w3; (first | exact a_st_bx rfl rfl rfl rfl (fN rfl rfl) (Nat.le_of_ble_eq_true rfl) rfl | exact a_stE (E := eMa) ⟨_, _, _⟩ rfl rfl rfl rfl (fN rfl rfl) bnd (by exact rfl) | exact a_stE (E := eCf) ⟨_, _, _⟩ rfl rfl rfl rfl (fN rfl rfl) bnd (by exact rfl) | exact a_stE (E := eW) _ rfl rfl rfl rfl (fN rfl rfl) bnd (by exact rfl)); exact rfl; refine dS ?_) | (apply c4 1; exact callK0 (θ := []) (hD := (srcFrom_ok _)); exact rfl; exact rfl; exact rfl; refine dM ?_) | (apply c4 0; exact callK0 (θ := [_]) (hD := (srcPick_ok ⟨l, 0, 0⟩ 2 g (by dsimp only; omega) (by omega))); exact rfl; exact rfl; exact rfl; refine dM ?_) | (apply c4 0; exact callK0 (θ := [_]) (hD := (srcPick_ok (dsO (pkS ⟨l, 0, 0⟩ 2) 2 (1 + pkV ⟨l, 0, 0⟩ 2)).2 (1 + pkV ⟨l, 0, 0⟩ 2) g2 u1 (by omega))); exact rfl; exact rfl; exact rfl; refine dM ?_) | (apply c4 0; exact callK0 (θ := [_]) (hD := (srcPick_ok so3 3 g3 (by omega) (by omega))); exact rfl; exact rfl; exact rfl; refine dM ?_) | (apply c4 1; exact callK0 (θ := [_]) (hD := (drawSize_ok _ _ _ preB78 preB78 preB78 preB78 preB78 preB78 preB78 preB78)); exact rfl; exact rfl; exact rfl; refine dM ?_) | (apply c4 0; exact callK0 (θ := [_]) (hD := (srcPick_ok ⟨l, 0, 0⟩ 2 g (by dsimp only; omega) (by omega))); exact rfl; exact rfl; exact rfl; refine dM ?_) | (apply c4 0; exact callK0 (θ := [_]) (hD := (srcPick_ok (dsO (pkS ⟨l, 0, 0⟩ 2) 2 (1 + pkV ⟨l, 0, 0⟩ 2)).2 (1 + pkV ⟨l, 0, 0⟩ 2) g2 u1 (by omega))); exact rfl; exact rfl; exact rfl; refine dM ?_) | (apply c4 0; exact callK0 (θ := [_]) (hD := (srcPick_ok so3 3 g3 (by omega) (by omega))); exact rfl; exact rfl; exact rfl; refine dM ?_) | (apply c4 0; exact callK0 (θ := [_]) (hD := (srcPick_ok ⟨l, 0, 0⟩ 2 g (by dsimp only; omega) (by omega))); exact rfl; exact rfl; exact rfl; refine dM ?_) | (apply c4 0; exact callK0 (θ := [_]) (hD := (srcPick_ok (dsO (pkS ⟨l, 0, 0⟩ 2) 2 (1 + pkV ⟨l, 0, 0⟩ 2)).2 (1 + pkV ⟨l, 0, 0⟩ 2) g2 u1 (by omega))); exact rfl; exact rfl; exact rfl; refine dM ?_) | (apply c4 0; exact callK0 (θ := [_]) (hD := (srcPick_ok so3 3 g3 (by omega) (by omega))); exact rfl; exact rfl; exact rfl; refine dM ?_) | (apply c4 0; exact callK0 (θ := [_]) (hD := (srcPick_ok ⟨l, 0, 0⟩ 2 g (by dsimp only; omega) (by omega))); exact rfl; exact rfl; exact rfl; refine dM ?_) | (apply c4 0; exact callK0 (θ := [_]) (hD := (srcPick_ok (dsO (pkS ⟨l, 0, 0⟩ 2) 2 (1 + pkV ⟨l, 0, 0⟩ 2)).2 (1 + pkV ⟨l, 0, 0⟩ 2) g2 u1 (by omega))); exact rfl; exact rfl; exact rfl; refine dM ?_) | (apply c4 0; exact callK0 (θ := [_]) (hD := (srcPick_ok so3 3 g3 (by omega) (by omega))); exact rfl; exact rfl; exact rfl; refine dM ?_) | (apply c4 1; exact callK1 (θ := []) (hD := (l05Trim_ok _ preB78)); exact rfl; exact rfl; exact rfl; refine dM ?_) | (apply g_drN (id := 14) okM [[],[],[0],[0,1,2]] [([],[]),([],[]),([],[0]),([],[1])] 0; (focus (refine dp 0 0 [56] [] puL ?_; refine dp 1 0 [55] [(false, 0)] puL ?_; refine duE 2 2 [56] [] (by first | exact a_st_bx rfl rfl rfl rfl (fN rfl rfl) (Nat.le_of_ble_eq_true rfl) rfl | exact a_stE (E := eMa) ⟨_, _, _⟩ rfl rfl rfl rfl (fN rfl rfl) bnd (by exact rfl)) (by exact rfl) (by exact rfl) ?_; refine duE 3 7 [] [] (by first | exact a_st_bx rfl rfl rfl rfl (fN rfl rfl) (Nat.le_of_ble_eq_true rfl) rfl | exact a_stE (E := eCf) ⟨_, _, _⟩ rfl rfl rfl rfl (fN rfl rfl) bnd (by exact rfl)) (by exact rfl) (by exact rfl) ?_; (refine d_nil ?_; refine dN ?_))); any_goals kernel_rfl) | ((first | refine o_gs rfl rfl (fun hc => ?_) (fun hc => ?_) | refine g_cond rfl (fun hc => ?_) (fun hc => ?_)) <;> (try simp only [dcB] at hc) <;> (try first | contradiction | (exfalso; omega)))
  generalize hs4 : pkS so3 3 = so4 at *
  generalize hk : pkV so3 3 = K at *
  have W := dwO_ok (n := K) g4 (by omega) (by omega) (by omega)
  have y1 := W.lo
  have y2 := W.hi
  have e1 : dwF K.toNat so4 [] = dwO so4 K := by unfold dwO; rfl
  refine g_conv (t_nilB (i := 5) (k := 1) (z := 1) rfl rfl rfl (by decide)) ?_
  try dsimp only [setRow, List.map_cons, List.map_nil, scC, List.set_cons_zero, List.set_cons_succ, Nat.reduceAdd]
  refine g_conv (t_nilB (i := 5) (k := 2) (z := 1) rfl rfl rfl (by decide)) ?_
  try dsimp only [setRow, List.map_cons, List.map_nil, scC, List.set_cons_zero, List.set_cons_succ, Nat.reduceAdd]
  generalize hc0 : pkV sD (1 + pkV ⟨l, 0, 0⟩ 2) = c0
  refine g_loop_id ?_
  refine loopK [2, 3, 4, 5, 6] [2, 5, 6] (fun y : Int × Src × List Int => 0 ≤ y.1 ∧ SrOk y.2.1 ∧ y.2.1.pl ≤ so4.pl + 2 * (K - y.1) ∧ (y.2.2.length : Int) ≤ K - y.1 ∧ dwF y.1.toNat y.2.1 y.2.2 = dwO so4 K) (fun y => [(7, .one (int y.1))]) (fun y => [(2, srB y.2.1), (5, .bx [int c0, .gv 6, .gv 7]), (6, .row 1 (rows eI y.2.2))]) (fun y => y.1.toNat) (K, so4, ([] : List Int)) [0, 1, 2, 3, 4, 5, 6, 7] (hI := ?_) (hr := ?_)
  · exact ⟨b4.1, g4, by simp, by simp, e1⟩
  · rintro ⟨n, u, r⟩ ⟨k0, k2, k3, k4, k5⟩
    dsimp only [List.cons_append, List.nil_append] at *
    skip
    repeat' first | (apply p3; (first | exact pu1 | exact puL | exact puC | exact a_sub rfl rfl (by omega) (by omega)); exact rfl) | refine cdn ?_ | refine g_reg (id := 5) ?_ | refine g_reg (id := 9) ?_ | refine g_reg (id := 10) ?_ | refine g_reg (id := 12) ?_ | refine g_reg (id := 13) ?_ | (apply w3; (first | exact a_st_bx rfl rfl rfl rfl (fN rfl rfl) (Nat.le_of_ble_eq_true rfl) rfl | exact a_stE (E := eW) _ rfl rfl rfl rfl (fN rfl rfl) bnd (by exact rfl)); exact rfl; refine dS ?_) | (apply c4 0; exact callK0 (θ := [_]) (hD := (srcPick_ok ⟨l, 0, 0⟩ 2 g (by dsimp only; omega) (by omega))); exact rfl; exact rfl; exact rfl; refine dM ?_) | (apply c4 0; exact callK0 (θ := [_]) (hD := (srcPick_ok (dsO (pkS ⟨l, 0, 0⟩ 2) 2 (1 + pkV ⟨l, 0, 0⟩ 2)).2 (1 + pkV ⟨l, 0, 0⟩ 2) g2 u1 (by omega))); exact rfl; exact rfl; exact rfl; refine dM ?_) | (apply c4 0; exact callK0 (θ := [_]) (hD := (srcPick_ok so3 3 g3 (by omega) (by omega))); exact rfl; exact rfl; exact rfl; refine dM ?_) | (apply c4 1; exact callK1 (θ := []) (hD := (l05Trim_ok _ preB78)); exact rfl; exact rfl; exact rfl; refine dM ?_) | (apply g_drN (id := 14) okM [[],[],[0],[0,1,2]] [([],[]),([],[]),([],[0]),([],[1])] 0; (focus (refine dp 0 0 [56] [] puL ?_; refine dp 1 0 [55] [(false, 0)] puL ?_; refine duE 2 2 [56] [] (by first | exact a_st_bx rfl rfl rfl rfl (fN rfl rfl) (Nat.le_of_ble_eq_true rfl) rfl | exact a_stE (E := eMa) ⟨_, _, _⟩ rfl rfl rfl rfl (fN rfl rfl) bnd (by exact rfl)) (by exact rfl) (by exact rfl) ?_; refine duE 3 7 [] [] (by first | exact a_st_bx rfl rfl rfl rfl (fN rfl rfl) (Nat.le_of_ble_eq_true rfl) rfl | exact a_stE (E := eCf) ⟨_, _, _⟩ rfl rfl rfl rfl (fN rfl rfl) bnd (by exact rfl)) (by exact rfl) (by exact rfl) ?_; (refine d_nil ?_; refine dN ?_))); any_goals kernel_rfl) | ((first | refine o_gs rfl rfl (fun hc => ?_) (fun hc => ?_) | refine g_cond rfl (fun hc => ?_) (fun hc => ?_)) <;> (try simp only [dcB] at hc) <;> (try first | contradiction | (exfalso; omega)))
    · have v1 := pkS_pl u 2
      have v2 := sr_pick (n := 2) k2 (by omega)
      have v3 : dwF (n - 1).toNat (pkS u 2) (r ++ [pkV u 2]) = dwO so4 K := by
        rw [← k5, show n.toNat = (n - 1).toNat + 1 by omega, dwF]
      repeat' first | (apply p3; (first | exact pu1 | exact puL | exact puC | exact a_sub rfl rfl (by omega) (by omega)); exact rfl) | refine cd ?_ | (apply w3; (first | exact a_st_bx rfl rfl rfl rfl (fN rfl rfl) (Nat.le_of_ble_eq_true rfl) rfl | exact a_stE (E := eW) _ rfl rfl rfl rfl (fN rfl rfl) bnd (by exact rfl)); exact rfl; refine dS ?_) | (apply c4 0; exact callK0 (θ := [_]) (hD := (srcPick_ok u 2 k2 (by omega) (by omega))); exact rfl; exact rfl; exact rfl; refine dM ?_) | (apply c4 1; exact callK1 (θ := []) (hD := (l05Trim_ok _ preB78)); exact rfl; exact rfl; exact rfl; refine dM ?_) | (apply g_drN (id := 7) okM [[],[0],[],[2],[2,3],[0,1,2,3,4],[0,1,2,3,4,5],[0,1,2,3,4,5,6]] [([],[]),([],[]),([],[]),([],[2]),([0],[]),([1],[6]),([],[]),([],[5])] 2; (focus (refine dp 0 0 [29, 30, 31] [(false, 2), (true, 0)] (a_pure (sv := .one _) rfl) ?_; refine dp 1 1 [29, 30, 31] [(false, 2), (true, 0)] puL ?_; refine dp 2 0 [27, 28] [] pu1 ?_; refine duN 3 1 [27, 28] [] (callD0 (n := _) 0 (θ := [_]) (hD := (srcPick_ok u 2 k2 (by omega) (by omega)))) (by exact rfl) (by exact rfl) ?_; refine duE 4 3 [27, 28] [] (atN 0 (fun _ => a_litE eI [_] rfl rfl rfl rfl rfl rfl rfl rfl)) (by exact rfl) (by exact rfl) ?_; refine duE 5 31 [] [] (atS 1 (fun _ hj => a_appE (fP rfl) rfl rfl rfl rfl nowR (by first | omega | (simp; omega)) (by decide) hj (by exact rfl)) (by decide)) (by exact rfl) (by exact rfl) ?_; refine dp 6 63 [] [] (a_pure (sv := .one _) rfl) ?_; refine duE 7 127 [] [] (by first | exact a_st_bx rfl rfl rfl rfl (fN rfl rfl) (Nat.le_of_ble_eq_true rfl) rfl | exact a_stE (E := eW) _ rfl rfl rfl rfl (fN rfl rfl) bnd (by exact rfl)) (by exact rfl) (by exact rfl) ?_; (refine d_nil ?_; refine dN ?_))); any_goals kernel_rfl) | (apply g_drN (id := 14) okM [[],[],[0],[0,1,2]] [([],[]),([],[]),([],[0]),([],[1])] 0; (focus (refine dp 0 0 [56] [] puL ?_; refine dp 1 0 [55] [(false, 0)] puL ?_; refine duE 2 2 [56] [] (by first | exact a_st_bx rfl rfl rfl rfl (fN rfl rfl) (Nat.le_of_ble_eq_true rfl) rfl | exact a_stE (E := eMa) ⟨_, _, _⟩ rfl rfl rfl rfl (fN rfl rfl) bnd (by exact rfl)) (by exact rfl) (by exact rfl) ?_; refine duE 3 7 [] [] (by first | exact a_st_bx rfl rfl rfl rfl (fN rfl rfl) (Nat.le_of_ble_eq_true rfl) rfl | exact a_stE (E := eCf) ⟨_, _, _⟩ rfl rfl rfl rfl (fN rfl rfl) bnd (by exact rfl)) (by exact rfl) (by exact rfl) ?_; (refine d_nil ?_; refine dN ?_))); any_goals kernel_rfl) | ((first | refine o_gs rfl rfl (fun hc => ?_) (fun hc => ?_) | refine g_cond rfl (fun hc => ?_) (fun hc => ?_)) <;> (try simp only [dcB] at hc) <;> (try first | contradiction | (exfalso; omega)))
      refine q_again (n - 1, pkS u 2, r ++ [pkV u 2]) [0, 1, 2, 3, 4, 5, 9, 7] (by exact stk) ?_ ?_
      · exact ⟨by omega, v2, by dsimp only; omega, by simp; omega, v3⟩
      · omega
    · have v0 : n.toNat = 0 := by omega
      rw [v0, dwF] at k5
      have v1 := congrArg Prod.fst k5
      have v2 := congrArg Prod.snd k5
      dsimp only at v1 v2
      subst v1
      subst v2
      have y3 := W.src
      have y4 := W.len
      generalize hs5 : (dwO so4 K).2 = so5 at *
      generalize hL : (dwO so4 K).1 = L at *
      have z5 := pkS_pl so5 4
      have g5 := sr_pick (n := 4) y3 (by omega)
      have b5 := pkV_bd (n := 4) y3 (by omega)
      repeat' first | (apply p3; (first | exact pu1 | exact puL | exact puC | exact a_sub rfl rfl (by omega) (by omega)); exact rfl) | refine cd ?_ | (apply w3; (first | exact a_st_bx rfl rfl rfl rfl (fN rfl rfl) (Nat.le_of_ble_eq_true rfl) rfl | exact a_stE (E := eW) _ rfl rfl rfl rfl (fN rfl rfl) bnd (by exact rfl)); exact rfl; refine dS ?_) | (apply c4 0; exact callK0 (θ := [_]) (hD := (srcPick_ok so5 4 y3 (by omega) (by omega))); exact rfl; exact rfl; exact rfl; refine dM ?_) | (apply c4 1; exact callK1 (θ := []) (hD := (l05Trim_ok _ preB78)); exact rfl; exact rfl; exact rfl; refine dM ?_) | (apply g_drN (id := 7) okM [[],[0],[],[2],[2,3],[0,1,2,3,4],[0,1,2,3,4,5],[0,1,2,3,4,5,6]] [([],[]),([],[]),([],[]),([],[2]),([0],[]),([1],[6]),([],[]),([],[5])] 2; (focus (refine dp 0 0 [29, 30, 31] [(false, 2), (true, 0)] (a_pure (sv := .one _) rfl) ?_; refine dp 1 1 [29, 30, 31] [(false, 2), (true, 0)] puL ?_; refine dp 2 0 [27, 28] [] pu1 ?_; refine duN 3 1 [27, 28] [] (callD0 (n := _) 0 (θ := [_]) (hD := (srcPick_ok so5 4 y3 (by omega) (by omega)))) (by exact rfl) (by exact rfl) ?_; refine duE 4 3 [27, 28] [] (atN 0 (fun _ => a_litE eI [_] rfl rfl rfl rfl rfl rfl rfl rfl)) (by exact rfl) (by exact rfl) ?_; refine duE 5 31 [] [] (atS 1 (fun _ hj => a_appE (fP rfl) rfl rfl rfl rfl nowR (by first | omega | (simp; omega)) (by decide) hj (by exact rfl)) (by decide)) (by exact rfl) (by exact rfl) ?_; refine dp 6 63 [] [] (a_pure (sv := .one _) rfl) ?_; refine duE 7 127 [] [] (by first | exact a_st_bx rfl rfl rfl rfl (fN rfl rfl) (Nat.le_of_ble_eq_true rfl) rfl | exact a_stE (E := eW) _ rfl rfl rfl rfl (fN rfl rfl) bnd (by exact rfl)) (by exact rfl) (by exact rfl) ?_; (refine d_nil ?_; refine dN ?_))); any_goals kernel_rfl) | (apply g_drN (id := 14) okM [[],[],[0],[0,1,2]] [([],[]),([],[]),([],[0]),([],[1])] 0; (focus (refine dp 0 0 [56] [] puL ?_; refine dp 1 0 [55] [(false, 0)] puL ?_; refine duE 2 2 [56] [] (by first | exact a_st_bx rfl rfl rfl rfl (fN rfl rfl) (Nat.le_of_ble_eq_true rfl) rfl | exact a_stE (E := eMa) ⟨_, _, _⟩ rfl rfl rfl rfl (fN rfl rfl) bnd (by exact rfl)) (by exact rfl) (by exact rfl) ?_; refine duE 3 7 [] [] (by first | exact a_st_bx rfl rfl rfl rfl (fN rfl rfl) (Nat.le_of_ble_eq_true rfl) rfl | exact a_stE (E := eCf) ⟨_, _, _⟩ rfl rfl rfl rfl (fN rfl rfl) bnd (by exact rfl)) (by exact rfl) (by exact rfl) ?_; (refine d_nil ?_; refine dN ?_))); any_goals kernel_rfl) | (refine o_gs rfl rfl (fun hc => ?_) (fun hc => ?_) <;> (try simp only [dcB] at hc) <;> (try first | contradiction | (exfalso; omega))) | (refine g_cond (c := .tmp 24) rfl (fun hc => ?_) (fun hc => ?_) <;> (try simp only [dcB] at hc) <;> (try (first | contradiction | (exfalso; omega)))) | (refine g_cond (c := .tmp 37) rfl (fun hc => ?_) (fun hc => ?_) <;> (try simp only [dcB] at hc) <;> (try (first | contradiction | (exfalso; omega))))
      generalize hs6 : pkS so5 4 = so6 at *
      generalize hj : pkV so5 4 = J at *
      have X := dwO_ok (n := J) g5 (by omega) (by omega) (by omega)
      have x1 := X.lo
      have x2 := X.hi
      have e2 : dwF J.toNat so6 [] = dwO so6 J := by unfold dwO; rfl
      refine g_loop_id ?_
      refine loopK [2, 3, 4, 5, 6] [2, 5, 7] (fun y : Int × Src × List Int => 0 ≤ y.1 ∧ SrOk y.2.1 ∧ y.2.1.pl ≤ so6.pl + 2 * (J - y.1) ∧ (y.2.2.length : Int) ≤ J - y.1 ∧ dwF y.1.toNat y.2.1 y.2.2 = dwO so6 J) (fun y => [(8, .one (int y.1))]) (fun y => [(2, srB y.2.1), (5, .bx [int c0, .gv 6, .gv 7]), (7, .row 1 (rows eI y.2.2))]) (fun y => y.1.toNat) (J, so6, ([] : List Int)) [0, 1, 2, 3, 4, 5, 6, 7] (hI := ?_) (hr := ?_)
      · exact ⟨b5.1, g5, by simp, by simp, e2⟩
      · rintro ⟨n', u', r'⟩ ⟨m0, m2, m3, m4, m5⟩
        dsimp only [List.cons_append, List.nil_append] at *
        skip
        repeat' first | (apply p3; (first | exact pu1 | exact puL | exact puC); exact rfl) | refine cdn ?_ | refine g_reg (id := 9) ?_ | refine g_reg (id := 13) ?_ | (apply w3; (first | exact a_st_bx rfl rfl rfl rfl (fN rfl rfl) (Nat.le_of_ble_eq_true rfl) rfl | exact a_stE (E := eW) _ rfl rfl rfl rfl (fN rfl rfl) bnd (by exact rfl)); exact rfl; refine dS ?_) | (apply c4 1; exact callK1 (θ := []) (hD := (l05Trim_ok _ preB78)); exact rfl; exact rfl; exact rfl; refine dM ?_) | (apply g_drN (id := 14) okM [[],[],[0],[0,1,2]] [([],[]),([],[]),([],[0]),([],[1])] 0; (focus (refine dp 0 0 [56] [] puL ?_; refine dp 1 0 [55] [(false, 0)] puL ?_; refine duE 2 2 [56] [] (by first | exact a_st_bx rfl rfl rfl rfl (fN rfl rfl) (Nat.le_of_ble_eq_true rfl) rfl | exact a_stE (E := eMa) ⟨_, _, _⟩ rfl rfl rfl rfl (fN rfl rfl) bnd (by exact rfl)) (by exact rfl) (by exact rfl) ?_; refine duE 3 7 [] [] (by first | exact a_st_bx rfl rfl rfl rfl (fN rfl rfl) (Nat.le_of_ble_eq_true rfl) rfl | exact a_stE (E := eCf) ⟨_, _, _⟩ rfl rfl rfl rfl (fN rfl rfl) bnd (by exact rfl)) (by exact rfl) (by exact rfl) ?_; (refine d_nil ?_; refine dN ?_))); any_goals kernel_rfl) | ((first | refine o_gs rfl rfl (fun hc => ?_) (fun hc => ?_) | refine g_cond rfl (fun hc => ?_) (fun hc => ?_)) <;> (try simp only [dcB] at hc) <;> (try first | contradiction | (exfalso; omega)))
        · have v1 := pkS_pl u' 2
          have v2 := sr_pick (n := 2) m2 (by omega)
          have v3 : dwF (n' - 1).toNat (pkS u' 2) (r' ++ [pkV u' 2]) = dwO so6 J := by
            rw [← m5, show n'.toNat = (n' - 1).toNat + 1 by omega, dwF]
          repeat' first | (apply p3; (first | exact pu1 | exact puL | exact puC | exact a_sub rfl rfl (by omega) (by omega)); exact rfl) | refine cd ?_ | (apply w3; (first | exact a_st_bx rfl rfl rfl rfl (fN rfl rfl) (Nat.le_of_ble_eq_true rfl) rfl | exact a_stE (E := eW) _ rfl rfl rfl rfl (fN rfl rfl) bnd (by exact rfl)); exact rfl; refine dS ?_) | (apply c4 1; exact callK1 (θ := []) (hD := (l05Trim_ok _ preB78)); exact rfl; exact rfl; exact rfl; refine dM ?_) | (apply g_drN (id := 11) okM [[],[0],[],[2],[2,3],[0,1,2,3,4],[0,1,2,3,4,5],[0,1,2,3,4,5,6]] [([],[]),([],[]),([],[]),([],[2]),([0],[]),([1],[7]),([],[]),([],[5])] 2; (focus (refine dp 0 0 [42, 43, 44] [(false, 2), (true, 0)] (a_pure (sv := .one _) rfl) ?_; refine dp 1 1 [42, 43, 44] [(false, 2), (true, 0)] puL ?_; refine dp 2 0 [40, 41] [] pu1 ?_; refine duN 3 1 [40, 41] [] (callD0 (n := _) 0 (θ := [_]) (hD := (srcPick_ok u' 2 m2 (by omega) (by omega)))) (by exact rfl) (by exact rfl) ?_; refine duE 4 3 [40, 41] [] (atN 0 (fun _ => a_litE eI [_] rfl rfl rfl rfl rfl rfl rfl rfl)) (by exact rfl) (by exact rfl) ?_; refine duE 5 31 [] [] (atS 1 (fun _ hj => a_appE (fP rfl) rfl rfl rfl rfl nowR (by first | omega | (simp; omega)) (by decide) hj (by exact rfl)) (by decide)) (by exact rfl) (by exact rfl) ?_; refine dp 6 63 [] [] (a_pure (sv := .one _) rfl) ?_; refine duE 7 127 [] [] (by first | exact a_st_bx rfl rfl rfl rfl (fN rfl rfl) (Nat.le_of_ble_eq_true rfl) rfl | exact a_stE (E := eW) _ rfl rfl rfl rfl (fN rfl rfl) bnd (by exact rfl)) (by exact rfl) (by exact rfl) ?_; (refine d_nil ?_; refine dN ?_))); any_goals kernel_rfl) | (apply g_drN (id := 14) okM [[],[],[0],[0,1,2]] [([],[]),([],[]),([],[0]),([],[1])] 0; (focus (refine dp 0 0 [56] [] puL ?_; refine dp 1 0 [55] [(false, 0)] puL ?_; refine duE 2 2 [56] [] (by first | exact a_st_bx rfl rfl rfl rfl (fN rfl rfl) (Nat.le_of_ble_eq_true rfl) rfl | exact a_stE (E := eMa) ⟨_, _, _⟩ rfl rfl rfl rfl (fN rfl rfl) bnd (by exact rfl)) (by exact rfl) (by exact rfl) ?_; refine duE 3 7 [] [] (by first | exact a_st_bx rfl rfl rfl rfl (fN rfl rfl) (Nat.le_of_ble_eq_true rfl) rfl | exact a_stE (E := eCf) ⟨_, _, _⟩ rfl rfl rfl rfl (fN rfl rfl) bnd (by exact rfl)) (by exact rfl) (by exact rfl) ?_; (refine d_nil ?_; refine dN ?_))); any_goals kernel_rfl) | ((first | refine o_gs rfl rfl (fun hc => ?_) (fun hc => ?_) | refine g_cond rfl (fun hc => ?_) (fun hc => ?_)) <;> (try simp only [dcB] at hc) <;> (try first | contradiction | (exfalso; omega)))
          refine q_again (n' - 1, pkS u' 2, r' ++ [pkV u' 2]) [0, 1, 2, 3, 4, 5, 6, 9] (by exact stk) ?_ ?_
          · exact ⟨by omega, v2, by dsimp only; omega, by simp; omega, v3⟩
          · omega
        · have v0 : n'.toNat = 0 := by omega
          rw [v0, dwF] at m5
          have v1 := congrArg Prod.fst m5
          have v2 := congrArg Prod.snd m5
          dsimp only at v1 v2
          subst v1
          subst v2
          have x4 := X.len
          repeat' first | (apply p3; (first | exact pu1 | exact puL | exact puC | exact a_sub rfl rfl (by omega) (by omega)); exact rfl) | refine cd ?_ | (apply w3; (first | exact a_st_bx rfl rfl rfl rfl (fN rfl rfl) (Nat.le_of_ble_eq_true rfl) rfl | exact a_stE (E := eW) _ rfl rfl rfl rfl (fN rfl rfl) bnd (by exact rfl)); exact rfl; refine dS ?_) | (apply c4 1; exact callK1 (θ := []) (hD := (l05Trim_ok _ preB78)); exact rfl; exact rfl; exact rfl; refine dM ?_) | (apply g_drN (id := 11) okM [[],[0],[],[2],[2,3],[0,1,2,3,4],[0,1,2,3,4,5],[0,1,2,3,4,5,6]] [([],[]),([],[]),([],[]),([],[2]),([0],[]),([1],[7]),([],[]),([],[5])] 2; (focus (refine dp 0 0 [42, 43, 44] [(false, 2), (true, 0)] (a_pure (sv := .one _) rfl) ?_; refine dp 1 1 [42, 43, 44] [(false, 2), (true, 0)] puL ?_; refine dp 2 0 [40, 41] [] pu1 ?_; refine duN 3 1 [40, 41] [] (callD0 (n := _) 0 (θ := [_]) (hD := (srcPick_ok u' 2 m2 (by omega) (by omega)))) (by exact rfl) (by exact rfl) ?_; refine duE 4 3 [40, 41] [] (atN 0 (fun _ => a_litE eI [_] rfl rfl rfl rfl rfl rfl rfl rfl)) (by exact rfl) (by exact rfl) ?_; refine duE 5 31 [] [] (atS 1 (fun _ hj => a_appE (fP rfl) rfl rfl rfl rfl nowR (by first | omega | (simp; omega)) (by decide) hj (by exact rfl)) (by decide)) (by exact rfl) (by exact rfl) ?_; refine dp 6 63 [] [] (a_pure (sv := .one _) rfl) ?_; refine duE 7 127 [] [] (by first | exact a_st_bx rfl rfl rfl rfl (fN rfl rfl) (Nat.le_of_ble_eq_true rfl) rfl | exact a_stE (E := eW) _ rfl rfl rfl rfl (fN rfl rfl) bnd (by exact rfl)) (by exact rfl) (by exact rfl) ?_; (refine d_nil ?_; refine dN ?_))); any_goals kernel_rfl) | (apply g_drN (id := 14) okM [[],[],[0],[0,1,2]] [([],[]),([],[]),([],[0]),([],[1])] 0; (focus (refine dp 0 0 [56] [] puL ?_; refine dp 1 0 [55] [(false, 0)] puL ?_; refine duE 2 2 [56] [] (by first | exact a_st_bx rfl rfl rfl rfl (fN rfl rfl) (Nat.le_of_ble_eq_true rfl) rfl | exact a_stE (E := eMa) ⟨_, _, _⟩ rfl rfl rfl rfl (fN rfl rfl) bnd (by exact rfl)) (by exact rfl) (by exact rfl) ?_; refine duE 3 7 [] [] (by first | exact a_st_bx rfl rfl rfl rfl (fN rfl rfl) (Nat.le_of_ble_eq_true rfl) rfl | exact a_stE (E := eCf) ⟨_, _, _⟩ rfl rfl rfl rfl (fN rfl rfl) bnd (by exact rfl)) (by exact rfl) (by exact rfl) ?_; (refine d_nil ?_; refine dN ?_))); any_goals kernel_rfl) | ((first | refine o_gs rfl rfl (fun hc => ?_) (fun hc => ?_) | refine g_cond rfl (fun hc => ?_) (fun hc => ?_)) <;> (try simp only [dcB] at hc) <;> (try first | contradiction | (exfalso; omega)))
          repeat refine cr ?_
          refine ends_id ?_
          refine endK [?_, ?_, ?_] (h2 := ?_) (h3 := ?_) (nd := ?_)
          rotate_left 3
          all_goals (repeat' first | exact ce0 | refine ce ?_ | refine ce2 ?_ ?_ | (refine Or.inr (bx_eq rfl rfl ?_); (try dsimp only [C.ren, C.ren.all]); (try exact rfl)) | exact SVLe.refl | refine ceb ?_)
          all_goals first | exact (show nodupB _ = true from rfl) | exact Or.inr rfl | (rfl)
end Go.Proofs.YtcmdfohamphndaaGreatDoor
end
section
set_option linter.unusedVariables false
set_option linter.unusedSimpArgs false
set_option maxRecDepth 100000
set_option maxHeartbeats 4000000
namespace Go.Proofs.YtcmdfohamphndaaGreatDoor
open Go Foot
structure SmOk (s : Src) : Prop where
  m : vMach (smM s) = true
  c : vConf (smM s) (smC s) = true
  sy : (smM s).sy = 2
  st : 1 ≤ (smM s).st ∧ (smM s).st ≤ 2
  le : ((smC s).le.length : Int) ≤ 2
  ri : ((smC s).ri.length : Int) ≤ 3
theorem trim_side {l : List Int} (h : ∀ x ∈ l, 0 ≤ x ∧ x < 2) (hn : (l.length : Int) ≤ 200) : vSide 2 (trimR l) = true := by
  unfold vSide
  have h1 := trimR_len l
  have h2 := trimR_norm l
  rw [Bool.and_eq_true, List.all_eq_true, decide_eq_true_eq]
  refine ⟨fun x hx => ?_, by omega, h2⟩
  have := h x (trimR_mem hx)
  rw [decide_eq_true_eq]
  omega
theorem sm_ok (s : Src) (g : SrOk s) (p0 : s.pl = 0) : SmOk s := by
  have z1 := pkS_pl s 2
  have g1 := sr_pick (n := 2) g (by omega)
  have b1 := pkV_bd (n := 2) g (by omega)
  have D := dsO_ok (sy := 2) (st := 1 + pkV s 2) g1 (by omega) (by omega) (by omega) (by omega) (by omega)
  have d1 := D.lo
  have d2 := D.hi
  have z3 := pkS_pl (dsO (pkS s 2) 2 (1 + pkV s 2)).2 (1 + pkV s 2)
  have g3 := sr_pick (n := 1 + pkV s 2) D.src (by omega)
  have b3 := pkV_bd (n := 1 + pkV s 2) D.src (by omega)
  have z4 := pkS_pl (pkS (dsO (pkS s 2) 2 (1 + pkV s 2)).2 (1 + pkV s 2)) 3
  have g4 := sr_pick (n := 3) g3 (by omega)
  have b4 := pkV_bd (n := 3) g3 (by omega)
  have W := dwO_ok (n := pkV (pkS (dsO (pkS s 2) 2 (1 + pkV s 2)).2 (1 + pkV s 2)) 3) g4 (by omega) (by omega) (by omega)
  have hm : smM s = ⟨2, 1 + pkV s 2, (dsO (pkS s 2) 2 (1 + pkV s 2)).1⟩ := by unfold smM smT smS; rfl
  have hl := W.lo
  have hi := W.hi
  have hL := W.len
  have ho := W.ok
  have h1 : smC s = ⟨pkV (dsO (pkS s 2) 2 (1 + pkV s 2)).2 (1 + pkV s 2), trimR (dwO (sm3 s) (smK s)).1, trimR (dwO (sm5 s) (smJ s)).1⟩ := by unfold smC sm1 smS smT; rfl
  have h3 : pkS (pkS (dsO (pkS s 2) 2 (1 + pkV s 2)).2 (1 + pkV s 2)) 3 = sm3 s := by unfold sm3 sm2 sm1 smS smT; rfl
  have hk : pkV (pkS (dsO (pkS s 2) 2 (1 + pkV s 2)).2 (1 + pkV s 2)) 3 = smK s := by unfold smK sm2 sm1 smS smT; rfl
  rw [h3, hk] at hl hi hL ho
  have gw := W.src
  rw [h3, hk] at gw
  rw [h3] at z4
  rw [hk] at b4
  have g5 := sr_pick (n := 4) gw (by omega)
  have b5 := pkV_bd (n := 4) gw (by omega)
  have z5 := pkS_pl (dwO (sm3 s) (smK s)).2 4
  have e5 : pkS (dwO (sm3 s) (smK s)).2 4 = sm5 s := by unfold sm5 sm4; rfl
  have ej : pkV (dwO (sm3 s) (smK s)).2 4 = smJ s := by unfold smJ sm4; rfl
  rw [e5] at g5 z5
  rw [ej] at b5
  have X := dwO_ok (n := smJ s) g5 (by omega) (by omega) (by omega)
  have xL := X.len
  have t1 := trimR_len (dwO (sm3 s) (smK s)).1
  have t2 := trimR_len (dwO (sm5 s) (smJ s)).1
  refine ⟨?_, ?_, by rw [hm], by rw [hm]; dsimp only; omega, by rw [h1]; dsimp only; omega, by rw [h1]; dsimp only; omega⟩
  · rw [hm]
    unfold vMach
    rw [Bool.and_eq_true, decide_eq_true_eq, List.all_eq_true]
    have := D.len
    exact ⟨⟨by dsimp only; omega, by dsimp only; omega, by dsimp only; omega⟩, D.ok⟩
  · rw [hm, h1]
    unfold vConf
    rw [Bool.and_eq_true, Bool.and_eq_true, decide_eq_true_eq]
    exact ⟨⟨by dsimp only; omega, trim_side ho (by omega)⟩, trim_side X.ok (by omega)⟩
/-- A step and its code. -/
@[irreducible] def smO (m : Mach) (c : Conf) : Conf × Int := if ruAt m c = noR then (⟨0, [], []⟩, 6) else if roomS (stepS (ruAt m c) c) = true then (stepS (ruAt m c) c, 0) else (⟨0, [], []⟩, 5)
theorem preB79 {p : Prop} (h : p := by first | with_reducible assumption | omega | (simp only [List.length_append, List.length_cons, List.length_nil, List.length_set, List.length_replicate, List.length_take, List.length_drop, List.length_tail, List.length_dropLast, List.length_reverse] at *; omega) | exact mem_len (by assumption) (by omega) | (with_reducible refine Int.le_trans (Int.ofNat_le.2 (trimR_len _)) ?_; simp only [List.length_cons, List.length_tail]; omega) | (exact (ruAt_ok (by assumption) (by assumption) (by assumption)).2.1) | (exact (ruAt_ok (by assumption) (by assumption) (by assumption)).2.1) | (have := vMach_bd (by assumption); omega) | (simp only [mC_ch, mC_tu]; omega) | (have := vTag_bd (by assumption); omega) | (have := (‹Gd _ _›).le; omega) | (exact tgHalts_no (by assumption)) | (exact tgHead (by assumption) (by assumption) (by assumption)) | (exact Int.le_trans (tgStep_gd (by assumption) (by assumption) (by assumption) (by assumption)).le (by decide)) | (exact vTag_r (by assumption)) | (with_reducible refine Int.le_trans (Int.ofNat_le.2 (pushL_len _ _)) ?_; simp only [List.length_dropLast]; omega) | exact ls_at (by assumption) (by omega) | exact pt_gd (by assumption) | exact lv_at (by assumption) (by omega) | exact pt_gd (lv_at (by assumption) (by omega)) | exact (ask_ok (by assumption)).1 | exact (ask_ok (by assumption)).2.1 | exact (ask_ok (by assumption)).2.2.1 | exact (ask_ok (by assumption)).2.2.2 | trivial) : p := h
theorem stepMachine_ok (m : Mach) (c : Conf) (hm : vMach m = true) (hc : vConf m c = true) : Does Tryz.prog 122 [.agg (maC m), .agg (coC c)] [] (.tup [(true, [int (smO m c).1.st, .gv 0, .gv 1]), (false, [int (smO m c).2])]) [roI (smO m c).1.le, roI (smO m c).1.ri] := by
  have hbd := at_bd hm hc
  have hcb := vConf_bd hc
  have hmb := vMach_bd hm
  have hr := ruAt_ok hm hc
  refine does_of (k := 0) Tryz.func122 rfl Tryz.ntmps122 rfl rfl fun w F0 S0 ρ0 => ?_
  dsimp only [argT, argH]
  repeat' first | (apply n3; exact a_new (gb := .bx _) rfl; exact rfl; refine dA ?_) | (apply p3; (first | exact pu1 | exact puL); exact rfl) | refine cd ?_ | (apply w3; (first | exact a_st_bx rfl rfl rfl rfl (fN rfl rfl) (Nat.le_of_ble_eq_true rfl) rfl | exact a_stE (E := eCf) ⟨_, _, _⟩ rfl rfl rfl rfl (fN rfl rfl) bnd (by exact rfl)); exact rfl; refine dS ?_) | (apply c4 0; exact callK1 (θ := []) (hD := (l05Is_ok _ preB79)); exact rfl; exact rfl; exact rfl; refine dM ?_) | (apply c4 0; exact callK1 (θ := []) (hD := (l05Good_ok _ _ preB79 preB79 preB79 preB79 preB79 preB79)); exact rfl; exact rfl; exact rfl; refine dM ?_) | (apply c4 0; exact callK1 (θ := []) (hD := (l05HaltsC_ok _ _ preB79 preB79)); exact rfl; exact rfl; exact rfl; refine dM ?_) | (apply c4 2; exact callK1 (θ := []) (hD := (l05StepC_ok _ _ preB79 preB79)); exact rfl; exact rfl; exact rfl; refine dM ?_) | refine o_no rfl rfl rfl rfl ?_ | refine o_noN rfl rfl rfl ?_ | (apply py3; exact rfl; exact rfl; (first | exact pu1 | exact puL); exact rfl; exact rfl) | (apply ny3; exact rfl; exact rfl; exact a_new (gb := .bx _) rfl; exact rfl; exact rfl) | (apply cy4 0; exact rfl; exact rfl; exact callK1 (θ := []) (hD := (l05Is_ok _ preB79)); exact rfl; exact rfl; exact rfl; exact rfl; refine dM ?_) | (apply cy4 0; exact rfl; exact rfl; exact callK1 (θ := []) (hD := (l05Good_ok _ _ preB79 preB79 preB79 preB79 preB79 preB79)); exact rfl; exact rfl; exact rfl; exact rfl; refine dM ?_) | (apply cy4 0; exact rfl; exact rfl; exact callK1 (θ := []) (hD := (l05HaltsC_ok _ _ preB79 preB79)); exact rfl; exact rfl; exact rfl; exact rfl; refine dM ?_) | (apply cy4 2; exact rfl; exact rfl; exact callK1 (θ := []) (hD := (l05StepC_ok _ _ preB79 preB79)); exact rfl; exact rfl; exact rfl; exact rfl; refine dM ?_) | ((first | refine o_gs rfl rfl (fun hc => ?_) (fun hc => ?_) | refine g_cond rfl (fun hc => ?_) (fun hc => ?_)) <;> (try simp only [dcB] at hc) <;> (try first | contradiction | (exfalso; omega)))
  · exfalso; rw [hm] at hc; cases hc
  · have h : vConf m c = true := by assumption
    exfalso; rw [h] at hc; cases hc
  · have h : ruAt m c = noR := by assumption
    have e : smO m c = (⟨0, [], []⟩, 6) := by unfold smO; rw [if_pos h]
    rw [e]
    refine g_conv (t_nilB (i := 2) (k := 1) (z := 1) rfl rfl rfl (by decide)) ?_
    try dsimp only [setRow, List.map_cons, List.map_nil, scC, List.set_cons_zero, List.set_cons_succ, Nat.reduceAdd]
    refine g_conv (t_nilB (i := 2) (k := 2) (z := 1) rfl rfl rfl (by decide)) ?_
    try dsimp only [setRow, List.map_cons, List.map_nil, scC, List.set_cons_zero, List.set_cons_succ, Nat.reduceAdd]
    repeat refine cr ?_
    refine ends_id ?_
    refine endK [?_, ?_] (h2 := ?_) (h3 := ?_) (nd := ?_)
    rotate_left 2
    all_goals (repeat' first | exact ce0 | refine ce ?_ | refine ce2 ?_ ?_ | (refine Or.inr (bx_eq rfl rfl ?_); (try dsimp only [C.ren, C.ren.all]); (try exact rfl)) | exact SVLe.refl | refine ceb ?_)
    all_goals first | exact (show nodupB _ = true from rfl) | exact Or.inr rfl | (rfl)
  · have h1 : ¬ ruAt m c = noR := by assumption
    have h2 : roomS (stepS (ruAt m c) c) = false := by assumption
    have e : smO m c = (⟨0, [], []⟩, 5) := by unfold smO; rw [if_neg h1, if_neg (by rw [h2]; decide)]
    rw [e]
    refine g_conv (t_nilB (i := 2) (k := 1) (z := 1) rfl rfl rfl (by decide)) ?_
    try dsimp only [setRow, List.map_cons, List.map_nil, scC, List.set_cons_zero, List.set_cons_succ, Nat.reduceAdd]
    refine g_conv (t_nilB (i := 2) (k := 2) (z := 1) rfl rfl rfl (by decide)) ?_
    try dsimp only [setRow, List.map_cons, List.map_nil, scC, List.set_cons_zero, List.set_cons_succ, Nat.reduceAdd]
    repeat refine cr ?_
    refine ends_id ?_
    refine endK [?_, ?_] (h2 := ?_) (h3 := ?_) (nd := ?_)
    rotate_left 2
    all_goals (repeat' first | exact ce0 | refine ce ?_ | refine ce2 ?_ ?_ | (refine Or.inr (bx_eq rfl rfl ?_); (try dsimp only [C.ren, C.ren.all]); (try exact rfl)) | exact SVLe.refl | refine ceb ?_)
    all_goals first | exact (show nodupB _ = true from rfl) | exact Or.inr rfl | (rfl)
  · have h1 : ¬ ruAt m c = noR := by assumption
    have h2 : roomS (stepS (ruAt m c) c) = true := by assumption
    have e : smO m c = (stepS (ruAt m c) c, 0) := by unfold smO; rw [if_neg h1, if_pos h2]
    rw [e]
    repeat refine cr ?_
    refine ends_id ?_
    refine endK [?_, ?_] (h2 := ?_) (h3 := ?_) (nd := ?_)
    rotate_left 2
    all_goals (repeat' first | exact ce0 | refine ce ?_ | refine ce2 ?_ ?_ | (refine Or.inr (bx_eq rfl rfl ?_); (try dsimp only [C.ren, C.ren.all]); (try exact rfl)) | exact SVLe.refl | refine ceb ?_)
    all_goals first | exact (show nodupB _ = true from rfl) | exact Or.inr rfl | (rfl)
/-- A step as1 the law sees it. -/
theorem b10Step_ok (m : Mach) (c : Conf) (hm : vMach m = true) (hc : vConf m c = true) : Does Tryz.prog 60 [.agg (maC m), .agg (coC c)] [] (.tup [(true, [int (smO m c).1.st, .gv 0, .gv 1]), (false, [boo (decide ((smO m c).2 = 0))])]) [roI (smO m c).1.le, roI (smO m c).1.ri] := by
  refine does_of (k := 0) Tryz.func60 rfl Tryz.ntmps60 rfl rfl fun w F0 S0 ρ0 => ?_
  dsimp only [argT, argH]
  repeat' first | (apply n3; exact a_new (gb := .bx _) rfl; exact rfl; refine dA ?_) | (apply p3; (first | exact pu1 | exact puL | exact puC | exact a_eqS rfl rfl rfl); exact rfl) | refine cd ?_ | (apply w3; (first | exact a_st_bx rfl rfl rfl rfl (fN rfl rfl) (Nat.le_of_ble_eq_true rfl) rfl | exact a_stE (E := eCf) ⟨_, _, _⟩ rfl rfl rfl rfl (fN rfl rfl) bnd (by exact rfl)); exact rfl; refine dS ?_) | (apply c4 2; exact callK1 (θ := []) (hD := (stepMachine_ok _ _ preB79 preB79)); exact rfl; exact rfl; exact rfl; refine dM ?_) | ((first | refine o_gs rfl rfl (fun hc => ?_) (fun hc => ?_) | refine g_cond rfl (fun hc => ?_) (fun hc => ?_)) <;> (try simp only [dcB] at hc) <;> (try first | contradiction | (exfalso; omega)))
  repeat refine cr ?_
  refine ends_id ?_
  refine endK [?_, ?_] (h2 := ?_) (h3 := ?_) (nd := ?_)
  rotate_left 2
  all_goals (repeat' first | exact ce0 | refine ce ?_ | refine ce2 ?_ ?_ | (refine Or.inr (bx_eq rfl rfl ?_); (try dsimp only [C.ren, C.ren.all]); (try exact rfl)) | exact SVLe.refl | refine ceb ?_)
  all_goals first | exact (show nodupB _ = true from rfl) | exact Or.inr rfl | (rfl)
end Go.Proofs.YtcmdfohamphndaaGreatDoor
end
section
set_option linter.unusedVariables false
set_option linter.unusedSimpArgs false
set_option maxRecDepth 100000
set_option maxHeartbeats 4000000
namespace Go.Proofs.YtcmdfohamphndaaGreatDoor
open Go Foot
@[irreducible] def ptV (m : Mach) (x : Part) : Bool := inB x.st 0 (m.st - 1) && inB x.ce.length 1 60 && inB x.pl 0 (x.ce.length - 1) && inAll 0 (m.sy - 1) x.ce
theorem preB80 {p : Prop} (h : p := by first | with_reducible assumption | omega | (simp only [List.length_append, List.length_cons, List.length_nil, List.length_set, List.length_replicate, List.length_take, List.length_drop, List.length_tail, List.length_dropLast, List.length_reverse] at *; omega) | exact mem_len (by assumption) (by omega) | (with_reducible refine Int.le_trans (Int.ofNat_le.2 (trimR_len _)) ?_; simp only [List.length_cons, List.length_tail]; omega) | (exact (ruAt_ok (by assumption) (by assumption) (by assumption)).2.1) | (exact (ruAt_ok (by assumption) (by assumption) (by assumption)).2.1) | (have := vMach_bd (by assumption); omega) | (simp only [mC_ch, mC_tu]; omega) | (have := vTag_bd (by assumption); omega) | (have := (‹Gd _ _›).le; omega) | (exact tgHalts_no (by assumption)) | (exact tgHead (by assumption) (by assumption) (by assumption)) | (exact Int.le_trans (tgStep_gd (by assumption) (by assumption) (by assumption) (by assumption)).le (by decide)) | (exact vTag_r (by assumption)) | (with_reducible refine Int.le_trans (Int.ofNat_le.2 (pushL_len _ _)) ?_; simp only [List.length_dropLast]; omega) | exact ls_at (by assumption) (by omega) | exact pt_gd (by assumption) | exact lv_at (by assumption) (by omega) | exact pt_gd (lv_at (by assumption) (by omega)) | exact (ask_ok (by assumption)).1 | exact (ask_ok (by assumption)).2.1 | exact (ask_ok (by assumption)).2.2.1 | exact (ask_ok (by assumption)).2.2.2 | trivial) : p := h
theorem partialOf_ok (m : Mach) (x : Part) (h1 : -1000 ≤ m.sy) (h2 : m.sy ≤ 1000) (h3 : -1000 ≤ m.st) (h4 : m.st ≤ 1000) (hx : (x.ce.length : Int) ≤ 1000000) : Does Tryz.prog 185 [.agg (maC m), .agg (paC x)] [] (.one (boo (ptV m x))) [] := by
  refine does_of (k := 0) Tryz.func185 rfl Tryz.ntmps185 rfl rfl fun w F0 S0 ρ0 => ?_
  dsimp only [argT, argH]
  repeat' first | (apply n3; exact a_new (gb := .bx _) rfl; exact rfl; refine dA ?_) | (apply p3; exact a_pure (sv := .one _) rfl; exact rfl) | refine cd ?_ | (apply g_drN (id := 1) okM [[],[0],[],[2],[2,3],[0,1,2,3,4],[0,1,2,3,4,5],[0,1,2,3,4,5,6],[0,1,2,3,4,5,6,7],[0,1,2,3,4,5,6,7,8],[0,1,2,3,4,5,6,7,8,9],[0,1,2,3,4,5,6,7,8,9,10],[0,1,2,3,4,5,6,7,8,9,10,11],[0,1,2,3,4,5,6,7,8,9,10,11,12],[0,1,2,3,4,5,6,7,8,9,10,11,12,13],[0,1,2,3,4,5,6,7,8,9,10,11,12],[0,1,2,3,4,5,6,7,8,9,10,11,12,15],[0,1,2,3,4,5,6,7,8,9,10,11,12,15,16],[0,1,2,3,4,5,6,7,8,9,10,11,12,15,16,17],[0,1,2,3,4,5,6,7,8,9,10,11,12,13,14,15,16,17,18],[0,1,2,3,4,5,6,7,8,9,10,11,12,13,14,15,16,17,18,19],[0,1,2,3,4,5,6,7,8,9,10,11,12,13,14,15,16,17,18,19,20],[0,1,2,3,4,5,6,7,8,9,10,11,12,13,14,15,16,17,18,19,20,21],[0,1,2,3,4,5,6,7,8,9,10,11,12,13,14,15,16,17,18,19,20,21,22],[0,1,2,3,4,5,6,7,8,9,10,11,12,13,14,15,16,17,18,19,20,21],[0,1,2,3,4,5,6,7,8,9,10,11,12,13,14,15,16,17,18,19,20,21,24],[0,1,2,3,4,5,6,7,8,9,10,11,12,13,14,15,16,17,18,19,20,21,24,25],[0,1,2,3,4,5,6,7,8,9,10,11,12,13,14,15,16,17,18,19,20,21,22,23,24,25,26],[0,1,2,3,4,5,6,7,8,9,10,11,12,13,14,15,16,17,18,19,20,21,22,23,24,25,26,27],[0,1,2,3,4,5,6,7,8,9,10,11,12,13,14,15,16,17,18,19,20,21,22,23,24,25,26,27,28]] [([],[]),([],[]),([],[]),([],[]),([],[]),([],[]),([],[]),([],[]),([],[]),([],[]),([],[]),([],[]),([],[]),([],[]),([],[]),([],[]),([],[]),([],[]),([],[]),([],[]),([],[]),([],[]),([],[]),([],[]),([],[]),([],[]),([],[]),([],[]),([],[]),([],[])] 0; (focus (all_goals refine dp 0 0 [7, 8, 9] [] (a_pure (sv := .one _) rfl) ?_; all_goals refine dp 1 1 [7, 8, 9] [] puL ?_; all_goals refine dp 2 0 [5, 6] [] (a_pure (sv := .one _) rfl) ?_; all_goals refine dp 3 1 [5, 6] [] puL ?_; all_goals refine dp 4 3 [5, 6] [] (a_sub rfl rfl (by omega) (by omega)) ?_; all_goals refine dp 5 31 [] [] (callD1 (n := _) 0 (θ := []) (hD := (within_ok _ _ _))) ?_; all_goals (refine db 6 63 [] [] pu1 ?_ ?_ <;> (intro hc; first | cases hc | (try simp only [dcB] at hc); first | contradiction | (exfalso; omega) | skip)); all_goals (first | refine dn 7 127 [] [] ?_ | refine dpy 7 127 [] [] (a_pure (sv := .one _) rfl) ?_); all_goals (first | refine dn 8 255 [] [] ?_ | refine dpy 8 255 [] [] puL ?_); all_goals (first | refine dn 9 511 [] [] ?_ | refine dpy 9 511 [] [] (callD1 (n := _) 0 (θ := []) (hD := (sizeI_ok _ preB80))) ?_); all_goals (first | refine dn 10 1023 [] [] ?_ | refine dpy 10 1023 [] [] (callD1 (n := _) 0 (θ := []) (hD := (within_ok _ _ _))) ?_); all_goals refine dp 11 2047 [] [] (a_pure (sv := .one _) rfl) ?_; all_goals (refine db 12 4095 [] [] pu1 ?_ ?_ <;> (intro hc; first | cases hc | (try simp only [dcB] at hc); first | contradiction | (exfalso; omega) | skip)); all_goals (first | refine dn 13 8191 [20, 21, 22, 23] [] ?_ | refine dpy 13 8191 [20, 21, 22, 23] [] (a_pure (sv := .one _) rfl) ?_); all_goals (first | refine dn 14 16383 [20, 21, 22, 23] [] ?_ | refine dpy 14 16383 [20, 21, 22, 23] [] puL ?_); all_goals (first | refine dn 15 32764 [18, 19] [] ?_ | refine dpy 15 32764 [18, 19] [] (a_pure (sv := .one _) rfl) ?_); all_goals (first | refine dn 16 65529 [18, 19] [] ?_ | refine dpy 16 65529 [18, 19] [] puL ?_); all_goals (first | refine dn 17 131059 [18, 19] [] ?_ | refine dpy 17 131059 [18, 19] [] (callD1 (n := _) 0 (θ := []) (hD := (sizeI_ok _ preB80))) ?_); all_goals (first | refine dn 18 262119 [18, 19] [] ?_ | refine dpy 18 262119 [18, 19] [] (a_sub rfl rfl (by omega) (by omega)) ?_); all_goals (first | refine dn 19 524287 [] [] ?_ | refine dpy 19 524287 [] [] (callD1 (n := _) 0 (θ := []) (hD := (within_ok _ _ _))) ?_); all_goals refine dp 20 1048575 [] [] (a_pure (sv := .one _) rfl) ?_; all_goals (refine db 21 2097151 [] [] pu1 ?_ ?_ <;> (intro hc; first | cases hc | (try simp only [dcB] at hc); first | contradiction | (exfalso; omega) | skip)); all_goals (first | refine dn 22 4194303 [29, 30, 31] [] ?_ | refine dpy 22 4194303 [29, 30, 31] [] (a_pure (sv := .one _) rfl) ?_); all_goals (first | refine dn 23 8388607 [29, 30, 31] [] ?_ | refine dpy 23 8388607 [29, 30, 31] [] puL ?_); all_goals (first | refine dn 24 16777212 [27, 28] [] ?_ | refine dpy 24 16777212 [27, 28] [] (a_pure (sv := .one _) rfl) ?_); all_goals (first | refine dn 25 33554425 [27, 28] [] ?_ | refine dpy 25 33554425 [27, 28] [] puL ?_); all_goals (first | refine dn 26 67108851 [27, 28] [] ?_ | refine dpy 26 67108851 [27, 28] [] (a_sub rfl rfl (by omega) (by omega)) ?_); all_goals (first | refine dn 27 134217727 [] [] ?_ | refine dpy 27 134217727 [] [] (callD1 (n := _) 0 (θ := []) (hD := (allWithin_ok _ _ _ preB80))) ?_); all_goals refine dp 28 268435455 [] [] (a_pure (sv := .one _) rfl) ?_; all_goals refine dp 29 536870911 [] [] pu1 ?_; all_goals (refine d_nil ?_; refine dN ?_))); any_goals kernel_rfl) | ((first | refine o_gs rfl rfl (fun hc => ?_) (fun hc => ?_) | refine g_cond rfl (fun hc => ?_) (fun hc => ?_)) <;> (try simp only [dcB] at hc) <;> (try first | contradiction | (exfalso; omega)))
  all_goals
    repeat refine cr ?_
    refine ends_id ?_
    refine endK [] (h2 := ?_) (h3 := ?_) (nd := ?_)
    all_goals (repeat' first | exact ce0 | refine ce ?_ | refine ce2 ?_ ?_ | exact SVLe.refl | refine ceb ?_)
    all_goals first | exact (show nodupB _ = true from rfl) | exact Or.inr rfl | ((unfold ptV; first | (simp [*]; done) | (rw [decide_eq_false] <;> first | rfl | omega | (simp; done)) | (rw [decide_eq_true] <;> first | rfl | omega | (simp [*]; done)) | (simp_all; done) | (simp_all; omega)))
theorem ValidPartial_ok (m : Mach) (x : Part) (hm : vMach m = true) (hx : (x.ce.length : Int) ≤ 1000000) : Does Tryz.prog 123 [.agg (maC m), .agg (paC x)] [] (.one (boo (ptV m x))) [] := by
  have hb := vMach_bd hm
  have hl : (m.ru.length : Int) ≤ 6000 := by
    have := hb.2.2
    have : m.sy * m.st ≤ 6 * 1000 := Int.mul_le_mul hb.1.2 hb.2.1.2 (by omega) (by omega)
    omega
  refine does_of (k := 0) Tryz.func123 rfl Tryz.ntmps123 rfl rfl fun w F0 S0 ρ0 => ?_
  dsimp only [argT, argH]
  repeat' first | (apply n3; exact a_new (gb := .bx _) rfl; exact rfl; refine dA ?_) | (apply p3; (first | exact pu1 | exact puL); exact rfl) | refine cd ?_ | (apply c4 0; exact callK1 (θ := []) (hD := (ValidMachine_ok _ preB80)); exact rfl; exact rfl; exact rfl; refine dM ?_) | (apply c4 0; exact callK1 (θ := []) (hD := (partialOf_ok _ _ preB80 preB80 preB80 preB80 preB80)); exact rfl; exact rfl; exact rfl; refine dM ?_) | refine o_no rfl rfl rfl rfl ?_ | refine o_noN rfl rfl rfl ?_ | (apply py3; exact rfl; exact rfl; (first | exact pu1 | exact puL); exact rfl; exact rfl) | (apply ny3; exact rfl; exact rfl; exact a_new (gb := .bx _) rfl; exact rfl; exact rfl) | (apply cy4 0; exact rfl; exact rfl; exact callK1 (θ := []) (hD := (ValidMachine_ok _ preB80)); exact rfl; exact rfl; exact rfl; exact rfl; refine dM ?_) | (apply cy4 0; exact rfl; exact rfl; exact callK1 (θ := []) (hD := (partialOf_ok _ _ preB80 preB80 preB80 preB80 preB80)); exact rfl; exact rfl; exact rfl; exact rfl; refine dM ?_) | ((first | refine o_gs rfl rfl (fun hc => ?_) (fun hc => ?_) | refine g_cond rfl (fun hc => ?_) (fun hc => ?_)) <;> (try simp only [dcB] at hc) <;> (try first | contradiction | (exfalso; omega)))
  all_goals
    repeat refine cr ?_
    refine ends_id ?_
    refine endK [] (h2 := ?_) (h3 := ?_) (nd := ?_)
    all_goals (repeat' first | exact ce0 | refine ce ?_ | refine ce2 ?_ ?_ | exact SVLe.refl | refine ceb ?_)
    all_goals first | exact (show nodupB _ = true from rfl) | exact Or.inr rfl | ((simp_all))
theorem pt_v {m : Mach} {x : Part} (g : PtOk m x) : ptV m x = true := by
  obtain ⟨g1, g2, g3, g4⟩ := g
  unfold ptV inB inAll
  simp only [Bool.and_eq_true, decide_eq_true_eq, List.all_eq_true]
  exact ⟨⟨⟨g1, by omega, g3⟩, by omega, by omega⟩, fun v hv => g4 v hv⟩
theorem PredecessorsOf_ok (m : Mach) (x : Part) (hm : vMach m = true) (g : PtOk m x) : Does Tryz.prog 62 [.agg (maC m), .agg (paC x)] [] (.tup [(false, [shPa ((prds m x).getD [])]), (false, [int (if (prds m x).isSome = true then 0 else 5)])]) [] := by
  have hv := pt_v g
  have hl := g.l
  refine does_of (k := 0) Tryz.func62 rfl Tryz.ntmps62 rfl rfl fun w F0 S0 ρ0 => ?_
  dsimp only [argT, argH]
  repeat' first | (apply n3; exact a_new (gb := .bx _) rfl; exact rfl; refine dA ?_) | (apply p3; (first | exact pu1 | exact puL); exact rfl) | refine cd ?_ | (apply c4 0; exact callK1 (θ := []) (hD := (ValidPartial_ok _ _ preB80 preB80)); exact rfl; exact rfl; exact rfl; refine dM ?_) | (apply c4 0; exact callK0 (θ := []) (hD := (predecessors_ok _ _ preB80 preB80)); exact rfl; exact rfl; exact rfl; refine dM ?_) | ((first | refine o_gs rfl rfl (fun hc => ?_) (fun hc => ?_) | refine g_cond rfl (fun hc => ?_) (fun hc => ?_)) <;> (try simp only [dcB] at hc) <;> (try first | contradiction | (exfalso; omega)))
  · exfalso; rw [hv] at hc; cases hc
  · repeat refine cr ?_
    refine ends_id ?_
    refine endK [] (h2 := ?_) (h3 := ?_) (nd := ?_)
    all_goals (repeat' first | exact ce0 | refine ce ?_ | refine ce2 ?_ ?_ | exact SVLe.refl | refine ceb ?_)
    all_goals first | exact (show nodupB _ = true from rfl) | exact Or.inr rfl | (rfl)
theorem PartialText_ok (m : Mach) (x : Part) (hm : vMach m = true) (g : PtOk m x) : Does Tryz.prog 64 [.agg (maC m), .agg (paC x)] [] (.one (str (ptT x))) [] := by
  have hv := pt_v g
  have hl := g.l
  refine does_of (k := 0) Tryz.func64 rfl Tryz.ntmps64 rfl rfl fun w F0 S0 ρ0 => ?_
  dsimp only [argT, argH]
  repeat' first | (apply n3; exact a_new (gb := .bx _) rfl; exact rfl; refine dA ?_) | (apply p3; (first | exact pu1 | exact puL); exact rfl) | refine cd ?_ | (apply c4 0; exact callK1 (θ := []) (hD := (ValidPartial_ok _ _ preB80 preB80)); exact rfl; exact rfl; exact rfl; refine dM ?_) | (apply c4 0; exact callK1 (θ := []) (hD := (partialText_ok _ _ preB80 preB80)); exact rfl; exact rfl; exact rfl; refine dM ?_) | ((first | refine o_gs rfl rfl (fun hc => ?_) (fun hc => ?_) | refine g_cond rfl (fun hc => ?_) (fun hc => ?_)) <;> (try simp only [dcB] at hc) <;> (try first | contradiction | (exfalso; omega)))
  · exfalso; rw [hv] at hc; cases hc
  · repeat refine cr ?_
    refine ends_id ?_
    refine endK [] (h2 := ?_) (h3 := ?_) (nd := ?_)
    all_goals (repeat' first | exact ce0 | refine ce ?_ | refine ce2 ?_ ?_ | exact SVLe.refl | refine ceb ?_)
    all_goals first | exact (show nodupB _ = true from rfl) | exact Or.inr rfl | (rfl)
end Go.Proofs.YtcmdfohamphndaaGreatDoor
end
section
set_option linter.unusedVariables false
set_option linter.unusedSimpArgs false
set_option maxRecDepth 100000
set_option maxHeartbeats 4000000
namespace Go.Proofs.YtcmdfohamphndaaGreatDoor
open Go Foot
@[irreducible] def symP (c : Conf) (d : Int) : Int := if 0 ≤ d then symAt c.ri d else symAt c.le (-d - 1)
@[irreducible] def mtU (c : Conf) (x : Part) (k : Int) : Bool := (List.range k.toNat).all fun i => decide (symP c ((i : Int) - x.pl) = symAt x.ce i)
@[irreducible] def mtP (c : Conf) (x : Part) : Bool := decide (c.st = x.st) && mtU c x x.ce.length
theorem mtU_no {c : Conf} {x : Part} {k i : Int} (h0 : 0 ≤ i) (h : i < k) (hn : ¬ symP c (i - x.pl) = symAt x.ce i) : mtU c x k = false := by
  unfold mtU
  rw [Bool.eq_false_iff]
  intro e
  rw [List.all_eq_true] at e
  have := e i.toNat (List.mem_range.2 (by omega))
  rw [decide_eq_true_eq, Int.toNat_of_nonneg h0] at this
  exact hn this
theorem mtU_next {c : Conf} {x : Part} {i : Int} (h0 : 0 ≤ i) (h : mtU c x i = true) (hn : symP c (i - x.pl) = symAt x.ce i) : mtU c x (i + 1) = true := by
  unfold mtU at h ⊢
  rw [show (i + 1).toNat = i.toNat + 1 by omega, List.range_succ, List.all_append, h]
  simp only [List.all_cons, List.all_nil, Bool.and_true, Bool.true_and, decide_eq_true_eq]
  rw [Int.toNat_of_nonneg h0]
  exact hn
theorem symAt_get {l : List Int} {i : Int} (h : i.toNat < l.length) : l[i.toNat] = symAt l i := by
  unfold symAt; rw [List.getD_eq_getElem?_getD, List.getElem?_eq_getElem h]; rfl
theorem preB81 {p : Prop} (h : p := by first | with_reducible assumption | omega | (simp only [List.length_append, List.length_cons, List.length_nil, List.length_set, List.length_replicate, List.length_take, List.length_drop, List.length_tail, List.length_dropLast, List.length_reverse] at *; omega) | exact mem_len (by assumption) (by omega) | (with_reducible refine Int.le_trans (Int.ofNat_le.2 (trimR_len _)) ?_; simp only [List.length_cons, List.length_tail]; omega) | (exact (ruAt_ok (by assumption) (by assumption) (by assumption)).2.1) | (exact (ruAt_ok (by assumption) (by assumption) (by assumption)).2.1) | (have := vMach_bd (by assumption); omega) | (simp only [mC_ch, mC_tu]; omega) | (have := vTag_bd (by assumption); omega) | (have := (‹Gd _ _›).le; omega) | (exact tgHalts_no (by assumption)) | (exact tgHead (by assumption) (by assumption) (by assumption)) | (exact Int.le_trans (tgStep_gd (by assumption) (by assumption) (by assumption) (by assumption)).le (by decide)) | (exact vTag_r (by assumption)) | (with_reducible refine Int.le_trans (Int.ofNat_le.2 (pushL_len _ _)) ?_; simp only [List.length_dropLast]; omega) | exact ls_at (by assumption) (by omega) | exact pt_gd (by assumption) | exact lv_at (by assumption) (by omega) | exact pt_gd (lv_at (by assumption) (by omega)) | exact (ask_ok (by assumption)).1 | exact (ask_ok (by assumption)).2.1 | exact (ask_ok (by assumption)).2.2.1 | exact (ask_ok (by assumption)).2.2.2 | trivial) : p := h
theorem MatchesPartial_ok (m : Mach) (x : Part) (c : Conf) (hm : vMach m = true) (g : PtOk m x) (hc : vConf m c = true) : Does Tryz.prog 65 [.agg (maC m), .agg (paC x), .agg (coC c)] [] (.one (boo (mtP c x))) [] := by
  have hv := pt_v g
  have hl := g.l
  have ha := g.a
  have hb := vMach_bd hm
  have hcb := vConf_bd hc
  have q1 := vSide_bd hcb.2.1
  have q2 := vSide_bd hcb.2.2
  refine does_of (k := 0) Tryz.func65 rfl Tryz.ntmps65 rfl rfl fun w F0 S0 ρ0 => ?_
  dsimp only [argT, argH]
  repeat' first | (apply n3; exact a_new (gb := .bx _) rfl; exact rfl; refine dA ?_) | (apply p3; (first | exact pu1 | exact puL | exact a_ne rfl rfl | exact a_neS rfl rfl rfl | exact puN | exact a_len_str rfl (fT rfl) | exact puC | exact a_sub rfl rfl (by omega) (by omega) | exact a_neg rfl (by omega) (by omega) | exact a_add rfl rfl (by omega) (by omega) | exact puI); exact rfl) | refine cd ?_ | (apply c4 0; exact callK1 (θ := []) (hD := (ValidPartial_ok _ _ preB81 preB81)); exact rfl; exact rfl; exact rfl; refine dM ?_) | (apply c4 0; exact callK1 (θ := []) (hD := (configOf_ok _ _ preB81 preB81 preB81 preB81 preB81 preB81)); exact rfl; exact rfl; exact rfl; refine dM ?_) | (apply c4 0; exact callK1 (θ := []) (hD := (symbolAt_ok _ _ preB81 preB81)); exact rfl; exact rfl; exact rfl; refine dM ?_) | refine o_no rfl rfl rfl rfl ?_ | refine o_noN rfl rfl rfl ?_ | (apply py3; exact rfl; exact rfl; (first | exact pu1 | exact puL | exact a_ne rfl rfl | exact a_neS rfl rfl rfl | exact puN | exact a_len_str rfl (fT rfl) | exact puC | exact a_sub rfl rfl (by omega) (by omega) | exact a_neg rfl (by omega) (by omega) | exact a_add rfl rfl (by omega) (by omega) | exact puI); exact rfl; exact rfl) | (apply ny3; exact rfl; exact rfl; exact a_new (gb := .bx _) rfl; exact rfl; exact rfl) | (apply cy4 0; exact rfl; exact rfl; exact callK1 (θ := []) (hD := (ValidPartial_ok _ _ preB81 preB81)); exact rfl; exact rfl; exact rfl; exact rfl; refine dM ?_) | (apply cy4 0; exact rfl; exact rfl; exact callK1 (θ := []) (hD := (configOf_ok _ _ preB81 preB81 preB81 preB81 preB81 preB81)); exact rfl; exact rfl; exact rfl; exact rfl; refine dM ?_) | (apply cy4 0; exact rfl; exact rfl; exact callK1 (θ := []) (hD := (symbolAt_ok _ _ preB81 preB81)); exact rfl; exact rfl; exact rfl; exact rfl; refine dM ?_) | ((first | refine o_gs rfl rfl (fun hc => ?_) (fun hc => ?_) | refine g_cond rfl (fun hc => ?_) (fun hc => ?_)) <;> (try simp only [dcB] at hc) <;> (try first | contradiction | (exfalso; omega)))
  · exfalso; rw [hv] at *; simp_all
  · exfalso; simp_all
  · repeat refine cr ?_
    refine ends_id ?_
    refine endK [] (h2 := ?_) (h3 := ?_) (nd := ?_)
    all_goals (repeat' first | exact ce0 | refine ce ?_ | refine ce2 ?_ ?_ | exact SVLe.refl | refine ceb ?_)
    all_goals first | exact (show nodupB _ = true from rfl) | exact Or.inr rfl | ((unfold mtP; simp_all))
  refine g_loop_id ?_
  refine loopK [4, 5, 6, 28, 29] [] (fun i : Int => 0 ≤ i ∧ i ≤ x.ce.length ∧ mtU c x i = true) (fun i => [(30, .one (int i))]) (fun _ => []) (fun i => (x.ce.length - i).toNat) (0 : Int) [0, 1, 2] (hI := ?_) (hr := ?_)
  · exact ⟨by omega, by omega, by unfold mtU; rfl⟩
  · rintro i ⟨h0, h1, h2⟩
    dsimp only [List.cons_append, List.nil_append] at *
    skip
    repeat' first | (apply p3; (first | exact pu1 | exact puL | exact puC | exact a_sub rfl rfl (by omega) (by omega) | exact a_ne rfl rfl | exact a_neS rfl rfl rfl | exact a_neg rfl (by omega) (by omega) | exact puI); exact rfl) | refine cdn ?_ | refine g_reg (id := 4) ?_ | refine g_reg (id := 5) ?_ | refine g_reg (id := 6) ?_ | refine g_reg (id := 7) ?_ | refine g_reg (id := 8) ?_ | refine g_reg (id := 10) ?_ | (apply c4 0; exact callK1 (θ := []) (hD := (symbolAt_ok _ _ preB81 preB81)); exact rfl; exact rfl; exact rfl; refine dM ?_) | refine o_no rfl rfl rfl rfl ?_ | refine o_noN rfl rfl rfl ?_ | (apply py3; exact rfl; exact rfl; (first | exact pu1 | exact puL | exact puC | exact a_sub rfl rfl (by omega) (by omega) | exact a_ne rfl rfl | exact a_neS rfl rfl rfl | exact a_neg rfl (by omega) (by omega) | exact puI); exact rfl; exact rfl) | (apply cy4 0; exact rfl; exact rfl; exact callK1 (θ := []) (hD := (symbolAt_ok _ _ preB81 preB81)); exact rfl; exact rfl; exact rfl; exact rfl; refine dM ?_) | ((first | refine o_gs rfl rfl (fun hc => ?_) (fun hc => ?_) | refine g_cond rfl (fun hc => ?_) (fun hc => ?_)) <;> (try simp only [dcB] at hc) <;> (try first | contradiction | (exfalso; omega)))
    · rw [symAt_get (by omega)] at hc
      have hq : mtP c x = false := by
        unfold mtP
        rw [mtU_no h0 (by assumption) (by unfold symP; rw [if_pos (by assumption)]; exact hc), Bool.and_false]
      rw [hq]
      repeat refine cr ?_
      refine ends_id ?_
      refine endK [] (h2 := ?_) (h3 := ?_) (nd := ?_)
      all_goals (repeat' first | exact ce0 | refine ce ?_ | refine ce2 ?_ ?_ | exact SVLe.refl | refine ceb ?_)
      all_goals first | exact (show nodupB _ = true from rfl) | exact Or.inr rfl | (rfl)
    · have hd := (by assumption : symAt c.ri (i - x.pl) = x.ce[i.toNat]'(by omega))
      rw [symAt_get (by omega)] at hd
      have hn := mtU_next (c := c) (x := x) h0 h2 (by unfold symP; rw [if_pos (by assumption)]; exact hd)
      repeat' first | (apply p3; (first | exact pu1 | exact puL | exact puC | exact a_sub rfl rfl (by omega) (by omega) | exact a_ne rfl rfl | exact a_neS rfl rfl rfl | exact a_neg rfl (by omega) (by omega) | exact a_add rfl rfl (by omega) (by omega) | exact puI); exact rfl) | refine cd ?_ | (apply c4 0; exact callK1 (θ := []) (hD := (symbolAt_ok _ _ preB81 preB81)); exact rfl; exact rfl; exact rfl; refine dM ?_) | refine o_no rfl rfl rfl rfl ?_ | refine o_noN rfl rfl rfl ?_ | (apply py3; exact rfl; exact rfl; (first | exact pu1 | exact puL | exact puC | exact a_sub rfl rfl (by omega) (by omega) | exact a_ne rfl rfl | exact a_neS rfl rfl rfl | exact a_neg rfl (by omega) (by omega) | exact a_add rfl rfl (by omega) (by omega) | exact puI); exact rfl; exact rfl) | (apply cy4 0; exact rfl; exact rfl; exact callK1 (θ := []) (hD := (symbolAt_ok _ _ preB81 preB81)); exact rfl; exact rfl; exact rfl; exact rfl; refine dM ?_) | ((first | refine o_gs rfl rfl (fun hc => ?_) (fun hc => ?_) | refine g_cond rfl (fun hc => ?_) (fun hc => ?_)) <;> (try simp only [dcB] at hc) <;> (try first | contradiction | (exfalso; omega)))
      refine q_again (i + 1) [0, 1, 2] (by exact stk) ?_ ?_
      · exact ⟨by omega, by omega, hn⟩
      · omega
    · rw [symAt_get (by omega)] at hc
      have hq : mtP c x = false := by
        unfold mtP
        rw [mtU_no h0 (by assumption) (by unfold symP; rw [if_neg (by assumption)]; exact hc), Bool.and_false]
      rw [hq]
      repeat refine cr ?_
      refine ends_id ?_
      refine endK [] (h2 := ?_) (h3 := ?_) (nd := ?_)
      all_goals (repeat' first | exact ce0 | refine ce ?_ | refine ce2 ?_ ?_ | exact SVLe.refl | refine ceb ?_)
      all_goals first | exact (show nodupB _ = true from rfl) | exact Or.inr rfl | (rfl)
    · have hd := (by assumption : symAt c.le (-(i - x.pl) - 1) = x.ce[i.toNat]'(by omega))
      rw [symAt_get (by omega)] at hd
      have hn := mtU_next (c := c) (x := x) h0 h2 (by unfold symP; rw [if_neg (by assumption)]; exact hd)
      repeat' first | (apply p3; (first | exact pu1 | exact puL | exact puC | exact a_sub rfl rfl (by omega) (by omega) | exact a_ne rfl rfl | exact a_neS rfl rfl rfl | exact a_neg rfl (by omega) (by omega) | exact a_add rfl rfl (by omega) (by omega) | exact puI); exact rfl) | refine cd ?_ | (apply c4 0; exact callK1 (θ := []) (hD := (symbolAt_ok _ _ preB81 preB81)); exact rfl; exact rfl; exact rfl; refine dM ?_) | refine o_no rfl rfl rfl rfl ?_ | refine o_noN rfl rfl rfl ?_ | (apply py3; exact rfl; exact rfl; (first | exact pu1 | exact puL | exact puC | exact a_sub rfl rfl (by omega) (by omega) | exact a_ne rfl rfl | exact a_neS rfl rfl rfl | exact a_neg rfl (by omega) (by omega) | exact a_add rfl rfl (by omega) (by omega) | exact puI); exact rfl; exact rfl) | (apply cy4 0; exact rfl; exact rfl; exact callK1 (θ := []) (hD := (symbolAt_ok _ _ preB81 preB81)); exact rfl; exact rfl; exact rfl; exact rfl; refine dM ?_) | ((first | refine o_gs rfl rfl (fun hc => ?_) (fun hc => ?_) | refine g_cond rfl (fun hc => ?_) (fun hc => ?_)) <;> (try simp only [dcB] at hc) <;> (try first | contradiction | (exfalso; omega)))
      refine q_again (i + 1) [0, 1, 2] (by exact stk) ?_ ?_
      · exact ⟨by omega, by omega, hn⟩
      · omega
    · have hi : i = x.ce.length := by omega
      subst hi
      have hq : mtP c x = true := by
        unfold mtP
        rw [h2, Bool.and_true, decide_eq_true_eq]
        assumption
      rw [hq]
      repeat refine cr ?_
      refine ends_id ?_
      refine endK [] (h2 := ?_) (h3 := ?_) (nd := ?_)
      all_goals (repeat' first | exact ce0 | refine ce ?_ | refine ce2 ?_ ?_ | exact SVLe.refl | refine ceb ?_)
      all_goals first | exact (show nodupB _ = true from rfl) | exact Or.inr rfl | (rfl)
end Go.Proofs.YtcmdfohamphndaaGreatDoor
end
section
set_option linter.unusedVariables false
set_option linter.unusedSimpArgs false
set_option maxRecDepth 100000
set_option maxHeartbeats 4000000
namespace Go.Proofs.YtcmdfohamphndaaGreatDoor
open Go Foot
@[irreducible] def wiA (c : Conf) (i : Int) : List Int := [if 1 < i then symAt c.le 1 else 0, if 0 < i then symAt c.le 0 else 0, 0, 0, 0]
@[irreducible] def wiB (c : Conf) (i : Int) : List Int := [symAt c.le 1, symAt c.le 0, if 0 < i then symAt c.ri 0 else 0, if 1 < i then symAt c.ri 1 else 0, if 2 < i then symAt c.ri 2 else 0]
@[irreducible] def wiC (c : Conf) : List Int := [symAt c.le 1, symAt c.le 0, symAt c.ri 0, symAt c.ri 1, symAt c.ri 2]
theorem symAt_out {l : List Int} {i : Int} (h : l.length ≤ i) : symAt l i = 0 := by
  unfold symAt; rw [List.getD_eq_getElem?_getD, List.getElem?_eq_none (by omega)]; rfl
theorem wiA_step {c : Conf} {i : Int} (h0 : 0 ≤ i) (h : i < 2) : (wiA c i).set (1 - i).toNat (symAt c.le i) = wiA c (i + 1) := by
  have : i = 0 ∨ i = 1 := by omega
  unfold wiA
  rcases this with rfl | rfl <;> rfl
theorem wiA_end {c : Conf} {i : Int} (h0 : 0 ≤ i) (h : i ≤ 2) (hn : ¬ i < 2 ∨ (c.le.length : Int) ≤ i) : wiA c i = wiB c 0 := by
  unfold wiA wiB
  have e : ∀ k : Int, ¬ k < i → k < 2 → symAt c.le k = 0 := fun k h1 h2 => symAt_out (by omega)
  have e0 := e 0
  have e1 := e 1
  have : i = 0 ∨ i = 1 ∨ i = 2 := by omega
  rcases this with rfl | rfl | rfl
  · rw [e0 (by omega) (by omega), e1 (by omega) (by omega)]; rfl
  · rw [e1 (by omega) (by omega)]; rfl
  · rfl
theorem wiB_step {c : Conf} {i : Int} (h0 : 0 ≤ i) (h : i < 3) : (wiB c i).set (2 + i).toNat (symAt c.ri i) = wiB c (i + 1) := by
  have : i = 0 ∨ i = 1 ∨ i = 2 := by omega
  unfold wiB
  rcases this with rfl | rfl | rfl <;> rfl
theorem wiB_end {c : Conf} {i : Int} (h0 : 0 ≤ i) (h : i ≤ 3) (hn : ¬ i < 3 ∨ (c.ri.length : Int) ≤ i) : wiB c i = wiC c := by
  unfold wiB wiC
  have e : ∀ k : Int, ¬ k < i → k < 3 → symAt c.ri k = 0 := fun k h1 h2 => symAt_out (by omega)
  have e0 := e 0
  have e1 := e 1
  have e2 := e 2
  have : i = 0 ∨ i = 1 ∨ i = 2 ∨ i = 3 := by omega
  rcases this with rfl | rfl | rfl | rfl
  · rw [e0 (by omega) (by omega), e1 (by omega) (by omega), e2 (by omega) (by omega)]; rfl
  · rw [e1 (by omega) (by omega), e2 (by omega) (by omega)]; rfl
  · rw [e2 (by omega) (by omega)]; rfl
  · rfl
theorem b10Window_ok (c : Conf) (q1 : (c.le.length : Int) ≤ 200) (q2 : (c.ri.length : Int) ≤ 200) : Does Tryz.prog 61 [.agg (coC c)] [] (.agg [int c.st, int 2, .gv 0]) [roI (wiC c)] := by
  refine does_of (k := 0) Tryz.func61 rfl Tryz.ntmps61 rfl rfl fun w F0 S0 ρ0 => ?_
  dsimp only [argT, argH]
  repeat' first | (apply n3; (first | exact a_new (gb := .bx _) rfl | exact a_litE eI [_, _, _, _, _] rfl rfl rfl rfl rfl rfl rfl rfl); exact rfl; refine dA ?_) | (apply p3; (first | exact pu1 | exact puL | exact puC | exact puN | exact a_len_str rfl (fT rfl) | exact a_sub rfl rfl (by omega) (by omega) | exact a_add rfl rfl (by omega) (by omega) | exact puI); exact rfl) | refine cd ?_ | (apply w3; (first | exact a_st_bx rfl rfl rfl rfl (fN rfl rfl) (Nat.le_of_ble_eq_true rfl) rfl | exact a_st_rowI rfl rfl rfl rfl (fN rfl rfl) bnd | exact a_stE (E := eI) _ rfl rfl rfl rfl (fN rfl rfl) bnd (by exact rfl) | exact a_stE (E := eP) ⟨_, _, _⟩ rfl rfl rfl rfl (fN rfl rfl) bnd (by exact rfl)); exact rfl; refine dS ?_) | refine o_no rfl rfl rfl rfl ?_ | refine o_noN rfl rfl rfl ?_ | (apply py3; exact rfl; exact rfl; (first | exact pu1 | exact puL | exact puC | exact puN | exact a_len_str rfl (fT rfl) | exact a_sub rfl rfl (by omega) (by omega) | exact a_add rfl rfl (by omega) (by omega) | exact puI); exact rfl; exact rfl) | (apply ny3; exact rfl; exact rfl; (first | exact a_new (gb := .bx _) rfl | exact a_litE eI [_, _, _, _, _] rfl rfl rfl rfl rfl rfl rfl rfl); exact rfl; exact rfl) | ((first | refine o_gs rfl rfl (fun hc => ?_) (fun hc => ?_) | refine g_cond rfl (fun hc => ?_) (fun hc => ?_)) <;> (try simp only [dcB] at hc) <;> (try first | contradiction | (exfalso; omega)))
  refine g_loop_id ?_
  refine loopK [1, 2, 3] [2] (fun y : Int × List Int => 0 ≤ y.1 ∧ y.1 ≤ 2 ∧ y.2.length = 5 ∧ y.2 = wiA c y.1) (fun y => [(4, .one (int y.1))]) (fun y => [(2, roI y.2)]) (fun y => (2 - y.1).toNat) ((0 : Int), [(0 : Int), 0, 0, 0, 0]) [0, 1, 2] (hI := ?_) (hr := ?_)
  · exact ⟨by simp, by simp, rfl, by unfold wiA; rfl⟩
  · rintro ⟨i, l⟩ ⟨h0, h1, h2, h3⟩
    dsimp only [List.cons_append, List.nil_append] at *
    skip
    repeat' first | (apply p3; (first | exact pu1 | exact puL | exact puC | exact puN | exact a_len_str rfl (fT rfl) | exact a_sub rfl rfl (by omega) (by omega) | exact a_add rfl rfl (by omega) (by omega) | exact puI); exact rfl) | refine cdn ?_ | refine g_reg (id := 3) ?_ | refine g_reg (id := 5) ?_ | refine g_reg (id := 7) ?_ | refine g_reg (id := 9) ?_ | refine g_reg (id := 8) ?_ | refine g_reg (id := 10) ?_ | (apply w3; (first | exact a_st_bx rfl rfl rfl rfl (fN rfl rfl) (Nat.le_of_ble_eq_true rfl) rfl | exact a_st_rowI rfl rfl rfl rfl (fN rfl rfl) bnd | exact a_stE (E := eI) _ rfl rfl rfl rfl (fN rfl rfl) bnd (by exact rfl) | exact a_stE (E := eP) ⟨_, _, _⟩ rfl rfl rfl rfl (fN rfl rfl) bnd (by exact rfl)); exact rfl; refine dS ?_) | refine o_no rfl rfl rfl rfl ?_ | refine o_noN rfl rfl rfl ?_ | (apply py3; exact rfl; exact rfl; (first | exact pu1 | exact puL | exact puC | exact puN | exact a_len_str rfl (fT rfl) | exact a_sub rfl rfl (by omega) (by omega) | exact a_add rfl rfl (by omega) (by omega) | exact puI); exact rfl; exact rfl) | ((first | refine o_gs rfl rfl (fun hc => ?_) (fun hc => ?_) | refine g_cond rfl (fun hc => ?_) (fun hc => ?_)) <;> (try simp only [dcB] at hc) <;> (try first | contradiction | (exfalso; omega)))
    · rw [symAt_get (by omega)]
      have hs := wiA_step (c := c) h0 (by assumption)
      repeat' first | (apply p3; (first | exact pu1 | exact puL | exact puC | exact puN | exact a_len_str rfl (fT rfl) | exact a_sub rfl rfl (by omega) (by omega) | exact a_add rfl rfl (by omega) (by omega) | exact puI); exact rfl) | refine cd ?_ | (apply w3; (first | exact a_st_bx rfl rfl rfl rfl (fN rfl rfl) (Nat.le_of_ble_eq_true rfl) rfl | exact a_st_rowI rfl rfl rfl rfl (fN rfl rfl) bnd | exact a_stE (E := eI) _ rfl rfl rfl rfl (fN rfl rfl) bnd (by exact rfl) | exact a_stE (E := eP) ⟨_, _, _⟩ rfl rfl rfl rfl (fN rfl rfl) bnd (by exact rfl)); exact rfl; refine dS ?_) | refine o_no rfl rfl rfl rfl ?_ | refine o_noN rfl rfl rfl ?_ | (apply py3; exact rfl; exact rfl; (first | exact pu1 | exact puL | exact puC | exact puN | exact a_len_str rfl (fT rfl) | exact a_sub rfl rfl (by omega) (by omega) | exact a_add rfl rfl (by omega) (by omega) | exact puI); exact rfl; exact rfl) | ((first | refine o_gs rfl rfl (fun hc => ?_) (fun hc => ?_) | refine g_cond rfl (fun hc => ?_) (fun hc => ?_)) <;> (try simp only [dcB] at hc) <;> (try first | contradiction | (exfalso; omega)))
      refine q_again (i + 1, l.set (1 - i).toNat (symAt c.le i)) [0, 1, 2] (by exact stk) ?_ ?_
      · exact ⟨by dsimp only; omega, by dsimp only; omega, by simp [h2], by dsimp only; rw [h3, hs]⟩
      · omega
    · have hB : l = wiB c 0 := by rw [h3]; exact wiA_end h0 h1 (.inr (by omega))
      clear h3
      repeat' first | (apply p3; (first | exact pu1 | exact puL | exact puC | exact puN | exact a_len_str rfl (fT rfl) | exact a_sub rfl rfl (by omega) (by omega) | exact a_add rfl rfl (by omega) (by omega) | exact puI); exact rfl) | refine cd ?_ | (apply w3; (first | exact a_st_bx rfl rfl rfl rfl (fN rfl rfl) (Nat.le_of_ble_eq_true rfl) rfl | exact a_st_rowI rfl rfl rfl rfl (fN rfl rfl) bnd | exact a_stE (E := eI) _ rfl rfl rfl rfl (fN rfl rfl) bnd (by exact rfl) | exact a_stE (E := eP) ⟨_, _, _⟩ rfl rfl rfl rfl (fN rfl rfl) bnd (by exact rfl)); exact rfl; refine dS ?_) | refine o_no rfl rfl rfl rfl ?_ | refine o_noN rfl rfl rfl ?_ | (apply py3; exact rfl; exact rfl; (first | exact pu1 | exact puL | exact puC | exact puN | exact a_len_str rfl (fT rfl) | exact a_sub rfl rfl (by omega) (by omega) | exact a_add rfl rfl (by omega) (by omega) | exact puI); exact rfl; exact rfl) | ((first | refine o_gs rfl rfl (fun hc => ?_) (fun hc => ?_) | refine g_cond rfl (fun hc => ?_) (fun hc => ?_)) <;> (try simp only [dcB] at hc) <;> (try first | contradiction | (exfalso; omega)))
      refine g_loop_id ?_
      refine loopK [1, 2, 3] [2] (fun y : Int × List Int => 0 ≤ y.1 ∧ y.1 ≤ 3 ∧ y.2.length = 5 ∧ y.2 = wiB c y.1) (fun y => [(5, .one (int y.1))]) (fun y => [(2, roI y.2)]) (fun y => (3 - y.1).toNat) ((0 : Int), l) [0, 1, 2] (hI := ?_) (hr := ?_)
      · exact ⟨by simp, by simp, h2, hB⟩
      · rintro ⟨j, l'⟩ ⟨m0, m1, m2, m3⟩
        dsimp only [List.cons_append, List.nil_append] at *
        skip
        repeat' first | (apply p3; (first | exact pu1 | exact puL | exact puC | exact puN | exact a_len_str rfl (fT rfl) | exact a_add rfl rfl (by omega) (by omega) | exact puI); exact rfl) | refine cdn ?_ | refine g_reg (id := 7) ?_ | refine g_reg (id := 9) ?_ | (apply w3; (first | exact a_st_bx rfl rfl rfl rfl (fN rfl rfl) (Nat.le_of_ble_eq_true rfl) rfl | exact a_st_rowI rfl rfl rfl rfl (fN rfl rfl) bnd | exact a_stE (E := eI) _ rfl rfl rfl rfl (fN rfl rfl) bnd (by exact rfl) | exact a_stE (E := eP) ⟨_, _, _⟩ rfl rfl rfl rfl (fN rfl rfl) bnd (by exact rfl)); exact rfl; refine dS ?_) | refine o_no rfl rfl rfl rfl ?_ | refine o_noN rfl rfl rfl ?_ | (apply py3; exact rfl; exact rfl; (first | exact pu1 | exact puL | exact puC | exact puN | exact a_len_str rfl (fT rfl) | exact a_add rfl rfl (by omega) (by omega) | exact puI); exact rfl; exact rfl) | ((first | refine o_gs rfl rfl (fun hc => ?_) (fun hc => ?_) | refine g_cond rfl (fun hc => ?_) (fun hc => ?_)) <;> (try simp only [dcB] at hc) <;> (try first | contradiction | (exfalso; omega)))
        · rw [symAt_get (by omega)]
          have hs := wiB_step (c := c) m0 (by assumption)
          repeat' first | (apply p3; (first | exact pu1 | exact puL | exact puC | exact puN | exact a_len_str rfl (fT rfl) | exact a_add rfl rfl (by omega) (by omega) | exact puI); exact rfl) | refine cd ?_ | (apply w3; (first | exact a_st_bx rfl rfl rfl rfl (fN rfl rfl) (Nat.le_of_ble_eq_true rfl) rfl | exact a_st_rowI rfl rfl rfl rfl (fN rfl rfl) bnd | exact a_stE (E := eI) _ rfl rfl rfl rfl (fN rfl rfl) bnd (by exact rfl) | exact a_stE (E := eP) ⟨_, _, _⟩ rfl rfl rfl rfl (fN rfl rfl) bnd (by exact rfl)); exact rfl; refine dS ?_) | refine o_no rfl rfl rfl rfl ?_ | refine o_noN rfl rfl rfl ?_ | (apply py3; exact rfl; exact rfl; (first | exact pu1 | exact puL | exact puC | exact puN | exact a_len_str rfl (fT rfl) | exact a_add rfl rfl (by omega) (by omega) | exact puI); exact rfl; exact rfl) | ((first | refine o_gs rfl rfl (fun hc => ?_) (fun hc => ?_) | refine g_cond rfl (fun hc => ?_) (fun hc => ?_)) <;> (try simp only [dcB] at hc) <;> (try first | contradiction | (exfalso; omega)))
          refine q_again (j + 1, l'.set (2 + j).toNat (symAt c.ri j)) [0, 1, 2] (by exact stk) ?_ ?_
          · exact ⟨by dsimp only; omega, by dsimp only; omega, by simp [m2], by dsimp only; rw [m3, hs]⟩
          · omega
        · have hq : l' = wiC c := by rw [m3]; exact wiB_end m0 m1 (.inr (by omega))
          rw [← hq]
          repeat' first | (apply p3; (first | exact pu1 | exact puL | exact puC | exact puN | exact a_len_str rfl (fT rfl) | exact a_add rfl rfl (by omega) (by omega) | exact puI); exact rfl) | refine cd ?_ | (apply w3; (first | exact a_st_bx rfl rfl rfl rfl (fN rfl rfl) (Nat.le_of_ble_eq_true rfl) rfl | exact a_st_rowI rfl rfl rfl rfl (fN rfl rfl) bnd | exact a_stE (E := eI) _ rfl rfl rfl rfl (fN rfl rfl) bnd (by exact rfl) | exact a_stE (E := eP) ⟨_, _, _⟩ rfl rfl rfl rfl (fN rfl rfl) bnd (by exact rfl)); exact rfl; refine dS ?_) | refine o_no rfl rfl rfl rfl ?_ | refine o_noN rfl rfl rfl ?_ | (apply py3; exact rfl; exact rfl; (first | exact pu1 | exact puL | exact puC | exact puN | exact a_len_str rfl (fT rfl) | exact a_add rfl rfl (by omega) (by omega) | exact puI); exact rfl; exact rfl) | ((first | refine o_gs rfl rfl (fun hc => ?_) (fun hc => ?_) | refine g_cond rfl (fun hc => ?_) (fun hc => ?_)) <;> (try simp only [dcB] at hc) <;> (try first | contradiction | (exfalso; omega)))
          repeat refine cr ?_
          refine ends_id ?_
          refine endK [?_] (h2 := ?_) (h3 := ?_) (nd := ?_)
          rotate_left 1
          all_goals (repeat' first | exact ce0 | refine ce ?_ | refine ce2 ?_ ?_ | (refine Or.inr (bx_eq rfl rfl ?_); (try dsimp only [C.ren, C.ren.all]); (try exact rfl)) | exact SVLe.refl | refine ceb ?_)
          all_goals first | exact (show nodupB _ = true from rfl) | exact Or.inr rfl | (rfl)
        · have hq : l' = wiC c := by rw [m3]; exact wiB_end m0 m1 (.inl (by omega))
          rw [← hq]
          repeat' first | (apply p3; (first | exact pu1 | exact puL | exact puC | exact puN | exact a_len_str rfl (fT rfl) | exact a_add rfl rfl (by omega) (by omega) | exact puI); exact rfl) | refine cd ?_ | (apply w3; (first | exact a_st_bx rfl rfl rfl rfl (fN rfl rfl) (Nat.le_of_ble_eq_true rfl) rfl | exact a_st_rowI rfl rfl rfl rfl (fN rfl rfl) bnd | exact a_stE (E := eI) _ rfl rfl rfl rfl (fN rfl rfl) bnd (by exact rfl) | exact a_stE (E := eP) ⟨_, _, _⟩ rfl rfl rfl rfl (fN rfl rfl) bnd (by exact rfl)); exact rfl; refine dS ?_) | refine o_no rfl rfl rfl rfl ?_ | refine o_noN rfl rfl rfl ?_ | (apply py3; exact rfl; exact rfl; (first | exact pu1 | exact puL | exact puC | exact puN | exact a_len_str rfl (fT rfl) | exact a_add rfl rfl (by omega) (by omega) | exact puI); exact rfl; exact rfl) | ((first | refine o_gs rfl rfl (fun hc => ?_) (fun hc => ?_) | refine g_cond rfl (fun hc => ?_) (fun hc => ?_)) <;> (try simp only [dcB] at hc) <;> (try first | contradiction | (exfalso; omega)))
          repeat refine cr ?_
          refine ends_id ?_
          refine endK [?_] (h2 := ?_) (h3 := ?_) (nd := ?_)
          rotate_left 1
          all_goals (repeat' first | exact ce0 | refine ce ?_ | refine ce2 ?_ ?_ | (refine Or.inr (bx_eq rfl rfl ?_); (try dsimp only [C.ren, C.ren.all]); (try exact rfl)) | exact SVLe.refl | refine ceb ?_)
          all_goals first | exact (show nodupB _ = true from rfl) | exact Or.inr rfl | (rfl)
    · have hB : l = wiB c 0 := by rw [h3]; exact wiA_end h0 h1 (.inl (by omega))
      clear h3
      repeat' first | (apply p3; (first | exact pu1 | exact puL | exact puC | exact puN | exact a_len_str rfl (fT rfl) | exact a_add rfl rfl (by omega) (by omega) | exact puI); exact rfl) | refine cd ?_ | (apply w3; (first | exact a_st_bx rfl rfl rfl rfl (fN rfl rfl) (Nat.le_of_ble_eq_true rfl) rfl | exact a_st_rowI rfl rfl rfl rfl (fN rfl rfl) bnd | exact a_stE (E := eI) _ rfl rfl rfl rfl (fN rfl rfl) bnd (by exact rfl) | exact a_stE (E := eP) ⟨_, _, _⟩ rfl rfl rfl rfl (fN rfl rfl) bnd (by exact rfl)); exact rfl; refine dS ?_) | refine o_no rfl rfl rfl rfl ?_ | refine o_noN rfl rfl rfl ?_ | (apply py3; exact rfl; exact rfl; (first | exact pu1 | exact puL | exact puC | exact puN | exact a_len_str rfl (fT rfl) | exact a_add rfl rfl (by omega) (by omega) | exact puI); exact rfl; exact rfl) | ((first | refine o_gs rfl rfl (fun hc => ?_) (fun hc => ?_) | refine g_cond rfl (fun hc => ?_) (fun hc => ?_)) <;> (try simp only [dcB] at hc) <;> (try first | contradiction | (exfalso; omega)))
      refine g_loop_id ?_
      refine loopK [1, 2, 3] [2] (fun y : Int × List Int => 0 ≤ y.1 ∧ y.1 ≤ 3 ∧ y.2.length = 5 ∧ y.2 = wiB c y.1) (fun y => [(5, .one (int y.1))]) (fun y => [(2, roI y.2)]) (fun y => (3 - y.1).toNat) ((0 : Int), l) [0, 1, 2] (hI := ?_) (hr := ?_)
      · exact ⟨by simp, by simp, h2, hB⟩
      · rintro ⟨j, l'⟩ ⟨m0, m1, m2, m3⟩
        dsimp only [List.cons_append, List.nil_append] at *
        skip
        repeat' first | (apply p3; (first | exact pu1 | exact puL | exact puC | exact puN | exact a_len_str rfl (fT rfl) | exact a_add rfl rfl (by omega) (by omega) | exact puI); exact rfl) | refine cdn ?_ | refine g_reg (id := 7) ?_ | refine g_reg (id := 9) ?_ | (apply w3; (first | exact a_st_bx rfl rfl rfl rfl (fN rfl rfl) (Nat.le_of_ble_eq_true rfl) rfl | exact a_st_rowI rfl rfl rfl rfl (fN rfl rfl) bnd | exact a_stE (E := eI) _ rfl rfl rfl rfl (fN rfl rfl) bnd (by exact rfl) | exact a_stE (E := eP) ⟨_, _, _⟩ rfl rfl rfl rfl (fN rfl rfl) bnd (by exact rfl)); exact rfl; refine dS ?_) | refine o_no rfl rfl rfl rfl ?_ | refine o_noN rfl rfl rfl ?_ | (apply py3; exact rfl; exact rfl; (first | exact pu1 | exact puL | exact puC | exact puN | exact a_len_str rfl (fT rfl) | exact a_add rfl rfl (by omega) (by omega) | exact puI); exact rfl; exact rfl) | ((first | refine o_gs rfl rfl (fun hc => ?_) (fun hc => ?_) | refine g_cond rfl (fun hc => ?_) (fun hc => ?_)) <;> (try simp only [dcB] at hc) <;> (try first | contradiction | (exfalso; omega)))
        · rw [symAt_get (by omega)]
          have hs := wiB_step (c := c) m0 (by assumption)
          repeat' first | (apply p3; (first | exact pu1 | exact puL | exact puC | exact puN | exact a_len_str rfl (fT rfl) | exact a_add rfl rfl (by omega) (by omega) | exact puI); exact rfl) | refine cd ?_ | (apply w3; (first | exact a_st_bx rfl rfl rfl rfl (fN rfl rfl) (Nat.le_of_ble_eq_true rfl) rfl | exact a_st_rowI rfl rfl rfl rfl (fN rfl rfl) bnd | exact a_stE (E := eI) _ rfl rfl rfl rfl (fN rfl rfl) bnd (by exact rfl) | exact a_stE (E := eP) ⟨_, _, _⟩ rfl rfl rfl rfl (fN rfl rfl) bnd (by exact rfl)); exact rfl; refine dS ?_) | refine o_no rfl rfl rfl rfl ?_ | refine o_noN rfl rfl rfl ?_ | (apply py3; exact rfl; exact rfl; (first | exact pu1 | exact puL | exact puC | exact puN | exact a_len_str rfl (fT rfl) | exact a_add rfl rfl (by omega) (by omega) | exact puI); exact rfl; exact rfl) | ((first | refine o_gs rfl rfl (fun hc => ?_) (fun hc => ?_) | refine g_cond rfl (fun hc => ?_) (fun hc => ?_)) <;> (try simp only [dcB] at hc) <;> (try first | contradiction | (exfalso; omega)))
          refine q_again (j + 1, l'.set (2 + j).toNat (symAt c.ri j)) [0, 1, 2] (by exact stk) ?_ ?_
          · exact ⟨by dsimp only; omega, by dsimp only; omega, by simp [m2], by dsimp only; rw [m3, hs]⟩
          · omega
        · have hq : l' = wiC c := by rw [m3]; exact wiB_end m0 m1 (.inr (by omega))
          rw [← hq]
          repeat' first | (apply p3; (first | exact pu1 | exact puL | exact puC | exact puN | exact a_len_str rfl (fT rfl) | exact a_add rfl rfl (by omega) (by omega) | exact puI); exact rfl) | refine cd ?_ | (apply w3; (first | exact a_st_bx rfl rfl rfl rfl (fN rfl rfl) (Nat.le_of_ble_eq_true rfl) rfl | exact a_st_rowI rfl rfl rfl rfl (fN rfl rfl) bnd | exact a_stE (E := eI) _ rfl rfl rfl rfl (fN rfl rfl) bnd (by exact rfl) | exact a_stE (E := eP) ⟨_, _, _⟩ rfl rfl rfl rfl (fN rfl rfl) bnd (by exact rfl)); exact rfl; refine dS ?_) | refine o_no rfl rfl rfl rfl ?_ | refine o_noN rfl rfl rfl ?_ | (apply py3; exact rfl; exact rfl; (first | exact pu1 | exact puL | exact puC | exact puN | exact a_len_str rfl (fT rfl) | exact a_add rfl rfl (by omega) (by omega) | exact puI); exact rfl; exact rfl) | ((first | refine o_gs rfl rfl (fun hc => ?_) (fun hc => ?_) | refine g_cond rfl (fun hc => ?_) (fun hc => ?_)) <;> (try simp only [dcB] at hc) <;> (try first | contradiction | (exfalso; omega)))
          repeat refine cr ?_
          refine ends_id ?_
          refine endK [?_] (h2 := ?_) (h3 := ?_) (nd := ?_)
          rotate_left 1
          all_goals (repeat' first | exact ce0 | refine ce ?_ | refine ce2 ?_ ?_ | (refine Or.inr (bx_eq rfl rfl ?_); (try dsimp only [C.ren, C.ren.all]); (try exact rfl)) | exact SVLe.refl | refine ceb ?_)
          all_goals first | exact (show nodupB _ = true from rfl) | exact Or.inr rfl | (rfl)
        · have hq : l' = wiC c := by rw [m3]; exact wiB_end m0 m1 (.inl (by omega))
          rw [← hq]
          repeat' first | (apply p3; (first | exact pu1 | exact puL | exact puC | exact puN | exact a_len_str rfl (fT rfl) | exact a_add rfl rfl (by omega) (by omega) | exact puI); exact rfl) | refine cd ?_ | (apply w3; (first | exact a_st_bx rfl rfl rfl rfl (fN rfl rfl) (Nat.le_of_ble_eq_true rfl) rfl | exact a_st_rowI rfl rfl rfl rfl (fN rfl rfl) bnd | exact a_stE (E := eI) _ rfl rfl rfl rfl (fN rfl rfl) bnd (by exact rfl) | exact a_stE (E := eP) ⟨_, _, _⟩ rfl rfl rfl rfl (fN rfl rfl) bnd (by exact rfl)); exact rfl; refine dS ?_) | refine o_no rfl rfl rfl rfl ?_ | refine o_noN rfl rfl rfl ?_ | (apply py3; exact rfl; exact rfl; (first | exact pu1 | exact puL | exact puC | exact puN | exact a_len_str rfl (fT rfl) | exact a_add rfl rfl (by omega) (by omega) | exact puI); exact rfl; exact rfl) | ((first | refine o_gs rfl rfl (fun hc => ?_) (fun hc => ?_) | refine g_cond rfl (fun hc => ?_) (fun hc => ?_)) <;> (try simp only [dcB] at hc) <;> (try first | contradiction | (exfalso; omega)))
          repeat refine cr ?_
          refine ends_id ?_
          refine endK [?_] (h2 := ?_) (h3 := ?_) (nd := ?_)
          rotate_left 1
          all_goals (repeat' first | exact ce0 | refine ce ?_ | refine ce2 ?_ ?_ | (refine Or.inr (bx_eq rfl rfl ?_); (try dsimp only [C.ren, C.ren.all]); (try exact rfl)) | exact SVLe.refl | refine ceb ?_)
          all_goals first | exact (show nodupB _ = true from rfl) | exact Or.inr rfl | (rfl)
end Go.Proofs.YtcmdfohamphndaaGreatDoor
end
section
set_option linter.unusedVariables false
set_option linter.unusedSimpArgs false
set_option maxRecDepth 100000
set_option maxHeartbeats 4000000
namespace Go.Proofs.YtcmdfohamphndaaGreatDoor
open Go Foot
theorem b10Long_ok (l : List Int) (hx : (l.length : Int) ≤ 9223372036854775807) : Does Tryz.prog 41 [.one (shY l)] [] (.one (boo (decide ((l.length : Int) > 1048576)))) [] := by
  refine does_of (k := 0) Tryz.func41 rfl Tryz.ntmps41 rfl rfl fun w F0 S0 ρ0 => ?_
  dsimp only [argT, argH]
  repeat' first | (apply p3; (first | exact pu1 | exact puN | exact a_len_str rfl (fT rfl) | exact puC); exact rfl) | refine cd ?_ | ((first | refine o_gs rfl rfl (fun hc => ?_) (fun hc => ?_) | refine g_cond rfl (fun hc => ?_) (fun hc => ?_)) <;> (try simp only [dcB] at hc) <;> (try first | contradiction | (exfalso; omega)))
  repeat refine cr ?_
  refine ends_id ?_
  refine endK [] (h2 := ?_) (h3 := ?_) (nd := ?_)
  all_goals (repeat' first | exact ce0 | refine ce ?_ | refine ce2 ?_ ?_ | exact SVLe.refl | refine ceb ?_)
  all_goals first | exact (show nodupB _ = true from rfl) | exact Or.inr rfl | (rfl)
theorem b10Nums_ok (xs ys : List Int) (hx : (xs.length : Int) ≤ 16777216) (hy : (ys.length : Int) ≤ 16777216) : Does Tryz.prog 45 [.one (shI xs), .one (shI ys)] [] (.one (boo (eqI xs ys))) [] := by
  refine does_of (k := 0) Tryz.func45 rfl Tryz.ntmps45 rfl rfl fun w F0 S0 ρ0 => ?_
  dsimp only [argT, argH]
  repeat' first | (apply p3; (first | exact pu1 | exact puN | exact a_len_str rfl (fT rfl) | exact a_ne rfl rfl | exact a_neS rfl rfl rfl | exact puC | exact a_add rfl rfl (by omega) (by omega)); exact rfl) | refine cd ?_ | (apply g_drN (id := 6) okM [[],[],[0,1],[0,1,2],[],[],[4,5],[4,5,6],[0,1,2,3,4,5,6,7]] [([],[]),([],[]),([],[]),([],[]),([],[]),([],[]),([],[]),([],[]),([],[])] 0; (focus (refine dp 0 0 [18, 21, 22, 23, 24] [] pu1 ?_; refine dp 1 0 [17, 21, 22, 23, 24] [] pu1 ?_; refine dp 2 3 [21, 22, 23, 24] [] puI ?_; refine dp 3 7 [21, 22, 23, 24] [] puL ?_; refine dp 4 0 [17, 18, 19, 20, 22] [] pu1 ?_; refine dp 5 0 [17, 18, 19, 20, 21] [] pu1 ?_; refine dp 6 3 [17, 18, 19, 20] [] puI ?_; refine dp 7 7 [17, 18, 19, 20] [] puL ?_; refine dp 8 255 [] [] (by first | exact a_ne rfl rfl | exact a_neS rfl rfl rfl) ?_; (refine d_nil ?_; refine dN ?_))); any_goals kernel_rfl) | ((first | refine o_gs rfl rfl (fun hc => ?_) (fun hc => ?_) | refine g_cond rfl (fun hc => ?_) (fun hc => ?_)) <;> (try simp only [dcB] at hc) <;> (try first | contradiction | (exfalso; omega)))
  · repeat refine cr ?_
    refine ends_id ?_
    refine endK [] (h2 := ?_) (h3 := ?_) (nd := ?_)
    all_goals (repeat' first | exact ce0 | refine ce ?_ | refine ce2 ?_ ?_ | exact SVLe.refl | refine ceb ?_)
    all_goals first | exact (show nodupB _ = true from rfl) | exact Or.inr rfl | ((symm; unfold eqI; rw [decide_eq_false_iff_not]; rintro rfl; omega))
  refine g_loop_id ?_
  refine loopK [0, 1, 4] [] (fun i : Int => 0 ≤ i ∧ i ≤ xs.length ∧ xs.take i.toNat = ys.take i.toNat) (fun i => [(5, .one (int i))]) (fun _ => []) (fun i => (xs.length - i).toNat) (0 : Int) [] (hI := ?_) (hr := ?_)
  · exact ⟨by simp, by simp, by simp⟩
  · rintro i ⟨h0, h1, h2⟩
    dsimp only [List.cons_append, List.nil_append] at *
    skip
    repeat' first | (apply p3; (first | exact pu1 | exact puN | exact a_len_str rfl (fT rfl) | exact puC | exact a_add rfl rfl (by omega) (by omega)); exact rfl) | refine cd ?_ | (apply g_drN (id := 6) okM [[],[],[0,1],[0,1,2],[],[],[4,5],[4,5,6],[0,1,2,3,4,5,6,7]] [([],[]),([],[]),([],[]),([],[]),([],[]),([],[]),([],[]),([],[]),([],[])] 0; (focus (refine dp 0 0 [18, 21, 22, 23, 24] [] pu1 ?_; refine dp 1 0 [17, 21, 22, 23, 24] [] pu1 ?_; refine dp 2 3 [21, 22, 23, 24] [] puI ?_; refine dp 3 7 [21, 22, 23, 24] [] puL ?_; refine dp 4 0 [17, 18, 19, 20, 22] [] pu1 ?_; refine dp 5 0 [17, 18, 19, 20, 21] [] pu1 ?_; refine dp 6 3 [17, 18, 19, 20] [] puI ?_; refine dp 7 7 [17, 18, 19, 20] [] puL ?_; refine dp 8 255 [] [] (by first | exact a_ne rfl rfl | exact a_neS rfl rfl rfl) ?_; (refine d_nil ?_; refine dN ?_))); any_goals kernel_rfl) | ((first | refine o_gs rfl rfl (fun hc => ?_) (fun hc => ?_) | refine g_cond rfl (fun hc => ?_) (fun hc => ?_)) <;> (try simp only [dcB] at hc) <;> (try first | contradiction | (exfalso; omega)))
    · repeat refine cr ?_
      refine ends_id ?_
      refine endK [] (h2 := ?_) (h3 := ?_) (nd := ?_)
      all_goals (repeat' first | exact ce0 | refine ce ?_ | refine ce2 ?_ ?_ | exact SVLe.refl | refine ceb ?_)
      all_goals first | exact (show nodupB _ = true from rfl) | exact Or.inr rfl | ((symm; unfold eqI; rw [decide_eq_false_iff_not]; rintro rfl; simp_all))
    · refine q_again (i + 1) [] (by exact stk) ?_ ?_
      · exact ⟨by omega, by omega, take_next h0 (by omega) (by omega) h2 (by simp_all)⟩
      · omega
    · have hl := take_end (by omega) (by omega) h2
      repeat refine cr ?_
      refine ends_id ?_
      refine endK [] (h2 := ?_) (h3 := ?_) (nd := ?_)
      all_goals (repeat' first | exact ce0 | refine ce ?_ | refine ce2 ?_ ?_ | exact SVLe.refl | refine ceb ?_)
      all_goals first | exact (show nodupB _ = true from rfl) | exact Or.inr rfl | ((symm; unfold eqI; rw [decide_eq_true_eq]; exact hl))
end Go.Proofs.YtcmdfohamphndaaGreatDoor
end
section
set_option linter.unusedVariables false
set_option linter.unusedSimpArgs false
set_option maxRecDepth 100000
set_option maxHeartbeats 4000000
namespace Go.Proofs.YtcmdfohamphndaaGreatDoor
open Go Foot
theorem symAt_bd {sy : Int} {l : List Int} (hs : 1 ≤ sy) (h : ∀ x ∈ l, 0 ≤ x ∧ x ≤ sy - 1) (k : Int) : 0 ≤ symAt l k ∧ symAt l k ≤ sy - 1 := by
  unfold symAt
  rw [List.getD_eq_getElem?_getD]
  rcases hk : l[k.toNat]? with _ | v
  · simp; omega
  · exact h v (List.mem_of_getElem? hk)
theorem win_ok {m : Mach} {c : Conf} (hm : vMach m = true) (hc : vConf m c = true) : PtOk m ⟨c.st, 2, wiC c⟩ := by
  have hb := vMach_bd hm
  have hcb := vConf_bd hc
  have q1 := symAt_bd (sy := m.sy) (by omega) (vSide_bd hcb.2.1).2.1
  have q2 := symAt_bd (sy := m.sy) (by omega) (vSide_bd hcb.2.2).2.1
  have hl : (wiC c).length = 5 := by unfold wiC; rfl
  refine ⟨hcb.1, ⟨by simp, by dsimp only; omega⟩, by dsimp only; omega, fun v hv => ?_⟩
  dsimp only at hv
  unfold wiC at hv
  simp only [List.mem_cons, List.not_mem_nil, or_false] at hv
  rcases hv with rfl | rfl | rfl | rfl | rfl
  · exact q1 1
  · exact q1 0
  · exact q2 0
  · exact q2 1
  · exact q2 2
theorem win_mt (c : Conf) : mtP c ⟨c.st, 2, wiC c⟩ = true := by
  unfold mtP mtU
  rw [Bool.and_eq_true, decide_eq_true_eq]
  refine ⟨rfl, ?_⟩
  have hl : (((⟨c.st, 2, wiC c⟩ : Part).ce.length : Nat) : Int).toNat = 5 := by dsimp only; unfold wiC; rfl
  rw [hl, List.all_eq_true]
  intro i hi
  have := List.mem_range.1 hi
  rw [decide_eq_true_eq]
  have e : i = 0 ∨ i = 1 ∨ i = 2 ∨ i = 3 ∨ i = 4 := by omega
  unfold symP wiC symAt
  rcases e with rfl | rfl | rfl | rfl | rfl
  · rw [if_neg (by dsimp only; omega)]; rfl
  · rw [if_neg (by dsimp only; omega)]; rfl
  · rw [if_pos (by dsimp only; omega)]; rfl
  · rw [if_pos (by dsimp only; omega)]; rfl
  · rw [if_pos (by dsimp only; omega)]; rfl
end Go.Proofs.YtcmdfohamphndaaGreatDoor
end
section
set_option linter.unusedVariables false
set_option linter.unusedSimpArgs false
set_option maxRecDepth 100000
set_option maxHeartbeats 4000000
namespace Go.Proofs.YtcmdfohamphndaaGreatDoor
open Go Foot
section
variable {P : Program} {g : Gh} {st : St} {dst : Option Tmp} {ty : TypeId} {pos : String} {after : Array Edge} {guard : Option (Nat × Bool)} {x y z : Operand} {T U : TypeId} {a b : Int}
theorem a_cmp8 {op : BinOp} {p : Prop} [Decidable p] {v : Value} (e1 : opd st x = .one (u8 a)) (e2 : opd st y = .one (u8 b)) (hv : binV op (.int .u8 a) (.int .u8 b) = some v) (ho : binOb op (.int .u8 a) (.int .u8 b)) (hb : v = .bool (decide p)) : Acts P g ⟨dst, .binOp op T x y U, ty, pos, after, guard⟩ st (.one (boo (decide p))) [] [] := by
  subst hb
  exact a_bin e1 e2 hv ho
theorem a_sub8 (e1 : opd st x = .one (u8 a)) (e2 : opd st y = .one (u8 b)) (h0 : 0 ≤ a - b) (h1 : a - b < 256) : Acts P g ⟨dst, .binOp .sub T x y U, ty, pos, after, guard⟩ st (.one (u8 (a - b))) [] [] := by
  have := a_bin (P := P) (g := g) (dst := dst) (T := T) (U := U) (ty := ty) (pos := pos) (after := after) (guard := guard) (op := .sub) e1 e2 rfl trivial
  rwa [wrap8 h0 h1] at this
end
abbrev dgI (s : Bs) : List Int := s.map fun b => (b.toNat : Int) - 48
theorem readDigits_ok (s : Bs) (hs : (s.length : Int) ≤ 1048576) (hd : ∀ b ∈ s, 48 ≤ b.toNat ∧ b.toNat ≤ 57) : Does Tryz.prog 126 [.one (str s)] [] (.tup [(false, [.gv 0]), (false, [boo true])]) [roI (dgI s)] := by
  refine does_of (k := 0) Tryz.func126 rfl Tryz.ntmps126 rfl rfl fun w F0 S0 ρ0 => ?_
  dsimp only [argT, argH]
  repeat' first | (apply n3; exact a_nilO eI rfl; exact rfl) | (apply n3; (first | exact a_litE eI [] rfl rfl rfl rfl rfl rfl rfl rfl | exact a_litE eI [_] rfl rfl rfl rfl rfl rfl rfl rfl | exact a_appN (fP rfl) rfl rfl rfl nowR (by first | omega | (simp; omega)) (by decide) (by exact rfl)); exact rfl; refine dA ?_) | (apply p3; (first | exact pu1 | exact a_lenT rfl (fT rfl) | exact puC | exact a_idxS rfl rfl (fT rfl) (by omega) bnd | exact a_cmp8 rfl rfl rfl trivial rfl | exact a_sub8 rfl rfl (by omega) (by omega) | exact a_of8 rfl Tryz.underlying5 Tryz.underlying2 (by omega) (by first | omega | exact byte_lt _) | exact a_add rfl rfl (by omega) (by omega)); exact rfl) | refine cd ?_ | (apply s3; exact a_appE (fP rfl) rfl rfl rfl rfl nowR (by first | omega | (simp; omega)) (by decide) (by decide) (by exact rfl); exact rfl; exact rfl) | refine o_no rfl rfl rfl rfl ?_ | refine o_noN rfl rfl rfl ?_ | (apply py3; exact rfl; exact rfl; (first | exact pu1 | exact a_lenT rfl (fT rfl) | exact puC | exact a_idxS rfl rfl (fT rfl) (by omega) bnd | exact a_cmp8 rfl rfl rfl trivial rfl | exact a_sub8 rfl rfl (by omega) (by omega) | exact a_of8 rfl Tryz.underlying5 Tryz.underlying2 (by omega) (by first | omega | exact byte_lt _) | exact a_add rfl rfl (by omega) (by omega)); exact rfl; exact rfl) | (apply ny3; exact rfl; exact rfl; (first | exact a_nilO eI rfl | exact a_litE eI [] rfl rfl rfl rfl rfl rfl rfl rfl | exact a_litE eI [_] rfl rfl rfl rfl rfl rfl rfl rfl | exact a_appN (fP rfl) rfl rfl rfl nowR (by first | omega | (simp; omega)) (by decide) (by exact rfl)); exact rfl; exact rfl) | ((first | refine o_gs rfl rfl (fun hc => ?_) (fun hc => ?_) | refine g_cond rfl (fun hc => ?_) (fun hc => ?_)) <;> (try simp only [dcB] at hc) <;> (try first | contradiction | (exfalso; omega)))
  refine g_loop_id ?_
  refine loopK [0, 2, 3] [1] (fun y : Int × List Int => 0 ≤ y.1 ∧ y.1 ≤ s.length ∧ (y.2.length : Int) ≤ y.1 ∧ y.2 = dgI (s.take y.1.toNat)) (fun y => [(5, .one (int y.1)), (4, .one (.gv 1))]) (fun y => [(1, roI y.2)]) (fun y => (s.length - y.1).toNat) ((0 : Int), ([] : List Int)) [0, 1] (hI := ?_) (hr := ?_)
  · exact ⟨by simp, by simp, by simp, by simp⟩
  · rintro ⟨i, l⟩ ⟨h0, h1, h2, h3⟩
    dsimp only [List.cons_append, List.nil_append] at *
    skip
    repeat' first | (apply p3; (first | exact pu1 | exact a_lenT rfl (fT rfl) | exact puC); exact rfl) | refine cdn ?_ | refine g_reg (id := 3) ?_ | ((first | refine o_gs rfl rfl (fun hc => ?_) (fun hc => ?_) | refine g_cond rfl (fun hc => ?_) (fun hc => ?_)) <;> (try simp only [dcB] at hc) <;> (try first | contradiction | (exfalso; omega)))
    · have hb := hd (s[i.toNat]'(by omega)) (List.getElem_mem _)
      have hg : s.getD i.toNat 0 = s[i.toNat]'(by omega) := by rw [List.getD_eq_getElem?_getD, List.getElem?_eq_getElem]; rfl
      rw [← hg] at hb
      have hn : dgI (s.take i.toNat) ++ [((s.getD i.toNat 0).toNat : Int) - 48] = dgI (s.take (i + 1).toNat) := by
        rw [show (i + 1).toNat = i.toNat + 1 by omega, List.take_succ_eq_append_getElem (by omega), hg, dgI, dgI, List.map_append]
        rfl
      repeat' first | (apply n3; exact a_nilO eI rfl; exact rfl) | (apply n3; (first | exact a_litE eI [_] rfl rfl rfl rfl rfl rfl rfl rfl | exact a_appN (fP rfl) rfl rfl rfl nowR (by first | omega | (simp; omega)) (by decide) (by exact rfl)); exact rfl; refine dA ?_) | (apply p3; (first | exact pu1 | exact a_lenT rfl (fT rfl) | exact puC | exact a_idxS rfl rfl (fT rfl) (by omega) bnd | exact a_cmp8 rfl rfl rfl trivial rfl | exact a_sub8 rfl rfl (by omega) (by omega) | exact a_of8 rfl Tryz.underlying5 Tryz.underlying2 (by omega) (by first | omega | exact byte_lt _) | exact a_add rfl rfl (by omega) (by omega)); exact rfl) | refine cd ?_ | (apply s3; exact a_appE (fP rfl) rfl rfl rfl rfl nowR (by first | omega | (simp; omega)) (by decide) (by decide) (by exact rfl); exact rfl; exact rfl) | refine o_no rfl rfl rfl rfl ?_ | refine o_noN rfl rfl rfl ?_ | (apply py3; exact rfl; exact rfl; (first | exact pu1 | exact a_lenT rfl (fT rfl) | exact puC | exact a_idxS rfl rfl (fT rfl) (by omega) bnd | exact a_cmp8 rfl rfl rfl trivial rfl | exact a_sub8 rfl rfl (by omega) (by omega) | exact a_of8 rfl Tryz.underlying5 Tryz.underlying2 (by omega) (by first | omega | exact byte_lt _) | exact a_add rfl rfl (by omega) (by omega)); exact rfl; exact rfl) | (apply ny3; exact rfl; exact rfl; (first | exact a_nilO eI rfl | exact a_litE eI [_] rfl rfl rfl rfl rfl rfl rfl rfl | exact a_appN (fP rfl) rfl rfl rfl nowR (by first | omega | (simp; omega)) (by decide) (by exact rfl)); exact rfl; exact rfl) | ((first | refine o_gs rfl rfl (fun hc => ?_) (fun hc => ?_) | refine g_cond rfl (fun hc => ?_) (fun hc => ?_)) <;> (try simp only [dcB] at hc) <;> (try first | contradiction | (exfalso; omega)))
      refine q_again (i + 1, l ++ [((s.getD i.toNat 0).toNat : Int) - 48]) [0, 3] (by exact stk) ?_ ?_
      · exact ⟨by dsimp only; omega, by dsimp only; omega, by simp; omega, by dsimp only; rw [h3, hn]⟩
      · omega
    · have hq : l = dgI s := by rw [h3, List.take_of_length_le (by omega)]
      subst hq
      repeat' first | (apply n3; exact a_nilO eI rfl; exact rfl) | (apply n3; (first | exact a_litE eI [_] rfl rfl rfl rfl rfl rfl rfl rfl | exact a_appN (fP rfl) rfl rfl rfl nowR (by first | omega | (simp; omega)) (by decide) (by exact rfl)); exact rfl; refine dA ?_) | (apply p3; (first | exact pu1 | exact a_lenT rfl (fT rfl) | exact puC | exact a_idxS rfl rfl (fT rfl) (by omega) bnd | exact a_cmp8 rfl rfl rfl trivial rfl | exact a_sub8 rfl rfl (by omega) (by omega) | exact a_of8 rfl Tryz.underlying5 Tryz.underlying2 (by omega) (by first | omega | exact byte_lt _) | exact a_add rfl rfl (by omega) (by omega)); exact rfl) | refine cd ?_ | (apply s3; exact a_appE (fP rfl) rfl rfl rfl rfl nowR (by first | omega | (simp; omega)) (by decide) (by decide) (by exact rfl); exact rfl; exact rfl) | refine o_no rfl rfl rfl rfl ?_ | refine o_noN rfl rfl rfl ?_ | (apply py3; exact rfl; exact rfl; (first | exact pu1 | exact a_lenT rfl (fT rfl) | exact puC | exact a_idxS rfl rfl (fT rfl) (by omega) bnd | exact a_cmp8 rfl rfl rfl trivial rfl | exact a_sub8 rfl rfl (by omega) (by omega) | exact a_of8 rfl Tryz.underlying5 Tryz.underlying2 (by omega) (by first | omega | exact byte_lt _) | exact a_add rfl rfl (by omega) (by omega)); exact rfl; exact rfl) | (apply ny3; exact rfl; exact rfl; (first | exact a_nilO eI rfl | exact a_litE eI [_] rfl rfl rfl rfl rfl rfl rfl rfl | exact a_appN (fP rfl) rfl rfl rfl nowR (by first | omega | (simp; omega)) (by decide) (by exact rfl)); exact rfl; exact rfl) | ((first | refine o_gs rfl rfl (fun hc => ?_) (fun hc => ?_) | refine g_cond rfl (fun hc => ?_) (fun hc => ?_)) <;> (try simp only [dcB] at hc) <;> (try first | contradiction | (exfalso; omega)))
      repeat refine cr ?_
      refine ends_id ?_
      refine endK [?_] (h2 := ?_) (h3 := ?_) (nd := ?_)
      rotate_left 1
      all_goals (repeat' first | exact ce0 | refine ce ?_ | refine ce2 ?_ ?_ | (refine Or.inr (bx_eq rfl rfl ?_); (try dsimp only [C.ren, C.ren.all]); (try exact rfl)) | exact SVLe.refl | refine ceb ?_)
      all_goals first | exact (show nodupB _ = true from rfl) | exact Or.inr rfl | (rfl)
end Go.Proofs.YtcmdfohamphndaaGreatDoor
end
section
set_option linter.unusedVariables false
set_option linter.unusedSimpArgs false
set_option maxRecDepth 100000
set_option maxHeartbeats 4000000
namespace Go.Proofs.YtcmdfohamphndaaGreatDoor
open Go Foot
theorem trimR_app (l : List Int) : ∃ z, l = trimR l ++ z ∧ ∀ x ∈ z, x = 0 := by
  unfold trimR
  refine ⟨(l.reverse.takeWhile (· == 0)).reverse, ?_, fun x hx => ?_⟩
  · rw [← List.reverse_append, List.takeWhile_append_dropWhile, List.reverse_reverse]
  · rw [List.mem_reverse] at hx
    have := List.all_takeWhile (p := (· == (0 : Int))) (l := l.reverse)
    rw [List.all_eq_true] at this
    simpa using this x hx
theorem symAt_trim (l : List Int) (k : Int) : symAt (trimR l) k = symAt l k := by
  obtain ⟨z, e, hz⟩ := trimR_app l
  have e2 : symAt l k = symAt (trimR l ++ z) k := by rw [← e]
  rw [e2]
  unfold symAt
  rw [List.getD_eq_getElem?_getD, List.getD_eq_getElem?_getD]
  by_cases hk : k.toNat < (trimR l).length
  · rw [List.getElem?_append_left hk]
  · rw [List.getElem?_append_right (by omega), List.getElem?_eq_none (by omega)]
    cases hq : z[k.toNat - (trimR l).length]? with
    | none => rfl
    | some v => rw [hz v (List.mem_of_getElem? hq)]; rfl
theorem symAt_c0 (x : Int) (l : List Int) : symAt (x :: l) 0 = x := by unfold symAt; rfl
theorem symAt_cs (x : Int) (l : List Int) {k : Int} (h : 1 ≤ k) : symAt (x :: l) k = symAt l (k - 1) := by
  unfold symAt; rw [show k.toNat = (k - 1).toNat + 1 by omega]; rfl
theorem symAt_tl (l : List Int) {k : Int} (h : 0 ≤ k) : symAt l.tail k = symAt l (k + 1) := by
  cases l with
  | nil => unfold symAt; simp
  | cons x l => rw [symAt_cs x l (by omega), show k + 1 - 1 = k by omega]; rfl
theorem symAt_hd (l : List Int) : l.headD 0 = symAt l 0 := by unfold symAt; cases l <;> rfl
theorem win_right {u : Rule'} {c : Conf} (h : 0 < u.m) : wiC (stepS u c) = [symAt c.le 0, u.w, symAt c.ri 1, symAt c.ri 2, symAt c.ri 3] := by
  unfold wiC stepS
  rw [if_pos h]
  dsimp only
  rw [symAt_trim, symAt_trim, symAt_c0, symAt_cs _ _ (by omega), symAt_tl _ (by omega), symAt_tl _ (by omega), symAt_tl _ (by omega)]
  rfl
theorem win_left {u : Rule'} {c : Conf} (h : ¬ 0 < u.m) : wiC (stepS u c) = [symAt c.le 2, symAt c.le 1, symAt c.le 0, u.w, symAt c.ri 1] := by
  have e0 : symAt (trimR (c.le.headD 0 :: trimR (u.w :: c.ri.tail))) 0 = symAt c.le 0 := by rw [symAt_trim, symAt_c0, symAt_hd]
  have e1 : symAt (trimR (c.le.headD 0 :: trimR (u.w :: c.ri.tail))) 1 = u.w := by
    rw [symAt_trim, symAt_cs _ _ (by omega), symAt_trim]
    exact symAt_c0 _ _
  have e2 : symAt (trimR (c.le.headD 0 :: trimR (u.w :: c.ri.tail))) 2 = symAt c.ri 1 := by
    rw [symAt_trim, symAt_cs _ _ (by omega), symAt_trim, symAt_cs _ _ (by omega), symAt_tl _ (by omega)]
    rfl
  have e3 : symAt c.le.tail 1 = symAt c.le 2 := symAt_tl _ (by omega)
  have e4 : symAt c.le.tail 0 = symAt c.le 1 := symAt_tl _ (by omega)
  unfold wiC stepS
  rw [if_neg h]
  dsimp only
  rw [e0, e1, e2, e3, e4]
theorem bef_at {m : Mach} {x : Part} {i : Int} {u : Rule'} (hR : ruI m i = u) (hn : u ≠ noR) (hs : u.n = x.st) (hp : 0 ≤ x.pl - u.m) (hq : x.pl - u.m < x.ce.length) (hw : x.ce.getD (x.pl - u.m).toNat 0 = u.w) : befP m x i = some ⟨i / m.sy, x.pl - u.m, x.ce.set (x.pl - u.m).toNat (i % m.sy)⟩ := by
  unfold befP
  rw [hR, if_neg (by rintro (q | q); exact hn q; exact q hs), wid_m (by omega) (by omega)]
  dsimp only
  rw [if_neg (fun h => h hw)]
theorem idx_st {sy s h : Int} (h0 : 0 ≤ h) (h1 : h < sy) : (s * sy + h) / sy = s ∧ (s * sy + h) % sy = h := by
  have hz : sy ≠ 0 := by omega
  rw [Int.add_comm (s * sy) h]
  exact ⟨by rw [Int.add_mul_ediv_right _ _ hz, Int.ediv_eq_zero_of_lt h0 h1, Int.zero_add], by rw [Int.add_mul_emod_self_right, Int.emod_eq_of_lt h0 h1]⟩
/-- A configuration from which a step leads to another one matches a predecessor of that one's window. -/
theorem back_hit {m : Mach} {c : Conf} (hm : vMach m = true) (hc : vConf m c = true) (hn : ruAt m c ≠ noR) : ∃ y, befP m ⟨(stepS (ruAt m c) c).st, 2, wiC (stepS (ruAt m c) c)⟩ (c.st * m.sy + c.ri.headD 0) = some y ∧ mtP c y = true := by
  have hb := vMach_bd hm
  have hcb := vConf_bd hc
  have hh := headD_bd (sy := m.sy) (by omega) hcb.2.2
  have hi := idx_st (sy := m.sy) (s := c.st) (h := c.ri.headD 0) hh.1 (by omega)
  obtain ⟨k1, k2, k3⟩ := ruAt_ok hm hc hn
  have hR : ruI m (c.st * m.sy + c.ri.headD 0) = ruAt m c := by unfold ruI ruAt; rfl
  have mt : ∀ (p : Int) (l : List Int) (n : Nat), l.length = n → (∀ i, i < n → symP c ((i : Int) - p) = symAt l i) → mtP c ⟨c.st, p, l⟩ = true := by
    intro p l n hl h
    unfold mtP mtU
    rw [Bool.and_eq_true, decide_eq_true_eq]
    refine ⟨rfl, ?_⟩
    rw [List.all_eq_true]
    intro i hi
    have hi := List.mem_range.1 hi
    dsimp only at hi
    rw [decide_eq_true_eq]
    exact h i (by omega)
  rcases k2 with e | e
  · refine ⟨⟨c.st, 1, [symAt c.le 0, symAt c.ri 0, symAt c.ri 1, symAt c.ri 2, symAt c.ri 3]⟩, ?_, ?_⟩
    · rw [win_right (by omega), bef_at hR hn (stepS_n _ c).symm (by dsimp only; omega) (by simp; omega) (by dsimp only; rw [e]; rfl), hi.1, hi.2]
      dsimp only
      rw [e, symAt_hd]
      rfl
    · refine mt 1 _ 5 rfl fun i hi => ?_
      have e : i = 0 ∨ i = 1 ∨ i = 2 ∨ i = 3 ∨ i = 4 := by omega
      unfold symP
      rcases e with rfl | rfl | rfl | rfl | rfl
      · rw [if_neg (by omega)]; unfold symAt; rfl
      · rw [if_pos (by omega)]; unfold symAt; rfl
      · rw [if_pos (by omega)]; unfold symAt; rfl
      · rw [if_pos (by omega)]; unfold symAt; rfl
      · rw [if_pos (by omega)]; unfold symAt; rfl
  · refine ⟨⟨c.st, 3, [symAt c.le 2, symAt c.le 1, symAt c.le 0, symAt c.ri 0, symAt c.ri 1]⟩, ?_, ?_⟩
    · rw [win_left (by omega), bef_at hR hn (stepS_n _ c).symm (by dsimp only; omega) (by simp; omega) (by dsimp only; rw [e]; rfl), hi.1, hi.2]
      dsimp only
      rw [e, symAt_hd]
      rfl
    · refine mt 3 _ 5 rfl fun i hi => ?_
      have e : i = 0 ∨ i = 1 ∨ i = 2 ∨ i = 3 ∨ i = 4 := by omega
      unfold symP
      rcases e with rfl | rfl | rfl | rfl | rfl
      · rw [if_neg (by omega)]; unfold symAt; rfl
      · rw [if_neg (by omega)]; unfold symAt; rfl
      · rw [if_neg (by omega)]; unfold symAt; rfl
      · rw [if_pos (by omega)]; unfold symAt; rfl
      · rw [if_pos (by omega)]; unfold symAt; rfl
theorem bef_len {m : Mach} {x y : Part} {i : Int} (e : befP m x i = some y) : y.ce.length ≤ x.ce.length + 1 := by
  unfold befP at e
  split at e
  · cases e
  · split at e
    · cases e
    · simp only [Option.some.injEq] at e
      subst e
      dsimp only
      rw [List.length_set]
      unfold wid
      split
      · simp
      · split
        · simp
        · simp
/-- From a predecessor the rule of its index leads on. -/
theorem bef_fwd {m : Mach} {x y : Part} {i : Int} (hm : vMach m = true) (g : PtOk m y) (h0 : 0 ≤ i) (h : i < m.ru.length) (e : befP m x i = some y) : y.st * m.sy + y.ce.getD y.pl.toNat 0 = i ∧ ruI m i ≠ noR ∧ (ruI m i).n = x.st := by
  have hb := vMach_bd hm
  unfold befP at e
  split at e
  · cases e
  · rename_i hn
    split at e
    · cases e
    · rename_i hw
      simp only [Option.some.injEq] at e
      have ga := g.a
      rw [← e] at ga
      dsimp only at ga
      rw [List.length_set] at ga
      subst e
      dsimp only
      refine ⟨?_, fun q => hn (.inl q), Classical.byContradiction fun q => hn (.inr q)⟩
      rw [List.getD_eq_getElem?_getD, List.getElem?_set_self (by omega), Option.getD_some]
      have := Int.mul_ediv_add_emod i m.sy
      rw [Int.mul_comm] at this
      exact this
theorem prdF_mem {m : Mach} {x y : Part} : ∀ {n : Nat} {l : List Part} {i : Nat}, prdF m x n = some l → i < n → befP m x i = some y → y ∈ l
  | 0, l, i, _, hi, _ => by omega
  | n + 1, l, i, h, hi, hy => by
    rw [prdF] at h
    split at h
    · cases h
    · rename_i l0 h0
      by_cases e : i = n
      · subst e
        rw [hy] at h
        dsimp only at h
        split at h
        · cases h
        · cases h; simp
      · have ih := prdF_mem h0 (by omega) hy
        split at h
        · cases h; exact ih
        · split at h
          · cases h
          · cases h; exact List.mem_append_left _ ih
theorem prdF_of {m : Mach} {x y : Part} : ∀ {n : Nat} {l : List Part}, prdF m x n = some l → y ∈ l → ∃ i : Nat, i < n ∧ befP m x i = some y
  | 0, l, h, hy => by simp only [prdF, Option.some.injEq] at h; subst h; simp at hy
  | n + 1, l, h, hy => by
    rw [prdF] at h
    split at h
    · cases h
    · rename_i l0 h0
      split at h
      · cases h
        obtain ⟨i, h1, h2⟩ := prdF_of h0 hy
        exact ⟨i, by omega, h2⟩
      · rename_i z hz
        split at h
        · cases h
        · cases h
          rcases List.mem_append.1 hy with hy | hy
          · obtain ⟨i, h1, h2⟩ := prdF_of h0 hy
            exact ⟨i, by omega, h2⟩
          · rw [List.mem_singleton.1 hy]; exact ⟨n, by omega, hz⟩
theorem prdF_some {m : Mach} {x : Part} (hx : x.ce.length ≤ 50) : ∀ n, ∃ l, prdF m x n = some l
  | 0 => ⟨[], rfl⟩
  | n + 1 => by
    obtain ⟨l, hl⟩ := prdF_some hx n
    rw [prdF, hl]
    dsimp only
    cases hb : befP m x n with
    | none => exact ⟨l, rfl⟩
    | some y =>
      have := bef_len hb
      dsimp only
      rw [if_neg (by omega)]
      exact ⟨_, rfl⟩
/-- The predecessors of a short partial configuration. -/
theorem prds_some {m : Mach} {x : Part} (hx : x.ce.length ≤ 50) : ∃ l, prds m x = some l := by
  unfold prds; exact prdF_some hx _
theorem prds_mem {m : Mach} {x y : Part} {l : List Part} {i : Int} (h : prds m x = some l) (h0 : 0 ≤ i) (hi : i < m.ru.length) (hy : befP m x i = some y) : y ∈ l := by
  unfold prds at h
  exact prdF_mem (i := i.toNat) h (by omega) (by rw [show ((i.toNat : Nat) : Int) = i by omega]; exact hy)
theorem prds_of {m : Mach} {x y : Part} {l : List Part} (h : prds m x = some l) (hy : y ∈ l) : ∃ i : Int, 0 ≤ i ∧ i < m.ru.length ∧ befP m x i = some y := by
  unfold prds at h
  obtain ⟨i, h1, h2⟩ := prdF_of h hy
  exact ⟨i, by omega, by omega, h2⟩
theorem prds_ok {m : Mach} {x y : Part} {l : List Part} (hm : vMach m = true) (g : PtOk m x) (h : prds m x = some l) (hy : y ∈ l) : PtOk m y := by
  unfold prds at h
  exact prdF_ok hm g (Nat.le_refl _) h y hy
end Go.Proofs.YtcmdfohamphndaaGreatDoor
end
