/- Parts of the proof (15 of 23). -/
import Derived.Lib.AppendIntMem
import Derived.Test.YtcmdfohamphndaaGreatDoorQ14
section
set_option linter.unusedVariables false
set_option linter.unusedSimpArgs false
set_option maxRecDepth 100000
namespace Go.Proofs.YtcmdfohamphndaaGreatDoor
open Go Foot Go.Shelf Go.RowKit
abbrev c32 (n : Int) : C := .d (.sc (.int .i32 n))
abbrev nlC : C := .d (.sc .nilIface)
abbrev bldr (l : Bs) : GB := .bld 263 5 l
theorem cells_byt (l : Bs) (n : Int) (h0 : 0 ≤ n) (h1 : n ≤ 127) : Lib.byteCells l ++ [.int .u8 n] = Lib.byteCells (l ++ byt [n]) := by
  unfold Lib.byteCells byt
  simp only [List.map_append, List.map_cons, List.map_nil]
  rw [UInt8.toNat_ofNat_of_lt' (by show n.toNat < 256; omega), show ((n.toNat : Nat) : Int) = n by omega]
theorem repA_1 {w : World} {S : Foot} {ρ : Env} {v : Value} {vs : List Value} (h : RepA w S ρ [.one (.d (.sc v))] vs) : vs = [v] := by
  simp only [RepA, RepS, RepC, Rep] at h
  obtain ⟨_, _, rfl, ⟨rfl, _⟩, rfl⟩ := h
  rfl
theorem repA_2 {w : World} {S : Foot} {ρ : Env} {v u : Value} {vs : List Value} (h : RepA w S ρ [.one (.d (.sc v)), .one (.d (.sc u))] vs) : vs = [v, u] := by
  simp only [RepA, RepS, RepC, Rep] at h
  obtain ⟨_, _, rfl, ⟨rfl, _⟩, _, _, rfl, ⟨rfl, _⟩, rfl⟩ := h
  rfl
/-- A function that reads tables, lays new blocks and hands a value back. -/
theorem does_ext {P : Program} {f : Nat} {ags : List SV} {av : List Value} {res : SV} {rv : Value} (ha : ∀ w S ρ vs, RepA w S ρ ags vs → vs = av) (hr : ∀ w S ρ, RepS w S ρ res rv)
    (hc : ∀ (w : World) (S : Foot), Tabs w S → Calls P f av.toArray w fun en w' => en = .returned rv ∧ Below w.heap.size w w') : Does P f ags [] res [] := by
  intro vs w S ρ F hA hG
  have := ha _ _ _ _ hA
  subst this
  refine (hc w S hG.tab).mono ?_
  rintro en w' ⟨rfl, hb⟩
  refine ⟨rv, no, ρ, F, rfl, ?_, hr _ _ _⟩
  refine ⟨⟨hb.os, hb.tape, hb.output, hb.size, fun k hk _ => hb.block k hk, fun k o hk _ => ?_⟩, no_le _, fun _ _ h => h.elim, by simp, fun i u _ h => h, hG.new, fun i gb hi => by simp at hi, fun i j hi => by simp at hi, fun i hi => by simp at hi, fun i hi => by simp at hi, fun i hi => by simp at hi⟩
  have e := hb.block k hk
  simp [World.cell?, World.frozen?, mapAt, e]
theorem byte_lt (b : UInt8) : ((b.toNat : Nat) : Int) < 256 := by have := b.toNat_lt; omega
/-- A new builder. -/
theorem a_allocB {P : Program} {g : Gh} {st : St} {dst : Option Tmp} {ty : TypeId} {pos : String} {after : Array Edge} {guard : Option (Nat × Bool)} {T e i : Nat} (hT : zeroC P T = some [.pointer none, .slice none 0 0]) : Acts P g ⟨dst, .alloc T, ty, pos, after, guard⟩ st (.one (.gv i)) [] [(i, .bld T e [])] := by
  refine ⟨fun a w S ρ F h hn K Q hK => ?_⟩
  have hn' : ρ i = none := by simpa using hn (i, .bld T e []) (by simp)
  clear hn
  unfold zeroC at hT
  split at hT
  case h_2 => cases hT
  rename_i inf hi
  split at hT
  case h_2 => cases hT
  rename_i zv hz
  cases hb : zv.cells.toList.all Value.oneCell' with
  | false => rw [hb] at hT; cases hT
  | true =>
    rw [hb] at hT
    simp only [cond_true, Option.some.injEq] at hT
    have hrun : (execOp a.eval ⟨dst, .alloc T, ty, pos, after, guard⟩).run P w = .ok (.value (.pointer (some ⟨w.heap.size, 0, none⟩))) (w.alloc (.cells zv.cells.toList.toArray T)) := by
      simp [execOp, Instr.alloc, zeroValue, typeInfo, hi, hz, run_newRow, go_sem]
    rw [hT] at hrun
    refine oper_in (fun _ h => nomatch h) ?_
    rw [hrun, Oper.uponIn_value]
    refine hK _ _ no _ _ (Done.new (S1 := no) (u := .pointer (some ⟨w.heap.size, 0, none⟩)) (G := fun b _ => b = w.heap.size) (keeps_alloc _) hn' (fun ρ' hl _ => ?_) (by rintro b o rfl; simp)) ⟨by simp, rfl⟩
    exact ⟨w.heap.size, rfl, .pointer none, .slice none 0 0, .inl rfl, by simp [heap_alloc], World.ownsRowF_nil _ _ _ _, by simp [Value.ownBlock], fun _ => rfl, fun g hg => by simp [Value.ownBlock] at hg⟩
section
variable {g : Gh} {st : St} {dst : Option Tmp} {ty : TypeId} {pos : String} {after : Array Edge} {guard : Option (Nat × Bool)} {i : Nat}
theorem a_newB : Acts Tryz.prog g ⟨dst, .alloc 263, ty, pos, after, guard⟩ st (.one (.gv i)) [] [(i, bldr [])] := a_allocB (by kernel_rfl)
end
end Go.Proofs.YtcmdfohamphndaaGreatDoor
end
section
set_option linter.unusedVariables false
set_option linter.unusedSimpArgs false
set_option maxRecDepth 100000
set_option maxHeartbeats 4000000
namespace Go.Proofs.YtcmdfohamphndaaGreatDoor
open Go Foot Go.Shelf Go.RowKit
theorem WriteRune_ok (l : Bs) (r : Int) (h0 : 0 ≤ r) (h1 : r ≤ 127) (h : (l.length : Int) + 1 ≤ 140737488355328) : Does Tryz.prog 227 [.one (.gv 0), .one (c32 r)] [bldr l] (.tup [(false, [int 1]), (false, [nlC])]) [bldr (l ++ byt [r])] :=
  does_bld (av := [.int .i32 r]) (rv := .tuple #[.int .i64 1, .nilIface]) (fun w S ρ vs => repA_1) (fun w S ρ => ⟨_, rfl, _, _, rfl, ⟨_, _, rfl, ⟨rfl, rfl⟩, rfl⟩, _, _, rfl, ⟨_, _, rfl, ⟨rfl, rfl⟩, rfl⟩, rfl⟩) fun w b p v hB => by
    have := bs_WriteRune hB h0 h1 (by rw [Lib.byteCells_length]; omega)
    rw [cells_byt l r h0 h1] at this
    exact this
theorem String_ok (l : Bs) : Does Tryz.prog 228 [.one (.gv 0)] [bldr l] (.one (str l)) [bldr l] :=
  does_bld (av := []) (rv := sv l) (fun w S ρ vs h => h) (fun w S ρ => ⟨rfl, rfl⟩) fun w b p v hB => bl_String Tryz.lays169 Tryz.Builder_Extra_169 hB
theorem FormatInt_ok (n : Int) (h0 : -9223372036854775808 ≤ n) (h1 : n ≤ 9223372036854775807) : Does Tryz.prog 224 [.one (int n), .one (int 10)] [] (.one (str (Lib.itoa n))) [] :=
  does_ext (av := [.int .i64 n, .int .i64 10]) (rv := sv (Lib.itoa n)) (fun w S ρ vs => repA_2) (fun w S ρ => ⟨rfl, rfl⟩) fun w S hT => by
    obtain ⟨⟨T, fr, ht⟩, _⟩ := hT _ (List.mem_singleton.2 rfl)
    refine (Any.strconv_FormatInt_10 Tryz.laysM173 n h0 h1 w ?_).mono ?_
    · dsimp only at ht
      exact Option.bind_eq_some_iff.2 ⟨_, by kernel_rfl, by rw [ht]; simp [Lib.pow10Tab]⟩
    · rintro en w' ⟨rfl, k, os, rfl⟩
      exact ⟨rfl, Lib.below_grow _ w (Nat.le_refl _) k os⟩
end Go.Proofs.YtcmdfohamphndaaGreatDoor
end
section
set_option linter.unusedVariables false
set_option linter.unusedSimpArgs false
set_option maxRecDepth 100000
set_option maxHeartbeats 4000000
namespace Go.Proofs.YtcmdfohamphndaaGreatDoor
open Go Foot
/-- Digits, the last one first. -/
def drev (u : Nat) : List Int := if h : u = 0 then [] else (48 + (u % 10 : Nat) : Int) :: drev (u / 10)
termination_by u
decreasing_by omega
theorem drev_0 : drev 0 = [] := by rw [drev]; simp
theorem drev_s {u : Nat} (h : u ≠ 0) : drev u = (48 + (u % 10 : Nat) : Int) :: drev (u / 10) := by rw [drev]; simp [h]
theorem drev_le : ∀ (k u : Nat), u < 10 ^ k → (drev u).length ≤ k := by
  intro k
  induction k with
  | zero =>
    intro u h
    have : u = 0 := by simpa using h
    subst this
    simp [drev_0]
  | succ k ih =>
    intro u h
    by_cases h0 : u = 0
    · subst h0; simp [drev_0]
    · rw [drev_s h0, List.length_cons]
      have := ih (u / 10) (by rw [Nat.pow_succ] at h; omega)
      omega
theorem byt_app (a b : List Int) : byt (a ++ b) = byt a ++ byt b := by unfold byt; simp
theorem byt_len (a : List Int) : (byt a).length = a.length := by unfold byt; simp
theorem byt_1 (n : Int) : byt [n] = [UInt8.ofNat n.toNat] := by unfold byt; rfl
theorem byt_0 : byt [] = [] := by unfold byt; rfl
theorem drev_dec : ∀ (u : Nat), u ≠ 0 → byt (drev u).reverse = Lib.decDigits u := by
  intro u
  induction u using Nat.strongRecOn with
  | _ u ih =>
    intro h0
    rw [drev_s h0, List.reverse_cons, byt_app, byt_1, Lib.decDigits]
    by_cases h : u < 10
    · rw [dif_pos h, show u / 10 = 0 by omega, drev_0]
      simp only [List.reverse_nil, byt_0, List.nil_append]
      congr 2
      omega
    · rw [dif_neg h, ih (u / 10) (by omega) (by omega)]
      rfl
/-- The text of a number. -/
@[irreducible] def decT (n : Int) : Bs := Lib.itoa n
theorem decT_0 : decT 0 = [48] := by unfold decT Lib.itoa; simp [Lib.decDigits]
theorem decT_n {n : Int} (h : n ≠ 0) : decT n = byt ((drev n.natAbs ++ (if n < 0 then [45] else [])).reverse) := by
  unfold decT Lib.itoa
  split
  · rw [List.reverse_append, byt_app, drev_dec _ (by omega)]; simp [byt_1]
  · rw [List.append_nil, drev_dec _ (by omega), show n.natAbs = n.toNat by omega]
theorem decT_le {n : Int} (h0 : -9223372036854775808 ≤ n) (h1 : n ≤ 9223372036854775807) : (decT n).length ≤ 21 := by
  by_cases h : n = 0
  · subst h; rw [decT_0]; decide
  · rw [decT_n h, byt_len, List.length_reverse, List.length_append]
    have h2 := drev_le 20 n.natAbs (by omega)
    split <;> simp only [List.length_cons, List.length_nil] <;> omega
/-- The text of a word. -/
@[irreducible] def digT (w : List Int) : Bs := byt (w.map fun x => 48 + x)
theorem digT_snoc (w : List Int) (i : Int) (h0 : 0 ≤ i) (h : i < w.length) : digT (w.take i.toNat) ++ byt [48 + w[i.toNat]'(by omega)] = digT (w.take (i + 1).toNat) := by
  unfold digT
  rw [show (i + 1).toNat = i.toNat + 1 by omega, List.take_succ_eq_append_getElem (by omega), List.map_append, byt_app]
  rfl
theorem digT_len (w : List Int) : (digT w).length = w.length := by unfold digT; rw [byt_len, List.length_map]
theorem preB49 {p : Prop} (h : p := by first | with_reducible assumption | omega | (simp only [List.length_append, List.length_cons, List.length_nil, List.length_set, List.length_replicate, List.length_take, List.length_drop, List.length_tail, List.length_dropLast, List.length_reverse] at *; omega) | exact mem_len (by assumption) (by omega) | (with_reducible refine Int.le_trans (Int.ofNat_le.2 (trimR_len _)) ?_; simp only [List.length_cons, List.length_tail]; omega) | (exact (ruAt_ok (by assumption) (by assumption) (by assumption)).2.1) | (exact (ruAt_ok (by assumption) (by assumption) (by assumption)).2.1) | (have := vMach_bd (by assumption); omega) | (simp only [mC_ch, mC_tu]; omega) | (have := vTag_bd (by assumption); omega) | (have := (‹Gd _ _›).le; omega) | (exact tgHalts_no (by assumption)) | (exact tgHead (by assumption) (by assumption) (by assumption)) | (exact Int.le_trans (tgStep_gd (by assumption) (by assumption) (by assumption) (by assumption)).le (by decide)) | (exact vTag_r (by assumption)) | (with_reducible refine Int.le_trans (Int.ofNat_le.2 (pushL_len _ _)) ?_; simp only [List.length_dropLast]; omega) | exact (ask_ok (by assumption)).1 | exact (ask_ok (by assumption)).2.1 | exact (ask_ok (by assumption)).2.2.1 | exact (ask_ok (by assumption)).2.2.2 | trivial) : p := h
theorem digitsText_ok (u : List Int) (hx : (u.length : Int) ≤ 1048576) (hd : ∀ x ∈ u, 0 ≤ x ∧ x ≤ 9) : Does Tryz.prog 192 [.one (shI u)] [] (.one (str (digT u))) [] := by
  have hg : ∀ (i : Nat) (h : i < u.length), 0 ≤ u[i] ∧ u[i] ≤ 9 := fun i h => hd _ (List.getElem_mem h)
  refine does_of (k := 0) Tryz.func192 rfl Tryz.ntmps192 rfl rfl fun w F0 S0 ρ0 => ?_
  dsimp only [argT, argH]
  repeat' first | (apply n3; exact a_newB; exact rfl; refine dA ?_) | (apply p3; (first | exact pu1 | exact puL | exact puN | exact a_len_str rfl (fT rfl) | exact puC | exact a_to32 rfl Tryz.underlying2 Tryz.underlying21 (by omega) (by omega) | exact a_add32 rfl rfl (by omega) (by omega) | exact a_add rfl rfl (by omega) (by omega) | exact puI); exact rfl) | refine cd ?_ | (apply c4 0; exact callK1 (θ := [_]) (hD := (WriteRune_ok _ _ preB49 preB49 preB49)); exact rfl; exact rfl; exact rfl; refine dM ?_) | (apply c4 0; exact callK1 (θ := [_]) (hD := (String_ok _)); exact rfl; exact rfl; exact rfl; refine dM ?_) | ((first | refine o_gs rfl rfl (fun hc => ?_) (fun hc => ?_) | refine g_cond rfl (fun hc => ?_) (fun hc => ?_)) <;> (try simp only [dcB] at hc) <;> (try first | contradiction | (exfalso; omega)))
  refine g_loop_id ?_
  refine loopK [2, 3, 6, 7] [0] (fun x : Int × Bs => 0 ≤ x.1 ∧ x.1 ≤ u.length ∧ x.2 = digT (u.take x.1.toNat)) (fun x => [(8, .one (int x.1))]) (fun x => [(0, bldr x.2)]) (fun x => (u.length - x.1).toNat) ((0 : Int), []) [0] (hI := ?_) (hr := ?_)
  · exact ⟨by simp, by simp, by simp [digT, byt]⟩
  · rintro ⟨i, out⟩ ⟨j0, j1, j2⟩
    dsimp only [List.cons_append, List.nil_append] at *
    skip
    have jl : (out.length : Int) ≤ 1048576 := by rw [j2, digT_len, List.length_take]; omega
    repeat' first | (apply p3; (first | exact pu1 | exact puL | exact puC | exact puI); exact rfl) | refine cdn ?_ | refine g_reg (id := 3) ?_ | refine g_reg (id := 4) ?_ | refine g_reg (id := 7) ?_ | (apply c4 0; exact callK1 (θ := [_]) (hD := (String_ok _)); exact rfl; exact rfl; exact rfl; refine dM ?_) | ((first | refine o_gs rfl rfl (fun hc => ?_) (fun hc => ?_) | refine g_cond rfl (fun hc => ?_) (fun hc => ?_)) <;> (try simp only [dcB] at hc) <;> (try first | contradiction | (exfalso; omega)))
    · have := hg i.toNat (by omega)
      repeat' first | (apply p3; (first | exact pu1 | exact puL | exact puC | exact a_to32 rfl Tryz.underlying2 Tryz.underlying21 (by omega) (by omega) | exact a_add32 rfl rfl (by omega) (by omega) | exact a_add rfl rfl (by omega) (by omega) | exact puI); exact rfl) | refine cd ?_ | (apply c4 0; exact callK1 (θ := [_]) (hD := (WriteRune_ok _ _ preB49 preB49 preB49)); exact rfl; exact rfl; exact rfl; refine dM ?_) | (apply c4 0; exact callK1 (θ := [_]) (hD := (String_ok _)); exact rfl; exact rfl; exact rfl; refine dM ?_) | ((first | refine o_gs rfl rfl (fun hc => ?_) (fun hc => ?_) | refine g_cond rfl (fun hc => ?_) (fun hc => ?_)) <;> (try simp only [dcB] at hc) <;> (try first | contradiction | (exfalso; omega)))
      refine q_again (i + 1, _) [0] (by exact stk) ?_ ?_
      · dsimp only
        refine ⟨by omega, by omega, ?_⟩
        rw [j2, ← digT_snoc u i j0 hc]
      · dsimp only; omega
    · have e2 : out = digT u := by rw [j2, List.take_of_length_le (by omega)]
      rw [e2]
      repeat' first | (apply p3; (first | exact pu1 | exact puL | exact puC | exact a_to32 rfl Tryz.underlying2 Tryz.underlying21 (by omega) (by omega) | exact a_add32 rfl rfl (by omega) (by omega) | exact a_add rfl rfl (by omega) (by omega) | exact puI); exact rfl) | refine cd ?_ | (apply c4 0; exact callK1 (θ := [_]) (hD := (WriteRune_ok _ _ preB49 preB49 preB49)); exact rfl; exact rfl; exact rfl; refine dM ?_) | (apply c4 0; exact callK1 (θ := [_]) (hD := (String_ok _)); exact rfl; exact rfl; exact rfl; refine dM ?_) | ((first | refine o_gs rfl rfl (fun hc => ?_) (fun hc => ?_) | refine g_cond rfl (fun hc => ?_) (fun hc => ?_)) <;> (try simp only [dcB] at hc) <;> (try first | contradiction | (exfalso; omega)))
      repeat refine cr ?_
      refine ends_id ?_
      refine endK [] (h2 := ?_) (h3 := ?_) (nd := ?_)
      all_goals (repeat' first | exact ce0 | refine ce ?_ | refine ce2 ?_ ?_ | exact SVLe.refl | refine ceb ?_)
      all_goals first | exact (show nodupB _ = true from rfl) | exact Or.inr rfl | (rfl)
theorem Decimal_ok (n : Int) (h0 : -9223372036854775807 ≤ n) (h1 : n ≤ 9223372036854775807) : Does Tryz.prog 189 [.one (int n)] [] (.one (str (decT n))) [] := by
  have e : decT n = Lib.itoa n := by unfold decT; rfl
  rw [e]
  refine does_of (k := 0) Tryz.func189 rfl Tryz.ntmps189 rfl rfl fun w F0 S0 ρ0 => ?_
  dsimp only [argT, argH]
  repeat' first | (apply p3; exact pu1; exact rfl) | refine cd ?_ | (apply c4 0; exact callK1 (θ := []) (hD := (FormatInt_ok _ preB49 preB49)); exact rfl; exact rfl; exact rfl; refine dM ?_) | ((first | refine o_gs rfl rfl (fun hc => ?_) (fun hc => ?_) | refine g_cond rfl (fun hc => ?_) (fun hc => ?_)) <;> (try simp only [dcB] at hc) <;> (try first | contradiction | (exfalso; omega)))
  repeat refine cr ?_
  refine ends_id ?_
  refine endK [] (h2 := ?_) (h3 := ?_) (nd := ?_)
  all_goals (repeat' first | exact ce0 | refine ce ?_ | refine ce2 ?_ ?_ | exact SVLe.refl | refine ceb ?_)
  all_goals first | exact (show nodupB _ = true from rfl) | exact Or.inr rfl | (rfl)
end Go.Proofs.YtcmdfohamphndaaGreatDoor
end
section
set_option linter.unusedVariables false
set_option linter.unusedSimpArgs false
set_option maxRecDepth 100000
set_option maxHeartbeats 4000000
namespace Go.Proofs.YtcmdfohamphndaaGreatDoor
open Go Foot
end Go.Proofs.YtcmdfohamphndaaGreatDoor
end
section
set_option linter.unusedVariables false
set_option linter.unusedSimpArgs false
set_option maxRecDepth 100000
set_option maxHeartbeats 4000000
namespace Go.Proofs.YtcmdfohamphndaaGreatDoor
open Go Foot
/-- Rules of machines. -/
structure Rule' where
  w : Int
  m : Int
  n : Int
  deriving DecidableEq
abbrev eR : Enc Rule' := ⟨3, fun r => [.sc (.int .i64 r.w), .sc (.int .i64 r.m), .sc (.int .i64 r.n)], fun _ => rfl, by decide⟩
abbrev shR (l : List Rule') : C := .d (.sl false 3 (rows eR l))
abbrev ruC (r : Rule') : List C := [int r.w, int r.m, int r.n]
structure Mach where
  sy : Int
  st : Int
  ru : List Rule'
abbrev maC (m : Mach) : List C := [int m.sy, int m.st, shR m.ru]
structure Conf where
  st : Int
  le : List Int
  ri : List Int
abbrev coC (c : Conf) : List C := [int c.st, shI c.le, shI c.ri]
end Go.Proofs.YtcmdfohamphndaaGreatDoor
end
section
set_option linter.unusedVariables false
set_option linter.unusedSimpArgs false
set_option maxRecDepth 100000
set_option maxHeartbeats 4000000
namespace Go.Proofs.YtcmdfohamphndaaGreatDoor
open Go Foot
theorem rule_eq1 : Tryz.prog.stoodInHeld 120 = false := by kernel_rfl
theorem rule_eq2 : Tryz.prog.eqGuardType Tryz.prog.depth 120 = false := by kernel_rfl
theorem rule_eq3 : Tryz.prog.underlying 120 = some (.struct (Tryz.prog.fieldsOf 120)) := by kernel_rfl
theorem rule_equal (r s : Rule') (W : World) : (Op.equalIn 10000 120 (.agg #[.int .i64 r.w, .int .i64 r.m, .int .i64 r.n]) (.agg #[.int .i64 s.w, .int .i64 s.m, .int .i64 s.n])).run Tryz.prog W = .ok (decide (r = s)) W := by
  obtain ⟨a, b, c⟩ := r
  obtain ⟨a', b', c'⟩ := s
  rw [run_equalIn_struct W 9999 _ _ _ rule_eq3 rule_eq1]
  have hf : Tryz.prog.fieldsOf 120 = match Tryz.prog.underlying 120 with | some (.struct fs) => fs | _ => #[] := by kernel_rfl
  rw [hf, Tryz.underlying120]
  by_cases h1 : a = a' <;> by_cases h2 : b = b' <;> by_cases h3 : c = c' <;> simp [go_sem, Tryz.underlying2, h1, h2, h3]
theorem rule_guard (op : BinOp) (p q : Operand) (xs ys : Array Value) (W : World) : (eqGuard op 120 p q (.agg xs) (.agg ys)).run Tryz.prog W = .ok () W := by
  unfold eqGuard
  cases op <;> simp [program, Sem.run, rule_eq2]
section
variable {g : Gh} {st : St} {dst : Option Tmp} {ty : TypeId} {pos : String} {after : Array Edge} {guard : Option (Nat × Bool)} {x y : Operand} {U : TypeId} {r s : Rule'}
theorem agg3 {w : World} {S : Foot} {ρ : Env} {r : Rule'} {v : Value} (h : RepS w S ρ (.agg (ruC r)) v) : v = .agg #[.int .i64 r.w, .int .i64 r.m, .int .i64 r.n] := by
  obtain ⟨vs, rfl, h⟩ := h
  simp only [RepCs, RepC, Rep] at h
  obtain ⟨v1, u1, e1, ⟨rfl, _⟩, v2, u2, rfl, ⟨rfl, _⟩, v3, u3, rfl, ⟨rfl, _⟩, rfl⟩ := h
  cases vs
  simp at e1
  rw [e1]
theorem a_eqRule (e1 : opd st x = .agg (ruC r)) (e2 : opd st y = .agg (ruC s)) : Acts Tryz.prog g ⟨dst, .binOp .eql 120 x y U, ty, pos, after, guard⟩ st (.one (boo (decide (r = s)))) [] [] := by
  refine acts_of fun a w S ρ F h => ⟨.bool (decide (r = s)), ?_, rfl, rfl⟩
  have h1 := h.opd x
  have h2 := h.opd y
  rw [e1] at h1
  rw [e2] at h2
  show (do pure (.value (← (do eqGuard .eql 120 x y (a.eval x) (a.eval y); binOp .eql 120 (a.eval x) (a.eval y)))) : Sem Next).run _ w = _
  rw [agg3 h1, agg3 h2]
  simp [rule_guard, run_eql_struct, rule_equal]
theorem a_neRule (e1 : opd st x = .agg (ruC r)) (e2 : opd st y = .agg (ruC s)) : Acts Tryz.prog g ⟨dst, .binOp .neq 120 x y U, ty, pos, after, guard⟩ st (.one (boo (!decide (r = s)))) [] [] := by
  refine acts_of fun a w S ρ F h => ⟨.bool (!decide (r = s)), ?_, rfl, rfl⟩
  have h1 := h.opd x
  have h2 := h.opd y
  rw [e1] at h1
  rw [e2] at h2
  show (do pure (.value (← (do eqGuard .neq 120 x y (a.eval x) (a.eval y); binOp .neq 120 (a.eval x) (a.eval y)))) : Sem Next).run _ w = _
  rw [agg3 h1, agg3 h2]
  simp [rule_guard, run_neq_struct, rule_equal]
end
/-- A list without blanks at its end. -/
@[irreducible] def trimR (l : List Int) : List Int := (l.reverse.dropWhile (· == 0)).reverse
theorem trimR_nil : trimR [] = [] := by unfold trimR; rfl
theorem trimR_len (l : List Int) : (trimR l).length ≤ l.length := by
  unfold trimR
  rw [List.length_reverse]
  have := (List.dropWhile_sublist (· == (0 : Int)) (l := l.reverse)).length_le
  rwa [List.length_reverse] at this
theorem trimR_take (xs : List Int) (n : Nat) (hn : n < xs.length) (h0 : xs[n] = 0) : trimR (xs.take (n + 1)) = trimR (xs.take n) := by
  unfold trimR
  rw [List.take_succ_eq_append_getElem hn, List.reverse_append, List.reverse_singleton, h0]
  simp
theorem trimR_stop (xs : List Int) (n : Nat) (hn : n < xs.length) (h0 : xs[n] ≠ 0) : trimR (xs.take (n + 1)) = xs.take (n + 1) := by
  unfold trimR
  rw [List.take_succ_eq_append_getElem hn, List.reverse_append, List.reverse_singleton]
  simp [h0]
theorem preB1 {p : Prop} (h : p := by first | with_reducible assumption | omega | (simp only [List.length_append, List.length_cons, List.length_nil, List.length_set, List.length_replicate, List.length_take, List.length_drop, List.length_tail, List.length_dropLast, List.length_reverse] at *; omega) | exact mem_len (by assumption) (by omega) | (with_reducible refine Int.le_trans (Int.ofNat_le.2 (trimR_len _)) ?_; simp only [List.length_cons, List.length_tail]; omega) | trivial) : p := h
theorem l05None_ok : Does Tryz.prog 161 [] [] (.agg [int 0, int 0, int (-1)]) [] := by
  refine does_of (k := 0) Tryz.func161 rfl Tryz.ntmps161 rfl rfl fun w F0 S0 ρ0 => ?_
  dsimp only [argT, argH]
  repeat' first | (apply n3; exact a_new (gb := .bx _) rfl; exact rfl; refine dA ?_) | (apply p3; exact a_pure (sv := .agg _) rfl; exact rfl) | refine cd ?_ | (apply w3; (first | exact a_st_bx rfl rfl rfl rfl (fN rfl rfl) (Nat.le_of_ble_eq_true rfl) rfl | exact a_stE (E := eR) ⟨_, _, _⟩ rfl rfl rfl rfl (fN rfl rfl) bnd (by exact rfl)); exact rfl; refine dS ?_) | ((first | refine o_gs rfl rfl (fun hc => ?_) (fun hc => ?_) | refine g_cond rfl (fun hc => ?_) (fun hc => ?_)) <;> (try simp only [dcB] at hc) <;> (try first | contradiction | (exfalso; omega)))
  repeat refine cr ?_
  refine ends_id ?_
  refine endK [] (h2 := ?_) (h3 := ?_) (nd := ?_)
  all_goals (repeat' first | exact ce0 | refine ce ?_ | refine ce2 ?_ ?_ | exact SVLe.refl | refine ceb ?_)
  all_goals first | exact (show nodupB _ = true from rfl) | exact Or.inr rfl | (rfl)
theorem l05Head_ok (c : Conf) (hc : (c.ri.length : Int) ≤ 16777216) : Does Tryz.prog 207 [.one (.d (.bx false [.sc (.int .i64 c.st), .sl false 1 (rows eI c.le), .sl false 1 (rows eI c.ri)]))] [] (.one (int (c.ri.headD 0))) [] := by
  refine does_of (k := 0) Tryz.func207 rfl Tryz.ntmps207 rfl rfl fun w F0 S0 ρ0 => ?_
  dsimp only [argT, argH]
  repeat' first | (apply p3; (first | exact pu1 | exact puL | exact puN | exact a_len_str rfl (fT rfl) | exact puC | exact a_eqS rfl rfl rfl | exact puI); exact rfl) | refine cd ?_ | ((first | refine o_gs rfl rfl (fun hc => ?_) (fun hc => ?_) | refine g_cond rfl (fun hc => ?_) (fun hc => ?_)) <;> (try simp only [dcB] at hc) <;> (try first | contradiction | (exfalso; omega)))
  · repeat refine cr ?_
    refine ends_id ?_
    refine endK [] (h2 := ?_) (h3 := ?_) (nd := ?_)
    all_goals (repeat' first | exact ce0 | refine ce ?_ | refine ce2 ?_ ?_ | exact SVLe.refl | refine ceb ?_)
    all_goals first | exact (show nodupB _ = true from rfl) | exact Or.inr rfl | ((cases h : c.ri <;> (try rw [h] at hc) <;> simp_all <;> omega))
  · repeat refine cr ?_
    refine ends_id ?_
    refine endK [] (h2 := ?_) (h3 := ?_) (nd := ?_)
    all_goals (repeat' first | exact ce0 | refine ce ?_ | refine ce2 ?_ ?_ | exact SVLe.refl | refine ceb ?_)
    all_goals first | exact (show nodupB _ = true from rfl) | exact Or.inr rfl | (exact get0_headD _)
theorem l05Rest_ok (xs : List Int) (hx : (xs.length : Int) ≤ 16777216) : Does Tryz.prog 220 [.one (shI xs)] [] (.one (.gv 0)) [.row 1 (rows eI xs.tail)] := by
  refine does_of (k := 0) Tryz.func220 rfl Tryz.ntmps220 rfl rfl fun w F0 S0 ρ0 => ?_
  dsimp only [argT, argH]
  repeat' first | (apply n3; exact a_nilO eI rfl; exact rfl) | (apply n3; exact a_litE eI [] rfl rfl rfl rfl rfl rfl rfl rfl; exact rfl; refine dA ?_) | (apply p3; (first | exact pu1 | exact puN | exact a_len_str rfl (fT rfl) | exact puC | exact a_eqS rfl rfl rfl | exact a_slT rfl rfl rfl (fS rfl) (by omega) (by omega) (by exact rfl)); exact rfl) | refine cd ?_ | (apply s3; exact a_slTO rfl rfl rfl (fS rfl) (by omega) (by omega) (by exact rfl) (by decide); exact rfl; exact rfl) | (apply c4 1; exact callK1 (θ := []) (hD := (l00Own_ok _ preB1)); exact rfl; exact rfl; exact rfl; refine dM ?_) | ((first | refine o_gs rfl rfl (fun hc => ?_) (fun hc => ?_) | refine g_cond rfl (fun hc => ?_) (fun hc => ?_)) <;> (try simp only [dcB] at hc) <;> (try first | contradiction | (exfalso; omega)))
  all_goals
    repeat refine cr ?_
    refine ends_id ?_
    refine endK [?_] (h2 := ?_) (h3 := ?_) (nd := ?_)
    rotate_left 1
    all_goals (repeat' first | exact ce0 | refine ce ?_ | refine ce2 ?_ ?_ | (refine Or.inr (bx_eq rfl rfl ?_); (try dsimp only [C.ren, C.ren.all]); (try exact rfl)) | exact SVLe.refl | refine ceb ?_)
    all_goals first | exact (show nodupB _ = true from rfl) | exact Or.inr rfl | ((cases xs <;> simp_all <;> omega))
theorem l05Trim_ok (xs : List Int) (hx : (xs.length : Int) ≤ 16777216) : Does Tryz.prog 121 [.one (shI xs)] [] (.one (.gv 0)) [.row 1 (rows eI (trimR xs))] := by
  refine does_of (k := 0) Tryz.func121 rfl Tryz.ntmps121 rfl rfl fun w F0 S0 ρ0 => ?_
  dsimp only [argT, argH]
  repeat' first | (apply n3; exact a_nilO eI rfl; exact rfl) | (apply p3; (first | exact pu1 | exact puL | exact puN | exact a_len_str rfl (fT rfl) | exact puC | exact a_sub rfl rfl (by omega) (by omega) | exact a_eqS rfl rfl rfl | exact a_sl0 rfl rfl (fS rfl) | exact a_slH rfl rfl rfl (fS rfl) (by omega) (by omega) (by exact rfl) | exact puI); exact rfl) | refine cd ?_ | (apply s3; exact a_slHO rfl rfl rfl (fS rfl) (by omega) (by omega) (by exact rfl) (by decide); exact rfl; exact rfl) | (apply c4 1; exact callK1 (θ := []) (hD := (l00Own_ok _ preB1)); exact rfl; exact rfl; exact rfl; refine dM ?_) | refine o_no rfl rfl rfl rfl ?_ | refine o_noN rfl rfl rfl ?_ | (apply py3; exact rfl; exact rfl; (first | exact pu1 | exact puL | exact puN | exact a_len_str rfl (fT rfl) | exact puC | exact a_sub rfl rfl (by omega) (by omega) | exact a_eqS rfl rfl rfl | exact a_sl0 rfl rfl (fS rfl) | exact a_slH rfl rfl rfl (fS rfl) (by omega) (by omega) (by exact rfl) | exact puI); exact rfl; exact rfl) | (apply ny3; exact rfl; exact rfl; exact a_nilO eI rfl; exact rfl; exact rfl) | (apply cy4 1; exact rfl; exact rfl; exact callK1 (θ := []) (hD := (l00Own_ok _ preB1)); exact rfl; exact rfl; exact rfl; exact rfl; refine dM ?_) | ((first | refine o_gs rfl rfl (fun hc => ?_) (fun hc => ?_) | refine g_cond rfl (fun hc => ?_) (fun hc => ?_)) <;> (try simp only [dcB] at hc) <;> (try first | contradiction | (exfalso; omega)))
  refine g_loop_id ?_
  refine loopK [0] [] (fun n : Int => 0 ≤ n ∧ n ≤ xs.length ∧ trimR (xs.take n.toNat) = trimR xs) (fun n => [(3, .one (int n))]) (fun _ => []) (fun n => n.toNat) (xs.length : Int) [0] (hI := ?_) (hr := ?_)
  · exact ⟨by omega, by omega, by simp⟩
  · rintro n ⟨h0, h1, h2⟩
    dsimp only [List.cons_append, List.nil_append]
    repeat' first | (apply n3; exact a_nilO eI rfl; exact rfl) | (apply p3; (first | exact pu1 | exact puL | exact puN | exact a_len_str rfl (fT rfl) | exact puC | exact a_sub rfl rfl (by omega) (by omega) | exact a_eqS rfl rfl rfl | exact a_sl0 rfl rfl (fS rfl) | exact a_slH rfl rfl rfl (fS rfl) (by omega) (by omega) (by exact rfl) | exact puI); exact rfl) | refine cd ?_ | (apply s3; exact a_slHO rfl rfl rfl (fS rfl) (by omega) (by omega) (by exact rfl) (by decide); exact rfl; exact rfl) | (apply c4 1; exact callK1 (θ := []) (hD := (l00Own_ok _ preB1)); exact rfl; exact rfl; exact rfl; refine dM ?_) | refine o_no rfl rfl rfl rfl ?_ | refine o_noN rfl rfl rfl ?_ | (apply py3; exact rfl; exact rfl; (first | exact pu1 | exact puL | exact puN | exact a_len_str rfl (fT rfl) | exact puC | exact a_sub rfl rfl (by omega) (by omega) | exact a_eqS rfl rfl rfl | exact a_sl0 rfl rfl (fS rfl) | exact a_slH rfl rfl rfl (fS rfl) (by omega) (by omega) (by exact rfl) | exact puI); exact rfl; exact rfl) | (apply ny3; exact rfl; exact rfl; exact a_nilO eI rfl; exact rfl; exact rfl) | (apply cy4 1; exact rfl; exact rfl; exact callK1 (θ := []) (hD := (l00Own_ok _ preB1)); exact rfl; exact rfl; exact rfl; exact rfl; refine dM ?_) | ((first | refine o_gs rfl rfl (fun hc => ?_) (fun hc => ?_) | refine g_cond rfl (fun hc => ?_) (fun hc => ?_)) <;> (try simp only [dcB] at hc) <;> (try first | contradiction | (exfalso; omega)))
    · refine q_again (n - 1) [0] (by exact stk) ?_ ?_
      · refine ⟨by omega, by omega, ?_⟩
        rw [← h2, show n.toNat = (n - 1).toNat + 1 by omega]
        exact (trimR_take _ _ (by omega) hc).symm
      · omega
    · repeat refine cr ?_
      refine ends_id ?_
      refine endK [?_] (h2 := ?_) (h3 := ?_) (nd := ?_)
      rotate_left 1
      all_goals (repeat' first | exact ce0 | refine ce ?_ | refine ce2 ?_ ?_ | (refine Or.inr (bx_eq rfl rfl ?_); (try dsimp only [C.ren, C.ren.all]); (try exact rfl)) | exact SVLe.refl | refine ceb ?_)
      all_goals first | exact (show nodupB _ = true from rfl) | exact Or.inr rfl | ((rw [← h2, show n.toNat = (n - 1).toNat + 1 by omega]; exact (trimR_stop _ _ (by omega) hc).symm))
    · repeat refine cr ?_
      refine ends_id ?_
      refine endK [?_] (h2 := ?_) (h3 := ?_) (nd := ?_)
      rotate_left 1
      all_goals (repeat' first | exact ce0 | refine ce ?_ | refine ce2 ?_ ?_ | (refine Or.inr (bx_eq rfl rfl ?_); (try dsimp only [C.ren, C.ren.all]); (try exact rfl)) | exact SVLe.refl | refine ceb ?_)
      all_goals first | exact (show nodupB _ = true from rfl) | exact Or.inr rfl | ((rw [← h2, show n.toNat = 0 by omega, List.take_zero, trimR_nil]))
theorem l05Push_ok (x : Int) (xs : List Int) (hx : (xs.length : Int) ≤ 16777210) : Does Tryz.prog 221 [.one (int x), .one (shI xs)] [] (.one (.gv 0)) [.row 1 (rows eI (trimR (x :: xs)))] := by
  refine does_of (k := 0) Tryz.func221 rfl Tryz.ntmps221 rfl rfl fun w F0 S0 ρ0 => ?_
  dsimp only [argT, argH]
  repeat' first | (apply n3; exact a_nilO eI rfl; exact rfl) | (apply n3; (first | exact a_litE eI [_] rfl rfl rfl rfl rfl rfl rfl rfl | exact a_appN (fP rfl) rfl rfl rfl nowR (by first | omega | (simp; omega)) (by decide) (by exact rfl)); exact rfl; refine dA ?_) | (apply p3; exact pu1; exact rfl) | refine cd ?_ | (apply s3; exact a_appE (fP rfl) rfl rfl rfl rfl nowR (by first | omega | (simp; omega)) (by decide) (by decide) (by exact rfl); exact rfl; exact rfl) | (apply c4 1; exact callK1 (θ := []) (hD := (l05Trim_ok _ preB1)); exact rfl; exact rfl; exact rfl; refine dM ?_) | ((first | refine o_gs rfl rfl (fun hc => ?_) (fun hc => ?_) | refine g_cond rfl (fun hc => ?_) (fun hc => ?_)) <;> (try simp only [dcB] at hc) <;> (try first | contradiction | (exfalso; omega)))
  repeat refine cr ?_
  refine ends_id ?_
  refine endK [?_] (h2 := ?_) (h3 := ?_) (nd := ?_)
  rotate_left 1
  all_goals (repeat' first | exact ce0 | refine ce ?_ | refine ce2 ?_ ?_ | (refine Or.inr (bx_eq rfl rfl ?_); (try dsimp only [C.ren, C.ren.all]); (try exact rfl)) | exact SVLe.refl | refine ceb ?_)
  all_goals first | exact (show nodupB _ = true from rfl) | exact Or.inr rfl | (rfl)
theorem l05At_ok (m : Mach) (c : Conf) (hc : (c.ri.length : Int) ≤ 16777216) (h1 : -9223372036854775808 ≤ c.st * m.sy) (h2 : c.st * m.sy < 9223372036854775808) (h3 : -9223372036854775808 ≤ c.st * m.sy + c.ri.headD 0) (h4 : c.st * m.sy + c.ri.headD 0 < 9223372036854775808) : Does Tryz.prog 160 [.one (.d (.bx false [.sc (.int .i64 m.sy), .sc (.int .i64 m.st), .sl false 3 (rows eR m.ru)])), .one (.d (.bx false [.sc (.int .i64 c.st), .sl false 1 (rows eI c.le), .sl false 1 (rows eI c.ri)]))] [] (.one (int (c.st * m.sy + c.ri.headD 0))) [] := by
  refine does_of (k := 0) Tryz.func160 rfl Tryz.ntmps160 rfl rfl fun w F0 S0 ρ0 => ?_
  dsimp only [argT, argH]
  repeat' first | (apply p3; exact a_pure (sv := .one _) rfl; exact rfl) | refine cd ?_ | (apply g_drN (id := 1) okM [[],[0],[0,1],[0,1,2],[],[4],[4,5],[4,5,6],[0,1,2,3,4,5,6,7],[],[9],[0,1,2,3,4,5,6,7,8,9,10],[0,1,2,3,4,5,6,7,8,9,10,11]] [([],[]),([],[]),([],[]),([],[]),([],[]),([],[]),([],[]),([],[]),([],[]),([],[]),([],[]),([],[]),([],[])] 0; (focus (refine dp 0 0 [9, 10, 11, 12, 14, 15] [] pu1 ?_; refine dp 1 1 [9, 10, 11, 12, 14, 15] [] (a_pure (sv := .one _) rfl) ?_; refine dp 2 3 [9, 10, 11, 12, 14, 15] [] (a_pure (sv := .one _) rfl) ?_; refine dp 3 7 [9, 10, 11, 12, 14, 15] [] puL ?_; refine dp 4 0 [5, 6, 7, 8, 14, 15] [] pu1 ?_; refine dp 5 1 [5, 6, 7, 8, 14, 15] [] (a_pure (sv := .one _) rfl) ?_; refine dp 6 3 [5, 6, 7, 8, 14, 15] [] (a_pure (sv := .one _) rfl) ?_; refine dp 7 7 [5, 6, 7, 8, 14, 15] [] puL ?_; refine dp 8 255 [14, 15] [] (by first | exact a_mulB rfl rfl (by omega) (by omega) (by omega) (by omega) | exact a_mul rfl rfl (by first | omega | assumption) (by first | omega | assumption)) ?_; refine dp 9 0 [5, 6, 7, 8, 9, 10, 11, 12, 13] [] pu1 ?_; refine dp 10 1 [5, 6, 7, 8, 9, 10, 11, 12, 13] [] (callD1 (n := _) 0 (θ := []) (hD := (l05Head_ok _ preB1))) ?_; refine dp 11 2047 [] [] (a_add rfl rfl (by omega) (by omega)) ?_; refine dp 12 4095 [] [] pu1 ?_; (refine d_nil ?_; refine dN ?_))); any_goals kernel_rfl) | ((first | refine o_gs rfl rfl (fun hc => ?_) (fun hc => ?_) | refine g_cond rfl (fun hc => ?_) (fun hc => ?_)) <;> (try simp only [dcB] at hc) <;> (try first | contradiction | (exfalso; omega)))
  repeat refine cr ?_
  refine ends_id ?_
  refine endK [] (h2 := ?_) (h3 := ?_) (nd := ?_)
  all_goals (repeat' first | exact ce0 | refine ce ?_ | refine ce2 ?_ ?_ | exact SVLe.refl | refine ceb ?_)
  all_goals first | exact (show nodupB _ = true from rfl) | exact Or.inr rfl | (rfl)
@[irreducible] def okRule (sy st : Int) (r : Rule') : Bool := decide (r = ⟨0, 0, -1⟩ ∨ (0 ≤ r.w ∧ r.w ≤ sy - 1) ∧ (r.m = 1 ∨ r.m = -1) ∧ 0 ≤ r.n ∧ r.n ≤ st - 1)
theorem l05Rule_ok (r : Rule') (sy st : Int) (h1 : -1000 ≤ sy) (h2 : sy ≤ 1000) (h3 : -1000 ≤ st) (h4 : st ≤ 1000) : Does Tryz.prog 142 [.agg (ruC r), .one (int sy), .one (int st)] [] (.one (boo (okRule sy st r))) [] := by
  refine does_of (k := 0) Tryz.func142 rfl Tryz.ntmps142 rfl rfl fun w F0 S0 ρ0 => ?_
  dsimp only [argT, argH]
  repeat' first | (apply n3; exact a_new (gb := .bx _) rfl; exact rfl; refine dA ?_) | (apply p3; (first | exact pu1 | exact puL | exact a_sub rfl rfl (by omega) (by omega) | exact puC | exact a_eqS rfl rfl rfl); exact rfl) | refine cd ?_ | (apply c4 0; exact callK1 (θ := []) (hD := (l00In_ok _ _ _)); exact rfl; exact rfl; exact rfl; refine dM ?_) | refine o_no rfl rfl rfl rfl ?_ | refine o_noN rfl rfl rfl ?_ | (apply py3; exact rfl; exact rfl; (first | exact pu1 | exact puL | exact a_sub rfl rfl (by omega) (by omega) | exact puC | exact a_eqS rfl rfl rfl); exact rfl; exact rfl) | (apply ny3; exact rfl; exact rfl; exact a_new (gb := .bx _) rfl; exact rfl; exact rfl) | (apply cy4 0; exact rfl; exact rfl; exact callK1 (θ := []) (hD := (l00In_ok _ _ _)); exact rfl; exact rfl; exact rfl; exact rfl; refine dM ?_) | (apply g_drN (id := 1) okM [[],[],[0,1]] [([],[]),([],[]),([],[])] 0; (focus (refine dp 0 0 [8] [] puL ?_; refine dp 1 0 [7] [] (callD1 (n := _) 0 (θ := []) (hD := l05None_ok)) ?_; refine dp 2 3 [] [] (by first | exact a_eqRule rfl rfl | exact a_eqRule (s := ⟨_, _, _⟩) rfl rfl | exact a_eqRule (r := ⟨_, _, _⟩) rfl rfl | exact a_eqRule (r := ⟨_, _, _⟩) (s := ⟨_, _, _⟩) rfl rfl) ?_; (refine d_nil ?_; refine dN ?_))); any_goals kernel_rfl) | ((first | refine o_gs rfl rfl (fun hc => ?_) (fun hc => ?_) | refine g_cond rfl (fun hc => ?_) (fun hc => ?_)) <;> (try simp only [dcB] at hc) <;> (try first | contradiction | (exfalso; omega)))
  all_goals
    repeat refine cr ?_
    refine ends_id ?_
    refine endK [] (h2 := ?_) (h3 := ?_) (nd := ?_)
    all_goals (repeat' first | exact ce0 | refine ce ?_ | refine ce2 ?_ ?_ | exact SVLe.refl | refine ceb ?_)
    all_goals first | exact (show nodupB _ = true from rfl) | exact Or.inr rfl | ((unfold okRule; simp_all <;> omega))
/-- A step. -/
@[irreducible] def stepS (r : Rule') (c : Conf) : Conf := if 0 < r.m then ⟨r.n, trimR (r.w :: c.le), c.ri.tail⟩ else ⟨r.n, c.le.tail, trimR (c.le.headD 0 :: trimR (r.w :: c.ri.tail))⟩
@[irreducible] def roomS (c : Conf) : Bool := decide (c.le.length ≤ 200 ∧ c.ri.length ≤ 200)
theorem l05Step_ok (m : Mach) (c : Conf) (r : Rule') (hc : (c.ri.length : Int) ≤ 200) (hd : (c.le.length : Int) ≤ 200) (h1 : 0 ≤ c.st * m.sy) (h2 : c.st * m.sy < 9223372036854775) (h3 : 0 ≤ c.ri.headD 0) (h4 : c.ri.headD 0 < 9223372036854775) (h5 : c.st * m.sy + c.ri.headD 0 < m.ru.length) (h6 : m.ru[(c.st * m.sy + c.ri.headD 0).toNat]? = some r) : Does Tryz.prog 184 [.one (.d (.bx false [.sc (.int .i64 m.sy), .sc (.int .i64 m.st), .sl false 3 (rows eR m.ru)])), .one (.d (.bx false [.sc (.int .i64 c.st), .sl false 1 (rows eI c.le), .sl false 1 (rows eI c.ri)]))] [] (.tup [(true, [int (stepS r c).st, .gv 0, .gv 1]), (false, [boo (roomS (stepS r c))])]) [.row 1 (rows eI (stepS r c).le), .row 1 (rows eI (stepS r c).ri)] := by
  have h6' := (List.getElem?_eq_some_iff.1 h6).2
  refine does_of (k := 0) Tryz.func184 rfl Tryz.ntmps184 rfl rfl fun w F0 S0 ρ0 => ?_
  dsimp only [argT, argH]
  repeat' first | (apply n3; exact a_new (gb := .bx _) rfl; exact rfl; refine dA ?_) | (apply p3; (first | exact pu1 | exact puL | exact puC | exact puN | exact a_len_str rfl (fT rfl) | exact puI); exact rfl) | refine cd ?_ | (apply w3; (first | exact a_st_bx rfl rfl rfl rfl (fN rfl rfl) (Nat.le_of_ble_eq_true rfl) rfl | exact a_stF (E := eR) ⟨_, _, _⟩ rfl rfl rfl rfl (fN rfl rfl) (Nat.le_of_ble_eq_true rfl) (Nat.le_of_ble_eq_true rfl) (by first | exact List.getElem?_set_self bnd | exact List.getElem?_eq_getElem bnd) (by (try dsimp only [setRow, List.set_cons_succ, List.set_cons_zero]); first | done | exact rfl) rfl | exact a_stE (E := eCf) ⟨_, _, _⟩ rfl rfl rfl rfl (fN rfl rfl) bnd (by exact rfl) | exact a_stE (E := eW) _ rfl rfl rfl rfl (fN rfl rfl) bnd (by exact rfl)); exact rfl; refine dS ?_) | (apply c4 1; exact callK1 (θ := []) (hD := (l05Rest_ok _ preB1)); exact rfl; exact rfl; exact rfl; refine dM ?_) | (apply c4 1; exact callK1 (θ := []) (hD := (l05Push_ok _ _ preB1)); exact rfl; exact rfl; exact rfl; refine dM ?_) | (apply g_drN (id := 1) okM [[],[0],[0,1],[0,1,2],[],[],[4,5],[0,1,2,3,4,5,6],[0,1,2,3,4,5,6,7],[],[0,1,2,3,4,5,6,7,8,9]] [([],[]),([],[]),([],[]),([],[]),([],[]),([],[]),([],[]),([],[]),([],[]),([0],[]),([],[1])] 1; (focus (refine dp 0 0 [14, 15, 16, 6] [(true, 0)] pu1 ?_; refine dp 1 1 [14, 15, 16, 6] [(true, 0)] (a_pure (sv := .one _) rfl) ?_; refine dp 2 3 [14, 15, 16, 6] [(true, 0)] (a_pure (sv := .one _) rfl) ?_; refine dp 3 7 [14, 15, 16, 6] [(true, 0)] puL ?_; refine dp 4 0 [10, 11, 12, 13, 15, 6] [(true, 0)] pu1 ?_; refine dp 5 0 [10, 11, 12, 13, 14, 6] [(true, 0)] pu1 ?_; refine dp 6 3 [10, 11, 12, 13, 6] [(true, 0)] (callD1 (n := _) 0 (θ := []) (hD := (l05At_ok _ _ preB1 preB1 preB1 preB1 preB1))) ?_; refine dp 7 127 [6] [(true, 0)] puI ?_; refine dp 8 255 [6] [(true, 0)] puL ?_; refine duE 9 0 [10, 11, 12, 13, 14, 15, 16, 17, 18] [] (atN 0 (fun _ => a_new (gb := .bx _) rfl)) (by exact rfl) (by exact rfl) ?_; refine duE 10 1023 [] [] (by first | exact a_st_bx rfl rfl rfl rfl (fN rfl rfl) (Nat.le_of_ble_eq_true rfl) rfl | exact a_stE (E := eR) ⟨_, _, _⟩ rfl rfl rfl rfl (fN rfl rfl) bnd (by exact rfl)) (by exact rfl) (by exact rfl) ?_; (refine d_nil ?_; refine dN ?_))); any_goals kernel_rfl) | (apply g_drN (id := 5) okM [[],[0],[],[2],[2,3],[2,3,4],[0,1,2,3,4,5],[0,1,2,3,4,5,6],[0,1,2,3,4,5,6,7]] [([],[]),([],[]),([],[]),([],[]),([],[]),([],[]),([0],[]),([],[]),([],[2])] 1; (focus (refine dp 0 0 [32, 33, 34, 35] [] (a_pure (sv := .one _) rfl) ?_; refine dp 1 1 [32, 33, 34, 35] [] puL ?_; refine dp 2 0 [30, 31] [] pu1 ?_; refine dp 3 1 [30, 31] [] (a_pure (sv := .one _) rfl) ?_; refine dp 4 3 [30, 31] [] (a_pure (sv := .one _) rfl) ?_; refine dp 5 7 [30, 31] [] puL ?_; refine duN 6 63 [] [] (callD1 (n := _) 0 (θ := []) (hD := (l05Push_ok _ _ preB1))) (by exact rfl) (by exact rfl) ?_; refine dp 7 127 [] [] (a_pure (sv := .one _) rfl) ?_; refine duE 8 255 [] [] (by first | exact a_st_bx rfl rfl rfl rfl (fN rfl rfl) (Nat.le_of_ble_eq_true rfl) rfl | exact a_stF (E := eR) ⟨_, _, _⟩ rfl rfl rfl rfl (fN rfl rfl) (Nat.le_of_ble_eq_true rfl) (Nat.le_of_ble_eq_true rfl) (by first | exact List.getElem?_set_self bnd | exact List.getElem?_eq_getElem bnd) (by (try dsimp only [setRow, List.set_cons_succ, List.set_cons_zero]); first | done | exact rfl) rfl | exact a_stE (E := eW) _ rfl rfl rfl rfl (fN rfl rfl) bnd (by exact rfl)) (by exact rfl) (by exact rfl) ?_; (refine d_nil ?_; refine dN ?_))); any_goals kernel_rfl) | (apply g_drN (id := 12) okM [[],[],[1],[1,2],[1,2,3],[1,2,3,4],[1,2,3,4,5],[1,2,3,4,5,6],[1,2,3,4,5,6,7],[1,2,3,4,5,6,7,8],[1,2,3,4,5,6,7,8,9],[0,1,2,3,4,5],[0,1,2,3,4,5,6,7,8,9,10,11]] [([],[]),([],[]),([],[]),([],[]),([],[]),([],[]),([],[]),([],[]),([],[]),([],[]),([],[]),([],[0]),([],[])] 0; (focus (all_goals refine dp 0 0 [66, 67, 68, 69, 70, 71, 72, 73, 74, 75] [] puL ?_; all_goals refine dp 1 0 [65] [] (a_pure (sv := .one _) rfl) ?_; all_goals refine dp 2 1 [65] [] puL ?_; all_goals refine dp 3 3 [65] [] (by first | exact puN | exact a_pure (sv := .one _) rfl | exact a_len_str rfl (fT rfl)) ?_; all_goals refine dp 4 7 [65] [] puC ?_; all_goals (refine db 5 15 [65] [] pu1 ?_ ?_ <;> (intro hc; first | cases hc | (try simp only [dcB] at hc); first | contradiction | (exfalso; omega) | skip)); all_goals (first | refine dn 6 31 [65] [(false, 0)] ?_ | refine dpy 6 31 [65] [(false, 0)] (a_pure (sv := .one _) rfl) ?_); all_goals (first | refine dn 7 63 [65] [(false, 0)] ?_ | refine dpy 7 63 [65] [(false, 0)] puL ?_); all_goals (first | refine dn 8 127 [65] [(false, 0)] ?_ | refine dpy 8 127 [65] [(false, 0)] (by first | exact puN | exact a_pure (sv := .one _) rfl | exact a_len_str rfl (fT rfl)) ?_); all_goals (first | refine dn 9 255 [65] [(false, 0)] ?_ | refine dpy 9 255 [65] [(false, 0)] puC ?_); all_goals refine dp 10 511 [65] [(false, 0)] (a_pure (sv := .one _) rfl) ?_; all_goals refine duE 11 2016 [71, 72, 73, 74, 75] [] (by first | exact a_st_bx rfl rfl rfl rfl (fN rfl rfl) (Nat.le_of_ble_eq_true rfl) rfl | exact a_stF (E := eR) ⟨_, _, _⟩ rfl rfl rfl rfl (fN rfl rfl) (Nat.le_of_ble_eq_true rfl) (Nat.le_of_ble_eq_true rfl) (by first | exact List.getElem?_set_self bnd | exact List.getElem?_eq_getElem bnd) (by (try dsimp only [setRow, List.set_cons_succ, List.set_cons_zero]); first | done | exact rfl) rfl | exact a_stE (E := eCf) ⟨_, _, _⟩ rfl rfl rfl rfl (fN rfl rfl) bnd (by exact rfl)) (by exact rfl) (by exact rfl) ?_; all_goals refine dp 12 4095 [] [] pu1 ?_; all_goals (refine d_nil ?_; refine dN ?_))); any_goals kernel_rfl) | ((first | refine o_gs rfl rfl (fun hc => ?_) (fun hc => ?_) | refine g_cond rfl (fun hc => ?_) (fun hc => ?_)) <;> (try simp only [dcB] at hc) <;> (try first | contradiction | (exfalso; omega)))
  all_goals (simp only [h6', get0_headD] at *)
  all_goals
    repeat refine cr ?_
    refine ends_id ?_
    refine endK [?_, ?_] (h2 := ?_) (h3 := ?_) (nd := ?_)
    rotate_left 2
    all_goals (repeat' first | exact ce0 | refine ce ?_ | refine ce2 ?_ ?_ | (refine Or.inr (bx_eq rfl rfl ?_); (try dsimp only [C.ren, C.ren.all]); (try exact rfl)) | exact SVLe.refl | refine ceb ?_)
    all_goals first | exact (show nodupB _ = true from rfl) | exact Or.inr rfl | (((try simp only [roomS]); (try rw [decide_eq_decide]); simp only [stepS]; split <;> first | (exfalso; omega) | rfl | omega | (cases hle : c.le <;> simp_all; done) | (cases hle : c.le <;> simp_all <;> omega)))
end Go.Proofs.YtcmdfohamphndaaGreatDoor
end
section
set_option linter.unusedVariables false
set_option linter.unusedSimpArgs false
set_option maxRecDepth 100000
set_option maxHeartbeats 4000000
namespace Go.Proofs.YtcmdfohamphndaaGreatDoor
open Go Foot
/-- A machine, a configuration behind a pointer. -/
abbrev maB (m : Mach) : C := .d (.bx false [.sc (.int .i64 m.sy), .sc (.int .i64 m.st), .sl false 3 (rows eR m.ru)])
abbrev coB (c : Conf) : C := .d (.bx false [.sc (.int .i64 c.st), .sl false 1 (rows eI c.le), .sl false 1 (rows eI c.ri)])
@[irreducible] def vMach (m : Mach) : Bool := decide ((2 ≤ m.sy ∧ m.sy ≤ 6) ∧ (1 ≤ m.st ∧ m.st ≤ 1000) ∧ (m.ru.length : Int) = m.sy * m.st) && m.ru.all (okRule m.sy m.st)
theorem vMach_bd {m : Mach} (h : vMach m = true) : (2 ≤ m.sy ∧ m.sy ≤ 6) ∧ (1 ≤ m.st ∧ m.st ≤ 1000) ∧ (m.ru.length : Int) = m.sy * m.st := by
  unfold vMach at h
  simp only [Bool.and_eq_true, decide_eq_true_eq] at h
  exact h.1
theorem preB2 {p : Prop} (h : p := by first | with_reducible assumption | omega | (simp only [List.length_append, List.length_cons, List.length_nil, List.length_set, List.length_replicate, List.length_take, List.length_drop, List.length_tail, List.length_dropLast, List.length_reverse] at *; omega) | exact mem_len (by assumption) (by omega) | (with_reducible refine Int.le_trans (Int.ofNat_le.2 (trimR_len _)) ?_; simp only [List.length_cons, List.length_tail]; omega) | (have := vMach_bd (by assumption); omega) | trivial) : p := h
theorem l05Is_ok (m : Mach) (hm : (m.ru.length : Int) ≤ 16777216) : Does Tryz.prog 83 [.one (maB m)] [] (.one (boo (vMach m))) [] := by
  refine does_of (k := 0) Tryz.func83 rfl Tryz.ntmps83 rfl rfl fun w F0 S0 ρ0 => ?_
  dsimp only [argT, argH]
  repeat' first | (apply p3; (first | exact pu1 | exact puL | exact puN | exact a_len_str rfl (fT rfl) | exact puC | exact a_add rfl rfl (by omega) (by omega)); exact rfl) | refine cd ?_ | (apply g_drN (id := 1) okM ([] :: [0] :: [0,1] :: [0,1,2] :: [0,1,2,3] :: [0,1,2,3,4] :: [0,1,2,3,4,5] :: [0,1,2,3,4,5,6] :: [0,1,2,3,4,5,6,7] :: [0,1,2,3,4,5,6,7,8] :: [0,1,2,3,4,5,6,7,8,9] :: [0,1,2,3,4,5,6,7,8,9,10] :: [0,1,2,3,4,5,6,7,8,9,10,11] :: [0,1,2,3,4,5,6,7,8,9,10,11,12] :: [0,1,2,3,4,5,6,7,8,9,10,11,12,13] :: [0,1,2,3,4,5,6,7,8,9,10,11,12,13,14] :: [0,1,2,3,4,5,6,7,8,9,10,11,12,13,14,15] :: [0,1,2,3,4,5,6,7,8,9,10,11,12,13,14,15,16] :: [0,1,2,3,4,5,6,7,8,9,10,11,12,13,14,15,16,17] :: [0,1,2,3,4,5,6,7,8,9,10,11,12,13,14,15,16,17,18] :: [0,1,2,3,4,5,6,7,8,9,10,11,12,13,14] :: [0,1,2,3,4,5,6,7,8,9,10,11,12,13,14,20] :: [0,1,2,3,4,5,6,7,8,9,10,11,12,13,14,20,21] :: [0,1,2,3,4,5,6,7,8,9,10,11,12,13,14,20,21,22] :: [0,1,2,3,4,5,6,7,8,9,10,11,12,13,14] :: [0,1,2,3,4,5,6,7,8,9,10,11,12,13,14,24] :: [0,1,2,3,4,5,6,7,8,9,10,11,12,13,14,24,25] :: [0,1,2,3,4,5,6,7,8,9,10,11,12,13,14,24,25,26] :: [0,1,2,3,4,5,6,7,8,9,10,11,12,13,14,20,21,22,23,24,25,26,27] :: [0,1,2,3,4,5,6,7,8,9,10,11,12,13,14,15,16,17,18,19,20,21,22,23,24,25,26,27,28] :: [0,1,2,3,4,5,6,7,8,9,10,11,12,13,14,15,16,17,18,19,20,21,22,23,24,25,26,27,28,29] :: []) (([],[]) :: ([],[]) :: ([],[]) :: ([],[]) :: ([],[]) :: ([],[]) :: ([],[]) :: ([],[]) :: ([],[]) :: ([],[]) :: ([],[]) :: ([],[]) :: ([],[]) :: ([],[]) :: ([],[]) :: ([],[]) :: ([],[]) :: ([],[]) :: ([],[]) :: ([],[]) :: ([],[]) :: ([],[]) :: ([],[]) :: ([],[]) :: ([],[]) :: ([],[]) :: ([],[]) :: ([],[]) :: ([],[]) :: ([],[]) :: ([],[]) :: []) 0; (focus (all_goals refine dp 0 0 [] [] pu1 ?_; all_goals refine dp 1 1 [] [] (a_pure (sv := .one _) rfl) ?_; all_goals refine dp 2 3 [] [] (a_pure (sv := .one _) rfl) ?_; all_goals refine dp 3 7 [] [] puL ?_; all_goals refine dp 4 15 [] [] (callD1 (n := _) 0 (θ := []) (hD := (l00In_ok _ _ _))) ?_; all_goals refine dp 5 31 [] [] (a_pure (sv := .one _) rfl) ?_; all_goals (refine db 6 63 [] [] pu1 ?_ ?_ <;> (intro hc; first | cases hc | (try simp only [dcB] at hc); first | contradiction | (exfalso; omega) | skip)); all_goals (first | refine dn 7 127 [] [] ?_ | refine dpy 7 127 [] [] pu1 ?_); all_goals (first | refine dn 8 255 [] [] ?_ | refine dpy 8 255 [] [] (a_pure (sv := .one _) rfl) ?_); all_goals (first | refine dn 9 511 [] [] ?_ | refine dpy 9 511 [] [] (a_pure (sv := .one _) rfl) ?_); all_goals (first | refine dn 10 1023 [] [] ?_ | refine dpy 10 1023 [] [] puL ?_); all_goals (first | refine dn 11 2047 [] [] ?_ | refine dpy 11 2047 [] [] (callD1 (n := _) 0 (θ := []) (hD := (l00In_ok _ _ _))) ?_); all_goals (first | refine dn 12 4095 [] [] ?_ | refine dpy 12 4095 [] [] (a_pure (sv := .one _) rfl) ?_); all_goals refine dp 13 8191 [] [] (a_pure (sv := .one _) rfl) ?_; all_goals (refine db 14 16383 [] [] pu1 ?_ ?_ <;> (intro hc; first | cases hc | (try simp only [dcB] at hc); first | contradiction | (exfalso; omega) | skip)); all_goals (first | refine dn 15 32767 [24, 25, 26, 27, 28, 29, 30, 31, 32] [] ?_ | refine dpy 15 32767 [24, 25, 26, 27, 28, 29, 30, 31, 32] [] pu1 ?_); all_goals (first | refine dn 16 65535 [24, 25, 26, 27, 28, 29, 30, 31, 32] [] ?_ | refine dpy 16 65535 [24, 25, 26, 27, 28, 29, 30, 31, 32] [] (a_pure (sv := .one _) rfl) ?_); all_goals (first | refine dn 17 131071 [24, 25, 26, 27, 28, 29, 30, 31, 32] [] ?_ | refine dpy 17 131071 [24, 25, 26, 27, 28, 29, 30, 31, 32] [] (a_pure (sv := .one _) rfl) ?_); all_goals (first | refine dn 18 262143 [24, 25, 26, 27, 28, 29, 30, 31, 32] [] ?_ | refine dpy 18 262143 [24, 25, 26, 27, 28, 29, 30, 31, 32] [] puL ?_); all_goals (first | refine dn 19 524287 [24, 25, 26, 27, 28, 29, 30, 31, 32] [] ?_ | refine dpy 19 524287 [24, 25, 26, 27, 28, 29, 30, 31, 32] [] (by first | exact puN | exact a_pure (sv := .one _) rfl | exact a_len_str rfl (fT rfl)) ?_); all_goals (first | refine dn 20 1048544 [19, 20, 21, 22, 23, 28, 29, 30, 31] [] ?_ | refine dpy 20 1048544 [19, 20, 21, 22, 23, 28, 29, 30, 31] [] pu1 ?_); all_goals (first | refine dn 21 2097089 [19, 20, 21, 22, 23, 28, 29, 30, 31] [] ?_ | refine dpy 21 2097089 [19, 20, 21, 22, 23, 28, 29, 30, 31] [] (a_pure (sv := .one _) rfl) ?_); all_goals (first | refine dn 22 4194179 [19, 20, 21, 22, 23, 28, 29, 30, 31] [] ?_ | refine dpy 22 4194179 [19, 20, 21, 22, 23, 28, 29, 30, 31] [] (a_pure (sv := .one _) rfl) ?_); all_goals (first | refine dn 23 8388359 [19, 20, 21, 22, 23, 28, 29, 30, 31] [] ?_ | refine dpy 23 8388359 [19, 20, 21, 22, 23, 28, 29, 30, 31] [] puL ?_); all_goals (first | refine dn 24 16776704 [19, 20, 21, 22, 23, 24, 25, 26, 27] [] ?_ | refine dpy 24 16776704 [19, 20, 21, 22, 23, 24, 25, 26, 27] [] pu1 ?_); all_goals (first | refine dn 25 33553409 [19, 20, 21, 22, 23, 24, 25, 26, 27] [] ?_ | refine dpy 25 33553409 [19, 20, 21, 22, 23, 24, 25, 26, 27] [] (a_pure (sv := .one _) rfl) ?_); all_goals (first | refine dn 26 67106819 [19, 20, 21, 22, 23, 24, 25, 26, 27] [] ?_ | refine dpy 26 67106819 [19, 20, 21, 22, 23, 24, 25, 26, 27] [] (a_pure (sv := .one _) rfl) ?_); all_goals (first | refine dn 27 134213639 [19, 20, 21, 22, 23, 24, 25, 26, 27] [] ?_ | refine dpy 27 134213639 [19, 20, 21, 22, 23, 24, 25, 26, 27] [] puL ?_); all_goals (first | refine dn 28 268427519 [19, 20, 21, 22, 23] [] ?_ | refine dpy 28 268427519 [19, 20, 21, 22, 23] [] (by first | exact a_mulB rfl rfl (by omega) (by omega) (by omega) (by omega) | exact a_mul rfl rfl (by first | omega | assumption) (by first | omega | assumption)) ?_); all_goals (first | refine dn 29 536870911 [] [] ?_ | refine dpy 29 536870911 [] [] (by first | exact a_ne rfl rfl | exact a_neS rfl rfl rfl) ?_); all_goals refine dp 30 1073741823 [] [] (a_pure (sv := .one _) rfl) ?_; all_goals (refine d_nil ?_; refine dN ?_))); any_goals kernel_rfl) | (apply g_drN (id := 6) okM [[],[0],[0,1],[0,1,2],[],[0,1,2,3,4],[0,1,2,3,4,5],[],[7],[7,8],[7,8,9],[],[11],[11,12],[11,12,13],[0,1,2,3,4,5,6,7,8,9,10,11,12,13,14],[0,1,2,3,4,5,6,7,8,9,10,11,12,13,14,15]] [([],[]),([],[]),([],[]),([],[]),([],[]),([],[]),([],[]),([],[]),([],[]),([],[]),([],[]),([],[]),([],[]),([],[]),([],[]),([],[]),([],[])] 0; (focus (refine dp 0 0 [48, 51, 52, 53, 54, 55, 56, 57, 58] [] pu1 ?_; refine dp 1 1 [48, 51, 52, 53, 54, 55, 56, 57, 58] [] (a_pure (sv := .one _) rfl) ?_; refine dp 2 3 [48, 51, 52, 53, 54, 55, 56, 57, 58] [] (a_pure (sv := .one _) rfl) ?_; refine dp 3 7 [48, 51, 52, 53, 54, 55, 56, 57, 58] [] puL ?_; refine dp 4 0 [44, 45, 46, 47, 51, 52, 53, 54, 55, 56, 57, 58] [] pu1 ?_; refine dp 5 31 [51, 52, 53, 54, 55, 56, 57, 58] [] puI ?_; refine dp 6 63 [51, 52, 53, 54, 55, 56, 57, 58] [] puL ?_; refine dp 7 0 [44, 45, 46, 47, 48, 49, 50, 55, 56, 57, 58] [] pu1 ?_; refine dp 8 1 [44, 45, 46, 47, 48, 49, 50, 55, 56, 57, 58] [] (a_pure (sv := .one _) rfl) ?_; refine dp 9 3 [44, 45, 46, 47, 48, 49, 50, 55, 56, 57, 58] [] (a_pure (sv := .one _) rfl) ?_; refine dp 10 7 [44, 45, 46, 47, 48, 49, 50, 55, 56, 57, 58] [] puL ?_; refine dp 11 0 [44, 45, 46, 47, 48, 49, 50, 51, 52, 53, 54] [] pu1 ?_; refine dp 12 1 [44, 45, 46, 47, 48, 49, 50, 51, 52, 53, 54] [] (a_pure (sv := .one _) rfl) ?_; refine dp 13 3 [44, 45, 46, 47, 48, 49, 50, 51, 52, 53, 54] [] (a_pure (sv := .one _) rfl) ?_; refine dp 14 7 [44, 45, 46, 47, 48, 49, 50, 51, 52, 53, 54] [] puL ?_; refine dp 15 32767 [] [] (callD1 (n := _) 0 (θ := []) (hD := (l05Rule_ok _ _ _ preB2 preB2 preB2 preB2))) ?_; refine dp 16 65535 [] [] (a_pure (sv := .one _) rfl) ?_; (refine d_nil ?_; refine dN ?_))); any_goals kernel_rfl) | ((first | refine o_gs rfl rfl (fun hc => ?_) (fun hc => ?_) | refine g_cond rfl (fun hc => ?_) (fun hc => ?_)) <;> (try simp only [dcB] at hc) <;> (try first | contradiction | (exfalso; omega)))
  · repeat refine cr ?_
    refine ends_id ?_
    refine endK [] (h2 := ?_) (h3 := ?_) (nd := ?_)
    all_goals (repeat' first | exact ce0 | refine ce ?_ | refine ce2 ?_ ?_ | exact SVLe.refl | refine ceb ?_)
    all_goals first | exact (show nodupB _ = true from rfl) | exact Or.inr rfl | ((unfold vMach; first | (simp [*]; done) | (rw [decide_eq_false] <;> first | rfl | omega | (simp; done)) | (rw [decide_eq_true] <;> first | rfl | omega | (simp [*]; done)) | (simp_all; done) | (simp_all; omega)))
  · repeat refine cr ?_
    refine ends_id ?_
    refine endK [] (h2 := ?_) (h3 := ?_) (nd := ?_)
    all_goals (repeat' first | exact ce0 | refine ce ?_ | refine ce2 ?_ ?_ | exact SVLe.refl | refine ceb ?_)
    all_goals first | exact (show nodupB _ = true from rfl) | exact Or.inr rfl | ((unfold vMach; first | (simp [*]; done) | (rw [decide_eq_false] <;> first | rfl | omega | (simp; done)) | (rw [decide_eq_true] <;> first | rfl | omega | (simp [*]; done)) | (simp_all; done) | (simp_all; omega)))
  · repeat refine cr ?_
    refine ends_id ?_
    refine endK [] (h2 := ?_) (h3 := ?_) (nd := ?_)
    all_goals (repeat' first | exact ce0 | refine ce ?_ | refine ce2 ?_ ?_ | exact SVLe.refl | refine ceb ?_)
    all_goals first | exact (show nodupB _ = true from rfl) | exact Or.inr rfl | ((unfold vMach; first | (simp [*]; done) | (rw [decide_eq_false] <;> first | rfl | omega | (simp; done)) | (rw [decide_eq_true] <;> first | rfl | omega | (simp [*]; done)) | (simp_all; done) | (simp_all; omega)))
  refine g_loop_id ?_
  refine loopK [0] [] (fun i : Int => 0 ≤ i ∧ i ≤ m.ru.length ∧ (m.ru.take i.toNat).all (okRule m.sy m.st) = true) (fun i => [(3, .one (int i))]) (fun _ => []) (fun i => (m.ru.length - i).toNat) (0 : Int) [] (hI := ?_) (hr := ?_)
  · exact ⟨by omega, by omega, rfl⟩
  · rintro i ⟨h0, h1, h2⟩
    dsimp only [List.cons_append, List.nil_append] at *
    skip
    repeat' first | (apply p3; (first | exact pu1 | exact puL | exact puN | exact a_len_str rfl (fT rfl) | exact puC | exact a_add rfl rfl (by omega) (by omega)); exact rfl) | refine cd ?_ | (apply g_drN (id := 1) okM ([] :: [0] :: [0,1] :: [0,1,2] :: [0,1,2,3] :: [0,1,2,3,4] :: [0,1,2,3,4,5] :: [0,1,2,3,4,5,6] :: [0,1,2,3,4,5,6,7] :: [0,1,2,3,4,5,6,7,8] :: [0,1,2,3,4,5,6,7,8,9] :: [0,1,2,3,4,5,6,7,8,9,10] :: [0,1,2,3,4,5,6,7,8,9,10,11] :: [0,1,2,3,4,5,6,7,8,9,10,11,12] :: [0,1,2,3,4,5,6,7,8,9,10,11,12,13] :: [0,1,2,3,4,5,6,7,8,9,10,11,12,13,14] :: [0,1,2,3,4,5,6,7,8,9,10,11,12,13,14,15] :: [0,1,2,3,4,5,6,7,8,9,10,11,12,13,14,15,16] :: [0,1,2,3,4,5,6,7,8,9,10,11,12,13,14,15,16,17] :: [0,1,2,3,4,5,6,7,8,9,10,11,12,13,14,15,16,17,18] :: [0,1,2,3,4,5,6,7,8,9,10,11,12,13,14] :: [0,1,2,3,4,5,6,7,8,9,10,11,12,13,14,20] :: [0,1,2,3,4,5,6,7,8,9,10,11,12,13,14,20,21] :: [0,1,2,3,4,5,6,7,8,9,10,11,12,13,14,20,21,22] :: [0,1,2,3,4,5,6,7,8,9,10,11,12,13,14] :: [0,1,2,3,4,5,6,7,8,9,10,11,12,13,14,24] :: [0,1,2,3,4,5,6,7,8,9,10,11,12,13,14,24,25] :: [0,1,2,3,4,5,6,7,8,9,10,11,12,13,14,24,25,26] :: [0,1,2,3,4,5,6,7,8,9,10,11,12,13,14,20,21,22,23,24,25,26,27] :: [0,1,2,3,4,5,6,7,8,9,10,11,12,13,14,15,16,17,18,19,20,21,22,23,24,25,26,27,28] :: [0,1,2,3,4,5,6,7,8,9,10,11,12,13,14,15,16,17,18,19,20,21,22,23,24,25,26,27,28,29] :: []) (([],[]) :: ([],[]) :: ([],[]) :: ([],[]) :: ([],[]) :: ([],[]) :: ([],[]) :: ([],[]) :: ([],[]) :: ([],[]) :: ([],[]) :: ([],[]) :: ([],[]) :: ([],[]) :: ([],[]) :: ([],[]) :: ([],[]) :: ([],[]) :: ([],[]) :: ([],[]) :: ([],[]) :: ([],[]) :: ([],[]) :: ([],[]) :: ([],[]) :: ([],[]) :: ([],[]) :: ([],[]) :: ([],[]) :: ([],[]) :: ([],[]) :: []) 0; (focus (all_goals refine dp 0 0 [] [] pu1 ?_; all_goals refine dp 1 1 [] [] (a_pure (sv := .one _) rfl) ?_; all_goals refine dp 2 3 [] [] (a_pure (sv := .one _) rfl) ?_; all_goals refine dp 3 7 [] [] puL ?_; all_goals refine dp 4 15 [] [] (callD1 (n := _) 0 (θ := []) (hD := (l00In_ok _ _ _))) ?_; all_goals refine dp 5 31 [] [] (a_pure (sv := .one _) rfl) ?_; all_goals (refine db 6 63 [] [] pu1 ?_ ?_ <;> (intro hc; first | cases hc | (try simp only [dcB] at hc); first | contradiction | (exfalso; omega) | skip)); all_goals (first | refine dn 7 127 [] [] ?_ | refine dpy 7 127 [] [] pu1 ?_); all_goals (first | refine dn 8 255 [] [] ?_ | refine dpy 8 255 [] [] (a_pure (sv := .one _) rfl) ?_); all_goals (first | refine dn 9 511 [] [] ?_ | refine dpy 9 511 [] [] (a_pure (sv := .one _) rfl) ?_); all_goals (first | refine dn 10 1023 [] [] ?_ | refine dpy 10 1023 [] [] puL ?_); all_goals (first | refine dn 11 2047 [] [] ?_ | refine dpy 11 2047 [] [] (callD1 (n := _) 0 (θ := []) (hD := (l00In_ok _ _ _))) ?_); all_goals (first | refine dn 12 4095 [] [] ?_ | refine dpy 12 4095 [] [] (a_pure (sv := .one _) rfl) ?_); all_goals refine dp 13 8191 [] [] (a_pure (sv := .one _) rfl) ?_; all_goals (refine db 14 16383 [] [] pu1 ?_ ?_ <;> (intro hc; first | cases hc | (try simp only [dcB] at hc); first | contradiction | (exfalso; omega) | skip)); all_goals (first | refine dn 15 32767 [24, 25, 26, 27, 28, 29, 30, 31, 32] [] ?_ | refine dpy 15 32767 [24, 25, 26, 27, 28, 29, 30, 31, 32] [] pu1 ?_); all_goals (first | refine dn 16 65535 [24, 25, 26, 27, 28, 29, 30, 31, 32] [] ?_ | refine dpy 16 65535 [24, 25, 26, 27, 28, 29, 30, 31, 32] [] (a_pure (sv := .one _) rfl) ?_); all_goals (first | refine dn 17 131071 [24, 25, 26, 27, 28, 29, 30, 31, 32] [] ?_ | refine dpy 17 131071 [24, 25, 26, 27, 28, 29, 30, 31, 32] [] (a_pure (sv := .one _) rfl) ?_); all_goals (first | refine dn 18 262143 [24, 25, 26, 27, 28, 29, 30, 31, 32] [] ?_ | refine dpy 18 262143 [24, 25, 26, 27, 28, 29, 30, 31, 32] [] puL ?_); all_goals (first | refine dn 19 524287 [24, 25, 26, 27, 28, 29, 30, 31, 32] [] ?_ | refine dpy 19 524287 [24, 25, 26, 27, 28, 29, 30, 31, 32] [] (by first | exact puN | exact a_pure (sv := .one _) rfl | exact a_len_str rfl (fT rfl)) ?_); all_goals (first | refine dn 20 1048544 [19, 20, 21, 22, 23, 28, 29, 30, 31] [] ?_ | refine dpy 20 1048544 [19, 20, 21, 22, 23, 28, 29, 30, 31] [] pu1 ?_); all_goals (first | refine dn 21 2097089 [19, 20, 21, 22, 23, 28, 29, 30, 31] [] ?_ | refine dpy 21 2097089 [19, 20, 21, 22, 23, 28, 29, 30, 31] [] (a_pure (sv := .one _) rfl) ?_); all_goals (first | refine dn 22 4194179 [19, 20, 21, 22, 23, 28, 29, 30, 31] [] ?_ | refine dpy 22 4194179 [19, 20, 21, 22, 23, 28, 29, 30, 31] [] (a_pure (sv := .one _) rfl) ?_); all_goals (first | refine dn 23 8388359 [19, 20, 21, 22, 23, 28, 29, 30, 31] [] ?_ | refine dpy 23 8388359 [19, 20, 21, 22, 23, 28, 29, 30, 31] [] puL ?_); all_goals (first | refine dn 24 16776704 [19, 20, 21, 22, 23, 24, 25, 26, 27] [] ?_ | refine dpy 24 16776704 [19, 20, 21, 22, 23, 24, 25, 26, 27] [] pu1 ?_); all_goals (first | refine dn 25 33553409 [19, 20, 21, 22, 23, 24, 25, 26, 27] [] ?_ | refine dpy 25 33553409 [19, 20, 21, 22, 23, 24, 25, 26, 27] [] (a_pure (sv := .one _) rfl) ?_); all_goals (first | refine dn 26 67106819 [19, 20, 21, 22, 23, 24, 25, 26, 27] [] ?_ | refine dpy 26 67106819 [19, 20, 21, 22, 23, 24, 25, 26, 27] [] (a_pure (sv := .one _) rfl) ?_); all_goals (first | refine dn 27 134213639 [19, 20, 21, 22, 23, 24, 25, 26, 27] [] ?_ | refine dpy 27 134213639 [19, 20, 21, 22, 23, 24, 25, 26, 27] [] puL ?_); all_goals (first | refine dn 28 268427519 [19, 20, 21, 22, 23] [] ?_ | refine dpy 28 268427519 [19, 20, 21, 22, 23] [] (by first | exact a_mulB rfl rfl (by omega) (by omega) (by omega) (by omega) | exact a_mul rfl rfl (by first | omega | assumption) (by first | omega | assumption)) ?_); all_goals (first | refine dn 29 536870911 [] [] ?_ | refine dpy 29 536870911 [] [] (by first | exact a_ne rfl rfl | exact a_neS rfl rfl rfl) ?_); all_goals refine dp 30 1073741823 [] [] (a_pure (sv := .one _) rfl) ?_; all_goals (refine d_nil ?_; refine dN ?_))); any_goals kernel_rfl) | (apply g_drN (id := 6) okM [[],[0],[0,1],[0,1,2],[],[0,1,2,3,4],[0,1,2,3,4,5],[],[7],[7,8],[7,8,9],[],[11],[11,12],[11,12,13],[0,1,2,3,4,5,6,7,8,9,10,11,12,13,14],[0,1,2,3,4,5,6,7,8,9,10,11,12,13,14,15]] [([],[]),([],[]),([],[]),([],[]),([],[]),([],[]),([],[]),([],[]),([],[]),([],[]),([],[]),([],[]),([],[]),([],[]),([],[]),([],[]),([],[])] 0; (focus (refine dp 0 0 [48, 51, 52, 53, 54, 55, 56, 57, 58] [] pu1 ?_; refine dp 1 1 [48, 51, 52, 53, 54, 55, 56, 57, 58] [] (a_pure (sv := .one _) rfl) ?_; refine dp 2 3 [48, 51, 52, 53, 54, 55, 56, 57, 58] [] (a_pure (sv := .one _) rfl) ?_; refine dp 3 7 [48, 51, 52, 53, 54, 55, 56, 57, 58] [] puL ?_; refine dp 4 0 [44, 45, 46, 47, 51, 52, 53, 54, 55, 56, 57, 58] [] pu1 ?_; refine dp 5 31 [51, 52, 53, 54, 55, 56, 57, 58] [] puI ?_; refine dp 6 63 [51, 52, 53, 54, 55, 56, 57, 58] [] puL ?_; refine dp 7 0 [44, 45, 46, 47, 48, 49, 50, 55, 56, 57, 58] [] pu1 ?_; refine dp 8 1 [44, 45, 46, 47, 48, 49, 50, 55, 56, 57, 58] [] (a_pure (sv := .one _) rfl) ?_; refine dp 9 3 [44, 45, 46, 47, 48, 49, 50, 55, 56, 57, 58] [] (a_pure (sv := .one _) rfl) ?_; refine dp 10 7 [44, 45, 46, 47, 48, 49, 50, 55, 56, 57, 58] [] puL ?_; refine dp 11 0 [44, 45, 46, 47, 48, 49, 50, 51, 52, 53, 54] [] pu1 ?_; refine dp 12 1 [44, 45, 46, 47, 48, 49, 50, 51, 52, 53, 54] [] (a_pure (sv := .one _) rfl) ?_; refine dp 13 3 [44, 45, 46, 47, 48, 49, 50, 51, 52, 53, 54] [] (a_pure (sv := .one _) rfl) ?_; refine dp 14 7 [44, 45, 46, 47, 48, 49, 50, 51, 52, 53, 54] [] puL ?_; refine dp 15 32767 [] [] (callD1 (n := _) 0 (θ := []) (hD := (l05Rule_ok _ _ _ preB2 preB2 preB2 preB2))) ?_; refine dp 16 65535 [] [] (a_pure (sv := .one _) rfl) ?_; (refine d_nil ?_; refine dN ?_))); any_goals kernel_rfl) | ((first | refine o_gs rfl rfl (fun hc => ?_) (fun hc => ?_) | refine g_cond rfl (fun hc => ?_) (fun hc => ?_)) <;> (try simp only [dcB] at hc) <;> (try first | contradiction | (exfalso; omega)))
    · repeat refine cr ?_
      refine ends_id ?_
      refine endK [] (h2 := ?_) (h3 := ?_) (nd := ?_)
      all_goals (repeat' first | exact ce0 | refine ce ?_ | refine ce2 ?_ ?_ | exact SVLe.refl | refine ceb ?_)
      all_goals first | exact (show nodupB _ = true from rfl) | exact Or.inr rfl | ((unfold vMach; rw [all_no _ _ i.toNat (by omega) (by rw [hc]; simp)]; simp))
    · refine q_again (i + 1) [] (by exact stk) ?_ ?_
      · exact ⟨by omega, by omega, all_snocI _ _ _ h0 (by omega) h2 hc⟩
      · omega
    · repeat refine cr ?_
      refine ends_id ?_
      refine endK [] (h2 := ?_) (h3 := ?_) (nd := ?_)
      all_goals (repeat' first | exact ce0 | refine ce ?_ | refine ce2 ?_ ?_ | exact SVLe.refl | refine ceb ?_)
      all_goals first | exact (show nodupB _ = true from rfl) | exact Or.inr rfl | ((unfold vMach; rw [List.take_of_length_le (by omega)] at h2; simp_all))
@[irreducible] def vSide (sy : Int) (l : List Int) : Bool := l.all (fun x => decide (0 ≤ x ∧ x ≤ sy - 1)) && decide ((l.length : Int) ≤ 200 ∧ l.getLastD 1 ≠ 0)
theorem l05Cells_ok (m : Mach) (xs : List Int) (hx : (xs.length : Int) ≤ 16777216) (h1 : -1000 ≤ m.sy) (h2 : m.sy ≤ 1000) : Does Tryz.prog 219 [.one (maB m), .one (shI xs)] [] (.one (boo (vSide m.sy xs))) [] := by
  refine does_of (k := 0) Tryz.func219 rfl Tryz.ntmps219 rfl rfl fun w F0 S0 ρ0 => ?_
  dsimp only [argT, argH]
  repeat' first | (apply p3; (first | exact pu1 | exact puL | exact puN | exact a_len_str rfl (fT rfl) | exact puC | exact a_add rfl rfl (by omega) (by omega) | exact a_eqS rfl rfl rfl | exact a_sub rfl rfl (by omega) (by omega) | exact a_ne rfl rfl | exact a_neS rfl rfl rfl | exact puI); exact rfl) | refine cd ?_ | refine o_no rfl rfl rfl rfl ?_ | refine o_noN rfl rfl rfl ?_ | (apply py3; exact rfl; exact rfl; (first | exact pu1 | exact puL | exact puN | exact a_len_str rfl (fT rfl) | exact puC | exact a_add rfl rfl (by omega) (by omega) | exact a_eqS rfl rfl rfl | exact a_sub rfl rfl (by omega) (by omega) | exact a_ne rfl rfl | exact a_neS rfl rfl rfl | exact puI); exact rfl; exact rfl) | (apply g_drN (id := 4) okM [[],[],[0,1],[0,1,2],[],[4],[4,5],[4,5,6],[4,5,6,7],[0,1,2,3,4,5,6,7,8],[0,1,2,3,4,5,6,7,8,9]] [([],[]),([],[]),([],[]),([],[]),([],[]),([],[]),([],[]),([],[]),([],[]),([],[]),([],[])] 0; (focus (refine dp 0 0 [13, 16, 17, 18, 19, 20] [] pu1 ?_; refine dp 1 0 [12, 16, 17, 18, 19, 20] [] pu1 ?_; refine dp 2 3 [16, 17, 18, 19, 20] [] puI ?_; refine dp 3 7 [16, 17, 18, 19, 20] [] puL ?_; refine dp 4 0 [12, 13, 14, 15] [] pu1 ?_; refine dp 5 1 [12, 13, 14, 15] [] (a_pure (sv := .one _) rfl) ?_; refine dp 6 3 [12, 13, 14, 15] [] (a_pure (sv := .one _) rfl) ?_; refine dp 7 7 [12, 13, 14, 15] [] puL ?_; refine dp 8 15 [12, 13, 14, 15] [] (a_sub rfl rfl (by omega) (by omega)) ?_; refine dp 9 511 [] [] (callD1 (n := _) 0 (θ := []) (hD := (l00In_ok _ _ _))) ?_; refine dp 10 1023 [] [] (a_pure (sv := .one _) rfl) ?_; (refine d_nil ?_; refine dN ?_))); any_goals kernel_rfl) | ((first | refine o_gs rfl rfl (fun hc => ?_) (fun hc => ?_) | refine g_cond rfl (fun hc => ?_) (fun hc => ?_)) <;> (try simp only [dcB] at hc) <;> (try first | contradiction | (exfalso; omega)))
  refine g_loop_id ?_
  refine loopK [0, 1] [] (fun i : Int => 0 ≤ i ∧ i ≤ xs.length ∧ (xs.take i.toNat).all (fun x => decide (0 ≤ x ∧ x ≤ m.sy - 1)) = true) (fun i => [(5, .one (int i))]) (fun _ => []) (fun i => (xs.length - i).toNat) (0 : Int) [] (hI := ?_) (hr := ?_)
  · exact ⟨by omega, by omega, rfl⟩
  · rintro i ⟨h0, h1, h2⟩
    dsimp only [List.cons_append, List.nil_append] at *
    skip
    repeat' first | (apply p3; (first | exact pu1 | exact puL | exact puN | exact a_len_str rfl (fT rfl) | exact puC | exact a_add rfl rfl (by omega) (by omega) | exact a_eqS rfl rfl rfl | exact a_sub rfl rfl (by omega) (by omega) | exact a_ne rfl rfl | exact a_neS rfl rfl rfl | exact puI); exact rfl) | refine cd ?_ | refine o_no rfl rfl rfl rfl ?_ | refine o_noN rfl rfl rfl ?_ | (apply py3; exact rfl; exact rfl; (first | exact pu1 | exact puL | exact puN | exact a_len_str rfl (fT rfl) | exact puC | exact a_add rfl rfl (by omega) (by omega) | exact a_eqS rfl rfl rfl | exact a_sub rfl rfl (by omega) (by omega) | exact a_ne rfl rfl | exact a_neS rfl rfl rfl | exact puI); exact rfl; exact rfl) | (apply g_drN (id := 4) okM [[],[],[0,1],[0,1,2],[],[4],[4,5],[4,5,6],[4,5,6,7],[0,1,2,3,4,5,6,7,8],[0,1,2,3,4,5,6,7,8,9]] [([],[]),([],[]),([],[]),([],[]),([],[]),([],[]),([],[]),([],[]),([],[]),([],[]),([],[])] 0; (focus (refine dp 0 0 [13, 16, 17, 18, 19, 20] [] pu1 ?_; refine dp 1 0 [12, 16, 17, 18, 19, 20] [] pu1 ?_; refine dp 2 3 [16, 17, 18, 19, 20] [] puI ?_; refine dp 3 7 [16, 17, 18, 19, 20] [] puL ?_; refine dp 4 0 [12, 13, 14, 15] [] pu1 ?_; refine dp 5 1 [12, 13, 14, 15] [] (a_pure (sv := .one _) rfl) ?_; refine dp 6 3 [12, 13, 14, 15] [] (a_pure (sv := .one _) rfl) ?_; refine dp 7 7 [12, 13, 14, 15] [] puL ?_; refine dp 8 15 [12, 13, 14, 15] [] (a_sub rfl rfl (by omega) (by omega)) ?_; refine dp 9 511 [] [] (callD1 (n := _) 0 (θ := []) (hD := (l00In_ok _ _ _))) ?_; refine dp 10 1023 [] [] (a_pure (sv := .one _) rfl) ?_; (refine d_nil ?_; refine dN ?_))); any_goals kernel_rfl) | ((first | refine o_gs rfl rfl (fun hc => ?_) (fun hc => ?_) | refine g_cond rfl (fun hc => ?_) (fun hc => ?_)) <;> (try simp only [dcB] at hc) <;> (try first | contradiction | (exfalso; omega)))
    · repeat refine cr ?_
      refine ends_id ?_
      refine endK [] (h2 := ?_) (h3 := ?_) (nd := ?_)
      all_goals (repeat' first | exact ce0 | refine ce ?_ | refine ce2 ?_ ?_ | exact SVLe.refl | refine ceb ?_)
      all_goals first | exact (show nodupB _ = true from rfl) | exact Or.inr rfl | ((unfold vSide; rw [all_no _ _ i.toNat (by omega) (by rw [decide_eq_true_eq]; exact hc)]; rfl))
    · refine q_again (i + 1) [] (by exact stk) ?_ ?_
      · exact ⟨by omega, by omega, all_snocI _ _ _ h0 (by omega) h2 (by rw [decide_eq_true_eq]; exact hc)⟩
      · omega
    all_goals (rw [List.take_of_length_le (by omega)] at h2)
    all_goals (have hl : xs ≠ [] → xs.getLastD 1 = xs.getLastD 1 := fun _ => rfl)
    · repeat refine cr ?_
      refine ends_id ?_
      refine endK [] (h2 := ?_) (h3 := ?_) (nd := ?_)
      all_goals (repeat' first | exact ce0 | refine ce ?_ | refine ce2 ?_ ?_ | exact SVLe.refl | refine ceb ?_)
      all_goals first | exact (show nodupB _ = true from rfl) | exact Or.inr rfl | ((have : xs = [] := List.eq_nil_of_length_eq_zero (by omega); subst this; unfold vSide; rfl))
    · repeat refine cr ?_
      refine ends_id ?_
      refine endK [] (h2 := ?_) (h3 := ?_) (nd := ?_)
      all_goals (repeat' first | exact ce0 | refine ce ?_ | refine ce2 ?_ ?_ | exact SVLe.refl | refine ceb ?_)
      all_goals first | exact (show nodupB _ = true from rfl) | exact Or.inr rfl | ((unfold vSide; rw [h2, getLastD_at xs 1 (by omega)]; simp; omega))
    · repeat refine cr ?_
      refine ends_id ?_
      refine endK [] (h2 := ?_) (h3 := ?_) (nd := ?_)
      all_goals (repeat' first | exact ce0 | refine ce ?_ | refine ce2 ?_ ?_ | exact SVLe.refl | refine ceb ?_)
      all_goals first | exact (show nodupB _ = true from rfl) | exact Or.inr rfl | ((unfold vSide; rw [h2, decide_eq_false] <;> first | rfl | omega))
@[irreducible] def vConf (m : Mach) (c : Conf) : Bool := decide (0 ≤ c.st ∧ c.st ≤ m.st - 1) && vSide m.sy c.le && vSide m.sy c.ri
theorem l05Good_ok (m : Mach) (c : Conf) (hx : (c.le.length : Int) ≤ 16777216) (hy : (c.ri.length : Int) ≤ 16777216) (h1 : -1000 ≤ m.sy) (h2 : m.sy ≤ 1000) (h3 : -1000 ≤ m.st) (h4 : m.st ≤ 1000) : Does Tryz.prog 182 [.one (maB m), .one (coB c)] [] (.one (boo (vConf m c))) [] := by
  refine does_of (k := 0) Tryz.func182 rfl Tryz.ntmps182 rfl rfl fun w F0 S0 ρ0 => ?_
  dsimp only [argT, argH]
  repeat' first | (apply p3; exact a_pure (sv := .one _) rfl; exact rfl) | refine cd ?_ | (apply g_drN (id := 1) okM [[],[0],[0,1],[0,1,2],[],[4],[4,5],[4,5,6],[4,5,6,7],[0,1,2,3,4,5,6,7,8],[0,1,2,3,4,5,6,7,8,9],[0,1,2,3,4,5,6,7,8,9,10],[0,1,2,3,4,5,6,7,8,9,10],[0,1,2,3,4,5,6,7,8,9,10,12],[0,1,2,3,4,5,6,7,8,9,10,12,13],[0,1,2,3,4,5,6,7,8,9,10,12,13,14],[0,1,2,3,4,5,6,7,8,9,10,11,12,13,14,15],[0,1,2,3,4,5,6,7,8,9,10,11,12,13,14,15,16],[0,1,2,3,4,5,6,7,8,9,10,11,12,13,14,15,16,17],[0,1,2,3,4,5,6,7,8,9,10,11,12,13,14,15,16,17,18],[0,1,2,3,4,5,6,7,8,9,10,11,12,13,14,15,16,17,18],[0,1,2,3,4,5,6,7,8,9,10,11,12,13,14,15,16,17,18,20],[0,1,2,3,4,5,6,7,8,9,10,11,12,13,14,15,16,17,18,20,21],[0,1,2,3,4,5,6,7,8,9,10,11,12,13,14,15,16,17,18,20,21,22],[0,1,2,3,4,5,6,7,8,9,10,11,12,13,14,15,16,17,18,19,20,21,22,23],[0,1,2,3,4,5,6,7,8,9,10,11,12,13,14,15,16,17,18,19,20,21,22,23,24],[0,1,2,3,4,5,6,7,8,9,10,11,12,13,14,15,16,17,18,19,20,21,22,23,24,25]] [([],[]),([],[]),([],[]),([],[]),([],[]),([],[]),([],[]),([],[]),([],[]),([],[]),([],[]),([],[]),([],[]),([],[]),([],[]),([],[]),([],[]),([],[]),([],[]),([],[]),([],[]),([],[]),([],[]),([],[]),([],[]),([],[]),([],[])] 0; (focus (all_goals refine dp 0 0 [9, 10, 11, 12, 13] [] pu1 ?_; all_goals refine dp 1 1 [9, 10, 11, 12, 13] [] (a_pure (sv := .one _) rfl) ?_; all_goals refine dp 2 3 [9, 10, 11, 12, 13] [] (a_pure (sv := .one _) rfl) ?_; all_goals refine dp 3 7 [9, 10, 11, 12, 13] [] puL ?_; all_goals refine dp 4 0 [5, 6, 7, 8] [] pu1 ?_; all_goals refine dp 5 1 [5, 6, 7, 8] [] (a_pure (sv := .one _) rfl) ?_; all_goals refine dp 6 3 [5, 6, 7, 8] [] (a_pure (sv := .one _) rfl) ?_; all_goals refine dp 7 7 [5, 6, 7, 8] [] puL ?_; all_goals refine dp 8 15 [5, 6, 7, 8] [] (a_sub rfl rfl (by omega) (by omega)) ?_; all_goals refine dp 9 511 [] [] (callD1 (n := _) 0 (θ := []) (hD := (l00In_ok _ _ _))) ?_; all_goals (refine db 10 1023 [] [] pu1 ?_ ?_ <;> (intro hc; first | cases hc | (try simp only [dcB] at hc); first | contradiction | (exfalso; omega) | skip)); all_goals (first | refine dn 11 2047 [17, 18, 19, 20] [] ?_ | refine dpy 11 2047 [17, 18, 19, 20] [] pu1 ?_); all_goals (first | refine dn 12 4094 [16] [] ?_ | refine dpy 12 4094 [16] [] pu1 ?_); all_goals (first | refine dn 13 8189 [16] [] ?_ | refine dpy 13 8189 [16] [] (a_pure (sv := .one _) rfl) ?_); all_goals (first | refine dn 14 16379 [16] [] ?_ | refine dpy 14 16379 [16] [] (a_pure (sv := .one _) rfl) ?_); all_goals (first | refine dn 15 32759 [16] [] ?_ | refine dpy 15 32759 [16] [] puL ?_); all_goals (first | refine dn 16 65535 [] [] ?_ | refine dpy 16 65535 [] [] (callD1 (n := _) 0 (θ := []) (hD := (l05Cells_ok _ _ preB2 preB2 preB2))) ?_); all_goals refine dp 17 131071 [] [] (a_pure (sv := .one _) rfl) ?_; all_goals (refine db 18 262143 [] [] pu1 ?_ ?_ <;> (intro hc; first | cases hc | (try simp only [dcB] at hc); first | contradiction | (exfalso; omega) | skip)); all_goals (first | refine dn 19 524287 [25, 26, 27, 28] [] ?_ | refine dpy 19 524287 [25, 26, 27, 28] [] pu1 ?_); all_goals (first | refine dn 20 1048574 [24] [] ?_ | refine dpy 20 1048574 [24] [] pu1 ?_); all_goals (first | refine dn 21 2097149 [24] [] ?_ | refine dpy 21 2097149 [24] [] (a_pure (sv := .one _) rfl) ?_); all_goals (first | refine dn 22 4194299 [24] [] ?_ | refine dpy 22 4194299 [24] [] (a_pure (sv := .one _) rfl) ?_); all_goals (first | refine dn 23 8388599 [24] [] ?_ | refine dpy 23 8388599 [24] [] puL ?_); all_goals (first | refine dn 24 16777215 [] [] ?_ | refine dpy 24 16777215 [] [] (callD1 (n := _) 0 (θ := []) (hD := (l05Cells_ok _ _ preB2 preB2 preB2))) ?_); all_goals refine dp 25 33554431 [] [] (a_pure (sv := .one _) rfl) ?_; all_goals refine dp 26 67108863 [] [] pu1 ?_; all_goals (refine d_nil ?_; refine dN ?_))); any_goals kernel_rfl) | ((first | refine o_gs rfl rfl (fun hc => ?_) (fun hc => ?_) | refine g_cond rfl (fun hc => ?_) (fun hc => ?_)) <;> (try simp only [dcB] at hc) <;> (try first | contradiction | (exfalso; omega)))
  all_goals
    repeat refine cr ?_
    refine ends_id ?_
    refine endK [] (h2 := ?_) (h3 := ?_) (nd := ?_)
    all_goals (repeat' first | exact ce0 | refine ce ?_ | refine ce2 ?_ ?_ | exact SVLe.refl | refine ceb ?_)
    all_goals first | exact (show nodupB _ = true from rfl) | exact Or.inr rfl | ((unfold vConf; first | (simp [*]; done) | (rw [decide_eq_false] <;> first | rfl | omega | (simp; done)) | (rw [decide_eq_true] <;> first | rfl | omega | (simp [*]; done)) | (simp_all; done) | (simp_all; omega)))
end Go.Proofs.YtcmdfohamphndaaGreatDoor
end
section
set_option linter.unusedVariables false
set_option linter.unusedSimpArgs false
set_option maxRecDepth 100000
set_option maxHeartbeats 4000000
namespace Go.Proofs.YtcmdfohamphndaaGreatDoor
open Go Foot
theorem preB3 {p : Prop} (h : p := by first | with_reducible assumption | omega | (simp only [List.length_append, List.length_cons, List.length_nil, List.length_set, List.length_replicate, List.length_take, List.length_drop, List.length_tail, List.length_dropLast, List.length_reverse] at *; omega) | exact mem_len (by assumption) (by omega) | (with_reducible refine Int.le_trans (Int.ofNat_le.2 (trimR_len _)) ?_; simp only [List.length_cons, List.length_tail]; omega) | (have := vMach_bd (by assumption); omega) | trivial) : p := h
theorem sizeR_ok (xs : List Rule') (hx : (xs.length : Int) ≤ 16777216) : Does Tryz.prog 138 [.one (shR xs)] [] (.one (int xs.length)) [] := by
  refine does_of (k := 0) Tryz.func138 rfl Tryz.ntmps138 rfl rfl fun w F0 S0 ρ0 => ?_
  dsimp only [argT, argH]
  repeat' first | (apply p3; (first | exact pu1 | exact puN | exact a_len_str rfl (fT rfl)); exact rfl) | refine cd ?_ | ((first | refine o_gs rfl rfl (fun hc => ?_) (fun hc => ?_) | refine g_cond rfl (fun hc => ?_) (fun hc => ?_)) <;> (try simp only [dcB] at hc) <;> (try first | contradiction | (exfalso; omega)))
  repeat refine cr ?_
  refine ends_id ?_
  refine endK [] (h2 := ?_) (h3 := ?_) (nd := ?_)
  all_goals (repeat' first | exact ce0 | refine ce ?_ | refine ce2 ?_ ?_ | exact SVLe.refl | refine ceb ?_)
  all_goals first | exact (show nodupB _ = true from rfl) | exact Or.inr rfl | (rfl)
theorem noRule_ok : Does Tryz.prog 153 [] [] (.agg [int 0, int 0, int (-1)]) [] := by
  refine does_of (k := 0) Tryz.func153 rfl Tryz.ntmps153 rfl rfl fun w F0 S0 ρ0 => ?_
  dsimp only [argT, argH]
  repeat' first | (apply n3; exact a_new (gb := .bx _) rfl; exact rfl; refine dA ?_) | (apply p3; exact a_pure (sv := .agg _) rfl; exact rfl) | refine cd ?_ | (apply w3; (first | exact a_st_bx rfl rfl rfl rfl (fN rfl rfl) (Nat.le_of_ble_eq_true rfl) rfl | exact a_stE (E := eR) ⟨_, _, _⟩ rfl rfl rfl rfl (fN rfl rfl) bnd (by exact rfl)); exact rfl; refine dS ?_) | ((first | refine o_gs rfl rfl (fun hc => ?_) (fun hc => ?_) | refine g_cond rfl (fun hc => ?_) (fun hc => ?_)) <;> (try simp only [dcB] at hc) <;> (try first | contradiction | (exfalso; omega)))
  repeat refine cr ?_
  refine ends_id ?_
  refine endK [] (h2 := ?_) (h3 := ?_) (nd := ?_)
  all_goals (repeat' first | exact ce0 | refine ce ?_ | refine ce2 ?_ ?_ | exact SVLe.refl | refine ceb ?_)
  all_goals first | exact (show nodupB _ = true from rfl) | exact Or.inr rfl | (rfl)
theorem isRule_ok (r : Rule') : Does Tryz.prog 133 [.agg (ruC r)] [] (.one (boo (!decide (r = ⟨0, 0, -1⟩)))) [] := by
  refine does_of (k := 0) Tryz.func133 rfl Tryz.ntmps133 rfl rfl fun w F0 S0 ρ0 => ?_
  dsimp only [argT, argH]
  repeat' first | (apply n3; exact a_new (gb := .bx _) rfl; exact rfl; refine dA ?_) | (apply p3; exact a_pure (sv := .one _) rfl; exact rfl) | refine cd ?_ | (apply g_drN (id := 1) okM [[],[],[0,1],[0,1,2]] [([],[]),([],[]),([],[]),([],[])] 0; (focus (refine dp 0 0 [4] [] puL ?_; refine dp 1 0 [3] [] (callD1 (n := _) 0 (θ := []) (hD := noRule_ok)) ?_; refine dp 2 3 [] [] (by first | exact a_neRule rfl rfl | exact a_neRule (s := ⟨_, _, _⟩) rfl rfl | exact a_neRule (r := ⟨_, _, _⟩) rfl rfl | exact a_neRule (r := ⟨_, _, _⟩) (s := ⟨_, _, _⟩) rfl rfl) ?_; refine dp 3 7 [] [] pu1 ?_; (refine d_nil ?_; refine dN ?_))); any_goals kernel_rfl) | ((first | refine o_gs rfl rfl (fun hc => ?_) (fun hc => ?_) | refine g_cond rfl (fun hc => ?_) (fun hc => ?_)) <;> (try simp only [dcB] at hc) <;> (try first | contradiction | (exfalso; omega)))
  repeat refine cr ?_
  refine ends_id ?_
  refine endK [] (h2 := ?_) (h3 := ?_) (nd := ?_)
  all_goals (repeat' first | exact ce0 | refine ce ?_ | refine ce2 ?_ ?_ | exact SVLe.refl | refine ceb ?_)
  all_goals first | exact (show nodupB _ = true from rfl) | exact Or.inr rfl | (rfl)
theorem validRule_ok (m : Mach) (r : Rule') (h1 : -1000 ≤ m.sy) (h2 : m.sy ≤ 1000) (h3 : -1000 ≤ m.st) (h4 : m.st ≤ 1000) : Does Tryz.prog 147 [.agg (maC m), .agg (ruC r)] [] (.one (boo (okRule m.sy m.st r))) [] := by
  refine does_of (k := 0) Tryz.func147 rfl Tryz.ntmps147 rfl rfl fun w F0 S0 ρ0 => ?_
  dsimp only [argT, argH]
  repeat' first | (apply n3; exact a_new (gb := .bx _) rfl; exact rfl; refine dA ?_) | (apply p3; (first | exact pu1 | exact puL | exact a_sub rfl rfl (by omega) (by omega) | exact puC | exact a_eqS rfl rfl rfl); exact rfl) | refine cd ?_ | (apply c4 0; exact callK1 (θ := []) (hD := (isRule_ok _)); exact rfl; exact rfl; exact rfl; refine dM ?_) | (apply c4 0; exact callK1 (θ := []) (hD := (within_ok _ _ _)); exact rfl; exact rfl; exact rfl; refine dM ?_) | refine o_no rfl rfl rfl rfl ?_ | refine o_noN rfl rfl rfl ?_ | (apply py3; exact rfl; exact rfl; (first | exact pu1 | exact puL | exact a_sub rfl rfl (by omega) (by omega) | exact puC | exact a_eqS rfl rfl rfl); exact rfl; exact rfl) | (apply ny3; exact rfl; exact rfl; exact a_new (gb := .bx _) rfl; exact rfl; exact rfl) | (apply cy4 0; exact rfl; exact rfl; exact callK1 (θ := []) (hD := (isRule_ok _)); exact rfl; exact rfl; exact rfl; exact rfl; refine dM ?_) | (apply cy4 0; exact rfl; exact rfl; exact callK1 (θ := []) (hD := (within_ok _ _ _)); exact rfl; exact rfl; exact rfl; exact rfl; refine dM ?_) | ((first | refine o_gs rfl rfl (fun hc => ?_) (fun hc => ?_) | refine g_cond rfl (fun hc => ?_) (fun hc => ?_)) <;> (try simp only [dcB] at hc) <;> (try first | contradiction | (exfalso; omega)))
  all_goals
    repeat refine cr ?_
    refine ends_id ?_
    refine endK [] (h2 := ?_) (h3 := ?_) (nd := ?_)
    all_goals (repeat' first | exact ce0 | refine ce ?_ | refine ce2 ?_ ?_ | exact SVLe.refl | refine ceb ?_)
    all_goals first | exact (show nodupB _ = true from rfl) | exact Or.inr rfl | ((unfold okRule; first | (simp [*]; done) | (rw [decide_eq_false] <;> first | rfl | omega | (simp; done)) | (rw [decide_eq_true] <;> first | rfl | omega | (simp [*]; done)) | (simp_all; done) | (simp_all; omega)))
theorem validM1_ok (m : Mach) (r : Rule') (h1 : -1000 ≤ m.sy) (h2 : m.sy ≤ 1000) (h3 : -1000 ≤ m.st) (h4 : m.st ≤ 1000) : Does Tryz.prog 146 [.agg (ruC r), .one (maB m)] [] (.one (boo (!okRule m.sy m.st r))) [] := by
  refine does_of (k := 0) Tryz.func146 rfl Tryz.ntmps146 rfl rfl fun w F0 S0 ρ0 => ?_
  dsimp only [argT, argH]
  repeat' first | (apply n3; exact a_new (gb := .bx _) rfl; exact rfl; refine dA ?_) | (apply p3; (first | exact pu1 | exact puL); exact rfl) | refine cd ?_ | (apply c4 0; exact callK1 (θ := []) (hD := (validRule_ok _ _ preB3 preB3 preB3 preB3)); exact rfl; exact rfl; exact rfl; refine dM ?_) | ((first | refine o_gs rfl rfl (fun hc => ?_) (fun hc => ?_) | refine g_cond rfl (fun hc => ?_) (fun hc => ?_)) <;> (try simp only [dcB] at hc) <;> (try first | contradiction | (exfalso; omega)))
  repeat refine cr ?_
  refine ends_id ?_
  refine endK [] (h2 := ?_) (h3 := ?_) (nd := ?_)
  all_goals (repeat' first | exact ce0 | refine ce ?_ | refine ce2 ?_ ?_ | exact SVLe.refl | refine ceb ?_)
  all_goals first | exact (show nodupB _ = true from rfl) | exact Or.inr rfl | (rfl)
theorem idxR_ok (xs : List Rule') (k : Nat) (d : D) (p : Rule' → Bool) (hx : (xs.length : Int) ≤ 16777216) (hE : entB Tryz.prog k = true) (hp : ∀ r, Does Tryz.prog k [.agg (ruC r), .one (.d d)] [] (.one (boo (p r))) []) : Does Tryz.prog 194 [.one (shR xs), .one (.d (.fn (.func k) [d]))] [] (.one (int (idxF p xs))) [] := by
  refine does_of (k := 0) Tryz.func194 rfl Tryz.ntmps194 rfl rfl fun w F0 S0 ρ0 => ?_
  dsimp only [argT, argH]
  repeat' first | (apply p3; (first | exact pu1 | exact puL | exact puN | exact a_len_str rfl (fT rfl) | exact puC | exact a_add rfl rfl (by omega) (by omega) | exact puI); exact rfl) | refine cd ?_ | (apply c4 0; exact callK0 (θ := []) (hE := hE) (hD := (hp _)); exact rfl; exact rfl; exact rfl; refine dM ?_) | ((first | refine o_gs rfl rfl (fun hc => ?_) (fun hc => ?_) | refine g_cond rfl (fun hc => ?_) (fun hc => ?_)) <;> (try simp only [dcB] at hc) <;> (try first | contradiction | (exfalso; omega)))
  refine g_loop_id ?_
  refine loopK [0, 1, 4, 7] [] (fun i : Int => 0 ≤ i ∧ i ≤ xs.length ∧ (xs.take i.toNat).all (fun x => !p x) = true) (fun i => [(8, .one (int i))]) (fun _ => []) (fun i => (xs.length - i).toNat) (0 : Int) [] (hI := ?_) (hr := ?_)
  · exact ⟨by omega, by omega, rfl⟩
  · rintro i ⟨h0, h1, h2⟩
    dsimp only [List.cons_append, List.nil_append] at *
    skip
    repeat' first | (apply p3; (first | exact pu1 | exact puL | exact puC | exact a_add rfl rfl (by omega) (by omega) | exact puI); exact rfl) | refine cd ?_ | (apply c4 0; exact callK0 (θ := []) (hE := hE) (hD := (hp _)); exact rfl; exact rfl; exact rfl; refine dM ?_) | ((first | refine o_gs rfl rfl (fun hc => ?_) (fun hc => ?_) | refine g_cond rfl (fun hc => ?_) (fun hc => ?_)) <;> (try simp only [dcB] at hc) <;> (try first | contradiction | (exfalso; omega)))
    · repeat refine cr ?_
      refine ends_id ?_
      refine endK [] (h2 := ?_) (h3 := ?_) (nd := ?_)
      all_goals (repeat' first | exact ce0 | refine ce ?_ | refine ce2 ?_ ?_ | exact SVLe.refl | refine ceb ?_)
      all_goals first | exact (show nodupB _ = true from rfl) | exact Or.inr rfl | (exact (idxF_stop p xs i h0 (by omega) h2 hc).symm)
    · refine q_again (i + 1) [] (by exact stk) ?_ ?_
      · exact ⟨by omega, by omega, all_snocI _ _ _ h0 (by omega) h2 (by simp [hc])⟩
      · omega
    · repeat refine cr ?_
      refine ends_id ?_
      refine endK [] (h2 := ?_) (h3 := ?_) (nd := ?_)
      all_goals (repeat' first | exact ce0 | refine ce ?_ | refine ce2 ?_ ?_ | exact SVLe.refl | refine ceb ?_)
      all_goals first | exact (show nodupB _ = true from rfl) | exact Or.inr rfl | ((rw [List.take_of_length_le (by omega)] at h2; exact (idxF_none p xs h2).symm))
theorem hasR_ok (xs : List Rule') (k : Nat) (d : D) (p : Rule' → Bool) (hx : (xs.length : Int) ≤ 16777216) (hE : entB Tryz.prog k = true) (hp : ∀ r, Does Tryz.prog k [.agg (ruC r), .one (.d d)] [] (.one (boo (p r))) []) : Does Tryz.prog 145 [.one (shR xs), .one (.d (.fn (.func k) [d]))] [] (.one (boo (xs.any p))) [] := by
  refine does_of (k := 0) Tryz.func145 rfl Tryz.ntmps145 rfl rfl fun w F0 S0 ρ0 => ?_
  dsimp only [argT, argH]
  repeat' first | (apply p3; (first | exact pu1 | exact puC); exact rfl) | refine cd ?_ | (apply c4 0; exact callK1 (θ := []) (hD := (idxR_ok _ _ _ _ preB3 preB3 preB3)); exact rfl; exact rfl; exact rfl; refine dM ?_) | ((first | refine o_gs rfl rfl (fun hc => ?_) (fun hc => ?_) | refine g_cond rfl (fun hc => ?_) (fun hc => ?_)) <;> (try simp only [dcB] at hc) <;> (try first | contradiction | (exfalso; omega)))
  repeat refine cr ?_
  refine ends_id ?_
  refine endK [] (h2 := ?_) (h3 := ?_) (nd := ?_)
  all_goals (repeat' first | exact ce0 | refine ce ?_ | refine ce2 ?_ ?_ | exact SVLe.refl | refine ceb ?_)
  all_goals first | exact (show nodupB _ = true from rfl) | exact Or.inr rfl | (exact idxF_any p xs)
abbrev maD (m : Mach) : D := .bx false [.sc (.int .i64 m.sy), .sc (.int .i64 m.st), .sl false 3 (rows eR m.ru)]
theorem hasM_ok (m : Mach) (xs : List Rule') (hx : (xs.length : Int) ≤ 16777216) (h1 : -1000 ≤ m.sy) (h2 : m.sy ≤ 1000) (h3 : -1000 ≤ m.st) (h4 : m.st ≤ 1000) : Does Tryz.prog 145 [.one (shR xs), .one (.d (.fn (.func 146) [maD m]))] [] (.one (boo (xs.any fun r => !okRule m.sy m.st r))) [] := hasR_ok xs _ (maD m) _ hx (fQ rfl) fun r => validM1_ok m r h1 h2 h3 h4
theorem ValidMachine_ok (m : Mach) (hm : (m.ru.length : Int) ≤ 16777216) : Does Tryz.prog 86 [.agg (maC m)] [] (.one (boo (vMach m))) [] := by
  refine does_of (k := 0) Tryz.func86 rfl Tryz.ntmps86 rfl rfl fun w F0 S0 ρ0 => ?_
  dsimp only [argT, argH]
  repeat' first | (apply n3; exact a_new (gb := .bx _) rfl; exact rfl; refine dA ?_) | (apply p3; (first | exact pu1 | exact puL); exact rfl) | refine cd ?_ | (apply c4 0; exact callK1 (θ := []) (hD := (hasR_ok _ _ _ _ preB3 preB3 preB3)); exact rfl; exact rfl; exact rfl; refine dM ?_) | (apply c4 0; exact callK1 (θ := []) (hD := (hasM_ok _ _ preB3 preB3 preB3 preB3 preB3)); exact rfl; exact rfl; exact rfl; refine dM ?_) | (apply g_drN (id := 1) okM [[],[0],[0,1],[0,1,2],[0,1,2,3],[0,1,2,3,4],[0,1,2,3,4,5],[0,1,2,3,4,5,6],[0,1,2,3,4,5,6,7],[0,1,2,3,4,5,6,7,8],[0,1,2,3,4,5,6,7,8,9],[0,1,2,3,4,5,6,7,8,9,10],[0,1,2,3,4,5,6,7,8,9,10,11],[0,1,2,3,4,5,6,7,8,9,10,11,12],[0,1,2,3,4,5,6,7,8,9,10],[0,1,2,3,4,5,6,7,8,9,10,14],[0,1,2,3,4,5,6,7,8,9,10],[0,1,2,3,4,5,6,7,8,9,10,16],[0,1,2,3,4,5,6,7,8,9,10,14,15,16,17],[0,1,2,3,4,5,6,7,8,9,10,11,12,13,14,15,16,17,18],[0,1,2,3,4,5,6,7,8,9,10,11,12,13,14,15,16,17,18,19]] [([],[]),([],[]),([],[]),([],[]),([],[]),([],[]),([],[]),([],[]),([],[]),([],[]),([],[]),([],[]),([],[]),([],[]),([],[]),([],[]),([],[]),([],[]),([],[]),([],[]),([],[])] 0; (focus (all_goals refine dp 0 0 [] [] (a_pure (sv := .one _) rfl) ?_; all_goals refine dp 1 1 [] [] puL ?_; all_goals refine dp 2 3 [] [] (callD1 (n := _) 0 (θ := []) (hD := (within_ok _ _ _))) ?_; all_goals refine dp 3 7 [] [] (a_pure (sv := .one _) rfl) ?_; all_goals (refine db 4 15 [] [] pu1 ?_ ?_ <;> (intro hc; first | cases hc | (try simp only [dcB] at hc); first | contradiction | (exfalso; omega) | skip)); all_goals (first | refine dn 5 31 [] [] ?_ | refine dpy 5 31 [] [] (a_pure (sv := .one _) rfl) ?_); all_goals (first | refine dn 6 63 [] [] ?_ | refine dpy 6 63 [] [] puL ?_); all_goals (first | refine dn 7 127 [] [] ?_ | refine dpy 7 127 [] [] (callD1 (n := _) 0 (θ := []) (hD := (within_ok _ _ _))) ?_); all_goals (first | refine dn 8 255 [] [] ?_ | refine dpy 8 255 [] [] (a_pure (sv := .one _) rfl) ?_); all_goals refine dp 9 511 [] [] (a_pure (sv := .one _) rfl) ?_; all_goals (refine db 10 1023 [] [] pu1 ?_ ?_ <;> (intro hc; first | cases hc | (try simp only [dcB] at hc); first | contradiction | (exfalso; omega) | skip)); all_goals (first | refine dn 11 2047 [17, 18, 19, 20, 21] [] ?_ | refine dpy 11 2047 [17, 18, 19, 20, 21] [] (a_pure (sv := .one _) rfl) ?_); all_goals (first | refine dn 12 4095 [17, 18, 19, 20, 21] [] ?_ | refine dpy 12 4095 [17, 18, 19, 20, 21] [] puL ?_); all_goals (first | refine dn 13 8191 [17, 18, 19, 20, 21] [] ?_ | refine dpy 13 8191 [17, 18, 19, 20, 21] [] (callD1 (n := _) 0 (θ := []) (hD := (sizeR_ok _ preB3))) ?_); all_goals (first | refine dn 14 16376 [14, 15, 16, 19, 20] [] ?_ | refine dpy 14 16376 [14, 15, 16, 19, 20] [] (a_pure (sv := .one _) rfl) ?_); all_goals (first | refine dn 15 32753 [14, 15, 16, 19, 20] [] ?_ | refine dpy 15 32753 [14, 15, 16, 19, 20] [] puL ?_); all_goals (first | refine dn 16 65504 [14, 15, 16, 17, 18] [] ?_ | refine dpy 16 65504 [14, 15, 16, 17, 18] [] (a_pure (sv := .one _) rfl) ?_); all_goals (first | refine dn 17 131009 [14, 15, 16, 17, 18] [] ?_ | refine dpy 17 131009 [14, 15, 16, 17, 18] [] puL ?_); all_goals (first | refine dn 18 262031 [14, 15, 16] [] ?_ | refine dpy 18 262031 [14, 15, 16] [] (by first | exact a_mulB rfl rfl (by omega) (by omega) (by omega) (by omega) | exact a_mul rfl rfl (by first | omega | assumption) (by first | omega | assumption)) ?_); all_goals (first | refine dn 19 524287 [] [] ?_ | refine dpy 19 524287 [] [] (by first | exact a_ne rfl rfl | exact a_neS rfl rfl rfl) ?_); all_goals refine dp 20 1048575 [] [] (a_pure (sv := .one _) rfl) ?_; all_goals (refine d_nil ?_; refine dN ?_))); any_goals kernel_rfl) | ((first | refine o_gs rfl rfl (fun hc => ?_) (fun hc => ?_) | refine g_cond rfl (fun hc => ?_) (fun hc => ?_)) <;> (try simp only [dcB] at hc) <;> (try first | contradiction | (exfalso; omega)))
  · repeat refine cr ?_
    refine ends_id ?_
    refine endK [] (h2 := ?_) (h3 := ?_) (nd := ?_)
    all_goals (repeat' first | exact ce0 | refine ce ?_ | refine ce2 ?_ ?_ | exact SVLe.refl | refine ceb ?_)
    all_goals first | exact (show nodupB _ = true from rfl) | exact Or.inr rfl | ((unfold vMach; first | (simp [*]; done) | (rw [decide_eq_false] <;> first | rfl | omega | (simp; done)) | (rw [decide_eq_true] <;> first | rfl | omega | (simp [*]; done)) | (simp_all; done) | (simp_all; omega)))
  · repeat refine cr ?_
    refine ends_id ?_
    refine endK [] (h2 := ?_) (h3 := ?_) (nd := ?_)
    all_goals (repeat' first | exact ce0 | refine ce ?_ | refine ce2 ?_ ?_ | exact SVLe.refl | refine ceb ?_)
    all_goals first | exact (show nodupB _ = true from rfl) | exact Or.inr rfl | ((unfold vMach; first | (simp [*]; done) | (rw [decide_eq_false] <;> first | rfl | omega | (simp; done)) | (rw [decide_eq_true] <;> first | rfl | omega | (simp [*]; done)) | (simp_all; done) | (simp_all; omega)))
  · repeat refine cr ?_
    refine ends_id ?_
    refine endK [] (h2 := ?_) (h3 := ?_) (nd := ?_)
    all_goals (repeat' first | exact ce0 | refine ce ?_ | refine ce2 ?_ ?_ | exact SVLe.refl | refine ceb ?_)
    all_goals first | exact (show nodupB _ = true from rfl) | exact Or.inr rfl | ((rw [Int.mul_comm] at hc; unfold vMach; rw [decide_eq_false] <;> first | rfl | omega))
  · repeat refine cr ?_
    refine ends_id ?_
    refine endK [] (h2 := ?_) (h3 := ?_) (nd := ?_)
    all_goals (repeat' first | exact ce0 | refine ce ?_ | refine ce2 ?_ ?_ | exact SVLe.refl | refine ceb ?_)
    all_goals first | exact (show nodupB _ = true from rfl) | exact Or.inr rfl | ((rw [Int.mul_comm] at hc; rw [not_any_not]; unfold vMach; rw [decide_eq_true] <;> first | rfl | omega))
theorem validSide_ok (xs : List Int) (sy : Int) (hx : (xs.length : Int) ≤ 16777216) (h1 : -1000 ≤ sy) (h2 : sy ≤ 1000) : Does Tryz.prog 193 [.one (shI xs), .one (int sy), .one (int 200)] [] (.one (boo (vSide sy xs))) [] := by
  refine does_of (k := 0) Tryz.func193 rfl Tryz.ntmps193 rfl rfl fun w F0 S0 ρ0 => ?_
  dsimp only [argT, argH]
  repeat' first | (apply p3; (first | exact pu1 | exact puL | exact puC | exact a_sub rfl rfl (by omega) (by omega) | exact puN | exact a_len_str rfl (fT rfl) | exact a_eqS rfl rfl rfl | exact a_ne rfl rfl | exact a_neS rfl rfl rfl | exact puI); exact rfl) | refine cd ?_ | (apply c4 0; exact callK1 (θ := []) (hD := (sizeI_ok _ preB3)); exact rfl; exact rfl; exact rfl; refine dM ?_) | (apply c4 0; exact callK1 (θ := []) (hD := (allWithin_ok _ _ _ preB3)); exact rfl; exact rfl; exact rfl; refine dM ?_) | refine o_no rfl rfl rfl rfl ?_ | refine o_noN rfl rfl rfl ?_ | (apply py3; exact rfl; exact rfl; (first | exact pu1 | exact puL | exact puC | exact a_sub rfl rfl (by omega) (by omega) | exact puN | exact a_len_str rfl (fT rfl) | exact a_eqS rfl rfl rfl | exact a_ne rfl rfl | exact a_neS rfl rfl rfl | exact puI); exact rfl; exact rfl) | (apply cy4 0; exact rfl; exact rfl; exact callK1 (θ := []) (hD := (sizeI_ok _ preB3)); exact rfl; exact rfl; exact rfl; exact rfl; refine dM ?_) | (apply cy4 0; exact rfl; exact rfl; exact callK1 (θ := []) (hD := (allWithin_ok _ _ _ preB3)); exact rfl; exact rfl; exact rfl; exact rfl; refine dM ?_) | ((first | refine o_gs rfl rfl (fun hc => ?_) (fun hc => ?_) | refine g_cond rfl (fun hc => ?_) (fun hc => ?_)) <;> (try simp only [dcB] at hc) <;> (try first | contradiction | (exfalso; omega)))
  · repeat refine cr ?_
    refine ends_id ?_
    refine endK [] (h2 := ?_) (h3 := ?_) (nd := ?_)
    all_goals (repeat' first | exact ce0 | refine ce ?_ | refine ce2 ?_ ?_ | exact SVLe.refl | refine ceb ?_)
    all_goals first | exact (show nodupB _ = true from rfl) | exact Or.inr rfl | ((have : xs = [] := List.eq_nil_of_length_eq_zero (by omega); subst this; unfold vSide; rfl))
  · repeat refine cr ?_
    refine ends_id ?_
    refine endK [] (h2 := ?_) (h3 := ?_) (nd := ?_)
    all_goals (repeat' first | exact ce0 | refine ce ?_ | refine ce2 ?_ ?_ | exact SVLe.refl | refine ceb ?_)
    all_goals first | exact (show nodupB _ = true from rfl) | exact Or.inr rfl | ((unfold vSide; unfold inAll at *; rw [getLastD_at xs 1 (by omega)]; simp_all))
  · repeat refine cr ?_
    refine ends_id ?_
    refine endK [] (h2 := ?_) (h3 := ?_) (nd := ?_)
    all_goals (repeat' first | exact ce0 | refine ce ?_ | refine ce2 ?_ ?_ | exact SVLe.refl | refine ceb ?_)
    all_goals first | exact (show nodupB _ = true from rfl) | exact Or.inr rfl | ((unfold vSide; unfold inAll at hc; rw [hc]; rfl))
  · repeat refine cr ?_
    refine ends_id ?_
    refine endK [] (h2 := ?_) (h3 := ?_) (nd := ?_)
    all_goals (repeat' first | exact ce0 | refine ce ?_ | refine ce2 ?_ ?_ | exact SVLe.refl | refine ceb ?_)
    all_goals first | exact (show nodupB _ = true from rfl) | exact Or.inr rfl | ((unfold vSide; rw [decide_eq_false] <;> first | omega | simp))
theorem configOf_ok (m : Mach) (c : Conf) (hx : (c.le.length : Int) ≤ 16777216) (hy : (c.ri.length : Int) ≤ 16777216) (h1 : -1000 ≤ m.sy) (h2 : m.sy ≤ 1000) (h3 : -1000 ≤ m.st) (h4 : m.st ≤ 1000) : Does Tryz.prog 130 [.agg (maC m), .agg (coC c)] [] (.one (boo (vConf m c))) [] := by
  refine does_of (k := 0) Tryz.func130 rfl Tryz.ntmps130 rfl rfl fun w F0 S0 ρ0 => ?_
  dsimp only [argT, argH]
  repeat' first | (apply n3; exact a_new (gb := .bx _) rfl; exact rfl; refine dA ?_) | (apply p3; (first | exact pu1 | exact puL | exact a_sub rfl rfl (by omega) (by omega)); exact rfl) | refine cd ?_ | (apply c4 0; exact callK1 (θ := []) (hD := (within_ok _ _ _)); exact rfl; exact rfl; exact rfl; refine dM ?_) | (apply c4 0; exact callK1 (θ := []) (hD := (validSide_ok _ _ preB3 preB3 preB3)); exact rfl; exact rfl; exact rfl; refine dM ?_) | refine o_no rfl rfl rfl rfl ?_ | refine o_noN rfl rfl rfl ?_ | (apply py3; exact rfl; exact rfl; (first | exact pu1 | exact puL | exact a_sub rfl rfl (by omega) (by omega)); exact rfl; exact rfl) | (apply ny3; exact rfl; exact rfl; exact a_new (gb := .bx _) rfl; exact rfl; exact rfl) | (apply cy4 0; exact rfl; exact rfl; exact callK1 (θ := []) (hD := (within_ok _ _ _)); exact rfl; exact rfl; exact rfl; exact rfl; refine dM ?_) | (apply cy4 0; exact rfl; exact rfl; exact callK1 (θ := []) (hD := (validSide_ok _ _ preB3 preB3 preB3)); exact rfl; exact rfl; exact rfl; exact rfl; refine dM ?_) | ((first | refine o_gs rfl rfl (fun hc => ?_) (fun hc => ?_) | refine g_cond rfl (fun hc => ?_) (fun hc => ?_)) <;> (try simp only [dcB] at hc) <;> (try first | contradiction | (exfalso; omega)))
  all_goals
    repeat refine cr ?_
    refine ends_id ?_
    refine endK [] (h2 := ?_) (h3 := ?_) (nd := ?_)
    all_goals (repeat' first | exact ce0 | refine ce ?_ | refine ce2 ?_ ?_ | exact SVLe.refl | refine ceb ?_)
    all_goals first | exact (show nodupB _ = true from rfl) | exact Or.inr rfl | ((unfold vConf; first | (simp [*]; done) | (rw [decide_eq_false] <;> first | rfl | omega | (simp; done)) | (rw [decide_eq_true] <;> first | rfl | omega | (simp [*]; done)) | (simp_all; done) | (simp_all; omega)))
/-- The code for a machine, a configuration and a budget. -/
@[irreducible] def askC (m : Mach) (c : Conf) (b : Int) : Int := if vMach m = true ∧ vConf m c = true then if 1 ≤ b ∧ b ≤ 20000 then 0 else 2 else 1
end Go.Proofs.YtcmdfohamphndaaGreatDoor
end
section
set_option linter.unusedVariables false
set_option linter.unusedSimpArgs false
set_option maxRecDepth 100000
set_option maxHeartbeats 4000000
namespace Go.Proofs.YtcmdfohamphndaaGreatDoor
open Go Foot
@[irreducible] def pushL (l : List Int) (x : Int) : List Int := if x = 0 ∧ l = [] then l else l ++ [x]
end Go.Proofs.YtcmdfohamphndaaGreatDoor
end
section
set_option linter.unusedVariables false
set_option linter.unusedSimpArgs false
set_option maxRecDepth 100000
set_option maxHeartbeats 4000000
namespace Go.Proofs.YtcmdfohamphndaaGreatDoor
open Go Foot
theorem pushL_len (l : List Int) (x : Int) : (pushL l x).length ≤ l.length + 1 := by unfold pushL; split <;> simp
theorem preB5 {p : Prop} (h : p := by first | with_reducible assumption | omega | (simp only [List.length_append, List.length_cons, List.length_nil, List.length_set, List.length_replicate, List.length_take, List.length_drop, List.length_tail, List.length_dropLast, List.length_reverse] at *; omega) | exact mem_len (by assumption) (by omega) | (with_reducible refine Int.le_trans (Int.ofNat_le.2 (trimR_len _)) ?_; simp only [List.length_cons, List.length_tail]; omega) | (have := vMach_bd (by assumption); omega) | (with_reducible refine Int.le_trans (Int.ofNat_le.2 (pushL_len _ _)) ?_; simp only [List.length_dropLast]; omega) | trivial) : p := h
theorem l05Halts_ok (m : Mach) (c : Conf) (hc : (c.ri.length : Int) ≤ 16777216) (h1 : 0 ≤ c.st * m.sy) (h2 : c.st * m.sy < 9223372036854775) (h3 : 0 ≤ c.ri.headD 0) (h4 : c.ri.headD 0 < 9223372036854775) (h5 : c.st * m.sy + c.ri.headD 0 < m.ru.length) : Does Tryz.prog 183 [.one (maB m), .one (coB c)] [] (.one (boo (decide (m.ru[(c.st * m.sy + c.ri.headD 0).toNat]'(by omega) = ⟨0, 0, -1⟩)))) [] := by
  refine does_of (k := 0) Tryz.func183 rfl Tryz.ntmps183 rfl rfl fun w F0 S0 ρ0 => ?_
  dsimp only [argT, argH]
  repeat' first | (apply p3; exact a_pure (sv := .one _) rfl; exact rfl) | refine cd ?_ | (apply g_drN (id := 1) okM [[],[0],[0,1],[0,1,2],[],[],[4,5],[0,1,2,3,4,5,6],[0,1,2,3,4,5,6,7],[4,5,6],[0,1,2,3,4,5,6,7,8,9],[0,1,2,3,4,5,6,7,8,9,10]] [([],[]),([],[]),([],[]),([],[]),([],[]),([],[]),([],[]),([],[]),([],[]),([],[]),([],[]),([],[])] 0; (focus (refine dp 0 0 [9, 10, 11, 14] [] pu1 ?_; refine dp 1 1 [9, 10, 11, 14] [] (a_pure (sv := .one _) rfl) ?_; refine dp 2 3 [9, 10, 11, 14] [] (a_pure (sv := .one _) rfl) ?_; refine dp 3 7 [9, 10, 11, 14] [] puL ?_; refine dp 4 0 [5, 6, 7, 8, 10] [] pu1 ?_; refine dp 5 0 [5, 6, 7, 8, 9] [] pu1 ?_; refine dp 6 3 [5, 6, 7, 8] [] (callD1 (n := _) 0 (θ := []) (hD := (l05At_ok _ _ preB5 preB5 preB5 preB5 preB5))) ?_; refine dp 7 127 [14] [] puI ?_; refine dp 8 255 [14] [] puL ?_; refine dp 9 28 [5, 6, 7, 8, 12, 13] [] (callD1 (n := _) 0 (θ := []) (hD := l05None_ok)) ?_; refine dp 10 1023 [] [] (by first | exact a_eqRule rfl rfl | exact a_eqRule (s := ⟨_, _, _⟩) rfl rfl | exact a_eqRule (r := ⟨_, _, _⟩) rfl rfl | exact a_eqRule (r := ⟨_, _, _⟩) (s := ⟨_, _, _⟩) rfl rfl) ?_; refine dp 11 2047 [] [] pu1 ?_; (refine d_nil ?_; refine dN ?_))); any_goals kernel_rfl) | ((first | refine o_gs rfl rfl (fun hc => ?_) (fun hc => ?_) | refine g_cond rfl (fun hc => ?_) (fun hc => ?_)) <;> (try simp only [dcB] at hc) <;> (try first | contradiction | (exfalso; omega)))
  repeat refine cr ?_
  refine ends_id ?_
  refine endK [] (h2 := ?_) (h3 := ?_) (nd := ?_)
  all_goals (repeat' first | exact ce0 | refine ce ?_ | refine ce2 ?_ ?_ | exact SVLe.refl | refine ceb ?_)
  all_goals first | exact (show nodupB _ = true from rfl) | exact Or.inr rfl | (rfl)
end Go.Proofs.YtcmdfohamphndaaGreatDoor
end
section
set_option linter.unusedVariables false
set_option linter.unusedSimpArgs false
set_option maxRecDepth 100000
set_option maxHeartbeats 4000000
namespace Go.Proofs.YtcmdfohamphndaaGreatDoor
open Go Foot
theorem vSide_bd {sy : Int} {l : List Int} (h : vSide sy l = true) : (l.length : Int) ≤ 200 ∧ (∀ x ∈ l, 0 ≤ x ∧ x ≤ sy - 1) ∧ l.getLastD 1 ≠ 0 := by
  unfold vSide at h
  simp only [Bool.and_eq_true, List.all_eq_true, decide_eq_true_eq] at h
  exact ⟨h.2.1, h.1, h.2.2⟩
theorem vSide_mk {sy : Int} {l : List Int} (h1 : (l.length : Int) ≤ 200) (h2 : ∀ x ∈ l, 0 ≤ x ∧ x ≤ sy - 1) (h3 : l.getLastD 1 ≠ 0) : vSide sy l = true := by
  unfold vSide
  simp only [Bool.and_eq_true, List.all_eq_true, decide_eq_true_eq]
  exact ⟨h2, h1, h3⟩
theorem vConf_bd {m : Mach} {c : Conf} (h : vConf m c = true) : (0 ≤ c.st ∧ c.st ≤ m.st - 1) ∧ vSide m.sy c.le = true ∧ vSide m.sy c.ri = true := by
  unfold vConf at h
  simp only [Bool.and_eq_true, decide_eq_true_eq] at h
  exact ⟨h.1.1, h.1.2, h.2⟩
theorem vConf_mk {m : Mach} {c : Conf} (h : (0 ≤ c.st ∧ c.st ≤ m.st - 1) ∧ vSide m.sy c.le = true ∧ vSide m.sy c.ri = true) : vConf m c = true := by
  unfold vConf
  simp only [Bool.and_eq_true, decide_eq_true_eq]
  exact ⟨⟨h.1, h.2.1⟩, h.2.2⟩
abbrev noR : Rule' := ⟨0, 0, -1⟩
/-- The rule for a configuration. -/
@[irreducible] def ruAt (m : Mach) (c : Conf) : Rule' := m.ru.getD (c.st * m.sy + c.ri.headD 0).toNat noR
theorem headD_bd {sy : Int} {l : List Int} (hs : 2 ≤ sy) (h : vSide sy l = true) : 0 ≤ l.headD 0 ∧ l.headD 0 ≤ sy - 1 := by
  have := (vSide_bd h).2.1
  cases l with
  | nil => simp; omega
  | cons a l => exact this a (by simp)
theorem at_bd {m : Mach} {c : Conf} (hm : vMach m = true) (hc : vConf m c = true) : 0 ≤ c.st * m.sy ∧ 0 ≤ c.ri.headD 0 ∧ c.ri.headD 0 ≤ 5 ∧ c.st * m.sy + c.ri.headD 0 < m.ru.length ∧ (m.ru.length : Int) ≤ 6000 ∧ c.st ≤ 999 ∧ 0 ≤ c.st ∧ (c.le.length : Int) ≤ 200 ∧ (c.ri.length : Int) ≤ 200 := by
  obtain ⟨⟨h1, h2⟩, ⟨h3, h4⟩, h5⟩ := vMach_bd hm
  obtain ⟨⟨h6, h7⟩, h8, h9⟩ := vConf_bd hc
  obtain ⟨h10, h11⟩ := headD_bd h1 h9
  have a1 : c.st * m.sy ≤ (m.st - 1) * m.sy := Int.mul_le_mul_of_nonneg_right h7 (by omega)
  have a2 : (m.st - 1) * m.sy = m.sy * m.st - m.sy := by rw [Int.sub_mul, Int.mul_comm]; omega
  have a3 : m.sy * m.st ≤ 6 * m.st := Int.mul_le_mul_of_nonneg_right h2 (by omega)
  exact ⟨Int.mul_nonneg h6 (by omega), h10, by omega, by omega, by omega, by omega, h6, (vSide_bd h8).1, (vSide_bd h9).1⟩
theorem ruAt_get {m : Mach} {c : Conf} (hm : vMach m = true) (hc : vConf m c = true) : m.ru[(c.st * m.sy + c.ri.headD 0).toNat]? = some (ruAt m c) := by
  have h := at_bd hm hc
  rw [ruAt, List.getD_eq_getElem?_getD, List.getElem?_eq_getElem (by omega)]
  rfl
theorem ruAt_ge {m : Mach} {c : Conf} (hm : vMach m = true) (hc : vConf m c = true) (h : (c.st * m.sy + c.ri.headD 0).toNat < m.ru.length) : m.ru[(c.st * m.sy + c.ri.headD 0).toNat] = ruAt m c :=
  (List.getElem?_eq_some_iff.1 (ruAt_get hm hc)).2
theorem ruAt_ok {m : Mach} {c : Conf} (hm : vMach m = true) (hc : vConf m c = true) (hn : ruAt m c ≠ noR) : (0 ≤ (ruAt m c).w ∧ (ruAt m c).w ≤ m.sy - 1) ∧ ((ruAt m c).m = 1 ∨ (ruAt m c).m = -1) ∧ 0 ≤ (ruAt m c).n ∧ (ruAt m c).n ≤ m.st - 1 := by
  have hg := ruAt_get hm hc
  have := hm
  unfold vMach at this
  rw [Bool.and_eq_true, List.all_eq_true] at this
  have := this.2 _ (List.mem_of_getElem? hg)
  unfold okRule at this
  rw [decide_eq_true_eq] at this
  exact this.resolve_left hn
theorem trimR_norm (l : List Int) : (trimR l).getLastD 1 ≠ 0 := by
  unfold trimR
  rw [List.getLastD_eq_getLast?, List.getLast?_reverse]
  cases h : l.reverse.dropWhile (· == 0) with
  | nil => decide
  | cons a r =>
    have := List.head?_dropWhile_not (· == (0 : Int)) l.reverse
    rw [h] at this
    simp at this
    simpa using this
theorem trimR_mem {l : List Int} {x : Int} (h : x ∈ trimR l) : x ∈ l := by
  unfold trimR at h
  rw [List.mem_reverse] at h
  exact List.mem_reverse.1 ((List.dropWhile_sublist _).mem h)
theorem norm_tail {l : List Int} (h : l.getLastD 1 ≠ 0) : l.tail.getLastD 1 ≠ 0 := by
  cases l with
  | nil => simp
  | cons a l =>
    cases l with
    | nil => simp
    | cons b l => simpa using h
theorem stepS_n (u : Rule') (c : Conf) : (stepS u c).st = u.n := by unfold stepS; split <;> rfl
theorem stepS_ok {m : Mach} {c : Conf} (hm : vMach m = true) (hc : vConf m c = true) (hn : ruAt m c ≠ noR) (hr : roomS (stepS (ruAt m c) c) = true) : vConf m (stepS (ruAt m c) c) = true := by
  obtain ⟨hw, hmv, hst⟩ := ruAt_ok hm hc hn
  obtain ⟨_, h1, h2⟩ := vConf_bd hc
  have hb := (vMach_bd hm).1
  obtain ⟨a1, a2, a3⟩ := vSide_bd h1
  obtain ⟨b1, b2, b3⟩ := vSide_bd h2
  unfold roomS at hr
  rw [decide_eq_true_eq] at hr
  apply vConf_mk
  rw [stepS_n]
  refine ⟨hst, vSide_mk (by omega) ?_ ?_, vSide_mk (by omega) ?_ ?_⟩
  · unfold stepS
    split
    · intro x hx
      rcases List.mem_cons.1 (trimR_mem hx) with rfl | hx
      · exact hw
      · exact a2 x hx
    · intro x hx
      exact a2 x (List.mem_of_mem_tail hx)
  · unfold stepS
    split
    · exact trimR_norm _
    · exact norm_tail a3
  · unfold stepS
    split
    · intro x hx
      exact b2 x (List.mem_of_mem_tail hx)
    · intro x hx
      rcases List.mem_cons.1 (trimR_mem hx) with rfl | hx
      · exact headD_bd hb.1 h1
      · rcases List.mem_cons.1 (trimR_mem hx) with rfl | hx
        · exact hw
        · exact b2 x (List.mem_of_mem_tail hx)
  · unfold stepS
    split
    · exact norm_tail b3
    · exact trimR_norm _
theorem l05HaltsC_ok (m : Mach) (c : Conf) (hm : vMach m = true) (hc : vConf m c = true) : Does Tryz.prog 183 [.one (maB m), .one (coB c)] [] (.one (boo (decide (ruAt m c = noR)))) [] := by
  have hb := at_bd hm hc
  have := l05Halts_ok m c (by omega) (by omega) (by omega) (by omega) (by omega) (by omega)
  simp only [ruAt_ge hm hc] at this
  exact this
theorem l05StepC_ok (m : Mach) (c : Conf) (hm : vMach m = true) (hc : vConf m c = true) : Does Tryz.prog 184 [.one (maB m), .one (coB c)] [] (.tup [(true, [int (stepS (ruAt m c) c).st, .gv 0, .gv 1]), (false, [boo (roomS (stepS (ruAt m c) c))])]) [roI (stepS (ruAt m c) c).le, roI (stepS (ruAt m c) c).ri] := by
  have hb := at_bd hm hc
  exact l05Step_ok m c (ruAt m c) (by omega) (by omega) (by omega) (by omega) (by omega) (by omega) (by omega) (ruAt_get hm hc)
end Go.Proofs.YtcmdfohamphndaaGreatDoor
end
section
set_option linter.unusedVariables false
set_option linter.unusedSimpArgs false
set_option maxRecDepth 100000
set_option maxHeartbeats 4000000
namespace Go.Proofs.YtcmdfohamphndaaGreatDoor
open Go Foot
/-- What a run that is watched comes to. -/
structure Out (σ : Type) where
  x : σ
  n : Int
  c : Conf
  hd : Int
  halts : Bool
  full : Bool
section
variable {σ : Type} {m : Mach} {fc : Conf → Int → σ → σ} {fs : Conf → Int → Rule' → σ → σ} {b n hd : Int} {c : Conf} {x : σ} {O : Out σ}
end
theorem ask_ok {m : Mach} {c : Conf} {b : Int} (h : askC m c b = 0) : vMach m = true ∧ vConf m c = true ∧ 1 ≤ b ∧ b ≤ 20000 := by
  unfold askC at h
  split at h
  · rename_i h1
    split at h
    · rename_i h2; exact ⟨h1.1, h1.2, h2.1, h2.2⟩
    · cases h
  · cases h
end Go.Proofs.YtcmdfohamphndaaGreatDoor
end
section
set_option linter.unusedVariables false
set_option linter.unusedSimpArgs false
set_option maxRecDepth 100000
set_option maxHeartbeats 4000000
namespace Go.Proofs.YtcmdfohamphndaaGreatDoor
open Go Foot
/-- A proof: its kind, its numbers, its words. -/
structure Prf where
  k : Int
  nu : List Int
  wo : List (List Int)
end Go.Proofs.YtcmdfohamphndaaGreatDoor
end
section
set_option linter.unusedVariables false
set_option linter.unusedSimpArgs false
set_option maxRecDepth 100000
set_option maxHeartbeats 4000000
namespace Go.Proofs.YtcmdfohamphndaaGreatDoor
open Go Foot
end Go.Proofs.YtcmdfohamphndaaGreatDoor
end
section
set_option linter.unusedVariables false
set_option linter.unusedSimpArgs false
set_option maxRecDepth 100000
set_option maxHeartbeats 4000000
namespace Go.Proofs.YtcmdfohamphndaaGreatDoor
open Go Foot
end Go.Proofs.YtcmdfohamphndaaGreatDoor
end
section
set_option linter.unusedVariables false
set_option linter.unusedSimpArgs false
set_option maxRecDepth 100000
namespace Go.Proofs.YtcmdfohamphndaaGreatDoor
open Go Foot
section
variable {P : Program} {g : Gh} {dst : Option Tmp} {ty : TypeId} {pos : String} {after : Array Edge} {guard : Option (Nat × Bool)} {st : St} {x y : Operand}
end
end Go.Proofs.YtcmdfohamphndaaGreatDoor
end
section
set_option linter.unusedVariables false
set_option linter.unusedSimpArgs false
set_option maxRecDepth 100000
set_option maxHeartbeats 4000000
namespace Go.Proofs.YtcmdfohamphndaaGreatDoor
open Go Foot
end Go.Proofs.YtcmdfohamphndaaGreatDoor
end
section
set_option linter.unusedVariables false
set_option linter.unusedSimpArgs false
set_option maxRecDepth 100000
set_option maxHeartbeats 4000000
namespace Go.Proofs.YtcmdfohamphndaaGreatDoor
open Go Foot
end Go.Proofs.YtcmdfohamphndaaGreatDoor
end
section
set_option linter.unusedVariables false
set_option linter.unusedSimpArgs false
set_option maxRecDepth 100000
set_option maxHeartbeats 4000000
namespace Go.Proofs.YtcmdfohamphndaaGreatDoor
open Go Foot
end Go.Proofs.YtcmdfohamphndaaGreatDoor
end
section
set_option linter.unusedVariables false
set_option linter.unusedSimpArgs false
set_option maxRecDepth 100000
set_option maxHeartbeats 4000000
namespace Go.Proofs.YtcmdfohamphndaaGreatDoor
open Go Foot
structure Verd where
  m : Mach
  p : Prf
structure VeGd (v : Verd) : Prop where
  a : (v.m.ru.length : Int) ≤ 16777216
  b : (v.p.nu.length : Int) ≤ 16777216
  c : (v.p.wo.length : Int) ≤ 16777216
  d : ∀ x ∈ v.p.wo, (x.length : Int) ≤ 16777216
end Go.Proofs.YtcmdfohamphndaaGreatDoor
end
section
set_option linter.unusedVariables false
set_option linter.unusedSimpArgs false
set_option maxRecDepth 100000
set_option maxHeartbeats 4000000
namespace Go.Proofs.YtcmdfohamphndaaGreatDoor
open Go Foot
/-- Lists whose verdicts are small. -/
structure LsGd (l : List Verd) : Prop where
  n : (l.length : Int) ≤ 16777216
  a : ∀ v ∈ l, VeGd v
theorem ls_at {l : List Verd} (g : LsGd l) {i : Nat} (h : i < l.length) : VeGd l[i] := g.a _ (List.getElem_mem h)
end Go.Proofs.YtcmdfohamphndaaGreatDoor
end
section
set_option linter.unusedVariables false
set_option linter.unusedSimpArgs false
set_option maxRecDepth 100000
set_option maxHeartbeats 4000000
namespace Go.Proofs.YtcmdfohamphndaaGreatDoor
open Go Foot
/-- The symbol at a place. -/
@[irreducible] def symAt (l : List Int) (k : Int) : Int := l.getD k.toNat 0
theorem symbolAt_ok (l : List Int) (k : Int) (h0 : 0 ≤ k) (hx : (l.length : Int) ≤ 16777216) : Does Tryz.prog 131 [.one (shI l), .one (int k)] [] (.one (int (symAt l k))) [] := by
  refine does_of (k := 0) Tryz.func131 rfl Tryz.ntmps131 rfl rfl fun w F0 S0 ρ0 => ?_
  dsimp only [argT, argH]
  repeat' first | (apply p3; (first | exact pu1 | exact puL | exact puN | exact a_len_str rfl (fT rfl) | exact puC | exact puI); exact rfl) | refine cd ?_ | ((first | refine o_gs rfl rfl (fun hc => ?_) (fun hc => ?_) | refine g_cond rfl (fun hc => ?_) (fun hc => ?_)) <;> (try simp only [dcB] at hc) <;> (try first | contradiction | (exfalso; omega)))
  · repeat refine cr ?_
    refine ends_id ?_
    refine endK [] (h2 := ?_) (h3 := ?_) (nd := ?_)
    all_goals (repeat' first | exact ce0 | refine ce ?_ | refine ce2 ?_ ?_ | exact SVLe.refl | refine ceb ?_)
    all_goals first | exact (show nodupB _ = true from rfl) | exact Or.inr rfl | ((unfold symAt; rw [List.getD_eq_getElem?_getD, List.getElem?_eq_none (by omega)]; rfl))
  · repeat refine cr ?_
    refine ends_id ?_
    refine endK [] (h2 := ?_) (h3 := ?_) (nd := ?_)
    all_goals (repeat' first | exact ce0 | refine ce ?_ | refine ce2 ?_ ?_ | exact SVLe.refl | refine ceb ?_)
    all_goals first | exact (show nodupB _ = true from rfl) | exact Or.inr rfl | ((unfold symAt; rw [List.getD_eq_getElem?_getD, List.getElem?_eq_getElem (by omega)]; rfl))
end Go.Proofs.YtcmdfohamphndaaGreatDoor
end
section
set_option linter.unusedVariables false
set_option linter.unusedSimpArgs false
set_option maxRecDepth 100000
set_option maxHeartbeats 4000000
namespace Go.Proofs.YtcmdfohamphndaaGreatDoor
open Go Foot
section
variable {m : Mach} {d n a b : Int} {c : Conf} {O : Option (Conf × Int × Int)}
end
end Go.Proofs.YtcmdfohamphndaaGreatDoor
end
section
set_option linter.unusedVariables false
set_option linter.unusedSimpArgs false
set_option maxRecDepth 100000
set_option maxHeartbeats 4000000
namespace Go.Proofs.YtcmdfohamphndaaGreatDoor
open Go Foot
end Go.Proofs.YtcmdfohamphndaaGreatDoor
end
section
set_option linter.unusedVariables false
set_option linter.unusedSimpArgs false
set_option maxRecDepth 100000
set_option maxHeartbeats 4000000
namespace Go.Proofs.YtcmdfohamphndaaGreatDoor
open Go Foot
/-- What a loop over the steps comes to. -/
structure ItOut (X : Type) where
  x : X
  j : Option Code
  c : Conf
section
variable {X : Type} {m : Mach} {bd : X → Conf × Int × Bool → X × Option Code} {b n : Int} {c : Conf} {x : X} {O : ItOut X} {k : Nat}
end
end Go.Proofs.YtcmdfohamphndaaGreatDoor
end
section
set_option linter.unusedVariables false
set_option linter.unusedSimpArgs false
set_option maxRecDepth 100000
set_option maxHeartbeats 4000000
namespace Go.Proofs.YtcmdfohamphndaaGreatDoor
open Go Foot
end Go.Proofs.YtcmdfohamphndaaGreatDoor
end
section
set_option linter.unusedVariables false
set_option linter.unusedSimpArgs false
set_option maxRecDepth 100000
set_option maxHeartbeats 4000000
namespace Go.Proofs.YtcmdfohamphndaaGreatDoor
open Go Foot
end Go.Proofs.YtcmdfohamphndaaGreatDoor
end
section
set_option linter.unusedVariables false
set_option linter.unusedSimpArgs false
set_option maxRecDepth 100000
set_option maxHeartbeats 4000000
namespace Go.Proofs.YtcmdfohamphndaaGreatDoor
open Go Foot
section
variable {m : Mach}
end
end Go.Proofs.YtcmdfohamphndaaGreatDoor
end
section
set_option linter.unusedVariables false
set_option linter.unusedSimpArgs false
set_option maxRecDepth 100000
set_option maxHeartbeats 4000000
namespace Go.Proofs.YtcmdfohamphndaaGreatDoor
open Go Foot
structure Part where
  st : Int
  pl : Int
  ce : List Int
  deriving DecidableEq
abbrev part0 : Part := ⟨0, 0, []⟩
abbrev eP : Enc Part := ⟨3, fun x => [.sc (.int .i64 x.st), .sc (.int .i64 x.pl), .sl false 1 (rows eI x.ce)], fun _ => rfl, by decide⟩
abbrev paC (x : Part) : List C := [int x.st, int x.pl, shI x.ce]
abbrev shPa (l : List Part) : C := .d (.sl false 3 (rows eP l))
abbrev roPa (l : List Part) : GB := .row 3 (rows eP l)
/-- The place is on the cells. -/
structure PtGd (x : Part) : Prop where
  a : 0 ≤ x.pl
  b : x.pl < x.ce.length
  c : (x.ce.length : Int) ≤ 1000
/-- The rule with an index. -/
@[irreducible] def ruI (m : Mach) (i : Int) : Rule' := m.ru.getD i.toNat noR
theorem ruI_get {m : Mach} {i : Int} (h : i.toNat < m.ru.length) : m.ru[i.toNat] = ruI m i := by
  unfold ruI
  rw [List.getD_eq_getElem?_getD, List.getElem?_eq_getElem h]
  rfl
theorem ruI_ok {m : Mach} {i : Int} (hm : vMach m = true) (h0 : 0 ≤ i) (h : i < m.ru.length) (hn : ruI m i ≠ noR) : (0 ≤ (ruI m i).w ∧ (ruI m i).w ≤ m.sy - 1) ∧ ((ruI m i).m = 1 ∨ (ruI m i).m = -1) ∧ 0 ≤ (ruI m i).n ∧ (ruI m i).n ≤ m.st - 1 := by
  have h1 : i.toNat < m.ru.length := by omega
  rw [← ruI_get h1] at hn ⊢
  unfold vMach at hm
  simp only [Bool.and_eq_true, List.all_eq_true] at hm
  have := hm.2 _ (List.getElem_mem h1)
  unfold okRule at this
  rw [decide_eq_true_eq] at this
  exact this.resolve_left hn
/-- The cells with a new one where the place falls off them, and the place. -/
@[irreducible] def wid (x : Part) (c w : Int) : List Int × Int := if c < 0 then (w :: x.ce, 0) else if c = x.ce.length then (x.ce ++ [w], c) else (x.ce, c)
@[irreducible] def befP (m : Mach) (x : Part) (i : Int) : Option Part :=
  if ruI m i = noR ∨ (ruI m i).n ≠ x.st then none
  else if (wid x (x.pl - (ruI m i).m) (ruI m i).w).1.getD (wid x (x.pl - (ruI m i).m) (ruI m i).w).2.toNat 0 ≠ (ruI m i).w then none
  else some ⟨i / m.sy, (wid x (x.pl - (ruI m i).m) (ruI m i).w).2, (wid x (x.pl - (ruI m i).m) (ruI m i).w).1.set (wid x (x.pl - (ruI m i).m) (ruI m i).w).2.toNat (i % m.sy)⟩
theorem wid_l {x : Part} {c w : Int} (h : c < 0) : wid x c w = (w :: x.ce, 0) := by unfold wid; rw [if_pos h]
theorem wid_r {x : Part} {c w : Int} (h : ¬ c < 0) (h' : c = x.ce.length) : wid x c w = (x.ce ++ [w], c) := by unfold wid; rw [if_neg h, if_pos h']
theorem wid_m {x : Part} {c w : Int} (h : ¬ c < 0) (h' : ¬ c = x.ce.length) : wid x c w = (x.ce, c) := by unfold wid; rw [if_neg h, if_neg h']
theorem getD_get {l : List Int} {i : Nat} (h : i < l.length) : l.getD i 0 = l[i] := by rw [List.getD_eq_getElem?_getD, List.getElem?_eq_getElem h]; rfl
end Go.Proofs.YtcmdfohamphndaaGreatDoor
end
