/- Parts of the proof (17 of 21). -/
import Derived.Lib.AppendZerosOnto
import Derived.Test.YtnkeamihfiobdaaGreatDoorQ16
section
set_option linter.unusedVariables false
set_option linter.unusedSimpArgs false
set_option maxRecDepth 100000
namespace Go.Proofs.YtnkeamihfiobdaaGreatDoor
open Go Foot
section
variable {P : Program} {g : Gh} {st : St} {dst : Option Tmp} {ty : TypeId} {pos : String} {after : Array Edge} {guard : Option (Nat × Bool)} {x y : Operand}
theorem a_cap0 {T e : Nat} (hx : opd st x = .one nilC) (hu : P.underlying T = some (.slice e)) : Acts P g ⟨dst,.call { callee := .builtin .cap,args := #[x],argTypes := #[T] },ty,pos,after,guard⟩ st (.one (int 0)) [] [] := by
  refine acts_of fun a w S ρ F h => ⟨.int .i64 0,?_,⟨rfl,rfl⟩⟩
  have e := opd_sc h hx
  simp only [execOp,resolve,invoke,builtin]
  simp [e,builtin,Builtin.cap_,run_underlying hu,goInt]
theorem a_sl0 {T zz : Nat} {hi : Operand} (hx : opd st x = .one nilC) (hh : opd st hi = .one (int 0)) (hT : sliceB P T zz = true) : Acts P g ⟨dst,.slice T x none (some hi) none,ty,pos,after,guard⟩ st (.one nilC) [] [] := by
  refine acts_of fun a w S ρ F h => ⟨.slice none 0 0,?_,⟨rfl,rfl⟩⟩
  show (do pure (.value (← Instr.sliceAt T (a.eval x) ((none : Option Operand).map a.eval) ((some hi).map a.eval) ((none : Option Operand).map a.eval))) : Sem Next).run P w = _
  rw [opd_sc h hx]
  have := run_slice (P := P) (w := w) (T := T) (z := zz) (len := 0) (cap := 0) (l := 0) (u := 0) (ad := none) (lo := none) (hi := some (a.eval hi)) hT (.inl ⟨rfl,rfl⟩) (.inr ⟨.i64,by rw [opd_sc h hh]; rfl⟩) (Nat.le_refl _) (Nat.le_refl _) (Nat.le_refl _)
  simp at this
  simp [this]
theorem a_appZ {T Tn e zz bytes n i : Nat} {vs : List Value} {row : List D} {k1 kn : IntKind} {m : Int} (hu : P.underlying T = some (.slice e)) (hun : P.underlying Tn = some (.int kn)) (hT : zeroC P e = some vs) (hT2 : appB P T zz bytes = true) (hz0 : 0 < zz)
    (hx : opd st x = .one nilC) (hy : opd st y = .one (.d (.sc (.int k1 m)))) (hm : 0 < m) (hmn : m.toNat = n) (hn : m < 9223372036854775808) (hb : n * bytes ≤ 281474976710656) (hrow : repRow (vs.map scD) n = row) :
    Acts P g ⟨dst,.call { callee := .builtin .append,args := #[x,y],argTypes := #[T,Tn] },ty,pos,after,guard⟩ st (.one (.gv i)) [] [(i,.row zz row)] := by
  subst hrow
  have hmn' : m = (n : Int) := by omega
  subst hmn'
  refine ⟨fun a w S ρ F h hfr K Q hK => ?_⟩
  have hfr' : ρ i = none := by simpa using hfr _ (List.mem_singleton.2 rfl)
  clear hfr
  obtain ⟨inf,zv,hi,hz,rfl,hall⟩ := zeroC_spec hT
  unfold appB at hT2
  rw [hu] at hT2
  simp only [hi,hz,Bool.and_eq_true] at hT2
  obtain ⟨⟨hz1,hb1⟩,hz3⟩ := hT2
  have hz1 := Nat.eq_of_beq_eq_true hz1
  have hb1 := Nat.eq_of_beq_eq_true hb1
  have hz3 := Nat.eq_of_beq_eq_true hz3
  subst hz1 hb1
  have hnp : 0 < n := by omega
  have hnc : Builtin.nextslicecap (0 + n) 0 = n := by unfold Builtin.nextslicecap; rw [if_pos (by omega)]; omega
  have hrun := Lib.run_append_grow_zeros (P := P) w T Tn ty e inf zv k1 kn hu hun hi hz none 0 0 [] (by simp [Builtin.firstCells]) n hnp hz0 (by omega) (by omega) hb (by rw [hnc]; exact hb)
  have hge := grownCap_ge w (0 + n) 0 e
  have hrun2 : (execOp a.eval ⟨dst,.call { callee := .builtin .append,args := #[x,y],argTypes := #[T,Tn] },ty,pos,after,guard⟩).run P w = .ok (.value (.slice (some ⟨w.heap.size,0,none⟩) (0 + n) (grownCap w (0 + n) 0 e))) (w.drew.alloc (.cells ((#[] : Array Value) ++ Builtin.zeroCells zv.cells n ++ Builtin.zeroCells zv.cells (grownCap w (0 + n) 0 e - (0 + n))) e)) := by
    simp only [execOp,resolve,invoke,builtin]
    simp [opd_sc h hx,opd_sc h hy,builtin]
    simp at hrun
    rw [hrun]
    rfl
  refine oper_in (fun _ h => nomatch h) ?_
  rw [hrun2,Oper.uponIn_value]
  rw [Nat.zero_add] at hge ⊢
  generalize grownCap w n 0 e = c at *
  have hzr : (Builtin.zeroCells zv.cells n).toList = repRow zv.cells.toList n := by unfold Builtin.zeroCells; exact zero_row zv.cells n
  have hzs : zv.cells.toList.length = inf.size := by simpa using hz3
  have hallr : (repRow zv.cells.toList n).all Value.oneCell' = true := by
    rw [List.all_eq_true] at hall ⊢
    intro u hu
    simp only [repRow,List.mem_flatten,List.mem_replicate] at hu
    obtain ⟨l,⟨_,rfl⟩,hu⟩ := hu
    exact hall u hu
  have hrs := reps_sc (w := w) (S := S) hallr
  rw [repRow_map] at hrs
  have hk : Keeps no w (w.drew.alloc (.cells ((#[] : Array Value) ++ Builtin.zeroCells zv.cells n ++ Builtin.zeroCells zv.cells (c - n)) e)) := keeps_drew.trans (keeps_alloc _) (no_le _)
  have hcells : (w.drew.alloc (.cells ((#[] : Array Value) ++ Builtin.zeroCells zv.cells n ++ Builtin.zeroCells zv.cells (c - n)) e)).heap[w.heap.size]? = some (.cells ((#[] : Array Value) ++ Builtin.zeroCells zv.cells n ++ Builtin.zeroCells zv.cells (c - n)) e) := by
    rw [heap_alloc]
    exact Array.getElem?_push_size
  have hsz : (w.drew.alloc (.cells ((#[] : Array Value) ++ Builtin.zeroCells zv.cells n ++ Builtin.zeroCells zv.cells (c - n)) e)).heap.size = w.heap.size + 1 := by rw [heap_alloc,Array.size_push]; rfl
  have hfull : ((#[] : Array Value) ++ Builtin.zeroCells zv.cells n ++ Builtin.zeroCells zv.cells (c - n)).size = c * inf.size := by
    have hz4 : zv.cells.size = inf.size := hz3
    simp only [Array.size_append,size_zeroCells,hz4,Array.size_empty,Nat.zero_add,← Nat.add_mul]
    congr 1
    omega
  generalize w.drew.alloc (.cells ((#[] : Array Value) ++ Builtin.zeroCells zv.cells n ++ Builtin.zeroCells zv.cells (c - n)) e) = W at *
  have hrep : Rep W S (.sl true inf.size (repRow (zv.cells.toList.map scD) n)) (.slice (some ⟨w.heap.size,0,none⟩) n c) (rng w.heap.size 0 (c * inf.size)) := by
    simp only [Rep,if_true]
    refine ⟨_,n,c,rfl,by rw [repRow_len,List.length_map,hzs],hz0,hge,.inr ⟨w.heap.size,0,repRow zv.cells.toList n,no,rfl,?_,hrs.keep Agree.no (hk.agree h.exS (dis_no _)) (le_refl _) (le_refl _),le_refl _,no_le _,dis_no _,?_⟩⟩
    · intro k u hk'
      have hkl : k < (repRow zv.cells.toList n).length := (List.getElem?_eq_some_iff.1 hk').1
      rw [← hzr] at hkl hk'
      simp only [World.cell?,hcells]
      simp only [Nat.zero_add,Option.isSome_none,Bool.false_eq_true,if_false]
      rw [Array.getElem?_append_left (by simpa using hkl)]
      simpa using hk'
    · intro k hk'
      have : k < ((#[] : Array Value) ++ Builtin.zeroCells zv.cells n ++ Builtin.zeroCells zv.cells (c - n)).size := by rw [hfull]; exact hk'
      simp only [World.cell?,World.frozen?,hcells,Nat.zero_add]
      simp only [Option.isSome_none,Bool.false_eq_true,if_false]
      rw [Array.getElem?_eq_getElem this]
      simp
  refine hK _ _ no _ _ (Done.new (S1 := no) hk hfr' (fun ρ' hl _ => hrep) ?_) ⟨by simp,rfl⟩
  rintro b o ⟨rfl,_,_⟩
  exact ⟨Nat.le_refl _,by omega⟩
theorem a_appZI {T Tn e i : Nat} {k1 kn : IntKind} {m : Int} (hu : P.underlying T = some (.slice e)) (hun : P.underlying Tn = some (.int kn)) (hT : zeroC P e = some [.int .i64 0]) (hT2 : appB P T 1 8 = true)
    (hx : opd st x = .one nilC) (hy : opd st y = .one (.d (.sc (.int k1 m)))) (hm : 0 < m) (hn : m ≤ 16777216) :
    Acts P g ⟨dst,.call { callee := .builtin .append,args := #[x,y],argTypes := #[T,Tn] },ty,pos,after,guard⟩ st (.one (.gv i)) [] [(i,.row 1 (rows eI (List.replicate m.toNat 0)))] :=
  a_appZ hu hun hT hT2 (by decide) hx hy hm rfl (by omega) (by omega) (rows_rep eI 0 _)
end
end Go.Proofs.YtnkeamihfiobdaaGreatDoor
end
section
set_option linter.unusedVariables false
set_option linter.unusedSimpArgs false
set_option maxRecDepth 100000
set_option maxHeartbeats 4000000
namespace Go.Proofs.YtnkeamihfiobdaaGreatDoor
open Go Foot
theorem preB69 {p : Prop} (h : p := by first | with_reducible assumption | omega | (simp only [List.length_append,List.length_cons,List.length_nil,List.length_set,List.length_replicate,List.length_take,List.length_drop,List.length_tail,List.length_dropLast,List.length_reverse] at *; omega) | exact mem_len (by assumption) (by omega) | (with_reducible refine Int.le_trans (Int.ofNat_le.2 (trimR_len _)) ?_; simp only [List.length_cons,List.length_tail]; omega) | (exact (ruAt_ok (by assumption) (by assumption) (by assumption)).2.1) | (exact (ruAt_ok (by assumption) (by assumption) (by assumption)).2.1) | (have := vMach_bd (by assumption); omega) | (simp only [mC_ch,mC_tu]; omega) | (have := vTag_bd (by assumption); omega) | (have := (‹Gd _ _›).le; omega) | (exact tgHalts_no (by assumption)) | (exact tgHead (by assumption) (by assumption) (by assumption)) | (exact Int.le_trans (tgStep_gd (by assumption) (by assumption) (by assumption) (by assumption)).le (by decide)) | (exact vTag_r (by assumption)) | (with_reducible refine Int.le_trans (Int.ofNat_le.2 (pushL_len _ _)) ?_; simp only [List.length_dropLast]; omega) | exact ls_at (by assumption) (by omega) | exact pt_gd (by assumption) | exact lv_at (by assumption) (by omega) | exact pt_gd (lv_at (by assumption) (by omega)) | exact (ask_ok (by assumption)).1 | exact (ask_ok (by assumption)).2.1 | exact (ask_ok (by assumption)).2.2.1 | exact (ask_ok (by assumption)).2.2.2 | trivial) : p := h
theorem growI_ok (n : Int) (h0 : 0 ≤ n) (h1 : n ≤ 16777216) : Does Tryz.prog 278 [.one nilC,.one (int n)] [] (.one (.gv 0)) [roI []] := by
  refine does_of (k := 0) Tryz.func278 rfl Tryz.ntmps278 rfl rfl fun w F0 S0 ρ0 => ?_
  dsimp only [argT,argH]
  repeat' first|(apply n3;exact a_nilO eI rfl;exact rfl)|(apply p3;(first|exact pu1|exact puC|exact a_cap0 rfl (fE rfl)|exact a_sub rfl rfl (by omega) (by omega));exact rfl)|refine cdn ?_|refine g_reg (id := 0) ?_|refine g_reg (id := 1) ?_|refine g_reg (id := 3) ?_|refine g_reg (id := 4) ?_|((refine g_cond rfl (fun hc => ?_) (fun hc => ?_)) <;> (try simp only [dcB] at hc) <;> (try first|contradiction|(exfalso;omega)))|fail
  · repeat' first|(apply n3;exact a_appZI (fE rfl) (fK rfl) (fZ rfl) (fP rfl) rfl rfl (by omega) (by omega);exact rfl;refine dA ?_)|(apply p3;(first|exact pu1|exact a_cap0 rfl (fE rfl)|exact a_sl0 rfl rfl (fS rfl));exact rfl)|refine cd ?_|(apply s3;exact a_slHO rfl rfl rfl (fS rfl) (by omega) (by omega) (by exact rfl) (by decide);exact rfl;exact rfl)|fail
    repeat refine cr ?_
    refine ends_id ?_
    refine endK [?_] (h2 := ?_) (h3 := ?_) (nd := ?_)
    rotate_left 1
    all_goals (repeat' first|exact ce0|refine ce ?_|refine ce2 ?_ ?_|exact SVLe.refl|refine ceb ?_)
    all_goals first | exact (show nodupB _ = true from rfl) | exact Or.inr rfl | (rfl)
  · repeat' first|(apply n3;exact a_nilO eI rfl;exact rfl)|(apply p3;(exact pu1);exact rfl)|refine cd ?_|fail
    repeat refine cr ?_
    refine ends_id ?_
    refine endK [?_] (h2 := ?_) (h3 := ?_) (nd := ?_)
    rotate_left 1
    all_goals (repeat' first|exact ce0|refine ce ?_|refine ce2 ?_ ?_|exact SVLe.refl|refine ceb ?_)
    all_goals first | exact (show nodupB _ = true from rfl) | exact Or.inr rfl | (rfl)
theorem concatI_ok (ls : List (List Int)) (hn : (ls.length : Int) ≤ 16777216) (hl : ∀ x ∈ ls,(x.length : Int) ≤ 16777216) (ht : (ls.flatten.length : Int) ≤ 16777216) : Does Tryz.prog 241 [.one (shW ls)] [] (.one (.gv 0)) [roI ls.flatten] := by
  have key : ∀ i : Nat,(ls.take i).flatten.length ≤ ls.flatten.length := fun i => by
    have := congrArg (fun l => l.flatten.length) (List.take_append_drop i ls)
    simp only [List.flatten_append,List.length_append] at this
    omega
  have nx : ∀ (i : Int) (h0 : 0 ≤ i) (h : i.toNat < ls.length),(ls.take (i + 1).toNat).flatten = (ls.take i.toNat).flatten ++ ls[i.toNat] := fun i h0 h => by
    rw [show (i + 1).toNat = i.toNat + 1 by omega,List.take_succ_eq_append_getElem h,List.flatten_append,List.flatten_cons,List.flatten_nil,List.append_nil]
  refine does_of (k := 0) Tryz.func241 rfl Tryz.ntmps241 rfl rfl fun w F0 S0 ρ0 => ?_
  dsimp only [argT,argH]
  repeat' first|(apply n3;exact a_nilO eI rfl;exact rfl)|(apply p3;(first|exact pu1|exact puN);exact rfl)|refine cd ?_|fail
  refine g_loop_id ?_
  refine loopK [0,2,9,10] [] (fun y : Int × Int => 0 ≤ y.1 ∧ y.1 ≤ ls.length ∧ y.2 = (ls.take y.1.toNat).flatten.length) (fun y => [(11,.one (int y.1)),(3,.one (int y.2))]) (fun y => []) (fun y => (ls.length - y.1).toNat) ((0 : Int),(0 : Int)) [0] (hI := ?_) (hr := ?_)
  · exact ⟨by simp,by simp,by simp⟩
  · rintro ⟨i,s⟩ ⟨h0,h1,h2⟩
    dsimp only [List.cons_append,List.nil_append] at *
    skip
    repeat' first|(apply p3;(exact puC);exact rfl)|refine cdn ?_|refine g_reg (id := 3) ?_|((refine g_cond rfl (fun hc => ?_) (fun hc => ?_)) <;> (try simp only [dcB] at hc) <;> (try first|contradiction|(exfalso;omega)))|fail
    · have hk := key i.toNat
      have hk2 := key (i + 1).toNat
      have hx := nx i h0 (by omega)
      have hv := hl _ (List.getElem_mem (show i.toNat < ls.length by omega))
      have hx2 := congrArg List.length hx
      rw [List.length_append] at hx2
      repeat' first|(apply p3;(first|exact pu1|exact puC|exact puN|exact a_add rfl rfl (by omega) (by omega)|exact puI);exact rfl)|refine cd ?_|((refine g_cond rfl (fun hc => ?_) (fun hc => ?_)) <;> (try simp only [dcB] at hc) <;> (try first|contradiction|(exfalso;omega)))|fail
      refine q_again (i + 1,_) [0] (by exact stk) ?_ ?_
      · exact ⟨by dsimp only; omega,by dsimp only; omega,by dsimp only; omega⟩
      · dsimp only; omega
    · have hk := key i.toNat
      repeat' first|(apply p3;(first|exact pu1|exact puN);exact rfl)|refine cd ?_|(apply c4 1;exact callK1 (θ := []) (hD := (growI_ok _ preB69 preB69));exact rfl;exact rfl;exact rfl;refine dM ?_)|fail
      refine g_loop_id ?_
      refine loopK [2,6,25,26] [1] (fun y : Int × List Int => 0 ≤ y.1 ∧ y.1 ≤ ls.length ∧ y.2 = (ls.take y.1.toNat).flatten) (fun y => [(27,.one (int y.1))]) (fun y => [(1,roI y.2)]) (fun y => (ls.length - y.1).toNat) ((0 : Int),([] : List Int)) [0,1] (hI := ?_) (hr := ?_)
      · exact ⟨by simp,by simp,by simp⟩
      · rintro ⟨j,o⟩ ⟨j0,j1,j2⟩
        dsimp only [List.cons_append,List.nil_append] at *
        skip
        repeat' first|(apply p3;(exact puC);exact rfl)|refine cdn ?_|refine g_reg (id := 11) ?_|((refine g_cond rfl (fun hc => ?_) (fun hc => ?_)) <;> (try simp only [dcB] at hc) <;> (try first|contradiction|(exfalso;omega)))|fail
        · have hk2 := key (j + 1).toNat
          have hx := nx j j0 (by omega)
          have hv := hl _ (List.getElem_mem (show j.toNat < ls.length by omega))
          have hx2 := congrArg List.length hx
          rw [List.length_append] at hx2
          have hx3 := congrArg List.length j2
          repeat' first|(apply p3;(first|exact pu1|exact a_add rfl rfl (by omega) (by omega)|exact puI);exact rfl)|refine cd ?_|(apply s3;exact a_appE (fP rfl) rfl rfl rfl rfl nowR (by omega) (by decide) (by decide) (by exact rfl);exact rfl;exact rfl)|fail
          refine q_again (j + 1,_) [0,2] (by exact stk) ?_ ?_
          · exact ⟨by dsimp only; omega,by dsimp only; omega,by dsimp only; rw [hx,j2]⟩
          · dsimp only; omega
        · rw [List.take_of_length_le (by omega)] at j2
          rw [← j2]
          repeat' first|(apply p3;(exact pu1);exact rfl)|refine cd ?_|fail
          repeat refine cr ?_
          refine ends_id ?_
          refine endK [?_] (h2 := ?_) (h3 := ?_) (nd := ?_)
          rotate_left 1
          all_goals (repeat' first|exact ce0|refine ce ?_|refine ce2 ?_ ?_|exact SVLe.refl|refine ceb ?_)
          all_goals first | exact (show nodupB _ = true from rfl) | exact Or.inr rfl | (rfl)
structure JnOk (ls : List (List Int)) : Prop where
  n : (ls.length : Int) ≤ 16777216
  l : ∀ x ∈ ls,(x.length : Int) ≤ 16777216
  t : (ls.flatten.length : Int) ≤ 16777216
theorem jn_two {a b : List Int} (h : (a.length : Int) + b.length ≤ 16777216) : JnOk [a,b] := by
  refine ⟨by simp,fun x hx => ?_,by simp; omega⟩
  simp only [List.mem_cons,List.not_mem_nil,or_false] at hx
  rcases hx with rfl | rfl <;> omega
theorem joined_ok (ls : List (List Int)) (g : JnOk ls) : Does Tryz.prog 186 [.one (shW ls)] [] (.one (.gv 0)) [roI ls.flatten] := by
  obtain ⟨hn,hl,ht⟩ := g
  refine does_of (k := 0) Tryz.func186 rfl Tryz.ntmps186 rfl rfl fun w F0 S0 ρ0 => ?_
  dsimp only [argT,argH]
  repeat' first|(apply p3;exact pu1;exact rfl)|refine cd ?_|(apply c4 1;exact callK1 (θ := []) (hD := (concatI_ok _ preB69 preB69 preB69));exact rfl;exact rfl;exact rfl;refine dM ?_)|fail
  repeat refine cr ?_
  refine ends_id ?_
  refine endK [?_] (h2 := ?_) (h3 := ?_) (nd := ?_)
  rotate_left 1
  all_goals (repeat' first|exact ce0|refine ce ?_|refine ce2 ?_ ?_|exact SVLe.refl|refine ceb ?_)
  all_goals first | exact (show nodupB _ = true from rfl) | exact Or.inr rfl | (rfl)
end Go.Proofs.YtnkeamihfiobdaaGreatDoor
end
section
set_option linter.unusedVariables false
set_option linter.unusedSimpArgs false
set_option maxRecDepth 100000
set_option maxHeartbeats 1000000
namespace Go.Proofs.YtnkeamihfiobdaaGreatDoor
open Go Foot Go.RowKit
@[irreducible] def dcI (m : Mach) (w : List Int) : Option Conf :=
  if (w.length : Int) = 0 ∨ w.headD 0 = 0 then none
  else if w = shA ((w.headD 0 - 1) / 30) (w.count (2 + 30 * ((w.headD 0 - 1) / 30))) (w.count (4 + 30 * ((w.headD 0 - 1) / 30))) then some ⟨(w.headD 0 - 1) / 30,btS (w.count (2 + 30 * ((w.headD 0 - 1) / 30)) : Nat),btS (w.count (4 + 30 * ((w.headD 0 - 1) / 30)) : Nat)⟩
  else if ruN m ((w.headD 0 - 1) / 30).toNat 0 = noR ∧ w = shB ((w.headD 0 - 1) / 30) 0 (w.count (12 + 30 * ((w.headD 0 - 1) / 30))) (w.count (16 + 30 * ((w.headD 0 - 1) / 30))) then some ⟨(w.headD 0 - 1) / 30,btS (w.count (12 + 30 * ((w.headD 0 - 1) / 30)) : Nat),btS (2 * (w.count (16 + 30 * ((w.headD 0 - 1) / 30)) : Nat) + 0)⟩
  else if ruN m ((w.headD 0 - 1) / 30).toNat 1 = noR ∧ w = shB ((w.headD 0 - 1) / 30) 1 (w.count (12 + 30 * ((w.headD 0 - 1) / 30))) (w.count (16 + 30 * ((w.headD 0 - 1) / 30))) then some ⟨(w.headD 0 - 1) / 30,btS (w.count (12 + 30 * ((w.headD 0 - 1) / 30)) : Nat),btS (2 * (w.count (16 + 30 * ((w.headD 0 - 1) / 30)) : Nat) + 1)⟩
  else none
theorem dcI_gd {m : Mach} {w : List Int} {c : Conf} (hl : w.length ≤ 1000) (h : dcI m w = some c) : (∀ x ∈ c.le,0 ≤ x ∧ x ≤ 1) ∧ (∀ x ∈ c.ri,0 ≤ x ∧ x ≤ 1) ∧ (c.le.length : Int) ≤ 3000 ∧ (c.ri.length : Int) ≤ 3000 := by
  have cl : ∀ x : Int,w.count x ≤ 1000 := fun x => Nat.le_trans List.count_le_length hl
  have key : ∀ (n k : Int) (q : Int),n ≤ 3000 → k ≤ 3000 → c = ⟨q,btS n,btS k⟩ → (∀ x ∈ c.le,0 ≤ x ∧ x ≤ 1) ∧ (∀ x ∈ c.ri,0 ≤ x ∧ x ≤ 1) ∧ (c.le.length : Int) ≤ 3000 ∧ (c.ri.length : Int) ≤ 3000 := by
    intro n k q hn hk e
    subst e
    have l1 := btS_len n
    have l2 := btS_len k
    exact ⟨fun x hx => btS_bit hx,fun x hx => btS_bit hx,by dsimp only; omega,by dsimp only; omega⟩
  unfold dcI at h
  by_cases h0 : (w.length : Int) = 0 ∨ w.headD 0 = 0
  · rw [if_pos h0] at h; cases h
  · rw [if_neg h0] at h
    generalize (w.headD 0 - 1) / 30 = q at h
    have c1 := cl (2 + 30 * q)
    have c2 := cl (4 + 30 * q)
    have c3 := cl (12 + 30 * q)
    have c4 := cl (16 + 30 * q)
    generalize w.count (2 + 30 * q) = n1 at *
    generalize w.count (4 + 30 * q) = n2 at *
    generalize w.count (12 + 30 * q) = n3 at *
    generalize w.count (16 + 30 * q) = n4 at *
    split at h
    · injection h with h; exact key _ _ _ (by omega) (by omega) h.symm
    · split at h
      · injection h with h; exact key _ _ _ (by omega) (by omega) h.symm
      · split at h
        · injection h with h; exact key _ _ _ (by omega) (by omega) h.symm
        · cases h
end Go.Proofs.YtnkeamihfiobdaaGreatDoor
end
section
set_option linter.unusedVariables false
set_option linter.unusedSimpArgs false
set_option maxRecDepth 100000
set_option maxHeartbeats 1000000
namespace Go.Proofs.YtnkeamihfiobdaaGreatDoor
open Go Foot Go.RowKit
end Go.Proofs.YtnkeamihfiobdaaGreatDoor
end
section
set_option linter.unusedVariables false
set_option linter.unusedSimpArgs false
set_option maxRecDepth 100000
set_option maxHeartbeats 1000000
namespace Go.Proofs.YtnkeamihfiobdaaGreatDoor
open Go Foot Go.RowKit
theorem ruN_get {m : Mach} {q s : Int} (h0 : 0 ≤ q) (h1 : 0 ≤ s) (h : (2 * q + s).toNat < m.ru.length) : m.ru[(2 * q + s).toNat] = ruN m q.toNat s.toNat := by
  unfold ruN
  rw [get_getD _ noR,show (2 * q + s).toNat = 2 * q.toNat + s.toNat by omega]
end Go.Proofs.YtnkeamihfiobdaaGreatDoor
end
section
set_option linter.unusedVariables false
set_option linter.unusedSimpArgs false
set_option maxRecDepth 100000
set_option maxHeartbeats 1000000
namespace Go.Proofs.YtnkeamihfiobdaaGreatDoor
open Go Foot Go.RowKit
def nmO : List Int → Option Int
  | [] => some 0
  | x :: l => match nmO l with
    | none => none
    | some n => if 1000000000000 < 2 * n + x then none else some (2 * n + x)
theorem nmO_bd : ∀ {l : List Int} {n : Int},(∀ x ∈ l,0 ≤ x ∧ x ≤ 1) → nmO l = some n → 0 ≤ n ∧ n ≤ 1000000000000
  | [],n,_,h => by injection h with h; omega
  | x :: l,n,hb,h => by
    rw [nmO] at h
    have hx := hb x (by simp)
    cases e : nmO l with
    | none => rw [e] at h; cases h
    | some k =>
      have := nmO_bd (fun x hx => hb x (by simp [hx])) e
      rw [e] at h
      dsimp only at h
      split at h
      · cases h
      · injection h with h; omega
theorem nmO_drop {l : List Int} {i : Nat} (h : i < l.length) : nmO (l.drop i) = match nmO (l.drop (i + 1)) with
    | none => none
    | some n => if 1000000000000 < 2 * n + l[i] then none else some (2 * n + l[i]) := by
  rw [List.drop_eq_getElem_cons h,nmO]
theorem nmO_none {l : List Int} : ∀ (j : Nat) {i : Nat},l.length - i ≤ j → nmO (l.drop i) = none → nmO l = none
  | _,0,_,h => by simpa using h
  | 0,i + 1,hj,h => by
    rw [List.drop_of_length_le (by omega)] at h
    cases h
  | j + 1,i + 1,hj,h => by
    by_cases hi : i < l.length
    · refine nmO_none (l := l) (l.length) (i := i) (by omega) ?_
      rw [nmO_drop hi,h]
    · rw [List.drop_of_length_le (by omega)] at h
      cases h
structure NmJ (l : List Int) (i n : Int) : Prop where
  h0 : -1 ≤ i
  h1 : i < l.length
  e : nmO (l.drop (i + 1).toNat) = some n
theorem nmJ_0 (l : List Int) : NmJ l ((l.length : Int) - 1) 0 := ⟨by omega,by omega,by rw [List.drop_of_length_le (by omega)]; rfl⟩
theorem nmJ_e {l : List Int} {i n : Int} (h : NmJ l i n) (hi : ¬ 0 ≤ i) : nmO l = some n := by
  have := h.e
  have h0 := h.h0
  rwa [show (i + 1).toNat = 0 by omega,List.drop_zero] at this
theorem nmJ_s {l : List Int} {i n : Int} (h : NmJ l i n) (hi : 0 ≤ i) (hl : i.toNat < l.length) : (1000000000000 < 2 * n + l[i.toNat] → nmO l = none) ∧ (¬ 1000000000000 < 2 * n + l[i.toNat] → NmJ l (i - 1) (2 * n + l[i.toNat])) := by
  have e := h.e
  rw [show (i + 1).toNat = i.toNat + 1 by omega] at e
  have d := nmO_drop hl
  rw [e] at d
  dsimp only at d
  constructor
  · intro hc
    rw [if_pos hc] at d
    exact nmO_none l.length (by omega) d
  · intro hc
    rw [if_neg hc] at d
    exact ⟨by omega,by have := h.h1; omega,by rw [show (i - 1 + 1).toNat = i.toNat by omega]; exact d⟩
@[irreducible] def nmV (l : List Int) : Int := (nmO l).getD 0
theorem nmV_some {l : List Int} {n : Int} (h : nmO l = some n) : nmV l = n := by unfold nmV; rw [h]; rfl
theorem nmV_none {l : List Int} (h : nmO l = none) : nmV l = 0 := by unfold nmV; rw [h]; rfl
@[irreducible] def nmB (l : List Int) : Bool := (nmO l).isSome
theorem nmB_some {l : List Int} {n : Int} (h : nmO l = some n) : nmB l = true := by unfold nmB; rw [h]; rfl
theorem nmB_none {l : List Int} (h : nmO l = none) : nmB l = false := by unfold nmB; rw [h]; rfl
theorem preB202 {p : Prop} (h : p := by first | with_reducible assumption | omega | (simp only [List.length_append,List.length_cons,List.length_nil,List.length_set,List.length_replicate,List.length_take,List.length_drop,List.length_tail,List.length_dropLast,List.length_reverse] at *; omega) | exact mem_len (by assumption) (by omega) | (with_reducible refine Int.le_trans (Int.ofNat_le.2 (trimR_len _)) ?_; simp only [List.length_cons,List.length_tail]; omega) | (exact (ruAt_ok (by assumption) (by assumption) (by assumption)).2.1) | (exact (ruAt_ok (by assumption) (by assumption) (by assumption)).2.1) | (have := vMach_bd (by assumption); omega) | (simp only [List.length_append,List.length_cons,List.length_nil,repW_len,seN_len] at *; omega) | (simp only [mC_ch,mC_tu]; omega) | (have := vTag_bd (by assumption); omega) | (have := (‹Gd _ _›).le; omega) | (exact tgHalts_no (by assumption)) | (exact tgHead (by assumption) (by assumption) (by assumption)) | (exact Int.le_trans (tgStep_gd (by assumption) (by assumption) (by assumption) (by assumption)).le (by decide)) | (exact vTag_r (by assumption)) | (with_reducible refine Int.le_trans (Int.ofNat_le.2 (pushL_len _ _)) ?_; simp only [List.length_dropLast]; omega) | exact ls_at (by assumption) (by omega) | exact pt_gd (by assumption) | exact lv_at (by assumption) (by omega) | exact pt_gd (lv_at (by assumption) (by omega)) | exact (ask_ok (by assumption)).1 | exact (ask_ok (by assumption)).2.1 | exact (ask_ok (by assumption)).2.2.1 | exact (ask_ok (by assumption)).2.2.2 | trivial) : p := h
theorem numberOf_ok (l : List Int) (hl : (l.length : Int) ≤ 16777216) (hb : ∀ x ∈ l,0 ≤ x ∧ x ≤ 1) : Does Tryz.prog 109 [.one (shI l)] [] (.tup [(false,[int (nmV l)]),(false,[int (bif nmB l then 0 else 5)])]) [] := by
  refine does_of (k := 0) Tryz.func109 rfl Tryz.ntmps109 rfl rfl fun w F0 S0 ρ0 => ?_
  dsimp only [argT,argH]
  repeat' first|(apply p3;(first|exact pu1|exact puN|exact a_sub rfl rfl (by omega) (by omega));exact rfl)|refine cd ?_|fail
  refine g_loop_id ?_
  refine loopK [0,2,3] [] (fun y : Int × Int => NmJ l y.1 y.2 ∧ 0 ≤ y.2 ∧ y.2 ≤ 1000000000000) (fun y => [(5,.one (int y.1)),(4,.one (int y.2))]) (fun _ => []) (fun y => (y.1 + 1).toNat) ((l.length : Int) - 1,(0 : Int)) [] (hI := ?_) (hr := ?_)
  · exact ⟨nmJ_0 l,by simp,by simp⟩
  · rintro ⟨i,n⟩ ⟨g,j1,j2⟩
    dsimp only [List.cons_append,List.nil_append] at *
    skip
    have g0 := g.h0 ; have g1 := g.h1
    repeat' first|(apply p3;(first|exact pu1|exact puC);exact rfl)|refine cdn ?_|refine g_reg (id := 3) ?_|refine g_reg (id := 8) ?_|((refine g_cond rfl (fun hc => ?_) (fun hc => ?_)) <;> (try simp only [dcB] at hc) <;> (try first|contradiction|(exfalso;omega)))|fail
    · have hi : i.toNat < l.length := by omega
      have hx := hb _ (List.getElem_mem hi)
      have hs := nmJ_s g hc hi
      repeat' first|(apply p3;(first|exact pu1|exact puC|exact a_mul rfl rfl (by first|omega|assumption) (by first|omega|assumption)|exact a_add rfl rfl (by omega) (by omega)|exact a_sub rfl rfl (by omega) (by omega)|exact puI);exact rfl)|refine cd ?_|((refine g_cond rfl (fun hc => ?_) (fun hc => ?_)) <;> (try simp only [dcB] at hc) <;> (try first|contradiction|(exfalso;omega)))|fail
      · have e := hs.1 hc
        rw [nmV_none e,nmB_none e]
        repeat refine cr ?_
        refine ends_id ?_
        refine endK [] (h2 := ?_) (h3 := ?_) (nd := ?_)
        all_goals (repeat' first|exact ce0|refine ce ?_|refine ce2 ?_ ?_|exact SVLe.refl|refine ceb ?_)
        all_goals first | exact (show nodupB _ = true from rfl) | exact Or.inr rfl | (rfl)
      · refine q_again (i - 1,2 * n + (l[i.toNat]'hi)) [] (by exact stk) ?_ ?_
        · exact ⟨hs.2 hc,by dsimp only; omega,by dsimp only; omega⟩
        · dsimp only; omega
    · have e := nmJ_e g hc
      rw [nmV_some e,nmB_some e]
      skip
      repeat refine cr ?_
      refine ends_id ?_
      refine endK [] (h2 := ?_) (h3 := ?_) (nd := ?_)
      all_goals (repeat' first|exact ce0|refine ce ?_|refine ce2 ?_ ?_|exact SVLe.refl|refine ceb ?_)
      all_goals first | exact (show nodupB _ = true from rfl) | exact Or.inr rfl | (rfl)
theorem numbersOf_ok (c : Conf) (hl : (c.le.length : Int) ≤ 16777216) (hr : (c.ri.length : Int) ≤ 16777216) (hb : ∀ x ∈ c.le,0 ≤ x ∧ x ≤ 1) (hd : ∀ x ∈ c.ri,0 ≤ x ∧ x ≤ 1) : Does Tryz.prog 47 [.agg (coC c)] [] (.tup [(false,[int (bif nmB c.le && nmB c.ri then nmV c.le else 0)]),(false,[int (bif nmB c.le && nmB c.ri then nmV c.ri else 0)]),(false,[int (bif nmB c.le && nmB c.ri then 0 else 5)])]) [] := by
  cases h1 : nmB c.le with
  | false =>
    refine does_of (k := 0) Tryz.func47 rfl Tryz.ntmps47 rfl rfl fun w F0 S0 ρ0 => ?_
    dsimp only [argT,argH]
    repeat' first|(apply n3;exact a_new (gb := .bx _) rfl;exact rfl;refine dA ?_)|(apply p3;(exact pu1);exact rfl)|refine cdn ?_|refine g_reg (id := 0) ?_|refine g_reg (id := 1) ?_|refine g_reg (id := 2) ?_|(apply c4 0;exact callK1 (θ := []) (hD := (numberOf_ok _ preB202 preB202));exact rfl;exact rfl;exact rfl;refine dM ?_)|fail
    simp only [h1,cond_false]
    repeat' first|(apply p3;(first|exact pu1|exact a_ne rfl rfl);exact rfl)|refine cd ?_|refine o_no rfl rfl rfl rfl ?_|fail
    repeat refine cr ?_
    refine ends_id ?_
    refine endK [] (h2 := ?_) (h3 := ?_) (nd := ?_)
    all_goals (repeat' first|exact ce0|refine ce ?_|refine ce2 ?_ ?_|exact SVLe.refl|refine ceb ?_)
    all_goals first | exact (show nodupB _ = true from rfl) | exact Or.inr rfl | (rfl)
  | true =>
    cases h2 : nmB c.ri with
    | false =>
      refine does_of (k := 0) Tryz.func47 rfl Tryz.ntmps47 rfl rfl fun w F0 S0 ρ0 => ?_
      dsimp only [argT,argH]
      repeat' first|(apply n3;exact a_new (gb := .bx _) rfl;exact rfl;refine dA ?_)|(apply p3;(exact pu1);exact rfl)|refine cdn ?_|refine g_reg (id := 0) ?_|refine g_reg (id := 1) ?_|refine g_reg (id := 2) ?_|(apply c4 0;exact callK1 (θ := []) (hD := (numberOf_ok _ preB202 preB202));exact rfl;exact rfl;exact rfl;refine dM ?_)|fail
      simp only [h1,h2,cond_false,cond_true]
      repeat' first|(apply p3;(first|exact pu1|exact a_ne rfl rfl);exact rfl)|refine cd ?_|(apply py3;exact rfl;exact rfl;(first|exact pu1|exact a_ne rfl rfl);exact rfl;exact rfl)|fail
      repeat refine cr ?_
      refine ends_id ?_
      refine endK [] (h2 := ?_) (h3 := ?_) (nd := ?_)
      all_goals (repeat' first|exact ce0|refine ce ?_|refine ce2 ?_ ?_|exact SVLe.refl|refine ceb ?_)
      all_goals first | exact (show nodupB _ = true from rfl) | exact Or.inr rfl | (rfl)
    | true =>
      refine does_of (k := 0) Tryz.func47 rfl Tryz.ntmps47 rfl rfl fun w F0 S0 ρ0 => ?_
      dsimp only [argT,argH]
      repeat' first|(apply n3;exact a_new (gb := .bx _) rfl;exact rfl;refine dA ?_)|(apply p3;(exact pu1);exact rfl)|refine cdn ?_|refine g_reg (id := 0) ?_|refine g_reg (id := 1) ?_|refine g_reg (id := 2) ?_|(apply c4 0;exact callK1 (θ := []) (hD := (numberOf_ok _ preB202 preB202));exact rfl;exact rfl;exact rfl;refine dM ?_)|fail
      simp only [h1,h2,cond_false,cond_true]
      repeat' first|(apply p3;(first|exact pu1|exact a_ne rfl rfl);exact rfl)|refine cd ?_|(apply py3;exact rfl;exact rfl;(first|exact pu1|exact a_ne rfl rfl);exact rfl;exact rfl)|fail
      repeat refine cr ?_
      refine ends_id ?_
      refine endK [] (h2 := ?_) (h3 := ?_) (nd := ?_)
      all_goals (repeat' first|exact ce0|refine ce ?_|refine ce2 ?_ ?_|exact SVLe.refl|refine ceb ?_)
      all_goals first | exact (show nodupB _ = true from rfl) | exact Or.inr rfl | (rfl)
theorem binaryCode_ok (m : Mach) (v : Bool) : Does Tryz.prog 45 [.agg (maC m),.one (boo v)] [] (.one (int (bif v then (if m.sy = 2 then 0 else 2) else 1))) [] := by
  cases v with
  | false =>
    refine does_of (k := 0) Tryz.func45 rfl Tryz.ntmps45 rfl rfl fun w F0 S0 ρ0 => ?_
    dsimp only [argT,argH]
    repeat' first|(apply n3;exact a_new (gb := .bx _) rfl;exact rfl;refine dA ?_)|(apply p3;(exact pu1);exact rfl)|refine cd ?_|fail
    repeat refine cr ?_
    refine ends_id ?_
    refine endK [] (h2 := ?_) (h3 := ?_) (nd := ?_)
    all_goals (repeat' first|exact ce0|refine ce ?_|refine ce2 ?_ ?_|exact SVLe.refl|refine ceb ?_)
    all_goals first | exact (show nodupB _ = true from rfl) | exact Or.inr rfl | (rfl)
  | true =>
    by_cases h : m.sy = 2
    · rw [cond_true,if_pos h]
      refine does_of (k := 0) Tryz.func45 rfl Tryz.ntmps45 rfl rfl fun w F0 S0 ρ0 => ?_
      dsimp only [argT,argH]
      repeat' first|(apply n3;exact a_new (gb := .bx _) rfl;exact rfl;refine dA ?_)|(apply p3;(first|exact pu1|exact a_ne rfl rfl);exact rfl)|refine cd ?_|((refine g_cond rfl (fun hc => ?_) (fun hc => ?_)) <;> (try simp only [dcB] at hc) <;> (try first|contradiction|(exfalso;omega)))|fail
      repeat refine cr ?_
      refine ends_id ?_
      refine endK [] (h2 := ?_) (h3 := ?_) (nd := ?_)
      all_goals (repeat' first|exact ce0|refine ce ?_|refine ce2 ?_ ?_|exact SVLe.refl|refine ceb ?_)
      all_goals first | exact (show nodupB _ = true from rfl) | exact Or.inr rfl | (rfl)
    · rw [cond_true,if_neg h]
      refine does_of (k := 0) Tryz.func45 rfl Tryz.ntmps45 rfl rfl fun w F0 S0 ρ0 => ?_
      dsimp only [argT,argH]
      repeat' first|(apply n3;exact a_new (gb := .bx _) rfl;exact rfl;refine dA ?_)|(apply p3;(first|exact pu1|exact a_ne rfl rfl);exact rfl)|refine cd ?_|((refine g_cond rfl (fun hc => ?_) (fun hc => ?_)) <;> (try simp only [dcB] at hc) <;> (try first|contradiction|(exfalso;omega)))|fail
      repeat refine cr ?_
      refine ends_id ?_
      refine endK [] (h2 := ?_) (h3 := ?_) (nd := ?_)
      all_goals (repeat' first|exact ce0|refine ce ?_|refine ce2 ?_ ?_|exact SVLe.refl|refine ceb ?_)
      all_goals first | exact (show nodupB _ = true from rfl) | exact Or.inr rfl | (rfl)
end Go.Proofs.YtnkeamihfiobdaaGreatDoor
end
section
set_option linter.unusedVariables false
set_option linter.unusedSimpArgs false
set_option maxRecDepth 100000
set_option maxHeartbeats 1000000
namespace Go.Proofs.YtnkeamihfiobdaaGreatDoor
open Go Foot Go.RowKit
theorem wdN_1x {s : Bs} (h : ¬ s = xN) (q : Int) : wdN [s,xN] q = [ltN s q,0] := by unfold wdN; simp [h]
theorem wdN_2 {s t : Bs} (h : ¬ s = xN) (h2 : ¬ t = xN) (q : Int) : wdN [s,t] q = [ltN s q,ltN t q] := by unfold wdN; simp [h,h2]
theorem wdN_1 {s : Bs} (h : ¬ s = xN) (q : Int) : wdN [s] q = [ltN s q] := by unfold wdN; simp [h]
theorem preB203 {p : Prop} (h : p := by first | with_reducible assumption | omega | (simp only [List.length_append,List.length_cons,List.length_nil,List.length_set,List.length_replicate,List.length_take,List.length_drop,List.length_tail,List.length_dropLast,List.length_reverse] at *; omega) | exact mem_len (by assumption) (by omega) | (with_reducible refine Int.le_trans (Int.ofNat_le.2 (trimR_len _)) ?_; simp only [List.length_cons,List.length_tail]; omega) | (exact (ruAt_ok (by assumption) (by assumption) (by assumption)).2.1) | (exact (ruAt_ok (by assumption) (by assumption) (by assumption)).2.1) | (have := vMach_bd (by assumption); omega) | (simp only [List.length_append,List.length_cons,List.length_nil,repW_len,seN_len] at *; omega) | (simp only [mC_ch,mC_tu]; omega) | (have := vTag_bd (by assumption); omega) | (have := (‹Gd _ _›).le; omega) | (exact tgHalts_no (by assumption)) | (exact tgHead (by assumption) (by assumption) (by assumption)) | (exact Int.le_trans (tgStep_gd (by assumption) (by assumption) (by assumption) (by assumption)).le (by decide)) | (exact vTag_r (by assumption)) | (with_reducible refine Int.le_trans (Int.ofNat_le.2 (pushL_len _ _)) ?_; simp only [List.length_dropLast]; omega) | exact ls_at (by assumption) (by omega) | exact pt_gd (by assumption) | exact lv_at (by assumption) (by omega) | exact pt_gd (lv_at (by assumption) (by omega)) | exact (ask_ok (by assumption)).1 | exact (ask_ok (by assumption)).2.1 | exact (ask_ok (by assumption)).2.2.1 | exact (ask_ok (by assumption)).2.2.2 | trivial) : p := h
theorem tapeCellsOf_ok (n : Int) (h0 : 0 ≤ n) (h1 : n ≤ 10000000) : Does Tryz.prog 194 [.one (int n),.one (int 2)] [] (.one (.gv 0)) [roI (btS n)] := by
  have hbl := btS_len n
  refine does_of (k := 0) Tryz.func194 rfl Tryz.ntmps194 rfl rfl fun w F0 S0 ρ0 => ?_
  dsimp only [argT,argH]
  repeat' first|(apply n3;exact a_nilO eI rfl;exact rfl)|(apply n3;(exact a_litE eI [] rfl rfl rfl rfl rfl rfl rfl rfl);exact rfl;refine dA ?_)|(apply p3;(exact pu1);exact rfl)|refine cd ?_|fail
  refine g_loop_id ?_
  refine loopK [1,4] [1] (fun y : Int × List Int => 0 ≤ y.1 ∧ y.1 ≤ n ∧ y.2 ++ btS y.1 = btS n) (fun y => [(0,.one (int y.1)),(5,.one (.gv 1))]) (fun y => [(1,roI y.2)]) (fun y => y.1.toNat) (n,[]) [0,1] (hI := ?_) (hr := ?_)
  · exact ⟨h0,by simp,by simp⟩
  · rintro ⟨k,l⟩ ⟨j0,j1,j2⟩
    dsimp only [List.cons_append,List.nil_append] at *
    skip
    have jl : l.length ≤ (btS n).length := by (rw [← j2,List.length_append]; omega)
    repeat' first|(apply n3;(exact a_litE eI [_] rfl rfl rfl rfl rfl rfl rfl rfl);exact rfl;refine dA ?_)|(apply p3;(first|exact pu1|exact puC|exact a_rem rfl rfl (by omega) (by omega) (by omega)|exact a_quo rfl rfl (by omega) (by omega) (by omega));exact rfl)|refine cd ?_|(apply s3;exact a_appE (fP rfl) rfl rfl rfl rfl nowR (by (simp <;> omega)) (by decide) (by decide) (by exact rfl);exact rfl;exact rfl)|((refine g_cond rfl (fun hc => ?_) (fun hc => ?_)) <;> (try simp only [dcB] at hc) <;> (try first|contradiction|(exfalso;omega)))|fail
    · have hb := btS_s hc
      refine q_again (k / 2,l ++ [k % 2]) [0,3] (by exact stk) ?_ ?_
      · dsimp only
        exact ⟨by omega,by omega,by rw [List.append_assoc,← j2,hb]; rfl⟩
      · dsimp only; omega
    · rw [btS_n hc,List.append_nil] at j2
      rw [← j2]
      repeat refine cr ?_
      refine ends_id ?_
      refine endK [?_] (h2 := ?_) (h3 := ?_) (nd := ?_)
      rotate_left 1
      all_goals (repeat' first|exact ce0|refine ce ?_|refine ce2 ?_ ?_|(refine Or.inr (bx_eq rfl rfl ?_);(try dsimp only [C.ren,C.ren.all]);(try exact rfl))|exact SVLe.refl|refine ceb ?_)
      all_goals first | exact (show nodupB _ = true from rfl) | exact Or.inr rfl | (rfl)
theorem l15Side_ok (n : Int) (h0 : 0 ≤ n) (h1 : n ≤ 10000000) : Does Tryz.prog 39 [.one (int n)] [] (.one (.gv 0)) [roI (btS n)] := by
  have hbl := btS_len n
  refine does_of (k := 0) Tryz.func39 rfl Tryz.ntmps39 rfl rfl fun w F0 S0 ρ0 => ?_
  dsimp only [argT,argH]
  repeat' first|(apply n3;exact a_nilO eI rfl;exact rfl)|(apply n3;(exact a_litE eI [] rfl rfl rfl rfl rfl rfl rfl rfl);exact rfl;refine dA ?_)|(apply p3;(exact pu1);exact rfl)|refine cd ?_|fail
  refine g_loop_id ?_
  refine loopK [2] [1] (fun y : Int × List Int => 0 ≤ y.1 ∧ y.1 ≤ n ∧ y.2 ++ btS y.1 = btS n) (fun y => [(0,.one (int y.1)),(3,.one (.gv 1))]) (fun y => [(1,roI y.2)]) (fun y => y.1.toNat) (n,[]) [0,1] (hI := ?_) (hr := ?_)
  · exact ⟨h0,by simp,by simp⟩
  · rintro ⟨k,l⟩ ⟨j0,j1,j2⟩
    dsimp only [List.cons_append,List.nil_append] at *
    skip
    have jl : l.length ≤ (btS n).length := by (rw [← j2,List.length_append]; omega)
    repeat' first|(apply n3;(exact a_litE eI [_] rfl rfl rfl rfl rfl rfl rfl rfl);exact rfl;refine dA ?_)|(apply p3;(first|exact pu1|exact puC|exact a_rem rfl rfl (by omega) (by omega) (by omega)|exact a_quo rfl rfl (by omega) (by omega) (by omega));exact rfl)|refine cd ?_|(apply s3;exact a_appE (fP rfl) rfl rfl rfl rfl nowR (by (simp <;> omega)) (by decide) (by decide) (by exact rfl);exact rfl;exact rfl)|((refine g_cond rfl (fun hc => ?_) (fun hc => ?_)) <;> (try simp only [dcB] at hc) <;> (try first|contradiction|(exfalso;omega)))|fail
    · have hb := btS_s hc
      refine q_again (k / 2,l ++ [k % 2]) [0,3] (by exact stk) ?_ ?_
      · dsimp only
        exact ⟨by omega,by omega,by rw [List.append_assoc,← j2,hb]; rfl⟩
      · dsimp only; omega
    · rw [btS_n hc,List.append_nil] at j2
      rw [← j2]
      repeat refine cr ?_
      refine ends_id ?_
      refine endK [?_] (h2 := ?_) (h3 := ?_) (nd := ?_)
      rotate_left 1
      all_goals (repeat' first|exact ce0|refine ce ?_|refine ce2 ?_ ?_|(refine Or.inr (bx_eq rfl rfl ?_);(try dsimp only [C.ren,C.ren.all]);(try exact rfl))|exact SVLe.refl|refine ceb ?_)
      all_goals first | exact (show nodupB _ = true from rfl) | exact Or.inr rfl | (rfl)
theorem configOfBits_ok (q a b : Int) (h0 : 0 ≤ a) (h1 : a ≤ 10000000) (h2 : 0 ≤ b) (h3 : b ≤ 10000000) : Does Tryz.prog 124 [.one (int q),.one (int a),.one (int b)] [] (.agg [int q,.gv 0,.gv 1]) [roI (btS a),roI (btS b)] := by
  refine does_of (k := 0) Tryz.func124 rfl Tryz.ntmps124 rfl rfl fun w F0 S0 ρ0 => ?_
  dsimp only [argT,argH]
  repeat' first|(apply n3;exact a_new (gb := .bx _) rfl;exact rfl;refine dA ?_)|(apply p3;exact pu1;exact rfl)|refine cd ?_|(apply w3;(exact a_st_bx rfl rfl rfl rfl (fN rfl rfl) (Nat.le_of_ble_eq_true rfl) rfl);exact rfl;refine dS ?_)|(apply c4 1;exact callK1 (θ := []) (hD := (tapeCellsOf_ok _ preB203 preB203));exact rfl;exact rfl;exact rfl;refine dM ?_)|fail
  repeat refine cr ?_
  refine ends_id ?_
  refine endK [?_,?_] (h2 := ?_) (h3 := ?_) (nd := ?_)
  rotate_left 2
  all_goals (repeat' first|exact ce0|refine ce ?_|refine ce2 ?_ ?_|(refine Or.inr (bx_eq rfl rfl ?_);(try dsimp only [C.ren,C.ren.all]);(try exact rfl))|exact SVLe.refl|refine ceb ?_)
  all_goals first | exact (show nodupB _ = true from rfl) | exact Or.inr rfl | (rfl)
theorem pairA_ok (q : Int) (s : Bs) (h0 : -1000 ≤ q) (h1 : q ≤ 1000000) : Does Tryz.prog 185 [.one (str s),.one (.d (.bx false [.sc (.int .i64 q)]))] [] (.one (.gv 0)) [roI [ltN s q,0]] := by
  refine does_of (k := 0) Tryz.func185 rfl Tryz.ntmps185 rfl rfl fun w F0 S0 ρ0 => ?_
  dsimp only [argT,argH]
  repeat' first|(apply n3;exact a_nilO eI rfl;exact rfl)|(apply n3;exact a_litE eI [_,_] rfl rfl rfl rfl rfl rfl rfl rfl;exact rfl;refine dA ?_)|(apply p3;(exact pu1);exact rfl)|refine cd ?_|(apply c4 0;exact callK1 (θ := []) (hD := (letterOf_ok _ _ preB203 preB203));exact rfl;exact rfl;exact rfl;refine dM ?_)|fail
  repeat refine cr ?_
  refine ends_id ?_
  refine endK [?_] (h2 := ?_) (h3 := ?_) (nd := ?_)
  rotate_left 1
  all_goals (repeat' first|exact ce0|refine ce ?_|refine ce2 ?_ ?_|(refine Or.inr (bx_eq rfl rfl ?_);(try dsimp only [C.ren,C.ren.all]);(try exact rfl))|exact SVLe.refl|refine ceb ?_)
  all_goals first | exact (show nodupB _ = true from rfl) | exact Or.inr rfl | (rfl)
theorem pairH_ok (q : Int) (s : Bs) (h0 : -1000 ≤ q) (h1 : q ≤ 1000000) (hs : s.length ≤ 100) : Does Tryz.prog 195 [.one (str s),.one (.d (.bx false [.sc (.int .i64 q)]))] [] (.one (.gv 0)) [roI [ltN (s ++ [49]) q,ltN (s ++ [48]) q]] := by
  refine does_of (k := 0) Tryz.func195 rfl Tryz.ntmps195 rfl rfl fun w F0 S0 ρ0 => ?_
  dsimp only [argT,argH]
  repeat' first|(apply n3;exact a_nilO eI rfl;exact rfl)|refine cd ?_|(apply g_drN (id := 1) okM [[],[0],[],[0,1,2],[],[4],[],[0,1,2,3,4,5,6],[0,1,2,3,4,5,6,7],[0,1,2,3,4,5,6,7,8]] [([],[]),([],[]),([],[]),([],[]),([],[]),([],[]),([],[]),([],[]),([0],[]),([],[])] 1;(focus (refine dp 0 0 [6,8,9,10] [] pu1 ?_;refine dp 1 1 [6,8,9,10] [] (a_addS rfl rfl (by (simp only [List.length_append,List.length_cons,List.length_nil];omega))) ?_;refine dp 2 0 [4,5,8,9,10] [] puL ?_;refine dp 3 7 [8,9,10] [] (callD1 (n := _) 0 (θ := []) (hD := (letterOf_ok _ _ preB203 preB203))) ?_;refine dp 4 0 [4,5,6,7,10] [] pu1 ?_;refine dp 5 1 [4,5,6,7,10] [] (a_addS rfl rfl (by (simp only [List.length_append,List.length_cons,List.length_nil];omega))) ?_;refine dp 6 0 [4,5,6,7,8,9] [] puL ?_;refine dp 7 127 [] [] (callD1 (n := _) 0 (θ := []) (hD := (letterOf_ok _ _ preB203 preB203))) ?_;refine duE 8 255 [] [] (atN 0 (fun _ => a_litE eI [_,_] rfl rfl rfl rfl rfl rfl rfl rfl)) (by exact rfl) (by exact rfl) ?_;refine dp 9 511 [] [] pu1 ?_;(refine d_nil ?_;refine dN ?_)));any_goals kernel_rfl)|fail
  repeat refine cr ?_
  refine ends_id ?_
  refine endK [?_] (h2 := ?_) (h3 := ?_) (nd := ?_)
  rotate_left 1
  all_goals (repeat' first|exact ce0|refine ce ?_|refine ce2 ?_ ?_|(refine Or.inr (bx_eq rfl rfl ?_);(try dsimp only [C.ren,C.ren.all]);(try exact rfl))|exact SVLe.refl|refine ceb ?_)
  all_goals first | exact (show nodupB _ = true from rfl) | exact Or.inr rfl | (rfl)
theorem shownWord_ok (q a b : Int) (h0 : 0 ≤ q) (h1 : q ≤ 1000) (h2 : 0 ≤ a) (h3 : a ≤ 1000) (h4 : 0 ≤ b) (h5 : b ≤ 1000) : Does Tryz.prog 108 [.one (int q),.one (int a),.one (int b)] [] (.one (.gv 0)) [roI (shA q a.toNat b.toNat)] := by
  have hsh : shA q a.toNat b.toNat = [[ltN [65] q,0],repW [ltN [97] q,0] a.toNat,[ltN [66] q,0],repW [ltN [98] q,0] b.toNat].flatten := by
    unfold shA shF
    rw [wdN_1x (by decide),wdN_1x (by decide),wdN_1x (by decide),wdN_1x (by decide)]
    simp
  rw [hsh]
  have hJ : JnOk [[ltN [65] q,0],repW [ltN [97] q,0] a.toNat,[ltN [66] q,0],repW [ltN [98] q,0] b.toNat] := by
    refine ⟨by simp,fun x hx => ?_,?_⟩
    · have : x.length ≤ 2000 := by
        simp only [List.mem_cons,List.not_mem_nil,or_false] at hx
        rcases hx with h | h | h | h <;> subst h <;> simp [repW_len] <;> omega
      omega
    · simp only [List.flatten_cons,List.flatten_nil,List.length_append,List.length_nil,List.length_cons,repW_len]
      omega
  refine does_of (k := 0) Tryz.func108 rfl Tryz.ntmps108 rfl rfl fun w F0 S0 ρ0 => ?_
  dsimp only [argT,argH]
  repeat' first|(apply n3;exact a_new (gb := .bx _) rfl;exact rfl;refine dA ?_)|(apply p3;exact a_pure (sv := .one _) rfl;exact rfl)|refine cdn ?_|refine g_reg (id := 0) ?_|fail
  first | refine g_turn (t_frzB (d := 3) (i := 0) rfl rfl rfl) ?_ | refine o_turn (t_frzB (d := 3) (i := 0) rfl rfl rfl) ?_
  repeat' first|(apply p3;exact pu1;exact rfl)|refine cd ?_|(apply c4 1;exact callK1 (θ := []) (hD := (pairA_ok q _ preB203 preB203));exact rfl;exact rfl;exact rfl;refine dM ?_)|(apply c4 1;exact callK1 (θ := []) (hD := (repeatI_ok _ _ preB203 preB203 preB203));exact rfl;exact rfl;exact rfl;refine dM ?_)|fail
  refine o_turn (t_freeze (i := 1) rfl nowR) ?_
  refine o_turn (t_freeze (i := 3) rfl nowR) ?_
  refine o_turn (t_freeze (i := 4) rfl nowR) ?_
  refine o_turn (t_freeze (i := 6) rfl nowR) ?_
  repeat' first|(apply n3;(exact a_litE eW [_,_,_,_] rfl rfl rfl rfl rfl rfl rfl rfl);exact rfl;refine dA ?_)|(apply p3;exact pu1;exact rfl)|refine cd ?_|(apply c4 1;exact callK1 (θ := []) (hD := (joined_ok [[ltN [65] q,0],repW [ltN [97] q,0] a.toNat,[ltN [66] q,0],repW [ltN [98] q,0] b.toNat] hJ));exact rfl;exact rfl;exact rfl;refine dM ?_)|fail
  repeat refine cr ?_
  refine ends_id ?_
  refine endK [?_] (h2 := ?_) (h3 := ?_) (nd := ?_)
  rotate_left 1
  all_goals (repeat' first|exact ce0|refine ce ?_|refine ce2 ?_ ?_|(refine Or.inr (bx_eq rfl rfl ?_);(try dsimp only [C.ren,C.ren.all]);(try exact rfl))|exact SVLe.refl|refine ceb ?_)
  all_goals first | exact (show nodupB _ = true from rfl) | exact Or.inr rfl | (rfl)
theorem haltedWord_ok (q v a b : Int) (h0 : 0 ≤ q) (h1 : q ≤ 1000) (hv : v = 0 ∨ v = 1) (h2 : 0 ≤ a) (h3 : a ≤ 1000) (h4 : 0 ≤ b) (h5 : b ≤ 1000) : Does Tryz.prog 125 [.one (int q),.one (int v),.one (int a),.one (int b)] [] (.one (shI (shB q v.toNat a.toNat b.toNat))) [] := by
  have hsh : shB q v.toNat a.toNat b.toNat = ([[ltN ([80] ++ [49]) q,ltN ([80] ++ [48]) q],repW [ltN ([112] ++ [49]) q,ltN ([112] ++ [48]) q] a.toNat,[ltN ([81] ++ [49]) q,ltN ([81] ++ [48]) q],repW [ltN ([114] ++ [49]) q,ltN ([114] ++ [48]) q] b.toNat].flatten).drop (1 - v).toNat := by
    unfold shB shF
    have k1 := wdN_2 (s := [80,49]) (t := [80,48]) (by decide) (by decide) q
    have k2 := wdN_1 (s := [80,48]) (by decide) q
    have k3 := wdN_2 (s := [112,49]) (t := [112,48]) (by decide) (by decide) q
    have k4 := wdN_2 (s := [81,49]) (t := [81,48]) (by decide) (by decide) q
    have k5 := wdN_2 (s := [114,49]) (t := [114,48]) (by decide) (by decide) q
    rcases hv with h | h
    · subst h
      simp [k1,k2,k3,k4,k5]
    · subst h
      simp [k1,k2,k3,k4,k5]
  have hJ : JnOk [[ltN ([80] ++ [49]) q,ltN ([80] ++ [48]) q],repW [ltN ([112] ++ [49]) q,ltN ([112] ++ [48]) q] a.toNat,[ltN ([81] ++ [49]) q,ltN ([81] ++ [48]) q],repW [ltN ([114] ++ [49]) q,ltN ([114] ++ [48]) q] b.toNat] := by
    refine ⟨by simp,fun x hx => ?_,?_⟩
    · have : x.length ≤ 2000 := by
        simp only [List.mem_cons,List.not_mem_nil,or_false] at hx
        rcases hx with h | h | h | h <;> subst h <;> simp [repW_len] <;> omega
      omega
    · simp only [List.flatten_cons,List.flatten_nil,List.length_append,List.length_nil,List.length_cons,repW_len]
      omega
  have hlen : ([[ltN [80,49] q,ltN [80,48] q],repW [ltN [112,49] q,ltN [112,48] q] a.toNat,[ltN [81,49] q,ltN [81,48] q],repW [ltN [114,49] q,ltN [114,48] q] b.toNat].flatten).length = 4 + 2 * a.toNat + 2 * b.toNat := by
    simp only [List.flatten_cons,List.flatten_nil,List.length_append,List.length_nil,List.length_cons,repW_len]
    omega
  rw [hsh]
  refine does_of (k := 0) Tryz.func125 rfl Tryz.ntmps125 rfl rfl fun w F0 S0 ρ0 => ?_
  dsimp only [argT,argH]
  repeat' first|(apply n3;exact a_new (gb := .bx _) rfl;exact rfl;refine dA ?_)|(apply p3;exact a_pure (sv := .one _) rfl;exact rfl)|refine cdn ?_|refine g_reg (id := 0) ?_|fail
  first | refine g_turn (t_frzB (d := 4) (i := 0) rfl rfl rfl) ?_ | refine o_turn (t_frzB (d := 4) (i := 0) rfl rfl rfl) ?_
  repeat' first|(apply p3;(exact pu1);exact rfl)|refine cd ?_|(apply c4 1;exact callK1 (θ := []) (hD := (pairH_ok q _ preB203 preB203 preB203));exact rfl;exact rfl;exact rfl;refine dM ?_)|(apply c4 1;exact callK1 (θ := []) (hD := (repeatI_ok _ _ preB203 preB203 preB203));exact rfl;exact rfl;exact rfl;refine dM ?_)|fail
  refine o_turn (t_freeze (i := 1) rfl nowR) ?_
  refine o_turn (t_freeze (i := 3) rfl nowR) ?_
  refine o_turn (t_freeze (i := 4) rfl nowR) ?_
  refine o_turn (t_freeze (i := 6) rfl nowR) ?_
  repeat' first|(apply n3;(exact a_litE eW [_,_,_,_] rfl rfl rfl rfl rfl rfl rfl rfl);exact rfl;refine dA ?_)|(apply p3;exact pu1;exact rfl)|refine cdn ?_|(apply c4 1;exact callK1 (θ := []) (hD := (joined_ok [[ltN ([80] ++ [49]) q,ltN ([80] ++ [48]) q],repW [ltN ([112] ++ [49]) q,ltN ([112] ++ [48]) q] a.toNat,[ltN ([81] ++ [49]) q,ltN ([81] ++ [48]) q],repW [ltN ([114] ++ [49]) q,ltN ([114] ++ [48]) q] b.toNat] hJ));exact rfl;exact rfl;exact rfl;refine dM ?_)|fail
  refine g_turn (t_freeze (i := 8) rfl nowR) ?_
  repeat' first|(apply p3;(first|exact pu1|exact a_sub rfl rfl (by omega) (by omega)|exact a_slT rfl rfl rfl (fS rfl) (by omega) (by omega) (by exact rfl));exact rfl)|refine cd ?_|fail
  repeat refine cr ?_
  refine ends_id ?_
  refine endK [] (h2 := ?_) (h3 := ?_) (nd := ?_)
  all_goals (repeat' first|exact ce0|refine ce ?_|refine ce2 ?_ ?_|exact SVLe.refl|refine ceb ?_)
  all_goals first | exact (show nodupB _ = true from rfl) | exact Or.inr rfl | (rfl)
end Go.Proofs.YtnkeamihfiobdaaGreatDoor
end
section
set_option linter.unusedVariables false
set_option linter.unusedSimpArgs false
set_option maxRecDepth 100000
set_option maxHeartbeats 1000000
namespace Go.Proofs.YtnkeamihfiobdaaGreatDoor
open Go Foot Go.RowKit
abbrev eSL : Enc (List Bs) := ⟨1,fun l => [.sl false 1 (rows eS l)],fun _ => rfl,by decide⟩
theorem preB196 {p : Prop} (h : p := by first | with_reducible assumption | omega | (simp only [List.length_append,List.length_cons,List.length_nil,List.length_set,List.length_replicate,List.length_take,List.length_drop,List.length_tail,List.length_dropLast,List.length_reverse] at *; omega) | exact mem_len (by assumption) (by omega) | (with_reducible refine Int.le_trans (Int.ofNat_le.2 (trimR_len _)) ?_; simp only [List.length_cons,List.length_tail]; omega) | (exact (ruAt_ok (by assumption) (by assumption) (by assumption)).2.1) | (exact (ruAt_ok (by assumption) (by assumption) (by assumption)).2.1) | (have := vMach_bd (by assumption); omega) | (simp only [mC_ch,mC_tu]; omega) | (have := vTag_bd (by assumption); omega) | (have := (‹Gd _ _›).le; omega) | (exact tgHalts_no (by assumption)) | (exact tgHead (by assumption) (by assumption) (by assumption)) | (exact Int.le_trans (tgStep_gd (by assumption) (by assumption) (by assumption) (by assumption)).le (by decide)) | (exact vTag_r (by assumption)) | (with_reducible refine Int.le_trans (Int.ofNat_le.2 (pushL_len _ _)) ?_; simp only [List.length_dropLast]; omega) | exact ls_at (by assumption) (by omega) | exact pt_gd (by assumption) | exact lv_at (by assumption) (by omega) | exact pt_gd (lv_at (by assumption) (by omega)) | exact (ask_ok (by assumption)).1 | exact (ask_ok (by assumption)).2.1 | exact (ask_ok (by assumption)).2.2.1 | exact (ask_ok (by assumption)).2.2.2 | trivial) : p := h
theorem tbSet_ok (ws : List (List Int)) (s : Bs) (q p : Int) (ns : List Bs) (h0 : 0 ≤ q) (h1 : q ≤ 5) (h2 : -1000 ≤ p) (h3 : p ≤ 1000) (hn : (ns.length : Int) ≤ 1000) (hi : 0 ≤ ixT s nmL) (hl : 30 * q + 31 ≤ (ws.length : Int)) : Does Tryz.prog 189 [.one (.gv 0),.one (str s),.one (int q),.one (int p),.one (shS ns)] [.bx [.gv 1],roW ws] .any [.bx [.gv 1],roW (seN q p ws s ns)] := by
  have hse : seN q p ws s ns = ws.set (ltN s q).toNat (wdN ns p) := by unfold seN; rfl
  have hlb : 1 + 30 * q ≤ ltN s q := by unfold ltN; omega
  have hlc := (ltN_bd s q).2
  rw [hse]
  refine does_of (k := 2) Tryz.func189 rfl Tryz.ntmps189 rfl rfl fun w F0 S0 ρ0 => ?_
  dsimp only [argT,argH]
  repeat' first|(apply n3;(exact a_litE eI [] rfl rfl rfl rfl rfl rfl rfl rfl);exact rfl;refine dA ?_)|(apply p3;(first|exact pu1|exact puN);exact rfl)|refine cd ?_|fail
  refine g_loop_id ?_
  refine loopK [0,1,2,3,14,15] [2] (fun y : Int × List Int => 0 ≤ y.1 ∧ y.1 ≤ ns.length ∧ y.2 = wdN (ns.take y.1.toNat) p) (fun y => [(16,.one (int y.1)),(10,.one (.gv 2))]) (fun y => [(2,roI y.2)]) (fun y => (ns.length - y.1).toNat) ((0 : Int),[]) [0,1,2] (hI := ?_) (hr := ?_)
  · exact ⟨by simp,by simp,by simp [wdN_nil]⟩
  · rintro ⟨i,l⟩ ⟨j0,j1,j2⟩
    dsimp only [List.cons_append,List.nil_append] at *
    skip
    have jl : (l.length : Int) = i := by rw [j2,wdN_len,List.length_take]; omega
    repeat' first|(apply n3;(exact a_litE eI [_] rfl rfl rfl rfl rfl rfl rfl rfl);exact rfl;refine dA ?_)|(apply p3;(first|exact pu1|exact puC|exact a_eqT rfl rfl|exact a_add rfl rfl (by omega) (by omega)|exact puI);exact rfl)|refine cdn ?_|refine g_reg (id := 2) ?_|refine g_reg (id := 3) ?_|refine g_reg (id := 4) ?_|refine g_reg (id := 5) ?_|refine g_reg (id := 6) ?_|refine g_reg (id := 7) ?_|(apply s3;exact a_appE (fP rfl) rfl rfl rfl rfl nowR (by (simp <;> omega)) (by decide) (by decide) (by exact rfl);exact rfl;exact rfl)|(apply c4 0;exact callK1 (θ := []) (hD := (letterOf_ok _ _ preB196 preB196));exact rfl;exact rfl;exact rfl;refine dM ?_)|((refine g_cond rfl (fun hc => ?_) (fun hc => ?_)) <;> (try simp only [dcB] at hc) <;> (try first|contradiction|(exfalso;omega)))|fail
    · have hw := wdN_take (ns := ns) (q := p) j0 (by omega)
      refine q_again (i + 1,l ++ [0]) [0,1,4] (by exact stk) ?_ ?_
      · dsimp only
        exact ⟨by omega,by omega,by rw [hw,if_pos (by assumption),← j2]⟩
      · dsimp only; omega
    · have hw := wdN_take (ns := ns) (q := p) j0 (by omega)
      refine q_again (i + 1,l ++ [ltN (ns[i.toNat]'(by omega)) p]) [0,1,4] (by exact stk) ?_ ?_
      · dsimp only
        exact ⟨by omega,by omega,by rw [hw,if_neg (by assumption),← j2]⟩
      · dsimp only; omega
    · have e : l = wdN ns p := by rw [j2,List.take_of_length_le (by omega)]
      rw [← e]
      refine g_turn (t_freeze (i := 2) rfl nowR) ?_
      repeat' first|(apply g_drN (id := 8) okM [[],[0],[0,1],[0,1,2],[],[],[4,5],[],[0,1,2,3,4,5,6,7],[0,1,2,3,4,5,6,7,8]] [([],[]),([],[]),([],[]),([],[]),([],[]),([],[]),([],[]),([],[]),([],[]),([],[1])] 0;(focus (refine dp 0 0 [36,37,38,39] [] pu1 ?_;refine dp 1 1 [36,37,38,39] [] (a_pure (sv := .one _) rfl) ?_;refine dp 2 3 [36,37,38,39] [] (a_pure (sv := .one _) rfl) ?_;refine dp 3 7 [36,37,38,39] [] puL ?_;refine dp 4 0 [32,33,34,35,37,39] [] pu1 ?_;refine dp 5 0 [32,33,34,35,36,39] [] pu1 ?_;refine dp 6 3 [32,33,34,35,39] [] (callD1 (n := _) 0 (θ := []) (hD := (letterOf_ok _ _ preB196 preB196))) ?_;refine dp 7 0 [32,33,34,35,36,37,38] [] pu1 ?_;refine dp 8 255 [] [] puI ?_;refine duE 9 511 [] [] (by exact a_stE (E := eW) _ rfl rfl rfl rfl (fN rfl rfl) bnd (by exact rfl)) (by exact rfl) (by exact rfl) ?_;(refine d_nil ?_;refine dN ?_)));any_goals kernel_rfl)|fail
      repeat refine cr ?_
      refine ends_id ?_
      refine endK [] (h2 := ?_) (h3 := ?_) (nd := ?_)
      all_goals (repeat' first|exact ce0|refine ce ?_|refine ce2 ?_ ?_|(refine Or.inr (bx_eq rfl rfl ?_);(try dsimp only [C.ren,C.ren.all]);(try exact rfl))|exact SVLe.refl|refine ceb ?_)
      all_goals first | exact (show nodupB _ = true from rfl) | exact Or.inr rfl | (rfl)
theorem tbg_cons : ∀ r ∈ tbgN,∃ s0 t0,r = s0 :: t0 := fun r h => by
  cases r with
  | nil => exact absurd h (by decide)
  | cons a l => exact ⟨a,l,rfl⟩
theorem tbg_len : ∀ r ∈ tbgN,r.length ≤ 8 := by decide
theorem stateWords_ok (ws : List (List Int)) (q : Int) (h0 : 0 ≤ q) (h1 : q ≤ 5) (hl : 30 * q + 31 ≤ (ws.length : Int)) : Does Tryz.prog 115 [.one (.gv 0),.one (int q)] [.bx [.gv 1],roW ws] .any [.bx [.gv 1],roW (stN q ws tbgN)] := by
  have hT : tbgN.length = 22 := rfl
  refine does_of (k := 2) Tryz.func115 rfl Tryz.ntmps115 rfl rfl fun w F0 S0 ρ0 => ?_
  dsimp only [argT,argH]
  repeat' first|(apply p3;exact a_litF (dst := some 7) eS [_,_,_] rfl rfl rfl rfl rfl rfl rfl rfl nowR;exact rfl)|(apply p3;exact a_litF (dst := some 8) eS [_,_,_] rfl rfl rfl rfl rfl rfl rfl rfl nowR;exact rfl)|(apply p3;exact a_litF (dst := some 9) eS [_,_] rfl rfl rfl rfl rfl rfl rfl rfl nowR;exact rfl)|(apply p3;exact a_litF (dst := some 10) eS [_,_] rfl rfl rfl rfl rfl rfl rfl rfl nowR;exact rfl)|(apply p3;exact a_litF (dst := some 11) eS [_,_,_] rfl rfl rfl rfl rfl rfl rfl rfl nowR;exact rfl)|(apply p3;exact a_litF (dst := some 12) eS [_,_,_] rfl rfl rfl rfl rfl rfl rfl rfl nowR;exact rfl)|(apply p3;exact a_litF (dst := some 13) eS [_,_,_] rfl rfl rfl rfl rfl rfl rfl rfl nowR;exact rfl)|(apply p3;exact a_litF (dst := some 14) eS [_,_,_] rfl rfl rfl rfl rfl rfl rfl rfl nowR;exact rfl)|(apply p3;exact a_litF (dst := some 15) eS [_,_,_] rfl rfl rfl rfl rfl rfl rfl rfl nowR;exact rfl)|(apply p3;exact a_litF (dst := some 16) eS [_,_,_] rfl rfl rfl rfl rfl rfl rfl rfl nowR;exact rfl)|(apply p3;exact a_litF (dst := some 17) eS [_,_,_,_,_] rfl rfl rfl rfl rfl rfl rfl rfl nowR;exact rfl)|(apply p3;exact a_litF (dst := some 18) eS [_,_,_] rfl rfl rfl rfl rfl rfl rfl rfl nowR;exact rfl)|(apply p3;exact a_litF (dst := some 19) eS [_,_,_] rfl rfl rfl rfl rfl rfl rfl rfl nowR;exact rfl)|(apply p3;exact a_litF (dst := some 20) eS [_,_,_] rfl rfl rfl rfl rfl rfl rfl rfl nowR;exact rfl)|(apply p3;exact a_litF (dst := some 21) eS [_,_,_] rfl rfl rfl rfl rfl rfl rfl rfl nowR;exact rfl)|(apply p3;exact a_litF (dst := some 22) eS [_,_,_,_] rfl rfl rfl rfl rfl rfl rfl rfl nowR;exact rfl)|(apply p3;exact a_litF (dst := some 23) eS [_,_,_] rfl rfl rfl rfl rfl rfl rfl rfl nowR;exact rfl)|(apply p3;exact a_litF (dst := some 24) eS [_,_,_] rfl rfl rfl rfl rfl rfl rfl rfl nowR;exact rfl)|(apply p3;exact a_litF (dst := some 25) eS [_,_,_] rfl rfl rfl rfl rfl rfl rfl rfl nowR;exact rfl)|(apply p3;exact a_litF (dst := some 26) eS [_,_,_] rfl rfl rfl rfl rfl rfl rfl rfl nowR;exact rfl)|(apply p3;exact a_litF (dst := some 27) eS [_,_,_] rfl rfl rfl rfl rfl rfl rfl rfl nowR;exact rfl)|(apply p3;exact a_litF (dst := some 28) eS [_,_,_] rfl rfl rfl rfl rfl rfl rfl rfl nowR;exact rfl)|(apply p3;exact a_litF (dst := some 29) eSL [_,_,_,_,_,_,_,_,_,_,_,_,_,_,_,_,_,_,_,_,_,_] rfl rfl rfl rfl rfl rfl rfl rfl nowR;exact rfl)|(apply p3;(first|exact pu1|exact puN);exact rfl)|refine cd ?_|fail
  rw [show ([[[65],[65,49],[120]],[[97],[97,49],[120]],[[66],[66,49]],[[98],[98,49]],[[65,49],[80,49],[80,48]],[[97,49],[112,49],[112,48]],[[66,49],[81,49],[81,48]],[[98,49],[114,49],[114,48]],[[69],[72,49],[72,48]],[[101],[104,49],[104,48]],[[70,49],[74,49],[74,48],[106,49],[106,48]],[[70,48],[74,49],[74,48]],[[102,49],[106,49],[106,48]],[[102,48],[106,49],[106,48]],[[72,49],[65],[120]],[[72,48],[120],[65],[120]],[[104,49],[97],[120]],[[104,48],[97],[120]],[[74,49],[66],[120]],[[74,48],[66],[120]],[[106,49],[98],[120]],[[106,48],[98],[120]]] : List (List Bs)) = tbgN from rfl]
  refine g_loop_id ?_
  refine loopK [0,1,30,31] [1] (fun y : Int × List (List Int) => 0 ≤ y.1 ∧ y.1 ≤ 22 ∧ y.2 = stN q ws (tbgN.take y.1.toNat)) (fun y => [(32,.one (int y.1))]) (fun y => [(1,roW y.2)]) (fun y => (22 - y.1).toNat) ((0 : Int),ws) [0,1] (hI := ?_) (hr := ?_)
  · exact ⟨by simp,by simp,by simp [stN]⟩
  · rintro ⟨i,a⟩ ⟨j0,j1,j2⟩
    dsimp only [List.cons_append,List.nil_append] at *
    skip
    have jl : a.length = ws.length := by rw [j2,stN_len]
    repeat' first|(apply p3;(first|exact pu1|exact puC|exact puI);exact rfl)|refine cdn ?_|refine g_reg (id := 2) ?_|refine g_reg (id := 3) ?_|((refine g_cond rfl (fun hc => ?_) (fun hc => ?_)) <;> (try simp only [dcB] at hc) <;> (try first|contradiction|(exfalso;omega)))|fail
    · have hi : i.toNat < tbgN.length := by omega
      obtain ⟨s0,t0,e⟩ := tbg_cons _ (List.getElem_mem hi)
      have hix : 0 ≤ ixT s0 nmL := by have := tbg_ix _ (List.getElem_mem hi); rw [e] at this; exact this
      have ht : (t0.length : Int) ≤ 1000 := by have := tbg_len _ (List.getElem_mem hi); rw [e,List.length_cons] at this; omega
      have hsn : stN q ws (tbgN.take (i + 1).toNat) = seN q q (stN q ws (tbgN.take i.toNat)) s0 t0 := by
        rw [show (i + 1).toNat = i.toNat + 1 by omega,List.take_succ_eq_append_getElem hi,stN_snoc,e]
        rfl
      have hcl : (s0 :: t0).length = t0.length + 1 := rfl
      simp only [e]
      repeat' first|(apply p3;(first|exact pu1|exact a_add rfl rfl (by omega) (by omega));exact rfl)|refine cd ?_|(apply g_drN (id := 4) okM [[],[],[1],[1,2],[],[],[],[6],[0,1,2,3,4,5,6,7]] [([],[]),([],[]),([],[]),([],[]),([],[]),([],[]),([],[]),([],[]),([],[0,1])] 0;(focus (refine dp 0 0 [37,38,39,40,41,42,43] [] pu1 ?_;refine dp 1 0 [36,40,41,42,43] [] pu1 ?_;refine dp 2 1 [36,40,41,42,43] [] puI ?_;refine dp 3 3 [36,40,41,42,43] [] (by exact a_pure (sv := .one _) rfl) ?_;refine dp 4 0 [36,37,38,39,41,42,43] [] pu1 ?_;refine dp 5 0 [36,37,38,39,40,42,43] [] pu1 ?_;refine dp 6 0 [36,37,38,39,40,41] [] pu1 ?_;refine dp 7 1 [36,37,38,39,40,41] [] (by exact a_slT rfl rfl rfl (fS rfl) (by omega) (by omega) (by exact rfl)) ?_;refine duN 8 255 [] [] (callD0 (n := _) 0 (θ := [_,_]) (hD := (tbSet_ok a s0 q q t0 h0 h1 (by omega) (by omega) ht hix (by omega)))) (by exact rfl) (by exact rfl) ?_;(refine d_nil ?_;refine dN ?_)));any_goals kernel_rfl)|fail
      refine q_again (i + 1,seN q q a s0 t0) [0,1] (by exact stk) ?_ ?_
      · dsimp only
        exact ⟨by omega,by omega,by rw [hsn,← j2]⟩
      · dsimp only; omega
    · have e : stN q ws tbgN = a := by rw [j2,List.take_of_length_le (by omega)]
      rw [e]
      repeat refine cr ?_
      refine ends_id ?_
      refine endK [] (h2 := ?_) (h3 := ?_) (nd := ?_)
      all_goals (repeat' first|exact ce0|refine ce ?_|refine ce2 ?_ ?_|(refine Or.inr (bx_eq rfl rfl ?_);(try dsimp only [C.ren,C.ren.all]);(try exact rfl))|exact SVLe.refl|refine ceb ?_)
      all_goals first | exact (show nodupB _ = true from rfl) | exact Or.inr rfl | (rfl)
end Go.Proofs.YtnkeamihfiobdaaGreatDoor
end
section
set_option linter.unusedVariables false
set_option linter.unusedSimpArgs false
set_option maxRecDepth 100000
set_option maxHeartbeats 8000000
namespace Go.Proofs.YtnkeamihfiobdaaGreatDoor
open Go Foot Go.RowKit
section
variable {P : Program} {g : Gh} {st : St} {dst : Option Tmp} {ty : TypeId} {pos : String} {after : Array Edge} {guard : Option (Nat × Bool)} {x y : Operand}
theorem a_ldW {T i k : Nat} {c0 : C} {l : List (List Int)} (hc : opd st x = .one c0) (ht : tgt st c0 = some (i,k)) (hg : lkG st.h i = .row 1 (rows eW l)) (hT : cellB P T = true) (hk : k < l.length) : Acts P g ⟨dst,.load T x,ty,pos,after,guard⟩ st (.one (shI (l[k]'hk))) [] [] := by
  refine a_ld_row (c := .sl false 1 (rows eI (l[k]'hk))) hc ht hg hT ?_ rfl
  have := rows_nth (E := eW) (o := 0) hk (by decide)
  simpa using this
end
theorem stI_four (ws : List (List Int)) (k : Nat) (f : Nat → List Int) : stI ws k f 4 = (((ws.set k (f 0)).set (k + 2) (f 1)).set (k + 4) (f 2)).set (k + 6) (f 3) := rfl
theorem ru_four {q s : Nat} {r : Rule'} {d : Bs} {n0 n1 n2 n3 : List Bs} {ws : List (List Int)} (hd : (s = 0 ∧ d = [48]) ∨ (s = 1 ∧ d = [49])) (hr : r ≠ noR) (hl : rlN r s = [n0,n1,n2,n3]) : seN q r.n (seN q r.n (seN q r.n (seN q r.n ws (80 :: d) n0) (112 :: d) n1) (81 :: d) n2) (114 :: d) n3 = ruS q s r ws := by
  have e0 : rwN r s 0 = wdN n0 r.n := by rw [rwN_get hr,hl]; rfl
  have e1 : rwN r s 1 = wdN n1 r.n := by rw [rwN_get hr,hl]; rfl
  have e2 : rwN r s 2 = wdN n2 r.n := by rw [rwN_get hr,hl]; rfl
  have e3 : rwN r s 3 = wdN n3 r.n := by rw [rwN_get hr,hl]; rfl
  unfold ruS seN
  rw [stI_four,e0,e1,e2,e3]
  rcases hd with ⟨h1,h2⟩ | ⟨h1,h2⟩
  · subst h1 h2
    rw [ltN_i (s := [80,48]) 9 (by decide),ltN_i (s := [112,48]) 11 (by decide),ltN_i (s := [81,48]) 13 (by decide),ltN_i (s := [114,48]) 15 (by decide)]
    rw [show (1 + 30 * (q : Int) + 9).toNat = 30 * q + 10 by omega,show (1 + 30 * (q : Int) + 11).toNat = 30 * q + 12 by omega,show (1 + 30 * (q : Int) + 13).toNat = 30 * q + 14 by omega,show (1 + 30 * (q : Int) + 15).toNat = 30 * q + 16 by omega,show 1 + 30 * q + (9 - 0) = 30 * q + 10 by omega]
  · subst h1 h2
    rw [ltN_i (s := [80,49]) 8 (by decide),ltN_i (s := [112,49]) 10 (by decide),ltN_i (s := [81,49]) 12 (by decide),ltN_i (s := [114,49]) 14 (by decide)]
    rw [show (1 + 30 * (q : Int) + 8).toNat = 30 * q + 9 by omega,show (1 + 30 * (q : Int) + 10).toNat = 30 * q + 11 by omega,show (1 + 30 * (q : Int) + 12).toNat = 30 * q + 13 by omega,show (1 + 30 * (q : Int) + 14).toNat = 30 * q + 15 by omega,show 1 + 30 * q + (9 - 1) = 30 * q + 9 by omega]
theorem wdN_x (ns : List Bs) (q : Int) : wdN (xN :: ns) q = 0 :: wdN ns q := by unfold wdN; rfl
theorem ru_get {q : Nat} {p : Int} {n0 n1 n2 n3 : List Bs} {ws : List (List Int)} {k : Nat} (hk : k = 30 * q + 10) (hw : 30 * q + 31 ≤ ws.length) (h : k < (seN q p (seN q p (seN q p (seN q p ws [80,48] n0) [112,48] n1) [81,48] n2) [114,48] n3).length) : (seN q p (seN q p (seN q p (seN q p ws [80,48] n0) [112,48] n1) [81,48] n2) [114,48] n3)[k] = wdN n0 p := by
  subst hk
  have z0 : (ltN [80,48] (q : Int)).toNat = 30 * q + 10 := by rw [ltN_i (s := [80,48]) 9 (by decide)]; omega
  have z1 : (ltN [112,48] (q : Int)).toNat = 30 * q + 12 := by rw [ltN_i (s := [112,48]) 11 (by decide)]; omega
  have z2 : (ltN [81,48] (q : Int)).toNat = 30 * q + 14 := by rw [ltN_i (s := [81,48]) 13 (by decide)]; omega
  have z3 : (ltN [114,48] (q : Int)).toNat = 30 * q + 16 := by rw [ltN_i (s := [114,48]) 15 (by decide)]; omega
  unfold seN
  simp only [z0,z1,z2,z3]
  rw [List.getElem_set_ne (by omega),List.getElem_set_ne (by omega),List.getElem_set_ne (by omega),List.getElem_set_self]
theorem ru_zero {q : Nat} {r : Rule'} {n0 n1 n2 n3 : List Bs} {ws : List (List Int)} {k : Nat} (hk : k = 30 * q + 10) (hr : r ≠ noR) (hl : rlN r 0 = [xN :: n0,n1,n2,n3]) (hw : 30 * q + 31 ≤ ws.length) (h : k < (seN q r.n (seN q r.n (seN q r.n (seN q r.n ws [80,48] n0) [112,48] n1) [81,48] n2) [114,48] n3).length) : (seN q r.n (seN q r.n (seN q r.n (seN q r.n ws [80,48] n0) [112,48] n1) [81,48] n2) [114,48] n3).set k ([[0],(seN q r.n (seN q r.n (seN q r.n (seN q r.n ws [80,48] n0) [112,48] n1) [81,48] n2) [114,48] n3)[k]].flatten) = ruS q 0 r ws := by
  have hg := ru_get hk hw h
  have e0 : rwN r 0 0 = 0 :: wdN n0 r.n := by rw [rwN_get hr,hl,← wdN_x]; rfl
  have e1 : rwN r 0 1 = wdN n1 r.n := by rw [rwN_get hr,hl]; rfl
  have e2 : rwN r 0 2 = wdN n2 r.n := by rw [rwN_get hr,hl]; rfl
  have e3 : rwN r 0 3 = wdN n3 r.n := by rw [rwN_get hr,hl]; rfl
  have z0 : (ltN [80,48] (q : Int)).toNat = 30 * q + 10 := by rw [ltN_i (s := [80,48]) 9 (by decide)]; omega
  have z1 : (ltN [112,48] (q : Int)).toNat = 30 * q + 12 := by rw [ltN_i (s := [112,48]) 11 (by decide)]; omega
  have z2 : (ltN [81,48] (q : Int)).toNat = 30 * q + 14 := by rw [ltN_i (s := [81,48]) 13 (by decide)]; omega
  have z3 : (ltN [114,48] (q : Int)).toNat = 30 * q + 16 := by rw [ltN_i (s := [114,48]) 15 (by decide)]; omega
  rw [hg,show [[0],wdN n0 r.n].flatten = 0 :: wdN n0 r.n by simp]
  subst hk
  unfold ruS seN
  rw [stI_four,z0,z1,z2,z3]
  rw [List.set_comm _ _ (show 30 * q + 16 ≠ 30 * q + 10 by omega),List.set_comm _ _ (show 30 * q + 14 ≠ 30 * q + 10 by omega),List.set_comm _ _ (show 30 * q + 12 ≠ 30 * q + 10 by omega),List.set_set]
  rw [show ((0 : Nat) : Int) = 0 from rfl,e0,e1,e2,e3,show 1 + 30 * q + (9 - 0) = 30 * q + 10 by omega]
attribute [local simp] repW_len seN_len
theorem preB200 {p : Prop} (h : p := by first | with_reducible assumption | omega | (simp only [List.length_append,List.length_cons,List.length_nil,List.length_set,List.length_replicate,List.length_take,List.length_drop,List.length_tail,List.length_dropLast,List.length_reverse] at *; omega) | exact mem_len (by assumption) (by omega) | (with_reducible refine Int.le_trans (Int.ofNat_le.2 (trimR_len _)) ?_; simp only [List.length_cons,List.length_tail]; omega) | (exact (ruAt_ok (by assumption) (by assumption) (by assumption)).2.1) | (exact (ruAt_ok (by assumption) (by assumption) (by assumption)).2.1) | (have := vMach_bd (by assumption); omega) | (simp only [mC_ch,mC_tu]; omega) | (have := vTag_bd (by assumption); omega) | (have := (‹Gd _ _›).le; omega) | (exact tgHalts_no (by assumption)) | (exact tgHead (by assumption) (by assumption) (by assumption)) | (exact Int.le_trans (tgStep_gd (by assumption) (by assumption) (by assumption) (by assumption)).le (by decide)) | (exact vTag_r (by assumption)) | (with_reducible refine Int.le_trans (Int.ofNat_le.2 (pushL_len _ _)) ?_; simp only [List.length_dropLast]; omega) | exact ls_at (by assumption) (by omega) | exact pt_gd (by assumption) | exact lv_at (by assumption) (by omega) | exact pt_gd (lv_at (by assumption) (by omega)) | exact (ask_ok (by assumption)).1 | exact (ask_ok (by assumption)).2.1 | exact (ask_ok (by assumption)).2.2.1 | exact (ask_ok (by assumption)).2.2.2 | (simp only [List.length_append,List.length_cons,List.length_nil,repW_len,seN_len] at *; omega) | trivial) : p := h
theorem ruleWords_ok (ws : List (List Int)) (q : Int) (s : Nat) (d : Bs) (r : Rule') (hd : (s = 0 ∧ d = [48]) ∨ (s = 1 ∧ d = [49])) (hr : r ≠ noR) (hw : r.w = 0 ∨ r.w = 1) (hm : r.m = 1 ∨ r.m = -1) (hn : 0 ≤ r.n ∧ r.n ≤ 5) (h0 : 0 ≤ q) (h1 : q ≤ 5) (hl : 30 * q + 31 ≤ (ws.length : Int)) : Does Tryz.prog 116 [.one (.gv 0),.one (int q),.one (str d),.agg (ruC r)] [.bx [.gv 1],roW ws] .any [.bx [.gv 1],roW (ruS q.toNat s r ws)] := by
  obtain ⟨w,m,n⟩ := r
  dsimp only at *
  have i0 : 0 ≤ ixT [80,48] nmL := by decide
  have i1 : 0 ≤ ixT [112,48] nmL := by decide
  have i2 : 0 ≤ ixT [81,48] nmL := by decide
  have i3 : 0 ≤ ixT [114,48] nmL := by decide
  have i4 : 0 ≤ ixT [80,49] nmL := by decide
  have i5 : 0 ≤ ixT [112,49] nmL := by decide
  have i6 : 0 ≤ ixT [81,49] nmL := by decide
  have i7 : 0 ≤ ixT [114,49] nmL := by decide
  have hz : ltN [80,48] q = 30 * q + 10 := by rw [ltN_i (s := [80,48]) 9 (by decide)]; omega
  rcases hd with ⟨hd1,hd2⟩ | ⟨hd1,hd2⟩
  · subst hd1 hd2
    rcases hm with hm | hm
    · subst hm
      rcases hw with hw | hw
      · subst hw
        have hq : ((q.toNat : Nat) : Int) = q := by omega
        have hrl : (repW [[97],[120]] (Int.toNat 0)).length = 0 := by rw [repW_len]; rfl
        refine does_of (k := 2) Tryz.func116 rfl Tryz.ntmps116 rfl rfl fun w F0 S0 ρ0 => ?_
        dsimp only [argT,argH]
        have hlc : ws.length = (seN q n (seN q n (seN q n (seN q n ws [80,48] ([65] :: [120] :: repW [[97],[120]] (Int.toNat 0))) [112,48] [[97],[120],[97],[120]]) [81,48] [[66],[120]]) [114,48] [[98],[120]]).length := by simp only [seN_len]
        have hk : (ltN [80,48] q).toNat = 30 * q.toNat + 10 := by rw [hz]; omega
        have hkl : (ltN [80,48] q).toNat < (seN q n (seN q n (seN q n (seN q n ws [80,48] ([65] :: [120] :: repW [[97],[120]] (Int.toNat 0))) [112,48] [[97],[120],[97],[120]]) [81,48] [[66],[120]]) [114,48] [[98],[120]]).length := by omega
        have hg := ru_get (q := q.toNat) (p := n) (n0 := ([65] :: [120] :: repW [[97],[120]] (Int.toNat 0))) (n1 := [[97],[120],[97],[120]]) (n2 := [[66],[120]]) (n3 := [[98],[120]]) (ws := ws) (k := (ltN [80,48] q).toNat) hk (by omega) (by rw [hq]; exact hkl)
        have hf := ru_zero (q := q.toNat) (r := ⟨0,1,n⟩) (n0 := ([65] :: [120] :: repW [[97],[120]] (Int.toNat 0))) (n1 := [[97],[120],[97],[120]]) (n2 := [[66],[120]]) (n3 := [[98],[120]]) (ws := ws) (k := (ltN [80,48] q).toNat) hk hr (by unfold rlN; rfl) (by omega) (by rw [hq]; exact hkl)
        simp only [hq] at hf hg
        have hJ : JnOk [[0],((seN q n (seN q n (seN q n (seN q n ws [80,48] ([65] :: [120] :: repW [[97],[120]] (Int.toNat 0))) [112,48] [[97],[120],[97],[120]]) [81,48] [[66],[120]]) [114,48] [[98],[120]]))[(ltN [80,48] q).toNat * 1]'(by omega)] := by simp only [Nat.mul_one]; rw [hg]; exact jn_two (by rw [wdN_len]; decide)
        rw [← hf]
        repeat' first|(apply n3;(first|exact a_new (gb := .bx _) rfl|exact a_litE eS [_,_] rfl rfl rfl rfl rfl rfl rfl rfl);exact rfl;refine dA ?_)|(apply p3;(first|exact pu1|exact puC|exact a_addS rfl rfl (by first|omega|(simp only [List.length_append,List.length_cons,List.length_nil];omega)));exact rfl)|refine cdn ?_|refine g_reg (id := 0) ?_|refine g_reg (id := 1) ?_|refine g_reg (id := 2) ?_|refine g_reg (id := 3) ?_|(apply s3;exact a_appE (fP rfl) rfl rfl rfl rfl nowR (by (simp <;> omega)) (by decide) (by decide) (by exact rfl);exact rfl;exact rfl)|(apply c4 1;exact callK1 (θ := []) (hD := (repeated_ok _ _ preB200 preB200 preB200));exact rfl;exact rfl;exact rfl;refine dM ?_)|fail
        refine o_turn (t_freeze (i := 6) rfl nowR) ?_
        repeat' first|(apply p3;exact a_litF (dst := some 32) eS [_,_,_,_] rfl rfl rfl rfl rfl rfl rfl rfl nowR;exact rfl)|(apply p3;exact a_litF (dst := some 39) eS [_,_] rfl rfl rfl rfl rfl rfl rfl rfl nowR;exact rfl)|(apply p3;exact a_litF (dst := some 46) eS [_,_] rfl rfl rfl rfl rfl rfl rfl rfl nowR;exact rfl)|(apply p3;(first|exact pu1|exact a_addS rfl rfl (by first|omega|(simp only [List.length_append,List.length_cons,List.length_nil];omega)));exact rfl)|refine cdn ?_|refine g_reg (id := 4) ?_|refine g_reg (id := 5) ?_|refine g_reg (id := 6) ?_|(apply c4 0;exact callK0 (θ := [_,_]) (hD := (tbSet_ok _ _ _ _ _ preB200 preB200 preB200 preB200 preB200 preB200 preB200));exact rfl;exact rfl;exact rfl;refine dM ?_)|fail
        repeat' first|(apply p3;(first|exact pu1|exact a_eqT rfl rfl);exact rfl)|refine cdn ?_|refine g_reg (id := 11) ?_|refine g_reg (id := 12) ?_|(apply c4 0;exact callK1 (θ := []) (hD := (letterOf_ok _ _ preB200 preB200));exact rfl;exact rfl;exact rfl;refine dM ?_)|fail
        repeat' first|(apply g_drN (id := 13) okM [[],[0],[0,1],[0,1,2],[],[],[],[6],[6,7],[6,7,8],[],[6,7,8,9,10],[6,7,8,9,10,11],[5,6,7,8,9,10,11,12],[5,6,7,8,9,10,11,12,13],[0,1,2,3,4,5,6,7,8,9,10,11,12,13,14],[0,1,2,3,4,5,6,7,8,9,10,11,12,13,14,15]] [([],[]),([],[]),([],[]),([],[]),([],[]),([],[]),([],[]),([],[]),([],[]),([],[]),([],[]),([],[]),([],[]),([0],[]),([],[]),([],[]),([],[1])] 1;(focus (refine dp 0 0 [91,92,93,94,95,96,97,98,99,100,101] [(true,0)] pu1 ?_;refine dp 1 1 [91,92,93,94,95,96,97,98,99,100,101] [(true,0)] (a_pure (sv := .one _) rfl) ?_;refine dp 2 3 [91,92,93,94,95,96,97,98,99,100,101] [(true,0)] (a_pure (sv := .one _) rfl) ?_;refine dp 3 7 [91,92,93,94,95,96,97,98,99,100,101] [(true,0)] puL ?_;refine dp 4 0 [87,88,89,90,92,93,94,95,96,97,98,99,100,101] [(true,0)] pu1 ?_;refine dp 5 0 [87,88,89,90,91,93,94,95,96,97,98,99] [] (a_litF (dst := some 92) eI [_] rfl rfl rfl rfl rfl rfl rfl rfl nowR) ?_;refine dp 6 0 [87,88,89,90,91,92,97] [] pu1 ?_;refine dp 7 1 [87,88,89,90,91,92,97] [] (a_pure (sv := .one _) rfl) ?_;refine dp 8 3 [87,88,89,90,91,92,97] [] (a_pure (sv := .one _) rfl) ?_;refine dp 9 7 [87,88,89,90,91,92,97] [] puL ?_;refine dp 10 0 [87,88,89,90,91,92,93,94,95,96] [] pu1 ?_;refine dp 11 31 [87,88,89,90,91,92] [] puI ?_;refine dp 12 63 [87,88,89,90,91,92] [] (by exact a_ldW rfl rfl rfl (fC rfl) bnd) ?_;refine duE 13 255 [87,88,89,90,91] [] (atN 0 (fun _ => a_litE eW [_,_] rfl rfl rfl rfl rfl rfl rfl rfl)) (by exact rfl) (by exact rfl) ?_;refine dp 14 511 [87,88,89,90,91] [] (callFD 1 (hD := (joined_ok [[0],((seN q n (seN q n (seN q n (seN q n ws [80,48] ([65] :: [120] :: repW [[97],[120]] (Int.toNat 0))) [112,48] [[97],[120],[97],[120]]) [81,48] [[66],[120]]) [114,48] [[98],[120]]))[(ltN [80,48] q).toNat * 1]'(by omega)] hJ))) ?_;refine dp 15 32767 [] [] puI ?_;refine duE 16 65535 [] [] (by exact a_stE (E := eW) _ rfl rfl rfl rfl (fN rfl rfl) bnd (by exact rfl)) (by exact rfl) (by exact rfl) ?_;(refine d_nil ?_;refine dN ?_)));any_goals kernel_rfl)|fail
        repeat refine cr ?_
        refine ends_id ?_
        refine endK [] (h2 := ?_) (h3 := ?_) (nd := ?_)
        all_goals (repeat' first|exact ce0|refine ce ?_|refine ce2 ?_ ?_|(refine Or.inr (bx_eq rfl rfl ?_);(try dsimp only [C.ren,C.ren.all]);(try exact rfl))|exact SVLe.refl|refine ceb ?_)
        all_goals first | exact (show nodupB _ = true from rfl) | exact Or.inr rfl | ((simp only [Nat.mul_one]))
      · subst hw
        have hq : ((q.toNat : Nat) : Int) = q := by omega
        have hrl : (repW [[97],[120]] (Int.toNat 1)).length = 2 := by rw [repW_len]; rfl
        refine does_of (k := 2) Tryz.func116 rfl Tryz.ntmps116 rfl rfl fun w F0 S0 ρ0 => ?_
        dsimp only [argT,argH]
        have hlc : ws.length = (seN q n (seN q n (seN q n (seN q n ws [80,48] ([65] :: [120] :: repW [[97],[120]] (Int.toNat 1))) [112,48] [[97],[120],[97],[120]]) [81,48] [[66],[120]]) [114,48] [[98],[120]]).length := by simp only [seN_len]
        have hk : (ltN [80,48] q).toNat = 30 * q.toNat + 10 := by rw [hz]; omega
        have hkl : (ltN [80,48] q).toNat < (seN q n (seN q n (seN q n (seN q n ws [80,48] ([65] :: [120] :: repW [[97],[120]] (Int.toNat 1))) [112,48] [[97],[120],[97],[120]]) [81,48] [[66],[120]]) [114,48] [[98],[120]]).length := by omega
        have hg := ru_get (q := q.toNat) (p := n) (n0 := ([65] :: [120] :: repW [[97],[120]] (Int.toNat 1))) (n1 := [[97],[120],[97],[120]]) (n2 := [[66],[120]]) (n3 := [[98],[120]]) (ws := ws) (k := (ltN [80,48] q).toNat) hk (by omega) (by rw [hq]; exact hkl)
        have hf := ru_zero (q := q.toNat) (r := ⟨1,1,n⟩) (n0 := ([65] :: [120] :: repW [[97],[120]] (Int.toNat 1))) (n1 := [[97],[120],[97],[120]]) (n2 := [[66],[120]]) (n3 := [[98],[120]]) (ws := ws) (k := (ltN [80,48] q).toNat) hk hr (by unfold rlN; rfl) (by omega) (by rw [hq]; exact hkl)
        simp only [hq] at hf hg
        have hJ : JnOk [[0],((seN q n (seN q n (seN q n (seN q n ws [80,48] ([65] :: [120] :: repW [[97],[120]] (Int.toNat 1))) [112,48] [[97],[120],[97],[120]]) [81,48] [[66],[120]]) [114,48] [[98],[120]]))[(ltN [80,48] q).toNat * 1]'(by omega)] := by simp only [Nat.mul_one]; rw [hg]; exact jn_two (by rw [wdN_len]; decide)
        rw [← hf]
        repeat' first|(apply n3;(first|exact a_new (gb := .bx _) rfl|exact a_litE eS [_,_] rfl rfl rfl rfl rfl rfl rfl rfl);exact rfl;refine dA ?_)|(apply p3;(first|exact pu1|exact puC|exact a_addS rfl rfl (by first|omega|(simp only [List.length_append,List.length_cons,List.length_nil];omega)));exact rfl)|refine cdn ?_|refine g_reg (id := 0) ?_|refine g_reg (id := 1) ?_|refine g_reg (id := 2) ?_|refine g_reg (id := 3) ?_|(apply s3;exact a_appE (fP rfl) rfl rfl rfl rfl nowR (by (simp <;> omega)) (by decide) (by decide) (by exact rfl);exact rfl;exact rfl)|(apply c4 1;exact callK1 (θ := []) (hD := (repeated_ok _ _ preB200 preB200 preB200));exact rfl;exact rfl;exact rfl;refine dM ?_)|fail
        refine o_turn (t_freeze (i := 6) rfl nowR) ?_
        repeat' first|(apply p3;exact a_litF (dst := some 32) eS [_,_,_,_] rfl rfl rfl rfl rfl rfl rfl rfl nowR;exact rfl)|(apply p3;exact a_litF (dst := some 39) eS [_,_] rfl rfl rfl rfl rfl rfl rfl rfl nowR;exact rfl)|(apply p3;exact a_litF (dst := some 46) eS [_,_] rfl rfl rfl rfl rfl rfl rfl rfl nowR;exact rfl)|(apply p3;(first|exact pu1|exact a_addS rfl rfl (by first|omega|(simp only [List.length_append,List.length_cons,List.length_nil];omega)));exact rfl)|refine cdn ?_|refine g_reg (id := 4) ?_|refine g_reg (id := 5) ?_|refine g_reg (id := 6) ?_|(apply c4 0;exact callK0 (θ := [_,_]) (hD := (tbSet_ok _ _ _ _ _ preB200 preB200 preB200 preB200 preB200 preB200 preB200));exact rfl;exact rfl;exact rfl;refine dM ?_)|fail
        repeat' first|(apply p3;(first|exact pu1|exact a_eqT rfl rfl);exact rfl)|refine cdn ?_|refine g_reg (id := 11) ?_|refine g_reg (id := 12) ?_|(apply c4 0;exact callK1 (θ := []) (hD := (letterOf_ok _ _ preB200 preB200));exact rfl;exact rfl;exact rfl;refine dM ?_)|fail
        repeat' first|(apply g_drN (id := 13) okM [[],[0],[0,1],[0,1,2],[],[],[],[6],[6,7],[6,7,8],[],[6,7,8,9,10],[6,7,8,9,10,11],[5,6,7,8,9,10,11,12],[5,6,7,8,9,10,11,12,13],[0,1,2,3,4,5,6,7,8,9,10,11,12,13,14],[0,1,2,3,4,5,6,7,8,9,10,11,12,13,14,15]] [([],[]),([],[]),([],[]),([],[]),([],[]),([],[]),([],[]),([],[]),([],[]),([],[]),([],[]),([],[]),([],[]),([0],[]),([],[]),([],[]),([],[1])] 1;(focus (refine dp 0 0 [91,92,93,94,95,96,97,98,99,100,101] [(true,0)] pu1 ?_;refine dp 1 1 [91,92,93,94,95,96,97,98,99,100,101] [(true,0)] (a_pure (sv := .one _) rfl) ?_;refine dp 2 3 [91,92,93,94,95,96,97,98,99,100,101] [(true,0)] (a_pure (sv := .one _) rfl) ?_;refine dp 3 7 [91,92,93,94,95,96,97,98,99,100,101] [(true,0)] puL ?_;refine dp 4 0 [87,88,89,90,92,93,94,95,96,97,98,99,100,101] [(true,0)] pu1 ?_;refine dp 5 0 [87,88,89,90,91,93,94,95,96,97,98,99] [] (a_litF (dst := some 92) eI [_] rfl rfl rfl rfl rfl rfl rfl rfl nowR) ?_;refine dp 6 0 [87,88,89,90,91,92,97] [] pu1 ?_;refine dp 7 1 [87,88,89,90,91,92,97] [] (a_pure (sv := .one _) rfl) ?_;refine dp 8 3 [87,88,89,90,91,92,97] [] (a_pure (sv := .one _) rfl) ?_;refine dp 9 7 [87,88,89,90,91,92,97] [] puL ?_;refine dp 10 0 [87,88,89,90,91,92,93,94,95,96] [] pu1 ?_;refine dp 11 31 [87,88,89,90,91,92] [] puI ?_;refine dp 12 63 [87,88,89,90,91,92] [] (by exact a_ldW rfl rfl rfl (fC rfl) bnd) ?_;refine duE 13 255 [87,88,89,90,91] [] (atN 0 (fun _ => a_litE eW [_,_] rfl rfl rfl rfl rfl rfl rfl rfl)) (by exact rfl) (by exact rfl) ?_;refine dp 14 511 [87,88,89,90,91] [] (callFD 1 (hD := (joined_ok [[0],((seN q n (seN q n (seN q n (seN q n ws [80,48] ([65] :: [120] :: repW [[97],[120]] (Int.toNat 1))) [112,48] [[97],[120],[97],[120]]) [81,48] [[66],[120]]) [114,48] [[98],[120]]))[(ltN [80,48] q).toNat * 1]'(by omega)] hJ))) ?_;refine dp 15 32767 [] [] puI ?_;refine duE 16 65535 [] [] (by exact a_stE (E := eW) _ rfl rfl rfl rfl (fN rfl rfl) bnd (by exact rfl)) (by exact rfl) (by exact rfl) ?_;(refine d_nil ?_;refine dN ?_)));any_goals kernel_rfl)|fail
        repeat refine cr ?_
        refine ends_id ?_
        refine endK [] (h2 := ?_) (h3 := ?_) (nd := ?_)
        all_goals (repeat' first|exact ce0|refine ce ?_|refine ce2 ?_ ?_|(refine Or.inr (bx_eq rfl rfl ?_);(try dsimp only [C.ren,C.ren.all]);(try exact rfl))|exact SVLe.refl|refine ceb ?_)
        all_goals first | exact (show nodupB _ = true from rfl) | exact Or.inr rfl | ((simp only [Nat.mul_one]))
    · subst hm
      rcases hw with hw | hw
      · subst hw
        have hq : ((q.toNat : Nat) : Int) = q := by omega
        have hrl : (repW [[102,49],[102,48]] (Int.toNat (2 * 0))).length = 0 := by rw [repW_len]; rfl
        refine does_of (k := 2) Tryz.func116 rfl Tryz.ntmps116 rfl rfl fun w F0 S0 ρ0 => ?_
        dsimp only [argT,argH]
        have hlc : ws.length = (seN q n (seN q n (seN q n (seN q n ws [80,48] [[69]]) [112,48] [[101]]) [81,48] ([70,49] :: [70,48] :: repW [[102,49],[102,48]] (Int.toNat (2 * 0)))) [114,48] (repW [[102,49],[102,48]] (Int.toNat 4))).length := by simp only [seN_len]
        have hk : (ltN [80,48] q).toNat = 30 * q.toNat + 10 := by rw [hz]; omega
        have hkl : (ltN [80,48] q).toNat < (seN q n (seN q n (seN q n (seN q n ws [80,48] [[69]]) [112,48] [[101]]) [81,48] ([70,49] :: [70,48] :: repW [[102,49],[102,48]] (Int.toNat (2 * 0)))) [114,48] (repW [[102,49],[102,48]] (Int.toNat 4))).length := by omega
        have hg := ru_get (q := q.toNat) (p := n) (n0 := [[69]]) (n1 := [[101]]) (n2 := ([70,49] :: [70,48] :: repW [[102,49],[102,48]] (Int.toNat (2 * 0)))) (n3 := (repW [[102,49],[102,48]] (Int.toNat 4))) (ws := ws) (k := (ltN [80,48] q).toNat) hk (by omega) (by rw [hq]; exact hkl)
        have hf := ru_zero (q := q.toNat) (r := ⟨0,-1,n⟩) (n0 := [[69]]) (n1 := [[101]]) (n2 := ([70,49] :: [70,48] :: repW [[102,49],[102,48]] (Int.toNat (2 * 0)))) (n3 := (repW [[102,49],[102,48]] (Int.toNat 4))) (ws := ws) (k := (ltN [80,48] q).toNat) hk hr (by unfold rlN; rfl) (by omega) (by rw [hq]; exact hkl)
        simp only [hq] at hf hg
        have hJ : JnOk [[0],((seN q n (seN q n (seN q n (seN q n ws [80,48] [[69]]) [112,48] [[101]]) [81,48] ([70,49] :: [70,48] :: repW [[102,49],[102,48]] (Int.toNat (2 * 0)))) [114,48] (repW [[102,49],[102,48]] (Int.toNat 4))))[(ltN [80,48] q).toNat * 1]'(by omega)] := by simp only [Nat.mul_one]; rw [hg]; exact jn_two (by rw [wdN_len]; decide)
        rw [← hf]
        repeat' first|(apply p3;exact a_litF (dst := some 53) eS [_] rfl rfl rfl rfl rfl rfl rfl rfl nowR;exact rfl)|(apply p3;exact a_litF (dst := some 60) eS [_] rfl rfl rfl rfl rfl rfl rfl rfl nowR;exact rfl)|(apply n3;(first|exact a_new (gb := .bx _) rfl|exact a_litE eS [_,_] rfl rfl rfl rfl rfl rfl rfl rfl);exact rfl;refine dA ?_)|(apply p3;(first|exact pu1|exact puC|exact a_addS rfl rfl (by first|omega|(simp only [List.length_append,List.length_cons,List.length_nil];omega)));exact rfl)|refine cdn ?_|refine g_reg (id := 0) ?_|refine g_reg (id := 1) ?_|refine g_reg (id := 2) ?_|refine g_reg (id := 7) ?_|refine g_reg (id := 8) ?_|refine g_reg (id := 9) ?_|(apply c4 0;exact callK0 (θ := [_,_]) (hD := (tbSet_ok _ _ _ _ _ preB200 preB200 preB200 preB200 preB200 preB200 preB200));exact rfl;exact rfl;exact rfl;refine dM ?_)|fail
        dsimp only
        repeat' first|(apply n3;(exact a_litE eS [_,_] rfl rfl rfl rfl rfl rfl rfl rfl);exact rfl;refine dA ?_)|(apply p3;(exact a_mulB rfl rfl (by omega) (by omega) (by omega) (by omega));exact rfl)|(apply s3;exact a_appE (fP rfl) rfl rfl rfl rfl nowR (by (simp <;> omega)) (by decide) (by decide) (by exact rfl);exact rfl;exact rfl)|(apply c4 1;exact callK1 (θ := []) (hD := (repeated_ok _ _ preB200 preB200 preB200));exact rfl;exact rfl;exact rfl;refine dM ?_)|fail
        refine o_turn (t_freeze (i := 6) rfl nowR) ?_
        repeat' first|(apply n3;(exact a_litE eS [_,_] rfl rfl rfl rfl rfl rfl rfl rfl);exact rfl;refine dA ?_)|(apply p3;(first|exact pu1|exact a_addS rfl rfl (by first|omega|(simp only [List.length_append,List.length_cons,List.length_nil];omega)));exact rfl)|refine cdn ?_|refine g_reg (id := 10) ?_|(apply c4 1;exact callK1 (θ := []) (hD := (repeated_ok _ _ preB200 preB200 preB200));exact rfl;exact rfl;exact rfl;refine dM ?_)|(apply c4 0;exact callK0 (θ := [_,_]) (hD := (tbSet_ok _ _ _ _ _ preB200 preB200 preB200 preB200 preB200 preB200 preB200));exact rfl;exact rfl;exact rfl;refine dM ?_)|fail
        refine o_turn (t_freeze (i := 8) rfl nowR) ?_
        repeat' first|refine cdn ?_|(apply c4 0;exact callK0 (θ := [_,_]) (hD := (tbSet_ok _ _ _ _ _ preB200 preB200 preB200 preB200 preB200 preB200 preB200));exact rfl;exact rfl;exact rfl;refine dM ?_)|fail
        repeat' first|(apply p3;(first|exact pu1|exact a_eqT rfl rfl);exact rfl)|refine cdn ?_|refine g_reg (id := 11) ?_|refine g_reg (id := 12) ?_|(apply c4 0;exact callK1 (θ := []) (hD := (letterOf_ok _ _ preB200 preB200));exact rfl;exact rfl;exact rfl;refine dM ?_)|fail
        repeat' first|(apply g_drN (id := 13) okM [[],[0],[0,1],[0,1,2],[],[],[],[6],[6,7],[6,7,8],[],[6,7,8,9,10],[6,7,8,9,10,11],[5,6,7,8,9,10,11,12],[5,6,7,8,9,10,11,12,13],[0,1,2,3,4,5,6,7,8,9,10,11,12,13,14],[0,1,2,3,4,5,6,7,8,9,10,11,12,13,14,15]] [([],[]),([],[]),([],[]),([],[]),([],[]),([],[]),([],[]),([],[]),([],[]),([],[]),([],[]),([],[]),([],[]),([0],[]),([],[]),([],[]),([],[1])] 1;(focus (refine dp 0 0 [91,92,93,94,95,96,97,98,99,100,101] [(true,0)] pu1 ?_;refine dp 1 1 [91,92,93,94,95,96,97,98,99,100,101] [(true,0)] (a_pure (sv := .one _) rfl) ?_;refine dp 2 3 [91,92,93,94,95,96,97,98,99,100,101] [(true,0)] (a_pure (sv := .one _) rfl) ?_;refine dp 3 7 [91,92,93,94,95,96,97,98,99,100,101] [(true,0)] puL ?_;refine dp 4 0 [87,88,89,90,92,93,94,95,96,97,98,99,100,101] [(true,0)] pu1 ?_;refine dp 5 0 [87,88,89,90,91,93,94,95,96,97,98,99] [] (a_litF (dst := some 92) eI [_] rfl rfl rfl rfl rfl rfl rfl rfl nowR) ?_;refine dp 6 0 [87,88,89,90,91,92,97] [] pu1 ?_;refine dp 7 1 [87,88,89,90,91,92,97] [] (a_pure (sv := .one _) rfl) ?_;refine dp 8 3 [87,88,89,90,91,92,97] [] (a_pure (sv := .one _) rfl) ?_;refine dp 9 7 [87,88,89,90,91,92,97] [] puL ?_;refine dp 10 0 [87,88,89,90,91,92,93,94,95,96] [] pu1 ?_;refine dp 11 31 [87,88,89,90,91,92] [] puI ?_;refine dp 12 63 [87,88,89,90,91,92] [] (by exact a_ldW rfl rfl rfl (fC rfl) bnd) ?_;refine duE 13 255 [87,88,89,90,91] [] (atN 0 (fun _ => a_litE eW [_,_] rfl rfl rfl rfl rfl rfl rfl rfl)) (by exact rfl) (by exact rfl) ?_;refine dp 14 511 [87,88,89,90,91] [] (callFD 1 (hD := (joined_ok [[0],((seN q n (seN q n (seN q n (seN q n ws [80,48] [[69]]) [112,48] [[101]]) [81,48] ([70,49] :: [70,48] :: repW [[102,49],[102,48]] (Int.toNat (2 * 0)))) [114,48] (repW [[102,49],[102,48]] (Int.toNat 4))))[(ltN [80,48] q).toNat * 1]'(by omega)] hJ))) ?_;refine dp 15 32767 [] [] puI ?_;refine duE 16 65535 [] [] (by exact a_stE (E := eW) _ rfl rfl rfl rfl (fN rfl rfl) bnd (by exact rfl)) (by exact rfl) (by exact rfl) ?_;(refine d_nil ?_;refine dN ?_)));any_goals kernel_rfl)|fail
        repeat refine cr ?_
        refine ends_id ?_
        refine endK [] (h2 := ?_) (h3 := ?_) (nd := ?_)
        all_goals (repeat' first|exact ce0|refine ce ?_|refine ce2 ?_ ?_|(refine Or.inr (bx_eq rfl rfl ?_);(try dsimp only [C.ren,C.ren.all]);(try exact rfl))|exact SVLe.refl|refine ceb ?_)
        all_goals first | exact (show nodupB _ = true from rfl) | exact Or.inr rfl | ((simp only [Nat.mul_one]))
      · subst hw
        have hq : ((q.toNat : Nat) : Int) = q := by omega
        have hrl : (repW [[102,49],[102,48]] (Int.toNat (2 * 1))).length = 4 := by rw [repW_len]; rfl
        refine does_of (k := 2) Tryz.func116 rfl Tryz.ntmps116 rfl rfl fun w F0 S0 ρ0 => ?_
        dsimp only [argT,argH]
        have hlc : ws.length = (seN q n (seN q n (seN q n (seN q n ws [80,48] [[69]]) [112,48] [[101]]) [81,48] ([70,49] :: [70,48] :: repW [[102,49],[102,48]] (Int.toNat (2 * 1)))) [114,48] (repW [[102,49],[102,48]] (Int.toNat 4))).length := by simp only [seN_len]
        have hk : (ltN [80,48] q).toNat = 30 * q.toNat + 10 := by rw [hz]; omega
        have hkl : (ltN [80,48] q).toNat < (seN q n (seN q n (seN q n (seN q n ws [80,48] [[69]]) [112,48] [[101]]) [81,48] ([70,49] :: [70,48] :: repW [[102,49],[102,48]] (Int.toNat (2 * 1)))) [114,48] (repW [[102,49],[102,48]] (Int.toNat 4))).length := by omega
        have hg := ru_get (q := q.toNat) (p := n) (n0 := [[69]]) (n1 := [[101]]) (n2 := ([70,49] :: [70,48] :: repW [[102,49],[102,48]] (Int.toNat (2 * 1)))) (n3 := (repW [[102,49],[102,48]] (Int.toNat 4))) (ws := ws) (k := (ltN [80,48] q).toNat) hk (by omega) (by rw [hq]; exact hkl)
        have hf := ru_zero (q := q.toNat) (r := ⟨1,-1,n⟩) (n0 := [[69]]) (n1 := [[101]]) (n2 := ([70,49] :: [70,48] :: repW [[102,49],[102,48]] (Int.toNat (2 * 1)))) (n3 := (repW [[102,49],[102,48]] (Int.toNat 4))) (ws := ws) (k := (ltN [80,48] q).toNat) hk hr (by unfold rlN; rfl) (by omega) (by rw [hq]; exact hkl)
        simp only [hq] at hf hg
        have hJ : JnOk [[0],((seN q n (seN q n (seN q n (seN q n ws [80,48] [[69]]) [112,48] [[101]]) [81,48] ([70,49] :: [70,48] :: repW [[102,49],[102,48]] (Int.toNat (2 * 1)))) [114,48] (repW [[102,49],[102,48]] (Int.toNat 4))))[(ltN [80,48] q).toNat * 1]'(by omega)] := by simp only [Nat.mul_one]; rw [hg]; exact jn_two (by rw [wdN_len]; decide)
        rw [← hf]
        repeat' first|(apply p3;exact a_litF (dst := some 53) eS [_] rfl rfl rfl rfl rfl rfl rfl rfl nowR;exact rfl)|(apply p3;exact a_litF (dst := some 60) eS [_] rfl rfl rfl rfl rfl rfl rfl rfl nowR;exact rfl)|(apply n3;(first|exact a_new (gb := .bx _) rfl|exact a_litE eS [_,_] rfl rfl rfl rfl rfl rfl rfl rfl);exact rfl;refine dA ?_)|(apply p3;(first|exact pu1|exact puC|exact a_addS rfl rfl (by first|omega|(simp only [List.length_append,List.length_cons,List.length_nil];omega)));exact rfl)|refine cdn ?_|refine g_reg (id := 0) ?_|refine g_reg (id := 1) ?_|refine g_reg (id := 2) ?_|refine g_reg (id := 7) ?_|refine g_reg (id := 8) ?_|refine g_reg (id := 9) ?_|(apply c4 0;exact callK0 (θ := [_,_]) (hD := (tbSet_ok _ _ _ _ _ preB200 preB200 preB200 preB200 preB200 preB200 preB200));exact rfl;exact rfl;exact rfl;refine dM ?_)|fail
        dsimp only
        repeat' first|(apply n3;(exact a_litE eS [_,_] rfl rfl rfl rfl rfl rfl rfl rfl);exact rfl;refine dA ?_)|(apply p3;(exact a_mulB rfl rfl (by omega) (by omega) (by omega) (by omega));exact rfl)|(apply s3;exact a_appE (fP rfl) rfl rfl rfl rfl nowR (by (simp <;> omega)) (by decide) (by decide) (by exact rfl);exact rfl;exact rfl)|(apply c4 1;exact callK1 (θ := []) (hD := (repeated_ok _ _ preB200 preB200 preB200));exact rfl;exact rfl;exact rfl;refine dM ?_)|fail
        refine o_turn (t_freeze (i := 6) rfl nowR) ?_
        repeat' first|(apply n3;(exact a_litE eS [_,_] rfl rfl rfl rfl rfl rfl rfl rfl);exact rfl;refine dA ?_)|(apply p3;(first|exact pu1|exact a_addS rfl rfl (by first|omega|(simp only [List.length_append,List.length_cons,List.length_nil];omega)));exact rfl)|refine cdn ?_|refine g_reg (id := 10) ?_|(apply c4 1;exact callK1 (θ := []) (hD := (repeated_ok _ _ preB200 preB200 preB200));exact rfl;exact rfl;exact rfl;refine dM ?_)|(apply c4 0;exact callK0 (θ := [_,_]) (hD := (tbSet_ok _ _ _ _ _ preB200 preB200 preB200 preB200 preB200 preB200 preB200));exact rfl;exact rfl;exact rfl;refine dM ?_)|fail
        refine o_turn (t_freeze (i := 8) rfl nowR) ?_
        repeat' first|refine cdn ?_|(apply c4 0;exact callK0 (θ := [_,_]) (hD := (tbSet_ok _ _ _ _ _ preB200 preB200 preB200 preB200 preB200 preB200 preB200));exact rfl;exact rfl;exact rfl;refine dM ?_)|fail
        repeat' first|(apply p3;(first|exact pu1|exact a_eqT rfl rfl);exact rfl)|refine cdn ?_|refine g_reg (id := 11) ?_|refine g_reg (id := 12) ?_|(apply c4 0;exact callK1 (θ := []) (hD := (letterOf_ok _ _ preB200 preB200));exact rfl;exact rfl;exact rfl;refine dM ?_)|fail
        repeat' first|(apply g_drN (id := 13) okM [[],[0],[0,1],[0,1,2],[],[],[],[6],[6,7],[6,7,8],[],[6,7,8,9,10],[6,7,8,9,10,11],[5,6,7,8,9,10,11,12],[5,6,7,8,9,10,11,12,13],[0,1,2,3,4,5,6,7,8,9,10,11,12,13,14],[0,1,2,3,4,5,6,7,8,9,10,11,12,13,14,15]] [([],[]),([],[]),([],[]),([],[]),([],[]),([],[]),([],[]),([],[]),([],[]),([],[]),([],[]),([],[]),([],[]),([0],[]),([],[]),([],[]),([],[1])] 1;(focus (refine dp 0 0 [91,92,93,94,95,96,97,98,99,100,101] [(true,0)] pu1 ?_;refine dp 1 1 [91,92,93,94,95,96,97,98,99,100,101] [(true,0)] (a_pure (sv := .one _) rfl) ?_;refine dp 2 3 [91,92,93,94,95,96,97,98,99,100,101] [(true,0)] (a_pure (sv := .one _) rfl) ?_;refine dp 3 7 [91,92,93,94,95,96,97,98,99,100,101] [(true,0)] puL ?_;refine dp 4 0 [87,88,89,90,92,93,94,95,96,97,98,99,100,101] [(true,0)] pu1 ?_;refine dp 5 0 [87,88,89,90,91,93,94,95,96,97,98,99] [] (a_litF (dst := some 92) eI [_] rfl rfl rfl rfl rfl rfl rfl rfl nowR) ?_;refine dp 6 0 [87,88,89,90,91,92,97] [] pu1 ?_;refine dp 7 1 [87,88,89,90,91,92,97] [] (a_pure (sv := .one _) rfl) ?_;refine dp 8 3 [87,88,89,90,91,92,97] [] (a_pure (sv := .one _) rfl) ?_;refine dp 9 7 [87,88,89,90,91,92,97] [] puL ?_;refine dp 10 0 [87,88,89,90,91,92,93,94,95,96] [] pu1 ?_;refine dp 11 31 [87,88,89,90,91,92] [] puI ?_;refine dp 12 63 [87,88,89,90,91,92] [] (by exact a_ldW rfl rfl rfl (fC rfl) bnd) ?_;refine duE 13 255 [87,88,89,90,91] [] (atN 0 (fun _ => a_litE eW [_,_] rfl rfl rfl rfl rfl rfl rfl rfl)) (by exact rfl) (by exact rfl) ?_;refine dp 14 511 [87,88,89,90,91] [] (callFD 1 (hD := (joined_ok [[0],((seN q n (seN q n (seN q n (seN q n ws [80,48] [[69]]) [112,48] [[101]]) [81,48] ([70,49] :: [70,48] :: repW [[102,49],[102,48]] (Int.toNat (2 * 1)))) [114,48] (repW [[102,49],[102,48]] (Int.toNat 4))))[(ltN [80,48] q).toNat * 1]'(by omega)] hJ))) ?_;refine dp 15 32767 [] [] puI ?_;refine duE 16 65535 [] [] (by exact a_stE (E := eW) _ rfl rfl rfl rfl (fN rfl rfl) bnd (by exact rfl)) (by exact rfl) (by exact rfl) ?_;(refine d_nil ?_;refine dN ?_)));any_goals kernel_rfl)|fail
        repeat refine cr ?_
        refine ends_id ?_
        refine endK [] (h2 := ?_) (h3 := ?_) (nd := ?_)
        all_goals (repeat' first|exact ce0|refine ce ?_|refine ce2 ?_ ?_|(refine Or.inr (bx_eq rfl rfl ?_);(try dsimp only [C.ren,C.ren.all]);(try exact rfl))|exact SVLe.refl|refine ceb ?_)
        all_goals first | exact (show nodupB _ = true from rfl) | exact Or.inr rfl | ((simp only [Nat.mul_one]))
  · subst hd1 hd2
    rcases hm with hm | hm
    · subst hm
      rcases hw with hw | hw
      · subst hw
        have hq : ((q.toNat : Nat) : Int) = q := by omega
        have hrl : (repW [[97],[120]] (Int.toNat 0)).length = 0 := by rw [repW_len]; rfl
        refine does_of (k := 2) Tryz.func116 rfl Tryz.ntmps116 rfl rfl fun w F0 S0 ρ0 => ?_
        dsimp only [argT,argH]
        have hf := ru_four (q := q.toNat) (s := 1) (r := ⟨0,1,n⟩) (d := [49]) (n0 := ([65] :: [120] :: repW [[97],[120]] (Int.toNat 0))) (n1 := [[97],[120],[97],[120]]) (n2 := [[66],[120]]) (n3 := [[98],[120]]) (ws := ws) (.inr ⟨rfl,rfl⟩) hr (by unfold rlN; rfl)
        rw [hq] at hf
        rw [← hf]
        repeat' first|(apply n3;(first|exact a_new (gb := .bx _) rfl|exact a_litE eS [_,_] rfl rfl rfl rfl rfl rfl rfl rfl);exact rfl;refine dA ?_)|(apply p3;(first|exact pu1|exact puC|exact a_addS rfl rfl (by first|omega|(simp only [List.length_append,List.length_cons,List.length_nil];omega)));exact rfl)|refine cdn ?_|refine g_reg (id := 0) ?_|refine g_reg (id := 1) ?_|refine g_reg (id := 2) ?_|refine g_reg (id := 3) ?_|(apply s3;exact a_appE (fP rfl) rfl rfl rfl rfl nowR (by (simp <;> omega)) (by decide) (by decide) (by exact rfl);exact rfl;exact rfl)|(apply c4 1;exact callK1 (θ := []) (hD := (repeated_ok _ _ preB200 preB200 preB200));exact rfl;exact rfl;exact rfl;refine dM ?_)|fail
        refine o_turn (t_freeze (i := 6) rfl nowR) ?_
        repeat' first|(apply p3;exact a_litF (dst := some 32) eS [_,_,_,_] rfl rfl rfl rfl rfl rfl rfl rfl nowR;exact rfl)|(apply p3;exact a_litF (dst := some 39) eS [_,_] rfl rfl rfl rfl rfl rfl rfl rfl nowR;exact rfl)|(apply p3;exact a_litF (dst := some 46) eS [_,_] rfl rfl rfl rfl rfl rfl rfl rfl nowR;exact rfl)|(apply p3;(first|exact pu1|exact a_addS rfl rfl (by first|omega|(simp only [List.length_append,List.length_cons,List.length_nil];omega)));exact rfl)|refine cdn ?_|refine g_reg (id := 4) ?_|refine g_reg (id := 5) ?_|refine g_reg (id := 6) ?_|(apply c4 0;exact callK0 (θ := [_,_]) (hD := (tbSet_ok _ _ _ _ _ preB200 preB200 preB200 preB200 preB200 preB200 preB200));exact rfl;exact rfl;exact rfl;refine dM ?_)|fail
        repeat' first|(apply p3;(first|exact pu1|exact a_eqT rfl rfl);exact rfl)|refine cd ?_|(apply c4 0;exact callK1 (θ := []) (hD := (letterOf_ok _ _ preB200 preB200));exact rfl;exact rfl;exact rfl;refine dM ?_)|fail
        repeat refine cr ?_
        refine ends_id ?_
        refine endK [] (h2 := ?_) (h3 := ?_) (nd := ?_)
        all_goals (repeat' first|exact ce0|refine ce ?_|refine ce2 ?_ ?_|(refine Or.inr (bx_eq rfl rfl ?_);(try dsimp only [C.ren,C.ren.all]);(try exact rfl))|exact SVLe.refl|refine ceb ?_)
        all_goals first | exact (show nodupB _ = true from rfl) | exact Or.inr rfl | (rfl)
      · subst hw
        have hq : ((q.toNat : Nat) : Int) = q := by omega
        have hrl : (repW [[97],[120]] (Int.toNat 1)).length = 2 := by rw [repW_len]; rfl
        refine does_of (k := 2) Tryz.func116 rfl Tryz.ntmps116 rfl rfl fun w F0 S0 ρ0 => ?_
        dsimp only [argT,argH]
        have hf := ru_four (q := q.toNat) (s := 1) (r := ⟨1,1,n⟩) (d := [49]) (n0 := ([65] :: [120] :: repW [[97],[120]] (Int.toNat 1))) (n1 := [[97],[120],[97],[120]]) (n2 := [[66],[120]]) (n3 := [[98],[120]]) (ws := ws) (.inr ⟨rfl,rfl⟩) hr (by unfold rlN; rfl)
        rw [hq] at hf
        rw [← hf]
        repeat' first|(apply n3;(first|exact a_new (gb := .bx _) rfl|exact a_litE eS [_,_] rfl rfl rfl rfl rfl rfl rfl rfl);exact rfl;refine dA ?_)|(apply p3;(first|exact pu1|exact puC|exact a_addS rfl rfl (by first|omega|(simp only [List.length_append,List.length_cons,List.length_nil];omega)));exact rfl)|refine cdn ?_|refine g_reg (id := 0) ?_|refine g_reg (id := 1) ?_|refine g_reg (id := 2) ?_|refine g_reg (id := 3) ?_|(apply s3;exact a_appE (fP rfl) rfl rfl rfl rfl nowR (by (simp <;> omega)) (by decide) (by decide) (by exact rfl);exact rfl;exact rfl)|(apply c4 1;exact callK1 (θ := []) (hD := (repeated_ok _ _ preB200 preB200 preB200));exact rfl;exact rfl;exact rfl;refine dM ?_)|fail
        refine o_turn (t_freeze (i := 6) rfl nowR) ?_
        repeat' first|(apply p3;exact a_litF (dst := some 32) eS [_,_,_,_] rfl rfl rfl rfl rfl rfl rfl rfl nowR;exact rfl)|(apply p3;exact a_litF (dst := some 39) eS [_,_] rfl rfl rfl rfl rfl rfl rfl rfl nowR;exact rfl)|(apply p3;exact a_litF (dst := some 46) eS [_,_] rfl rfl rfl rfl rfl rfl rfl rfl nowR;exact rfl)|(apply p3;(first|exact pu1|exact a_addS rfl rfl (by first|omega|(simp only [List.length_append,List.length_cons,List.length_nil];omega)));exact rfl)|refine cdn ?_|refine g_reg (id := 4) ?_|refine g_reg (id := 5) ?_|refine g_reg (id := 6) ?_|(apply c4 0;exact callK0 (θ := [_,_]) (hD := (tbSet_ok _ _ _ _ _ preB200 preB200 preB200 preB200 preB200 preB200 preB200));exact rfl;exact rfl;exact rfl;refine dM ?_)|fail
        repeat' first|(apply p3;(first|exact pu1|exact a_eqT rfl rfl);exact rfl)|refine cd ?_|(apply c4 0;exact callK1 (θ := []) (hD := (letterOf_ok _ _ preB200 preB200));exact rfl;exact rfl;exact rfl;refine dM ?_)|fail
        repeat refine cr ?_
        refine ends_id ?_
        refine endK [] (h2 := ?_) (h3 := ?_) (nd := ?_)
        all_goals (repeat' first|exact ce0|refine ce ?_|refine ce2 ?_ ?_|(refine Or.inr (bx_eq rfl rfl ?_);(try dsimp only [C.ren,C.ren.all]);(try exact rfl))|exact SVLe.refl|refine ceb ?_)
        all_goals first | exact (show nodupB _ = true from rfl) | exact Or.inr rfl | (rfl)
    · subst hm
      rcases hw with hw | hw
      · subst hw
        have hq : ((q.toNat : Nat) : Int) = q := by omega
        have hrl : (repW [[102,49],[102,48]] (Int.toNat (2 * 0))).length = 0 := by rw [repW_len]; rfl
        refine does_of (k := 2) Tryz.func116 rfl Tryz.ntmps116 rfl rfl fun w F0 S0 ρ0 => ?_
        dsimp only [argT,argH]
        have hf := ru_four (q := q.toNat) (s := 1) (r := ⟨0,-1,n⟩) (d := [49]) (n0 := [[69]]) (n1 := [[101]]) (n2 := ([70,49] :: [70,48] :: repW [[102,49],[102,48]] (Int.toNat (2 * 0)))) (n3 := (repW [[102,49],[102,48]] (Int.toNat 4))) (ws := ws) (.inr ⟨rfl,rfl⟩) hr (by unfold rlN; rfl)
        rw [hq] at hf
        rw [← hf]
        repeat' first|(apply p3;exact a_litF (dst := some 53) eS [_] rfl rfl rfl rfl rfl rfl rfl rfl nowR;exact rfl)|(apply p3;exact a_litF (dst := some 60) eS [_] rfl rfl rfl rfl rfl rfl rfl rfl nowR;exact rfl)|(apply n3;(first|exact a_new (gb := .bx _) rfl|exact a_litE eS [_,_] rfl rfl rfl rfl rfl rfl rfl rfl);exact rfl;refine dA ?_)|(apply p3;(first|exact pu1|exact puC|exact a_addS rfl rfl (by first|omega|(simp only [List.length_append,List.length_cons,List.length_nil];omega)));exact rfl)|refine cdn ?_|refine g_reg (id := 0) ?_|refine g_reg (id := 1) ?_|refine g_reg (id := 2) ?_|refine g_reg (id := 7) ?_|refine g_reg (id := 8) ?_|refine g_reg (id := 9) ?_|(apply c4 0;exact callK0 (θ := [_,_]) (hD := (tbSet_ok _ _ _ _ _ preB200 preB200 preB200 preB200 preB200 preB200 preB200));exact rfl;exact rfl;exact rfl;refine dM ?_)|fail
        dsimp only
        repeat' first|(apply n3;(exact a_litE eS [_,_] rfl rfl rfl rfl rfl rfl rfl rfl);exact rfl;refine dA ?_)|(apply p3;(exact a_mulB rfl rfl (by omega) (by omega) (by omega) (by omega));exact rfl)|(apply s3;exact a_appE (fP rfl) rfl rfl rfl rfl nowR (by (simp <;> omega)) (by decide) (by decide) (by exact rfl);exact rfl;exact rfl)|(apply c4 1;exact callK1 (θ := []) (hD := (repeated_ok _ _ preB200 preB200 preB200));exact rfl;exact rfl;exact rfl;refine dM ?_)|fail
        refine o_turn (t_freeze (i := 6) rfl nowR) ?_
        repeat' first|(apply n3;(exact a_litE eS [_,_] rfl rfl rfl rfl rfl rfl rfl rfl);exact rfl;refine dA ?_)|(apply p3;(first|exact pu1|exact a_addS rfl rfl (by first|omega|(simp only [List.length_append,List.length_cons,List.length_nil];omega)));exact rfl)|refine cdn ?_|refine g_reg (id := 10) ?_|(apply c4 1;exact callK1 (θ := []) (hD := (repeated_ok _ _ preB200 preB200 preB200));exact rfl;exact rfl;exact rfl;refine dM ?_)|(apply c4 0;exact callK0 (θ := [_,_]) (hD := (tbSet_ok _ _ _ _ _ preB200 preB200 preB200 preB200 preB200 preB200 preB200));exact rfl;exact rfl;exact rfl;refine dM ?_)|fail
        refine o_turn (t_freeze (i := 8) rfl nowR) ?_
        repeat' first|refine cdn ?_|(apply c4 0;exact callK0 (θ := [_,_]) (hD := (tbSet_ok _ _ _ _ _ preB200 preB200 preB200 preB200 preB200 preB200 preB200));exact rfl;exact rfl;exact rfl;refine dM ?_)|fail
        repeat' first|(apply p3;(first|exact pu1|exact a_eqT rfl rfl);exact rfl)|refine cd ?_|(apply c4 0;exact callK1 (θ := []) (hD := (letterOf_ok _ _ preB200 preB200));exact rfl;exact rfl;exact rfl;refine dM ?_)|fail
        repeat refine cr ?_
        refine ends_id ?_
        refine endK [] (h2 := ?_) (h3 := ?_) (nd := ?_)
        all_goals (repeat' first|exact ce0|refine ce ?_|refine ce2 ?_ ?_|(refine Or.inr (bx_eq rfl rfl ?_);(try dsimp only [C.ren,C.ren.all]);(try exact rfl))|exact SVLe.refl|refine ceb ?_)
        all_goals first | exact (show nodupB _ = true from rfl) | exact Or.inr rfl | (rfl)
      · subst hw
        have hq : ((q.toNat : Nat) : Int) = q := by omega
        have hrl : (repW [[102,49],[102,48]] (Int.toNat (2 * 1))).length = 4 := by rw [repW_len]; rfl
        refine does_of (k := 2) Tryz.func116 rfl Tryz.ntmps116 rfl rfl fun w F0 S0 ρ0 => ?_
        dsimp only [argT,argH]
        have hf := ru_four (q := q.toNat) (s := 1) (r := ⟨1,-1,n⟩) (d := [49]) (n0 := [[69]]) (n1 := [[101]]) (n2 := ([70,49] :: [70,48] :: repW [[102,49],[102,48]] (Int.toNat (2 * 1)))) (n3 := (repW [[102,49],[102,48]] (Int.toNat 4))) (ws := ws) (.inr ⟨rfl,rfl⟩) hr (by unfold rlN; rfl)
        rw [hq] at hf
        rw [← hf]
        repeat' first|(apply p3;exact a_litF (dst := some 53) eS [_] rfl rfl rfl rfl rfl rfl rfl rfl nowR;exact rfl)|(apply p3;exact a_litF (dst := some 60) eS [_] rfl rfl rfl rfl rfl rfl rfl rfl nowR;exact rfl)|(apply n3;(first|exact a_new (gb := .bx _) rfl|exact a_litE eS [_,_] rfl rfl rfl rfl rfl rfl rfl rfl);exact rfl;refine dA ?_)|(apply p3;(first|exact pu1|exact puC|exact a_addS rfl rfl (by first|omega|(simp only [List.length_append,List.length_cons,List.length_nil];omega)));exact rfl)|refine cdn ?_|refine g_reg (id := 0) ?_|refine g_reg (id := 1) ?_|refine g_reg (id := 2) ?_|refine g_reg (id := 7) ?_|refine g_reg (id := 8) ?_|refine g_reg (id := 9) ?_|(apply c4 0;exact callK0 (θ := [_,_]) (hD := (tbSet_ok _ _ _ _ _ preB200 preB200 preB200 preB200 preB200 preB200 preB200));exact rfl;exact rfl;exact rfl;refine dM ?_)|fail
        dsimp only
        repeat' first|(apply n3;(exact a_litE eS [_,_] rfl rfl rfl rfl rfl rfl rfl rfl);exact rfl;refine dA ?_)|(apply p3;(exact a_mulB rfl rfl (by omega) (by omega) (by omega) (by omega));exact rfl)|(apply s3;exact a_appE (fP rfl) rfl rfl rfl rfl nowR (by (simp <;> omega)) (by decide) (by decide) (by exact rfl);exact rfl;exact rfl)|(apply c4 1;exact callK1 (θ := []) (hD := (repeated_ok _ _ preB200 preB200 preB200));exact rfl;exact rfl;exact rfl;refine dM ?_)|fail
        refine o_turn (t_freeze (i := 6) rfl nowR) ?_
        repeat' first|(apply n3;(exact a_litE eS [_,_] rfl rfl rfl rfl rfl rfl rfl rfl);exact rfl;refine dA ?_)|(apply p3;(first|exact pu1|exact a_addS rfl rfl (by first|omega|(simp only [List.length_append,List.length_cons,List.length_nil];omega)));exact rfl)|refine cdn ?_|refine g_reg (id := 10) ?_|(apply c4 1;exact callK1 (θ := []) (hD := (repeated_ok _ _ preB200 preB200 preB200));exact rfl;exact rfl;exact rfl;refine dM ?_)|(apply c4 0;exact callK0 (θ := [_,_]) (hD := (tbSet_ok _ _ _ _ _ preB200 preB200 preB200 preB200 preB200 preB200 preB200));exact rfl;exact rfl;exact rfl;refine dM ?_)|fail
        refine o_turn (t_freeze (i := 8) rfl nowR) ?_
        repeat' first|refine cdn ?_|(apply c4 0;exact callK0 (θ := [_,_]) (hD := (tbSet_ok _ _ _ _ _ preB200 preB200 preB200 preB200 preB200 preB200 preB200));exact rfl;exact rfl;exact rfl;refine dM ?_)|fail
        repeat' first|(apply p3;(first|exact pu1|exact a_eqT rfl rfl);exact rfl)|refine cd ?_|(apply c4 0;exact callK1 (θ := []) (hD := (letterOf_ok _ _ preB200 preB200));exact rfl;exact rfl;exact rfl;refine dM ?_)|fail
        repeat refine cr ?_
        refine ends_id ?_
        refine endK [] (h2 := ?_) (h3 := ?_) (nd := ?_)
        all_goals (repeat' first|exact ce0|refine ce ?_|refine ce2 ?_ ?_|(refine Or.inr (bx_eq rfl rfl ?_);(try dsimp only [C.ren,C.ren.all]);(try exact rfl))|exact SVLe.refl|refine ceb ?_)
        all_goals first | exact (show nodupB _ = true from rfl) | exact Or.inr rfl | (rfl)
end Go.Proofs.YtnkeamihfiobdaaGreatDoor
end
section
set_option linter.unusedVariables false
set_option linter.unusedSimpArgs false
set_option maxRecDepth 100000
set_option maxHeartbeats 1000000
namespace Go.Proofs.YtnkeamihfiobdaaGreatDoor
open Go Foot Go.RowKit
structure InR (P rest : List Int) (x : Int) (c : List Int) (j : Nat) : Prop where
  ex : ∃ A B,c = A ++ x :: (B ++ rest) ∧ A ++ B = P ∧ A.length = j ∧ ∀ b ∈ B,x ≤ b
theorem inR_len {P rest : List Int} {x : Int} {c : List Int} {j : Nat} (h : InR P rest x c j) : c.length = P.length + 1 + rest.length ∧ j ≤ P.length := by
  obtain ⟨A,B,e1,e2,e3,_⟩ := h.ex
  have := congrArg List.length e2
  rw [List.length_append] at this
  rw [e1,List.length_append,List.length_cons,List.length_append]
  omega
theorem inR_0 {y : List Int} {i : Nat} (h : i < y.length) : InR (y.take i) (y.drop (i + 1)) (y[i]) y i :=
  ⟨y.take i,[],by rw [List.nil_append,← List.drop_eq_getElem_cons h,List.take_append_drop],by rw [List.append_nil],by rw [List.length_take]; omega,by simp⟩
theorem inR_s {P rest : List Int} {x : Int} {c : List Int} {j : Nat} (h : InR P rest x c (j + 1)) {u v : Int} (hu : c[j + 1]? = some u) (hv : c[j]? = some v) (hlt : u < v) : InR P rest x ((c.set (j + 1) v).set j u) j := by
  obtain ⟨A,B,e1,e2,e3,e4⟩ := h.ex
  have hA : A ≠ [] := by intro e; rw [e] at e3; simp at e3
  obtain ⟨A',a,eA⟩ : ∃ A' a,A = A' ++ [a] := ⟨A.dropLast,A.getLast hA,(List.dropLast_concat_getLast hA).symm⟩
  subst eA
  have hj : A'.length = j := by rw [List.length_append] at e3; simpa using e3
  subst hj
  have hu' : u = x := by
    rw [e1,List.getElem?_append_right (by rw [e3]; exact Nat.le_refl _),e3,Nat.sub_self] at hu
    simpa using hu.symm
  have hv' : v = a := by
    rw [e1,List.append_assoc,List.getElem?_append_right (Nat.le_refl _),Nat.sub_self] at hv
    simpa using hv.symm
  subst hu' hv'
  refine ⟨A',v :: B,?_,by rw [← e2,List.append_assoc]; rfl,rfl,fun b hb => ?_⟩
  · rw [e1,List.set_append_right _ _ (by rw [e3]; exact Nat.le_refl _),e3,Nat.sub_self,List.set_cons_zero,List.append_assoc,List.set_append_right _ _ (Nat.le_refl _),Nat.sub_self]
    rfl
  · rcases List.mem_cons.1 hb with h | h
    · subst h; exact Int.le_of_lt hlt
    · exact e4 b h
theorem inR_e {P rest : List Int} {x : Int} {c : List Int} {j : Nat} (h : InR P rest x c j) (hs : P.Pairwise (· ≤ ·)) (hx : ∀ u v,0 < j → c[j]? = some u → c[j - 1]? = some v → ¬ u < v) : (c.take (P.length + 1)).Pairwise (· ≤ ·) ∧ c.Perm (P ++ x :: rest) := by
  obtain ⟨A,B,e1,e2,e3,e4⟩ := h.ex
  have hl : A.length + B.length = P.length := by rw [← e2,List.length_append]
  have ec : c = (A ++ x :: B) ++ rest := by rw [e1]; simp
  constructor
  · rw [ec,List.take_append_of_le_length (by rw [List.length_append,List.length_cons]; omega),List.take_of_length_le (by rw [List.length_append,List.length_cons]; omega)]
    rw [← e2,List.pairwise_append] at hs
    rw [List.pairwise_append,List.pairwise_cons]
    refine ⟨hs.1,⟨e4,hs.2.1⟩,fun a ha b hb => ?_⟩
    have hA : A ≠ [] := by intro e; rw [e] at ha; simp at ha
    obtain ⟨A',z,eA⟩ : ∃ A' z,A = A' ++ [z] := ⟨A.dropLast,A.getLast hA,(List.dropLast_concat_getLast hA).symm⟩
    have hz : z ≤ x := by
      have hj : j = A'.length + 1 := by rw [← e3,eA,List.length_append]; rfl
      have h1 : c[j]? = some x := by rw [e1,List.getElem?_append_right (by omega),e3,Nat.sub_self]; rfl
      have h2 : c[j - 1]? = some z := by rw [e1,eA,List.append_assoc,List.getElem?_append_right (by omega),hj,Nat.add_sub_cancel,Nat.sub_self]; rfl
      have := hx x z (by omega) h1 h2
      omega
    have haz : a ≤ z := by
      have hp := hs.1
      rw [eA,List.pairwise_append] at hp
      rw [eA] at ha
      rcases List.mem_append.1 ha with h | h
      · exact hp.2.2 a h z (by simp)
      · have : a = z := by simpa using h
        omega
    rcases List.mem_cons.1 hb with h | h
    · omega
    · have := e4 b h; omega
  · rw [e1,← e2,List.append_assoc]
    refine List.Perm.append_left A ?_
    exact (List.perm_middle (l₁ := B) (l₂ := rest) (a := x)).symm
theorem inR_ln {y c l : List Int} {x : Int} {i j : Nat} (h : InR (y.take i) (y.drop (i + 1)) x c j) (hi : i < y.length) (jl : y.length = l.length) : c.length = l.length := by
  have := (inR_len h).1
  rw [List.length_take,List.length_drop] at this
  omega
theorem ins_perm {y c : List Int} {i : Nat} (hi : i < y.length) (h : c.Perm (y.take i ++ y[i] :: y.drop (i + 1))) : c.Perm y := by
  rwa [← List.drop_eq_getElem_cons hi,List.take_append_drop] at h
theorem preB199 {p : Prop} (h : p := by first | with_reducible assumption | omega | (simp only [List.length_append,List.length_cons,List.length_nil,List.length_set,List.length_replicate,List.length_take,List.length_drop,List.length_tail,List.length_dropLast,List.length_reverse] at *; omega) | exact mem_len (by assumption) (by omega) | (with_reducible refine Int.le_trans (Int.ofNat_le.2 (trimR_len _)) ?_; simp only [List.length_cons,List.length_tail]; omega) | (exact (ruAt_ok (by assumption) (by assumption) (by assumption)).2.1) | (exact (ruAt_ok (by assumption) (by assumption) (by assumption)).2.1) | (have := vMach_bd (by assumption); omega) | (simp only [mC_ch,mC_tu]; omega) | (have := vTag_bd (by assumption); omega) | (have := (‹Gd _ _›).le; omega) | (exact tgHalts_no (by assumption)) | (exact tgHead (by assumption) (by assumption) (by assumption)) | (exact Int.le_trans (tgStep_gd (by assumption) (by assumption) (by assumption) (by assumption)).le (by decide)) | (exact vTag_r (by assumption)) | (with_reducible refine Int.le_trans (Int.ofNat_le.2 (pushL_len _ _)) ?_; simp only [List.length_dropLast]; omega) | exact ls_at (by assumption) (by omega) | exact pt_gd (by assumption) | exact lv_at (by assumption) (by omega) | exact pt_gd (lv_at (by assumption) (by omega)) | exact (ask_ok (by assumption)).1 | exact (ask_ok (by assumption)).2.1 | exact (ask_ok (by assumption)).2.2.1 | exact (ask_ok (by assumption)).2.2.2 | trivial) : p := h
theorem Len64_ok (n : Int) (h0 : 0 ≤ n) (h1 : n ≤ 16777216) : Does Tryz.prog 221 [.one (u64 n)] [] (.one (int ((Lib.bitLen n.toNat : Nat)))) [] :=
  does_ext (av := [.int .u64 n]) (rv := .int .i64 (Lib.bitLen n.toNat)) (fun w S ρ vs => repA_1) (fun w S ρ => ⟨rfl,rfl⟩) fun w S hT => by
    refine (Tryz.bits_Len64 n w h0 (by omega)).mono ?_
    rintro en w' ⟨rfl,rfl⟩
    exact ⟨rfl,Below.refl _ _⟩
theorem Len_ok (n : Int) (h0 : 0 ≤ n) (h1 : n ≤ 16777216) : Does Tryz.prog 147 [.one (u64 n)] [] (.one (int ((Lib.bitLen n.toNat : Nat)))) [] := by
  refine does_of (k := 0) Tryz.func147 rfl Tryz.ntmps147 rfl rfl fun w F0 S0 ρ0 => ?_
  dsimp only [argT,argH]
  repeat' first|(apply p3;(exact pu1);exact rfl)|refine cd ?_|(apply c4 0;exact callK1 (θ := []) (hD := (Len64_ok _ preB199 preB199));exact rfl;exact rfl;exact rfl;refine dM ?_)|fail
  repeat refine cr ?_
  refine ends_id ?_
  refine endK [] (h2 := ?_) (h3 := ?_) (nd := ?_)
  all_goals (repeat' first|exact ce0|refine ce ?_|refine ce2 ?_ ?_|exact SVLe.refl|refine ceb ?_)
  all_goals first | exact (show nodupB _ = true from rfl) | exact Or.inr rfl | (rfl)
theorem insOrd_ok (l : List Int) (hl : (l.length : Int) ≤ 12) : Does Tryz.prog 244 [.one (.gv 0),.one (int 0),.one (int l.length)] [roI l] .any [roI (srtL l)] := by
  refine does_of (k := 1) Tryz.func244 rfl Tryz.ntmps244 rfl rfl fun w F0 S0 ρ0 => ?_
  dsimp only [argT,argH]
  repeat' first|(apply p3;(first|exact pu1|exact a_add rfl rfl (by omega) (by omega));exact rfl)|refine cd ?_|fail
  refine g_loop_id ?_
  refine loopK [0,1,2] [0] (fun y : Int × List Int => 1 ≤ y.1 ∧ (y.1 ≤ l.length ∨ y.1 = 1) ∧ y.2.Perm l ∧ (y.2.take y.1.toNat).Pairwise (· ≤ ·)) (fun y => [(6,.one (int y.1))]) (fun y => [(0,roI y.2)]) (fun y => (l.length - y.1).toNat) ((1 : Int),l) [0] (hI := ?_) (hr := ?_)
  · refine ⟨by simp,by simp,List.Perm.refl _,?_⟩
    cases l with
    | nil => simp
    | cons a l => simp
  · rintro ⟨i,y⟩ ⟨j0,j1,j2,j3⟩
    dsimp only [List.cons_append,List.nil_append] at *
    skip
    have jl : y.length = l.length := j2.length_eq
    repeat' first|(apply p3;(first|exact pu1|exact puC);exact rfl)|refine cdn ?_|refine g_reg (id := 1) ?_|refine g_reg (id := 3) ?_|((refine g_cond rfl (fun hc => ?_) (fun hc => ?_)) <;> (try simp only [dcB] at hc) <;> (try first|contradiction|(exfalso;omega)))|fail
    · have hi : i.toNat < y.length := by omega
      have h0 := inR_0 hi
      refine g_loop_id ?_
      refine loopK [0,1,2,6] [0] (fun z : Int × List Int => 0 ≤ z.1 ∧ z.1 ≤ i ∧ InR (y.take i.toNat) (y.drop (i.toNat + 1)) (y[i.toNat]'hi) z.2 z.1.toNat) (fun z => [(7,.one (int z.1))]) (fun z => [(0,roI z.2)]) (fun z => z.1.toNat) (i,y) [0] (hI := ?_) (hr := ?_)
      · exact ⟨by dsimp only; omega,by dsimp only; omega,h0⟩
      · rintro ⟨j,c⟩ ⟨k0,k1,k2⟩
        dsimp only [List.cons_append,List.nil_append] at *
        skip
        have kl2 : c.length = l.length := inR_ln k2 hi jl
        repeat' first|(apply p3;(first|exact pu1|exact a_add rfl rfl (by omega) (by omega));exact rfl)|refine cdn ?_|refine g_reg (id := 2) ?_|(apply g_drN (id := 4) okM [[],[],[0,1],[0,1,2],[0,1,2,3],[0,1,2,3],[0,1,2,3,4,5],[0,1,2,3,4,5,6],[0,1,2,3],[0,1,2,3],[0,1,2,3,9],[0,1,2,3,8,9,10],[0,1,2,3,8,9,10,11],[0,1,2,3,4,5,6,7,8,9,10,11,12],[0,1,2,3,4,5,6,7,8,9,10,11,12,13]] [([],[]),([],[]),([],[]),([],[]),([],[]),([],[]),([],[]),([],[]),([],[]),([],[]),([],[]),([],[]),([],[]),([],[]),([],[])] 0;(focus (all_goals refine dp 0 0 [17] [] pu1 ?_;all_goals refine dp 1 0 [16] [] pu1 ?_;all_goals refine dp 2 3 [] [] puC ?_;all_goals (refine db 3 7 [] [] pu1 ?_ ?_ <;> (intro hc;first|cases hc|(try simp only [dcB] at hc);first|contradiction|(exfalso;omega)|skip));all_goals (first|refine dn 4 15 [21,24,25,26,27,28] [] ?_|refine dpy 4 15 [21,24,25,26,27,28] [] pu1 ?_);all_goals (first|refine dn 5 30 [20,24,25,26,27,28] [] ?_|refine dpy 5 30 [20,24,25,26,27,28] [] pu1 ?_);all_goals (first|refine dn 6 63 [24,25,26,27,28] [] ?_|refine dpy 6 63 [24,25,26,27,28] [] puI ?_);all_goals (first|refine dn 7 127 [24,25,26,27,28] [] ?_|refine dpy 7 127 [24,25,26,27,28] [] puL ?_);all_goals (first|refine dn 8 240 [20,21,22,23,25,26] [] ?_|refine dpy 8 240 [20,21,22,23,25,26] [] pu1 ?_);all_goals (first|refine dn 9 480 [20,21,22,23,24] [] ?_|refine dpy 9 480 [20,21,22,23,24] [] pu1 ?_);all_goals (first|refine dn 10 961 [20,21,22,23,24] [] ?_|refine dpy 10 961 [20,21,22,23,24] [] (a_sub rfl rfl (by omega) (by omega)) ?_);all_goals (first|refine dn 11 1927 [20,21,22,23] [] ?_|refine dpy 11 1927 [20,21,22,23] [] puI ?_);all_goals (first|refine dn 12 3855 [20,21,22,23] [] ?_|refine dpy 12 3855 [20,21,22,23] [] puL ?_);all_goals (first|refine dn 13 8191 [] [] ?_|refine dpy 13 8191 [] [] (callD1 (n := _) 0 (θ := []) (hD := (cLess_ok _ _))) ?_);all_goals refine dp 14 16383 [] [] (a_pure (sv := .one _) rfl) ?_;all_goals (refine d_nil ?_;refine dN ?_)));any_goals kernel_rfl)|((refine g_cond rfl (fun hc => ?_) (fun hc => ?_)) <;> (try simp only [dcB] at hc) <;> (try first|contradiction|(exfalso;omega)))|fail
        · have hj : j.toNat = (j - 1).toNat + 1 := by omega
          rw [hj] at k2
          have ks := inR_s k2 (u := c[j.toNat]'(by omega)) (v := c[(j - 1).toNat]'(by omega)) (by rw [← hj]; exact List.getElem?_eq_getElem _) (List.getElem?_eq_getElem _) hc
          rw [← hj] at ks
          repeat' first|(apply p3;(first|exact pu1|exact a_sub rfl rfl (by omega) (by omega));exact rfl)|refine cd ?_|(apply g_drN (id := 6) okM [[],[],[],[],[3],[],[],[6],[5,6,7],[5,6,7,8],[],[],[10,11],[10,11,12],[0,1,5,6,7,8,9,10,11,12,13],[0,1,5,6,7,8,9,10,11,12,13,14],[0,1,2,3,4,5,6,7,8,9,10,11,12,13,14,15],[0,1,2,3,4,5,6,7,8,9,10,11,12,13,14,15,16]] [([],[]),([],[]),([],[]),([],[]),([],[]),([],[]),([],[]),([],[]),([],[]),([],[]),([],[]),([],[]),([],[]),([],[]),([],[]),([],[0]),([],[]),([],[0])] 0;(focus (refine dp 0 0 [34,35,36,37,38,39,40,41,42,43,44,45,46] [] pu1 ?_;refine dp 1 0 [33,35,36,37,38,39,40,41,42,43,44,45,46] [] pu1 ?_;refine dp 2 0 [33,34,36,37,38,39,40,41,42,43,44,45,46,47] [(false,0)] pu1 ?_;refine dp 3 0 [33,34,35,38,39,40,41,42,43,44,45,46,47] [(false,0)] pu1 ?_;refine dp 4 1 [33,34,35,38,39,40,41,42,43,44,45,46,47] [(false,0)] (a_sub rfl rfl (by omega) (by omega)) ?_;refine dp 5 0 [33,34,35,36,37,39,40,43,44,45,46] [] pu1 ?_;refine dp 6 0 [33,34,35,36,37,38,43,44,45,46] [] pu1 ?_;refine dp 7 1 [33,34,35,36,37,38,43,44,45,46] [] (a_sub rfl rfl (by omega) (by omega)) ?_;refine dp 8 7 [33,34,35,36,37,43,44,45,46] [] puI ?_;refine dp 9 15 [33,34,35,36,37,43,44,45,46] [] puL ?_;refine dp 10 0 [33,34,35,36,37,38,39,40,41,42,44] [] pu1 ?_;refine dp 11 0 [33,34,35,36,37,38,39,40,41,42,43] [] pu1 ?_;refine dp 12 3 [33,34,35,36,37,38,39,40,41,42] [] puI ?_;refine dp 13 7 [33,34,35,36,37,38,39,40,41,42] [] puL ?_;refine dp 14 12799 [35,36,37] [] puI ?_;refine duE 15 25599 [35,36,37] [] (by exact a_st_rowI rfl rfl rfl rfl (fN rfl rfl) bnd) (by exact rfl) (by exact rfl) ?_;refine dp 16 65535 [] [] puI ?_;refine duE 17 131071 [] [] (by exact a_st_rowI rfl rfl rfl rfl (fN rfl rfl) bnd) (by exact rfl) (by exact rfl) ?_;(refine d_nil ?_;refine dN ?_)));any_goals kernel_rfl)|fail
          refine q_again (j - 1,(c.set j.toNat (c[(j - 1).toNat]'(by omega))).set (j - 1).toNat (c[j.toNat]'(by omega))) [0] (by exact stk) ?_ ?_
          · dsimp only
            exact ⟨by omega,by omega,ks⟩
          · dsimp only; omega
        · have ee := inR_e k2 (by exact j3) (fun u v h hu hv => by
            rw [List.getElem?_eq_getElem (by omega)] at hu
            rw [show j.toNat - 1 = (j - 1).toNat by omega,List.getElem?_eq_getElem (by omega)] at hv
            injection hu with hu
            injection hv with hv
            rw [← hu,← hv]
            exact hc)
          refine q_again (i + 1,c) [0] (by exact stk) ?_ ?_
          · dsimp only
            exact ⟨by omega,by omega,(ins_perm hi ee.2).trans j2,by rw [show (i + 1).toNat = (y.take i.toNat).length + 1 by rw [List.length_take]; omega]; exact ee.1⟩
          · dsimp only; omega
        · have ee := inR_e k2 (by exact j3) (fun u v h _ _ => by omega)
          refine q_again (i + 1,c) [0] (by exact stk) ?_ ?_
          · dsimp only
            exact ⟨by omega,by omega,(ins_perm hi ee.2).trans j2,by rw [show (i + 1).toNat = (y.take i.toNat).length + 1 by rw [List.length_take]; omega]; exact ee.1⟩
          · dsimp only; omega
    · have e : srtL l = y := srtL_eq j2 (by rw [List.take_of_length_le (by omega)] at j3; exact j3)
      rw [e]
      repeat refine cr ?_
      refine ends_id ?_
      refine endK [] (h2 := ?_) (h3 := ?_) (nd := ?_)
      all_goals (repeat' first|exact ce0|refine ce ?_|refine ce2 ?_ ?_|(refine Or.inr (bx_eq rfl rfl ?_);(try dsimp only [C.ren,C.ren.all]);(try exact rfl))|exact SVLe.refl|refine ceb ?_)
      all_goals first | exact (show nodupB _ = true from rfl) | exact Or.inr rfl | (rfl)
theorem pdq_ok (l : List Int) (d : Int) (hl : (l.length : Int) ≤ 12) : Does Tryz.prog 193 [.one (.gv 0),.one (int 0),.one (int l.length),.one (int d)] [roI l] .any [roI (srtL l)] := by
  refine does_of (k := 1) Tryz.func193 rfl Tryz.ntmps193 rfl rfl fun w F0 S0 ρ0 => ?_
  dsimp only [argT,argH]
  repeat' first|(apply p3;(exact pu1);exact rfl)|refine cd ?_|fail
  refine g_loop_id ?_
  refine loopK [0,1,2,3,8,9] [0] (fun y : Int => y = 0) (fun y => []) (fun y => [(0,roI l)]) (fun y => 0) (0 : Int) [0] (hI := ?_) (hr := ?_)
  · exact rfl
  · rintro y j0
    dsimp only [List.cons_append,List.nil_append] at *
    skip
    repeat' first|(apply p3;(first|exact pu1|exact a_sub rfl rfl (by omega) (by omega)|exact puC);exact rfl)|refine cd ?_|(apply c4 0;exact callK1 (θ := [_]) (hD := (insOrd_ok _ preB199));exact rfl;exact rfl;exact rfl;refine dM ?_)|((refine g_cond rfl (fun hc => ?_) (fun hc => ?_)) <;> (try simp only [dcB] at hc) <;> (try first|contradiction|(exfalso;omega)))|fail
    · repeat refine cr ?_
      refine ends_id ?_
      refine endK [] (h2 := ?_) (h3 := ?_) (nd := ?_)
      all_goals (repeat' first|exact ce0|refine ce ?_|refine ce2 ?_ ?_|(refine Or.inr (bx_eq rfl rfl ?_);(try dsimp only [C.ren,C.ren.all]);(try exact rfl))|exact SVLe.refl|refine ceb ?_)
      all_goals first | exact (show nodupB _ = true from rfl) | exact Or.inr rfl | (rfl)
theorem Sort_ok (l : List Int) (hl : (l.length : Int) ≤ 12) : Does Tryz.prog 118 [.one (.gv 0)] [roI l] .any [roI (srtL l)] := by
  refine does_of (k := 1) Tryz.func118 rfl Tryz.ntmps118 rfl rfl fun w F0 S0 ρ0 => ?_
  dsimp only [argT,argH]
  repeat' first|(apply p3;(first|exact pu1|exact puN|exact u_conv rfl Tryz.underlying3 Tryz.underlying203 bnd bnd);exact rfl)|refine cd ?_|(apply c4 0;exact callK1 (θ := []) (hD := (Len_ok _ preB199 preB199));exact rfl;exact rfl;exact rfl;refine dM ?_)|(apply c4 0;exact callK1 (θ := [_]) (hD := (pdq_ok _ _ preB199));exact rfl;exact rfl;exact rfl;refine dM ?_)|fail
  repeat refine cr ?_
  refine ends_id ?_
  refine endK [] (h2 := ?_) (h3 := ?_) (nd := ?_)
  all_goals (repeat' first|exact ce0|refine ce ?_|refine ce2 ?_ ?_|(refine Or.inr (bx_eq rfl rfl ?_);(try dsimp only [C.ren,C.ren.all]);(try exact rfl))|exact SVLe.refl|refine ceb ?_)
  all_goals first | exact (show nodupB _ = true from rfl) | exact Or.inr rfl | (rfl)
end Go.Proofs.YtnkeamihfiobdaaGreatDoor
end
section
set_option linter.unusedVariables false
set_option linter.unusedSimpArgs false
set_option maxRecDepth 100000
set_option maxHeartbeats 1000000
namespace Go.Proofs.YtnkeamihfiobdaaGreatDoor
open Go Foot Go.RowKit
@[irreducible] def tmX (m : Mach) : Tg := if m.st ≤ 6 then tmT m else ⟨0,[],[]⟩
theorem tmX_ok {m : Mach} (h : m.st ≤ 6) : tmX m = tmT m := by unfold tmX; rw [if_pos h]
theorem tmX_no {m : Mach} (h : ¬ m.st ≤ 6) : tmX m = ⟨0,[],[]⟩ := by unfold tmX; rw [if_neg h]
theorem decT_1 : decT 1 = [49] := by unfold decT Lib.itoa; simp [Lib.decDigits]
theorem nilShd {z : Nat} (hz : 0 < z) : ∀ (w : World) (S : Foot) (v : Value) (F : Foot),Rep w S (.sc (.slice none 0 0)) v F → Rep w S (.sl false z []) v F := fun w S v F hr => by
  rw [hr.1]
  simp only [Rep]
  exact ⟨none,0,0,rfl,by simp,hz,Nat.le_refl _,.inl ⟨rfl,fun _ => rfl⟩⟩
theorem tm_dec {v : Int} (h0 : 0 ≤ v) (h1 : v < 2) : (v.toNat = 0 ∧ decT v = [48]) ∨ (v.toNat = 1 ∧ decT v = [49]) := by
  have h : v = 0 ∨ v = 1 := by omega
  rcases h with h | h
  · subst h; exact .inl ⟨rfl,decT_0⟩
  · subst h; exact .inr ⟨rfl,decT_1⟩
theorem tm_len {v : Int} (h0 : 0 ≤ v) (h1 : v < 2) : (decT v).length = 1 := by
  rcases tm_dec h0 h1 with h | h
  · rw [h.2]; rfl
  · rw [h.2]; rfl
theorem tm_lt {v q : Int} (h0 : 0 ≤ v) (h1 : v < 2) : ltN ([80] ++ decT v) q = 1 + 30 * q + 8 + (1 - v) := by
  have h : v = 0 ∨ v = 1 := by omega
  rcases h with h | h
  · subst h
    rw [decT_0]
    show ltN [80,48] q = _
    rw [ltN_i 9 (by decide)]
    omega
  · subst h
    rw [decT_1]
    show ltN [80,49] q = _
    rw [ltN_i 8 (by decide)]
    omega
theorem preB201 {p : Prop} (h : p := by first | with_reducible assumption | omega | (simp only [List.length_append,List.length_cons,List.length_nil,List.length_set,List.length_replicate,List.length_take,List.length_drop,List.length_tail,List.length_dropLast,List.length_reverse] at *; omega) | exact mem_len (by assumption) (by omega) | (with_reducible refine Int.le_trans (Int.ofNat_le.2 (trimR_len _)) ?_; simp only [List.length_cons,List.length_tail]; omega) | (exact (ruAt_ok (by assumption) (by assumption) (by assumption)).2.1) | (exact (ruAt_ok (by assumption) (by assumption) (by assumption)).2.1) | (have := vMach_bd (by assumption); omega) | (simp only [List.length_append,List.length_cons,List.length_nil,repW_len,seN_len] at *; omega) | (simp only [mC_ch,mC_tu]; omega) | (have := vTag_bd (by assumption); omega) | (have := (‹Gd _ _›).le; omega) | (exact tgHalts_no (by assumption)) | (exact tgHead (by assumption) (by assumption) (by assumption)) | (exact Int.le_trans (tgStep_gd (by assumption) (by assumption) (by assumption) (by assumption)).le (by decide)) | (exact vTag_r (by assumption)) | (with_reducible refine Int.le_trans (Int.ofNat_le.2 (pushL_len _ _)) ?_; simp only [List.length_dropLast]; omega) | exact ls_at (by assumption) (by omega) | exact pt_gd (by assumption) | exact lv_at (by assumption) (by omega) | exact pt_gd (lv_at (by assumption) (by omega)) | exact (ask_ok (by assumption)).1 | exact (ask_ok (by assumption)).2.1 | exact (ask_ok (by assumption)).2.2.1 | exact (ask_ok (by assumption)).2.2.2 | trivial) : p := h
theorem tagOfMachine_ok (m : Mach) (hv : vMach m = true) (hy : m.sy = 2) : Does Tryz.prog 54 [.agg (maC m)] [] (.tup [(true,[int (tmX m).de,.gv 0,.gv 1]),(false,[int (if m.st ≤ 6 then 0 else 5)])]) [roW (tmX m).wo,roI (tmX m).ha] := by
  have hb := vMach_bd hv
  rw [hy] at hb
  by_cases hs : m.st ≤ 6
  · rw [tmX_ok hs,if_pos hs]
    have g : TmOk m := ⟨hv,hy,hs⟩
    refine does_of (k := 0) Tryz.func54 rfl Tryz.ntmps54 rfl rfl fun w F0 S0 ρ0 => ?_
    dsimp only [argT,argH]
    repeat' first|(apply n3;(first|exact a_new (gb := .bx _) rfl|exact a_make (fE rfl) (fZ rfl) (fP rfl) (by decide) rfl rfl (by omega) rfl (by omega) (by omega) (rows_rep eWo none _));exact rfl;refine dA ?_)|(apply p3;(first|exact pu1|exact a_mulB rfl rfl (by omega) (by omega) (by omega) (by omega)|exact a_add rfl rfl (by omega) (by omega)|exact puC);exact rfl)|refine cd ?_|(apply w3;(exact a_st_bx rfl rfl rfl rfl (fN rfl rfl) (Nat.le_of_ble_eq_true rfl) rfl);exact rfl;refine dS ?_)|((refine g_cond rfl (fun hc => ?_) (fun hc => ?_)) <;> (try simp only [dcB] at hc) <;> (try first|contradiction|(exfalso;omega)))|fail
    refine g_conv (t_nilR (i := 2) (E' := eW) ([] : List Int) rfl (by repeat (first | exact trivial | exact nilShd (by decide) | refine And.intro ?_ ?_))) ?_
    simp only [setRow,scC,List.map_cons,List.map_nil,List.set_cons_zero,List.set_cons_succ,Nat.zero_add,List.getElem?_cons_zero,List.getElem?_cons_succ,List.take_succ_cons,List.take_zero,List.drop_zero,List.cons_append,List.nil_append,List.drop_succ_cons,List.drop_nil,List.append_nil,List.append_eq]
    refine g_conv (t_nilB (i := 4) (k := 2) (z := 1) rfl rfl rfl (by decide)) ?_
    try dsimp only [setRow,List.map_cons,List.map_nil,scC,List.set_cons_zero,List.set_cons_succ,Nat.reduceAdd]
    have h60 : aheS m 0 = List.replicate (1 + 30 * m.st).toNat [] := aheS_0 m (by omega)
    rw [← h60]
    refine g_loop_id ?_
    refine loopK [1,2,3,5,6,23] [2,4,5] (fun y : Int × List (List Int) × List Int => 0 ≤ y.1 ∧ y.1 ≤ m.st ∧ y.2.1 = aheS m y.1.toNat ∧ y.2.2 = tmU m y.1.toNat) (fun y => [(24,.one (int y.1))]) (fun y => [(2,roW y.2.1),(5,roI y.2.2),(4,.bx [int 2,nilC,.gv 5])]) (fun y => (m.st - y.1).toNat) ((0 : Int),aheS m 0,([] : List Int)) [0,1,2,3,4,5] (hI := ?_) (hr := ?_)
    · exact ⟨by simp,by simp; omega,rfl,rfl⟩
    · rintro ⟨q,ws,hs'⟩ ⟨j0,j1,j2,j3⟩
      dsimp only [List.cons_append,List.nil_append] at *
      skip
      repeat' first|(apply p3;(first|exact pu1|exact puC);exact rfl)|refine cdn ?_|refine g_reg (id := 6) ?_|refine g_reg (id := 7) ?_|refine g_reg (id := 18) ?_|refine g_reg (id := 19) ?_|(apply w3;(exact a_st_bx rfl rfl rfl rfl (fN rfl rfl) (Nat.le_of_ble_eq_true rfl) rfl);exact rfl;refine dS ?_)|((refine g_cond rfl (fun hc => ?_) (fun hc => ?_)) <;> (try simp only [dcB] at hc) <;> (try first|contradiction|(exfalso;omega)))|fail
      · have hq : q.toNat < m.st.toNat := by omega
        have jl := aheS_len (m := m) (q := q.toNat) (by omega)
        rw [← j2] at jl
        have e0 := miiS_0 (m := m) hq
        rw [← j2,show ((q.toNat : Nat) : Int) = q by omega] at e0
        repeat' first|(apply p3;(exact pu1);exact rfl)|refine cd ?_|(apply c4 0;exact callK0 (θ := [_,_]) (hD := (stateWords_ok _ _ preB201 preB201 preB201));exact rfl;exact rfl;exact rfl;refine dM ?_)|fail
        rw [e0]
        refine g_loop_id ?_
        refine loopK [1,2,3,5,6,7,23,24] [2,4,5] (fun y : Int × List (List Int) × List Int => 0 ≤ y.1 ∧ y.1 ≤ 2 ∧ y.2.1 = miiS m q.toNat y.1.toNat ∧ y.2.2 = miiU m q.toNat y.1.toNat) (fun y => [(30,.one (int y.1))]) (fun y => [(2,roW y.2.1),(5,roI y.2.2),(4,.bx [int 2,nilC,.gv 5])]) (fun y => (2 - y.1).toNat) ((0 : Int),miiS m q.toNat 0,hs') [0,1,2,3,4,5] (hI := ?_) (hr := ?_)
        · exact ⟨by simp,by simp,rfl,j3.trans (miiU_0 m q.toNat).symm⟩
        · rintro ⟨v,a,b⟩ ⟨k0,k1,k2,k3⟩
          dsimp only [List.cons_append,List.nil_append] at *
          skip
          repeat' first|(apply p3;(first|exact pu1|exact puC|exact a_add rfl rfl (by omega) (by omega));exact rfl)|refine cdn ?_|refine g_reg (id := 10) ?_|refine g_reg (id := 11) ?_|refine g_reg (id := 17) ?_|((refine g_cond rfl (fun hc => ?_) (fun hc => ?_)) <;> (try simp only [dcB] at hc) <;> (try first|contradiction|(exfalso;omega)))|fail
          · have hR := ruN_get (m := m) (q := q) (s := v) j0 k0 (by omega)
            have hrn := tm_ru g (q := q.toNat) (s := v.toNat) hq (by omega)
            have ja : (a.length : Int) = 1 + 30 * m.st := by rw [k2,miiS_len hq]; omega
            have jb : (b.length : Int) ≤ 2 * q + 2 := by rw [k3]; have := miiU_len m q.toNat v.toNat; omega
            have hc1 := hc
            repeat' first|(apply n3;exact a_new (gb := .bx _) rfl;exact rfl;refine dA ?_)|(apply p3;(first|exact pu1|exact a_mulB rfl rfl (by omega) (by omega) (by omega) (by omega)|exact a_add rfl rfl (by omega) (by omega)|exact puI);exact rfl)|refine cdn ?_|refine g_reg (id := 12) ?_|(apply w3;(exact a_st_bx rfl rfl rfl rfl (fN rfl rfl) (Nat.le_of_ble_eq_true rfl) rfl);exact rfl;refine dS ?_)|fail
            simp only [hR,setRow,scC,List.map_cons,List.map_nil,List.set_cons_zero,List.set_cons_succ,Nat.zero_add,List.getElem?_cons_zero,List.getElem?_cons_succ,List.take_succ_cons,List.take_zero,List.drop_zero,List.cons_append,List.nil_append,List.drop_succ_cons,List.drop_nil,List.append_nil,List.append_eq]
            generalize hr2 : ruN m q.toNat v.toNat = r at *
            skip
            repeat' first|(apply p3;(exact pu1);exact rfl)|refine cdn ?_|refine g_reg (id := 13) ?_|(apply c4 0;exact callK1 (θ := []) (hD := (isRule_ok _));exact rfl;exact rfl;exact rfl;refine dM ?_)|((refine g_cond rfl (fun hc => ?_) (fun hc => ?_)) <;> (try simp only [dcB] at hc) <;> (try first|contradiction|(exfalso;omega)))|fail
            · have hd : (v.toNat = 0 ∧ decT v = [48]) ∨ (v.toNat = 1 ∧ decT v = [49]) := tm_dec k0 hc1
              have e1 := miiS_ru (m := m) (q := q.toNat) (v := v.toNat) (by omega)
              have e2 := miiU_ru (m := m) (q := q.toNat) (v := v.toNat) (by omega) (by rw [hr2]; exact hc)
              rw [hr2,← k2] at e1
              obtain ⟨hw,hmv,hn0,hn1⟩ := hrn.resolve_left hc
              repeat' first|refine cdn ?_|(apply g_drN (id := 14) okM [[],[],[],[2],[],[0,1,2,3,4]] [([],[]),([],[]),([],[]),([],[]),([],[]),([],[_,_])] 0;(focus (refine dp 0 0 [44,45,46,47] [] pu1 ?_;refine dp 1 0 [43,45,46,47] [] pu1 ?_;refine dp 2 0 [43,44,47] [] pu1 ?_;refine dp 3 1 [43,44,47] [] (callD1 (n := _) 0 (θ := []) (hD := (Decimal_ok _ preB201 preB201))) ?_;refine dp 4 0 [43,44,45,46] [] (by exact puL) ?_;refine duN 5 31 [] [] (callD0 (n := _) 0 (θ := [_,_]) (hD := (ruleWords_ok a q v.toNat (decT v) r hd hc hw hmv ⟨hn0,by omega⟩ j0 (by omega) (by omega)))) (by exact rfl) (by exact rfl) ?_;(refine d_nil ?_;refine dN ?_)));any_goals kernel_rfl)|fail
              repeat' first|(apply p3;(first|exact pu1|exact a_add rfl rfl (by omega) (by omega));exact rfl)|refine cd ?_|fail
              refine q_again (v + 1,ruS q.toNat v.toNat r a,b) [0,1,2,3,4,5] (by exact stk) ?_ ?_
              · dsimp only
                rw [show (v + 1).toNat = v.toNat + 1 by omega]
                exact ⟨by omega,by omega,e1.symm,by rw [e2]; exact k3⟩
              · dsimp only; omega
            · have e1 := miiS_no (m := m) (q := q.toNat) (v := v.toNat) (by omega) (by rw [hr2]; exact hc)
              have e2 := miiU_no (m := m) (q := q.toNat) (v := v.toNat) (by omega) (by rw [hr2]; exact hc)
              have e3 : ltN ([80] ++ decT v) q = 1 + 30 * q + 8 + (1 - v) := tm_lt k0 hc1
              have hdl : (decT v).length = 1 := tm_len k0 hc1
              repeat' first|refine cdn ?_|(apply g_drN (id := 15) okM [[],[0],[],[2],[2,3],[],[2,3,4,5],[2,3,4,5,6],[0,1,2,3,4,5,6,7],[0,1,2,3,4,5,6,7,8],[0,1,2,3,4,5,6,7,8,9]] [([],[]),([],[]),([],[]),([],[]),([],[]),([],[]),([],[]),([0],[]),([1],[_]),([],[]),([],[4])] 2;(focus (refine dp 0 0 [51,52,53,54,55,56] [(true,0)] (a_pure (sv := .one _) rfl) ?_;refine dp 1 1 [51,52,53,54,55,56] [(true,0)] (by exact puL) ?_;refine dp 2 0 [49,50,54] [] pu1 ?_;refine dp 3 1 [49,50,54] [] (callD1 (n := _) 0 (θ := []) (hD := (Decimal_ok _ preB201 preB201))) ?_;refine dp 4 3 [49,50,54] [] (a_addS rfl rfl (by (simp only [List.length_append,List.length_cons,List.length_nil];omega))) ?_;refine dp 5 0 [49,50,51,52,53] [] pu1 ?_;refine dp 6 15 [49,50] [] (callD1 (n := _) 0 (θ := []) (hD := (letterOf_ok _ _ preB201 preB201))) ?_;refine duE 7 31 [49,50] [] (atN 0 (fun _ => a_litE eI [_] rfl rfl rfl rfl rfl rfl rfl rfl)) (by exact rfl) (by exact rfl) ?_;refine duE 8 255 [] [] (atS 1 (fun _ hj => a_appE (fP rfl) rfl rfl rfl rfl nowR (by (simp <;> omega)) (by decide) hj (by exact rfl)) (by decide)) (by exact rfl) (by exact rfl) ?_;refine dp 9 511 [] [] (a_pure (sv := .one _) rfl) ?_;refine duE 10 1023 [] [] (by exact a_st_bx rfl rfl rfl rfl (fN rfl rfl) (Nat.le_of_ble_eq_true rfl) rfl) (by exact rfl) (by exact rfl) ?_;(refine d_nil ?_;refine dN ?_)));any_goals kernel_rfl)|fail
              repeat' first|(apply p3;(first|exact pu1|exact a_add rfl rfl (by omega) (by omega));exact rfl)|refine cd ?_|fail
              refine q_again (v + 1,a,b ++ [ltN ([80] ++ decT v) q]) [0,1,2,3,4,8] (by exact stk) ?_ ?_
              · dsimp only
                rw [show (v + 1).toNat = v.toNat + 1 by omega]
                refine ⟨by omega,by omega,by rw [e1]; exact k2,?_⟩
                rw [e2,← k3,e3,show ((q.toNat : Nat) : Int) = q by omega,show ((v.toNat : Nat) : Int) = v by omega]
              · dsimp only; omega
          · rw [show v.toNat = 2 by omega,miiS_e] at k2
            rw [show v.toNat = 2 by omega,miiU_e] at k3
            refine q_again (q + 1,a,b) [0,1,2,3,4,5] (by exact stk) ?_ ?_
            · dsimp only
              rw [show (q + 1).toNat = q.toNat + 1 by omega]
              exact ⟨by omega,by omega,k2,k3⟩
            · dsimp only; omega
      · have jh : (hs'.length : Int) ≤ 12 := by rw [j3]; have := tmU_len m q.toNat; omega
        have hqs : q.toNat = m.st.toNat := by omega
        rw [hqs] at j2 j3
        have e1 : srtL hs' = tmH m m.st.toNat := by rw [j3,srt_tm]
        have e2 : ws = tmW m m.st.toNat := by rw [j2,aheS_e]
        rw [← e1,← e2]
        repeat' first|(apply p3;(exact pu1);exact rfl)|refine cd ?_|(apply w3;(exact a_st_bx rfl rfl rfl rfl (fN rfl rfl) (Nat.le_of_ble_eq_true rfl) rfl);exact rfl;refine dS ?_)|(apply c4 0;exact callK1 (θ := [_]) (hD := (Sort_ok _ preB201));exact rfl;exact rfl;exact rfl;refine dM ?_)|fail
        repeat refine cr ?_
        refine ends_id ?_
        refine endK [?_,?_] (h2 := ?_) (h3 := ?_) (nd := ?_)
        rotate_left 2
        all_goals (repeat' first|exact ce0|refine ce ?_|refine ce2 ?_ ?_|(refine Or.inr (bx_eq rfl rfl ?_);(try dsimp only [C.ren,C.ren.all]);(try exact rfl))|exact SVLe.refl|refine ceb ?_)
        all_goals first | exact (show nodupB _ = true from rfl) | exact Or.inr rfl | (rfl)
  · rw [tmX_no hs,if_neg hs]
    refine does_of (k := 0) Tryz.func54 rfl Tryz.ntmps54 rfl rfl fun w F0 S0 ρ0 => ?_
    dsimp only [argT,argH]
    repeat' first|(apply n3;(exact a_new (gb := .bx _) rfl);exact rfl;refine dA ?_)|(apply p3;(first|exact pu1|exact a_mulB rfl rfl (by omega) (by omega) (by omega) (by omega)|exact a_add rfl rfl (by omega) (by omega)|exact puC);exact rfl)|refine cd ?_|(apply w3;(exact a_st_bx rfl rfl rfl rfl (fN rfl rfl) (Nat.le_of_ble_eq_true rfl) rfl);exact rfl;refine dS ?_)|((refine g_cond rfl (fun hc => ?_) (fun hc => ?_)) <;> (try simp only [dcB] at hc) <;> (try first|contradiction|(exfalso;omega)))|fail
    simp only [setRow,scC,List.map_cons,List.map_nil,List.set_cons_zero,List.set_cons_succ,Nat.zero_add,List.getElem?_cons_zero,List.getElem?_cons_succ,List.take_succ_cons,List.take_zero,List.drop_zero,List.cons_append,List.nil_append,List.drop_succ_cons,List.drop_nil,List.append_nil,List.append_eq]
    refine g_conv (t_nilB (i := 1) (k := 1) (z := 1) rfl rfl rfl (by decide)) ?_
    try dsimp only [setRow,List.map_cons,List.map_nil,scC,List.set_cons_zero,List.set_cons_succ,Nat.reduceAdd]
    refine g_conv (t_nilB (i := 1) (k := 2) (z := 1) rfl rfl rfl (by decide)) ?_
    try dsimp only [setRow,List.map_cons,List.map_nil,scC,List.set_cons_zero,List.set_cons_succ,Nat.reduceAdd]
    repeat refine cr ?_
    refine ends_id ?_
    refine endK [?_,?_] (h2 := ?_) (h3 := ?_) (nd := ?_)
    rotate_left 2
    all_goals (repeat' first|exact ce0|refine ce ?_|refine ce2 ?_ ?_|(refine Or.inr (bx_eq rfl rfl ?_);(try dsimp only [C.ren,C.ren.all]);(try exact rfl))|exact SVLe.refl|refine ceb ?_)
    all_goals first | exact (show nodupB _ = true from rfl) | exact Or.inr rfl | (rfl)
end Go.Proofs.YtnkeamihfiobdaaGreatDoor
end
section
set_option linter.unusedVariables false
set_option linter.unusedSimpArgs false
set_option maxRecDepth 100000
set_option maxHeartbeats 1000000
namespace Go.Proofs.YtnkeamihfiobdaaGreatDoor
open Go Foot Go.RowKit
abbrev cfZ (o : Option Conf) : Conf := o.getD ⟨0,[],[]⟩
theorem hd_bd {m : Mach} {l : List Int} (hw : ∀ y ∈ l,0 ≤ y ∧ y ≤ 30 * m.st) (hn : ¬ ((l.length : Int) = 0 ∨ l.headD 0 = 0)) : 1 ≤ l.headD 0 ∧ l.headD 0 ≤ 30 * m.st ∧ 0 < l.length := by
  cases l with
  | nil => exact absurd (Or.inl rfl) hn
  | cons x l =>
    have h1 := hw x (by simp)
    have h2 : ¬ x = 0 := fun e => hn (Or.inr e)
    show 1 ≤ x ∧ x ≤ 30 * m.st ∧ 0 < (x :: l).length
    exact ⟨by omega,by omega,by simp⟩
theorem hd_get {l : List Int} (h : 0 < l.length) : l[0] = l.headD 0 := by
  cases l with
  | nil => exact absurd h (by simp)
  | cons x l => rfl
theorem shA_len (q : Int) (a b : Nat) : (shA q a b).length = 4 + 2 * a + 2 * b := by
  unfold shA shF
  simp only [List.length_append,repW_len,wdN_len,List.length_cons,List.length_nil]
  omega
theorem shB_len (q : Int) (v a b : Nat) : (shB q v a b).length ≤ 4 + 2 * a + 2 * b := by
  unfold shB shF
  simp only [List.length_append,repW_len,wdN_len,List.length_cons,List.length_nil]
  split
  · simp only [List.length_cons,List.length_nil]; omega
  · simp only [List.length_cons,List.length_nil]; omega
theorem dcI_at {m : Mach} {l : List Int} {q : Nat} (hn : ¬ ((l.length : Int) = 0 ∨ l.headD 0 = 0)) (hq : (l.headD 0 - 1) / 30 = q) : dcI m l = if l = shA q (l.count (2 + 30 * (q : Int))) (l.count (4 + 30 * (q : Int))) then some ⟨q,btS (l.count (2 + 30 * (q : Int)) : Nat),btS (l.count (4 + 30 * (q : Int)) : Nat)⟩ else if ruN m q 0 = noR ∧ l = shB q 0 (l.count (12 + 30 * (q : Int))) (l.count (16 + 30 * (q : Int))) then some ⟨q,btS (l.count (12 + 30 * (q : Int)) : Nat),btS (2 * (l.count (16 + 30 * (q : Int)) : Nat) + 0)⟩ else if ruN m q 1 = noR ∧ l = shB q 1 (l.count (12 + 30 * (q : Int))) (l.count (16 + 30 * (q : Int))) then some ⟨q,btS (l.count (12 + 30 * (q : Int)) : Nat),btS (2 * (l.count (16 + 30 * (q : Int)) : Nat) + 1)⟩ else none := by
  unfold dcI
  rw [if_neg hn,hq,Int.toNat_natCast]
theorem preB204 {p : Prop} (h : p := by first | with_reducible assumption | omega | (simp only [List.length_append,List.length_cons,List.length_nil,List.length_set,List.length_replicate,List.length_take,List.length_drop,List.length_tail,List.length_dropLast,List.length_reverse] at *; omega) | exact mem_len (by assumption) (by omega) | (with_reducible refine Int.le_trans (Int.ofNat_le.2 (trimR_len _)) ?_; simp only [List.length_cons,List.length_tail]; omega) | (exact (ruAt_ok (by assumption) (by assumption) (by assumption)).2.1) | (exact (ruAt_ok (by assumption) (by assumption) (by assumption)).2.1) | (have := vMach_bd (by assumption); omega) | (simp only [List.length_append,List.length_cons,List.length_nil,repW_len,seN_len] at *; omega) | (simp only [mC_ch,mC_tu]; omega) | (have := vTag_bd (by assumption); omega) | (have := (‹Gd _ _›).le; omega) | (exact tgHalts_no (by assumption)) | (exact tgHead (by assumption) (by assumption) (by assumption)) | (exact Int.le_trans (tgStep_gd (by assumption) (by assumption) (by assumption) (by assumption)).le (by decide)) | (exact vTag_r (by assumption)) | (with_reducible refine Int.le_trans (Int.ofNat_le.2 (pushL_len _ _)) ?_; simp only [List.length_dropLast]; omega) | exact ls_at (by assumption) (by omega) | exact pt_gd (by assumption) | exact lv_at (by assumption) (by omega) | exact pt_gd (lv_at (by assumption) (by omega)) | exact (ask_ok (by assumption)).1 | exact (ask_ok (by assumption)).2.1 | exact (ask_ok (by assumption)).2.2.1 | exact (ask_ok (by assumption)).2.2.2 | trivial) : p := h
theorem shownN_ok (q a b : Nat) (h1 : q ≤ 1000) (h3 : a ≤ 1000) (h5 : b ≤ 1000) : Does Tryz.prog 108 [.one (int (q : Int)),.one (int (a : Int)),.one (int (b : Int))] [] (.one (.gv 0)) [roI (shA q a b)] := shownWord_ok q a b (by omega) (by omega) (by omega) (by omega) (by omega) (by omega)
theorem haltedN_ok (q v a b : Nat) (h1 : q ≤ 1000) (hv : v = 0 ∨ v = 1) (h3 : a ≤ 1000) (h5 : b ≤ 1000) : Does Tryz.prog 125 [.one (int (q : Int)),.one (int (v : Int)),.one (int (a : Int)),.one (int (b : Int))] [] (.one (shI (shB q v a b))) [] := haltedWord_ok q v a b (by omega) (by omega) (by omega) (by omega) (by omega) (by omega) (by omega)
theorem decodeTagWord_ok (m : Mach) (l : List Int) (g : TmOk m) (hw : ∀ y ∈ l,0 ≤ y ∧ y ≤ 30 * m.st) (hl : l.length ≤ 1000) : Does Tryz.prog 58 [.agg (maC m),.one (shI l)] [] (.tup [(true,[int (cfZ (dcI m l)).st,.gv 0,.gv 1]),(false,[int (bif (dcI m l).isSome then 0 else 9)])]) [roI (cfZ (dcI m l)).le,roI (cfZ (dcI m l)).ri] := by
  have hb := vMach_bd g.v
  rw [g.y] at hb
  have hs := g.s
  by_cases hn : (l.length : Int) = 0 ∨ l.headD 0 = 0
  · have e : dcI m l = none := by unfold dcI; rw [if_pos hn]
    rw [e]
    refine does_of (k := 0) Tryz.func58 rfl Tryz.ntmps58 rfl rfl fun w F0 S0 ρ0 => ?_
    dsimp only [argT,argH]
    repeat' first|(apply n3;exact a_new (gb := .bx _) rfl;exact rfl;refine dA ?_)|(apply p3;(first|exact pu1|exact puN|exact puC);exact rfl)|refine cdn ?_|refine g_reg (id := 0) ?_|refine g_reg (id := 1) ?_|refine g_reg (id := 2) ?_|(apply w3;(exact a_st_bx rfl rfl rfl rfl (fN rfl rfl) (Nat.le_of_ble_eq_true rfl) rfl);exact rfl;refine dS ?_)|refine o_no rfl rfl rfl rfl ?_|(apply py3;exact rfl;exact rfl;(first|exact pu1|exact puC|exact puI);exact rfl;exact rfl)|((first|refine o_gs rfl rfl (fun hc => ?_) (fun hc => ?_)|refine g_cond rfl (fun hc => ?_) (fun hc => ?_)) <;> (try simp only [dcB] at hc) <;> (try first|contradiction|(exfalso;omega)))|fail
    · simp only [setRow,scC,List.map_cons,List.map_nil,List.set_cons_zero,List.set_cons_succ,Nat.zero_add,List.getElem?_cons_zero,List.getElem?_cons_succ,List.take_succ_cons,List.take_zero,List.drop_zero,List.cons_append,List.nil_append,List.drop_succ_cons,List.drop_nil,List.append_nil,List.append_eq]
      refine g_conv (t_nilB (i := 1) (k := 1) (z := 1) rfl rfl rfl (by decide)) ?_
      try dsimp only [setRow,List.map_cons,List.map_nil,scC,List.set_cons_zero,List.set_cons_succ,Nat.reduceAdd]
      refine g_conv (t_nilB (i := 1) (k := 2) (z := 1) rfl rfl rfl (by decide)) ?_
      try dsimp only [setRow,List.map_cons,List.map_nil,scC,List.set_cons_zero,List.set_cons_succ,Nat.reduceAdd]
      repeat refine cr ?_
      refine ends_id ?_
      refine endK [?_,?_] (h2 := ?_) (h3 := ?_) (nd := ?_)
      rotate_left 2
      all_goals (repeat' first|exact ce0|refine ce ?_|refine ce2 ?_ ?_|(refine Or.inr (bx_eq rfl rfl ?_);(try dsimp only [C.ren,C.ren.all]);(try exact rfl))|exact SVLe.refl|refine ceb ?_)
      all_goals first | exact (show nodupB _ = true from rfl) | exact Or.inr rfl | (rfl)
    · simp only [setRow,scC,List.map_cons,List.map_nil,List.set_cons_zero,List.set_cons_succ,Nat.zero_add,List.getElem?_cons_zero,List.getElem?_cons_succ,List.take_succ_cons,List.take_zero,List.drop_zero,List.cons_append,List.nil_append,List.drop_succ_cons,List.drop_nil,List.append_nil,List.append_eq]
      refine g_conv (t_nilB (i := 1) (k := 1) (z := 1) rfl rfl rfl (by decide)) ?_
      try dsimp only [setRow,List.map_cons,List.map_nil,scC,List.set_cons_zero,List.set_cons_succ,Nat.reduceAdd]
      refine g_conv (t_nilB (i := 1) (k := 2) (z := 1) rfl rfl rfl (by decide)) ?_
      try dsimp only [setRow,List.map_cons,List.map_nil,scC,List.set_cons_zero,List.set_cons_succ,Nat.reduceAdd]
      repeat refine cr ?_
      refine ends_id ?_
      refine endK [?_,?_] (h2 := ?_) (h3 := ?_) (nd := ?_)
      rotate_left 2
      all_goals (repeat' first|exact ce0|refine ce ?_|refine ce2 ?_ ?_|(refine Or.inr (bx_eq rfl rfl ?_);(try dsimp only [C.ren,C.ren.all]);(try exact rfl))|exact SVLe.refl|refine ceb ?_)
      all_goals first | exact (show nodupB _ = true from rfl) | exact Or.inr rfl | (rfl)
    · exfalso
      rcases hn with h | h
      · contradiction
      · rw [← hd_get (by omega)] at h
        contradiction
  · have hh := hd_bd hw hn
    have hlt : Int.toNat 0 < l.length := hh.2.2
    have hg : l[Int.toNat 0]'hlt = l.headD 0 := hd_get hh.2.2
    have hg1 : 1 ≤ l[Int.toNat 0]'hlt := by rw [hg]; exact hh.1
    have hg2 : l[Int.toNat 0]'hlt ≤ 30 * m.st := by rw [hg]; exact hh.2.1
    obtain ⟨q,hq⟩ : ∃ q : Nat,(l.headD 0 - 1) / 30 = q := ⟨((l.headD 0 - 1) / 30).toNat,by omega⟩
    have hqs : (q : Int) < m.st := by omega
    have la : ltN [97] (q : Int) = 2 + 30 * q := by rw [ltN_i 1 (by decide)]; omega
    have lb : ltN [98] (q : Int) = 4 + 30 * q := by rw [ltN_i 3 (by decide)]; omega
    have lp : ltN [112,48] (q : Int) = 12 + 30 * q := by rw [ltN_i 11 (by decide)]; omega
    have lr : ltN [114,48] (q : Int) = 16 + 30 * q := by rw [ltN_i 15 (by decide)]; omega
    have e := dcI_at (m := m) hn hq
    have bx1 : l.count (2 + 30 * (q : Int)) ≤ 1000 := Nat.le_trans List.count_le_length hl
    have bx2 : l.count (4 + 30 * (q : Int)) ≤ 1000 := Nat.le_trans List.count_le_length hl
    have bx3 : l.count (12 + 30 * (q : Int)) ≤ 1000 := Nat.le_trans List.count_le_length hl
    have bx4 : l.count (16 + 30 * (q : Int)) ≤ 1000 := Nat.le_trans List.count_le_length hl
    generalize hn1 : l.count (2 + 30 * (q : Int)) = x1 at *
    generalize hn2 : l.count (4 + 30 * (q : Int)) = x2 at *
    generalize hn3 : l.count (12 + 30 * (q : Int)) = x3 at *
    generalize hn4 : l.count (16 + 30 * (q : Int)) = x4 at *
    have sA := shA_len (q : Int) x1 x2
    have sB := fun v => shB_len (q : Int) v x3 x4
    by_cases hA : l = shA q x1 x2
    · have hA' : eqI l (shA q x1 x2) = true := by unfold eqI; exact decide_eq_true hA
      have e1 : dcI m l = some ⟨q,btS x1,btS x2⟩ := by rw [e,if_pos hA]
      rw [e1]
      refine does_of (k := 0) Tryz.func58 rfl Tryz.ntmps58 rfl rfl fun w F0 S0 ρ0 => ?_
      dsimp only [argT,argH]
      repeat' first|(apply n3;exact a_new (gb := .bx _) rfl;exact rfl;refine dA ?_)|(apply p3;(first|exact pu1|exact puN|exact puC);exact rfl)|refine cdn ?_|refine g_reg (id := 0) ?_|refine g_reg (id := 1) ?_|(apply py3;exact rfl;exact rfl;(first|exact pu1|exact puC|exact puI);exact rfl;exact rfl)|((first|refine o_gs rfl rfl (fun hc => ?_) (fun hc => ?_)|refine g_cond rfl (fun hc => ?_) (fun hc => ?_)) <;> (try simp only [dcB] at hc) <;> (try first|contradiction|(exfalso;omega)))|fail
      repeat' first|(apply p3;(first|exact pu1|exact a_sub rfl rfl (by omega) (by omega)|exact a_quo rfl rfl (by omega) (by omega) (by omega)|exact puI);exact rfl)|refine cdn ?_|refine g_reg (id := 3) ?_|fail
      simp only [hg,hq]
      repeat' first|(apply p3;(exact pu1);exact rfl)|refine cdn ?_|refine g_reg (id := 4) ?_|(apply c4 0;exact callK1 (θ := []) (hD := (letterOf_ok _ _ preB204 preB204));exact rfl;exact rfl;exact rfl;refine dM ?_)|(apply c4 0;exact callK1 (θ := []) (hD := (countOf_ok _ _ preB204));exact rfl;exact rfl;exact rfl;refine dM ?_)|fail
      simp only [la,lb,hn1,hn2]
      repeat' first|(apply p3;(exact pu1);exact rfl)|refine cdn ?_|refine g_reg (id := 5) ?_|(apply c4 1;exact callK1 (θ := []) (hD := (shownN_ok _ _ _ preB204 preB204 preB204));exact rfl;exact rfl;exact rfl;refine dM ?_)|(apply c4 0;exact callK1 (θ := []) (hD := (sEqual_ok _ _ preB204 preB204));exact rfl;exact rfl;exact rfl;refine dM ?_)|((refine g_cond rfl (fun hc => ?_) (fun hc => ?_)) <;> (try simp only [dcB] at hc) <;> (try first|contradiction|(exfalso;omega)))|fail
      · simp only [Option.getD_some,Option.isSome_some,cond_true]
        repeat' first|(apply p3;(exact pu1);exact rfl)|refine cd ?_|(apply w3;(exact a_st_bx rfl rfl rfl rfl (fN rfl rfl) (Nat.le_of_ble_eq_true rfl) rfl);exact rfl;refine dS ?_)|(apply c4 2;exact callK1 (θ := []) (hD := (configOfBits_ok _ _ _ preB204 preB204 preB204 preB204));exact rfl;exact rfl;exact rfl;refine dM ?_)|fail
        repeat refine cr ?_
        refine ends_id ?_
        refine endK [?_,?_] (h2 := ?_) (h3 := ?_) (nd := ?_)
        rotate_left 2
        all_goals (repeat' first|exact ce0|refine ce ?_|refine ce2 ?_ ?_|(refine Or.inr (bx_eq rfl rfl ?_);(try dsimp only [C.ren,C.ren.all]);(try exact rfl))|exact SVLe.refl|refine ceb ?_)
        all_goals first | exact (show nodupB _ = true from rfl) | exact Or.inr rfl | (rfl)
      · rw [hA'] at hc
        cases hc
    · have hA' : eqI l (shA q x1 x2) = false := by unfold eqI; exact decide_eq_false hA
      rw [if_neg hA] at e
      refine does_of (k := 0) Tryz.func58 rfl Tryz.ntmps58 rfl rfl fun w F0 S0 ρ0 => ?_
      dsimp only [argT,argH]
      repeat' first|(apply n3;exact a_new (gb := .bx _) rfl;exact rfl;refine dA ?_)|(apply p3;(first|exact pu1|exact puN|exact puC);exact rfl)|refine cdn ?_|refine g_reg (id := 0) ?_|refine g_reg (id := 1) ?_|(apply py3;exact rfl;exact rfl;(first|exact pu1|exact puC|exact puI);exact rfl;exact rfl)|((first|refine o_gs rfl rfl (fun hc => ?_) (fun hc => ?_)|refine g_cond rfl (fun hc => ?_) (fun hc => ?_)) <;> (try simp only [dcB] at hc) <;> (try first|contradiction|(exfalso;omega)))|fail
      repeat' first|(apply p3;(first|exact pu1|exact a_sub rfl rfl (by omega) (by omega)|exact a_quo rfl rfl (by omega) (by omega) (by omega)|exact puI);exact rfl)|refine cdn ?_|refine g_reg (id := 3) ?_|fail
      simp only [hg,hq]
      repeat' first|(apply p3;(exact pu1);exact rfl)|refine cdn ?_|refine g_reg (id := 4) ?_|(apply c4 0;exact callK1 (θ := []) (hD := (letterOf_ok _ _ preB204 preB204));exact rfl;exact rfl;exact rfl;refine dM ?_)|(apply c4 0;exact callK1 (θ := []) (hD := (countOf_ok _ _ preB204));exact rfl;exact rfl;exact rfl;refine dM ?_)|fail
      simp only [la,lb,hn1,hn2]
      repeat' first|(apply p3;(exact pu1);exact rfl)|refine cdn ?_|refine g_reg (id := 5) ?_|(apply c4 1;exact callK1 (θ := []) (hD := (shownN_ok _ _ _ preB204 preB204 preB204));exact rfl;exact rfl;exact rfl;refine dM ?_)|(apply c4 0;exact callK1 (θ := []) (hD := (sEqual_ok _ _ preB204 preB204));exact rfl;exact rfl;exact rfl;refine dM ?_)|((refine g_cond rfl (fun hc => ?_) (fun hc => ?_)) <;> (try simp only [dcB] at hc) <;> (try first|contradiction|(exfalso;omega)))|fail
      · rw [hA'] at hc
        cases hc
      · skip
        repeat' first|(apply p3;(exact pu1);exact rfl)|refine cdn ?_|refine g_reg (id := 7) ?_|(apply c4 0;exact callK1 (θ := []) (hD := (letterOf_ok _ _ preB204 preB204));exact rfl;exact rfl;exact rfl;refine dM ?_)|(apply c4 0;exact callK1 (θ := []) (hD := (countOf_ok _ _ preB204));exact rfl;exact rfl;exact rfl;refine dM ?_)|fail
        simp only [lp,lr,hn3,hn4]
        repeat' first|(apply p3;(exact pu1);exact rfl)|refine cdn ?_|refine g_reg (id := 8) ?_|fail
        refine g_loop_id ?_
        refine loopK [1,2,4,5,6,7,9] [] (fun v : Int => 0 ≤ v ∧ v ≤ 2 ∧ (1 ≤ v → ¬ (ruN m q 0 = noR ∧ l = shB q 0 x3 x4)) ∧ (2 ≤ v → ¬ (ruN m q 1 = noR ∧ l = shB q 1 x3 x4))) (fun v => [(52,.one (int v))]) (fun _ => []) (fun v => (2 - v).toNat) (0 : Int) [0,1,2] (hI := ?_) (hr := ?_)
        · exact ⟨by simp,by simp,fun h => absurd h (by simp),fun h => absurd h (by simp)⟩
        · rintro v ⟨j0,j1,j2,j3⟩
          dsimp only [List.cons_append,List.nil_append] at *
          skip
          repeat' first|(apply p3;(first|exact pu1|exact puC);exact rfl)|refine cdn ?_|refine g_reg (id := 9) ?_|refine g_reg (id := 10) ?_|refine g_reg (id := 14) ?_|(apply w3;(exact a_st_bx rfl rfl rfl rfl (fN rfl rfl) (Nat.le_of_ble_eq_true rfl) rfl);exact rfl;refine dS ?_)|((refine g_cond rfl (fun hc => ?_) (fun hc => ?_)) <;> (try simp only [dcB] at hc) <;> (try first|contradiction|(exfalso;omega)))|fail
          · obtain ⟨u,hu⟩ : ∃ u : Nat,v = u := ⟨v.toNat,by omega⟩
            subst hu
            have hR := ruN_get (m := m) (q := (q : Int)) (s := (u : Int)) (by omega) (by omega) (by omega)
            simp only [Int.toNat_natCast] at hR
            have hu2 : u = 0 ∨ u = 1 := by omega
            have sBu := sB u
            repeat' first|(apply p3;(first|exact pu1|exact a_mulB rfl rfl (by omega) (by omega) (by omega) (by omega)|exact a_add rfl rfl (by omega) (by omega)|exact puI);exact rfl)|refine cdn ?_|refine g_reg (id := 11) ?_|(apply c4 0;exact callK1 (θ := []) (hD := (isRule_ok _));exact rfl;exact rfl;exact rfl;refine dM ?_)|refine o_no rfl rfl rfl rfl ?_|(apply py3;exact rfl;exact rfl;(exact pu1);exact rfl;exact rfl)|(apply cy4 0;exact rfl;exact rfl;exact callK0 (θ := []) (hD := (haltedN_ok _ _ _ _ preB204 preB204 preB204 preB204));exact rfl;exact rfl;exact rfl;exact rfl;refine dM ?_)|(apply cy4 0;exact rfl;exact rfl;exact callK1 (θ := []) (hD := (sEqual_ok _ _ preB204 preB204));exact rfl;exact rfl;exact rfl;exact rfl;refine dM ?_)|((first|refine o_gs rfl rfl (fun hc => ?_) (fun hc => ?_)|refine g_cond rfl (fun hc => ?_) (fun hc => ?_)) <;> (try simp only [dcB] at hc) <;> (try first|contradiction|(exfalso;omega)))|fail
            · have hr0 : ruN m q u = noR := by rw [← hR]; assumption
              have hE : l = shB q u x3 x4 := by unfold eqI at hc; exact of_decide_eq_true hc
              have e1 : dcI m l = some ⟨q,btS x3,btS (2 * (x4 : Int) + (u : Int))⟩ := by
                rcases hu2 with h | h
                · subst h
                  rw [e,if_pos ⟨hr0,hE⟩]
                  rfl
                · subst h
                  rw [e,if_neg (j2 (by omega)),if_pos ⟨hr0,hE⟩]
                  rfl
              rw [e1]
              simp only [Option.getD_some,Option.isSome_some,cond_true]
              repeat' first|(apply p3;(first|exact pu1|exact a_mulB rfl rfl (by omega) (by omega) (by omega) (by omega)|exact a_add rfl rfl (by omega) (by omega));exact rfl)|refine cd ?_|(apply w3;(exact a_st_bx rfl rfl rfl rfl (fN rfl rfl) (Nat.le_of_ble_eq_true rfl) rfl);exact rfl;refine dS ?_)|(apply c4 2;exact callK1 (θ := []) (hD := (configOfBits_ok _ _ _ preB204 preB204 preB204 preB204));exact rfl;exact rfl;exact rfl;refine dM ?_)|fail
              repeat refine cr ?_
              refine ends_id ?_
              refine endK [?_,?_] (h2 := ?_) (h3 := ?_) (nd := ?_)
              rotate_left 2
              all_goals (repeat' first|exact ce0|refine ce ?_|refine ce2 ?_ ?_|(refine Or.inr (bx_eq rfl rfl ?_);(try dsimp only [C.ren,C.ren.all]);(try exact rfl))|exact SVLe.refl|refine ceb ?_)
              all_goals first | exact (show nodupB _ = true from rfl) | exact Or.inr rfl | (rfl)
            · have hE : ¬ l = shB q u x3 x4 := by unfold eqI at hc; exact of_decide_eq_false hc
              repeat' first|(apply p3;(first|exact pu1|exact a_add rfl rfl (by omega) (by omega));exact rfl)|refine cdn ?_|refine g_reg (id := 13) ?_|fail
              refine q_again ((u : Int) + 1) [0,1,2] (by exact stk) ?_ ?_
              · refine ⟨by omega,by omega,fun _ hD => ?_,fun h hD => ?_⟩
                · rcases hu2 with h | h
                  · subst h; exact hE hD.2
                  · subst h; exact j2 (by omega) hD
                · have : u = 1 := by omega
                  subst this
                  exact hE hD.2
              · omega
            · have hr0 : ¬ ruN m q u = noR := by rw [← hR]; assumption
              repeat' first|(apply p3;(first|exact pu1|exact a_add rfl rfl (by omega) (by omega));exact rfl)|refine cdn ?_|refine g_reg (id := 13) ?_|fail
              refine q_again ((u : Int) + 1) [0,1,2] (by exact stk) ?_ ?_
              · refine ⟨by omega,by omega,fun _ hD => ?_,fun h hD => ?_⟩
                · rcases hu2 with h | h
                  · subst h; exact hr0 hD.1
                  · subst h; exact j2 (by omega) hD
                · have : u = 1 := by omega
                  subst this
                  exact hr0 hD.1
              · omega
          · rw [if_neg (j2 (by omega)),if_neg (j3 (by omega))] at e
            rw [e]
            skip
            simp only [setRow,scC,List.map_cons,List.map_nil,List.set_cons_zero,List.set_cons_succ,Nat.zero_add,List.getElem?_cons_zero,List.getElem?_cons_succ,List.take_succ_cons,List.take_zero,List.drop_zero,List.cons_append,List.nil_append,List.drop_succ_cons,List.drop_nil,List.append_nil,List.append_eq]
            refine g_conv (t_nilB (i := 1) (k := 1) (z := 1) rfl rfl rfl (by decide)) ?_
            try dsimp only [setRow,List.map_cons,List.map_nil,scC,List.set_cons_zero,List.set_cons_succ,Nat.reduceAdd]
            refine g_conv (t_nilB (i := 1) (k := 2) (z := 1) rfl rfl rfl (by decide)) ?_
            try dsimp only [setRow,List.map_cons,List.map_nil,scC,List.set_cons_zero,List.set_cons_succ,Nat.reduceAdd]
            repeat refine cr ?_
            refine ends_id ?_
            refine endK [?_,?_] (h2 := ?_) (h3 := ?_) (nd := ?_)
            rotate_left 2
            all_goals (repeat' first|exact ce0|refine ce ?_|refine ce2 ?_ ?_|(refine Or.inr (bx_eq rfl rfl ?_);(try dsimp only [C.ren,C.ren.all]);(try exact rfl))|exact SVLe.refl|refine ceb ?_)
            all_goals first | exact (show nodupB _ = true from rfl) | exact Or.inr rfl | (rfl)
end Go.Proofs.YtnkeamihfiobdaaGreatDoor
end
section
set_option linter.unusedVariables false
set_option linter.unusedSimpArgs false
set_option maxRecDepth 100000
set_option maxHeartbeats 1000000
namespace Go.Proofs.YtnkeamihfiobdaaGreatDoor
open Go Foot Go.RowKit
end Go.Proofs.YtnkeamihfiobdaaGreatDoor
end
section
set_option linter.unusedVariables false
set_option linter.unusedSimpArgs false
set_option maxRecDepth 100000
set_option maxHeartbeats 1000000
namespace Go.Proofs.YtnkeamihfiobdaaGreatDoor
open Go Foot Go.RowKit
@[irreducible] def enO (m : Mach) (c : Conf) : Option (List Int) := if m.st ≤ 6 then (bif nmB c.le && nmB c.ri then (if 4 + 2 * (nmV c.le + nmV c.ri) ≤ 1000 then some (shA c.st (nmV c.le).toNat (nmV c.ri).toNat) else none) else none) else none
theorem vConf_bits {m : Mach} {c : Conf} (hy : m.sy = 2) (h : vConf m c = true) : (∀ x ∈ c.le,0 ≤ x ∧ x ≤ 1) ∧ (∀ x ∈ c.ri,0 ≤ x ∧ x ≤ 1) ∧ (c.le.length : Int) ≤ 200 ∧ (c.ri.length : Int) ≤ 200 ∧ 0 ≤ c.st ∧ c.st ≤ m.st - 1 := by
  obtain ⟨h1,h2,h3⟩ := vConf_bd h
  have a := vSide_bd h2
  have b := vSide_bd h3
  exact ⟨fun x hx => by have := a.2.1 x hx; omega,fun x hx => by have := b.2.1 x hx; omega,a.1,b.1,h1.1,h1.2⟩
theorem nmV_bd {l : List Int} (hb : ∀ x ∈ l,0 ≤ x ∧ x ≤ 1) : 0 ≤ nmV l ∧ nmV l ≤ 1000000000000 := by
  cases h : nmO l with
  | none => rw [nmV_none h]; decide
  | some n => rw [nmV_some h]; exact nmO_bd hb h
theorem preB206 {p : Prop} (h : p := by first | with_reducible assumption | omega | (simp only [List.length_append,List.length_cons,List.length_nil,List.length_set,List.length_replicate,List.length_take,List.length_drop,List.length_tail,List.length_dropLast,List.length_reverse] at *; omega) | exact mem_len (by assumption) (by omega) | (with_reducible refine Int.le_trans (Int.ofNat_le.2 (trimR_len _)) ?_; simp only [List.length_cons,List.length_tail]; omega) | (exact (ruAt_ok (by assumption) (by assumption) (by assumption)).2.1) | (exact (ruAt_ok (by assumption) (by assumption) (by assumption)).2.1) | (have := vMach_bd (by assumption); omega) | (simp only [List.length_append,List.length_cons,List.length_nil,repW_len,seN_len] at *; omega) | (simp only [mC_ch,mC_tu]; omega) | (have := vTag_bd (by assumption); omega) | (have := (‹Gd _ _›).le; omega) | (exact tgHalts_no (by assumption)) | (exact tgHead (by assumption) (by assumption) (by assumption)) | (exact Int.le_trans (tgStep_gd (by assumption) (by assumption) (by assumption) (by assumption)).le (by decide)) | (exact vTag_r (by assumption)) | (with_reducible refine Int.le_trans (Int.ofNat_le.2 (pushL_len _ _)) ?_; simp only [List.length_dropLast]; omega) | exact ls_at (by assumption) (by omega) | exact pt_gd (by assumption) | exact lv_at (by assumption) (by omega) | exact pt_gd (lv_at (by assumption) (by omega)) | exact (ask_ok (by assumption)).1 | exact (ask_ok (by assumption)).2.1 | exact (ask_ok (by assumption)).2.2.1 | exact (ask_ok (by assumption)).2.2.2 | trivial) : p := h
theorem tagWordOf_ok (m : Mach) (c : Conf) (hv : vMach m = true) (hy : m.sy = 2) (hc : vConf m c = true) : Does Tryz.prog 46 [.agg (maC m),.agg (coC c)] [] (.tup [(false,[.gv 0]),(false,[int (bif (enO m c).isSome then 0 else 5)])]) [roI ((enO m c).getD [])] := by
  obtain ⟨b1,b2,b3,b4,b5,b6⟩ := vConf_bits hy hc
  have v1 := nmV_bd b1
  have v2 := nmV_bd b2
  have hb := vMach_bd hv
  have e : enO m c = if m.st ≤ 6 then (bif nmB c.le && nmB c.ri then (if 4 + 2 * (nmV c.le + nmV c.ri) ≤ 1000 then some (shA c.st (nmV c.le).toNat (nmV c.ri).toNat) else none) else none) else none := by unfold enO; rfl
  by_cases hs : m.st ≤ 6
  · rw [if_pos hs] at e
    cases hn : nmB c.le && nmB c.ri with
    | false =>
      rw [hn,cond_false] at e
      rw [e]
      refine does_of (k := 0) Tryz.func46 rfl Tryz.ntmps46 rfl rfl fun w F0 S0 ρ0 => ?_
      dsimp only [argT,argH]
      repeat' first|(apply n3;exact a_nilO eI rfl;exact rfl)|(apply n3;exact a_new (gb := .bx _) rfl;exact rfl;refine dA ?_)|(apply p3;(exact pu1);exact rfl)|refine cdn ?_|refine g_reg (id := 0) ?_|refine g_reg (id := 1) ?_|(apply w3;exact a_st_bx rfl rfl rfl rfl (fN rfl rfl) (Nat.le_of_ble_eq_true rfl) rfl;exact rfl;refine dS ?_)|(apply c4 2;exact callK0 (θ := []) (hD := (tagOfMachine_ok _ preB206 preB206));exact rfl;exact rfl;exact rfl;refine dM ?_)|fail
      simp only [if_pos hs]
      repeat' first|(apply p3;(first|exact pu1|exact a_ne rfl rfl);exact rfl)|refine cdn ?_|refine g_reg (id := 2) ?_|refine g_reg (id := 4) ?_|(apply c4 0;exact callK1 (θ := []) (hD := (numbersOf_ok _ preB206 preB206 preB206 preB206));exact rfl;exact rfl;exact rfl;refine dM ?_)|fail
      simp only [hn,cond_false,Option.isSome_none,Option.getD_none]
      repeat' first|(apply n3;exact a_nilO eI rfl;exact rfl)|(apply p3;(first|exact pu1|exact a_ne rfl rfl);exact rfl)|refine cd ?_|refine o_no rfl rfl rfl rfl ?_|fail
      repeat refine cr ?_
      refine ends_id ?_
      refine endK [?_] (h2 := ?_) (h3 := ?_) (nd := ?_)
      rotate_left 1
      all_goals (repeat' first|exact ce0|refine ce ?_|refine ce2 ?_ ?_|(refine Or.inr (bx_eq rfl rfl ?_);(try dsimp only [C.ren,C.ren.all]);(try exact rfl))|exact SVLe.refl|refine ceb ?_)
      all_goals first | exact (show nodupB _ = true from rfl) | exact Or.inr rfl | (rfl)
    | true =>
      rw [hn,cond_true] at e
      by_cases hl : 4 + 2 * (nmV c.le + nmV c.ri) ≤ 1000
      · rw [if_pos hl] at e
        rw [e]
        refine does_of (k := 0) Tryz.func46 rfl Tryz.ntmps46 rfl rfl fun w F0 S0 ρ0 => ?_
        dsimp only [argT,argH]
        repeat' first|(apply n3;exact a_nilO eI rfl;exact rfl)|(apply n3;exact a_new (gb := .bx _) rfl;exact rfl;refine dA ?_)|(apply p3;(exact pu1);exact rfl)|refine cdn ?_|refine g_reg (id := 0) ?_|refine g_reg (id := 1) ?_|(apply w3;exact a_st_bx rfl rfl rfl rfl (fN rfl rfl) (Nat.le_of_ble_eq_true rfl) rfl;exact rfl;refine dS ?_)|(apply c4 2;exact callK0 (θ := []) (hD := (tagOfMachine_ok _ preB206 preB206));exact rfl;exact rfl;exact rfl;refine dM ?_)|fail
        simp only [if_pos hs]
        repeat' first|(apply p3;(first|exact pu1|exact a_ne rfl rfl);exact rfl)|refine cdn ?_|refine g_reg (id := 2) ?_|refine g_reg (id := 4) ?_|(apply c4 0;exact callK1 (θ := []) (hD := (numbersOf_ok _ preB206 preB206 preB206 preB206));exact rfl;exact rfl;exact rfl;refine dM ?_)|fail
        simp only [hn,cond_true,Option.isSome_some,Option.getD_some]
        repeat' first|(apply p3;(first|exact pu1|exact a_ne rfl rfl);exact rfl)|refine cd ?_|(apply c4 1;exact callK1 (θ := []) (hD := (shownWord_ok c.st (nmV c.le) (nmV c.ri) (by omega) (by omega) (by omega) (by omega) (by omega) (by omega)));exact rfl;exact rfl;exact rfl;refine dM ?_)|(apply py3;exact rfl;exact rfl;(first|exact pu1|exact a_add rfl rfl (by omega) (by omega)|exact a_mulB rfl rfl (by omega) (by omega) (by omega) (by omega)|exact puC);exact rfl;exact rfl)|((refine g_cond rfl (fun hc => ?_) (fun hc => ?_)) <;> (try simp only [dcB] at hc) <;> (try first|contradiction|(exfalso;omega)))|fail
        repeat refine cr ?_
        refine ends_id ?_
        refine endK [?_] (h2 := ?_) (h3 := ?_) (nd := ?_)
        rotate_left 1
        all_goals (repeat' first|exact ce0|refine ce ?_|refine ce2 ?_ ?_|(refine Or.inr (bx_eq rfl rfl ?_);(try dsimp only [C.ren,C.ren.all]);(try exact rfl))|exact SVLe.refl|refine ceb ?_)
        all_goals first | exact (show nodupB _ = true from rfl) | exact Or.inr rfl | (rfl)
      · rw [if_neg hl] at e
        rw [e]
        refine does_of (k := 0) Tryz.func46 rfl Tryz.ntmps46 rfl rfl fun w F0 S0 ρ0 => ?_
        dsimp only [argT,argH]
        repeat' first|(apply n3;exact a_nilO eI rfl;exact rfl)|(apply n3;exact a_new (gb := .bx _) rfl;exact rfl;refine dA ?_)|(apply p3;(exact pu1);exact rfl)|refine cdn ?_|refine g_reg (id := 0) ?_|refine g_reg (id := 1) ?_|(apply w3;exact a_st_bx rfl rfl rfl rfl (fN rfl rfl) (Nat.le_of_ble_eq_true rfl) rfl;exact rfl;refine dS ?_)|(apply c4 2;exact callK0 (θ := []) (hD := (tagOfMachine_ok _ preB206 preB206));exact rfl;exact rfl;exact rfl;refine dM ?_)|fail
        simp only [if_pos hs]
        repeat' first|(apply p3;(first|exact pu1|exact a_ne rfl rfl);exact rfl)|refine cdn ?_|refine g_reg (id := 2) ?_|refine g_reg (id := 4) ?_|(apply c4 0;exact callK1 (θ := []) (hD := (numbersOf_ok _ preB206 preB206 preB206 preB206));exact rfl;exact rfl;exact rfl;refine dM ?_)|fail
        simp only [hn,cond_true,cond_false,Option.isSome_none,Option.getD_none]
        repeat' first|(apply n3;exact a_nilO eI rfl;exact rfl)|(apply p3;(first|exact pu1|exact a_ne rfl rfl);exact rfl)|refine cd ?_|(apply py3;exact rfl;exact rfl;(first|exact pu1|exact a_add rfl rfl (by omega) (by omega)|exact a_mul rfl rfl (by first|omega|assumption) (by first|omega|assumption)|exact puC);exact rfl;exact rfl)|((refine g_cond rfl (fun hc => ?_) (fun hc => ?_)) <;> (try simp only [dcB] at hc) <;> (try first|contradiction|(exfalso;omega)))|fail
        repeat refine cr ?_
        refine ends_id ?_
        refine endK [?_] (h2 := ?_) (h3 := ?_) (nd := ?_)
        rotate_left 1
        all_goals (repeat' first|exact ce0|refine ce ?_|refine ce2 ?_ ?_|(refine Or.inr (bx_eq rfl rfl ?_);(try dsimp only [C.ren,C.ren.all]);(try exact rfl))|exact SVLe.refl|refine ceb ?_)
        all_goals first | exact (show nodupB _ = true from rfl) | exact Or.inr rfl | (rfl)
  · rw [if_neg hs] at e
    rw [e]
    refine does_of (k := 0) Tryz.func46 rfl Tryz.ntmps46 rfl rfl fun w F0 S0 ρ0 => ?_
    dsimp only [argT,argH]
    repeat' first|(apply n3;exact a_nilO eI rfl;exact rfl)|(apply n3;exact a_new (gb := .bx _) rfl;exact rfl;refine dA ?_)|(apply p3;(exact pu1);exact rfl)|refine cdn ?_|refine g_reg (id := 0) ?_|refine g_reg (id := 1) ?_|(apply w3;exact a_st_bx rfl rfl rfl rfl (fN rfl rfl) (Nat.le_of_ble_eq_true rfl) rfl;exact rfl;refine dS ?_)|(apply c4 2;exact callK0 (θ := []) (hD := (tagOfMachine_ok _ preB206 preB206));exact rfl;exact rfl;exact rfl;refine dM ?_)|fail
    simp only [if_neg hs,Option.isSome_none,Option.getD_none,cond_false]
    repeat' first|(apply n3;exact a_nilO eI rfl;exact rfl)|(apply p3;(first|exact pu1|exact a_ne rfl rfl);exact rfl)|refine cd ?_|fail
    repeat refine cr ?_
    refine ends_id ?_
    refine endK [?_] (h2 := ?_) (h3 := ?_) (nd := ?_)
    rotate_left 1
    all_goals (repeat' first|exact ce0|refine ce ?_|refine ce2 ?_ ?_|(refine Or.inr (bx_eq rfl rfl ?_);(try dsimp only [C.ren,C.ren.all]);(try exact rfl))|exact SVLe.refl|refine ceb ?_)
    all_goals first | exact (show nodupB _ = true from rfl) | exact Or.inr rfl | (rfl)
theorem TagWordOf_ok (m : Mach) (c : Conf) (hm : (m.ru.length : Int) ≤ 16777216) (hx : (c.le.length : Int) ≤ 16777216) (hy : (c.ri.length : Int) ≤ 16777216) (hv : vMach m = true) (hs : m.sy = 2) (hc : vConf m c = true) : Does Tryz.prog 53 [.agg (maC m),.agg (coC c)] [] (.tup [(false,[.gv 0]),(false,[int (bif (enO m c).isSome then 0 else 5)])]) [roI ((enO m c).getD [])] := by
  have hvc : (vMach m && vConf m c) = true := by rw [hv,hc]; rfl
  refine does_of (k := 0) Tryz.func53 rfl Tryz.ntmps53 rfl rfl fun w F0 S0 ρ0 => ?_
  dsimp only [argT,argH]
  repeat' first|(apply n3;exact a_nilO eI rfl;exact rfl)|(apply n3;exact a_new (gb := .bx _) rfl;exact rfl;refine dA ?_)|(apply p3;exact a_pure (sv := .one _) rfl;exact rfl)|refine cdn ?_|refine g_reg (id := 0) ?_|(apply g_drN (id := 1) okM [[],[],[],[1,2],[0,1,2,3],[0,1,2,3,4]] [([],[]),([],[]),([],[]),([],[]),([],[]),([],[])] 0;(focus (refine dp 0 0 [8,9,10] [] puL ?_;refine dp 1 0 [7,9] [] puL ?_;refine dp 2 0 [7,8] [] puL ?_;refine dp 3 3 [7] [] (callD1 (n := _) 0 (θ := []) (hD := (ValidConfig_ok _ _ preB206 preB206 preB206))) ?_;refine dp 4 15 [] [] (callD1 (n := _) 0 (θ := []) (hD := (binaryCode_ok _ _))) ?_;refine dp 5 31 [] [] pu1 ?_;(refine d_nil ?_;refine dN ?_)));any_goals kernel_rfl)|fail
  simp only [hvc,cond_true,if_pos hs]
  repeat' first|(apply p3;(first|exact pu1|exact a_ne rfl rfl);exact rfl)|refine cd ?_|(apply c4 1;exact callK1 (θ := []) (hD := (tagWordOf_ok _ _ preB206 preB206 preB206));exact rfl;exact rfl;exact rfl;refine dM ?_)|fail
  repeat refine cr ?_
  refine ends_id ?_
  refine endK [?_] (h2 := ?_) (h3 := ?_) (nd := ?_)
  rotate_left 1
  all_goals (repeat' first|exact ce0|refine ce ?_|refine ce2 ?_ ?_|(refine Or.inr (bx_eq rfl rfl ?_);(try dsimp only [C.ren,C.ren.all]);(try exact rfl))|exact SVLe.refl|refine ceb ?_)
  all_goals first | exact (show nodupB _ = true from rfl) | exact Or.inr rfl | (rfl)
end Go.Proofs.YtnkeamihfiobdaaGreatDoor
end
section
set_option linter.unusedVariables false
set_option linter.unusedSimpArgs false
set_option maxRecDepth 100000
set_option maxHeartbeats 4000000
namespace Go.Proofs.YtnkeamihfiobdaaGreatDoor
open Go Foot
end Go.Proofs.YtnkeamihfiobdaaGreatDoor
end
section
set_option linter.unusedVariables false
set_option linter.unusedSimpArgs false
set_option maxRecDepth 100000
set_option maxHeartbeats 1000000
namespace Go.Proofs.YtnkeamihfiobdaaGreatDoor
open Go Foot
end Go.Proofs.YtnkeamihfiobdaaGreatDoor
end
section
set_option linter.unusedVariables false
set_option linter.unusedSimpArgs false
set_option maxRecDepth 100000
set_option maxHeartbeats 1000000
namespace Go.Proofs.YtnkeamihfiobdaaGreatDoor
open Go Foot
end Go.Proofs.YtnkeamihfiobdaaGreatDoor
end
section
set_option linter.unusedVariables false
set_option linter.unusedSimpArgs false
set_option maxRecDepth 100000
set_option maxHeartbeats 1000000
namespace Go.Proofs.YtnkeamihfiobdaaGreatDoor
open Go Foot Go.RowKit
theorem en_gd {m : Mach} {c : Conf} (hv : vMach m = true) (hy : m.sy = 2) (hc : vConf m c = true) {w : List Int} (h : enO m c = some w) : TmOk m ∧ Gd (tmT m) w := by
  obtain ⟨b1,b2,b3,b4,b5,b6⟩ := vConf_bits hy hc
  have v1 := nmV_bd b1
  have v2 := nmV_bd b2
  unfold enO at h
  by_cases hs : m.st ≤ 6
  · rw [if_pos hs] at h
    have g : TmOk m := ⟨hv,hy,hs⟩
    cases hn : nmB c.le && nmB c.ri with
    | false => rw [hn] at h; cases h
    | true =>
      rw [hn,cond_true] at h
      by_cases hl : 4 + 2 * (nmV c.le + nmV c.ri) ≤ 1000
      · rw [if_pos hl] at h
        injection h with h
        subst h
        have hlen := shA_len c.st (nmV c.le).toNat (nmV c.ri).toNat
        have hwl := tmW_len m m.st.toNat
        refine ⟨g,⟨fun x hx => ?_,by rw [hlen]; omega⟩⟩
        have key : ∀ ns : List Bs,x ∈ wdN ns c.st → 0 ≤ x ∧ x < ((tmT m).wo.length : Int) := fun ns hx => by
          have := wdN_bd b5 hx
          show 0 ≤ x ∧ x < ((tmW m m.st.toNat).length : Int)
          omega
        unfold shA shF at hx
        rcases List.mem_append.1 hx with hx | hx
        · rcases List.mem_append.1 hx with hx | hx
          · rcases List.mem_append.1 hx with hx | hx
            · exact key _ hx
            · exact key _ (repW_mem hx)
          · exact key _ hx
        · exact key _ (repW_mem hx)
      · rw [if_neg hl] at h; cases h
  · rw [if_neg hs] at h; cases h
theorem tm_bd {m : Mach} (g : TmOk m) : ((tmT m).ha.length : Int) ≤ 1048576 ∧ (∀ x ∈ (tmT m).wo,(x.length : Int) ≤ 16777216) := by
  have h1 := tmH_len m m.st.toNat
  have hs := g.s
  refine ⟨by show ((tmH m m.st.toNat).length : Int) ≤ 1048576; omega,fun x hx => ?_⟩
  have := (tmW_gd g m.st.toNat (Nat.le_refl _) x hx).1
  omega
theorem gd_in {m : Mach} {w : List Int} (hs : 0 ≤ m.st) (g : Gd (tmT m) w) : (∀ y ∈ w,0 ≤ y ∧ y ≤ 30 * m.st) ∧ (w.length : Int) ≤ 1000 := by
  have hwl := tmW_len m m.st.toNat
  refine ⟨fun y hy => ?_,g.le⟩
  have h : 0 ≤ y ∧ y < ((tmW m m.st.toNat).length : Int) := g.wd y hy
  omega
end Go.Proofs.YtnkeamihfiobdaaGreatDoor
end
section
set_option linter.unusedVariables false
set_option linter.unusedSimpArgs false
set_option maxRecDepth 100000
set_option maxHeartbeats 1000000
namespace Go.Proofs.YtnkeamihfiobdaaGreatDoor
open Go Foot Go.RowKit
@[irreducible] def coT (c : Conf) : Bs := digT c.le.reverse ++ [40] ++ decT c.st ++ [41] ++ digT c.ri
structure CfOk (c : Conf) : Prop where
  l : ∀ x ∈ c.le,0 ≤ x ∧ x ≤ 1
  r : ∀ x ∈ c.ri,0 ≤ x ∧ x ≤ 1
  ll : (c.le.length : Int) ≤ 3000
  lr : (c.ri.length : Int) ≤ 3000
  s0 : 0 ≤ c.st
  s1 : c.st ≤ 1000000
theorem cf_nine {l : List Int} (h : ∀ x ∈ l,0 ≤ x ∧ x ≤ 1) : ∀ x ∈ l,0 ≤ x ∧ x ≤ 9 := fun x hx => by have := h x hx; omega
theorem preB211 {p : Prop} (h : p := by first | with_reducible assumption | omega | (simp only [List.length_append,List.length_cons,List.length_nil,List.length_set,List.length_replicate,List.length_take,List.length_drop,List.length_tail,List.length_dropLast,List.length_reverse] at *; omega) | exact mem_len (by assumption) (by omega) | (with_reducible refine Int.le_trans (Int.ofNat_le.2 (trimR_len _)) ?_; simp only [List.length_cons,List.length_tail]; omega) | (exact (ruAt_ok (by assumption) (by assumption) (by assumption)).2.1) | (exact (ruAt_ok (by assumption) (by assumption) (by assumption)).2.1) | (have := vMach_bd (by assumption); omega) | (simp only [List.length_append,List.length_cons,List.length_nil,repW_len,seN_len] at *; omega) | (simp only [mC_ch,mC_tu]; omega) | (have := vTag_bd (by assumption); omega) | (have := (‹Gd _ _›).le; omega) | (exact tgHalts_no (by assumption)) | (exact tgHead (by assumption) (by assumption) (by assumption)) | (exact Int.le_trans (tgStep_gd (by assumption) (by assumption) (by assumption) (by assumption)).le (by decide)) | (exact vTag_r (by assumption)) | (with_reducible refine Int.le_trans (Int.ofNat_le.2 (pushL_len _ _)) ?_; simp only [List.length_dropLast]; omega) | exact ls_at (by assumption) (by omega) | exact pt_gd (by assumption) | exact lv_at (by assumption) (by omega) | exact pt_gd (lv_at (by assumption) (by omega)) | exact (ask_ok (by assumption)).1 | exact (ask_ok (by assumption)).2.1 | exact (ask_ok (by assumption)).2.2.1 | exact (ask_ok (by assumption)).2.2.2 | trivial) : p := h
theorem configText_ok (c : Conf) (k : Int) (g : k = 0 → CfOk c) : Does Tryz.prog 44 [.agg (coC c),.one (int k)] [] (.one (str (if k = 0 then coT c else []))) [] := by
  by_cases h : k = 0
  · have gc := g h
    subst h
    rw [if_pos rfl]
    have g1 := cf_nine gc.l
    have g2 := cf_nine gc.r
    have g3 := gc.ll
    have g4 := gc.lr
    have g5 := gc.s0
    have g6 := gc.s1
    have g7 : ∀ x ∈ c.le.reverse,0 ≤ x ∧ x ≤ 9 := fun x hx => g1 x (List.mem_reverse.1 hx)
    have e : coT c = digT c.le.reverse ++ [40] ++ decT c.st ++ [41] ++ digT c.ri := by unfold coT; rfl
    have l1 := digT_len c.le.reverse
    have l2 := digT_len c.ri
    have l3 := decT_le (n := c.st) (by omega) (by omega)
    have l4 : c.le.reverse.length = c.le.length := List.length_reverse
    rw [e]
    refine does_of (k := 0) Tryz.func44 rfl Tryz.ntmps44 rfl rfl fun w F0 S0 ρ0 => ?_
    dsimp only [argT,argH]
    repeat' first|(apply n3;exact a_new (gb := .bx _) rfl;exact rfl;refine dA ?_)|(apply p3;(first|exact pu1|exact a_ne rfl rfl);exact rfl)|refine cd ?_|(apply g_drN (id := 3) okM [[],[0],[0,1],[0,1,2],[0,1,2,3],[],[5],[0,1,2,3,5,6],[0,1,2,3,4,5,6,7],[0,1,2,3,4,5,6,7,8],[],[10],[0,1,2,3,5,6,7,10,11],[0,1,2,3,4,5,6,7,8,9,10,11,12],[0,1,2,3,4,5,6,7,8,9,10,11,12,13]] [([],[]),([],[]),([0],[]),([],[]),([],[]),([],[]),([],[]),([],[]),([],[]),([],[]),([],[]),([],[]),([],[]),([],[]),([],[])] 1;(focus (refine dp 0 0 [12,13,17,18] [] (a_pure (sv := .one _) rfl) ?_;refine dp 1 1 [12,13,17,18] [] (by exact puL) ?_;refine duN 2 3 [12,13,17,18] [] (callD1 (n := _) 0 (θ := []) (hD := (reversed_ok _ preB211))) (by exact rfl) (by exact rfl) ?_;refine dp 3 7 [12,13,17,18] [] (callD1 (n := _) 1 (θ := []) (hD := (digitsText_ok _ preB211 preB211))) ?_;refine dp 4 15 [12,13,14,17,18,19] [] (a_addS rfl rfl (by (simp only [List.length_append,List.length_cons,List.length_nil];omega))) ?_;refine dp 5 0 [7,8,9,10,11,17,18] [(true,0)] (a_pure (sv := .one _) rfl) ?_;refine dp 6 1 [7,8,9,10,11,17,18] [(true,0)] puL ?_;refine dp 7 123 [11,17,18] [] (callD1 (n := _) 1 (θ := []) (hD := (Decimal_ok _ preB211 preB211))) ?_;refine dp 8 255 [17,18,19] [] (a_addS rfl rfl (by (simp only [List.length_append,List.length_cons,List.length_nil];omega))) ?_;refine dp 9 511 [17,18,19] [] (a_addS rfl rfl (by (simp only [List.length_append,List.length_cons,List.length_nil];omega))) ?_;refine dp 10 0 [7,8,9,10,11,12,13,14,15,16] [(true,0)] (a_pure (sv := .one _) rfl) ?_;refine dp 11 1 [7,8,9,10,11,12,13,14,15,16] [(true,0)] (by exact puL) ?_;refine dp 12 3955 [11,15,16] [] (callD1 (n := _) 1 (θ := []) (hD := (digitsText_ok _ preB211 preB211))) ?_;refine dp 13 8191 [] [] (a_addS rfl rfl (by (simp only [List.length_append,List.length_cons,List.length_nil];omega))) ?_;refine dp 14 16383 [] [] pu1 ?_;(refine d_nil ?_;refine dN ?_)));any_goals kernel_rfl)|fail
    repeat refine cr ?_
    refine ends_id ?_
    refine endK [] (h2 := ?_) (h3 := ?_) (nd := ?_)
    all_goals (repeat' first|exact ce0|refine ce ?_|refine ce2 ?_ ?_|exact SVLe.refl|refine ceb ?_)
    all_goals first | exact (show nodupB _ = true from rfl) | exact Or.inr rfl | (rfl)
  · rw [if_neg h]
    refine does_of (k := 0) Tryz.func44 rfl Tryz.ntmps44 rfl rfl fun w F0 S0 ρ0 => ?_
    dsimp only [argT,argH]
    repeat' first|(apply n3;exact a_new (gb := .bx _) rfl;exact rfl;refine dA ?_)|(apply p3;(first|exact pu1|exact a_ne rfl rfl);exact rfl)|refine cd ?_|((refine g_cond rfl (fun hc => ?_) (fun hc => ?_)) <;> (try simp only [dcB] at hc) <;> (try first|contradiction|(exfalso;omega)))|fail
    repeat refine cr ?_
    refine ends_id ?_
    refine endK [] (h2 := ?_) (h3 := ?_) (nd := ?_)
    all_goals (repeat' first|exact ce0|refine ce ?_|refine ce2 ?_ ?_|exact SVLe.refl|refine ceb ?_)
    all_goals first | exact (show nodupB _ = true from rfl) | exact Or.inr rfl | (rfl)
@[irreducible] def tgX (m : Mach) (l : List Int) : Bs := match dcI m l with
  | some c => coT c
  | none => []
theorem tgX_some {m : Mach} {l : List Int} {c : Conf} (h : dcI m l = some c) : tgX m l = coT c := by unfold tgX; rw [h]
theorem tgX_none {m : Mach} {l : List Int} (h : dcI m l = none) : tgX m l = [] := by unfold tgX; rw [h]
theorem dcI_st {m : Mach} {l : List Int} {c : Conf} (h : dcI m l = some c) : c.st = (l.headD 0 - 1) / 30 ∧ ¬ ((l.length : Int) = 0 ∨ l.headD 0 = 0) := by
  unfold dcI at h
  by_cases h0 : (l.length : Int) = 0 ∨ l.headD 0 = 0
  · rw [if_pos h0] at h; cases h
  · rw [if_neg h0] at h
    refine ⟨?_,h0⟩
    split at h
    · injection h with h; rw [← h]
    · split at h
      · injection h with h; rw [← h]
      · split at h
        · injection h with h; rw [← h]
        · cases h
theorem dcI_cf {m : Mach} {l : List Int} {c : Conf} (hm : m.st ≤ 1000) (hw : ∀ y ∈ l,0 ≤ y ∧ y ≤ 30 * m.st) (hl : (l.length : Int) ≤ 1000) (h : dcI m l = some c) : CfOk c := by
  have h1 := dcI_gd (by omega) h
  obtain ⟨h2,h3⟩ := dcI_st h
  have h4 := hd_bd hw h3
  exact ⟨h1.1,h1.2.1,h1.2.2.1,h1.2.2.2,by omega,by omega⟩
theorem tagTexts1_ok (m : Mach) (l : List Int) (g : TmOk m) (gl : Gd (tmT m) l) : Does Tryz.prog 57 [.one (shI l),.one (maB m)] [] (.one (str (tgX m l))) [] := by
  have hb := vMach_bd g.v
  have hs := g.s
  obtain ⟨hin,hl⟩ := gd_in (by omega) gl
  have hcf : (bif (dcI m l).isSome then (0 : Int) else 9) = 0 → CfOk (cfZ (dcI m l)) := fun h => by
    cases hd : dcI m l with
    | none => rw [hd] at h; cases h
    | some c => exact dcI_cf (by omega) hin hl hd
  have e : tgX m l = if (bif (dcI m l).isSome then (0 : Int) else 9) = 0 then coT (cfZ (dcI m l)) else [] := by
    cases hd : dcI m l with
    | none => rw [tgX_none hd]; rfl
    | some c => rw [tgX_some hd]; rfl
  rw [e]
  refine does_of (k := 0) Tryz.func57 rfl Tryz.ntmps57 rfl rfl fun w F0 S0 ρ0 => ?_
  dsimp only [argT,argH]
  repeat' first|(apply p3;(exact pu1);exact rfl)|refine cd ?_|(apply c4 2;exact callK1 (θ := []) (hD := (decodeTagWord_ok m l g hin (by omega)));exact rfl;exact rfl;exact rfl;refine dM ?_)|(apply c4 0;exact callK1 (θ := []) (hD := (configText_ok (cfZ (dcI m l)) (bif (dcI m l).isSome then (0 : Int) else 9) hcf));exact rfl;exact rfl;exact rfl;refine dM ?_)|fail
  repeat refine cr ?_
  refine ends_id ?_
  refine endK [] (h2 := ?_) (h3 := ?_) (nd := ?_)
  all_goals (repeat' first|exact ce0|refine ce ?_|refine ce2 ?_ ?_|exact SVLe.refl|refine ceb ?_)
  all_goals first | exact (show nodupB _ = true from rfl) | exact Or.inr rfl | (rfl)
end Go.Proofs.YtnkeamihfiobdaaGreatDoor
end
section
set_option linter.unusedVariables false
set_option linter.unusedSimpArgs false
set_option maxRecDepth 100000
set_option maxHeartbeats 4000000
namespace Go.Proofs.YtnkeamihfiobdaaGreatDoor
open Go Foot Go.RowKit
abbrev fnM (m : Mach) : C := .fn (.func 57) [maB m]
theorem preB212 {p : Prop} (h : p := by first | with_reducible assumption | omega | (simp only [List.length_append,List.length_cons,List.length_nil,List.length_set,List.length_replicate,List.length_take,List.length_drop,List.length_tail,List.length_dropLast,List.length_reverse] at *; omega) | exact mem_len (by assumption) (by omega) | (with_reducible refine Int.le_trans (Int.ofNat_le.2 (trimR_len _)) ?_; simp only [List.length_cons,List.length_tail]; omega) | (exact (ruAt_ok (by assumption) (by assumption) (by assumption)).2.1) | (exact (ruAt_ok (by assumption) (by assumption) (by assumption)).2.1) | (have := vMach_bd (by assumption); omega) | (simp only [List.length_append,List.length_cons,List.length_nil,repW_len,seN_len] at *; omega) | (simp only [mC_ch,mC_tu]; omega) | (have := vTag_bd (by assumption); omega) | (have := (‹Gd _ _›).le; omega) | (exact tgHalts_no (by assumption)) | (exact tgHead (by assumption) (by assumption) (by assumption)) | (exact Int.le_trans (tgStep_gd (by assumption) (by assumption) (by assumption) (by assumption)).le (by decide)) | (exact vTag_r (by assumption)) | (with_reducible refine Int.le_trans (Int.ofNat_le.2 (pushL_len _ _)) ?_; simp only [List.length_dropLast]; omega) | exact ls_at (by assumption) (by omega) | exact pt_gd (by assumption) | exact lv_at (by assumption) (by omega) | exact pt_gd (lv_at (by assumption) (by omega)) | exact (ask_ok (by assumption)).1 | exact (ask_ok (by assumption)).2.1 | exact (ask_ok (by assumption)).2.2.1 | exact (ask_ok (by assumption)).2.2.2 | trivial) : p := h
theorem st1M_ok (m : Mach) (u : List Int) (l : List (List Int)) (gm : TmOk m) (g : Gd (tmT m) u) (hl : (l.length : Int) ≤ 100000) : Does Tryz.prog 120 [.one (.gv 3),.one (.gv 0),.one (.gv 1)] [.bx [.gv 2],.bx [fnM m],.row 1 (rows eS (l.map (tgX m))),.row 1 (rows eI u)] (.one (boo true)) [.bx [.gv 4],.bx [fnM m],.dead,.row 1 (rows eI u),.row 1 (rows eS ((l ++ [u]).map (tgX m)))] := by
  have e : (l ++ [u]).map (tgX m) = l.map (tgX m) ++ [tgX m u] := by simp
  have hl2 : ((l.map (tgX m)).length : Int) ≤ 100000 := by rw [List.length_map]; exact hl
  rw [e]
  refine does_of (k := 4) Tryz.func120 rfl Tryz.ntmps120 rfl rfl fun w F0 S0 ρ0 => ?_
  dsimp only [argT,argH]
  repeat' first|(apply p3;exact a_pure (sv := .one _) rfl;exact rfl)|refine cd ?_|(apply g_drN (id := 1) okM [[],[],[],[1,2],[1,2,3],[0,1,2,3,4],[0,1,2,3,4,5]] [([],[]),([],[]),([],[]),([],[]),([0],[]),([1],[_]),([],[0])] 2;(focus (refine dp 0 0 [6,7,8,9] [(true,0)] puL ?_;refine dp 1 0 [5,7] [] puL ?_;refine dp 2 0 [5,6] [] pu1 ?_;refine dp 3 3 [5] [] (callD1 (n := _) 0 (θ := []) (hD := (tagTexts1_ok m u gm g))) ?_;refine duE 4 7 [5] [] (atN 0 (fun _ => a_litE eS [_] rfl rfl rfl rfl rfl rfl rfl rfl)) (by exact rfl) (by exact rfl) ?_;refine duE 5 31 [] [] (atS 1 (fun _ hj => a_appE (fP rfl) rfl rfl rfl rfl nowR (by (simp <;> omega)) (by decide) hj (by exact rfl)) (by decide)) (by exact rfl) (by exact rfl) ?_;refine duE 6 63 [] [] (by exact a_st_bx rfl rfl rfl rfl (fN rfl rfl) (Nat.le_of_ble_eq_true rfl) rfl) (by exact rfl) (by exact rfl) ?_;(refine d_nil ?_;refine dN ?_)));any_goals kernel_rfl)|fail
  repeat refine cr ?_
  refine ends_id ?_
  refine endK [?_] (h2 := ?_) (h3 := ?_) (nd := ?_)
  rotate_left 1
  all_goals (repeat' first|exact ce0|refine ce ?_|refine ce2 ?_ ?_|(refine Or.inr (bx_eq rfl rfl ?_);(try dsimp only [C.ren,C.ren.all]);(try exact rfl))|exact SVLe.refl|refine ceb ?_)
  all_goals first | exact (show nodupB _ = true from rfl) | exact Or.inr rfl | (rfl)
theorem trR_cdM {t : Tg} : ∀ (k : Nat) (l : List (List Int)) (w : List Int),(trR t k l w).1.2.2 = 0 ∨ (trR t k l w).1.2.2 = 5
  | 0,l,w => by rw [trR_0]; exact .inl rfl
  | k + 1,l,w => by
    cases h : tgHalts t w with
    | true => rw [trR_h h]; exact .inl rfl
    | false =>
      cases o : tgOver t w with
      | true => rw [trR_o h o]; exact .inr rfl
      | false => rw [trR_s h o]; exact trR_cdM k _ _
theorem runSysM_ok (m : Mach) (q : List Int) (B : Int) (gm : TmOk m) (hv : vTag (tmT m) = true) (hg : Gd (tmT m) q) (hx : ((tmT m).ha.length : Int) ≤ 1048576) (h1 : 0 ≤ B) (h2 : B ≤ 599) : Does Tryz.prog 119 [.one (.ifc 91 false [.gv 0]),.one (int B),.one (.fn (.func 120) [.gv 2,.gv 3])] [.bx (tgR (tmT m) 1),.row 1 (rows eI q),.bx [.gv 4],.bx [fnM m],.row 1 (rows eS [])] (.tup [(false,[int (trR (tmT m) B.toNat [] q).1.1]),(false,[boo (trR (tmT m) B.toNat [] q).1.2.1]),(false,[int (trR (tmT m) B.toNat [] q).1.2.2])]) [.dead,.dead,.bx [.gv 5],.dead,.dead,.row 1 (rows eS ((trR (tmT m) B.toNat [] q).2.map (tgX m)))] := by
  have hb := vTag_bd hv
  generalize ht : tmT m = t at *
  refine does_of (k := 5) Tryz.func119 rfl Tryz.ntmps119 rfl rfl fun w F0 S0 ρ0 => ?_
  dsimp only [argT,argH]
  refine g_conv (t_mvB (i := 1) (j := 0) (k := 3) rfl rfl rfl rfl rfl rfl) ?_
  try dsimp only [setRow,List.map_cons,List.map_nil,scC,List.set_cons_zero,List.set_cons_succ]
  refine g_conv (t_mvB (i := 4) (j := 2) (k := 0) rfl rfl rfl rfl rfl rfl) ?_
  try dsimp only [setRow,List.map_cons,List.map_nil,scC,List.set_cons_zero,List.set_cons_succ]
  repeat' first|(apply p3;(exact pu1);exact rfl)|refine cd ?_|fail
  refine g_loop_id ?_
  refine loopK [0,1,2,6,7,8] [0,2,5,6] (fun x : Int × List Int × List (List Int) => Gd t x.2.1 ∧ (x.2.2.length : Int) ≤ B ∧ x.1 = x.2.2.length ∧ trR t (B - x.2.2.length).toNat x.2.2 x.2.1 = trR t B.toNat [] q) (fun x => [(9,.one (int x.1))]) (fun x => [(0,.bx (tgR t 5)),(5,.row 1 (rows eI x.2.1)),(2,.bx [.gv 6]),(6,.row 1 (rows eS (x.2.2.map (tgX m))))]) (fun x => (B - x.1).toNat) ((0 : Int),q,[]) [0,1,2,3,4,5,6] (hI := ?_) (hr := ?_)
  · exact ⟨hg,by simp; omega,by simp,by simp⟩
  · rintro ⟨n,w,l⟩ ⟨k1,k3,k5,k4⟩
    dsimp only [List.cons_append,List.nil_append] at *
    try dsimp only [tgR]
    skip
    have kl := k1.le
    repeat' first|(apply p3;(first|exact pu1|exact a_add rfl rfl (by omega) (by omega));exact rfl)|refine cd ?_|(apply c4 0;exact callM0 (dst := some 14) (θ := [0,5]) (hD := (tagWord_ok t _));exact rfl;exact rfl;exact rfl;refine dM ?_)|(apply c4 1;exact callK0 (θ := [2,3,6,5]) (hD := (st1M_ok m _ _ gm (by rw [ht];assumption) preB212));exact rfl;exact rfl;exact rfl;refine dM ?_)|(apply c4 0;exact callM0 (dst := some 28) (θ := [0,5]) (hD := (tagHalts_ok t _ hv preB212 preB212));exact rfl;exact rfl;exact rfl;refine dM ?_)|(apply c4 1;exact callM0 (dst := some 30) (θ := [0,5]) (hD := (tagStep_ok t _ hv preB212 preB212 preB212 preB212));exact rfl;exact rfl;exact rfl;refine dM ?_)|refine o_no rfl rfl rfl rfl ?_|(apply py3;exact rfl;exact rfl;(first|exact pu1|exact puC);exact rfl;exact rfl)|(apply cy4 0;exact rfl;exact rfl;exact callM0 (dst := some 24) (θ := [0,5]) (hD := (tagHalts_ok t _ hv preB212 preB212));exact rfl;exact rfl;exact rfl;exact rfl;refine dM ?_)|((first|refine o_gs rfl rfl (fun hc => ?_) (fun hc => ?_)|refine g_cond rfl (fun hc => ?_) (fun hc => ?_)) <;> (try simp only [dcB] at hc) <;> (try first|contradiction|(exfalso;omega)))|fail
    · have e : trR t B.toNat [] q = (((l.length : Int),tgHalts t w,0),l ++ [w]) := by rw [← k4,show (B - l.length).toNat = 0 by omega,trR_0]
      rw [e]
      repeat refine cr ?_
      refine ends_id ?_
      refine endK [?_] (h2 := ?_) (h3 := ?_) (nd := ?_)
      rotate_left 1
      all_goals (repeat' first|exact ce0|refine ce ?_|refine ce2 ?_ ?_|(refine Or.inr (bx_eq rfl rfl ?_);(try dsimp only [C.ren,C.ren.all]);(try exact rfl))|exact SVLe.refl|refine ceb ?_)
      all_goals first | exact (show nodupB _ = true from rfl) | exact Or.inr rfl | ((first | rfl | omega))
    · have e : trR t B.toNat [] q = (((l.length : Int),tgHalts t w,0),l ++ [w]) := by rw [← k4,trR_h hc,hc]
      rw [e]
      repeat refine cr ?_
      refine ends_id ?_
      refine endK [?_] (h2 := ?_) (h3 := ?_) (nd := ?_)
      rotate_left 1
      all_goals (repeat' first|exact ce0|refine ce ?_|refine ce2 ?_ ?_|(refine Or.inr (bx_eq rfl rfl ?_);(try dsimp only [C.ren,C.ren.all]);(try exact rfl))|exact SVLe.refl|refine ceb ?_)
      all_goals first | exact (show nodupB _ = true from rfl) | exact Or.inr rfl | ((first | rfl | omega))
    · have e : trR t B.toNat [] q = ((0,false,5),l ++ [w]) := by
        obtain ⟨k,hk⟩ : ∃ k,(B - l.length).toNat = k + 1 := ⟨(B - l.length).toNat - 1,by omega⟩
        rw [← k4,hk,trR_o (by assumption) hc]
      rw [e]
      repeat refine cr ?_
      refine ends_id ?_
      refine endK [?_] (h2 := ?_) (h3 := ?_) (nd := ?_)
      rotate_left 1
      all_goals (repeat' first|exact ce0|refine ce ?_|refine ce2 ?_ ?_|(refine Or.inr (bx_eq rfl rfl ?_);(try dsimp only [C.ren,C.ren.all]);(try exact rfl))|exact SVLe.refl|refine ceb ?_)
      all_goals first | exact (show nodupB _ = true from rfl) | exact Or.inr rfl | (rfl)
    · have hst := tgStep_gd hv k1 (by assumption) hc
      have hlen : ((l ++ [w]).length : Int) = l.length + 1 := by simp
      refine q_again (n + 1,tgStep t w,l ++ [w]) [0,1,2,3,4,8,7] (by exact stk) ?_ ?_
      · dsimp only
        refine ⟨hst,by omega,by omega,?_⟩
        obtain ⟨k,hk⟩ : ∃ k,(B - l.length).toNat = k + 1 := ⟨(B - l.length).toNat - 1,by omega⟩
        rw [← k4,hk,trR_s (by assumption) hc,hlen,show (B - (l.length + 1 : Int)).toNat = k by omega]
      · dsimp only; omega
theorem systemTextsM_ok (m : Mach) (q : List Int) (n : Int) (gm : TmOk m) (hv : vTag (tmT m) = true) (hg : Gd (tmT m) q) (hx : ((tmT m).ha.length : Int) ≤ 1048576) (h1 : 0 ≤ n) (h2 : n ≤ 599) : Does Tryz.prog 55 [.one (.ifc 91 false [.gv 0]),.one (int n),.one (fnM m)] [.bx (tgR (tmT m) 1),.row 1 (rows eI q)] (.tup [(false,[.gv 2]),(false,[int (bif (trA (tmT m) n.toNat [] q).2 then 0 else 5)])]) [.dead,.dead,.row 1 (rows eS ((trA (tmT m) n.toNat [] q).1.map (tgX m)))] := by
  have e := trA_R (t := tmT m) n.toNat [] q
  have ec := trR_cdM (t := tmT m) n.toNat [] q
  refine does_of (k := 2) Tryz.func55 rfl Tryz.ntmps55 rfl rfl fun w F0 S0 ρ0 => ?_
  dsimp only [argT,argH]
  repeat' first|(apply n3;exact a_nilO eS rfl;exact rfl)|(apply n3;(first|exact a_new (gb := .bx _) rfl|exact a_litE eS [] rfl rfl rfl rfl rfl rfl rfl rfl);exact rfl;refine dA ?_)|(apply p3;(first|exact pu1|exact a_ne rfl rfl);exact rfl)|refine cd ?_|(apply w3;(exact a_st_bx rfl rfl rfl rfl (fN rfl rfl) (Nat.le_of_ble_eq_true rfl) rfl);exact rfl;refine dS ?_)|(apply c4 1;exact callK1 (θ := [_,_,_,_,_]) (hD := (runSysM_ok _ _ _ preB212 preB212 preB212 preB212 preB212 preB212));exact rfl;exact rfl;exact rfl;refine dM ?_)|((refine g_cond rfl (fun hc => ?_) (fun hc => ?_)) <;> (try simp only [dcB] at hc) <;> (try first|contradiction|(exfalso;omega)))|fail
  · rw [if_neg hc] at e
    rw [e]
    repeat refine cr ?_
    refine ends_id ?_
    refine endK [?_] (h2 := ?_) (h3 := ?_) (nd := ?_)
    rotate_left 1
    all_goals (repeat' first|exact ce0|refine ce ?_|refine ce2 ?_ ?_|(refine Or.inr (bx_eq rfl rfl ?_);(try dsimp only [C.ren,C.ren.all]);(try exact rfl))|exact SVLe.refl|refine ceb ?_)
    all_goals first | exact (show nodupB _ = true from rfl) | exact Or.inr rfl | ((show _ = (5 : Int); omega))
  · rw [if_pos hc] at e
    rw [e]
    repeat refine cr ?_
    refine ends_id ?_
    refine endK [?_] (h2 := ?_) (h3 := ?_) (nd := ?_)
    rotate_left 1
    all_goals (repeat' first|exact ce0|refine ce ?_|refine ce2 ?_ ?_|(refine Or.inr (bx_eq rfl rfl ?_);(try dsimp only [C.ren,C.ren.all]);(try exact rfl))|exact SVLe.refl|refine ceb ?_)
    all_goals first | exact (show nodupB _ = true from rfl) | exact Or.inr rfl | (rfl)
theorem textsCodeM_ok (b : Bool) (n : Int) : Does Tryz.prog 40 [.one (boo b),.one (int n)] [] (.one (int (bif b then (if 0 ≤ n ∧ n ≤ 599 then 0 else 2) else 1))) [] := by
  cases b
  · refine does_of (k := 0) Tryz.func40 rfl Tryz.ntmps40 rfl rfl fun w F0 S0 ρ0 => ?_
    dsimp only [argT,argH]
    repeat' first|(apply p3;exact pu1;exact rfl)|refine cd ?_|fail
    repeat refine cr ?_
    refine ends_id ?_
    refine endK [] (h2 := ?_) (h3 := ?_) (nd := ?_)
    all_goals (repeat' first|exact ce0|refine ce ?_|refine ce2 ?_ ?_|exact SVLe.refl|refine ceb ?_)
    all_goals first | exact (show nodupB _ = true from rfl) | exact Or.inr rfl | (rfl)
  · by_cases h : 0 ≤ n ∧ n ≤ 599
    · rw [cond_true,if_pos h]
      refine does_of (k := 0) Tryz.func40 rfl Tryz.ntmps40 rfl rfl fun w F0 S0 ρ0 => ?_
      dsimp only [argT,argH]
      repeat' first|(apply p3;exact pu1;exact rfl)|refine cd ?_|(apply c4 0;exact callK1 (θ := []) (hD := (within_ok _ _ _));exact rfl;exact rfl;exact rfl;refine dM ?_)|((refine g_cond rfl (fun hc => ?_) (fun hc => ?_)) <;> (try simp only [dcB] at hc) <;> (try first|contradiction|(exfalso;omega)))|fail
      repeat refine cr ?_
      refine ends_id ?_
      refine endK [] (h2 := ?_) (h3 := ?_) (nd := ?_)
      all_goals (repeat' first|exact ce0|refine ce ?_|refine ce2 ?_ ?_|exact SVLe.refl|refine ceb ?_)
      all_goals first | exact (show nodupB _ = true from rfl) | exact Or.inr rfl | (rfl)
    · rw [cond_true,if_neg h]
      refine does_of (k := 0) Tryz.func40 rfl Tryz.ntmps40 rfl rfl fun w F0 S0 ρ0 => ?_
      dsimp only [argT,argH]
      repeat' first|(apply p3;exact pu1;exact rfl)|refine cd ?_|(apply c4 0;exact callK1 (θ := []) (hD := (within_ok _ _ _));exact rfl;exact rfl;exact rfl;refine dM ?_)|((refine g_cond rfl (fun hc => ?_) (fun hc => ?_)) <;> (try simp only [dcB] at hc) <;> (try first|contradiction|(exfalso;omega)))|fail
      repeat refine cr ?_
      refine ends_id ?_
      refine endK [] (h2 := ?_) (h3 := ?_) (nd := ?_)
      all_goals (repeat' first|exact ce0|refine ce ?_|refine ce2 ?_ ?_|exact SVLe.refl|refine ceb ?_)
      all_goals first | exact (show nodupB _ = true from rfl) | exact Or.inr rfl | (rfl)
end Go.Proofs.YtnkeamihfiobdaaGreatDoor
end
section
set_option linter.unusedVariables false
set_option linter.unusedSimpArgs false
set_option maxRecDepth 100000
set_option maxHeartbeats 1000000
namespace Go.Proofs.YtnkeamihfiobdaaGreatDoor
open Go Foot Go.RowKit
@[irreducible] def tgW (m : Mach) (w : List Int) (n : Int) : List Bs × Int := bif (trA (tmT m) n.toNat [] w).2 then ((trA (tmT m) n.toNat [] w).1.map (tgX m),0) else ([],5)
theorem tgW_eq (m : Mach) (w : List Int) (n : Int) : tgW m w n = (bif (trA (tmT m) n.toNat [] w).2 then ((trA (tmT m) n.toNat [] w).1.map (tgX m),0) else ([],5) : List Bs × Int) := by unfold tgW; rfl
@[irreducible] def tgO (m : Mach) (c : Conf) (n : Int) : List Bs × Int := if vMach m = true ∧ vConf m c = true then (if 0 ≤ n ∧ n ≤ 599 then (if m.sy = 2 then ((enO m c).elim ([],5) fun w => tgW m w n) else ([],2)) else ([],2)) else ([],1)
theorem preB213 {p : Prop} (h : p := by first | with_reducible assumption | omega | (simp only [List.length_append,List.length_cons,List.length_nil,List.length_set,List.length_replicate,List.length_take,List.length_drop,List.length_tail,List.length_dropLast,List.length_reverse] at *; omega) | exact mem_len (by assumption) (by omega) | (with_reducible refine Int.le_trans (Int.ofNat_le.2 (trimR_len _)) ?_; simp only [List.length_cons,List.length_tail]; omega) | (exact (ruAt_ok (by assumption) (by assumption) (by assumption)).2.1) | (exact (ruAt_ok (by assumption) (by assumption) (by assumption)).2.1) | (have := vMach_bd (by assumption); omega) | (simp only [List.length_append,List.length_cons,List.length_nil,repW_len,seN_len] at *; omega) | (simp only [mC_ch,mC_tu]; omega) | (have := vTag_bd (by assumption); omega) | (have := (‹Gd _ _›).le; omega) | (exact tgHalts_no (by assumption)) | (exact tgHead (by assumption) (by assumption) (by assumption)) | (exact Int.le_trans (tgStep_gd (by assumption) (by assumption) (by assumption) (by assumption)).le (by decide)) | (exact vTag_r (by assumption)) | (with_reducible refine Int.le_trans (Int.ofNat_le.2 (pushL_len _ _)) ?_; simp only [List.length_dropLast]; omega) | exact ls_at (by assumption) (by omega) | exact pt_gd (by assumption) | exact lv_at (by assumption) (by omega) | exact pt_gd (lv_at (by assumption) (by omega)) | exact (ask_ok (by assumption)).1 | exact (ask_ok (by assumption)).2.1 | exact (ask_ok (by assumption)).2.2.1 | exact (ask_ok (by assumption)).2.2.2 | trivial) : p := h
theorem TagWordOfN_ok (m : Mach) (c : Conf) (hm : (m.ru.length : Int) ≤ 16777216) (hx : (c.le.length : Int) ≤ 16777216) (hy : (c.ri.length : Int) ≤ 16777216) (hv : vMach m = true) (hs : ¬ m.sy = 2) (hc : vConf m c = true) : Does Tryz.prog 53 [.agg (maC m),.agg (coC c)] [] (.tup [(false,[.gv 0]),(false,[int 2])]) [roI []] := by
  have hvc : (vMach m && vConf m c) = true := by rw [hv,hc]; rfl
  refine does_of (k := 0) Tryz.func53 rfl Tryz.ntmps53 rfl rfl fun w F0 S0 ρ0 => ?_
  dsimp only [argT,argH]
  repeat' first|(apply n3;exact a_nilO eI rfl;exact rfl)|(apply n3;exact a_new (gb := .bx _) rfl;exact rfl;refine dA ?_)|(apply p3;exact a_pure (sv := .one _) rfl;exact rfl)|refine cdn ?_|refine g_reg (id := 0) ?_|(apply g_drN (id := 1) okM [[],[],[],[1,2],[0,1,2,3],[0,1,2,3,4]] [([],[]),([],[]),([],[]),([],[]),([],[]),([],[])] 0;(focus (refine dp 0 0 [8,9,10] [] puL ?_;refine dp 1 0 [7,9] [] puL ?_;refine dp 2 0 [7,8] [] puL ?_;refine dp 3 3 [7] [] (callD1 (n := _) 0 (θ := []) (hD := (ValidConfig_ok _ _ preB213 preB213 preB213))) ?_;refine dp 4 15 [] [] (callD1 (n := _) 0 (θ := []) (hD := (binaryCode_ok _ _))) ?_;refine dp 5 31 [] [] pu1 ?_;(refine d_nil ?_;refine dN ?_)));any_goals kernel_rfl)|fail
  simp only [hvc,cond_true,if_neg hs]
  repeat' first|(apply n3;exact a_nilO eI rfl;exact rfl)|(apply p3;(first|exact pu1|exact a_ne rfl rfl);exact rfl)|refine cd ?_|fail
  repeat refine cr ?_
  refine ends_id ?_
  refine endK [?_] (h2 := ?_) (h3 := ?_) (nd := ?_)
  rotate_left 1
  all_goals (repeat' first|exact ce0|refine ce ?_|refine ce2 ?_ ?_|exact SVLe.refl|refine ceb ?_)
  all_goals first | exact (show nodupB _ = true from rfl) | exact Or.inr rfl | (rfl)
theorem trA_noM {t : Tg} {k : Nat} {l : List (List Int)} {w : List Int} (h : (trA t k l w).2 = false) : (trA t k l w).1 = [] := by
  rw [trA_R] at h ⊢
  by_cases z : (trR t k l w).1.2.2 = 0
  · rw [if_pos z] at h; cases h
  · rw [if_neg z]
theorem iTagTexts_ok (m : Mach) (c : Conf) (n : Int) (hm : (m.ru.length : Int) ≤ 1048576) (hx : (c.le.length : Int) ≤ 1048576) (hy : (c.ri.length : Int) ≤ 1048576) : Does Tryz.prog 11 [.agg (maC m),.agg (coC c),.one (int n)] [] (.tup [(false,[.gv 0]),(false,[int (tgO m c n).2])]) [.row 1 (rows eS (tgO m c n).1)] := by
  by_cases hvc : vMach m = true ∧ vConf m c = true
  · obtain ⟨hv,hvd⟩ := hvc
    have hand : (vMach m && vConf m c) = true := by rw [hv,hvd]; rfl
    have hb := vMach_bd hv
    by_cases hB : 0 ≤ n ∧ n ≤ 599
    · by_cases hsy : m.sy = 2
      · have e : tgO m c n = (enO m c).elim ([],5) fun w => tgW m w n := by unfold tgO; rw [if_pos ⟨hv,hvd⟩,if_pos hB,if_pos hsy]
        cases hen : enO m c with
        | none =>
          rw [hen] at e
          rw [e]
          dsimp only [Option.elim]
          refine does_of (k := 0) Tryz.func11 rfl Tryz.ntmps11 rfl rfl fun w F0 S0 ρ0 => ?_
          dsimp only [argT,argH]
          repeat' first|(apply n3;exact a_nilO eS rfl;exact rfl)|(apply n3;exact a_new (gb := .bx _) rfl;exact rfl;refine dA ?_)|(apply p3;exact a_pure (sv := .one _) rfl;exact rfl)|refine cdn ?_|refine g_reg (id := 0) ?_|fail
          first | refine g_turn (t_frzB (d := 3) (i := 0) rfl rfl rfl) ?_ | refine o_turn (t_frzB (d := 3) (i := 0) rfl rfl rfl) ?_
          repeat' first|(apply p3;(exact pu1);exact rfl)|refine cdn ?_|refine g_reg (id := 1) ?_|(apply c4 0;exact callK1 (θ := []) (hD := (ValidConfig_ok _ _ preB213 preB213 preB213));exact rfl;exact rfl;exact rfl;refine dM ?_)|(apply c4 0;exact callK1 (θ := []) (hD := (textsCodeM_ok _ _));exact rfl;exact rfl;exact rfl;refine dM ?_)|fail
          simp only [hand,cond_true,if_pos hB]
          repeat' first|(apply p3;(first|exact pu1|exact a_ne rfl rfl);exact rfl)|refine cdn ?_|refine g_reg (id := 2) ?_|refine g_reg (id := 4) ?_|(apply c4 1;exact callK1 (θ := []) (hD := (TagWordOf_ok _ _ preB213 preB213 preB213 preB213 preB213 preB213));exact rfl;exact rfl;exact rfl;refine dM ?_)|fail
          simp only [hen,Option.isSome_none,Option.getD_none,cond_false]
          repeat' first|(apply n3;exact a_nilO eS rfl;exact rfl)|(apply p3;(first|exact pu1|exact a_ne rfl rfl);exact rfl)|refine cd ?_|fail
          repeat refine cr ?_
          refine ends_id ?_
          refine endK [?_] (h2 := ?_) (h3 := ?_) (nd := ?_)
          rotate_left 1
          all_goals (repeat' first|exact ce0|refine ce ?_|refine ce2 ?_ ?_|(refine Or.inr (bx_eq rfl rfl ?_);(try dsimp only [C.ren,C.ren.all]);(try exact rfl))|exact SVLe.refl|refine ceb ?_)
          all_goals first | exact (show nodupB _ = true from rfl) | exact Or.inr rfl | (rfl)
        | some u =>
          rw [hen] at e
          obtain ⟨g,gu⟩ := en_gd hv hsy hvd hen
          have gt := tmT_v g
          obtain ⟨t1,t2⟩ := tm_bd g
          rw [e]
          dsimp only [Option.elim]
          rw [tgW_eq]
          refine does_of (k := 0) Tryz.func11 rfl Tryz.ntmps11 rfl rfl fun w F0 S0 ρ0 => ?_
          dsimp only [argT,argH]
          repeat' first|(apply n3;exact a_nilO eS rfl;exact rfl)|(apply n3;exact a_new (gb := .bx _) rfl;exact rfl;refine dA ?_)|(apply p3;exact a_pure (sv := .one _) rfl;exact rfl)|refine cdn ?_|refine g_reg (id := 0) ?_|fail
          first | refine g_turn (t_frzB (d := 3) (i := 0) rfl rfl rfl) ?_ | refine o_turn (t_frzB (d := 3) (i := 0) rfl rfl rfl) ?_
          repeat' first|(apply p3;(exact pu1);exact rfl)|refine cdn ?_|refine g_reg (id := 1) ?_|(apply c4 0;exact callK1 (θ := []) (hD := (ValidConfig_ok _ _ preB213 preB213 preB213));exact rfl;exact rfl;exact rfl;refine dM ?_)|(apply c4 0;exact callK1 (θ := []) (hD := (textsCodeM_ok _ _));exact rfl;exact rfl;exact rfl;refine dM ?_)|fail
          simp only [hand,cond_true,if_pos hB]
          repeat' first|(apply p3;(first|exact pu1|exact a_ne rfl rfl);exact rfl)|refine cdn ?_|refine g_reg (id := 2) ?_|refine g_reg (id := 4) ?_|(apply c4 1;exact callK1 (θ := []) (hD := (TagWordOf_ok _ _ preB213 preB213 preB213 preB213 preB213 preB213));exact rfl;exact rfl;exact rfl;refine dM ?_)|fail
          simp only [hen,Option.isSome_some,Option.getD_some,cond_true]
          repeat' first|(apply n3;exact a_new (gb := .bx _) rfl;exact rfl;refine dA ?_)|(apply p3;(first|exact pu1|exact a_ne rfl rfl);exact rfl)|refine cdn ?_|refine g_reg (id := 5) ?_|refine g_reg (id := 7) ?_|(apply w3;exact a_st_bx rfl rfl rfl rfl (fN rfl rfl) (Nat.le_of_ble_eq_true rfl) rfl;exact rfl;refine dS ?_)|(apply c4 2;exact callK0 (θ := []) (hD := (tagOfMachine_ok _ preB213 preB213));exact rfl;exact rfl;exact rfl;refine dM ?_)|fail
          simp only [tmX_ok g.s]
          have hul := gu.le
          refine g_turn (t_freeze (i := 3) rfl nowR) ?_
          refine g_turn (t_freeze (i := 4) rfl nowR) ?_
          try simp only [setRow,C.frz.all,C.frz,SV.frz,tFrz,scC,List.map_cons,List.map_nil,List.set_cons_zero,List.set_cons_succ,Nat.zero_add,List.getElem?_cons_zero,List.getElem?_cons_succ,List.take_succ_cons,List.take_zero,List.drop_zero]
          refine g_turn (t_freeze (i := 5) rfl nowR) ?_
          try simp only [setRow,C.frz.all,C.frz,SV.frz,tFrz,scC,List.map_cons,List.map_nil,List.set_cons_zero,List.set_cons_succ,Nat.zero_add,List.getElem?_cons_zero,List.getElem?_cons_succ,List.take_succ_cons,List.take_zero,List.drop_zero]
          repeat' first|(apply p3;(exact pu1);exact rfl)|refine cd ?_|(apply c4 2;exact callK0 (θ := []) (hD := (tagRunOf_ok (tmT m) u (by omega)));exact rfl;exact rfl;exact rfl;refine dM ?_)|(apply c4 1;exact callK1 (θ := [7,8]) (hD := (systemTextsM_ok m u n g gt gu t1 hB.1 hB.2));exact rfl;exact rfl;exact rfl;refine dM ?_)|fail
          cases hk : (trA (tmT m) n.toNat [] u).2 with
          | false =>
            simp only [trA_noM hk,cond_false]
            repeat refine cr ?_
            refine ends_id ?_
            refine endK [?_] (h2 := ?_) (h3 := ?_) (nd := ?_)
            rotate_left 1
            all_goals (repeat' first|exact ce0|refine ce ?_|refine ce2 ?_ ?_|(refine Or.inr (bx_eq rfl rfl ?_);(try dsimp only [C.ren,C.ren.all]);(try exact rfl))|exact SVLe.refl|refine ceb ?_)
            all_goals first | exact (show nodupB _ = true from rfl) | exact Or.inr rfl | (rfl)
          | true =>
            simp only [cond_true]
            repeat refine cr ?_
            refine ends_id ?_
            refine endK [?_] (h2 := ?_) (h3 := ?_) (nd := ?_)
            rotate_left 1
            all_goals (repeat' first|exact ce0|refine ce ?_|refine ce2 ?_ ?_|(refine Or.inr (bx_eq rfl rfl ?_);(try dsimp only [C.ren,C.ren.all]);(try exact rfl))|exact SVLe.refl|refine ceb ?_)
            all_goals first | exact (show nodupB _ = true from rfl) | exact Or.inr rfl | (rfl)
      · have e : tgO m c n = ([],2) := by unfold tgO; rw [if_pos ⟨hv,hvd⟩,if_pos hB,if_neg hsy]
        rw [e]
        refine does_of (k := 0) Tryz.func11 rfl Tryz.ntmps11 rfl rfl fun w F0 S0 ρ0 => ?_
        dsimp only [argT,argH]
        repeat' first|(apply n3;exact a_nilO eS rfl;exact rfl)|(apply n3;exact a_new (gb := .bx _) rfl;exact rfl;refine dA ?_)|(apply p3;exact a_pure (sv := .one _) rfl;exact rfl)|refine cdn ?_|refine g_reg (id := 0) ?_|fail
        first | refine g_turn (t_frzB (d := 3) (i := 0) rfl rfl rfl) ?_ | refine o_turn (t_frzB (d := 3) (i := 0) rfl rfl rfl) ?_
        repeat' first|(apply p3;(exact pu1);exact rfl)|refine cdn ?_|refine g_reg (id := 1) ?_|(apply c4 0;exact callK1 (θ := []) (hD := (ValidConfig_ok _ _ preB213 preB213 preB213));exact rfl;exact rfl;exact rfl;refine dM ?_)|(apply c4 0;exact callK1 (θ := []) (hD := (textsCodeM_ok _ _));exact rfl;exact rfl;exact rfl;refine dM ?_)|fail
        simp only [hand,cond_true,if_pos hB]
        repeat' first|(apply n3;exact a_nilO eS rfl;exact rfl)|(apply p3;(first|exact pu1|exact a_ne rfl rfl);exact rfl)|refine cd ?_|(apply c4 1;exact callK1 (θ := []) (hD := (TagWordOfN_ok _ _ preB213 preB213 preB213 preB213 preB213 preB213));exact rfl;exact rfl;exact rfl;refine dM ?_)|fail
        repeat refine cr ?_
        refine ends_id ?_
        refine endK [?_] (h2 := ?_) (h3 := ?_) (nd := ?_)
        rotate_left 1
        all_goals (repeat' first|exact ce0|refine ce ?_|refine ce2 ?_ ?_|(refine Or.inr (bx_eq rfl rfl ?_);(try dsimp only [C.ren,C.ren.all]);(try exact rfl))|exact SVLe.refl|refine ceb ?_)
        all_goals first | exact (show nodupB _ = true from rfl) | exact Or.inr rfl | (rfl)
    · have e : tgO m c n = ([],2) := by unfold tgO; rw [if_pos ⟨hv,hvd⟩,if_neg hB]
      rw [e]
      refine does_of (k := 0) Tryz.func11 rfl Tryz.ntmps11 rfl rfl fun w F0 S0 ρ0 => ?_
      dsimp only [argT,argH]
      repeat' first|(apply n3;exact a_nilO eS rfl;exact rfl)|(apply n3;exact a_new (gb := .bx _) rfl;exact rfl;refine dA ?_)|(apply p3;exact a_pure (sv := .one _) rfl;exact rfl)|refine cdn ?_|refine g_reg (id := 0) ?_|fail
      first | refine g_turn (t_frzB (d := 3) (i := 0) rfl rfl rfl) ?_ | refine o_turn (t_frzB (d := 3) (i := 0) rfl rfl rfl) ?_
      repeat' first|(apply p3;(exact pu1);exact rfl)|refine cdn ?_|refine g_reg (id := 1) ?_|(apply c4 0;exact callK1 (θ := []) (hD := (ValidConfig_ok _ _ preB213 preB213 preB213));exact rfl;exact rfl;exact rfl;refine dM ?_)|(apply c4 0;exact callK1 (θ := []) (hD := (textsCodeM_ok _ _));exact rfl;exact rfl;exact rfl;refine dM ?_)|fail
      simp only [hand,cond_true,if_neg hB]
      repeat' first|(apply n3;exact a_nilO eS rfl;exact rfl)|(apply p3;(first|exact pu1|exact a_ne rfl rfl);exact rfl)|refine cd ?_|fail
      repeat refine cr ?_
      refine ends_id ?_
      refine endK [?_] (h2 := ?_) (h3 := ?_) (nd := ?_)
      rotate_left 1
      all_goals (repeat' first|exact ce0|refine ce ?_|refine ce2 ?_ ?_|(refine Or.inr (bx_eq rfl rfl ?_);(try dsimp only [C.ren,C.ren.all]);(try exact rfl))|exact SVLe.refl|refine ceb ?_)
      all_goals first | exact (show nodupB _ = true from rfl) | exact Or.inr rfl | (rfl)
  · have e : tgO m c n = ([],1) := by unfold tgO; rw [if_neg hvc]
    have hand : (vMach m && vConf m c) = false := by
      cases h1 : vMach m with
      | false => rfl
      | true =>
        cases h2 : vConf m c with
        | false => rfl
        | true => exact absurd ⟨h1,h2⟩ hvc
    rw [e]
    refine does_of (k := 0) Tryz.func11 rfl Tryz.ntmps11 rfl rfl fun w F0 S0 ρ0 => ?_
    dsimp only [argT,argH]
    repeat' first|(apply n3;exact a_nilO eS rfl;exact rfl)|(apply n3;exact a_new (gb := .bx _) rfl;exact rfl;refine dA ?_)|(apply p3;exact a_pure (sv := .one _) rfl;exact rfl)|refine cdn ?_|refine g_reg (id := 0) ?_|fail
    first | refine g_turn (t_frzB (d := 3) (i := 0) rfl rfl rfl) ?_ | refine o_turn (t_frzB (d := 3) (i := 0) rfl rfl rfl) ?_
    repeat' first|(apply p3;(exact pu1);exact rfl)|refine cdn ?_|refine g_reg (id := 1) ?_|(apply c4 0;exact callK1 (θ := []) (hD := (ValidConfig_ok _ _ preB213 preB213 preB213));exact rfl;exact rfl;exact rfl;refine dM ?_)|(apply c4 0;exact callK1 (θ := []) (hD := (textsCodeM_ok _ _));exact rfl;exact rfl;exact rfl;refine dM ?_)|fail
    simp only [hand,cond_false]
    repeat' first|(apply n3;exact a_nilO eS rfl;exact rfl)|(apply p3;(first|exact pu1|exact a_ne rfl rfl);exact rfl)|refine cd ?_|fail
    repeat refine cr ?_
    refine ends_id ?_
    refine endK [?_] (h2 := ?_) (h3 := ?_) (nd := ?_)
    rotate_left 1
    all_goals (repeat' first|exact ce0|refine ce ?_|refine ce2 ?_ ?_|(refine Or.inr (bx_eq rfl rfl ?_);(try dsimp only [C.ren,C.ren.all]);(try exact rfl))|exact SVLe.refl|refine ceb ?_)
    all_goals first | exact (show nodupB _ = true from rfl) | exact Or.inr rfl | (rfl)
end Go.Proofs.YtnkeamihfiobdaaGreatDoor
end
section
set_option linter.unusedVariables false
set_option linter.unusedSimpArgs false
set_option maxRecDepth 100000
set_option maxHeartbeats 1000000
namespace Go.Proofs.YtnkeamihfiobdaaGreatDoor
open Go Foot Go.RowKit
end Go.Proofs.YtnkeamihfiobdaaGreatDoor
end
section
set_option linter.unusedVariables false
set_option linter.unusedSimpArgs false
set_option maxRecDepth 100000
set_option maxHeartbeats 1000000
namespace Go.Proofs.YtnkeamihfiobdaaGreatDoor
open Go Foot Go.RowKit
end Go.Proofs.YtnkeamihfiobdaaGreatDoor
end
section
set_option linter.unusedVariables false
set_option linter.unusedSimpArgs false
set_option maxRecDepth 100000
set_option maxHeartbeats 1000000
namespace Go.Proofs.YtnkeamihfiobdaaGreatDoor
open Go Foot Go.RowKit
theorem ixT_mem {x : Bs} {l : List Bs} (h : x ∈ l) : 0 ≤ ixT x l := by
  induction l with
  | nil => exact absurd h (by simp)
  | cons y l ih =>
    rw [ixT]
    by_cases e : x = y
    · rw [if_pos e]; omega
    · rw [if_neg e]
      have := ih (by rcases List.mem_cons.1 h with q | q; exact absurd q e; exact q)
      rw [if_neg (by omega)]; omega
theorem preB222 {p : Prop} (h : p := by first | with_reducible assumption | omega | (simp only [List.length_append,List.length_cons,List.length_nil,List.length_set,List.length_replicate,List.length_take,List.length_drop,List.length_tail,List.length_dropLast,List.length_reverse] at *; omega) | exact mem_len (by assumption) (by omega) | (with_reducible refine Int.le_trans (Int.ofNat_le.2 (trimR_len _)) ?_; simp only [List.length_cons,List.length_tail]; omega) | (exact (ruAt_ok (by assumption) (by assumption) (by assumption)).2.1) | (exact (ruAt_ok (by assumption) (by assumption) (by assumption)).2.1) | (have := vMach_bd (by assumption); omega) | (simp only [List.length_append,List.length_cons,List.length_nil,repW_len,seN_len] at *; omega) | (simp only [mC_ch,mC_tu]; omega) | (have := vTag_bd (by assumption); omega) | (have := (‹Gd _ _›).le; omega) | (exact tgHalts_no (by assumption)) | (exact tgHead (by assumption) (by assumption) (by assumption)) | (exact Int.le_trans (tgStep_gd (by assumption) (by assumption) (by assumption) (by assumption)).le (by decide)) | (exact vTag_r (by assumption)) | (with_reducible refine Int.le_trans (Int.ofNat_le.2 (pushL_len _ _)) ?_; simp only [List.length_dropLast]; omega) | exact ls_at (by assumption) (by omega) | exact pt_gd (by assumption) | exact lv_at (by assumption) (by omega) | exact pt_gd (lv_at (by assumption) (by omega)) | exact (ask_ok (by assumption)).1 | exact (ask_ok (by assumption)).2.1 | exact (ask_ok (by assumption)).2.2.1 | exact (ask_ok (by assumption)).2.2.2 | trivial) : p := h
theorem ContainsT_ok (l : List Bs) (x : Bs) (hl : (l.length : Int) ≤ 16777216) : Does Tryz.prog 127 [.one (shS l),.one (str x)] [] (.one (boo (decide (x ∈ l)))) [] := by
  have e : decide (x ∈ l) = decide (0 ≤ ixT x l) := by
    by_cases h : x ∈ l
    · rw [decide_eq_true h,decide_eq_true (ixT_mem h)]
    · rw [decide_eq_false h,ixT_no h]; rfl
  rw [e]
  refine does_of (k := 0) Tryz.func127 rfl Tryz.ntmps127 rfl rfl fun w F0 S0 ρ0 => ?_
  dsimp only [argT,argH]
  repeat' first|(apply p3;(first|exact pu1|exact puC);exact rfl)|refine cd ?_|(apply c4 0;exact callK1 (θ := []) (hD := (IndexT_ok _ _ preB222));exact rfl;exact rfl;exact rfl;refine dM ?_)|fail
  repeat refine cr ?_
  refine ends_id ?_
  refine endK [] (h2 := ?_) (h3 := ?_) (nd := ?_)
  all_goals (repeat' first|exact ce0|refine ce ?_|refine ce2 ?_ ?_|exact SVLe.refl|refine ceb ?_)
  all_goals first | exact (show nodupB _ = true from rfl) | exact Or.inr rfl | (rfl)
theorem sizeT_ok (l : List Bs) (hl : (l.length : Int) ≤ 16777216) : Does Tryz.prog 126 [.one (shS l)] [] (.one (int l.length)) [] := by
  refine does_of (k := 0) Tryz.func126 rfl Tryz.ntmps126 rfl rfl fun w F0 S0 ρ0 => ?_
  dsimp only [argT,argH]
  repeat' first|(apply p3;(first|exact pu1|exact puN);exact rfl)|refine cd ?_|fail
  repeat refine cr ?_
  refine ends_id ?_
  refine endK [] (h2 := ?_) (h3 := ?_) (nd := ?_)
  all_goals (repeat' first|exact ce0|refine ce ?_|refine ce2 ?_ ?_|exact SVLe.refl|refine ceb ?_)
  all_goals first | exact (show nodupB _ = true from rfl) | exact Or.inr rfl | (rfl)
theorem simulable_ok (l : List Bs) (h1 : 1 ≤ l.length) (hl : (l.length : Int) ≤ 600) (h : [] ∉ l) : Does Tryz.prog 59 [.one (shS l)] [] (.one (boo true)) [] := by
  have e := decide_eq_false h
  refine does_of (k := 0) Tryz.func59 rfl Tryz.ntmps59 rfl rfl fun w F0 S0 ρ0 => ?_
  dsimp only [argT,argH]
  repeat' first|(apply p3;exact pu1;exact rfl)|refine cd ?_|(apply c4 0;exact callK1 (θ := []) (hD := (sizeT_ok _ preB222));exact rfl;exact rfl;exact rfl;refine dM ?_)|(apply c4 0;exact callK1 (θ := []) (hD := (within_ok _ _ _));exact rfl;exact rfl;exact rfl;refine dM ?_)|(apply py3;exact rfl;exact rfl;exact pu1;exact rfl;exact rfl)|(apply cy4 0;exact rfl;exact rfl;exact callK1 (θ := []) (hD := (ContainsT_ok _ _ preB222));exact rfl;exact rfl;exact rfl;exact rfl;refine dM ?_)|((refine o_gs rfl rfl (fun hc => ?_) (fun hc => ?_)) <;> (try simp only [dcB] at hc) <;> (try first|contradiction|(exfalso;omega)))|fail
  repeat refine cr ?_
  refine ends_id ?_
  refine endK [] (h2 := ?_) (h3 := ?_) (nd := ?_)
  all_goals (repeat' first|exact ce0|refine ce ?_|refine ce2 ?_ ?_|exact SVLe.refl|refine ceb ?_)
  all_goals first | exact (show nodupB _ = true from rfl) | exact Or.inr rfl | ((rw [e]; rfl))
theorem fromZero_ok (l : List Int) (h1 : 1 ≤ l.length) (hl : (l.length : Int) ≤ 600) (h0 : l[0]'h1 = 0) (hr : risesL l = true) : Does Tryz.prog 60 [.one (shI l)] [] (.one (boo true)) [] := by
  refine does_of (k := 0) Tryz.func60 rfl Tryz.ntmps60 rfl rfl fun w F0 S0 ρ0 => ?_
  dsimp only [argT,argH]
  repeat' first|(apply p3;(first|exact pu1|exact puN|exact puC);exact rfl)|refine cd ?_|(apply py3;exact rfl;exact rfl;(first|exact pu1|exact puC|exact puI);exact rfl;exact rfl)|(apply cy4 0;exact rfl;exact rfl;exact callK1 (θ := []) (hD := (rising_ok _ preB222));exact rfl;exact rfl;exact rfl;exact rfl;refine dM ?_)|((refine o_gs rfl rfl (fun hc => ?_) (fun hc => ?_)) <;> (try simp only [dcB] at hc) <;> (try first|contradiction|(exfalso;omega)))|fail
  repeat refine cr ?_
  refine ends_id ?_
  refine endK [] (h2 := ?_) (h3 := ?_) (nd := ?_)
  all_goals (repeat' first|exact ce0|refine ce ?_|refine ce2 ?_ ?_|exact SVLe.refl|refine ceb ?_)
  all_goals first | exact (show nodupB _ = true from rfl) | exact Or.inr rfl | ((rw [hr]))
def fsF (S : List Bs) : List Bs → Int → List Int → List Int
  | [],_,a => a
  | x :: T,i,a => if a.length < S.length then (if x = S.getD a.length [] then fsF S T (i + 1) (a ++ [i]) else fsF S T (i + 1) a) else a
theorem fsF_end {S : List Bs} {T : List Bs} {i : Int} {a : List Int} (h : ¬ a.length < S.length) : fsF S T i a = a := by
  cases T with
  | nil => rfl
  | cons x T => rw [fsF,if_neg h]
theorem fsF_hit {S : List Bs} {x : Bs} {T : List Bs} {i : Int} {a : List Int} (h : a.length < S.length) (e : x = S[a.length]) : fsF S (x :: T) i a = fsF S T (i + 1) (a ++ [i]) := by
  rw [fsF,if_pos h,if_pos (by rw [e,List.getD_eq_getElem?_getD,List.getElem?_eq_getElem h]; rfl)]
theorem fsF_miss {S : List Bs} {x : Bs} {T : List Bs} {i : Int} {a : List Int} (h : a.length < S.length) (e : ¬ x = S[a.length]) : fsF S (x :: T) i a = fsF S T (i + 1) a := by
  rw [fsF,if_pos h,if_neg (by rw [List.getD_eq_getElem?_getD,List.getElem?_eq_getElem h]; exact e)]
theorem FindSimulation_ok (S T : List Bs) (A : List Int) (s1 : 1 ≤ S.length) (sl : (S.length : Int) ≤ 600) (sn : [] ∉ S) (t1 : 1 ≤ T.length) (tl : (T.length : Int) ≤ 600) (h0 : T[0]'t1 = S[0]'s1) (hA : fsF S T 0 [] = A) (hl : A.length = S.length) : Does Tryz.prog 12 [.one (shS S),.one (shS T)] [] (.tup [(false,[.gv 0]),(false,[int 0])]) [roI A] := by
  refine does_of (k := 0) Tryz.func12 rfl Tryz.ntmps12 rfl rfl fun w F0 S0 ρ0 => ?_
  dsimp only [argT,argH]
  repeat' first|(apply n3;exact a_nilO eI rfl;exact rfl)|(apply n3;(exact a_litE eI [] rfl rfl rfl rfl rfl rfl rfl rfl);exact rfl;refine dA ?_)|(apply p3;(exact pu1);exact rfl)|refine cd ?_|(apply c4 0;exact callK1 (θ := []) (hD := (simulable_ok S s1 sl sn));exact rfl;exact rfl;exact rfl;refine dM ?_)|(apply py3;exact rfl;exact rfl;(first|exact pu1|exact puN|exact puC);exact rfl;exact rfl)|((refine g_cond rfl (fun hc => ?_) (fun hc => ?_)) <;> (try simp only [dcB] at hc) <;> (try first|contradiction|(exfalso;omega)))|fail
  refine g_loop_id ?_
  refine loopK [0,1,4,5] [1] (fun y : Int × List Int => 0 ≤ y.1 ∧ y.1 ≤ T.length ∧ (y.2.length : Int) ≤ y.1 ∧ y.2.length ≤ S.length ∧ (0 < y.1 → 0 < y.2.length) ∧ fsF S (T.drop y.1.toNat) y.1 y.2 = A) (fun y => [(7,.one (int y.1)),(6,.one (.gv 1))]) (fun y => [(1,roI y.2)]) (fun y => (T.length - y.1).toNat) ((0 : Int),[]) [0,1] (hI := ?_) (hr := ?_)
  · exact ⟨by simp,by simp,by simp,by simp,by simp,by simpa using hA⟩
  · rintro ⟨i,a⟩ ⟨k0,k1,k2,k3,k4,k5⟩
    dsimp only [List.cons_append,List.nil_append] at *
    skip
    have hl2 : ((a ++ [i]).length : Int) = a.length + 1 := by simp
    repeat' first|(apply n3;exact a_nilO eI rfl;exact rfl)|(apply n3;(exact a_litE eI [_] rfl rfl rfl rfl rfl rfl rfl rfl);exact rfl;refine dA ?_)|(apply p3;(first|exact pu1|exact puN|exact puC|exact a_add rfl rfl (by omega) (by omega));exact rfl)|refine cd ?_|(apply s3;exact a_appE (fP rfl) rfl rfl rfl rfl nowR (by (simp <;> omega)) (by decide) (by decide) (by exact rfl);exact rfl;exact rfl)|refine o_no rfl rfl rfl rfl ?_|(apply py3;exact rfl;exact rfl;(first|exact pu1|exact puN|exact puC);exact rfl;exact rfl)|(apply g_drN (id := 7) okM [[],[],[0,1],[0,1,2],[],[],[5],[4,5,6],[4,5,6,7],[0,1,2,3,4,5,6,7,8]] [([],[]),([],[]),([],[]),([],[]),([],[]),([],[]),([],[]),([],[]),([],[]),([],[])] 0;(focus (refine dp 0 0 [31,34,35,36,37,38] [] pu1 ?_;refine dp 1 0 [30,34,35,36,37,38] [] pu1 ?_;refine dp 2 3 [34,35,36,37,38] [] puI ?_;refine dp 3 7 [34,35,36,37,38] [] (by exact a_pure (sv := .one _) rfl) ?_;refine dp 4 0 [30,31,32,33,35,36] [] pu1 ?_;refine dp 5 0 [30,31,32,33,34] [] pu1 ?_;refine dp 6 1 [30,31,32,33,34] [] (by exact puN) ?_;refine dp 7 7 [30,31,32,33] [] puI ?_;refine dp 8 15 [30,31,32,33] [] (by exact a_pure (sv := .one _) rfl) ?_;refine dp 9 511 [] [] (a_eqT rfl rfl) ?_;(refine d_nil ?_;refine dN ?_)));any_goals kernel_rfl)|((first|refine o_gs rfl rfl (fun hc => ?_) (fun hc => ?_)|refine g_cond rfl (fun hc => ?_) (fun hc => ?_)) <;> (try simp only [dcB] at hc) <;> (try first|contradiction|(exfalso;omega)))|fail
    · have hi : i.toNat < T.length := by omega
      have ha : a.length < S.length := by omega
      rw [List.drop_eq_getElem_cons hi,fsF_hit ha (by assumption)] at k5
      refine q_again (i + 1,a ++ [i]) [0,3] (by exact stk) ?_ ?_
      · dsimp only
        exact ⟨by omega,by omega,by omega,by omega,by omega,by rw [show (i + 1).toNat = i.toNat + 1 by omega]; exact k5⟩
      · dsimp only; omega
    · exfalso
      have hi : i = 0 := by omega
      have ha : a = [] := List.length_eq_zero_iff.1 (by omega)
      subst hi ha
      exact absurd h0 (by assumption)
    · have hi : i.toNat < T.length := by omega
      have ha : a.length < S.length := by omega
      rw [List.drop_eq_getElem_cons hi,fsF_miss ha (by assumption)] at k5
      refine q_again (i + 1,a) [0,1] (by exact stk) ?_ ?_
      · dsimp only
        exact ⟨by omega,by omega,by omega,by omega,by omega,by rw [show (i + 1).toNat = i.toNat + 1 by omega]; exact k5⟩
      · dsimp only; omega
    · rw [fsF_end (by omega)] at k5
      subst k5
      repeat refine cr ?_
      refine ends_id ?_
      refine endK [?_] (h2 := ?_) (h3 := ?_) (nd := ?_)
      rotate_left 1
      all_goals (repeat' first|exact ce0|refine ce ?_|refine ce2 ?_ ?_|exact SVLe.refl|refine ceb ?_)
      all_goals first | exact (show nodupB _ = true from rfl) | exact Or.inr rfl | (rfl)
    · rw [List.drop_of_length_le (by omega),fsF] at k5
      subst k5
      exfalso; omega
    · rw [List.drop_of_length_le (by omega),fsF] at k5
      subst k5
      repeat refine cr ?_
      refine ends_id ?_
      refine endK [?_] (h2 := ?_) (h3 := ?_) (nd := ?_)
      rotate_left 1
      all_goals (repeat' first|exact ce0|refine ce ?_|refine ce2 ?_ ?_|exact SVLe.refl|refine ceb ?_)
      all_goals first | exact (show nodupB _ = true from rfl) | exact Or.inr rfl | (rfl)
@[irreducible] def gpL (l : List Int) : List Int := (List.range (l.length - 1)).map fun k => l.getD (k + 1) 0 - l.getD k 0
theorem GapsOf_ok (l : List Int) (h1 : 1 ≤ l.length) (hl : (l.length : Int) ≤ 600) (h0 : l[0]'h1 = 0) (hr : risesL l = true) (hb : ∀ x ∈ l,0 ≤ x ∧ x ≤ 1000) : Does Tryz.prog 13 [.one (shI l)] [] (.tup [(false,[.gv 0]),(false,[int 0])]) [roI (gpL l)] := by
  have e : gpL l = (List.range (l.length - 1)).map fun k => l.getD (k + 1) 0 - l.getD k 0 := by unfold gpL; rfl
  rw [e]
  refine does_of (k := 0) Tryz.func13 rfl Tryz.ntmps13 rfl rfl fun w F0 S0 ρ0 => ?_
  dsimp only [argT,argH]
  repeat' first|(apply n3;exact a_nilO eI rfl;exact rfl)|(apply n3;exact a_litE eI [] rfl rfl rfl rfl rfl rfl rfl rfl;exact rfl;refine dA ?_)|(apply p3;(exact pu1);exact rfl)|refine cd ?_|(apply c4 0;exact callK1 (θ := []) (hD := (fromZero_ok l h1 hl h0 hr));exact rfl;exact rfl;exact rfl;refine dM ?_)|fail
  refine g_loop_id ?_
  refine loopK [0,2,3] [1] (fun y : Int × List Int => 1 ≤ y.1 ∧ y.1 ≤ l.length ∧ y.2 = (List.range (y.1 - 1).toNat).map fun k => l.getD (k + 1) 0 - l.getD k 0) (fun y => [(5,.one (int y.1)),(4,.one (.gv 1))]) (fun y => [(1,roI y.2)]) (fun y => (l.length - y.1).toNat) ((1 : Int),[]) [0,1] (hI := ?_) (hr := ?_)
  · exact ⟨by simp,by dsimp only; omega,by simp⟩
  · rintro ⟨i,a⟩ ⟨k0,k1,k2⟩
    dsimp only [List.cons_append,List.nil_append] at *
    skip
    repeat' first|(apply p3;(first|exact pu1|exact puN|exact puC);exact rfl)|refine cdn ?_|refine g_reg (id := 5) ?_|refine g_reg (id := 8) ?_|((refine g_cond rfl (fun hc => ?_) (fun hc => ?_)) <;> (try simp only [dcB] at hc) <;> (try first|contradiction|(exfalso;omega)))|fail
    · have hi : i.toNat < l.length := by omega
      have hj : (i - 1).toNat < l.length := by omega
      have ja : a.length = (i - 1).toNat := by rw [k2]; simp
      have b1 := hb _ (List.getElem_mem hi)
      have b2 := hb _ (List.getElem_mem hj)
      have ea : (List.range (i + 1 - 1).toNat).map (fun k => l.getD (k + 1) 0 - l.getD k 0) = a ++ [l[i.toNat]'hi - l[(i - 1).toNat]'hj] := by
        rw [show (i + 1 - 1).toNat = (i - 1).toNat + 1 by omega,List.range_succ,List.map_append,← k2]
        congr 1
        rw [List.map_singleton,show (i - 1).toNat + 1 = i.toNat by omega,← get_getD l 0 _ hi,← get_getD l 0 _ hj]
      repeat' first|(apply p3;(first|exact pu1|exact a_add rfl rfl (by omega) (by omega));exact rfl)|refine cd ?_|(apply g_drN (id := 7) okM [[],[],[],[1,2],[1,2,3],[],[],[6],[5,6,7],[5,6,7,8],[1,2,3,4,5,6,7,8,9],[1,2,3,4,5,6,7,8,9,10],[0,1,2,3,4,5,6,7,8,9,10,11],[0,1,2,3,4,5,6,7,8,9,10,11,12]] [([],[]),([],[]),([],[]),([],[]),([],[]),([],[]),([],[]),([],[]),([],[]),([],[]),([],[]),([0],[]),([1],[_]),([],[])] 2;(focus (refine dp 0 0 [17,18,19,20,21,22,23,24,25,26,27] [(true,0)] pu1 ?_;refine dp 1 0 [16,18,21,22,23,24,25] [] pu1 ?_;refine dp 2 0 [16,17,21,22,23,24,25] [] pu1 ?_;refine dp 3 3 [16,21,22,23,24,25] [] puI ?_;refine dp 4 7 [16,21,22,23,24,25] [] puL ?_;refine dp 5 0 [16,17,18,19,20,22,23] [] pu1 ?_;refine dp 6 0 [16,17,18,19,20,21] [] pu1 ?_;refine dp 7 1 [16,17,18,19,20,21] [] (a_sub rfl rfl (by omega) (by omega)) ?_;refine dp 8 7 [16,17,18,19,20] [] puI ?_;refine dp 9 15 [16,17,18,19,20] [] puL ?_;refine dp 10 511 [16] [] (a_sub rfl rfl (by omega) (by omega)) ?_;refine duE 11 1023 [16] [] (atN 0 (fun _ => a_litE eI [_] rfl rfl rfl rfl rfl rfl rfl rfl)) (by exact rfl) (by exact rfl) ?_;refine duE 12 4095 [] [] (atS 1 (fun _ hj => a_appE (fP rfl) rfl rfl rfl rfl nowR (by (simp <;> omega)) (by decide) hj (by exact rfl)) (by decide)) (by exact rfl) (by exact rfl) ?_;refine dp 13 8191 [] [] pu1 ?_;(refine d_nil ?_;refine dN ?_)));any_goals kernel_rfl)|fail
      refine q_again (i + 1,a ++ [l[i.toNat]'hi - l[(i - 1).toNat]'hj]) [0,3] (by exact stk) ?_ ?_
      · dsimp only
        exact ⟨by omega,by omega,ea.symm⟩
      · dsimp only; omega
    · rw [show (i - 1).toNat = l.length - 1 by omega] at k2
      subst k2
      repeat refine cr ?_
      refine ends_id ?_
      refine endK [?_] (h2 := ?_) (h3 := ?_) (nd := ?_)
      rotate_left 1
      all_goals (repeat' first|exact ce0|refine ce ?_|refine ce2 ?_ ?_|(refine Or.inr (bx_eq rfl rfl ?_);(try dsimp only [C.ren,C.ren.all]);(try exact rfl))|exact SVLe.refl|refine ceb ?_)
      all_goals first | exact (show nodupB _ = true from rfl) | exact Or.inr rfl | (rfl)
end Go.Proofs.YtnkeamihfiobdaaGreatDoor
end
section
set_option linter.unusedVariables false
set_option linter.unusedSimpArgs false
set_option maxRecDepth 100000
set_option maxHeartbeats 1000000
namespace Go.Proofs.YtnkeamihfiobdaaGreatDoor
open Go Foot Go.RowKit
def stF (t : Tg) : Nat → List Int → List Int
  | 0,w => w
  | k + 1,w => stF t k (tgStep t w)
theorem stF_add (t : Tg) : ∀ (a b : Nat) (w : List Int),stF t (a + b) w = stF t b (stF t a w)
  | 0,b,w => by rw [Nat.zero_add]; rfl
  | a + 1,b,w => by rw [Nat.add_right_comm]; exact stF_add t a b _
structure Seg (t : Tg) (P : List Int → Prop) (k : Nat) (w z : List Int) : Prop where
  e : stF t k w = z
  h : ∀ i,i < k → tgHalts t (stF t i w) = false ∧ tgOver t (stF t i w) = false
  p : ∀ i,0 < i → i < k → P (stF t i w)
theorem Seg.zero (t : Tg) (P : List Int → Prop) (w : List Int) : Seg t P 0 w w := ⟨rfl,fun i h => absurd h (by omega),fun i h1 h2 => absurd h2 (by omega)⟩
theorem Seg.trans {t : Tg} {P : List Int → Prop} {a b : Nat} {w z y : List Int} (h1 : Seg t P a w z) (h2 : Seg t P b z y) (hz : P z) : Seg t P (a + b) w y := by
  have key : ∀ i,a ≤ i → stF t i w = stF t (i - a) z := fun i hi => by
    rw [← h1.e,← stF_add,show a + (i - a) = i by omega]
  refine ⟨by rw [stF_add,h1.e,h2.e],fun i hi => ?_,fun i h0 hi => ?_⟩
  · by_cases q : i < a
    · exact h1.h i q
    · rw [key i (by omega)]; exact h2.h _ (by omega)
  · by_cases q : i < a
    · exact h1.p i h0 q
    · rw [key i (by omega)]
      by_cases e : i = a
      · rw [e,Nat.sub_self]; exact hz
      · exact h2.p _ (by omega) (by omega)
def flP : List (Int × Int) → List Int
  | [] => []
  | p :: l => p.1 :: p.2 :: flP l
theorem flP_len : ∀ l : List (Int × Int),(flP l).length = 2 * l.length
  | [] => rfl
  | p :: l => by rw [flP,List.length_cons,List.length_cons,flP_len l,List.length_cons]; omega
theorem flP_app : ∀ (a b : List (Int × Int)),flP (a ++ b) = flP a ++ flP b
  | [],b => rfl
  | p :: a,b => by rw [List.cons_append,flP,flP,flP_app a b]; rfl
abbrev woA (t : Tg) (x : Int) : List Int := t.wo.getD x.toNat []
def ouP (t : Tg) : List (Int × Int) → List Int
  | [] => []
  | p :: l => woA t p.1 ++ ouP t l
theorem ouP_app (t : Tg) : ∀ (a b : List (Int × Int)),ouP t (a ++ b) = ouP t a ++ ouP t b
  | [],b => rfl
  | p :: a,b => by rw [List.cons_append,ouP,ouP,ouP_app t a b,List.append_assoc]
theorem one_step {t : Tg} (hd : t.de = 2) (a b : Int) (u : List Int) : tgStep t (a :: b :: u) = u ++ woA t a := by
  unfold tgStep tgOut
  rw [hd]
  rfl
theorem one_halt {t : Tg} (hd : t.de = 2) {a b : Int} {u : List Int} (h : a ∉ t.ha) : tgHalts t (a :: b :: u) = false := by
  unfold tgHalts
  rw [hd]
  simp only [List.headD_cons,List.length_cons,Bool.or_eq_false_iff]
  exact ⟨decide_eq_false (by omega),decide_eq_false h⟩
theorem one_over {t : Tg} {a b : Int} {u : List Int} (h : u.length + 2 + (woA t a).length ≤ 1000) : tgOver t (a :: b :: u) = false := by
  unfold tgOver tgOut
  rw [Bool.not_eq_false',decide_eq_true_eq,List.length_append]
  simp only [List.headD_cons,List.length_cons]
  have : (t.wo.getD a.toNat []).length = (woA t a).length := rfl
  omega
theorem Seg.one {t : Tg} {P : List Int → Prop} (hd : t.de = 2) {a b : Int} {u : List Int} (h : a ∉ t.ha) (hl : u.length + 2 + (woA t a).length ≤ 1000) : Seg t P 1 (a :: b :: u) (u ++ woA t a) := by
  refine ⟨one_step hd a b u,fun i hi => ?_,fun i h1 h2 => absurd h2 (by omega)⟩
  have : i = 0 := by omega
  subst this
  exact ⟨one_halt hd h,one_over hl⟩
theorem Seg.pass {t : Tg} {P : List Int → Prop} (hd : t.de = 2) : ∀ (l : List (Int × Int)) (u : List Int),(∀ p ∈ l,p.1 ∉ t.ha) → 2 * l.length + u.length + (ouP t l).length ≤ 1000 → (∀ a b,a ≠ [] → b ≠ [] → a ++ b = l → P (flP b ++ u ++ ouP t a)) → Seg t P l.length (flP l ++ u) (u ++ ouP t l)
  | [],u,_,_,_ => by rw [ouP,List.append_nil]; exact Seg.zero t P u
  | p :: l,u,h,hl,hP => by
    have hlen := flP_len l
    rw [ouP,List.length_append,List.length_cons] at hl
    have s1 : Seg t P 1 (flP (p :: l) ++ u) (flP l ++ u ++ woA t p.1) := by
      rw [flP]
      have hx : (flP l ++ u).length + 2 + (woA t p.1).length ≤ 1000 := by rw [List.length_append]; omega
      exact Seg.one hd (h p (by simp)) hx
    have s2 := Seg.pass (P := P) hd l (u ++ woA t p.1) (fun q hq => h q (by simp [hq])) (by rw [List.length_append]; omega) (fun a b ha hb hab => by
      have := hP (p :: a) b (by simp) hb (by rw [List.cons_append,hab])
      rw [ouP] at this
      simpa [List.append_assoc] using this)
    rw [← List.append_assoc] at s2
    by_cases he : l = []
    · subst he
      rw [ouP,ouP,List.append_nil]
      exact s1
    · have hm : P (flP l ++ u ++ woA t p.1) := by
        have := hP [p] l (by simp) he rfl
        rw [ouP,ouP,List.append_nil] at this
        exact this
      have := s1.trans s2 hm
      rw [List.length_cons,Nat.add_comm l.length 1,ouP]
      rw [List.append_assoc] at this
      exact this
end Go.Proofs.YtnkeamihfiobdaaGreatDoor
end
