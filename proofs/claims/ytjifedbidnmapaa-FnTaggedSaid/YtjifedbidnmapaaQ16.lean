/- Parts of the proof (16 of 21). -/
import Derived.Lib.AppendZerosOnto
import Derived.Test.YtjifedbidnmapaaQ15
section
set_option linter.unusedVariables false
set_option linter.unusedSimpArgs false
set_option maxRecDepth 100000
namespace Go.Proofs.Ytjifedbidnmapaa
open Go Foot
section
variable {P : Program} {g : Gh} {st : St} {dst : Option Tmp} {ty : TypeId} {pos : String} {after : Array Edge} {guard : Option (Nat × Bool)} {x y : Operand}
theorem a_cap0 {T e : Nat} (hx : opd st x = .one nilC) (hu : P.underlying T = some (.slice e)) : Acts P g ⟨dst,.call { callee := .builtin .cap,args := #[x],argTypes := #[T] },ty,pos,after,guard⟩ st (.one (int 0)) [] [] := by
  refine acts_of fun a w S ρ F h => ⟨.int .i64 0,?_,⟨rfl,rfl⟩⟩
  have e := opd_sc h hx
  simp only [execOp,resolve,invoke,builtin]
  simp [e,builtin,Builtin.cap_,run_underlying hu,goInt]
theorem a_sl0 {T zz : Nat} {hi : Operand} (hx : opd st x = .one nilC) (hh : opd st hi = .one (int 0)) (hT : sliceB P T zz = true) : Acts P g ⟨dst,.slice T x none (some hi) none,ty,pos,after,guard⟩ st (.one nilC) [] [] := by
  refine acts_of fun a w S ρ F h => ⟨.slice none 0 0,?_,⟨rfl,rfl⟩⟩
  show (do pure (.value (← Instr.sliceAt T (a.eval x) ((none : Option Operand).map a.eval) ((some hi).map a.eval) ((none : Option Operand).map a.eval))) : Sem Next).run P w = _
  rw [opd_sc h hx]
  have := run_slice (P := P) (w := w) (T := T) (z := zz) (len := 0) (cap := 0) (l := 0) (u := 0) (ad := none) (lo := none) (hi := some (a.eval hi)) hT (.inl ⟨rfl,rfl⟩) (.inr ⟨.i64,by rw [opd_sc h hh]; rfl⟩) (Nat.le_refl _) (Nat.le_refl _) (Nat.le_refl _)
  simp at this
  simp [this]
theorem a_appZ {T Tn e zz bytes n i : Nat} {vs : List Value} {row : List D} {k1 kn : IntKind} {m : Int} (hu : P.underlying T = some (.slice e)) (hun : P.underlying Tn = some (.int kn)) (hT : zeroC P e = some vs) (hT2 : appB P T zz bytes = true) (hz0 : 0 < zz)
    (hx : opd st x = .one nilC) (hy : opd st y = .one (.d (.sc (.int k1 m)))) (hm : 0 < m) (hmn : m.toNat = n) (hn : m < 9223372036854775808) (hb : n * bytes ≤ 281474976710656) (hrow : repRow (vs.map scD) n = row) :
    Acts P g ⟨dst,.call { callee := .builtin .append,args := #[x,y],argTypes := #[T,Tn] },ty,pos,after,guard⟩ st (.one (.gv i)) [] [(i,.row zz row)] := by
  subst hrow
  have hmn' : m = (n : Int) := by omega
  subst hmn'
  refine ⟨fun a w S ρ F h hfr K Q hK => ?_⟩
  have hfr' : ρ i = none := by simpa using hfr _ (List.mem_singleton.2 rfl)
  clear hfr
  obtain ⟨inf,zv,hi,hz,rfl,hall⟩ := zeroC_spec hT
  unfold appB at hT2
  rw [hu] at hT2
  simp only [hi,hz,Bool.and_eq_true] at hT2
  obtain ⟨⟨hz1,hb1⟩,hz3⟩ := hT2
  have hz1 := Nat.eq_of_beq_eq_true hz1
  have hb1 := Nat.eq_of_beq_eq_true hb1
  have hz3 := Nat.eq_of_beq_eq_true hz3
  subst hz1 hb1
  have hnp : 0 < n := by omega
  have hnc : Builtin.nextslicecap (0 + n) 0 = n := by unfold Builtin.nextslicecap; rw [if_pos (by omega)]; omega
  have hrun := Lib.run_append_grow_zeros (P := P) w T Tn ty e inf zv k1 kn hu hun hi hz none 0 0 [] (by simp [Builtin.firstCells]) n hnp hz0 (by omega) (by omega) hb (by rw [hnc]; exact hb)
  have hge := grownCap_ge w (0 + n) 0 e
  have hrun2 : (execOp a.eval ⟨dst,.call { callee := .builtin .append,args := #[x,y],argTypes := #[T,Tn] },ty,pos,after,guard⟩).run P w = .ok (.value (.slice (some ⟨w.heap.size,0,none⟩) (0 + n) (grownCap w (0 + n) 0 e))) (w.drew.alloc (.cells ((#[] : Array Value) ++ Builtin.zeroCells zv.cells n ++ Builtin.zeroCells zv.cells (grownCap w (0 + n) 0 e - (0 + n))) e)) := by
    simp only [execOp,resolve,invoke,builtin]
    simp [opd_sc h hx,opd_sc h hy,builtin]
    simp at hrun
    rw [hrun]
    rfl
  refine oper_in (fun _ h => nomatch h) ?_
  rw [hrun2,Oper.uponIn_value]
  rw [Nat.zero_add] at hge ⊢
  generalize grownCap w n 0 e = c at *
  have hzr : (Builtin.zeroCells zv.cells n).toList = repRow zv.cells.toList n := by unfold Builtin.zeroCells; exact zero_row zv.cells n
  have hzs : zv.cells.toList.length = inf.size := by simpa using hz3
  have hallr : (repRow zv.cells.toList n).all Value.oneCell' = true := by
    rw [List.all_eq_true] at hall ⊢
    intro u hu
    simp only [repRow,List.mem_flatten,List.mem_replicate] at hu
    obtain ⟨l,⟨_,rfl⟩,hu⟩ := hu
    exact hall u hu
  have hrs := reps_sc (w := w) (S := S) hallr
  rw [repRow_map] at hrs
  have hk : Keeps no w (w.drew.alloc (.cells ((#[] : Array Value) ++ Builtin.zeroCells zv.cells n ++ Builtin.zeroCells zv.cells (c - n)) e)) := keeps_drew.trans (keeps_alloc _) (no_le _)
  have hcells : (w.drew.alloc (.cells ((#[] : Array Value) ++ Builtin.zeroCells zv.cells n ++ Builtin.zeroCells zv.cells (c - n)) e)).heap[w.heap.size]? = some (.cells ((#[] : Array Value) ++ Builtin.zeroCells zv.cells n ++ Builtin.zeroCells zv.cells (c - n)) e) := by
    rw [heap_alloc]
    exact Array.getElem?_push_size
  have hsz : (w.drew.alloc (.cells ((#[] : Array Value) ++ Builtin.zeroCells zv.cells n ++ Builtin.zeroCells zv.cells (c - n)) e)).heap.size = w.heap.size + 1 := by rw [heap_alloc,Array.size_push]; rfl
  have hfull : ((#[] : Array Value) ++ Builtin.zeroCells zv.cells n ++ Builtin.zeroCells zv.cells (c - n)).size = c * inf.size := by
    have hz4 : zv.cells.size = inf.size := hz3
    simp only [Array.size_append,size_zeroCells,hz4,Array.size_empty,Nat.zero_add,← Nat.add_mul]
    congr 1
    omega
  generalize w.drew.alloc (.cells ((#[] : Array Value) ++ Builtin.zeroCells zv.cells n ++ Builtin.zeroCells zv.cells (c - n)) e) = W at *
  have hrep : Rep W S (.sl true inf.size (repRow (zv.cells.toList.map scD) n)) (.slice (some ⟨w.heap.size,0,none⟩) n c) (rng w.heap.size 0 (c * inf.size)) := by
    simp only [Rep,if_true]
    refine ⟨_,n,c,rfl,by rw [repRow_len,List.length_map,hzs],hz0,hge,.inr ⟨w.heap.size,0,repRow zv.cells.toList n,no,rfl,?_,hrs.keep Agree.no (hk.agree h.exS (dis_no _)) (le_refl _) (le_refl _),le_refl _,no_le _,dis_no _,?_⟩⟩
    · intro k u hk'
      have hkl : k < (repRow zv.cells.toList n).length := (List.getElem?_eq_some_iff.1 hk').1
      rw [← hzr] at hkl hk'
      simp only [World.cell?,hcells]
      simp only [Nat.zero_add,Option.isSome_none,Bool.false_eq_true,if_false]
      rw [Array.getElem?_append_left (by simpa using hkl)]
      simpa using hk'
    · intro k hk'
      have : k < ((#[] : Array Value) ++ Builtin.zeroCells zv.cells n ++ Builtin.zeroCells zv.cells (c - n)).size := by rw [hfull]; exact hk'
      simp only [World.cell?,World.frozen?,hcells,Nat.zero_add]
      simp only [Option.isSome_none,Bool.false_eq_true,if_false]
      rw [Array.getElem?_eq_getElem this]
      simp
  refine hK _ _ no _ _ (Done.new (S1 := no) hk hfr' (fun ρ' hl _ => hrep) ?_) ⟨by simp,rfl⟩
  rintro b o ⟨rfl,_,_⟩
  exact ⟨Nat.le_refl _,by omega⟩
theorem a_appZI {T Tn e i : Nat} {k1 kn : IntKind} {m : Int} (hu : P.underlying T = some (.slice e)) (hun : P.underlying Tn = some (.int kn)) (hT : zeroC P e = some [.int .i64 0]) (hT2 : appB P T 1 8 = true)
    (hx : opd st x = .one nilC) (hy : opd st y = .one (.d (.sc (.int k1 m)))) (hm : 0 < m) (hn : m ≤ 16777216) :
    Acts P g ⟨dst,.call { callee := .builtin .append,args := #[x,y],argTypes := #[T,Tn] },ty,pos,after,guard⟩ st (.one (.gv i)) [] [(i,.row 1 (rows eI (List.replicate m.toNat 0)))] :=
  a_appZ hu hun hT hT2 (by decide) hx hy hm rfl (by omega) (by omega) (rows_rep eI 0 _)
end
end Go.Proofs.Ytjifedbidnmapaa
end
section
set_option linter.unusedVariables false
set_option linter.unusedSimpArgs false
set_option maxRecDepth 100000
set_option maxHeartbeats 4000000
namespace Go.Proofs.Ytjifedbidnmapaa
open Go Foot
theorem preB69 {p : Prop} (h : p := by first | with_reducible assumption | omega | (simp only [List.length_append,List.length_cons,List.length_nil,List.length_set,List.length_replicate,List.length_take,List.length_drop,List.length_tail,List.length_dropLast,List.length_reverse] at *; omega) | exact mem_len (by assumption) (by omega) | (with_reducible refine Int.le_trans (Int.ofNat_le.2 (trimR_len _)) ?_; simp only [List.length_cons,List.length_tail]; omega) | (exact (ruAt_ok (by assumption) (by assumption) (by assumption)).2.1) | (exact (ruAt_ok (by assumption) (by assumption) (by assumption)).2.1) | (have := vMach_bd (by assumption); omega) | (simp only [mC_ch,mC_tu]; omega) | (have := vTag_bd (by assumption); omega) | (have := (‹Gd _ _›).le; omega) | (exact tgHalts_no (by assumption)) | (exact tgHead (by assumption) (by assumption) (by assumption)) | (exact Int.le_trans (tgStep_gd (by assumption) (by assumption) (by assumption) (by assumption)).le (by decide)) | (exact vTag_r (by assumption)) | (with_reducible refine Int.le_trans (Int.ofNat_le.2 (pushL_len _ _)) ?_; simp only [List.length_dropLast]; omega) | exact ls_at (by assumption) (by omega) | exact pt_gd (by assumption) | exact lv_at (by assumption) (by omega) | exact pt_gd (lv_at (by assumption) (by omega)) | exact (ask_ok (by assumption)).1 | exact (ask_ok (by assumption)).2.1 | exact (ask_ok (by assumption)).2.2.1 | exact (ask_ok (by assumption)).2.2.2 | trivial) : p := h
theorem growI_ok (n : Int) (h0 : 0 ≤ n) (h1 : n ≤ 16777216) : Does Try.prog 61 [.one nilC,.one (int n)] [] (.one (.gv 0)) [roI []] := by
  refine does_of (k := 0) Try.func61 rfl Try.ntmps61 rfl rfl fun w F0 S0 ρ0 => ?_
  dsimp only [argT,argH]
  repeat' first|(apply n3;exact a_nilO eI rfl;exact rfl)|(apply p3;(first|exact pu1|exact puC|exact a_cap0 rfl (fE rfl)|exact a_sub rfl rfl (by omega) (by omega));exact rfl)|refine cdn ?_|refine g_reg (id := 0) ?_|refine g_reg (id := 1) ?_|refine g_reg (id := 3) ?_|refine g_reg (id := 4) ?_|((refine g_cond rfl (fun hc => ?_) (fun hc => ?_)) <;> (try simp only [dcB] at hc) <;> (try first|contradiction|(exfalso;omega)))|fail
  · repeat' first|(apply n3;exact a_appZI (fE rfl) (fK rfl) (fZ rfl) (fP rfl) rfl rfl (by omega) (by omega);exact rfl;refine dA ?_)|(apply p3;(first|exact pu1|exact a_cap0 rfl (fE rfl)|exact a_sl0 rfl rfl (fS rfl));exact rfl)|refine cd ?_|(apply s3;exact a_slHO rfl rfl rfl (fS rfl) (by omega) (by omega) (by exact rfl) (by decide);exact rfl;exact rfl)|fail
    repeat refine cr ?_
    refine ends_id ?_
    refine endK [?_] (h2 := ?_) (h3 := ?_) (nd := ?_)
    rotate_left 1
    all_goals (repeat' first|exact ce0|refine ce ?_|refine ce2 ?_ ?_|exact SVLe.refl|refine ceb ?_)
    all_goals first | exact (show nodupB _ = true from rfl) | exact Or.inr rfl | (rfl)
  · repeat' first|(apply n3;exact a_nilO eI rfl;exact rfl)|(apply p3;(exact pu1);exact rfl)|refine cd ?_|fail
    repeat refine cr ?_
    refine ends_id ?_
    refine endK [?_] (h2 := ?_) (h3 := ?_) (nd := ?_)
    rotate_left 1
    all_goals (repeat' first|exact ce0|refine ce ?_|refine ce2 ?_ ?_|exact SVLe.refl|refine ceb ?_)
    all_goals first | exact (show nodupB _ = true from rfl) | exact Or.inr rfl | (rfl)
theorem concatI_ok (ls : List (List Int)) (hn : (ls.length : Int) ≤ 16777216) (hl : ∀ x ∈ ls,(x.length : Int) ≤ 16777216) (ht : (ls.flatten.length : Int) ≤ 16777216) : Does Try.prog 42 [.one (shW ls)] [] (.one (.gv 0)) [roI ls.flatten] := by
  have key : ∀ i : Nat,(ls.take i).flatten.length ≤ ls.flatten.length := fun i => by
    have := congrArg (fun l => l.flatten.length) (List.take_append_drop i ls)
    simp only [List.flatten_append,List.length_append] at this
    omega
  have nx : ∀ (i : Int) (h0 : 0 ≤ i) (h : i.toNat < ls.length),(ls.take (i + 1).toNat).flatten = (ls.take i.toNat).flatten ++ ls[i.toNat] := fun i h0 h => by
    rw [show (i + 1).toNat = i.toNat + 1 by omega,List.take_succ_eq_append_getElem h,List.flatten_append,List.flatten_cons,List.flatten_nil,List.append_nil]
  refine does_of (k := 0) Try.func42 rfl Try.ntmps42 rfl rfl fun w F0 S0 ρ0 => ?_
  dsimp only [argT,argH]
  repeat' first|(apply n3;exact a_nilO eI rfl;exact rfl)|(apply p3;(first|exact pu1|exact puN);exact rfl)|refine cd ?_|fail
  refine g_loop_id ?_
  refine loopK [0,2,9,10] [] (fun y : Int × Int => 0 ≤ y.1 ∧ y.1 ≤ ls.length ∧ y.2 = (ls.take y.1.toNat).flatten.length) (fun y => [(11,.one (int y.1)),(3,.one (int y.2))]) (fun y => []) (fun y => (ls.length - y.1).toNat) ((0 : Int),(0 : Int)) [0] (hI := ?_) (hr := ?_)
  · exact ⟨by simp,by simp,by simp⟩
  · rintro ⟨i,s⟩ ⟨h0,h1,h2⟩
    dsimp only [List.cons_append,List.nil_append] at *
    skip
    repeat' first|(apply p3;(exact puC);exact rfl)|refine cdn ?_|refine g_reg (id := 3) ?_|((refine g_cond rfl (fun hc => ?_) (fun hc => ?_)) <;> (try simp only [dcB] at hc) <;> (try first|contradiction|(exfalso;omega)))|fail
    · have hk := key i.toNat
      have hk2 := key (i + 1).toNat
      have hx := nx i h0 (by omega)
      have hv := hl _ (List.getElem_mem (show i.toNat < ls.length by omega))
      have hx2 := congrArg List.length hx
      rw [List.length_append] at hx2
      repeat' first|(apply p3;(first|exact pu1|exact puC|exact puN|exact a_add rfl rfl (by omega) (by omega)|exact puI);exact rfl)|refine cd ?_|((refine g_cond rfl (fun hc => ?_) (fun hc => ?_)) <;> (try simp only [dcB] at hc) <;> (try first|contradiction|(exfalso;omega)))|fail
      refine q_again (i + 1,_) [0] (by exact stk) ?_ ?_
      · exact ⟨by dsimp only; omega,by dsimp only; omega,by dsimp only; omega⟩
      · dsimp only; omega
    · have hk := key i.toNat
      repeat' first|(apply p3;(first|exact pu1|exact puN);exact rfl)|refine cd ?_|(apply c4 1;exact callK1 (θ := []) (hD := (growI_ok _ preB69 preB69));exact rfl;exact rfl;exact rfl;refine dM ?_)|fail
      refine g_loop_id ?_
      refine loopK [2,6,25,26] [1] (fun y : Int × List Int => 0 ≤ y.1 ∧ y.1 ≤ ls.length ∧ y.2 = (ls.take y.1.toNat).flatten) (fun y => [(27,.one (int y.1))]) (fun y => [(1,roI y.2)]) (fun y => (ls.length - y.1).toNat) ((0 : Int),([] : List Int)) [0,1] (hI := ?_) (hr := ?_)
      · exact ⟨by simp,by simp,by simp⟩
      · rintro ⟨j,o⟩ ⟨j0,j1,j2⟩
        dsimp only [List.cons_append,List.nil_append] at *
        skip
        repeat' first|(apply p3;(exact puC);exact rfl)|refine cdn ?_|refine g_reg (id := 11) ?_|((refine g_cond rfl (fun hc => ?_) (fun hc => ?_)) <;> (try simp only [dcB] at hc) <;> (try first|contradiction|(exfalso;omega)))|fail
        · have hk2 := key (j + 1).toNat
          have hx := nx j j0 (by omega)
          have hv := hl _ (List.getElem_mem (show j.toNat < ls.length by omega))
          have hx2 := congrArg List.length hx
          rw [List.length_append] at hx2
          have hx3 := congrArg List.length j2
          repeat' first|(apply p3;(first|exact pu1|exact a_add rfl rfl (by omega) (by omega)|exact puI);exact rfl)|refine cd ?_|(apply s3;exact a_appE (fP rfl) rfl rfl rfl rfl nowR (by omega) (by decide) (by decide) (by exact rfl);exact rfl;exact rfl)|fail
          refine q_again (j + 1,_) [0,2] (by exact stk) ?_ ?_
          · exact ⟨by dsimp only; omega,by dsimp only; omega,by dsimp only; rw [hx,j2]⟩
          · dsimp only; omega
        · rw [List.take_of_length_le (by omega)] at j2
          rw [← j2]
          repeat' first|(apply p3;(exact pu1);exact rfl)|refine cd ?_|fail
          repeat refine cr ?_
          refine ends_id ?_
          refine endK [?_] (h2 := ?_) (h3 := ?_) (nd := ?_)
          rotate_left 1
          all_goals (repeat' first|exact ce0|refine ce ?_|refine ce2 ?_ ?_|exact SVLe.refl|refine ceb ?_)
          all_goals first | exact (show nodupB _ = true from rfl) | exact Or.inr rfl | (rfl)
structure JnOk (ls : List (List Int)) : Prop where
  n : (ls.length : Int) ≤ 16777216
  l : ∀ x ∈ ls,(x.length : Int) ≤ 16777216
  t : (ls.flatten.length : Int) ≤ 16777216
theorem jn_two {a b : List Int} (h : (a.length : Int) + b.length ≤ 16777216) : JnOk [a,b] := by
  refine ⟨by simp,fun x hx => ?_,by simp; omega⟩
  simp only [List.mem_cons,List.not_mem_nil,or_false] at hx
  rcases hx with rfl | rfl <;> omega
theorem joined_ok (ls : List (List Int)) (g : JnOk ls) : Does Try.prog 24 [.one (shW ls)] [] (.one (.gv 0)) [roI ls.flatten] := by
  obtain ⟨hn,hl,ht⟩ := g
  refine does_of (k := 0) Try.func24 rfl Try.ntmps24 rfl rfl fun w F0 S0 ρ0 => ?_
  dsimp only [argT,argH]
  repeat' first|(apply p3;exact pu1;exact rfl)|refine cd ?_|(apply c4 1;exact callK1 (θ := []) (hD := (concatI_ok _ preB69 preB69 preB69));exact rfl;exact rfl;exact rfl;refine dM ?_)|fail
  repeat refine cr ?_
  refine ends_id ?_
  refine endK [?_] (h2 := ?_) (h3 := ?_) (nd := ?_)
  rotate_left 1
  all_goals (repeat' first|exact ce0|refine ce ?_|refine ce2 ?_ ?_|exact SVLe.refl|refine ceb ?_)
  all_goals first | exact (show nodupB _ = true from rfl) | exact Or.inr rfl | (rfl)
end Go.Proofs.Ytjifedbidnmapaa
end
section
set_option linter.unusedVariables false
set_option linter.unusedSimpArgs false
set_option maxRecDepth 100000
set_option maxHeartbeats 4000000
namespace Go.Proofs.Ytjifedbidnmapaa
open Go Foot
end Go.Proofs.Ytjifedbidnmapaa
end
section
set_option linter.unusedVariables false
set_option linter.unusedSimpArgs false
set_option maxRecDepth 100000
set_option maxHeartbeats 4000000
namespace Go.Proofs.Ytjifedbidnmapaa
open Go Foot Go.RowKit
end Go.Proofs.Ytjifedbidnmapaa
end
section
set_option linter.unusedVariables false
set_option linter.unusedSimpArgs false
set_option maxRecDepth 100000
set_option maxHeartbeats 4000000
namespace Go.Proofs.Ytjifedbidnmapaa
open Go Foot Go.RowKit
end Go.Proofs.Ytjifedbidnmapaa
end
section
set_option linter.unusedVariables false
set_option linter.unusedSimpArgs false
set_option maxRecDepth 100000
set_option maxHeartbeats 4000000
namespace Go.Proofs.Ytjifedbidnmapaa
open Go Foot Go.RowKit
end Go.Proofs.Ytjifedbidnmapaa
end
section
set_option linter.unusedVariables false
set_option linter.unusedSimpArgs false
set_option maxRecDepth 100000
set_option maxHeartbeats 1000000
namespace Go.Proofs.Ytjifedbidnmapaa
open Go Foot Go.RowKit
end Go.Proofs.Ytjifedbidnmapaa
end
section
set_option linter.unusedVariables false
set_option linter.unusedSimpArgs false
set_option maxRecDepth 100000
set_option maxHeartbeats 1000000
namespace Go.Proofs.Ytjifedbidnmapaa
open Go Foot Go.RowKit
end Go.Proofs.Ytjifedbidnmapaa
end
section
set_option linter.unusedVariables false
set_option linter.unusedSimpArgs false
set_option maxRecDepth 100000
set_option maxHeartbeats 1000000
namespace Go.Proofs.Ytjifedbidnmapaa
open Go Foot Go.RowKit
end Go.Proofs.Ytjifedbidnmapaa
end
section
set_option linter.unusedVariables false
set_option linter.unusedSimpArgs false
set_option maxRecDepth 100000
set_option maxHeartbeats 1000000
namespace Go.Proofs.Ytjifedbidnmapaa
open Go Foot Go.RowKit
end Go.Proofs.Ytjifedbidnmapaa
end
section
set_option linter.unusedVariables false
set_option linter.unusedSimpArgs false
set_option maxRecDepth 100000
set_option maxHeartbeats 1000000
namespace Go.Proofs.Ytjifedbidnmapaa
open Go Foot Go.RowKit
theorem sizeW2_ok (xs : List (List Int)) (hx : (xs.length : Int) ≤ 16777216) : Does Try.prog 40 [.one (shW xs)] [] (.one (int xs.length)) [] := by
  refine does_of (k := 0) Try.func40 rfl Try.ntmps40 rfl rfl fun w F0 S0 ρ0 => ?_
  dsimp only [argT,argH]
  repeat' first|(apply p3;(first|exact pu1|exact puN);exact rfl)|refine cd ?_|fail
  repeat refine cr ?_
  refine ends_id ?_
  refine endK [] (h2 := ?_) (h3 := ?_) (nd := ?_)
  all_goals (repeat' first|exact ce0|refine ce ?_|refine ce2 ?_ ?_|exact SVLe.refl|refine ceb ?_)
  all_goals first | exact (show nodupB _ = true from rfl) | exact Or.inr rfl | (rfl)
end Go.Proofs.Ytjifedbidnmapaa
end
section
set_option linter.unusedVariables false
set_option linter.unusedSimpArgs false
set_option maxRecDepth 100000
set_option maxHeartbeats 1000000
namespace Go.Proofs.Ytjifedbidnmapaa
open Go Foot Go.RowKit
end Go.Proofs.Ytjifedbidnmapaa
end
section
set_option linter.unusedVariables false
set_option linter.unusedSimpArgs false
set_option maxRecDepth 100000
set_option maxHeartbeats 4000000
namespace Go.Proofs.Ytjifedbidnmapaa
open Go Foot
end Go.Proofs.Ytjifedbidnmapaa
end
section
set_option linter.unusedVariables false
set_option linter.unusedSimpArgs false
set_option maxRecDepth 100000
set_option maxHeartbeats 4000000
namespace Go.Proofs.Ytjifedbidnmapaa
open Go Foot Go.RowKit
end Go.Proofs.Ytjifedbidnmapaa
end
section
set_option linter.unusedVariables false
set_option linter.unusedSimpArgs false
set_option maxRecDepth 100000
set_option maxHeartbeats 1000000
namespace Go.Proofs.Ytjifedbidnmapaa
open Go Foot Go.RowKit
theorem indexI_ok (c : List Int) (x : Int) (hc : (c.length : Int) ≤ 16777216) : Does Try.prog 64 [.one (shI c),.one (int x)] [] (.one (int (if x ∈ c then (c.idxOf x : Nat) else -1))) [] := by
  refine does_of (k := 0) Try.func64 rfl Try.ntmps64 rfl rfl fun w F0 S0 ρ0 => ?_
  dsimp only [argT,argH]
  repeat' first|(apply p3;(first|exact pu1|exact puN);exact rfl)|refine cd ?_|fail
  refine g_loop_id ?_
  refine loopK [0,1,4,7] [] (fun y : Int => 0 ≤ y ∧ y ≤ c.length ∧ x ∉ c.take y.toNat) (fun y => [(8,.one (int y))]) (fun _ => []) (fun y => (c.length - y).toNat) (0 : Int) [] (hI := ?_) (hr := ?_)
  · exact ⟨by simp,by simp,by simp⟩
  · rintro i ⟨h0,h1,h2⟩
    dsimp only [List.cons_append,List.nil_append] at *
    skip
    repeat' first|(apply p3;(first|exact pu1|exact puC|exact a_add rfl rfl (by omega) (by omega)|exact puI);exact rfl)|refine cd ?_|((refine g_cond rfl (fun hc => ?_) (fun hc => ?_)) <;> (try simp only [dcB] at hc) <;> (try first|contradiction|(exfalso;omega)))|fail
    · have hi : i.toNat < c.length := by omega
      have hx : x = c[i.toNat]'hi := by assumption
      have hm : x ∈ c := by rw [hx]; exact List.getElem_mem hi
      have e : c.idxOf x = i.toNat := by
        rw [← List.take_append_drop i.toNat c,List.idxOf_append,if_neg h2,List.drop_eq_getElem_cons hi,← hx,List.idxOf_cons_self,List.length_take]
        omega
      rw [if_pos hm,e,show ((i.toNat : Nat) : Int) = i by omega]
      repeat refine cr ?_
      refine ends_id ?_
      refine endK [] (h2 := ?_) (h3 := ?_) (nd := ?_)
      all_goals (repeat' first|exact ce0|refine ce ?_|refine ce2 ?_ ?_|exact SVLe.refl|refine ceb ?_)
      all_goals first | exact (show nodupB _ = true from rfl) | exact Or.inr rfl | (rfl)
    · have hi : i.toNat < c.length := by omega
      have hx : ¬ x = c[i.toNat]'hi := by assumption
      refine q_again (i + 1) [] (by exact stk) ?_ ?_
      · refine ⟨by omega,by omega,?_⟩
        rw [show (i + 1).toNat = i.toNat + 1 by omega,List.take_succ_eq_append_getElem hi,List.mem_append,List.mem_singleton]
        exact fun z => z.elim h2 hx
      · omega
    · rw [List.take_of_length_le (by omega)] at h2
      rw [if_neg h2]
      repeat refine cr ?_
      refine ends_id ?_
      refine endK [] (h2 := ?_) (h3 := ?_) (nd := ?_)
      all_goals (repeat' first|exact ce0|refine ce ?_|refine ce2 ?_ ?_|exact SVLe.refl|refine ceb ?_)
      all_goals first | exact (show nodupB _ = true from rfl) | exact Or.inr rfl | (rfl)
section
variable {X : Type} {bd : X → List Int → X × Option Code} {x : X} {a : List Int} {r : List (List Int)} {O : X × Option Code}
end
end Go.Proofs.Ytjifedbidnmapaa
end
section
set_option linter.unusedVariables false
set_option linter.unusedSimpArgs false
set_option maxRecDepth 100000
set_option maxHeartbeats 1000000
namespace Go.Proofs.Ytjifedbidnmapaa
open Go Foot
theorem noOv_s {t : Tg} {k : Nat} {w : List Int} (h : NoOv t (k + 1) w) (hh : tgHalts t w = false) : tgOver t w = false ∧ NoOv t k (tgStep t w) := by
  rcases h with q | ⟨_,o,n⟩
  · rw [hh] at q; cases q
  · exact ⟨o,n⟩
theorem preB159 {p : Prop} (h : p := by first | with_reducible assumption | omega | (simp only [List.length_append,List.length_cons,List.length_nil,List.length_set,List.length_replicate,List.length_take,List.length_drop,List.length_tail,List.length_dropLast,List.length_reverse] at *; omega) | exact mem_len (by assumption) (by omega) | (with_reducible refine Int.le_trans (Int.ofNat_le.2 (trimR_len _)) ?_; simp only [List.length_cons,List.length_tail]; omega) | (exact (ruAt_ok (by assumption) (by assumption) (by assumption)).2.1) | (exact (ruAt_ok (by assumption) (by assumption) (by assumption)).2.1) | (have := vMach_bd (by assumption); omega) | (simp only [mC_ch,mC_tu]; omega) | (have := vTag_bd (by assumption); omega) | (have := (‹Gd _ _›).le; omega) | (exact tgHalts_no (by assumption)) | (exact tgHead (by assumption) (by assumption) (by assumption)) | (exact Int.le_trans (tgStep_gd (by assumption) (by assumption) (by assumption) (by assumption)).le (by decide)) | (exact vTag_r (by assumption)) | (with_reducible refine Int.le_trans (Int.ofNat_le.2 (pushL_len _ _)) ?_; simp only [List.length_dropLast]; omega) | exact ls_at (by assumption) (by omega) | exact pt_gd (by assumption) | exact lv_at (by assumption) (by omega) | exact pt_gd (lv_at (by assumption) (by omega)) | exact (ask_ok (by assumption)).1 | exact (ask_ok (by assumption)).2.1 | exact (ask_ok (by assumption)).2.2.1 | exact (ask_ok (by assumption)).2.2.2 | trivial) : p := h
theorem all_ok (u : List Int) : Does Try.prog 20 [.one (shI u)] [] (.one (boo true)) [] := by
  refine does_of (k := 0) Try.func20 rfl Try.ntmps20 rfl rfl fun w F0 S0 ρ0 => ?_
  dsimp only [argT,argH]
  repeat' first|(apply p3;exact a_pure (sv := .one _) rfl;exact rfl)|refine cd ?_|fail
  repeat refine cr ?_
  refine ends_id ?_
  refine endK [] (h2 := ?_) (h3 := ?_) (nd := ?_)
  all_goals (repeat' first|exact ce0|refine ce ?_|refine ce2 ?_ ?_|exact SVLe.refl|refine ceb ?_)
  all_goals first | exact (show nodupB _ = true from rfl) | exact Or.inr rfl | (rfl)
theorem runSysA_ok (t : Tg) (q : List Int) (B : Int) (hv : vTag t = true) (hg : Gd t q) (hx : (t.ha.length : Int) ≤ 1048576) (h1 : 0 ≤ B) (h2 : B ≤ 20000) (hn : NoOv t B.toNat q) : Does Try.prog 19 [.one (.ifc 41 false [.gv 0]),.one (int B),.one (.d (.fn (.func 20) []))] [.bx (tgR t 1),.row 1 (rows eI q)] (.tup [(false,[int ((rnT t B.toNat q).2.1 : Nat)]),(false,[boo (rnT t B.toNat q).2.2]),(false,[int 0])]) [.bx (tgR t 2),.dead,.row 1 (rows eI (rnT t B.toNat q).1)] := by
  have hb := vTag_bd hv
  refine does_of (k := 2) Try.func19 rfl Try.ntmps19 rfl rfl fun w F0 S0 ρ0 => ?_
  dsimp only [argT,argH]
  refine g_conv (t_mvB (i := 1) (j := 0) (k := 3) rfl rfl rfl rfl rfl rfl) ?_
  try dsimp only [setRow,List.map_cons,List.map_nil,scC,List.set_cons_zero,List.set_cons_succ]
  repeat' first|(apply p3;(exact pu1);exact rfl)|refine cd ?_|fail
  refine g_loop_id ?_
  refine loopK [0,1,2,6,7,8] [0,2] (fun x : Int × List Int => 0 ≤ x.1 ∧ x.1 ≤ B ∧ Gd t x.2 ∧ NoOv t (B - x.1).toNat x.2 ∧ rnT t B.toNat q = ((rnT t (B - x.1).toNat x.2).1,x.1.toNat + (rnT t (B - x.1).toNat x.2).2.1,(rnT t (B - x.1).toNat x.2).2.2)) (fun x => [(9,.one (int x.1))]) (fun x => [(0,.bx (tgR t 2)),(2,.row 1 (rows eI x.2))]) (fun x => (B - x.1).toNat) ((0 : Int),q) [0,1,2] (hI := ?_) (hr := ?_)
  · exact ⟨by simp,by simp; omega,hg,by simpa using hn,by simp⟩
  · rintro ⟨n,w⟩ ⟨k0,k1,k2,k3,k4⟩
    dsimp only [List.cons_append,List.nil_append] at *
    try dsimp only [tgR]
    skip
    have kl := k2.le
    repeat' first|(apply p3;(first|exact pu1|exact a_add rfl rfl (by omega) (by omega));exact rfl)|refine cd ?_|(apply c4 0;exact callM0 (dst := some 14) (θ := [0,2]) (hD := (tagWord_ok t _));exact rfl;exact rfl;exact rfl;refine dM ?_)|(apply c4 0;exact callK1 (θ := []) (hD := (all_ok _));exact rfl;exact rfl;exact rfl;refine dM ?_)|(apply c4 0;exact callM0 (dst := some 28) (θ := [0,2]) (hD := (tagHalts_ok t _ hv preB159 preB159));exact rfl;exact rfl;exact rfl;refine dM ?_)|(apply c4 1;exact callM0 (dst := some 30) (θ := [0,2]) (hD := (tagStep_ok t _ hv preB159 preB159 preB159 preB159));exact rfl;exact rfl;exact rfl;refine dM ?_)|refine o_no rfl rfl rfl rfl ?_|(apply py3;exact rfl;exact rfl;(first|exact pu1|exact puC);exact rfl;exact rfl)|(apply cy4 0;exact rfl;exact rfl;exact callM0 (dst := some 24) (θ := [0,2]) (hD := (tagHalts_ok t _ hv preB159 preB159));exact rfl;exact rfl;exact rfl;exact rfl;refine dM ?_)|((first|refine o_gs rfl rfl (fun hc => ?_) (fun hc => ?_)|refine g_cond rfl (fun hc => ?_) (fun hc => ?_)) <;> (try simp only [dcB] at hc) <;> (try first|contradiction|(exfalso;omega)))|fail
    · have e : rnT t (B - n).toNat w = (w,0,tgHalts t w) := by rw [show (B - n).toNat = 0 by omega,rnT]
      rw [k4,e]
      repeat refine cr ?_
      refine ends_id ?_
      refine endK [?_] (h2 := ?_) (h3 := ?_) (nd := ?_)
      rotate_left 1
      all_goals (repeat' first|exact ce0|refine ce ?_|refine ce2 ?_ ?_|(refine Or.inr (bx_eq rfl rfl ?_);(try dsimp only [C.ren,C.ren.all]);(try exact rfl))|exact SVLe.refl|refine ceb ?_)
      all_goals first | exact (show nodupB _ = true from rfl) | exact Or.inr rfl | ((first | rfl | omega | (simp only [Nat.add_zero]; omega) | (simp; omega)))
    · have e : rnT t (B - n).toNat w = (w,0,true) := rnT_h hc
      rw [k4,e]
      simp only [hc]
      repeat refine cr ?_
      refine ends_id ?_
      refine endK [?_] (h2 := ?_) (h3 := ?_) (nd := ?_)
      rotate_left 1
      all_goals (repeat' first|exact ce0|refine ce ?_|refine ce2 ?_ ?_|(refine Or.inr (bx_eq rfl rfl ?_);(try dsimp only [C.ren,C.ren.all]);(try exact rfl))|exact SVLe.refl|refine ceb ?_)
      all_goals first | exact (show nodupB _ = true from rfl) | exact Or.inr rfl | ((first | rfl | omega | (simp only [Nat.add_zero]; omega) | (simp; omega)))
    · exfalso
      rw [show (B - n).toNat = (B - (n + 1)).toNat + 1 by omega] at k3
      have := (noOv_s k3 (by assumption)).1
      simp_all
    · have e0 : (B - n).toNat = (B - (n + 1)).toNat + 1 := by omega
      rw [e0] at k3 k4
      obtain ⟨o,no⟩ := noOv_s k3 (by assumption)
      refine q_again (n + 1,tgStep t w) [0,1,3] (by exact stk) ?_ ?_
      · dsimp only
        refine ⟨by omega,by omega,tgStep_gd hv k2 (by assumption) o,no,?_⟩
        rw [k4,rnT_s (by assumption)]
        simp only [Prod.mk.injEq,true_and,and_true]
        omega
      · dsimp only; omega
end Go.Proofs.Ytjifedbidnmapaa
end
section
set_option linter.unusedVariables false
set_option linter.unusedSimpArgs false
set_option maxRecDepth 100000
set_option maxHeartbeats 1000000
namespace Go.Proofs.Ytjifedbidnmapaa
open Go Foot
theorem gd_word {t : Tg} {q : List Int} (h : Gd t q) : tgWord t.wo.length q = true := by
  unfold tgWord inAll
  rw [Bool.and_eq_true,List.all_eq_true,decide_eq_true_eq]
  exact ⟨fun x hx => by have := h.wd x hx; rw [decide_eq_true_eq]; omega,h.le⟩
structure RnOk (t : Tg) (q : List Int) (n : Int) : Prop where
  v : vTag t = true
  g : Gd t q
  ha : (t.ha.length : Int) ≤ 1048576
  wo : ∀ x ∈ t.wo,(x.length : Int) ≤ 16777216
  n : NoOv t n.toNat q
theorem preB163 {p : Prop} (h : p := by first | with_reducible assumption | omega | (simp only [List.length_append,List.length_cons,List.length_nil,List.length_set,List.length_replicate,List.length_take,List.length_drop,List.length_tail,List.length_dropLast,List.length_reverse] at *; omega) | exact mem_len (by assumption) (by omega) | (with_reducible refine Int.le_trans (Int.ofNat_le.2 (trimR_len _)) ?_; simp only [List.length_cons,List.length_tail]; omega) | (exact (ruAt_ok (by assumption) (by assumption) (by assumption)).2.1) | (exact (ruAt_ok (by assumption) (by assumption) (by assumption)).2.1) | (have := vMach_bd (by assumption); omega) | (simp only [mC_ch,mC_tu]; omega) | (have := vTag_bd (by assumption); omega) | (have := (‹Gd _ _›).le; omega) | (exact tgHalts_no (by assumption)) | (exact tgHead (by assumption) (by assumption) (by assumption)) | (exact Int.le_trans (tgStep_gd (by assumption) (by assumption) (by assumption) (by assumption)).le (by decide)) | (exact vTag_r (by assumption)) | (with_reducible refine Int.le_trans (Int.ofNat_le.2 (pushL_len _ _)) ?_; simp only [List.length_dropLast]; omega) | exact ls_at (by assumption) (by omega) | exact pt_gd (by assumption) | exact lv_at (by assumption) (by omega) | exact pt_gd (lv_at (by assumption) (by omega)) | exact (ask_ok (by assumption)).1 | exact (ask_ok (by assumption)).2.1 | exact (ask_ok (by assumption)).2.2.1 | exact (ask_ok (by assumption)).2.2.2 | trivial) : p := h
theorem RunTag_ok (t : Tg) (q : List Int) (n : Int) (g : RnOk t q n) (h1 : 1 ≤ n) (h2 : n ≤ 599) : Does Try.prog 6 [.agg (tgC t),.one (shI q),.one (int n)] [] (.tup [(false,[.gv 0]),(false,[int ((rnT t n.toNat q).2.1 : Nat)]),(false,[boo (rnT t n.toNat q).2.2]),(false,[int 0])]) [roI (rnT t n.toNat q).1] := by
  obtain ⟨hv,hg,hx,hys,hn⟩ := g
  have hb := vTag_bd hv
  have hw := gd_word hg
  have kv : (vTag t && tgWord t.wo.length q) = true := by rw [hv,hw]; rfl
  have hl := hg.le
  have hl2 := (rnT_gd hv hn hg).le
  refine does_of (k := 0) Try.func6 rfl Try.ntmps6 rfl rfl fun w F0 S0 ρ0 => ?_
  dsimp only [argT,argH]
  repeat' first|(apply n3;exact a_nilO eI rfl;exact rfl)|(apply n3;exact a_new (gb := .bx _) rfl;exact rfl;refine dA ?_)|(apply p3;(exact pu1);exact rfl)|refine cdn ?_|refine g_reg (id := 0) ?_|refine g_reg (id := 1) ?_|(apply c4 0;exact callK1 (θ := []) (hD := (tagCode_ok _ _ preB163 preB163 preB163 preB163));exact rfl;exact rfl;exact rfl;refine dM ?_)|fail
  simp only [kv,cond_true]
  repeat' first|(apply p3;(first|exact pu1|exact a_ne rfl rfl);exact rfl)|refine cd ?_|(apply c4 0;exact callK1 (θ := []) (hD := (budgetOk_ok _));exact rfl;exact rfl;exact rfl;refine dM ?_)|(apply c4 2;exact callK0 (θ := []) (hD := (tagRunOf_ok _ _ preB163));exact rfl;exact rfl;exact rfl;refine dM ?_)|(apply c4 1;exact callK0 (θ := [_,_]) (hD := (runSysA_ok t q n hv hg hx (by omega) (by omega) hn));exact rfl;exact rfl;exact rfl;refine dM ?_)|(apply c4 1;exact callK1 (θ := []) (hD := (clone_ok _ preB163));exact rfl;exact rfl;exact rfl;refine dM ?_)|((refine g_cond rfl (fun hc => ?_) (fun hc => ?_)) <;> (try simp only [dcB] at hc) <;> (try first|contradiction|(exfalso;omega)))|fail
  repeat refine cr ?_
  refine ends_id ?_
  refine endK [?_] (h2 := ?_) (h3 := ?_) (nd := ?_)
  rotate_left 1
  all_goals (repeat' first|exact ce0|refine ce ?_|refine ce2 ?_ ?_|(refine Or.inr (bx_eq rfl rfl ?_);(try dsimp only [C.ren,C.ren.all]);(try exact rfl))|exact SVLe.refl|refine ceb ?_)
  all_goals first | exact (show nodupB _ = true from rfl) | exact Or.inr rfl | (rfl)
end Go.Proofs.Ytjifedbidnmapaa
end
section
set_option linter.unusedVariables false
set_option linter.unusedSimpArgs false
set_option maxRecDepth 100000
set_option maxHeartbeats 4000000
namespace Go.Proofs.Ytjifedbidnmapaa
open Go Foot
theorem preB247 {p : Prop} (h : p := by first | with_reducible assumption | omega | (simp only [List.length_append,List.length_cons,List.length_nil,List.length_set,List.length_replicate,List.length_take,List.length_drop,List.length_tail,List.length_dropLast,List.length_reverse] at *; omega) | exact mem_len (by assumption) (by omega) | (with_reducible refine Int.le_trans (Int.ofNat_le.2 (trimR_len _)) ?_; simp only [List.length_cons,List.length_tail]; omega) | (exact (ruAt_ok (by assumption) (by assumption) (by assumption)).2.1) | (exact (ruAt_ok (by assumption) (by assumption) (by assumption)).2.1) | (have := vMach_bd (by assumption); omega) | (simp only [List.length_append,List.length_cons,List.length_nil,repW_len,seN_len] at *; omega) | (simp only [mC_ch,mC_tu]; omega) | (have := vTag_bd (by assumption); omega) | (have := (‹Gd _ _›).le; omega) | (exact tgHalts_no (by assumption)) | (exact tgHead (by assumption) (by assumption) (by assumption)) | (exact Int.le_trans (tgStep_gd (by assumption) (by assumption) (by assumption) (by assumption)).le (by decide)) | (exact vTag_r (by assumption)) | (with_reducible refine Int.le_trans (Int.ofNat_le.2 (pushL_len _ _)) ?_; simp only [List.length_dropLast]; omega) | exact ls_at (by assumption) (by omega) | exact pt_gd (by assumption) | exact lv_at (by assumption) (by omega) | exact pt_gd (lv_at (by assumption) (by omega)) | exact (ask_ok (by assumption)).1 | exact (ask_ok (by assumption)).2.1 | exact (ask_ok (by assumption)).2.2.1 | exact (ask_ok (by assumption)).2.2.2 | trivial) : p := h
theorem tagFront_ok (t : Tg) (hx : (t.wo.length : Int) ≤ 4) : Does Try.prog 22 [.agg (tgC t)] [] (.tup [(false,[int t.wo.length]),(false,[int (2 * (t.wo.length : Int))]),(false,[int 0])]) [] := by
  refine does_of (k := 0) Try.func22 rfl Try.ntmps22 rfl rfl fun w F0 S0 ρ0 => ?_
  dsimp only [argT,argH]
  repeat' first|(apply n3;exact a_new (gb := .bx _) rfl;exact rfl;refine dA ?_)|(apply p3;(first|exact pu1|exact a_mulB rfl rfl (by omega) (by omega) (by omega) (by omega)|exact puC);exact rfl)|refine cd ?_|(apply c4 0;exact callK1 (θ := []) (hD := (sizeW2_ok _ preB247));exact rfl;exact rfl;exact rfl;refine dM ?_)|((refine g_cond rfl (fun hc => ?_) (fun hc => ?_)) <;> (try simp only [dcB] at hc) <;> (try first|contradiction|(exfalso;omega)))|fail
  all_goals first | (exfalso; omega) | skip
  repeat refine cr ?_
  refine ends_id ?_
  refine endK [] (h2 := ?_) (h3 := ?_) (nd := ?_)
  all_goals (repeat' first|exact ce0|refine ce ?_|refine ce2 ?_ ?_|exact SVLe.refl|refine ceb ?_)
  all_goals first | exact (show nodupB _ = true from rfl) | exact Or.inr rfl | (rfl)
theorem fitting_ok (w : List Int) (hx : (w.length : Int) ≤ 400) : Does Try.prog 23 [.one (shI w)] [] (.tup [(false,[shI w]),(false,[int 0])]) [] := by
  refine does_of (k := 0) Try.func23 rfl Try.ntmps23 rfl rfl fun w F0 S0 ρ0 => ?_
  dsimp only [argT,argH]
  repeat' first|(apply p3;(first|exact pu1|exact puN|exact puC);exact rfl)|refine cd ?_|((refine g_cond rfl (fun hc => ?_) (fun hc => ?_)) <;> (try simp only [dcB] at hc) <;> (try first|contradiction|(exfalso;omega)))|fail
  all_goals first | (exfalso; omega) | skip
  repeat refine cr ?_
  refine ends_id ?_
  refine endK [] (h2 := ?_) (h3 := ?_) (nd := ?_)
  all_goals (repeat' first|exact ce0|refine ce ?_|refine ce2 ?_ ?_|exact SVLe.refl|refine ceb ?_)
  all_goals first | exact (show nodupB _ = true from rfl) | exact Or.inr rfl | (rfl)
theorem begins_ok (w f : List Int) (hx : (w.length : Int) ≤ 16777216) (hf : (f.length : Int) ≤ 16777216) : Does Try.prog 51 [.one (shI w),.one (shI f)] [] (.one (boo (bgn w f))) [] := by
  have e : bgn w f = (decide ((f.length : Int) ≤ w.length) && eqI (w.take (f.length : Int).toNat) f) := by
    unfold bgn eqI
    by_cases h : f.length ≤ w.length
    · rw [decide_eq_true (show (f.length : Int) ≤ w.length by omega),Bool.true_and]
      simp [h]
    · rw [decide_eq_false (show ¬ (f.length : Int) ≤ w.length by omega),Bool.false_and]
      simp [h]
  rw [e]
  refine does_of (k := 0) Try.func51 rfl Try.ntmps51 rfl rfl fun w F0 S0 ρ0 => ?_
  dsimp only [argT,argH]
  repeat' first|(apply p3;(first|exact pu1|exact puN|exact puC);exact rfl)|refine cd ?_|refine o_no rfl rfl rfl rfl ?_|(apply py3;exact rfl;exact rfl;(first|exact pu1|exact puN|exact a_slH rfl rfl rfl (fS rfl) (by omega) (by omega) (by exact rfl));exact rfl;exact rfl)|(apply cy4 0;exact rfl;exact rfl;exact callK1 (θ := []) (hD := (sEqual_ok _ _ preB247 preB247));exact rfl;exact rfl;exact rfl;exact rfl;refine dM ?_)|((refine o_gs rfl rfl (fun hc => ?_) (fun hc => ?_)) <;> (try simp only [dcB] at hc) <;> (try first|contradiction|(exfalso;omega)))|fail
  · repeat refine cr ?_
    refine ends_id ?_
    refine endK [] (h2 := ?_) (h3 := ?_) (nd := ?_)
    all_goals (repeat' first|exact ce0|refine ce ?_|refine ce2 ?_ ?_|exact SVLe.refl|refine ceb ?_)
    all_goals first | exact (show nodupB _ = true from rfl) | exact Or.inr rfl | ((rw [decide_eq_true hc,Bool.true_and]))
  · repeat refine cr ?_
    refine ends_id ?_
    refine endK [] (h2 := ?_) (h3 := ?_) (nd := ?_)
    all_goals (repeat' first|exact ce0|refine ce ?_|refine ce2 ?_ ?_|exact SVLe.refl|refine ceb ?_)
    all_goals first | exact (show nodupB _ = true from rfl) | exact Or.inr rfl | ((rw [decide_eq_false hc,Bool.false_and]))
theorem replaced_ok (q by_ : List Int) (at_ n : Int) (h0 : 0 ≤ at_) (h1 : at_ ≤ q.length) (h2 : 0 ≤ n) (h3 : at_ + n ≤ q.length) (hw : (q.length : Int) ≤ 100000) (hb : (by_.length : Int) ≤ 100000) : Does Try.prog 52 [.one (shI q),.one (int at_),.one (int n),.one (shI by_)] [] (.one (.gv 0)) [roI (q.take at_.toNat ++ by_ ++ q.drop (at_.toNat + n.toNat))] := by
  have hJ : JnOk [q.take at_.toNat,by_,q.drop (at_ + n).toNat] := by
    have h4 : (q.take at_.toNat).length ≤ q.length := by rw [List.length_take]; omega
    have h5 : (q.drop (at_ + n).toNat).length ≤ q.length := by rw [List.length_drop]; omega
    refine ⟨by simp,fun x hx => ?_,?_⟩
    · simp only [List.mem_cons,List.not_mem_nil,or_false] at hx
      rcases hx with h | h | h <;> rw [h] <;> omega
    · simp only [List.flatten_cons,List.flatten_nil,List.append_nil,List.length_append]
      omega
  have e : q.take at_.toNat ++ by_ ++ q.drop (at_.toNat + n.toNat) = [q.take at_.toNat,by_,q.drop (at_ + n).toNat].flatten := by
    simp only [List.flatten_cons,List.flatten_nil,List.append_nil,List.append_assoc]
    rw [show (at_ + n).toNat = at_.toNat + n.toNat by omega]
  rw [e]
  refine does_of (k := 0) Try.func52 rfl Try.ntmps52 rfl rfl fun w F0 S0 ρ0 => ?_
  dsimp only [argT,argH]
  repeat' first|(apply p3;exact a_pure (sv := .one _) rfl;exact rfl)|refine cd ?_|(apply g_drN (id := 1) okM [[],[],[0,1],[],[],[],[],[5,6],[4,5,6,7],[0,1,2,3,4,5,6,7,8],[0,1,2,3,4,5,6,7,8,9],[0,1,2,3,4,5,6,7,8,9,10]] [([],[]),([],[]),([],[]),([],[]),([],[]),([],[]),([],[]),([],[]),([],[]),([],[]),([0],[]),([],[])] 1;(focus (refine dp 0 0 [10,12,13,14,15,16,17] [] pu1 ?_;refine dp 1 0 [9,12,13,14,15,16,17] [] pu1 ?_;refine dp 2 3 [12,13,14,15,16,17] [] (by exact a_slH rfl rfl rfl (fS rfl) (by omega) (by omega) (by exact rfl)) ?_;refine dp 3 0 [9,10,11,13,14,15,16,17] [] pu1 ?_;refine dp 4 0 [9,10,11,12,14,15,16] [] pu1 ?_;refine dp 5 0 [9,10,11,12,13,15] [] pu1 ?_;refine dp 6 0 [9,10,11,12,13,14] [] pu1 ?_;refine dp 7 3 [9,10,11,12,13] [] (a_add rfl rfl (by omega) (by omega)) ?_;refine dp 8 15 [9,10,11,12] [] (by exact a_slT rfl rfl rfl (fS rfl) (by omega) (by omega) (by exact rfl)) ?_;refine dp 9 511 [] [] (a_litF (dst := some 18) eW [_,_,_] rfl rfl rfl rfl rfl rfl rfl rfl nowR) ?_;refine duN 10 1023 [] [] (callD1 (n := _) 0 (θ := []) (hD := (joined_ok [q.take at_.toNat,by_,q.drop (at_ + n).toNat] hJ))) (by exact rfl) (by exact rfl) ?_;refine dp 11 2047 [] [] pu1 ?_;(refine d_nil ?_;refine dN ?_)));any_goals kernel_rfl)|fail
  repeat refine cr ?_
  refine ends_id ?_
  refine endK [?_] (h2 := ?_) (h3 := ?_) (nd := ?_)
  rotate_left 1
  all_goals (repeat' first|exact ce0|refine ce ?_|refine ce2 ?_ ?_|(refine Or.inr (bx_eq rfl rfl ?_);(try dsimp only [C.ren,C.ren.all]);(try exact rfl))|exact SVLe.refl|refine ceb ?_)
  all_goals first | exact (show nodupB _ = true from rfl) | exact Or.inr rfl | (rfl)
theorem WordOfTag_ok (t : Tg) (q : List Int) (hv : vTag t = true) (hg : Gd t q) (hx : (t.wo.length : Int) ≤ 4) (hh : (t.ha.length : Int) ≤ 100) (hys : ∀ x ∈ t.wo,(x.length : Int) ≤ 16777216) (hq : (q.length : Int) ≤ 300) : Does Try.prog 7 [.agg (tgC t),.one (shI q)] [] (.tup [(false,[shI (2 * (t.wo.length : Int) :: q)]),(false,[int 0])]) [] := by
  have hw := gd_word hg
  have hJ : JnOk [[2 * (t.wo.length : Int)],q] := jn_two (by simp; omega)
  have e : [[2 * (t.wo.length : Int)],q].flatten = 2 * (t.wo.length : Int) :: q := by simp
  refine does_of (k := 0) Try.func7 rfl Try.ntmps7 rfl rfl fun w F0 S0 ρ0 => ?_
  dsimp only [argT,argH]
  repeat' first|(apply n3;exact a_new (gb := .bx _) rfl;exact rfl;refine dA ?_)|(apply p3;(first|exact pu1|exact a_ne rfl rfl);exact rfl)|refine cdn ?_|refine g_reg (id := 0) ?_|refine g_reg (id := 1) ?_|refine g_reg (id := 2) ?_|refine g_reg (id := 3) ?_|refine g_reg (id := 4) ?_|refine g_reg (id := 5) ?_|(apply c4 0;exact callK1 (θ := []) (hD := (tagCode_ok _ _ preB247 preB247 preB247 preB247));exact rfl;exact rfl;exact rfl;refine dM ?_)|(apply c4 0;exact callK1 (θ := []) (hD := (tagFront_ok _ preB247));exact rfl;exact rfl;exact rfl;refine dM ?_)|((refine g_cond rfl (fun hc => ?_) (fun hc => ?_)) <;> (try simp only [dcB] at hc) <;> (try first|contradiction|(exfalso;omega)))|fail
  all_goals first | (exfalso; rw [hv,hw] at hc; exact hc rfl) | skip
  repeat' first|(apply p3;exact a_litF (dst := some 26) eI [_] rfl rfl rfl rfl rfl rfl rfl rfl nowR;exact rfl)|(apply p3;exact a_litF (dst := some 28) eW [_,_] rfl rfl rfl rfl rfl rfl rfl rfl nowR;exact rfl)|(apply p3;(exact pu1);exact rfl)|refine cd ?_|(apply c4 0;exact callF (hD := (joined_ok [[2 * (t.wo.length : Int)],q] hJ));exact rfl;exact rfl;exact rfl;refine dM ?_)|(apply c4 0;exact callK0 (θ := []) (hD := (fitting_ok [[2 * (t.wo.length : Int)],q].flatten (by rw [e];simp;omega)));exact rfl;exact rfl;exact rfl;refine dM ?_)|fail
  simp only [e]
  repeat refine cr ?_
  refine ends_id ?_
  refine endK [] (h2 := ?_) (h3 := ?_) (nd := ?_)
  all_goals (repeat' first|exact ce0|refine ce ?_|refine ce2 ?_ ?_|exact SVLe.refl|refine ceb ?_)
  all_goals first | exact (show nodupB _ = true from rfl) | exact Or.inr rfl | (rfl)
theorem tagOfWordN_ok (t : Tg) (q : List Int) (hx : (t.wo.length : Int) ≤ 4) (hq : (q.length : Int) ≤ 1000) (hn : tgW t.wo.length q = none) : Does Try.prog 27 [.agg (tgC t),.one (shI q)] [] (.tup [(false,[nilC]),(false,[boo false])]) [] := by
  have hs : ¬ (q.headD 0 = 2 * (t.wo.length : Int) ∧ inAll 0 ((t.wo.length : Int) - 1) q.tail = true ∧ q ≠ []) := fun h => by
    unfold tgW at hn
    rw [if_pos h] at hn
    cases hn
  refine does_of (k := 0) Try.func27 rfl Try.ntmps27 rfl rfl fun w F0 S0 ρ0 => ?_
  dsimp only [argT,argH]
  repeat' first|(apply n3;exact a_new (gb := .bx _) rfl;exact rfl;refine dA ?_)|(apply p3;(first|exact pu1|exact puN|exact puC|exact a_slT rfl rfl rfl (fS rfl) (by omega) (by omega) (by exact rfl));exact rfl)|refine cd ?_|(apply c4 0;exact callK1 (θ := []) (hD := (tagFront_ok _ preB247));exact rfl;exact rfl;exact rfl;refine dM ?_)|(apply c4 1;exact callK1 (θ := []) (hD := (clone_ok _ preB247));exact rfl;exact rfl;exact rfl;refine dM ?_)|refine o_no rfl rfl rfl rfl ?_|(apply py3;exact rfl;exact rfl;(first|exact pu1|exact a_ne rfl rfl|exact a_slT rfl rfl rfl (fS rfl) (by omega) (by omega) (by exact rfl)|exact a_sub rfl rfl (by omega) (by omega)|exact puI);exact rfl;exact rfl)|(apply cy4 0;exact rfl;exact rfl;exact callK1 (θ := []) (hD := (allWithin_ok _ _ _ preB247));exact rfl;exact rfl;exact rfl;exact rfl;refine dM ?_)|((first|refine o_gs rfl rfl (fun hc => ?_) (fun hc => ?_)|refine g_cond rfl (fun hc => ?_) (fun hc => ?_)) <;> (try simp only [dcB] at hc) <;> (try first|contradiction|(exfalso;omega)))|fail
  · repeat refine cr ?_
    refine ends_id ?_
    refine endK [] (h2 := ?_) (h3 := ?_) (nd := ?_)
    all_goals (repeat' first|exact ce0|refine ce ?_|refine ce2 ?_ ?_|exact SVLe.refl|refine ceb ?_)
    all_goals first | exact (show nodupB _ = true from rfl) | exact Or.inr rfl | (rfl)
  · repeat refine cr ?_
    refine ends_id ?_
    refine endK [] (h2 := ?_) (h3 := ?_) (nd := ?_)
    all_goals (repeat' first|exact ce0|refine ce ?_|refine ce2 ?_ ?_|exact SVLe.refl|refine ceb ?_)
    all_goals first | exact (show nodupB _ = true from rfl) | exact Or.inr rfl | (rfl)
  · repeat refine cr ?_
    refine ends_id ?_
    refine endK [] (h2 := ?_) (h3 := ?_) (nd := ?_)
    all_goals (repeat' first|exact ce0|refine ce ?_|refine ce2 ?_ ?_|exact SVLe.refl|refine ceb ?_)
    all_goals first | exact (show nodupB _ = true from rfl) | exact Or.inr rfl | (rfl)
  · exfalso
    have hp : Int.toNat 0 < q.length := by show 0 < q.length; omega
    exact hs ⟨by rw [← get0_headD hp]; assumption,by rw [← List.drop_one]; exact hc,fun h => by subst h; exact absurd hp (by decide)⟩
theorem tagOfWordY_ok (t : Tg) (q z : List Int) (hx : (t.wo.length : Int) ≤ 4) (hq : (q.length : Int) ≤ 1000) (hy : tgW t.wo.length q = some z) : Does Try.prog 27 [.agg (tgC t),.one (shI q)] [] (.tup [(false,[.gv 0]),(false,[boo true])]) [roI z] := by
  have hs : q.headD 0 = 2 * (t.wo.length : Int) ∧ inAll 0 ((t.wo.length : Int) - 1) q.tail = true ∧ q ≠ [] := Classical.byContradiction fun h => by
    unfold tgW at hy
    rw [if_neg h] at hy
    cases hy
  have hz : q.tail = z := by
    unfold tgW at hy
    rw [if_pos hs] at hy
    exact Option.some.inj hy
  obtain ⟨h1,h2,h3⟩ := hs
  have hp : Int.toNat 0 < q.length := List.length_pos_iff.mpr h3
  rw [← get0_headD hp] at h1
  rw [← List.drop_one] at h2 hz
  subst hz
  refine does_of (k := 0) Try.func27 rfl Try.ntmps27 rfl rfl fun w F0 S0 ρ0 => ?_
  dsimp only [argT,argH]
  repeat' first|(apply n3;exact a_new (gb := .bx _) rfl;exact rfl;refine dA ?_)|(apply p3;(first|exact pu1|exact puN|exact puC|exact a_slT rfl rfl rfl (fS rfl) (by omega) (by omega) (by exact rfl));exact rfl)|refine cd ?_|(apply c4 0;exact callK1 (θ := []) (hD := (tagFront_ok _ preB247));exact rfl;exact rfl;exact rfl;refine dM ?_)|(apply c4 1;exact callK1 (θ := []) (hD := (clone_ok _ preB247));exact rfl;exact rfl;exact rfl;refine dM ?_)|(apply py3;exact rfl;exact rfl;(first|exact pu1|exact a_ne rfl rfl|exact a_slT rfl rfl rfl (fS rfl) (by omega) (by omega) (by exact rfl)|exact a_sub rfl rfl (by omega) (by omega)|exact puI);exact rfl;exact rfl)|(apply cy4 0;exact rfl;exact rfl;exact callK1 (θ := []) (hD := (allWithin_ok _ _ _ preB247));exact rfl;exact rfl;exact rfl;exact rfl;refine dM ?_)|((first|refine o_gs rfl rfl (fun hc => ?_) (fun hc => ?_)|refine g_cond rfl (fun hc => ?_) (fun hc => ?_)) <;> (try simp only [dcB] at hc) <;> (try first|contradiction|(exfalso;omega)))|fail
  · exfalso
    have h4 : inAll 0 ((t.wo.length : Int) - 1) (List.drop (Int.toNat 1) q) = true := h2
    rw [h4] at hc
    cases hc
  · repeat refine cr ?_
    refine ends_id ?_
    refine endK [?_] (h2 := ?_) (h3 := ?_) (nd := ?_)
    rotate_left 1
    all_goals (repeat' first|exact ce0|refine ce ?_|refine ce2 ?_ ?_|exact SVLe.refl|refine ceb ?_)
    all_goals first | exact (show nodupB _ = true from rfl) | exact Or.inr rfl | (rfl)
theorem ContainsI_ok (c : List Int) (x : Int) (hc : (c.length : Int) ≤ 16777216) : Does Try.prog 48 [.one (shI c),.one (int x)] [] (.one (boo (decide (x ∈ c)))) [] := by
  by_cases h : x ∈ c
  · have e : decide (x ∈ c) = decide (0 ≤ (if x ∈ c then (((c.idxOf x : Nat)) : Int) else -1)) := by
      rw [if_pos h,decide_eq_true h,decide_eq_true (by omega)]
    rw [e]
    refine does_of (k := 0) Try.func48 rfl Try.ntmps48 rfl rfl fun w F0 S0 ρ0 => ?_
    dsimp only [argT,argH]
    repeat' first|(apply p3;(first|exact pu1|exact puC);exact rfl)|refine cd ?_|(apply c4 0;exact callK1 (θ := []) (hD := (indexI_ok _ _ preB247));exact rfl;exact rfl;exact rfl;refine dM ?_)|fail
    repeat refine cr ?_
    refine ends_id ?_
    refine endK [] (h2 := ?_) (h3 := ?_) (nd := ?_)
    all_goals (repeat' first|exact ce0|refine ce ?_|refine ce2 ?_ ?_|exact SVLe.refl|refine ceb ?_)
    all_goals first | exact (show nodupB _ = true from rfl) | exact Or.inr rfl | (rfl)
  · have e : decide (x ∈ c) = decide (0 ≤ (if x ∈ c then (((c.idxOf x : Nat)) : Int) else -1)) := by
      rw [if_neg h,decide_eq_false h]; rfl
    rw [e]
    refine does_of (k := 0) Try.func48 rfl Try.ntmps48 rfl rfl fun w F0 S0 ρ0 => ?_
    dsimp only [argT,argH]
    repeat' first|(apply p3;(first|exact pu1|exact puC);exact rfl)|refine cd ?_|(apply c4 0;exact callK1 (θ := []) (hD := (indexI_ok _ _ preB247));exact rfl;exact rfl;exact rfl;refine dM ?_)|fail
    repeat refine cr ?_
    refine ends_id ?_
    refine endK [] (h2 := ?_) (h3 := ?_) (nd := ?_)
    all_goals (repeat' first|exact ce0|refine ce ?_|refine ce2 ?_ ?_|exact SVLe.refl|refine ceb ?_)
    all_goals first | exact (show nodupB _ = true from rfl) | exact Or.inr rfl | (rfl)
theorem TagOfWord_ok (t : Tg) (q : List Int) (hv : vTag t = true) (hg : LtN t.wo.length q) (hx : (t.wo.length : Int) ≤ 4) (hh : (t.ha.length : Int) ≤ 100) (hys : ∀ x ∈ t.wo,(x.length : Int) ≤ 16777216) (hq : (q.length : Int) ≤ 300) : Does Try.prog 8 [.agg (tgC t),.one (shI (2 * (t.wo.length : Int) :: q))] [] (.tup [(false,[.gv 0]),(false,[int 0])]) [roI q] := by
  have hw : isWrd (2 * (t.wo.length : Int) :: q) = true := by
    unfold isWrd inAll
    rw [Bool.and_eq_true,List.all_eq_true,decide_eq_true_eq]
    refine ⟨by simp; omega,fun y hy => ?_⟩
    rw [decide_eq_true_eq]
    rcases List.mem_cons.mp hy with h | h
    · omega
    · have := hg y h; omega
  refine does_of (k := 0) Try.func8 rfl Try.ntmps8 rfl rfl fun w F0 S0 ρ0 => ?_
  dsimp only [argT,argH]
  repeat' first|(apply n3;exact a_new (gb := .bx _) rfl;exact rfl;refine dA ?_)|(apply p3;(first|exact pu1|exact a_ne rfl rfl);exact rfl)|refine cd ?_|(apply c4 0;exact callK1 (θ := []) (hD := (ValidTag_ok _ preB247 preB247 preB247));exact rfl;exact rfl;exact rfl;refine dM ?_)|(apply c4 0;exact callK1 (θ := []) (hD := (tagFront_ok _ preB247));exact rfl;exact rfl;exact rfl;refine dM ?_)|(apply c4 1;exact callK1 (θ := []) (hD := (tagOfWordY_ok t (2 * (t.wo.length : Int) :: q) q hx (by simp;omega) (tgW_y hg)));exact rfl;exact rfl;exact rfl;refine dM ?_)|refine o_no rfl rfl rfl rfl ?_|(apply py3;exact rfl;exact rfl;(exact pu1);exact rfl;exact rfl)|(apply cy4 0;exact rfl;exact rfl;exact callK1 (θ := []) (hD := (IsWord_ok (2 * (t.wo.length : Int) :: q) (by simp;omega)));exact rfl;exact rfl;exact rfl;exact rfl;refine dM ?_)|((first|refine o_gs rfl rfl (fun hc => ?_) (fun hc => ?_)|refine g_cond rfl (fun hc => ?_) (fun hc => ?_)) <;> (try simp only [dcB] at hc) <;> (try first|contradiction|(exfalso;omega)))|fail
  all_goals first | (exfalso; simp_all; done) | skip
  repeat refine cr ?_
  refine ends_id ?_
  refine endK [?_] (h2 := ?_) (h3 := ?_) (nd := ?_)
  rotate_left 1
  all_goals (repeat' first|exact ce0|refine ce ?_|refine ce2 ?_ ?_|exact SVLe.refl|refine ceb ?_)
  all_goals first | exact (show nodupB _ = true from rfl) | exact Or.inr rfl | (rfl)
abbrev eMk : Enc Mk := ⟨3,fun x => [.sl false 1 (rows eI x.1),.sl false 1 (rows eI x.2),.sc (.bool false)],fun _ => rfl,by decide⟩
abbrev shMk (l : List Mk) : C := .d (.sl false 3 (rows eMk l))
abbrev roMk (l : List Mk) : GB := .row 3 (rows eMk l)
abbrev mkC (x : Mk) : List C := [shI x.1,shI x.2,boo false]
structure RlOk (R : List Mk) : Prop where
  n : (R.length : Int) ≤ 1000
  l : ∀ r ∈ R,(r.1.length : Int) ≤ 1000 ∧ (r.2.length : Int) ≤ 1000
theorem occF_0 {f q : List Int} {a : Int} (h0 : 0 ≤ a) (h1 : a ≤ q.length) {o : Option Nat} (h : occF f q a.toNat ((q.length : Int) + 1 - a).toNat = o) : (bgn (q.drop a.toNat) f = true → o = some a.toNat) ∧ (bgn (q.drop a.toNat) f = false → occF f q (a + 1).toNat ((q.length : Int) + 1 - (a + 1)).toNat = o) := by
  rw [show ((q.length : Int) + 1 - a).toNat = ((q.length : Int) + 1 - (a + 1)).toNat + 1 by omega,occF] at h
  constructor
  · intro b; rw [if_pos b] at h; exact h.symm
  · intro b; rw [if_neg (by rw [b]; decide)] at h; rwa [show (a + 1).toNat = a.toNat + 1 by omega]
theorem occF_1 {f q : List Int} {a : Int} (h1 : ¬ a ≤ q.length) (h2 : a ≤ q.length + 1) {o : Option Nat} (h : occF f q a.toNat ((q.length : Int) + 1 - a).toNat = o) : o = none := by
  rw [show ((q.length : Int) + 1 - a).toNat = 0 by omega,occF] at h
  exact h.symm
theorem stepMkN_ok (R : List Mk) (q : List Int) (g : RlOk R) (hq : (q.length : Int) ≤ 1000) (h : stepMk R 0 q = none) : Does Try.prog 29 [.one (shMk R),.one (shI q)] [] (.tup [(false,[nilC]),(false,[int (-1)])]) [] := by
  obtain ⟨gn,gl⟩ := g
  refine does_of (k := 0) Try.func29 rfl Try.ntmps29 rfl rfl fun w F0 S0 ρ0 => ?_
  dsimp only [argT,argH]
  repeat' first|(apply p3;(first|exact pu1|exact puN);exact rfl)|refine cd ?_|fail
  refine g_loop_id ?_
  refine loopK [1,4,5,9,10] [] (fun i : Int => 0 ≤ i ∧ i ≤ R.length ∧ stepMk (R.drop i.toNat) i.toNat q = none) (fun i => [(11,.one (int i))]) (fun _ => []) (fun i => (R.length - i).toNat) (0 : Int) [] (hI := ?_) (hr := ?_)
  · exact ⟨by omega,by omega,h⟩
  · rintro i ⟨j0,j1,j2⟩
    dsimp only [List.cons_append,List.nil_append] at *
    skip
    repeat' first|(apply n3;exact a_new (gb := .bx _) rfl;exact rfl;refine dA ?_)|(apply p3;(first|exact pu1|exact puC|exact puI);exact rfl)|refine cdn ?_|refine g_reg (id := 2) ?_|refine g_reg (id := 3) ?_|refine g_reg (id := 4) ?_|refine g_reg (id := 10) ?_|(apply w3;(exact a_st_bx rfl rfl rfl rfl (fN rfl rfl) (Nat.le_of_ble_eq_true rfl) rfl);exact rfl;refine dS ?_)|((refine g_cond rfl (fun hc => ?_) (fun hc => ?_)) <;> (try simp only [dcB] at hc) <;> (try first|contradiction|(exfalso;omega)))|fail
    · have hi : i.toNat < R.length := by omega
      have hr := gl _ (List.getElem_mem hi)
      rw [List.drop_eq_getElem_cons hi,stepMk] at j2
      generalize R[i.toNat]'hi = r at *
      simp only [setRow,scC,List.map_cons,List.map_nil,List.set_cons_zero,List.set_cons_succ,Nat.zero_add,List.getElem?_cons_zero,List.getElem?_cons_succ,List.take_succ_cons,List.take_zero,List.drop_zero,List.cons_append,List.nil_append,List.drop_succ_cons,List.drop_nil,List.append_nil]
      have ho : occ r.1 q = none := by
        cases e : occ r.1 q with
        | none => rfl
        | some p => rw [e] at j2; cases j2
      rw [ho] at j2
      unfold occ at ho
      refine g_loop_id ?_
      refine loopK [1,4,5,6,7,9,10,11] [] (fun a : Int => 0 ≤ a ∧ a ≤ q.length + 1 ∧ occF r.1 q a.toNat ((q.length : Int) + 1 - a).toNat = none) (fun a => [(8,.one (int a))]) (fun _ => []) (fun a => ((q.length : Int) + 1 - a).toNat) (0 : Int) [0] (hI := ?_) (hr := ?_)
      · exact ⟨by omega,by omega,ho⟩
      · rintro a ⟨m0,m1,m2⟩
        dsimp only [List.cons_append,List.nil_append] at *
        skip
        repeat' first|(apply p3;(first|exact pu1|exact puN|exact puC|exact a_add rfl rfl (by omega) (by omega));exact rfl)|refine cdn ?_|refine g_reg (id := 5) ?_|refine g_reg (id := 9) ?_|((refine g_cond rfl (fun hc => ?_) (fun hc => ?_)) <;> (try simp only [dcB] at hc) <;> (try first|contradiction|(exfalso;omega)))|fail
        · obtain ⟨m3,m4⟩ := occF_0 m0 (by assumption) m2
          repeat' first|(apply p3;(first|exact pu1|exact puN|exact a_add rfl rfl (by omega) (by omega));exact rfl)|refine cd ?_|(apply g_drN (id := 7) okM [[],[],[0,1],[],[3],[0,1,2,3,4]] [([],[]),([],[]),([],[]),([],[]),([],[]),([],[])] 0;(focus (refine dp 0 0 [23,25,26] [] pu1 ?_;refine dp 1 0 [22,25,26] [] pu1 ?_;refine dp 2 3 [25,26] [] (by exact a_slT rfl rfl rfl (fS rfl) (by omega) (by omega) (by exact rfl)) ?_;refine dp 3 0 [22,23,24] [] (a_pure (sv := .one _) rfl) ?_;refine dp 4 1 [22,23,24] [] (by exact puL) ?_;refine dp 5 31 [] [] (callD1 (n := _) 0 (θ := []) (hD := (begins_ok (q.drop a.toNat) r.1 (by rw [List.length_drop];omega) (by omega)))) ?_;(refine d_nil ?_;refine dN ?_)));any_goals kernel_rfl)|((refine g_cond rfl (fun hc => ?_) (fun hc => ?_)) <;> (try simp only [dcB] at hc) <;> (try first|contradiction|(exfalso;omega)))|fail
          · exfalso
            have := m3 hc
            cases this
          · refine q_again (a + 1) [0] (by exact stk) ?_ ?_
            · exact ⟨by omega,by omega,m4 hc⟩
            · omega
        · refine q_again (i + 1) [] (by exact stk) ?_ ?_
          · exact ⟨by omega,by omega,by rw [show (i + 1).toNat = i.toNat + 1 by omega]; exact j2⟩
          · omega
    · repeat refine cr ?_
      refine ends_id ?_
      refine endK [] (h2 := ?_) (h3 := ?_) (nd := ?_)
      all_goals (repeat' first|exact ce0|refine ce ?_|refine ce2 ?_ ?_|exact SVLe.refl|refine ceb ?_)
      all_goals first | exact (show nodupB _ = true from rfl) | exact Or.inr rfl | (rfl)
theorem stepMkY_ok (R : List Mk) (q z : List Int) (k : Nat) (g : RlOk R) (hq : (q.length : Int) ≤ 1000) (h : stepMk R 0 q = some (k,z)) : Does Try.prog 29 [.one (shMk R),.one (shI q)] [] (.tup [(false,[.gv 0]),(false,[int (k : Int)])]) [roI z] := by
  obtain ⟨gn,gl⟩ := g
  refine does_of (k := 0) Try.func29 rfl Try.ntmps29 rfl rfl fun w F0 S0 ρ0 => ?_
  dsimp only [argT,argH]
  repeat' first|(apply p3;(first|exact pu1|exact puN);exact rfl)|refine cd ?_|fail
  refine g_loop_id ?_
  refine loopK [1,4,5,9,10] [] (fun i : Int => 0 ≤ i ∧ i ≤ R.length ∧ stepMk (R.drop i.toNat) i.toNat q = some (k,z)) (fun i => [(11,.one (int i))]) (fun _ => []) (fun i => (R.length - i).toNat) (0 : Int) [] (hI := ?_) (hr := ?_)
  · exact ⟨by omega,by omega,h⟩
  · rintro i ⟨j0,j1,j2⟩
    dsimp only [List.cons_append,List.nil_append] at *
    skip
    repeat' first|(apply n3;exact a_new (gb := .bx _) rfl;exact rfl;refine dA ?_)|(apply p3;(first|exact pu1|exact puC|exact puI);exact rfl)|refine cdn ?_|refine g_reg (id := 2) ?_|refine g_reg (id := 3) ?_|refine g_reg (id := 4) ?_|refine g_reg (id := 10) ?_|(apply w3;(exact a_st_bx rfl rfl rfl rfl (fN rfl rfl) (Nat.le_of_ble_eq_true rfl) rfl);exact rfl;refine dS ?_)|((refine g_cond rfl (fun hc => ?_) (fun hc => ?_)) <;> (try simp only [dcB] at hc) <;> (try first|contradiction|(exfalso;omega)))|fail
    · have hi : i.toNat < R.length := by omega
      have hr := gl _ (List.getElem_mem hi)
      rw [List.drop_eq_getElem_cons hi,stepMk] at j2
      generalize R[i.toNat]'hi = r at *
      simp only [setRow,scC,List.map_cons,List.map_nil,List.set_cons_zero,List.set_cons_succ,Nat.zero_add,List.getElem?_cons_zero,List.getElem?_cons_succ,List.take_succ_cons,List.take_zero,List.drop_zero,List.cons_append,List.nil_append,List.drop_succ_cons,List.drop_nil,List.append_nil]
      cases ho : occ r.1 q with
      | none =>
        rw [ho] at j2
        unfold occ at ho
        refine g_loop_id ?_
        refine loopK [1,4,5,6,7,9,10,11] [] (fun a : Int => 0 ≤ a ∧ a ≤ q.length + 1 ∧ occF r.1 q a.toNat ((q.length : Int) + 1 - a).toNat = none) (fun a => [(8,.one (int a))]) (fun _ => []) (fun a => ((q.length : Int) + 1 - a).toNat) (0 : Int) [0] (hI := ?_) (hr := ?_)
        · exact ⟨by omega,by omega,ho⟩
        · rintro a ⟨m0,m1,m2⟩
          dsimp only [List.cons_append,List.nil_append] at *
          skip
          repeat' first|(apply p3;(first|exact pu1|exact puN|exact puC|exact a_add rfl rfl (by omega) (by omega));exact rfl)|refine cdn ?_|refine g_reg (id := 5) ?_|refine g_reg (id := 9) ?_|((refine g_cond rfl (fun hc => ?_) (fun hc => ?_)) <;> (try simp only [dcB] at hc) <;> (try first|contradiction|(exfalso;omega)))|fail
          · obtain ⟨m3,m4⟩ := occF_0 m0 (by assumption) m2
            repeat' first|(apply p3;(first|exact pu1|exact puN|exact a_add rfl rfl (by omega) (by omega));exact rfl)|refine cd ?_|(apply g_drN (id := 7) okM [[],[],[0,1],[],[3],[0,1,2,3,4]] [([],[]),([],[]),([],[]),([],[]),([],[]),([],[])] 0;(focus (refine dp 0 0 [23,25,26] [] pu1 ?_;refine dp 1 0 [22,25,26] [] pu1 ?_;refine dp 2 3 [25,26] [] (by exact a_slT rfl rfl rfl (fS rfl) (by omega) (by omega) (by exact rfl)) ?_;refine dp 3 0 [22,23,24] [] (a_pure (sv := .one _) rfl) ?_;refine dp 4 1 [22,23,24] [] (by exact puL) ?_;refine dp 5 31 [] [] (callD1 (n := _) 0 (θ := []) (hD := (begins_ok (q.drop a.toNat) r.1 (by rw [List.length_drop];omega) (by omega)))) ?_;(refine d_nil ?_;refine dN ?_)));any_goals kernel_rfl)|((refine g_cond rfl (fun hc => ?_) (fun hc => ?_)) <;> (try simp only [dcB] at hc) <;> (try first|contradiction|(exfalso;omega)))|fail
            · exfalso
              have := m3 hc
              cases this
            · refine q_again (a + 1) [0] (by exact stk) ?_ ?_
              · exact ⟨by omega,by omega,m4 hc⟩
              · omega
          · refine q_again (i + 1) [] (by exact stk) ?_ ?_
            · exact ⟨by omega,by omega,by rw [show (i + 1).toNat = i.toNat + 1 by omega]; exact j2⟩
            · omega
      | some p =>
        rw [ho] at j2
        have hb := occ_some ho
        have j3 : i.toNat = k ∧ repM q p r = z := by simpa using j2
        unfold occ at ho
        refine g_loop_id ?_
        refine loopK [1,4,5,6,7,9,10,11] [] (fun a : Int => 0 ≤ a ∧ a ≤ q.length + 1 ∧ occF r.1 q a.toNat ((q.length : Int) + 1 - a).toNat = some p) (fun a => [(8,.one (int a))]) (fun _ => []) (fun a => ((q.length : Int) + 1 - a).toNat) (0 : Int) [0] (hI := ?_) (hr := ?_)
        · exact ⟨by omega,by omega,ho⟩
        · rintro a ⟨m0,m1,m2⟩
          dsimp only [List.cons_append,List.nil_append] at *
          skip
          repeat' first|(apply p3;(first|exact pu1|exact puN|exact puC|exact a_add rfl rfl (by omega) (by omega));exact rfl)|refine cdn ?_|refine g_reg (id := 5) ?_|refine g_reg (id := 9) ?_|((refine g_cond rfl (fun hc => ?_) (fun hc => ?_)) <;> (try simp only [dcB] at hc) <;> (try first|contradiction|(exfalso;omega)))|fail
          · obtain ⟨m3,m4⟩ := occF_0 m0 (by assumption) m2
            repeat' first|refine cdn ?_|(apply g_drN (id := 7) okM [[],[],[0,1],[],[3],[0,1,2,3,4]] [([],[]),([],[]),([],[]),([],[]),([],[]),([],[])] 0;(focus (refine dp 0 0 [23,25,26] [] pu1 ?_;refine dp 1 0 [22,25,26] [] pu1 ?_;refine dp 2 3 [25,26] [] (by exact a_slT rfl rfl rfl (fS rfl) (by omega) (by omega) (by exact rfl)) ?_;refine dp 3 0 [22,23,24] [] (a_pure (sv := .one _) rfl) ?_;refine dp 4 1 [22,23,24] [] (by exact puL) ?_;refine dp 5 31 [] [] (callD1 (n := _) 0 (θ := []) (hD := (begins_ok (q.drop a.toNat) r.1 (by rw [List.length_drop];omega) (by omega)))) ?_;(refine d_nil ?_;refine dN ?_)));any_goals kernel_rfl)|((refine g_cond rfl (fun hc => ?_) (fun hc => ?_)) <;> (try simp only [dcB] at hc) <;> (try first|contradiction|(exfalso;omega)))|fail
            · have hp : p = a.toNat := Option.some.inj (m3 hc)
              obtain ⟨y,hy⟩ := bgn_iff.mp hb.2
              have hy2 := congrArg List.length hy
              rw [List.length_drop,List.length_append] at hy2
              have hz : q.take a.toNat ++ r.2 ++ q.drop (a.toNat + ((r.1.length : Int)).toNat) = z := by
                rw [← j3.2,hp]
                rfl
              have hk : ((k : Nat) : Int) = i := by omega
              rw [← hz,hk]
              repeat' first|(apply p3;(first|exact pu1|exact puN);exact rfl)|refine cd ?_|(apply c4 1;exact callK1 (θ := []) (hD := (replaced_ok q r.2 a (r.1.length : Int) (by omega) (by omega) (by omega) (by omega) (by omega) (by omega)));exact rfl;exact rfl;exact rfl;refine dM ?_)|fail
              repeat refine cr ?_
              refine ends_id ?_
              refine endK [?_] (h2 := ?_) (h3 := ?_) (nd := ?_)
              rotate_left 1
              all_goals (repeat' first|exact ce0|refine ce ?_|refine ce2 ?_ ?_|exact SVLe.refl|refine ceb ?_)
              all_goals first | exact (show nodupB _ = true from rfl) | exact Or.inr rfl | (rfl)
            · repeat' first|(apply p3;(first|exact pu1|exact a_add rfl rfl (by omega) (by omega));exact rfl)|refine cd ?_|fail
              refine q_again (a + 1) [0] (by exact stk) ?_ ?_
              · exact ⟨by omega,by omega,m4 hc⟩
              · omega
          · exfalso
            have := occF_1 (by assumption) m1 m2
            cases this
    · exfalso
      rw [List.drop_eq_nil_of_le (by omega)] at j2
      cases j2
end Go.Proofs.Ytjifedbidnmapaa
end
section
set_option linter.unusedVariables false
set_option linter.unusedSimpArgs false
set_option maxRecDepth 100000
namespace Go.Proofs.Ytjifedbidnmapaa
open Go Foot Go.RowKit
section
variable {P : Program} {g : Gh} {st : St} {dst : Option Tmp} {ty : TypeId} {pos : String} {after : Array Edge} {guard : Option (Nat × Bool)} {x y : Operand}
theorem a_ldW {T i k : Nat} {c0 : C} {l : List (List Int)} (hc : opd st x = .one c0) (ht : tgt st c0 = some (i,k)) (hg : lkG st.h i = .row 1 (rows eW l)) (hT : cellB P T = true) (hk : k < l.length) : Acts P g ⟨dst,.load T x,ty,pos,after,guard⟩ st (.one (shI (l[k]'hk))) [] [] := by
  refine a_ld_row (c := .sl false 1 (rows eI (l[k]'hk))) hc ht hg hT ?_ rfl
  have := rows_nth (E := eW) (o := 0) hk (by decide)
  simpa using this
end
end Go.Proofs.Ytjifedbidnmapaa
end
section
set_option linter.unusedVariables false
set_option linter.unusedSimpArgs false
set_option maxRecDepth 100000
set_option maxHeartbeats 4000000
namespace Go.Proofs.Ytjifedbidnmapaa
open Go Foot
theorem preB248 {p : Prop} (h : p := by first | with_reducible assumption | omega | (simp only [List.length_append,List.length_cons,List.length_nil,List.length_set,List.length_replicate,List.length_take,List.length_drop,List.length_tail,List.length_dropLast,List.length_reverse] at *; omega) | exact mem_len (by assumption) (by omega) | (with_reducible refine Int.le_trans (Int.ofNat_le.2 (trimR_len _)) ?_; simp only [List.length_cons,List.length_tail]; omega) | (exact (ruAt_ok (by assumption) (by assumption) (by assumption)).2.1) | (exact (ruAt_ok (by assumption) (by assumption) (by assumption)).2.1) | (have := vMach_bd (by assumption); omega) | (simp only [List.length_append,List.length_cons,List.length_nil,repW_len,seN_len] at *; omega) | (simp only [mC_ch,mC_tu]; omega) | (have := vTag_bd (by assumption); omega) | (have := (‹Gd _ _›).le; omega) | (exact tgHalts_no (by assumption)) | (exact tgHead (by assumption) (by assumption) (by assumption)) | (exact Int.le_trans (tgStep_gd (by assumption) (by assumption) (by assumption) (by assumption)).le (by decide)) | (exact vTag_r (by assumption)) | (with_reducible refine Int.le_trans (Int.ofNat_le.2 (pushL_len _ _)) ?_; simp only [List.length_dropLast]; omega) | exact ls_at (by assumption) (by omega) | exact pt_gd (by assumption) | exact lv_at (by assumption) (by omega) | exact pt_gd (lv_at (by assumption) (by omega)) | exact (ask_ok (by assumption)).1 | exact (ask_ok (by assumption)).2.1 | exact (ask_ok (by assumption)).2.2.1 | exact (ask_ok (by assumption)).2.2.2 | trivial) : p := h
theorem validMk1_ok (r : Mk) (h1 : (r.1.length : Int) ≤ 1000) (h2 : (r.2.length : Int) ≤ 1000) : Does Try.prog 67 [.agg (mkC r)] [] (.one (boo (!([r.1,r.2].all isWrd)))) [] := by
  refine does_of (k := 0) Try.func67 rfl Try.ntmps67 rfl rfl fun w F0 S0 ρ0 => ?_
  dsimp only [argT,argH]
  repeat' first|(apply p3;exact a_litF (dst := some 7) eW [_,_] rfl rfl rfl rfl rfl rfl rfl rfl nowR;exact rfl)|(apply n3;exact a_new (gb := .bx _) rfl;exact rfl;refine dA ?_)|(apply p3;(exact pu1);exact rfl)|refine cd ?_|(apply c4 0;exact callK1 (θ := []) (hD := (areWords_ok [r.1,r.2] (by simp) (fun x hx => by simp only [List.mem_cons,List.not_mem_nil,or_false] at hx;rcases hx with h|h <;> (rw [h];omega))));exact rfl;exact rfl;exact rfl;refine dM ?_)|fail
  repeat refine cr ?_
  refine ends_id ?_
  refine endK [] (h2 := ?_) (h3 := ?_) (nd := ?_)
  all_goals (repeat' first|exact ce0|refine ce ?_|refine ce2 ?_ ?_|exact SVLe.refl|refine ceb ?_)
  all_goals first | exact (show nodupB _ = true from rfl) | exact Or.inr rfl | (rfl)
structure RvOk (R : List Mk) : Prop where
  n : 1 ≤ (R.length : Int) ∧ (R.length : Int) ≤ 60
  l : ∀ r ∈ R,(r.1.length : Int) ≤ 1000 ∧ (r.2.length : Int) ≤ 1000
  w : ∀ r ∈ R,[r.1,r.2].all isWrd = true
theorem idxMk_ok (xs : List Mk) (g : RvOk xs) : Does Try.prog 73 [.one (shMk xs),.one (.d (.fn (.func 67) []))] [] (.one (int (-1))) [] := by
  obtain ⟨hx,hl,hw⟩ := g
  refine does_of (k := 0) Try.func73 rfl Try.ntmps73 rfl rfl fun w F0 S0 ρ0 => ?_
  dsimp only [argT,argH]
  repeat' first|(apply p3;(first|exact pu1|exact puN);exact rfl)|refine cd ?_|fail
  refine g_loop_id ?_
  refine loopK [0,1,4,7] [] (fun i : Int => 0 ≤ i ∧ i ≤ xs.length) (fun i => [(8,.one (int i))]) (fun _ => []) (fun i => (xs.length - i).toNat) (0 : Int) [] (hI := ?_) (hr := ?_)
  · exact ⟨by omega,by omega⟩
  · rintro i ⟨h0,h1⟩
    dsimp only [List.cons_append,List.nil_append] at *
    skip
    repeat' first|(apply p3;(first|exact pu1|exact puC);exact rfl)|refine cdn ?_|refine g_reg (id := 2) ?_|refine g_reg (id := 3) ?_|refine g_reg (id := 7) ?_|((refine g_cond rfl (fun hc => ?_) (fun hc => ?_)) <;> (try simp only [dcB] at hc) <;> (try first|contradiction|(exfalso;omega)))|fail
    · have hi : i.toNat < xs.length := by omega
      have hr := hl _ (List.getElem_mem hi)
      have hr1 := hr.1
      have hr2 := hr.2
      have hr3 := hw _ (List.getElem_mem hi)
      repeat' first|(apply p3;(first|exact pu1|exact a_add rfl rfl (by omega) (by omega)|exact puI);exact rfl)|refine cd ?_|(apply c4 0;exact callK0 (θ := []) (hD := (validMk1_ok _ preB248 preB248));exact rfl;exact rfl;exact rfl;refine dM ?_)|((refine g_cond rfl (fun hc => ?_) (fun hc => ?_)) <;> (try simp only [dcB] at hc) <;> (try first|contradiction|(exfalso;omega)))|fail
      · exfalso
        rw [hr3] at hc
        cases hc
      · refine q_again (i + 1) [] (by exact stk) ?_ ?_
        · exact ⟨by omega,by omega⟩
        · omega
    · repeat refine cr ?_
      refine ends_id ?_
      refine endK [] (h2 := ?_) (h3 := ?_) (nd := ?_)
      all_goals (repeat' first|exact ce0|refine ce ?_|refine ce2 ?_ ?_|exact SVLe.refl|refine ceb ?_)
      all_goals first | exact (show nodupB _ = true from rfl) | exact Or.inr rfl | (rfl)
theorem hasMk_ok (xs : List Mk) (g : RvOk xs) : Does Try.prog 66 [.one (shMk xs),.one (.d (.fn (.func 67) []))] [] (.one (boo false)) [] := by
  refine does_of (k := 0) Try.func66 rfl Try.ntmps66 rfl rfl fun w F0 S0 ρ0 => ?_
  dsimp only [argT,argH]
  repeat' first|(apply p3;(first|exact pu1|exact puC);exact rfl)|refine cd ?_|(apply c4 0;exact callK1 (θ := []) (hD := (idxMk_ok xs g));exact rfl;exact rfl;exact rfl;refine dM ?_)|fail
  repeat refine cr ?_
  refine ends_id ?_
  refine endK [] (h2 := ?_) (h3 := ?_) (nd := ?_)
  all_goals (repeat' first|exact ce0|refine ce ?_|refine ce2 ?_ ?_|exact SVLe.refl|refine ceb ?_)
  all_goals first | exact (show nodupB _ = true from rfl) | exact Or.inr rfl | (rfl)
theorem sizeMk_ok (xs : List Mk) (hx : (xs.length : Int) ≤ 1000) : Does Try.prog 65 [.one (shMk xs)] [] (.one (int xs.length)) [] := by
  refine does_of (k := 0) Try.func65 rfl Try.ntmps65 rfl rfl fun w F0 S0 ρ0 => ?_
  dsimp only [argT,argH]
  repeat' first|(apply p3;(first|exact pu1|exact puN);exact rfl)|refine cd ?_|fail
  repeat refine cr ?_
  refine ends_id ?_
  refine endK [] (h2 := ?_) (h3 := ?_) (nd := ?_)
  all_goals (repeat' first|exact ce0|refine ce ?_|refine ce2 ?_ ?_|exact SVLe.refl|refine ceb ?_)
  all_goals first | exact (show nodupB _ = true from rfl) | exact Or.inr rfl | (rfl)
theorem ValidMarkov_ok (xs : List Mk) (g : RvOk xs) : Does Try.prog 50 [.one (shMk xs)] [] (.one (boo true)) [] := by
  have hn := g.n
  refine does_of (k := 0) Try.func50 rfl Try.ntmps50 rfl rfl fun w F0 S0 ρ0 => ?_
  dsimp only [argT,argH]
  repeat' first|(apply p3;exact pu1;exact rfl)|refine cd ?_|(apply c4 0;exact callK1 (θ := []) (hD := (sizeMk_ok xs (by omega)));exact rfl;exact rfl;exact rfl;refine dM ?_)|(apply c4 0;exact callK1 (θ := []) (hD := (within_ok _ _ _));exact rfl;exact rfl;exact rfl;refine dM ?_)|(apply py3;exact rfl;exact rfl;exact pu1;exact rfl;exact rfl)|(apply cy4 0;exact rfl;exact rfl;exact callK1 (θ := []) (hD := (hasMk_ok xs g));exact rfl;exact rfl;exact rfl;exact rfl;refine dM ?_)|((refine o_gs rfl rfl (fun hc => ?_) (fun hc => ?_)) <;> (try simp only [dcB] at hc) <;> (try first|contradiction|(exfalso;omega)))|fail
  all_goals first | (exfalso; omega) | skip
  repeat refine cr ?_
  refine ends_id ?_
  refine endK [] (h2 := ?_) (h3 := ?_) (nd := ?_)
  all_goals (repeat' first|exact ce0|refine ce ?_|refine ce2 ?_ ?_|exact SVLe.refl|refine ceb ?_)
  all_goals first | exact (show nodupB _ = true from rfl) | exact Or.inr rfl | (rfl)
theorem addMk_ok (l : List Mk) (f t : List Int) (hl : (l.length : Int) ≤ 1000) : Does Try.prog 47 [.one (shI f),.one (shI t),.one (.gv 0)] [.bx [.gv 1],roMk l] (.tup []) [.bx [.gv 2],.dead,roMk (l ++ [(f,t)])] := by
  refine does_of (k := 2) Try.func47 rfl Try.ntmps47 rfl rfl fun w F0 S0 ρ0 => ?_
  dsimp only [argT,argH]
  repeat' first|(apply n3;(exact a_litE eMk [(_,_)] rfl rfl rfl rfl rfl rfl rfl rfl);exact rfl;refine dA ?_)|(apply p3;(exact pu1);exact rfl)|refine cd ?_|(apply s3;exact a_appE (fP rfl) rfl rfl rfl rfl nowR (by (simp <;> omega)) (by decide) (by decide) (by exact rfl);exact rfl;exact rfl)|(apply w3;exact a_st_bx rfl rfl rfl rfl (fN rfl rfl) (Nat.le_of_ble_eq_true rfl) rfl;exact rfl;refine dS ?_)|fail
  repeat refine cr ?_
  refine ends_id ?_
  refine endK [?_] (h2 := ?_) (h3 := ?_) (nd := ?_)
  rotate_left 1
  all_goals (repeat' first|exact ce0|refine ce ?_|refine ce2 ?_ ?_|(refine Or.inr (bx_eq rfl rfl ?_);(try dsimp only [C.ren,C.ren.all]);(try exact rfl))|exact SVLe.refl|refine ceb ?_)
  all_goals first | exact (show nodupB _ = true from rfl) | exact Or.inr rfl | (rfl)
@[irreducible] def exW (n : Nat) (x : List Int) : List (List Int) := (List.range n).map fun (l : Nat) => x ++ [(l : Int)]
theorem wov_s (n k : Nat) : wov n (k + 1) = (wov n k).flatMap (exW n) := by
  rw [wov]
  congr 1
  funext x
  unfold exW
  rfl
theorem exW_s (n : Nat) (x : List Int) : exW (n + 1) x = exW n x ++ [x ++ [(n : Int)]] := by
  unfold exW
  rw [List.range_succ,List.map_append]
  rfl
theorem wordsOver_ok (n k : Int) (h0 : 0 ≤ k) (h1 : k ≤ 1) (h2 : 1 ≤ n) (h3 : n ≤ 4) : Does Try.prog 49 [.one (int n),.one (int k)] [] (.one (.gv 0)) [roW (wov n.toNat k.toNat)] := by
  refine does_of (k := 0) Try.func49 rfl Try.ntmps49 rfl rfl fun w F0 S0 ρ0 => ?_
  dsimp only [argT,argH]
  repeat' first|(apply p3;exact a_litF (dst := some 10) eI [] rfl rfl rfl rfl rfl rfl rfl rfl nowR;exact rfl)|(apply n3;(exact a_litE eW [_] rfl rfl rfl rfl rfl rfl rfl rfl);exact rfl;refine dA ?_)|(apply p3;(exact pu1);exact rfl)|refine cd ?_|fail
  refine g_loop_id ?_
  refine loopK [0,4,12] [0] (fun y : Int × List (List Int) => 0 ≤ y.1 ∧ y.1 ≤ k ∧ y.2 = wov n.toNat y.1.toNat) (fun y => [(13,.one (int y.1)),(5,.one (.gv 0))]) (fun y => [(0,roW y.2)]) (fun y => (k - y.1).toNat) ((0 : Int),[([] : List Int)]) [0] (hI := ?_) (hr := ?_)
  · exact ⟨by simp,by simpa using h0,rfl⟩
  · rintro ⟨j,L⟩ ⟨j0,j1,j2⟩
    dsimp only [List.cons_append,List.nil_append] at *
    skip
    repeat' first|(apply n3;(exact a_litE eW [] rfl rfl rfl rfl rfl rfl rfl rfl);exact rfl;refine dA ?_)|(apply p3;(first|exact pu1|exact puC|exact puN);exact rfl)|refine cdn ?_|refine g_reg (id := 3) ?_|refine g_reg (id := 4) ?_|refine g_reg (id := 5) ?_|((refine g_cond rfl (fun hc => ?_) (fun hc => ?_)) <;> (try simp only [dcB] at hc) <;> (try first|contradiction|(exfalso;omega)))|fail
    · have hL : L.length ≤ 1 := by rw [j2,show j.toNat = 0 by omega]; exact Nat.le_refl _
      have hLx : ∀ x ∈ L,x.length = 0 := fun x hx => by rw [j2,show j.toNat = 0 by omega] at hx; exact (mem_wov.mp hx).1
      refine g_loop_id ?_
      refine loopK [0,4,5,12,13,16,17] [1] (fun y : Int × List (List Int) => 0 ≤ y.1 ∧ y.1 ≤ L.length ∧ (y.2.length : Int) ≤ 4 * y.1 ∧ y.2 = (L.take y.1.toNat).flatMap (exW n.toNat)) (fun y => [(18,.one (int y.1)),(6,.one (.gv 1))]) (fun y => [(1,roW y.2)]) (fun y => (L.length - y.1).toNat) ((0 : Int),([] : List (List Int))) [0,1] (hI := ?_) (hr := ?_)
      · exact ⟨by simp,by simp,by simp,by simp⟩
      · rintro ⟨a,M⟩ ⟨a0,a1,a2,a3⟩
        dsimp only [List.cons_append,List.nil_append] at *
        skip
        repeat' first|(apply p3;(first|exact pu1|exact puC|exact a_ldW rfl rfl rfl (fC rfl) bnd|exact puI);exact rfl)|refine cdn ?_|refine g_reg (id := 6) ?_|refine g_reg (id := 7) ?_|refine g_reg (id := 8) ?_|((refine g_cond rfl (fun hc => ?_) (fun hc => ?_)) <;> (try simp only [dcB] at hc) <;> (try first|contradiction|(exfalso;omega)))|fail
        · have hi : a.toNat < L.length := by omega
          have hi2 : a.toNat * 1 < L.length := by omega
          have hx := hLx _ (List.getElem_mem hi2)
          have ht : L.take (a.toNat + 1) = L.take a.toNat ++ [L[a.toNat * 1]'hi2] := by
            rw [List.take_succ_eq_append_getElem hi]
            simp only [Nat.mul_one]
          generalize L[a.toNat * 1]'hi2 = x at *
          refine g_loop_id ?_
          refine loopK [0,4,5,8,12,13,16,17,18,22] [1] (fun y : Int × List (List Int) => 0 ≤ y.1 ∧ y.1 ≤ n ∧ (y.2.length : Int) ≤ 4 * a + y.1 ∧ y.2 = M ++ exW y.1.toNat x) (fun y => [(23,.one (int y.1)),(6,.one (.gv 1))]) (fun y => [(1,roW y.2)]) (fun y => (n - y.1).toNat) ((0 : Int),M) [0,1] (hI := ?_) (hr := ?_)
          · exact ⟨by simp,by dsimp only; omega,by dsimp only; omega,by unfold exW; simp⟩
          · rintro ⟨b,N⟩ ⟨b0,b1,b2,b3⟩
            dsimp only [List.cons_append,List.nil_append] at *
            skip
            repeat' first|(apply p3;(first|exact pu1|exact puC|exact a_add rfl rfl (by omega) (by omega));exact rfl)|refine cdn ?_|refine g_reg (id := 9) ?_|refine g_reg (id := 10) ?_|refine g_reg (id := 13) ?_|((refine g_cond rfl (fun hc => ?_) (fun hc => ?_)) <;> (try simp only [dcB] at hc) <;> (try first|contradiction|(exfalso;omega)))|fail
            · have hJ : JnOk [x,[b]] := jn_two (by simp; omega)
              repeat' first|(apply p3;exact a_litF (dst := some 29) eI [_] rfl rfl rfl rfl rfl rfl rfl rfl nowR;exact rfl)|(apply p3;exact a_litF (dst := some 30) eW [_,_] rfl rfl rfl rfl rfl rfl rfl rfl nowR;exact rfl)|(apply n3;(exact a_litE eW [_] rfl rfl rfl rfl rfl rfl rfl rfl);exact rfl;refine dA ?_)|(apply p3;(first|exact pu1|exact a_add rfl rfl (by omega) (by omega));exact rfl)|refine cd ?_|(apply s3;exact a_appE (fP rfl) rfl rfl rfl rfl nowR (by (simp <;> omega)) (by decide) (by decide) (by exact rfl);exact rfl;exact rfl)|(apply c4 0;exact callF (hD := (joined_ok [x,[b]] hJ));exact rfl;exact rfl;exact rfl;refine dM ?_)|fail
              refine q_again (b + 1,N ++ [[x,[b]].flatten]) [0,3] (by exact stk) ?_ ?_
              · refine ⟨by dsimp only; omega,by dsimp only; omega,by dsimp only; rw [List.length_append]; simp; omega,?_⟩
                dsimp only
                rw [show (b + 1).toNat = b.toNat + 1 by omega,exW_s,b3,List.append_assoc,show ((b.toNat : Nat) : Int) = b by omega]
                simp
              · dsimp only; omega
            · refine q_again (a + 1,N) [0,1] (by exact stk) ?_ ?_
              · have hbn : b = n := by omega
                refine ⟨by dsimp only; omega,by dsimp only; omega,by dsimp only; omega,?_⟩
                dsimp only
                rw [show (a + 1).toNat = a.toNat + 1 by omega,ht,List.flatMap_append,← a3,b3,hbn]
                simp
              · dsimp only; omega
        · have hM : M = wov n.toNat (j + 1).toNat := by
            rw [List.take_of_length_le (by omega),j2] at a3
            rw [show (j + 1).toNat = j.toNat + 1 by omega,wov_s,a3]
          repeat' first|(apply p3;(first|exact pu1|exact a_add rfl rfl (by omega) (by omega));exact rfl)|refine cd ?_|fail
          refine q_again (j + 1,M) [1] (by exact stk) ?_ ?_
          · exact ⟨by dsimp only; omega,by dsimp only; omega,hM⟩
          · dsimp only; omega
    · have hj : j = k := by omega
      rw [← hj,← j2]
      repeat' first|(apply p3;(exact pu1);exact rfl)|refine cd ?_|fail
      repeat refine cr ?_
      refine ends_id ?_
      refine endK [?_] (h2 := ?_) (h3 := ?_) (nd := ?_)
      rotate_left 1
      all_goals (repeat' first|exact ce0|refine ce ?_|refine ce2 ?_ ?_|(refine Or.inr (bx_eq rfl rfl ?_);(try dsimp only [C.ren,C.ren.all]);(try exact rfl))|exact SVLe.refl|refine ceb ?_)
      all_goals first | exact (show nodupB _ = true from rfl) | exact Or.inr rfl | (rfl)
end Go.Proofs.Ytjifedbidnmapaa
end
section
set_option linter.unusedVariables false
set_option linter.unusedSimpArgs false
set_option maxRecDepth 100000
set_option maxHeartbeats 4000000
namespace Go.Proofs.Ytjifedbidnmapaa
open Go Foot
abbrev mr1 (n i j : Nat) : Mk := ([(n : Int) + (i : Int),(j : Int)],[(j : Int),(n : Int) + (i : Int)])
abbrev mr2 (wo : List (List Int)) (i : Nat) : Mk := ([(wo.length : Int) + (i : Int)],wo.getD i [])
abbrev mr3 (n i : Nat) (x : List Int) : Mk := ([2 * (n : Int),(i : Int)] ++ x,[2 * (n : Int),(n : Int) + (i : Int)])
@[irreducible] def g1R (n i k : Nat) : List Mk := (List.range k).map (mr1 n i)
@[irreducible] def g1P (n i : Nat) : List Mk := (List.range i).flatMap fun i => g1R n i n
@[irreducible] def g2P (wo : List (List Int)) (i : Nat) : List Mk := (List.range i).map (mr2 wo)
@[irreducible] def g3P (n de : Nat) (ha : List Int) (i : Nat) : List Mk := (List.range i).flatMap fun (i : Nat) => if (i : Int) ∈ ha then [] else (wov n (de - 1)).map (mr3 n i)
theorem g1R_s (n i k : Nat) : g1R n i (k + 1) = g1R n i k ++ [mr1 n i k] := by
  unfold g1R
  rw [List.range_succ,List.map_append]
  rfl
theorem g1P_s (n i : Nat) : g1P n (i + 1) = g1P n i ++ g1R n i n := by
  unfold g1P
  rw [List.range_succ,List.flatMap_append]
  simp
theorem g2P_s (wo : List (List Int)) (i : Nat) : g2P wo (i + 1) = g2P wo i ++ [mr2 wo i] := by
  unfold g2P
  rw [List.range_succ,List.map_append]
  rfl
theorem g3P_s (n de : Nat) (ha : List Int) (i : Nat) : g3P n de ha (i + 1) = g3P n de ha i ++ if (i : Int) ∈ ha then [] else (wov n (de - 1)).map (mr3 n i) := by
  unfold g3P
  rw [List.range_succ,List.flatMap_append]
  simp
theorem mkR_P (t : Tg) : mkR t = g1P t.wo.length t.wo.length ++ g2P t.wo t.wo.length ++ g3P t.wo.length t.de.toNat t.ha t.wo.length := by
  unfold mkR grp1 grp2 grp3 g1P g2P g3P g1R
  rfl
theorem isW {l : List Int} (h1 : l.length ≤ 400) (h2 : ∀ y ∈ l,0 ≤ y ∧ y ≤ 9) : isWrd l = true := by
  unfold isWrd inAll
  rw [Bool.and_eq_true,List.all_eq_true,decide_eq_true_eq]
  exact ⟨by omega,fun y hy => by rw [decide_eq_true_eq]; exact h2 y hy⟩
structure RuS (r : Mk) : Prop where
  a : r.1.length ≤ 10
  b : r.2.length ≤ 10
  c : ∀ y ∈ r.1,0 ≤ y ∧ y ≤ 9
  d : ∀ y ∈ r.2,0 ≤ y ∧ y ≤ 9
theorem mkR_rs {t : Tg} (hv : vTag t = true) (hx : (t.wo.length : Int) ≤ 4) (hd : t.de ≤ 2) (hy : ∀ x ∈ t.wo,x.length ≤ 3) : ∀ r ∈ mkR t,RuS r := by
  intro r hr
  have hb := vTag_bd hv
  unfold mkR at hr
  rcases List.mem_append.mp hr with hr | hr
  · rcases List.mem_append.mp hr with hr | hr
    · obtain ⟨i,j,hi,hj,rfl⟩ := mem_grp1.mp hr
      refine ⟨by simp,by simp,fun y h => ?_,fun y h => ?_⟩
      · simp only [List.mem_cons,List.not_mem_nil,or_false] at h; omega
      · simp only [List.mem_cons,List.not_mem_nil,or_false] at h; omega
    · obtain ⟨i,hi,rfl⟩ := mem_grp2.mp hr
      have e : t.wo.getD i [] = t.wo[i]'hi := by rw [List.getD_eq_getElem?_getD,List.getElem?_eq_getElem hi]; rfl
      have h3 := hy _ (List.getElem_mem hi)
      have h4 := (vTag_w hv (List.getElem_mem hi)).2
      refine ⟨by simp,by show (t.wo.getD i []).length ≤ 10; rw [e]; omega,fun y h => ?_,fun y h => ?_⟩
      · simp only [List.mem_cons,List.not_mem_nil,or_false] at h; omega
      · have h5 : y ∈ t.wo[i]'hi := by rw [← e]; exact h
        have := h4 y h5
        omega
  · obtain ⟨i,x,hi,hn,hl,hlt,rfl⟩ := mem_grp3.mp hr
    refine ⟨by simp; omega,by simp,fun y h => ?_,fun y h => ?_⟩
    · rcases List.mem_append.mp h with h | h
      · simp only [List.mem_cons,List.not_mem_nil,or_false] at h; omega
      · have := hlt y h; omega
    · simp only [List.mem_cons,List.not_mem_nil,or_false] at h; omega
theorem mkR_rv {t : Tg} (hv : vTag t = true) (hx : (t.wo.length : Int) ≤ 4) (hd : t.de ≤ 2) (hy : ∀ x ∈ t.wo,x.length ≤ 3) (hl : (mkR t).length ≤ 60) : RvOk (mkR t) := by
  have hr := mkR_rs hv hx hd hy
  have hb := vTag_bd hv
  refine ⟨⟨?_,by omega⟩,fun r h => ?_,fun r h => ?_⟩
  · have hm : ([(t.wo.length : Int) + ((0 : Nat) : Int)],t.wo.getD 0 []) ∈ mkR t := by
      unfold mkR
      exact List.mem_append_left _ (List.mem_append_right _ (mem_grp2.mpr ⟨0,by omega,rfl⟩))
    have := List.length_pos_of_mem hm
    omega
  · have := hr r h
    have h1 := this.a
    have h2 := this.b
    omega
  · have q := hr r h
    have h1 := q.a
    have h2 := q.b
    rw [List.all_cons,List.all_cons,List.all_nil,isW (by omega) q.c,isW (by omega) q.d]
    rfl
theorem preB249 {p : Prop} (h : p := by first | with_reducible assumption | omega | (simp only [List.length_append,List.length_cons,List.length_nil,List.length_set,List.length_replicate,List.length_take,List.length_drop,List.length_tail,List.length_dropLast,List.length_reverse] at *; omega) | exact mem_len (by assumption) (by omega) | (with_reducible refine Int.le_trans (Int.ofNat_le.2 (trimR_len _)) ?_; simp only [List.length_cons,List.length_tail]; omega) | (exact (ruAt_ok (by assumption) (by assumption) (by assumption)).2.1) | (exact (ruAt_ok (by assumption) (by assumption) (by assumption)).2.1) | (have := vMach_bd (by assumption); omega) | (simp only [List.length_append,List.length_cons,List.length_nil,repW_len,seN_len] at *; omega) | (simp only [mC_ch,mC_tu]; omega) | (have := vTag_bd (by assumption); omega) | (have := (‹Gd _ _›).le; omega) | (exact tgHalts_no (by assumption)) | (exact tgHead (by assumption) (by assumption) (by assumption)) | (exact Int.le_trans (tgStep_gd (by assumption) (by assumption) (by assumption) (by assumption)).le (by decide)) | (exact vTag_r (by assumption)) | (with_reducible refine Int.le_trans (Int.ofNat_le.2 (pushL_len _ _)) ?_; simp only [List.length_dropLast]; omega) | exact ls_at (by assumption) (by omega) | exact pt_gd (by assumption) | exact lv_at (by assumption) (by omega) | exact pt_gd (lv_at (by assumption) (by omega)) | exact (ask_ok (by assumption)).1 | exact (ask_ok (by assumption)).2.1 | exact (ask_ok (by assumption)).2.2.1 | exact (ask_ok (by assumption)).2.2.2 | trivial) : p := h
theorem tagToMarkov_ok (t : Tg) (hv : vTag t = true) (hx : (t.wo.length : Int) ≤ 4) (hh : (t.ha.length : Int) ≤ 100) (hd : t.de ≤ 2) (hy : ∀ x ∈ t.wo,x.length ≤ 3) : Does Try.prog 28 [.agg (tgC t)] [] (.tup [(false,[.gv 0]),(false,[int 0])]) [roMk (mkR t)] := by
  have hb := vTag_bd hv
  refine does_of (k := 0) Try.func28 rfl Try.ntmps28 rfl rfl fun w F0 S0 ρ0 => ?_
  dsimp only [argT,argH]
  repeat' first|(apply n3;(first|exact a_new (gb := .bx _) rfl|exact a_litE eMk [] rfl rfl rfl rfl rfl rfl rfl rfl);exact rfl;refine dA ?_)|(apply p3;(first|exact pu1|exact a_ne rfl rfl);exact rfl)|refine cd ?_|(apply w3;exact a_st_bx rfl rfl rfl rfl (fN rfl rfl) (Nat.le_of_ble_eq_true rfl) rfl;exact rfl;refine dS ?_)|(apply c4 0;exact callK1 (θ := []) (hD := (tagFront_ok _ preB249));exact rfl;exact rfl;exact rfl;refine dM ?_)|fail
  all_goals first | (exfalso; omega) | skip
  simp only [List.map_cons,List.map_nil,scC,List.set_cons_zero]
  refine g_loop_id ?_
  refine loopK [1,2,3,4,5,7,8,26] [1,2] (fun y : Int × List Mk => 0 ≤ y.1 ∧ y.1 ≤ t.wo.length ∧ (y.2.length : Int) ≤ 4 * y.1 ∧ y.2 = g1P t.wo.length y.1.toNat) (fun y => [(27,.one (int y.1))]) (fun y => [(1,roMk y.2),(2,.bx [.gv 1])]) (fun y => (t.wo.length - y.1).toNat) ((0 : Int),([] : List Mk)) [0,1,2] (hI := ?_) (hr := ?_)
  · exact ⟨by simp,by simp,by simp,by unfold g1P; simp⟩
  · rintro ⟨i,L⟩ ⟨i0,i1,i2,i3⟩
    dsimp only [List.cons_append,List.nil_append] at *
    skip
    repeat' first|(apply p3;(first|exact pu1|exact puC);exact rfl)|refine cdn ?_|refine g_reg (id := 7) ?_|refine g_reg (id := 8) ?_|refine g_reg (id := 9) ?_|((refine g_cond rfl (fun hc => ?_) (fun hc => ?_)) <;> (try simp only [dcB] at hc) <;> (try first|contradiction|(exfalso;omega)))|fail
    · refine g_loop_id ?_
      refine loopK [1,2,3,4,5,7,8,9,26,27,30] [1,2] (fun y : Int × List Mk => 0 ≤ y.1 ∧ y.1 ≤ t.wo.length ∧ (y.2.length : Int) ≤ 4 * i + y.1 ∧ y.2 = L ++ g1R t.wo.length i.toNat y.1.toNat) (fun y => [(31,.one (int y.1))]) (fun y => [(1,roMk y.2),(2,.bx [.gv 1])]) (fun y => (t.wo.length - y.1).toNat) ((0 : Int),L) [0,1,2] (hI := ?_) (hr := ?_)
      · exact ⟨by simp,by dsimp only; omega,by dsimp only; omega,by unfold g1R; simp⟩
      · rintro ⟨j,K⟩ ⟨j0,j1,j2,j3⟩
        dsimp only [List.cons_append,List.nil_append] at *
        skip
        repeat' first|(apply p3;(first|exact pu1|exact puC|exact a_add rfl rfl (by omega) (by omega));exact rfl)|refine cdn ?_|refine g_reg (id := 10) ?_|refine g_reg (id := 11) ?_|refine g_reg (id := 14) ?_|((refine g_cond rfl (fun hc => ?_) (fun hc => ?_)) <;> (try simp only [dcB] at hc) <;> (try first|contradiction|(exfalso;omega)))|fail
        · repeat' first|(apply p3;exact a_litF (dst := some 39) eI [_,_] rfl rfl rfl rfl rfl rfl rfl rfl nowR;exact rfl)|(apply p3;exact a_litF (dst := some 44) eI [_,_] rfl rfl rfl rfl rfl rfl rfl rfl nowR;exact rfl)|(apply p3;(first|exact pu1|exact a_add rfl rfl (by omega) (by omega));exact rfl)|refine cd ?_|(apply c4 1;exact callK0 (θ := [2,1]) (hD := (addMk_ok _ _ _ preB249));exact rfl;exact rfl;exact rfl;refine dM ?_)|fail
          have ei : ((i.toNat : Nat) : Int) = i := by omega
          have ej : ((j.toNat : Nat) : Int) = j := by omega
          refine q_again (j + 1,K ++ [([(t.wo.length : Int) + i,j],[j,(t.wo.length : Int) + i])]) [0,3,2] (by exact stk) ?_ ?_
          · refine ⟨by dsimp only; omega,by dsimp only; omega,by dsimp only; rw [List.length_append]; simp; omega,?_⟩
            dsimp only
            rw [show (j + 1).toNat = j.toNat + 1 by omega,g1R_s,j3,List.append_assoc]
            simp only [mr1,ei,ej]
          · dsimp only; omega
        · refine q_again (i + 1,K) [0,1,2] (by exact stk) ?_ ?_
          · refine ⟨by dsimp only; omega,by dsimp only; omega,by dsimp only; omega,?_⟩
            dsimp only
            rw [show (i + 1).toNat = i.toNat + 1 by omega,g1P_s,j3,i3,show j.toNat = t.wo.length by omega]
          · dsimp only; omega
    · have iN : i.toNat = t.wo.length := by omega
      rw [iN] at i3
      have hL : L.length ≤ 16 := by omega
      repeat' first|(apply p3;(exact pu1);exact rfl)|refine cd ?_|fail
      refine g_loop_id ?_
      refine loopK [1,2,3,4,5,7,8,48] [1,2] (fun y : Int × List Mk => 0 ≤ y.1 ∧ y.1 ≤ t.wo.length ∧ (y.2.length : Int) ≤ 16 + y.1 ∧ y.2 = L ++ g2P t.wo y.1.toNat) (fun y => [(49,.one (int y.1))]) (fun y => [(1,roMk y.2),(2,.bx [.gv 1])]) (fun y => (t.wo.length - y.1).toNat) ((0 : Int),L) [0,1,2] (hI := ?_) (hr := ?_)
      · exact ⟨by simp,by dsimp only; omega,by dsimp only; omega,by unfold g2P; simp⟩
      · rintro ⟨i,K⟩ ⟨k0,k1,k2,k3⟩
        dsimp only [List.cons_append,List.nil_append] at *
        skip
        repeat' first|(apply p3;(first|exact pu1|exact puC);exact rfl)|refine cdn ?_|refine g_reg (id := 16) ?_|refine g_reg (id := 17) ?_|((refine g_cond rfl (fun hc => ?_) (fun hc => ?_)) <;> (try simp only [dcB] at hc) <;> (try first|contradiction|(exfalso;omega)))|fail
        · have hi : i.toNat < t.wo.length := by omega
          have hw3 := hy _ (List.getElem_mem hi)
          repeat' first|(apply p3;exact a_litF (dst := some 56) eI [_] rfl rfl rfl rfl rfl rfl rfl rfl nowR;exact rfl)|(apply p3;(first|exact pu1|exact a_add rfl rfl (by omega) (by omega)|exact puI);exact rfl)|refine cd ?_|(apply c4 0;exact callF (hD := (clone_ok (t.wo[i.toNat]'hi) (by omega)));exact rfl;exact rfl;exact rfl;refine dM ?_)|(apply c4 1;exact callK0 (θ := [2,1]) (hD := (addMk_ok _ _ _ preB249));exact rfl;exact rfl;exact rfl;refine dM ?_)|fail
          have ei : ((i.toNat : Nat) : Int) = i := by omega
          have ew : t.wo.getD i.toNat [] = t.wo[i.toNat]'hi := by rw [List.getD_eq_getElem?_getD,List.getElem?_eq_getElem hi]; rfl
          refine q_again (i + 1,K ++ [([(t.wo.length : Int) + i],t.wo[i.toNat]'hi)]) [0,3,2] (by exact stk) ?_ ?_
          · refine ⟨by dsimp only; omega,by dsimp only; omega,by dsimp only; rw [List.length_append]; simp; omega,?_⟩
            dsimp only
            rw [show (i + 1).toNat = i.toNat + 1 by omega,g2P_s,k3,List.append_assoc]
            simp only [mr2,ei,ew]
          · dsimp only; omega
        · have kN : i.toNat = t.wo.length := by omega
          rw [kN,i3] at k3
          have hK : K.length ≤ 20 := by omega
          repeat' first|(apply p3;(exact pu1);exact rfl)|refine cd ?_|fail
          refine g_loop_id ?_
          refine loopK [1,2,3,4,5,7,8,65] [1,2] (fun y : Int × List Mk => 0 ≤ y.1 ∧ y.1 ≤ t.wo.length ∧ (y.2.length : Int) ≤ 20 + 4 * y.1 ∧ y.2 = K ++ g3P t.wo.length t.de.toNat t.ha y.1.toNat) (fun y => [(66,.one (int y.1))]) (fun y => [(1,roMk y.2),(2,.bx [.gv 1])]) (fun y => (t.wo.length - y.1).toNat) ((0 : Int),K) [0,1,2] (hI := ?_) (hr := ?_)
          · exact ⟨by simp,by dsimp only; omega,by dsimp only; omega,by unfold g3P; simp⟩
          · rintro ⟨i,M⟩ ⟨m0,m1,m2,m3⟩
            dsimp only [List.cons_append,List.nil_append] at *
            skip
            repeat' first|(apply p3;(first|exact pu1|exact puC);exact rfl)|refine cdn ?_|refine g_reg (id := 21) ?_|refine g_reg (id := 22) ?_|refine g_reg (id := 23) ?_|(apply c4 0;exact callK1 (θ := []) (hD := (ContainsI_ok _ _ preB249));exact rfl;exact rfl;exact rfl;refine dM ?_)|((refine g_cond rfl (fun hc => ?_) (fun hc => ?_)) <;> (try simp only [dcB] at hc) <;> (try first|contradiction|(exfalso;omega)))|fail
            · have ei : ((i.toNat : Nat) : Int) = i := by omega
              repeat' first|(apply p3;(first|exact pu1|exact a_add rfl rfl (by omega) (by omega));exact rfl)|refine cd ?_|fail
              refine q_again (i + 1,M) [0,1,2] (by exact stk) ?_ ?_
              · refine ⟨by dsimp only; omega,by dsimp only; omega,by dsimp only; omega,?_⟩
                dsimp only
                rw [show (i + 1).toNat = i.toNat + 1 by omega,g3P_s,ei,if_pos hc,List.append_nil,m3]
              · dsimp only; omega
            · have ei : ((i.toNat : Nat) : Int) = i := by omega
              have eWv : wov ((t.wo.length : Nat) : Int).toNat (t.de - 1).toNat = wov t.wo.length (t.de.toNat - 1) := by
                rw [Int.toNat_natCast,show (t.de - 1).toNat = t.de.toNat - 1 by omega]
              have hWl : (wov t.wo.length (t.de.toNat - 1)).length ≤ 4 := by
                rw [wov_len]
                have hde : t.de.toNat - 1 = 0 ∨ t.de.toNat - 1 = 1 := by omega
                rcases hde with h | h <;> rw [h]
                · simp
                · simp; omega
              have hWx : ∀ x ∈ wov t.wo.length (t.de.toNat - 1),x.length ≤ 1 := fun x hx => by
                have := (mem_wov.mp hx).1
                omega
              have hg : g3P t.wo.length t.de.toNat t.ha (i + 1).toNat = g3P t.wo.length t.de.toNat t.ha i.toNat ++ (wov t.wo.length (t.de.toNat - 1)).map (mr3 t.wo.length i.toNat) := by
                rw [show (i + 1).toNat = i.toNat + 1 by omega,g3P_s,ei,if_neg hc]
              repeat' first|(apply p3;(first|exact pu1|exact a_sub rfl rfl (by omega) (by omega)|exact puN);exact rfl)|refine cd ?_|(apply c4 1;exact callK0 (θ := []) (hD := (wordsOver_ok ((t.wo.length : Nat) : Int) (t.de - 1) (by omega) (by omega) (by omega) (by omega)));exact rfl;exact rfl;exact rfl;refine dM ?_)|fail
              rw [eWv]
              generalize wov t.wo.length (t.de.toNat - 1) = W at *
              refine g_loop_id ?_
              refine loopK [1,2,3,4,5,7,8,12,65,66,77,78] [1,2] (fun y : Int × List Mk => 0 ≤ y.1 ∧ y.1 ≤ W.length ∧ (y.2.length : Int) ≤ 20 + 4 * i + y.1 ∧ y.2 = M ++ (W.take y.1.toNat).map (mr3 t.wo.length i.toNat)) (fun y => [(79,.one (int y.1))]) (fun y => [(1,roMk y.2),(2,.bx [.gv 1])]) (fun y => (W.length - y.1).toNat) ((0 : Int),M) [0,1,2,3] (hI := ?_) (hr := ?_)
              · exact ⟨by simp,by simp,by dsimp only; omega,by simp⟩
              · rintro ⟨a,P⟩ ⟨a0,a1,a2,a3⟩
                dsimp only [List.cons_append,List.nil_append] at *
                skip
                repeat' first|(apply p3;(first|exact pu1|exact puC|exact a_add rfl rfl (by omega) (by omega));exact rfl)|refine cdn ?_|refine g_reg (id := 25) ?_|refine g_reg (id := 29) ?_|((refine g_cond rfl (fun hc => ?_) (fun hc => ?_)) <;> (try simp only [dcB] at hc) <;> (try first|contradiction|(exfalso;omega)))|fail
                · have hi2 : a.toNat * 1 < W.length := by omega
                  have hx1 := hWx _ (List.getElem_mem hi2)
                  have htk : W.take (a.toNat + 1) = W.take a.toNat ++ [W[a.toNat * 1]'hi2] := by
                    rw [List.take_succ_eq_append_getElem (show a.toNat < W.length by omega)]
                    simp only [Nat.mul_one]
                  repeat' first|(apply p3;(first|exact pu1|exact a_ldW rfl rfl rfl (fC rfl) bnd|exact puI);exact rfl)|refine cdn ?_|refine g_reg (id := 26) ?_|fail
                  generalize W[a.toNat * 1]'hi2 = x at *
                  have hJ : JnOk [[2 * (t.wo.length : Int),i],x] := jn_two (by simp; omega)
                  repeat' first|(apply p3;exact a_litF (dst := some 86) eI [_,_] rfl rfl rfl rfl rfl rfl rfl rfl nowR;exact rfl)|(apply p3;exact a_litF (dst := some 88) eW [_,_] rfl rfl rfl rfl rfl rfl rfl rfl nowR;exact rfl)|(apply p3;exact a_litF (dst := some 94) eI [_,_] rfl rfl rfl rfl rfl rfl rfl rfl nowR;exact rfl)|(apply p3;(first|exact pu1|exact a_add rfl rfl (by omega) (by omega));exact rfl)|refine cd ?_|(apply c4 0;exact callF (hD := (joined_ok [[2 * (t.wo.length : Int),i],x] hJ));exact rfl;exact rfl;exact rfl;refine dM ?_)|(apply c4 1;exact callK0 (θ := [2,1]) (hD := (addMk_ok _ _ _ preB249));exact rfl;exact rfl;exact rfl;refine dM ?_)|fail
                  refine q_again (a + 1,P ++ [([[2 * (t.wo.length : Int),i],x].flatten,[2 * (t.wo.length : Int),(t.wo.length : Int) + i])]) [0,4,2,3] (by exact stk) ?_ ?_
                  · refine ⟨by dsimp only; omega,by dsimp only; omega,by dsimp only; rw [List.length_append]; simp; omega,?_⟩
                    dsimp only
                    rw [show (a + 1).toNat = a.toNat + 1 by omega,htk,List.map_append,a3,List.append_assoc]
                    simp only [mr3,ei,List.map_cons,List.map_nil,List.flatten_cons,List.flatten_nil,List.append_nil]
                  · dsimp only; omega
                · refine q_again (i + 1,P) [0,1,2] (by exact stk) ?_ ?_
                  · refine ⟨by dsimp only; omega,by dsimp only; omega,by dsimp only; omega,?_⟩
                    dsimp only
                    rw [hg,← List.append_assoc,← m3,a3,List.take_of_length_le (by omega)]
                  · dsimp only; omega
            · have hM : M = mkR t := by rw [mkR_P,m3,k3,show i.toNat = t.wo.length by omega]
              have hr := mkR_rv hv hx hd hy (by rw [← hM]; omega)
              rw [← hM] at hr ⊢
              repeat' first|(apply p3;(exact pu1);exact rfl)|refine cd ?_|(apply c4 0;exact callK1 (θ := []) (hD := (ValidMarkov_ok M hr));exact rfl;exact rfl;exact rfl;refine dM ?_)|fail
              repeat refine cr ?_
              refine ends_id ?_
              refine endK [?_] (h2 := ?_) (h3 := ?_) (nd := ?_)
              rotate_left 1
              all_goals (repeat' first|exact ce0|refine ce ?_|refine ce2 ?_ ?_|(refine Or.inr (bx_eq rfl rfl ?_);(try dsimp only [C.ren,C.ren.all]);(try exact rfl))|exact SVLe.refl|refine ceb ?_)
              all_goals first | exact (show nodupB _ = true from rfl) | exact Or.inr rfl | (rfl)
end Go.Proofs.Ytjifedbidnmapaa
end
section
set_option linter.unusedVariables false
set_option linter.unusedSimpArgs false
set_option maxRecDepth 100000
set_option maxHeartbeats 4000000
namespace Go.Proofs.Ytjifedbidnmapaa
open Go Foot
def MvI (t : Tg) (n : Nat) (now : List Int) : Prop :=
  (∃ z : List Int,now = 2 * (t.wo.length : Int) :: z ∧ LtN t.wo.length z ∧ 3 * z.length ≤ 21 + 2 * n) ∨
  (∃ (u v : List Int) (i : Int),now = 2 * (t.wo.length : Int) :: u ++ ((t.wo.length : Int) + i) :: v ∧ LtN t.wo.length u ∧ LtN t.wo.length v ∧ (0 ≤ i ∧ i < t.wo.length) ∧ 3 * (u.length + v.length + 1) + 2 * (1 + u.length) ≤ 21 + 2 * n)
theorem mv_len {t : Tg} {n : Nat} {now : List Int} (h : MvI t n now) (hn : n ≤ 401) : now.length ≤ 300 := by
  rcases h with ⟨z,rfl,_,h⟩ | ⟨u,v,i,rfl,_,_,_,h⟩
  · rw [List.length_cons]; omega
  · rw [List.length_append,List.length_cons,List.length_cons]; omega
theorem mv_next {t : Tg} (hv : vTag t = true) (hy : ∀ x ∈ t.wo,x.length ≤ 3) {n : Nat} {now next : List Int} (h : MvI t n now) (hs : svM (mkR t) now = some next) : MvI t (n + 1) next := by
  have hb := vTag_bd hv
  rcases h with ⟨z,rfl,hz,h⟩ | ⟨u,v,i,rfl,hu,hvv,hi,h⟩
  · cases hh : tgHalts t z with
    | true =>
      unfold tgHalts at hh
      simp only [Bool.or_eq_true,decide_eq_true_eq] at hh
      rw [sv_halt hb.1.1 hz hh] at hs
      cases hs
    | false =>
      unfold tgHalts at hh
      simp only [Bool.or_eq_false_iff,decide_eq_false_iff_not] at hh
      cases z with
      | nil => exfalso; have := hh.1; simp at this; omega
      | cons i r =>
        have hi := hz i (by simp)
        have hr : LtN t.wo.length r := fun y hy => hz y (by simp [hy])
        have hl : t.de.toNat - 1 ≤ r.length := by have := hh.1; simp only [List.length_cons] at this; omega
        have s1 := sv_in (t := t) (i := i) (x := r.take (t.de.toNat - 1)) (v := r.drop (t.de.toNat - 1)) (fun y hy => hr y (List.mem_of_mem_take hy)) (fun y hy => hr y (List.mem_of_mem_drop hy)) (by rw [List.length_take]; omega) hi (by simpa using hh.2)
        rw [List.take_append_drop,hs] at s1
        refine .inr ⟨[],r.drop (t.de.toNat - 1),i,Option.some.inj s1,fun y hy => by simp at hy,fun y hy => hr y (List.mem_of_mem_drop hy),hi,?_⟩
        rw [List.length_drop,List.length_nil]
        rw [List.length_cons] at h
        omega
  · cases v with
    | nil =>
      have s1 := sv_out (t := t) hu hi
      rw [hs] at s1
      have e : t.wo.getD i.toNat [] = t.wo[i.toNat]'(by omega) := by rw [List.getD_eq_getElem?_getD,List.getElem?_eq_getElem (by omega)]; rfl
      have hm := List.getElem_mem (show i.toNat < t.wo.length by omega)
      have h3 := hy _ hm
      have h4 := (vTag_w hv hm).2
      refine .inl ⟨u ++ t.wo.getD i.toNat [],Option.some.inj s1,fun y hy => ?_,?_⟩
      · rcases List.mem_append.mp hy with q | q
        · exact hu y q
        · exact h4 y (by rw [← e]; exact q)
      · rw [List.length_append,e]
        simp only [List.length_nil] at h
        omega
    | cons j v =>
      have hj := hvv j (by simp)
      have hv2 : LtN t.wo.length v := fun y hy => hvv y (by simp [hy])
      have s1 := sv_carry (t := t) hu hv2 hi hj
      rw [hs] at s1
      refine .inr ⟨u ++ [j],v,i,Option.some.inj s1,fun y hy => ?_,hv2,hi,?_⟩
      · rcases List.mem_append.mp hy with q | q
        · exact hu y q
        · have : y = j := by simpa using q
          rw [this]; exact hj
      · rw [List.length_append,List.length_singleton]
        rw [List.length_cons] at h
        omega
theorem flatMap_le {α β : Type} {f : α → List β} {k : Nat} : ∀ {l : List α},(∀ x ∈ l,(f x).length ≤ k) → (l.flatMap f).length ≤ l.length * k
  | [],_ => by simp
  | x :: l,h => by
    have h1 := h x (by simp)
    have h2 := flatMap_le (l := l) fun y hy => h y (by simp [hy])
    rw [List.flatMap_cons,List.length_append,List.length_cons,Nat.add_mul,Nat.one_mul]
    omega
theorem mkR_len {t : Tg} (hx : (t.wo.length : Int) ≤ 4) (hd : t.de ≤ 2) : (mkR t).length ≤ 40 := by
  have h1 : (grp1 t.wo.length).length ≤ 16 := by
    unfold grp1
    have := flatMap_le (l := List.range t.wo.length) (f := fun (i : Nat) => (List.range t.wo.length).map fun (j : Nat) => ([((t.wo.length : Nat) : Int) + (i : Int),(j : Int)],[(j : Int),((t.wo.length : Nat) : Int) + (i : Int)])) (k := 4) (fun x _ => by rw [List.length_map,List.length_range]; omega)
    rw [List.length_range] at this
    omega
  have h2 : (grp2 t.wo).length ≤ 4 := by
    unfold grp2
    rw [List.length_map,List.length_range]
    omega
  have h3 : (grp3 t.wo.length t.de.toNat t.ha).length ≤ 16 := by
    unfold grp3
    have := flatMap_le (l := List.range t.wo.length) (f := fun (i : Nat) => if (i : Int) ∈ t.ha then [] else (wov t.wo.length (t.de.toNat - 1)).map fun x => ([2 * ((t.wo.length : Nat) : Int),(i : Int)] ++ x,[2 * ((t.wo.length : Nat) : Int),((t.wo.length : Nat) : Int) + (i : Int)])) (k := 4) (fun x _ => by
      split
      · simp
      · rw [List.length_map,wov_len]
        have hde : t.de.toNat - 1 = 0 ∨ t.de.toNat - 1 = 1 := by omega
        rcases hde with h | h <;> rw [h]
        · simp
        · simp; omega)
    rw [List.length_range] at this
    omega
  unfold mkR
  rw [List.length_append,List.length_append]
  omega
theorem preB250 {p : Prop} (h : p := by first | with_reducible assumption | omega | (simp only [List.length_append,List.length_cons,List.length_nil,List.length_set,List.length_replicate,List.length_take,List.length_drop,List.length_tail,List.length_dropLast,List.length_reverse] at *; omega) | exact mem_len (by assumption) (by omega) | (with_reducible refine Int.le_trans (Int.ofNat_le.2 (trimR_len _)) ?_; simp only [List.length_cons,List.length_tail]; omega) | (exact (ruAt_ok (by assumption) (by assumption) (by assumption)).2.1) | (exact (ruAt_ok (by assumption) (by assumption) (by assumption)).2.1) | (have := vMach_bd (by assumption); omega) | (simp only [List.length_append,List.length_cons,List.length_nil,repW_len,seN_len] at *; omega) | (simp only [mC_ch,mC_tu]; omega) | (have := vTag_bd (by assumption); omega) | (have := (‹Gd _ _›).le; omega) | (exact tgHalts_no (by assumption)) | (exact tgHead (by assumption) (by assumption) (by assumption)) | (exact Int.le_trans (tgStep_gd (by assumption) (by assumption) (by assumption) (by assumption)).le (by decide)) | (exact vTag_r (by assumption)) | (with_reducible refine Int.le_trans (Int.ofNat_le.2 (pushL_len _ _)) ?_; simp only [List.length_dropLast]; omega) | exact ls_at (by assumption) (by omega) | exact pt_gd (by assumption) | exact lv_at (by assumption) (by omega) | exact pt_gd (lv_at (by assumption) (by omega)) | exact (ask_ok (by assumption)).1 | exact (ask_ok (by assumption)).2.1 | exact (ask_ok (by assumption)).2.2.1 | exact (ask_ok (by assumption)).2.2.2 | trivial) : p := h
theorem RunTagByMarkov_ok (t : Tg) (q : List Int) (B : Int) (hv : vTag t = true) (hg : Gd t q) (hx : (t.wo.length : Int) ≤ 4) (hh : (t.ha.length : Int) ≤ 100) (hd : t.de ≤ 2) (hy : ∀ x ∈ t.wo,x.length ≤ 3) (hq : q.length ≤ 7) (hB : 1 ≤ B) (hB2 : B ≤ 400) : Does Try.prog 10 [.agg (tgC t),.one (shI q),.one (int B)] [] (.tup [(false,[shI (rmk t.wo.length (mkR t) B.toNat 0 q (2 * (t.wo.length : Int) :: q)).1]),(false,[int ((rmk t.wo.length (mkR t) B.toNat 0 q (2 * (t.wo.length : Int) :: q)).2.1 : Nat)]),(false,[boo (rmk t.wo.length (mkR t) B.toNat 0 q (2 * (t.wo.length : Int) :: q)).2.2]),(false,[int 0])]) [] := by
  have hb := vTag_bd hv
  have hw := gd_word hg
  have hys : ∀ x ∈ t.wo,(x.length : Int) ≤ 16777216 := fun x h => by have := hy x h; omega
  have hlt : LtN t.wo.length q := hg.wd
  refine does_of (k := 0) Try.func10 rfl Try.ntmps10 rfl rfl fun w F0 S0 ρ0 => ?_
  dsimp only [argT,argH]
  repeat' first|(apply n3;exact a_new (gb := .bx _) rfl;exact rfl;refine dA ?_)|(apply p3;(first|exact pu1|exact a_ne rfl rfl);exact rfl)|refine cdn ?_|refine g_reg (id := 0) ?_|refine g_reg (id := 1) ?_|refine g_reg (id := 2) ?_|refine g_reg (id := 3) ?_|refine g_reg (id := 4) ?_|(apply c4 0;exact callK1 (θ := []) (hD := (tagCode_ok _ _ preB250 preB250 preB250 preB250));exact rfl;exact rfl;exact rfl;refine dM ?_)|(apply c4 0;exact callK1 (θ := []) (hD := (budgetOk_ok _));exact rfl;exact rfl;exact rfl;refine dM ?_)|((refine g_cond rfl (fun hc => ?_) (fun hc => ?_)) <;> (try simp only [dcB] at hc) <;> (try first|contradiction|(exfalso;omega)))|fail
  all_goals first | (exfalso; rw [hv,hw] at hc; exact hc rfl) | skip
  repeat' first|(apply p3;(exact pu1);exact rfl)|refine cdn ?_|refine g_reg (id := 6) ?_|(apply c4 1;exact callK0 (θ := []) (hD := (tagToMarkov_ok t hv hx hh hd hy));exact rfl;exact rfl;exact rfl;refine dM ?_)|fail
  refine g_turn (t_freeze (i := 1) rfl nowR) ?_
  repeat' first|(apply p3;(first|exact pu1|exact a_ne rfl rfl);exact rfl)|refine cd ?_|(apply c4 0;exact callK0 (θ := []) (hD := (WordOfTag_ok t q hv hg hx hh hys (by omega)));exact rfl;exact rfl;exact rfl;refine dM ?_)|(apply c4 0;exact callF (hD := (clone_ok q (by omega)));exact rfl;exact rfl;exact rfl;refine dM ?_)|fail
  have hml := mkR_len hx hd
  have hRl : RlOk (mkR t) := ⟨by omega,fun r h => by have q := mkR_rs hv hx hd hy r h; have h1 := q.a; have h2 := q.b; omega⟩
  refine g_loop_id ?_
  refine loopK [2,3,6,7,8,9,11] [] (fun y : Int × List Int × List Int => 0 ≤ y.1 ∧ y.1 ≤ B ∧ MvI t y.1.toNat y.2.2 ∧ y.2.1.length ≤ 300 ∧ rmk t.wo.length (mkR t) (B - y.1).toNat y.1.toNat y.2.1 y.2.2 = rmk t.wo.length (mkR t) B.toNat 0 q (2 * (t.wo.length : Int) :: q)) (fun y => [(15,.one (int y.1)),(14,.one (shI y.2.1)),(13,.one (shI y.2.2))]) (fun _ => []) (fun y => (B - y.1).toNat) ((0 : Int),q,2 * (t.wo.length : Int) :: q) [0,1] (hI := ?_) (hr := ?_)
  · exact ⟨by simp,by dsimp only; omega,.inl ⟨q,rfl,hlt,by omega⟩,by dsimp only; omega,by simp⟩
  · rintro ⟨n,last,now⟩ ⟨j0,j1,j2,j3,j4⟩
    dsimp only [List.cons_append,List.nil_append] at *
    skip
    repeat' first|refine cdn ?_|fail
    · have hnl := mv_len j2 (by omega)
      cases hW : tgW t.wo.length now with
      | none =>
        cases hS : stepMk (mkR t) 0 now with
        | none =>
          have e : rmk t.wo.length (mkR t) (B - n).toNat n.toNat last now = (last,n.toNat,true) := by
            rw [rmk_none (by rw [← stepMk_sv (mkR t) 0,hS]; rfl),hW]
            rfl
          rw [← j4,e]
          dsimp only
          rw [show ((n.toNat : Nat) : Int) = n by omega]
          repeat' first|(apply p3;(first|exact pu1|exact puC);exact rfl)|refine cd ?_|(apply c4 0;exact callK1 (θ := []) (hD := (tagOfWordN_ok t now hx (by omega) hW));exact rfl;exact rfl;exact rfl;refine dM ?_)|(apply c4 0;exact callK1 (θ := []) (hD := (stepMkN_ok (mkR t) now hRl (by omega) hS));exact rfl;exact rfl;exact rfl;refine dM ?_)|refine o_no rfl rfl rfl rfl ?_|fail
          repeat refine cr ?_
          refine ends_id ?_
          refine endK [] (h2 := ?_) (h3 := ?_) (nd := ?_)
          all_goals (repeat' first|exact ce0|refine ce ?_|refine ce2 ?_ ?_|exact SVLe.refl|refine ceb ?_)
          all_goals first | exact (show nodupB _ = true from rfl) | exact Or.inr rfl | (rfl)
        | some p =>
          obtain ⟨k,next⟩ := p
          have hs : svM (mkR t) now = some next := by
            rw [← stepMk_sv (mkR t) 0,hS]
            rfl
          have hmv := mv_next hv hy j2 hs
          have hnx := mv_len hmv (by omega)
          repeat' first|(apply p3;(first|exact pu1|exact puC|exact puN|exact a_add rfl rfl (by omega) (by omega));exact rfl)|refine cd ?_|(apply c4 0;exact callK1 (θ := []) (hD := (tagOfWordN_ok t now hx (by omega) hW));exact rfl;exact rfl;exact rfl;refine dM ?_)|(apply c4 0;exact callF (hD := (stepMkY_ok (mkR t) now next k hRl (by omega) hS));exact rfl;exact rfl;exact rfl;refine dM ?_)|(apply py3;exact rfl;exact rfl;(first|exact pu1|exact puC);exact rfl;exact rfl)|((refine g_cond rfl (fun hc => ?_) (fun hc => ?_)) <;> (try simp only [dcB] at hc) <;> (try first|contradiction|(exfalso;omega)))|fail
          · have e : rmk t.wo.length (mkR t) (B - n).toNat n.toNat last now = (last,n.toNat,false) := by
              rw [show (B - n).toNat = 0 by omega,rmk,hS,hW]
              rfl
            rw [← j4,e]
            dsimp only
            rw [show ((n.toNat : Nat) : Int) = n by omega]
            repeat refine cr ?_
            refine ends_id ?_
            refine endK [] (h2 := ?_) (h3 := ?_) (nd := ?_)
            all_goals (repeat' first|exact ce0|refine ce ?_|refine ce2 ?_ ?_|exact SVLe.refl|refine ceb ?_)
            all_goals first | exact (show nodupB _ = true from rfl) | exact Or.inr rfl | ((first | rfl | rw [decide_eq_false (by omega)]))
          · refine q_again (n + 1,last,next) [0,1] (by exact stk) ?_ ?_
            · refine ⟨by dsimp only; omega,by dsimp only; omega,by dsimp only; rw [show (n + 1).toNat = n.toNat + 1 by omega]; exact hmv,by dsimp only; omega,?_⟩
              dsimp only
              rw [← j4,show (B - n).toNat = (B - (n + 1)).toNat + 1 by omega,rmk_some hs,hW,show (n + 1).toNat = n.toNat + 1 by omega]
              rfl
            · dsimp only; omega
      | some z =>
        have hzl : z.length ≤ 300 := by
          unfold tgW at hW
          split at hW
          · have := Option.some.inj hW
            rw [← this,List.length_tail]
            omega
          · cases hW
        cases hS : stepMk (mkR t) 0 now with
        | none =>
          have e : rmk t.wo.length (mkR t) (B - n).toNat n.toNat last now = (z,n.toNat,true) := by
            rw [rmk_none (by rw [← stepMk_sv (mkR t) 0,hS]; rfl),hW]
            rfl
          rw [← j4,e]
          dsimp only
          rw [show ((n.toNat : Nat) : Int) = n by omega]
          repeat' first|(apply p3;(first|exact pu1|exact puC);exact rfl)|refine cd ?_|(apply c4 0;exact callF (hD := (tagOfWordY_ok t now z hx (by omega) hW));exact rfl;exact rfl;exact rfl;refine dM ?_)|(apply c4 0;exact callK1 (θ := []) (hD := (stepMkN_ok (mkR t) now hRl (by omega) hS));exact rfl;exact rfl;exact rfl;refine dM ?_)|refine o_no rfl rfl rfl rfl ?_|fail
          repeat refine cr ?_
          refine ends_id ?_
          refine endK [] (h2 := ?_) (h3 := ?_) (nd := ?_)
          all_goals (repeat' first|exact ce0|refine ce ?_|refine ce2 ?_ ?_|exact SVLe.refl|refine ceb ?_)
          all_goals first | exact (show nodupB _ = true from rfl) | exact Or.inr rfl | (rfl)
        | some p =>
          obtain ⟨k,next⟩ := p
          have hs : svM (mkR t) now = some next := by
            rw [← stepMk_sv (mkR t) 0,hS]
            rfl
          have hmv := mv_next hv hy j2 hs
          have hnx := mv_len hmv (by omega)
          repeat' first|(apply p3;(first|exact pu1|exact puC|exact puN|exact a_add rfl rfl (by omega) (by omega));exact rfl)|refine cd ?_|(apply c4 0;exact callF (hD := (tagOfWordY_ok t now z hx (by omega) hW));exact rfl;exact rfl;exact rfl;refine dM ?_)|(apply c4 0;exact callF (hD := (stepMkY_ok (mkR t) now next k hRl (by omega) hS));exact rfl;exact rfl;exact rfl;refine dM ?_)|(apply py3;exact rfl;exact rfl;(first|exact pu1|exact puC);exact rfl;exact rfl)|((refine g_cond rfl (fun hc => ?_) (fun hc => ?_)) <;> (try simp only [dcB] at hc) <;> (try first|contradiction|(exfalso;omega)))|fail
          · have e : rmk t.wo.length (mkR t) (B - n).toNat n.toNat last now = (z,n.toNat,false) := by
              rw [show (B - n).toNat = 0 by omega,rmk,hS,hW]
              rfl
            rw [← j4,e]
            dsimp only
            rw [show ((n.toNat : Nat) : Int) = n by omega]
            repeat refine cr ?_
            refine ends_id ?_
            refine endK [] (h2 := ?_) (h3 := ?_) (nd := ?_)
            all_goals (repeat' first|exact ce0|refine ce ?_|refine ce2 ?_ ?_|exact SVLe.refl|refine ceb ?_)
            all_goals first | exact (show nodupB _ = true from rfl) | exact Or.inr rfl | ((first | rfl | rw [decide_eq_false (by omega)]))
          · refine q_again (n + 1,z,next) [0,1] (by exact stk) ?_ ?_
            · refine ⟨by dsimp only; omega,by dsimp only; omega,by dsimp only; rw [show (n + 1).toNat = n.toNat + 1 by omega]; exact hmv,by dsimp only; omega,?_⟩
              dsimp only
              rw [← j4,show (B - n).toNat = (B - (n + 1)).toNat + 1 by omega,rmk_some hs,hW,show (n + 1).toNat = n.toNat + 1 by omega]
              rfl
            · dsimp only; omega
end Go.Proofs.Ytjifedbidnmapaa
end
section
set_option linter.unusedVariables false
set_option linter.unusedSimpArgs false
set_option maxRecDepth 100000
set_option maxHeartbeats 4000000
namespace Go.Proofs.Ytjifedbidnmapaa
open Go Foot
end Go.Proofs.Ytjifedbidnmapaa
end
section
set_option linter.unusedVariables false
set_option linter.unusedSimpArgs false
set_option maxRecDepth 100000
set_option maxHeartbeats 4000000
namespace Go.Proofs.Ytjifedbidnmapaa
open Go Foot
structure PtOk (m : Mach) (x : Part) : Prop where
  s : 0 ≤ x.st ∧ x.st ≤ m.st - 1
  a : 0 ≤ x.pl ∧ x.pl < x.ce.length
  l : (x.ce.length : Int) ≤ 60
  c : ∀ v ∈ x.ce,0 ≤ v ∧ v ≤ m.sy - 1
theorem pt_gd {m : Mach} {x : Part} (g : PtOk m x) : PtGd x := ⟨g.a.1,g.a.2,by have := g.l; omega⟩
end Go.Proofs.Ytjifedbidnmapaa
end
section
set_option linter.unusedVariables false
set_option linter.unusedSimpArgs false
set_option maxRecDepth 100000
set_option maxHeartbeats 4000000
namespace Go.Proofs.Ytjifedbidnmapaa
open Go Foot
structure LvOk (m : Mach) (l : List Part) : Prop where
  n : (l.length : Int) ≤ 6000
  a : ∀ x ∈ l,PtOk m x
theorem lv_at {m : Mach} {l : List Part} (g : LvOk m l) {i : Nat} (h : i < l.length) : PtOk m l[i] := g.a _ (List.getElem_mem h)
end Go.Proofs.Ytjifedbidnmapaa
end
section
set_option linter.unusedVariables false
set_option linter.unusedSimpArgs false
set_option maxRecDepth 100000
set_option maxHeartbeats 4000000
namespace Go.Proofs.Ytjifedbidnmapaa
open Go Foot
end Go.Proofs.Ytjifedbidnmapaa
end
section
set_option linter.unusedVariables false
set_option linter.unusedSimpArgs false
set_option maxRecDepth 100000
set_option maxHeartbeats 4000000
namespace Go.Proofs.Ytjifedbidnmapaa
open Go Foot
end Go.Proofs.Ytjifedbidnmapaa
end
section
set_option linter.unusedVariables false
set_option linter.unusedSimpArgs false
set_option maxRecDepth 100000
set_option maxHeartbeats 4000000
namespace Go.Proofs.Ytjifedbidnmapaa
open Go Foot
end Go.Proofs.Ytjifedbidnmapaa
end
section
set_option linter.unusedVariables false
set_option linter.unusedSimpArgs false
set_option maxRecDepth 100000
set_option maxHeartbeats 4000000
namespace Go.Proofs.Ytjifedbidnmapaa
open Go Foot
end Go.Proofs.Ytjifedbidnmapaa
end
section
set_option linter.unusedVariables false
set_option linter.unusedSimpArgs false
set_option maxRecDepth 100000
set_option maxHeartbeats 4000000
namespace Go.Proofs.Ytjifedbidnmapaa
open Go Foot
end Go.Proofs.Ytjifedbidnmapaa
end
section
set_option linter.unusedVariables false
set_option linter.unusedSimpArgs false
set_option maxRecDepth 100000
namespace Go.Proofs.Ytjifedbidnmapaa
open Go Foot
@[irreducible] def mulW (a b : Int) : Int := IntKind.u64.wrap (a * b)
@[irreducible] def addW (a b : Int) : Int := IntKind.u64.wrap (a + b)
@[irreducible] def cnvW (a : Int) : Int := IntKind.u64.wrap a
@[irreducible] def shrW (a b : Int) : Int := a.fdiv (2 ^ min b.toNat IntKind.u64.bits)
@[irreducible] def andW (a b : Int) : Int := IntKind.u64.wrap ((BitVec.ofInt IntKind.u64.bits a &&& BitVec.ofInt IntKind.u64.bits b).toNat : Nat)
theorem andW_le (a : Int) : 0 ≤ andW a 255 ∧ andW a 255 ≤ 255 := by
  have h : (BitVec.ofInt IntKind.u64.bits a &&& BitVec.ofInt IntKind.u64.bits 255).toNat ≤ 255 := by
    show (BitVec.ofInt 64 a &&& BitVec.ofInt 64 255).toNat ≤ 255
    rw [BitVec.toNat_and]
    have h5 : (BitVec.ofInt 64 255).toNat = 255 := by decide
    rw [h5]
    exact Nat.and_le_right
  unfold andW
  rw [wrapU (by omega) (by omega)]
  omega
section
variable {P : Program} {g : Gh} {st : St}
variable {dst : Option Tmp} {ty : TypeId} {pos : String} {after : Array Edge} {guard : Option (Nat × Bool)} {x y : Operand} {T U : TypeId} {a b : Int}
theorem w_mul (e1 : opd st x = .one (u64 a)) (e2 : opd st y = .one (u64 b)) : Acts P g ⟨dst,.binOp .mul T x y U,ty,pos,after,guard⟩ st (.one (u64 (mulW a b))) [] [] := by
  unfold mulW
  exact a_bin (op := .mul) e1 e2 rfl trivial
theorem w_add (e1 : opd st x = .one (u64 a)) (e2 : opd st y = .one (u64 b)) : Acts P g ⟨dst,.binOp .add T x y U,ty,pos,after,guard⟩ st (.one (u64 (addW a b))) [] [] := by
  unfold addW
  exact a_bin (op := .add) e1 e2 rfl trivial
theorem w_and (e1 : opd st x = .one (u64 a)) (e2 : opd st y = .one (u64 b)) : Acts P g ⟨dst,.binOp .and T x y U,ty,pos,after,guard⟩ st (.one (u64 (andW a b))) [] [] := by
  unfold andW
  exact a_bin (op := .and) e1 e2 rfl trivial
theorem w_shr (e1 : opd st x = .one (u64 a)) (e2 : opd st y = .one (u64 b)) (h : 0 ≤ b) : Acts P g ⟨dst,.binOp .shr T x y U,ty,pos,after,guard⟩ st (.one (u64 (shrW a b))) [] [] := by
  unfold shrW
  exact a_bin (op := .shr) e1 e2 rfl h
theorem w_cnv (e1 : opd st x = .one (int a)) (hT : P.underlying T = some (.int .i64)) (hU : P.underlying U = some (.int .u64)) : Acts P g ⟨dst,.convert T U x,ty,pos,after,guard⟩ st (.one (u64 (cnvW a))) [] [] := by
  unfold cnvW
  exact a_conv e1 (by rw [hT]; rfl) hU
end
end Go.Proofs.Ytjifedbidnmapaa
end
section
set_option linter.unusedVariables false
set_option linter.unusedSimpArgs false
set_option maxRecDepth 100000
set_option maxHeartbeats 4000000
namespace Go.Proofs.Ytjifedbidnmapaa
open Go Foot
abbrev shY (l : List Int) : C := .d (.sl false 1 (rows eY l))
structure Src where
  co : List Int
  pl : Int
  sd : Int
abbrev srB (s : Src) : GB := .bx [shY s.co,int s.pl,u64 s.sd]
structure SrOk (s : Src) : Prop where
  n : (s.co.length : Int) ≤ 9223372036854775807
  p : 0 ≤ s.pl ∧ s.pl ≤ 1000000000000000000
  b : ∀ x ∈ s.co,0 ≤ x ∧ x ≤ 255
@[irreducible] def nxB (s : Src) : Int := if s.pl < s.co.length then s.co.getD s.pl.toNat 0 else 0
@[irreducible] def nxS (s : Src) : Src := ⟨s.co,s.pl + 1,addW (addW (mulW s.sd 6364136223846793005) (cnvW (nxB s))) 1442695040888963407⟩
@[irreducible] def nxV (s : Src) : Int := if s.pl + 1 ≤ s.co.length then nxB s else andW (shrW (nxS s).sd 40) 255
theorem nxB_bd {s : Src} (g : SrOk s) : 0 ≤ nxB s ∧ nxB s ≤ 255 := by
  unfold nxB
  split
  · rename_i h
    have := g.p
    rw [List.getD_eq_getElem?_getD,List.getElem?_eq_getElem (by omega)]
    exact g.b _ (List.getElem_mem _)
  · omega
theorem nxV_bd {s : Src} (g : SrOk s) : 0 ≤ nxV s ∧ nxV s ≤ 255 := by
  unfold nxV
  split
  · exact nxB_bd g
  · exact andW_le _
theorem preB76 {p : Prop} (h : p := by first | with_reducible assumption | omega | (simp only [List.length_append,List.length_cons,List.length_nil,List.length_set,List.length_replicate,List.length_take,List.length_drop,List.length_tail,List.length_dropLast,List.length_reverse] at *; omega) | exact mem_len (by assumption) (by omega) | (with_reducible refine Int.le_trans (Int.ofNat_le.2 (trimR_len _)) ?_; simp only [List.length_cons,List.length_tail]; omega) | (exact (ruAt_ok (by assumption) (by assumption) (by assumption)).2.1) | (exact (ruAt_ok (by assumption) (by assumption) (by assumption)).2.1) | (have := vMach_bd (by assumption); omega) | (simp only [mC_ch,mC_tu]; omega) | (have := vTag_bd (by assumption); omega) | (have := (‹Gd _ _›).le; omega) | (exact tgHalts_no (by assumption)) | (exact tgHead (by assumption) (by assumption) (by assumption)) | (exact Int.le_trans (tgStep_gd (by assumption) (by assumption) (by assumption) (by assumption)).le (by decide)) | (exact vTag_r (by assumption)) | (with_reducible refine Int.le_trans (Int.ofNat_le.2 (pushL_len _ _)) ?_; simp only [List.length_dropLast]; omega) | exact ls_at (by assumption) (by omega) | exact pt_gd (by assumption) | exact lv_at (by assumption) (by omega) | exact pt_gd (lv_at (by assumption) (by omega)) | exact (ask_ok (by assumption)).1 | exact (ask_ok (by assumption)).2.1 | exact (ask_ok (by assumption)).2.2.1 | exact (ask_ok (by assumption)).2.2.2 | trivial) : p := h
theorem srcFrom_ok (l : List Int) : Does Try.prog 12 [.one (shY l)] [] (.one (.gv 0)) [srB ⟨l,0,0⟩] := by
  refine does_of (k := 0) Try.func12 rfl Try.ntmps12 rfl rfl fun w F0 S0 ρ0 => ?_
  dsimp only [argT,argH]
  repeat' first|(apply n3;exact a_new (gb := .bx _) rfl;exact rfl;refine dA ?_)|(apply p3;exact pu1;exact rfl)|refine cd ?_|fail
  repeat refine cr ?_
  refine ends_id ?_
  refine endK [?_] (h2 := ?_) (h3 := ?_) (nd := ?_)
  rotate_left 1
  all_goals (repeat' first|exact ce0|refine ce ?_|refine ce2 ?_ ?_|(refine Or.inr (bx_eq rfl rfl ?_);(try dsimp only [C.ren,C.ren.all]);(try exact rfl))|exact SVLe.refl|refine ceb ?_)
  all_goals first | exact (show nodupB _ = true from rfl) | exact Or.inr rfl | (rfl)
theorem nxS_eq {s : Src} {b : Int} (h : nxB s = b) : nxS s = ⟨s.co,s.pl + 1,addW (addW (mulW s.sd 6364136223846793005) (cnvW b)) 1442695040888963407⟩ := by unfold nxS; rw [h]
theorem srcNext_ok (s : Src) (g : SrOk s) : Does Try.prog 38 [.one (.gv 0)] [srB s] (.one (int (nxV s))) [srB (nxS s)] := by
  have hp := g.p
  have hn := g.n
  by_cases hl : s.pl < s.co.length
  · have hg := g.b _ (List.getElem_mem (show s.pl.toNat < s.co.length by omega))
    have hb : nxB s = s.co[s.pl.toNat]'(by omega) := by
      unfold nxB
      rw [if_pos hl,List.getD_eq_getElem?_getD,List.getElem?_eq_getElem (by omega)]
      rfl
    have hv : nxV s = s.co[s.pl.toNat]'(by omega) := by unfold nxV; rw [if_pos (by omega),hb]
    rw [hv,nxS_eq hb]
    refine does_of (k := 1) Try.func38 rfl Try.ntmps38 rfl rfl fun w F0 S0 ρ0 => ?_
    dsimp only [argT,argH]
    repeat' first|(apply p3;(first|exact pu1|exact a_add rfl rfl (by omega) (by omega)|exact w_mul rfl rfl|exact w_cnv rfl Try.underlying3 Try.underlying71|exact w_add rfl rfl);exact rfl)|refine cd ?_|(apply w3;(exact a_st_bx rfl rfl rfl rfl (fN rfl rfl) (Nat.le_of_ble_eq_true rfl) rfl);exact rfl;refine dS ?_)|(apply g_drN (id := 2) okM [[],[0],[0,1],[0,1,2],[],[4],[4,5],[4,5,6],[4,5,6,7],[0,1,2,3,4,5,6,7,8]] [([],[]),([],[]),([],[]),([],[]),([],[]),([],[]),([],[]),([],[]),([],[]),([],[])] 0;(focus (refine dp 0 0 [8,9,10,11,12] [] pu1 ?_;refine dp 1 1 [8,9,10,11,12] [] (a_pure (sv := .one _) rfl) ?_;refine dp 2 3 [8,9,10,11,12] [] (a_pure (sv := .one _) rfl) ?_;refine dp 3 7 [8,9,10,11,12] [] puL ?_;refine dp 4 0 [4,5,6,7] [] pu1 ?_;refine dp 5 1 [4,5,6,7] [] (a_pure (sv := .one _) rfl) ?_;refine dp 6 3 [4,5,6,7] [] (a_pure (sv := .one _) rfl) ?_;refine dp 7 7 [4,5,6,7] [] puL ?_;refine dp 8 15 [4,5,6,7] [] (by exact puN) ?_;refine dp 9 511 [] [] puC ?_;(refine d_nil ?_;refine dN ?_)));any_goals kernel_rfl)|(apply g_drN (id := 3) okM [[],[0],[0,1],[0,1,2],[],[4],[4,5],[4,5,6],[0,1,2,3,4,5,6,7],[0,1,2,3,4,5,6,7,8],[0,1,2,3,4,5,6,7,8,9],[0,1,2,3,4,5,6,7,8,9,10]] [([],[]),([],[]),([],[]),([],[]),([],[]),([],[]),([],[]),([],[]),([],[]),([],[]),([],[]),([],[])] 0;(focus (refine dp 0 0 [18,19,20,21] [] pu1 ?_;refine dp 1 1 [18,19,20,21] [] (a_pure (sv := .one _) rfl) ?_;refine dp 2 3 [18,19,20,21] [] (a_pure (sv := .one _) rfl) ?_;refine dp 3 7 [18,19,20,21] [] puL ?_;refine dp 4 0 [14,15,16,17] [] pu1 ?_;refine dp 5 1 [14,15,16,17] [] (a_pure (sv := .one _) rfl) ?_;refine dp 6 3 [14,15,16,17] [] (a_pure (sv := .one _) rfl) ?_;refine dp 7 7 [14,15,16,17] [] puL ?_;refine dp 8 255 [] [] puI ?_;refine dp 9 511 [] [] (by exact a_pure (sv := .one _) rfl) ?_;refine dp 10 1023 [] [] (a_of8 rfl Try.underlying5 Try.underlying3 (by omega) (by omega)) ?_;refine dp 11 2047 [] [] pu1 ?_;(refine d_nil ?_;refine dN ?_)));any_goals kernel_rfl)|(apply g_drN (id := 6) okM [[],[0],[0,1],[0,1,2],[],[4],[4,5],[4,5,6],[4,5,6,7],[0,1,2,3,4,5,6,7,8]] [([],[]),([],[]),([],[]),([],[]),([],[]),([],[]),([],[]),([],[]),([],[]),([],[])] 0;(focus (refine dp 0 0 [48,49,50,51,52] [] pu1 ?_;refine dp 1 1 [48,49,50,51,52] [] (a_pure (sv := .one _) rfl) ?_;refine dp 2 3 [48,49,50,51,52] [] (a_pure (sv := .one _) rfl) ?_;refine dp 3 7 [48,49,50,51,52] [] puL ?_;refine dp 4 0 [44,45,46,47] [] pu1 ?_;refine dp 5 1 [44,45,46,47] [] (a_pure (sv := .one _) rfl) ?_;refine dp 6 3 [44,45,46,47] [] (a_pure (sv := .one _) rfl) ?_;refine dp 7 7 [44,45,46,47] [] puL ?_;refine dp 8 15 [44,45,46,47] [] (by exact puN) ?_;refine dp 9 511 [] [] puC ?_;(refine d_nil ?_;refine dN ?_)));any_goals kernel_rfl)|((refine g_cond rfl (fun hc => ?_) (fun hc => ?_)) <;> (try simp only [dcB] at hc) <;> (try first|contradiction|(exfalso;omega)))|fail
    repeat refine cr ?_
    refine ends_id ?_
    refine endK [] (h2 := ?_) (h3 := ?_) (nd := ?_)
    all_goals (repeat' first|exact ce0|refine ce ?_|refine ce2 ?_ ?_|(refine Or.inr (bx_eq rfl rfl ?_);(try dsimp only [C.ren,C.ren.all]);(try exact rfl))|exact SVLe.refl|refine ceb ?_)
    all_goals first | exact (show nodupB _ = true from rfl) | exact Or.inr rfl | (rfl)
  · have hb : nxB s = 0 := by unfold nxB; rw [if_neg hl]
    have hv : nxV s = andW (shrW (nxS s).sd 40) 255 := by unfold nxV; rw [if_neg (by omega)]
    rw [nxS_eq hb] at hv ⊢
    rw [hv]
    have h9 := andW_le (shrW (addW (addW (mulW s.sd 6364136223846793005) (cnvW 0)) 1442695040888963407) 40)
    refine does_of (k := 1) Try.func38 rfl Try.ntmps38 rfl rfl fun w F0 S0 ρ0 => ?_
    dsimp only [argT,argH]
    repeat' first|(apply p3;(first|exact pu1|exact a_add rfl rfl (by omega) (by omega)|exact w_mul rfl rfl|exact w_cnv rfl Try.underlying3 Try.underlying71|exact w_add rfl rfl|exact w_shr rfl rfl (by decide)|exact w_and rfl rfl|exact u_vnoc rfl Try.underlying71 Try.underlying2 bnd bnd);exact rfl)|refine cd ?_|(apply w3;(exact a_st_bx rfl rfl rfl rfl (fN rfl rfl) (Nat.le_of_ble_eq_true rfl) rfl);exact rfl;refine dS ?_)|(apply g_drN (id := 2) okM [[],[0],[0,1],[0,1,2],[],[4],[4,5],[4,5,6],[4,5,6,7],[0,1,2,3,4,5,6,7,8]] [([],[]),([],[]),([],[]),([],[]),([],[]),([],[]),([],[]),([],[]),([],[]),([],[])] 0;(focus (refine dp 0 0 [8,9,10,11,12] [] pu1 ?_;refine dp 1 1 [8,9,10,11,12] [] (a_pure (sv := .one _) rfl) ?_;refine dp 2 3 [8,9,10,11,12] [] (a_pure (sv := .one _) rfl) ?_;refine dp 3 7 [8,9,10,11,12] [] puL ?_;refine dp 4 0 [4,5,6,7] [] pu1 ?_;refine dp 5 1 [4,5,6,7] [] (a_pure (sv := .one _) rfl) ?_;refine dp 6 3 [4,5,6,7] [] (a_pure (sv := .one _) rfl) ?_;refine dp 7 7 [4,5,6,7] [] puL ?_;refine dp 8 15 [4,5,6,7] [] (by exact puN) ?_;refine dp 9 511 [] [] puC ?_;(refine d_nil ?_;refine dN ?_)));any_goals kernel_rfl)|(apply g_drN (id := 6) okM [[],[0],[0,1],[0,1,2],[],[4],[4,5],[4,5,6],[4,5,6,7],[0,1,2,3,4,5,6,7,8]] [([],[]),([],[]),([],[]),([],[]),([],[]),([],[]),([],[]),([],[]),([],[]),([],[])] 0;(focus (refine dp 0 0 [48,49,50,51,52] [] pu1 ?_;refine dp 1 1 [48,49,50,51,52] [] (a_pure (sv := .one _) rfl) ?_;refine dp 2 3 [48,49,50,51,52] [] (a_pure (sv := .one _) rfl) ?_;refine dp 3 7 [48,49,50,51,52] [] puL ?_;refine dp 4 0 [44,45,46,47] [] pu1 ?_;refine dp 5 1 [44,45,46,47] [] (a_pure (sv := .one _) rfl) ?_;refine dp 6 3 [44,45,46,47] [] (a_pure (sv := .one _) rfl) ?_;refine dp 7 7 [44,45,46,47] [] puL ?_;refine dp 8 15 [44,45,46,47] [] (by exact puN) ?_;refine dp 9 511 [] [] puC ?_;(refine d_nil ?_;refine dN ?_)));any_goals kernel_rfl)|((refine g_cond rfl (fun hc => ?_) (fun hc => ?_)) <;> (try simp only [dcB] at hc) <;> (try first|contradiction|(exfalso;omega)))|fail
    repeat refine cr ?_
    refine ends_id ?_
    refine endK [] (h2 := ?_) (h3 := ?_) (nd := ?_)
    all_goals (repeat' first|exact ce0|refine ce ?_|refine ce2 ?_ ?_|(refine Or.inr (bx_eq rfl rfl ?_);(try dsimp only [C.ren,C.ren.all]);(try exact rfl))|exact SVLe.refl|refine ceb ?_)
    all_goals first | exact (show nodupB _ = true from rfl) | exact Or.inr rfl | (rfl)
@[irreducible] def pkS (s : Src) (n : Int) : Src := if n ≤ 1 then s else if 200 < n then nxS (nxS s) else nxS s
@[irreducible] def pkV (s : Src) (n : Int) : Int := if n ≤ 1 then 0 else if 200 < n then (nxV s * 256 + nxV (nxS s)) % n else nxV s % n
theorem sr_next {s : Src} (g : SrOk s) (h : s.pl ≤ 999999999999999999) : SrOk (nxS s) := by
  unfold nxS
  exact ⟨g.n,⟨by have := g.p; dsimp only; omega,by dsimp only; omega⟩,g.b⟩
theorem nxS_pl (s : Src) : (nxS s).pl = s.pl + 1 := by unfold nxS; rfl
theorem pkS_pl (s : Src) (n : Int) : s.pl ≤ (pkS s n).pl ∧ (pkS s n).pl ≤ s.pl + 2 := by
  unfold pkS
  split
  · omega
  · split
    · rw [nxS_pl,nxS_pl]; omega
    · rw [nxS_pl]; omega
theorem sr_pick {s : Src} {n : Int} (g : SrOk s) (h : s.pl ≤ 999999999999999998) : SrOk (pkS s n) := by
  unfold pkS
  split
  · exact g
  · split
    · exact sr_next (sr_next g (by omega)) (by rw [nxS_pl]; omega)
    · exact sr_next g (by omega)
theorem pkV_bd {s : Src} {n : Int} (g : SrOk s) (h : 1 ≤ n) : 0 ≤ pkV s n ∧ pkV s n < n := by
  unfold pkV
  split
  · omega
  · split
    · exact ⟨Int.emod_nonneg _ (by omega),Int.emod_lt_of_pos _ (by omega)⟩
    · exact ⟨Int.emod_nonneg _ (by omega),Int.emod_lt_of_pos _ (by omega)⟩
theorem srcPick_ok (s : Src) (n : Int) (g : SrOk s) (h : s.pl ≤ 999999999999999998) (h1 : n ≤ 1000000) : Does Try.prog 13 [.one (.gv 0),.one (int n)] [srB s] (.one (int (pkV s n))) [srB (pkS s n)] := by
  have g2 := sr_next g (by omega)
  have hb := nxV_bd g
  have hb2 := nxV_bd g2
  by_cases hn : n ≤ 1
  · rw [show pkV s n = 0 by unfold pkV; rw [if_pos hn],show pkS s n = s by unfold pkS; rw [if_pos hn]]
    refine does_of (k := 1) Try.func13 rfl Try.ntmps13 rfl rfl fun w F0 S0 ρ0 => ?_
    dsimp only [argT,argH]
    repeat' first|(apply p3;(first|exact pu1|exact puC);exact rfl)|refine cd ?_|((refine g_cond rfl (fun hc => ?_) (fun hc => ?_)) <;> (try simp only [dcB] at hc) <;> (try first|contradiction|(exfalso;omega)))|fail
    repeat refine cr ?_
    refine ends_id ?_
    refine endK [] (h2 := ?_) (h3 := ?_) (nd := ?_)
    all_goals (repeat' first|exact ce0|refine ce ?_|refine ce2 ?_ ?_|(refine Or.inr (bx_eq rfl rfl ?_);(try dsimp only [C.ren,C.ren.all]);(try exact rfl))|exact SVLe.refl|refine ceb ?_)
    all_goals first | exact (show nodupB _ = true from rfl) | exact Or.inr rfl | (rfl)
  · by_cases hn2 : 200 < n
    · rw [show pkV s n = (nxV s * 256 + nxV (nxS s)) % n by unfold pkV; rw [if_neg hn,if_pos hn2],show pkS s n = nxS (nxS s) by unfold pkS; rw [if_neg hn,if_pos hn2]]
      refine does_of (k := 1) Try.func13 rfl Try.ntmps13 rfl rfl fun w F0 S0 ρ0 => ?_
      dsimp only [argT,argH]
      repeat' first|(apply p3;(first|exact pu1|exact puC|exact a_mulB rfl rfl (by omega) (by omega) (by omega) (by omega)|exact a_add rfl rfl (by omega) (by omega)|exact a_rem rfl rfl (by omega) (by omega) (by omega));exact rfl)|refine cd ?_|(apply c4 0;exact callK0 (θ := [_]) (hD := (srcNext_ok _ preB76));exact rfl;exact rfl;exact rfl;refine dM ?_)|((refine g_cond rfl (fun hc => ?_) (fun hc => ?_)) <;> (try simp only [dcB] at hc) <;> (try first|contradiction|(exfalso;omega)))|fail
      repeat refine cr ?_
      refine ends_id ?_
      refine endK [] (h2 := ?_) (h3 := ?_) (nd := ?_)
      all_goals (repeat' first|exact ce0|refine ce ?_|refine ce2 ?_ ?_|(refine Or.inr (bx_eq rfl rfl ?_);(try dsimp only [C.ren,C.ren.all]);(try exact rfl))|exact SVLe.refl|refine ceb ?_)
      all_goals first | exact (show nodupB _ = true from rfl) | exact Or.inr rfl | (rfl)
    · rw [show pkV s n = nxV s % n by unfold pkV; rw [if_neg hn,if_neg hn2],show pkS s n = nxS s by unfold pkS; rw [if_neg hn,if_neg hn2]]
      refine does_of (k := 1) Try.func13 rfl Try.ntmps13 rfl rfl fun w F0 S0 ρ0 => ?_
      dsimp only [argT,argH]
      repeat' first|(apply p3;(first|exact pu1|exact puC|exact a_rem rfl rfl (by omega) (by omega) (by omega));exact rfl)|refine cd ?_|(apply c4 0;exact callK0 (θ := [_]) (hD := (srcNext_ok _ preB76));exact rfl;exact rfl;exact rfl;refine dM ?_)|((refine g_cond rfl (fun hc => ?_) (fun hc => ?_)) <;> (try simp only [dcB] at hc) <;> (try first|contradiction|(exfalso;omega)))|fail
      repeat refine cr ?_
      refine ends_id ?_
      refine endK [] (h2 := ?_) (h3 := ?_) (nd := ?_)
      all_goals (repeat' first|exact ce0|refine ce ?_|refine ce2 ?_ ?_|(refine Or.inr (bx_eq rfl rfl ?_);(try dsimp only [C.ren,C.ren.all]);(try exact rfl))|exact SVLe.refl|refine ceb ?_)
      all_goals first | exact (show nodupB _ = true from rfl) | exact Or.inr rfl | (rfl)
theorem srcOne_ok (s : Src) (n : Int) (g : SrOk s) (h : s.pl ≤ 999999999999999998) (h1 : n ≤ 1000000) : Does Try.prog 15 [.one (.gv 0),.one (int n)] [srB s] (.one (boo (decide (pkV s n = 0)))) [srB (pkS s n)] := by
  refine does_of (k := 1) Try.func15 rfl Try.ntmps15 rfl rfl fun w F0 S0 ρ0 => ?_
  dsimp only [argT,argH]
  repeat' first|(apply p3;(first|exact pu1|exact puC);exact rfl)|refine cd ?_|(apply c4 0;exact callK0 (θ := [_]) (hD := (srcPick_ok _ _ preB76 preB76 preB76));exact rfl;exact rfl;exact rfl;refine dM ?_)|fail
  repeat refine cr ?_
  refine ends_id ?_
  refine endK [] (h2 := ?_) (h3 := ?_) (nd := ?_)
  all_goals (repeat' first|exact ce0|refine ce ?_|refine ce2 ?_ ?_|(refine Or.inr (bx_eq rfl rfl ?_);(try dsimp only [C.ren,C.ren.all]);(try exact rfl))|exact SVLe.refl|refine ceb ?_)
  all_goals first | exact (show nodupB _ = true from rfl) | exact Or.inr rfl | (rfl)
end Go.Proofs.Ytjifedbidnmapaa
end
section
set_option linter.unusedVariables false
set_option linter.unusedSimpArgs false
set_option maxRecDepth 100000
set_option maxHeartbeats 4000000
namespace Go.Proofs.Ytjifedbidnmapaa
open Go Foot
end Go.Proofs.Ytjifedbidnmapaa
end
section
set_option linter.unusedVariables false
set_option linter.unusedSimpArgs false
set_option maxRecDepth 100000
set_option maxHeartbeats 4000000
namespace Go.Proofs.Ytjifedbidnmapaa
open Go Foot
end Go.Proofs.Ytjifedbidnmapaa
end
section
set_option linter.unusedVariables false
set_option linter.unusedSimpArgs false
set_option maxRecDepth 100000
set_option maxHeartbeats 4000000
namespace Go.Proofs.Ytjifedbidnmapaa
open Go Foot
end Go.Proofs.Ytjifedbidnmapaa
end
section
set_option linter.unusedVariables false
set_option linter.unusedSimpArgs false
set_option maxRecDepth 100000
set_option maxHeartbeats 4000000
namespace Go.Proofs.Ytjifedbidnmapaa
open Go Foot
end Go.Proofs.Ytjifedbidnmapaa
end
section
set_option linter.unusedVariables false
set_option linter.unusedSimpArgs false
set_option maxRecDepth 100000
set_option maxHeartbeats 4000000
namespace Go.Proofs.Ytjifedbidnmapaa
open Go Foot
end Go.Proofs.Ytjifedbidnmapaa
end
section
set_option linter.unusedVariables false
set_option linter.unusedSimpArgs false
set_option maxRecDepth 100000
set_option maxHeartbeats 4000000
namespace Go.Proofs.Ytjifedbidnmapaa
open Go Foot
end Go.Proofs.Ytjifedbidnmapaa
end
section
set_option linter.unusedVariables false
set_option linter.unusedSimpArgs false
set_option maxRecDepth 100000
set_option maxHeartbeats 4000000
namespace Go.Proofs.Ytjifedbidnmapaa
open Go Foot
theorem b10Long_ok (l : List Int) (hx : (l.length : Int) ≤ 9223372036854775807) : Does Try.prog 4 [.one (shY l)] [] (.one (boo (decide ((l.length : Int) > 1048576)))) [] := by
  refine does_of (k := 0) Try.func4 rfl Try.ntmps4 rfl rfl fun w F0 S0 ρ0 => ?_
  dsimp only [argT,argH]
  repeat' first|(apply p3;(first|exact pu1|exact puN|exact puC);exact rfl)|refine cd ?_|fail
  repeat refine cr ?_
  refine ends_id ?_
  refine endK [] (h2 := ?_) (h3 := ?_) (nd := ?_)
  all_goals (repeat' first|exact ce0|refine ce ?_|refine ce2 ?_ ?_|exact SVLe.refl|refine ceb ?_)
  all_goals first | exact (show nodupB _ = true from rfl) | exact Or.inr rfl | (rfl)
theorem b10Nums_ok (xs ys : List Int) (hx : (xs.length : Int) ≤ 16777216) (hy : (ys.length : Int) ≤ 16777216) : Does Try.prog 9 [.one (shI xs),.one (shI ys)] [] (.one (boo (eqI xs ys))) [] := by
  refine does_of (k := 0) Try.func9 rfl Try.ntmps9 rfl rfl fun w F0 S0 ρ0 => ?_
  dsimp only [argT,argH]
  repeat' first|(apply p3;(first|exact pu1|exact puN|exact a_ne rfl rfl);exact rfl)|refine cd ?_|((refine g_cond rfl (fun hc => ?_) (fun hc => ?_)) <;> (try simp only [dcB] at hc) <;> (try first|contradiction|(exfalso;omega)))|fail
  · repeat refine cr ?_
    refine ends_id ?_
    refine endK [] (h2 := ?_) (h3 := ?_) (nd := ?_)
    all_goals (repeat' first|exact ce0|refine ce ?_|refine ce2 ?_ ?_|exact SVLe.refl|refine ceb ?_)
    all_goals first | exact (show nodupB _ = true from rfl) | exact Or.inr rfl | ((symm; unfold eqI; rw [decide_eq_false_iff_not]; rintro rfl; omega))
  refine g_loop_id ?_
  refine loopK [0,1,4] [] (fun i : Int => 0 ≤ i ∧ i ≤ xs.length ∧ xs.take i.toNat = ys.take i.toNat) (fun i => [(5,.one (int i))]) (fun _ => []) (fun i => (xs.length - i).toNat) (0 : Int) [] (hI := ?_) (hr := ?_)
  · exact ⟨by simp,by simp,by simp⟩
  · rintro i ⟨h0,h1,h2⟩
    dsimp only [List.cons_append,List.nil_append] at *
    skip
    repeat' first|(apply p3;(first|exact pu1|exact puN|exact puC|exact a_add rfl rfl (by omega) (by omega));exact rfl)|refine cd ?_|(apply g_drN (id := 6) okM [[],[],[0,1],[0,1,2],[],[],[4,5],[4,5,6],[0,1,2,3,4,5,6,7]] [([],[]),([],[]),([],[]),([],[]),([],[]),([],[]),([],[]),([],[]),([],[])] 0;(focus (refine dp 0 0 [18,21,22,23,24] [] pu1 ?_;refine dp 1 0 [17,21,22,23,24] [] pu1 ?_;refine dp 2 3 [21,22,23,24] [] puI ?_;refine dp 3 7 [21,22,23,24] [] puL ?_;refine dp 4 0 [17,18,19,20,22] [] pu1 ?_;refine dp 5 0 [17,18,19,20,21] [] pu1 ?_;refine dp 6 3 [17,18,19,20] [] puI ?_;refine dp 7 7 [17,18,19,20] [] puL ?_;refine dp 8 255 [] [] (by exact a_ne rfl rfl) ?_;(refine d_nil ?_;refine dN ?_)));any_goals kernel_rfl)|((refine g_cond rfl (fun hc => ?_) (fun hc => ?_)) <;> (try simp only [dcB] at hc) <;> (try first|contradiction|(exfalso;omega)))|fail
    · repeat refine cr ?_
      refine ends_id ?_
      refine endK [] (h2 := ?_) (h3 := ?_) (nd := ?_)
      all_goals (repeat' first|exact ce0|refine ce ?_|refine ce2 ?_ ?_|exact SVLe.refl|refine ceb ?_)
      all_goals first | exact (show nodupB _ = true from rfl) | exact Or.inr rfl | ((symm; unfold eqI; rw [decide_eq_false_iff_not]; rintro rfl; simp_all))
    · refine q_again (i + 1) [] (by exact stk) ?_ ?_
      · exact ⟨by omega,by omega,take_next h0 (by omega) (by omega) h2 (by simp_all)⟩
      · omega
    · have hl := take_end (by omega) (by omega) h2
      repeat refine cr ?_
      refine ends_id ?_
      refine endK [] (h2 := ?_) (h3 := ?_) (nd := ?_)
      all_goals (repeat' first|exact ce0|refine ce ?_|refine ce2 ?_ ?_|exact SVLe.refl|refine ceb ?_)
      all_goals first | exact (show nodupB _ = true from rfl) | exact Or.inr rfl | ((symm; unfold eqI; rw [decide_eq_true_eq]; exact hl))
end Go.Proofs.Ytjifedbidnmapaa
end
section
set_option linter.unusedVariables false
set_option linter.unusedSimpArgs false
set_option maxRecDepth 100000
set_option maxHeartbeats 4000000
namespace Go.Proofs.Ytjifedbidnmapaa
open Go Foot
end Go.Proofs.Ytjifedbidnmapaa
end
section
set_option linter.unusedVariables false
set_option linter.unusedSimpArgs false
set_option maxRecDepth 100000
set_option maxHeartbeats 4000000
namespace Go.Proofs.Ytjifedbidnmapaa
open Go Foot
section
variable {P : Program} {g : Gh} {st : St} {dst : Option Tmp} {ty : TypeId} {pos : String} {after : Array Edge} {guard : Option (Nat × Bool)} {x y z : Operand} {T U : TypeId} {a b : Int}
end
end Go.Proofs.Ytjifedbidnmapaa
end
section
set_option linter.unusedVariables false
set_option linter.unusedSimpArgs false
set_option maxRecDepth 100000
set_option maxHeartbeats 4000000
namespace Go.Proofs.Ytjifedbidnmapaa
open Go Foot
end Go.Proofs.Ytjifedbidnmapaa
end
section
set_option linter.unusedVariables false
set_option linter.unusedSimpArgs false
set_option maxRecDepth 100000
set_option maxHeartbeats 4000000
namespace Go.Proofs.Ytjifedbidnmapaa
open Go Foot
end Go.Proofs.Ytjifedbidnmapaa
end
section
set_option linter.unusedVariables false
set_option linter.unusedSimpArgs false
set_option maxRecDepth 100000
set_option maxHeartbeats 4000000
namespace Go.Proofs.Ytjifedbidnmapaa
open Go Foot
end Go.Proofs.Ytjifedbidnmapaa
end
