/- Parts of the proof (16 of 24). -/
import Derived.Lib.AppendZerosOnto
import Derived.Test.YtighjcjmacajoaaGreatDoorQ15
section
set_option linter.unusedVariables false
set_option linter.unusedSimpArgs false
set_option maxRecDepth 100000
namespace Go.Proofs.YtighjcjmacajoaaGreatDoor
open Go Foot
section
variable {P : Program} {g : Gh} {st : St} {dst : Option Tmp} {ty : TypeId} {pos : String} {after : Array Edge} {guard : Option (Nat × Bool)} {x y : Operand}
theorem a_cap0 {T e : Nat} (hx : opd st x = .one nilC) (hu : P.underlying T = some (.slice e)) : Acts P g ⟨dst,.call { callee := .builtin .cap,args := #[x],argTypes := #[T] },ty,pos,after,guard⟩ st (.one (int 0)) [] [] := by
  refine acts_of fun a w S ρ F h => ⟨.int .i64 0,?_,⟨rfl,rfl⟩⟩
  have e := opd_sc h hx
  simp only [execOp,resolve,invoke,builtin]
  simp [e,builtin,Builtin.cap_,run_underlying hu,goInt]
theorem a_sl0 {T zz : Nat} {hi : Operand} (hx : opd st x = .one nilC) (hh : opd st hi = .one (int 0)) (hT : sliceB P T zz = true) : Acts P g ⟨dst,.slice T x none (some hi) none,ty,pos,after,guard⟩ st (.one nilC) [] [] := by
  refine acts_of fun a w S ρ F h => ⟨.slice none 0 0,?_,⟨rfl,rfl⟩⟩
  show (do pure (.value (← Instr.sliceAt T (a.eval x) ((none : Option Operand).map a.eval) ((some hi).map a.eval) ((none : Option Operand).map a.eval))) : Sem Next).run P w = _
  rw [opd_sc h hx]
  have := run_slice (P := P) (w := w) (T := T) (z := zz) (len := 0) (cap := 0) (l := 0) (u := 0) (ad := none) (lo := none) (hi := some (a.eval hi)) hT (.inl ⟨rfl,rfl⟩) (.inr ⟨.i64,by rw [opd_sc h hh]; rfl⟩) (Nat.le_refl _) (Nat.le_refl _) (Nat.le_refl _)
  simp at this
  simp [this]
theorem a_appZ {T Tn e zz bytes n i : Nat} {vs : List Value} {row : List D} {k1 kn : IntKind} {m : Int} (hu : P.underlying T = some (.slice e)) (hun : P.underlying Tn = some (.int kn)) (hT : zeroC P e = some vs) (hT2 : appB P T zz bytes = true) (hz0 : 0 < zz)
    (hx : opd st x = .one nilC) (hy : opd st y = .one (.d (.sc (.int k1 m)))) (hm : 0 < m) (hmn : m.toNat = n) (hn : m < 9223372036854775808) (hb : n * bytes ≤ 281474976710656) (hrow : repRow (vs.map scD) n = row) :
    Acts P g ⟨dst,.call { callee := .builtin .append,args := #[x,y],argTypes := #[T,Tn] },ty,pos,after,guard⟩ st (.one (.gv i)) [] [(i,.row zz row)] := by
  subst hrow
  have hmn' : m = (n : Int) := by omega
  subst hmn'
  refine ⟨fun a w S ρ F h hfr K Q hK => ?_⟩
  have hfr' : ρ i = none := by simpa using hfr _ (List.mem_singleton.2 rfl)
  clear hfr
  obtain ⟨inf,zv,hi,hz,rfl,hall⟩ := zeroC_spec hT
  unfold appB at hT2
  rw [hu] at hT2
  simp only [hi,hz,Bool.and_eq_true] at hT2
  obtain ⟨⟨hz1,hb1⟩,hz3⟩ := hT2
  have hz1 := Nat.eq_of_beq_eq_true hz1
  have hb1 := Nat.eq_of_beq_eq_true hb1
  have hz3 := Nat.eq_of_beq_eq_true hz3
  subst hz1 hb1
  have hnp : 0 < n := by omega
  have hnc : Builtin.nextslicecap (0 + n) 0 = n := by unfold Builtin.nextslicecap; rw [if_pos (by omega)]; omega
  have hrun := Lib.run_append_grow_zeros (P := P) w T Tn ty e inf zv k1 kn hu hun hi hz none 0 0 [] (by simp [Builtin.firstCells]) n hnp hz0 (by omega) (by omega) hb (by rw [hnc]; exact hb)
  have hge := grownCap_ge w (0 + n) 0 e
  have hrun2 : (execOp a.eval ⟨dst,.call { callee := .builtin .append,args := #[x,y],argTypes := #[T,Tn] },ty,pos,after,guard⟩).run P w = .ok (.value (.slice (some ⟨w.heap.size,0,none⟩) (0 + n) (grownCap w (0 + n) 0 e))) (w.drew.alloc (.cells ((#[] : Array Value) ++ Builtin.zeroCells zv.cells n ++ Builtin.zeroCells zv.cells (grownCap w (0 + n) 0 e - (0 + n))) e)) := by
    simp only [execOp,resolve,invoke,builtin]
    simp [opd_sc h hx,opd_sc h hy,builtin]
    simp at hrun
    rw [hrun]
    rfl
  refine oper_in (fun _ h => nomatch h) ?_
  rw [hrun2,Oper.uponIn_value]
  rw [Nat.zero_add] at hge ⊢
  generalize grownCap w n 0 e = c at *
  have hzr : (Builtin.zeroCells zv.cells n).toList = repRow zv.cells.toList n := by unfold Builtin.zeroCells; exact zero_row zv.cells n
  have hzs : zv.cells.toList.length = inf.size := by simpa using hz3
  have hallr : (repRow zv.cells.toList n).all Value.oneCell' = true := by
    rw [List.all_eq_true] at hall ⊢
    intro u hu
    simp only [repRow,List.mem_flatten,List.mem_replicate] at hu
    obtain ⟨l,⟨_,rfl⟩,hu⟩ := hu
    exact hall u hu
  have hrs := reps_sc (w := w) (S := S) hallr
  rw [repRow_map] at hrs
  have hk : Keeps no w (w.drew.alloc (.cells ((#[] : Array Value) ++ Builtin.zeroCells zv.cells n ++ Builtin.zeroCells zv.cells (c - n)) e)) := keeps_drew.trans (keeps_alloc _) (no_le _)
  have hcells : (w.drew.alloc (.cells ((#[] : Array Value) ++ Builtin.zeroCells zv.cells n ++ Builtin.zeroCells zv.cells (c - n)) e)).heap[w.heap.size]? = some (.cells ((#[] : Array Value) ++ Builtin.zeroCells zv.cells n ++ Builtin.zeroCells zv.cells (c - n)) e) := by
    rw [heap_alloc]
    exact Array.getElem?_push_size
  have hsz : (w.drew.alloc (.cells ((#[] : Array Value) ++ Builtin.zeroCells zv.cells n ++ Builtin.zeroCells zv.cells (c - n)) e)).heap.size = w.heap.size + 1 := by rw [heap_alloc,Array.size_push]; rfl
  have hfull : ((#[] : Array Value) ++ Builtin.zeroCells zv.cells n ++ Builtin.zeroCells zv.cells (c - n)).size = c * inf.size := by
    have hz4 : zv.cells.size = inf.size := hz3
    simp only [Array.size_append,size_zeroCells,hz4,Array.size_empty,Nat.zero_add,← Nat.add_mul]
    congr 1
    omega
  generalize w.drew.alloc (.cells ((#[] : Array Value) ++ Builtin.zeroCells zv.cells n ++ Builtin.zeroCells zv.cells (c - n)) e) = W at *
  have hrep : Rep W S (.sl true inf.size (repRow (zv.cells.toList.map scD) n)) (.slice (some ⟨w.heap.size,0,none⟩) n c) (rng w.heap.size 0 (c * inf.size)) := by
    simp only [Rep,if_true]
    refine ⟨_,n,c,rfl,by rw [repRow_len,List.length_map,hzs],hz0,hge,.inr ⟨w.heap.size,0,repRow zv.cells.toList n,no,rfl,?_,hrs.keep Agree.no (hk.agree h.exS (dis_no _)) (le_refl _) (le_refl _),le_refl _,no_le _,dis_no _,?_⟩⟩
    · intro k u hk'
      have hkl : k < (repRow zv.cells.toList n).length := (List.getElem?_eq_some_iff.1 hk').1
      rw [← hzr] at hkl hk'
      simp only [World.cell?,hcells]
      simp only [Nat.zero_add,Option.isSome_none,Bool.false_eq_true,if_false]
      rw [Array.getElem?_append_left (by simpa using hkl)]
      simpa using hk'
    · intro k hk'
      have : k < ((#[] : Array Value) ++ Builtin.zeroCells zv.cells n ++ Builtin.zeroCells zv.cells (c - n)).size := by rw [hfull]; exact hk'
      simp only [World.cell?,World.frozen?,hcells,Nat.zero_add]
      simp only [Option.isSome_none,Bool.false_eq_true,if_false]
      rw [Array.getElem?_eq_getElem this]
      simp
  refine hK _ _ no _ _ (Done.new (S1 := no) hk hfr' (fun ρ' hl _ => hrep) ?_) ⟨by simp,rfl⟩
  rintro b o ⟨rfl,_,_⟩
  exact ⟨Nat.le_refl _,by omega⟩
theorem a_appZI {T Tn e i : Nat} {k1 kn : IntKind} {m : Int} (hu : P.underlying T = some (.slice e)) (hun : P.underlying Tn = some (.int kn)) (hT : zeroC P e = some [.int .i64 0]) (hT2 : appB P T 1 8 = true)
    (hx : opd st x = .one nilC) (hy : opd st y = .one (.d (.sc (.int k1 m)))) (hm : 0 < m) (hn : m ≤ 16777216) :
    Acts P g ⟨dst,.call { callee := .builtin .append,args := #[x,y],argTypes := #[T,Tn] },ty,pos,after,guard⟩ st (.one (.gv i)) [] [(i,.row 1 (rows eI (List.replicate m.toNat 0)))] :=
  a_appZ hu hun hT hT2 (by decide) hx hy hm rfl (by omega) (by omega) (rows_rep eI 0 _)
end
end Go.Proofs.YtighjcjmacajoaaGreatDoor
end
section
set_option linter.unusedVariables false
set_option linter.unusedSimpArgs false
set_option maxRecDepth 100000
set_option maxHeartbeats 4000000
namespace Go.Proofs.YtighjcjmacajoaaGreatDoor
open Go Foot
theorem preB69 {p : Prop} (h : p := by first | with_reducible assumption | omega | (simp only [List.length_append,List.length_cons,List.length_nil,List.length_set,List.length_replicate,List.length_take,List.length_drop,List.length_tail,List.length_dropLast,List.length_reverse] at *; omega) | exact mem_len (by assumption) (by omega) | (with_reducible refine Int.le_trans (Int.ofNat_le.2 (trimR_len _)) ?_; simp only [List.length_cons,List.length_tail]; omega) | (exact (ruAt_ok (by assumption) (by assumption) (by assumption)).2.1) | (exact (ruAt_ok (by assumption) (by assumption) (by assumption)).2.1) | (have := vMach_bd (by assumption); omega) | (simp only [mC_ch,mC_tu]; omega) | (have := vTag_bd (by assumption); omega) | (have := (‹Gd _ _›).le; omega) | (exact tgHalts_no (by assumption)) | (exact tgHead (by assumption) (by assumption) (by assumption)) | (exact Int.le_trans (tgStep_gd (by assumption) (by assumption) (by assumption) (by assumption)).le (by decide)) | (exact vTag_r (by assumption)) | (with_reducible refine Int.le_trans (Int.ofNat_le.2 (pushL_len _ _)) ?_; simp only [List.length_dropLast]; omega) | exact ls_at (by assumption) (by omega) | exact pt_gd (by assumption) | exact lv_at (by assumption) (by omega) | exact pt_gd (lv_at (by assumption) (by omega)) | exact (ask_ok (by assumption)).1 | exact (ask_ok (by assumption)).2.1 | exact (ask_ok (by assumption)).2.2.1 | exact (ask_ok (by assumption)).2.2.2 | trivial) : p := h
theorem growI_ok (n : Int) (h0 : 0 ≤ n) (h1 : n ≤ 16777216) : Does Tryz.prog 250 [.one nilC,.one (int n)] [] (.one (.gv 0)) [roI []] := by
  refine does_of (k := 0) Tryz.func250 rfl Tryz.ntmps250 rfl rfl fun w F0 S0 ρ0 => ?_
  dsimp only [argT,argH]
  repeat' first|(apply n3;exact a_nilO eI rfl;exact rfl)|(apply p3;(first|exact pu1|exact puC|exact a_cap0 rfl (fE rfl)|exact a_sub rfl rfl (by omega) (by omega));exact rfl)|refine cdn ?_|refine g_reg (id := 0) ?_|refine g_reg (id := 1) ?_|refine g_reg (id := 3) ?_|refine g_reg (id := 4) ?_|((refine g_cond rfl (fun hc => ?_) (fun hc => ?_)) <;> (try simp only [dcB] at hc) <;> (try first|contradiction|(exfalso;omega)))
  · repeat' first|(apply n3;exact a_appZI (fE rfl) (fK rfl) (fZ rfl) (fP rfl) rfl rfl (by omega) (by omega);exact rfl;refine dA ?_)|(apply p3;(first|exact pu1|exact a_cap0 rfl (fE rfl)|exact a_sl0 rfl rfl (fS rfl));exact rfl)|refine cd ?_|(apply s3;exact a_slHO rfl rfl rfl (fS rfl) (by omega) (by omega) (by exact rfl) (by decide);exact rfl;exact rfl)
    repeat refine cr ?_
    refine ends_id ?_
    refine endK [?_] (h2 := ?_) (h3 := ?_) (nd := ?_)
    rotate_left 1
    all_goals (repeat' first|exact ce0|refine ce ?_|refine ce2 ?_ ?_|exact SVLe.refl|refine ceb ?_)
    all_goals first | exact (show nodupB _ = true from rfl) | exact Or.inr rfl | (rfl)
  · repeat' first|(apply n3;exact a_nilO eI rfl;exact rfl)|(apply p3;(exact pu1);exact rfl)|refine cd ?_
    repeat refine cr ?_
    refine ends_id ?_
    refine endK [?_] (h2 := ?_) (h3 := ?_) (nd := ?_)
    rotate_left 1
    all_goals (repeat' first|exact ce0|refine ce ?_|refine ce2 ?_ ?_|exact SVLe.refl|refine ceb ?_)
    all_goals first | exact (show nodupB _ = true from rfl) | exact Or.inr rfl | (rfl)
theorem concatI_ok (ls : List (List Int)) (hn : (ls.length : Int) ≤ 16777216) (hl : ∀ x ∈ ls,(x.length : Int) ≤ 16777216) (ht : (ls.flatten.length : Int) ≤ 16777216) : Does Tryz.prog 185 [.one (shW ls)] [] (.one (.gv 0)) [roI ls.flatten] := by
  have key : ∀ i : Nat,(ls.take i).flatten.length ≤ ls.flatten.length := fun i => by
    have := congrArg (fun l => l.flatten.length) (List.take_append_drop i ls)
    simp only [List.flatten_append,List.length_append] at this
    omega
  have nx : ∀ (i : Int) (h0 : 0 ≤ i) (h : i.toNat < ls.length),(ls.take (i + 1).toNat).flatten = (ls.take i.toNat).flatten ++ ls[i.toNat] := fun i h0 h => by
    rw [show (i + 1).toNat = i.toNat + 1 by omega,List.take_succ_eq_append_getElem h,List.flatten_append,List.flatten_cons,List.flatten_nil,List.append_nil]
  refine does_of (k := 0) Tryz.func185 rfl Tryz.ntmps185 rfl rfl fun w F0 S0 ρ0 => ?_
  dsimp only [argT,argH]
  repeat' first|(apply n3;exact a_nilO eI rfl;exact rfl)|(apply p3;(first|exact pu1|exact puN);exact rfl)|refine cd ?_
  refine g_loop_id ?_
  refine loopK [0,2,9,10] [] (fun y : Int × Int => 0 ≤ y.1 ∧ y.1 ≤ ls.length ∧ y.2 = (ls.take y.1.toNat).flatten.length) (fun y => [(11,.one (int y.1)),(3,.one (int y.2))]) (fun y => []) (fun y => (ls.length - y.1).toNat) ((0 : Int),(0 : Int)) [0] (hI := ?_) (hr := ?_)
  · exact ⟨by simp,by simp,by simp⟩
  · rintro ⟨i,s⟩ ⟨h0,h1,h2⟩
    dsimp only [List.cons_append,List.nil_append] at *
    skip
    repeat' first|(apply p3;(exact puC);exact rfl)|refine cdn ?_|refine g_reg (id := 3) ?_|((refine g_cond rfl (fun hc => ?_) (fun hc => ?_)) <;> (try simp only [dcB] at hc) <;> (try first|contradiction|(exfalso;omega)))
    · have hk := key i.toNat
      have hk2 := key (i + 1).toNat
      have hx := nx i h0 (by omega)
      have hv := hl _ (List.getElem_mem (show i.toNat < ls.length by omega))
      have hx2 := congrArg List.length hx
      rw [List.length_append] at hx2
      repeat' first|(apply p3;(first|exact pu1|exact puC|exact puN|exact a_add rfl rfl (by omega) (by omega)|exact puI);exact rfl)|refine cd ?_|((refine g_cond rfl (fun hc => ?_) (fun hc => ?_)) <;> (try simp only [dcB] at hc) <;> (try first|contradiction|(exfalso;omega)))
      refine q_again (i + 1,_) [0] (by exact stk) ?_ ?_
      · exact ⟨by dsimp only; omega,by dsimp only; omega,by dsimp only; omega⟩
      · dsimp only; omega
    · have hk := key i.toNat
      repeat' first|(apply p3;(first|exact pu1|exact puN);exact rfl)|refine cd ?_|(apply c4 1;exact callK1 (θ := []) (hD := (growI_ok _ preB69 preB69));exact rfl;exact rfl;exact rfl;refine dM ?_)
      refine g_loop_id ?_
      refine loopK [2,6,25,26] [1] (fun y : Int × List Int => 0 ≤ y.1 ∧ y.1 ≤ ls.length ∧ y.2 = (ls.take y.1.toNat).flatten) (fun y => [(27,.one (int y.1))]) (fun y => [(1,roI y.2)]) (fun y => (ls.length - y.1).toNat) ((0 : Int),([] : List Int)) [0,1] (hI := ?_) (hr := ?_)
      · exact ⟨by simp,by simp,by simp⟩
      · rintro ⟨j,o⟩ ⟨j0,j1,j2⟩
        dsimp only [List.cons_append,List.nil_append] at *
        skip
        repeat' first|(apply p3;(exact puC);exact rfl)|refine cdn ?_|refine g_reg (id := 11) ?_|((refine g_cond rfl (fun hc => ?_) (fun hc => ?_)) <;> (try simp only [dcB] at hc) <;> (try first|contradiction|(exfalso;omega)))
        · have hk2 := key (j + 1).toNat
          have hx := nx j j0 (by omega)
          have hv := hl _ (List.getElem_mem (show j.toNat < ls.length by omega))
          have hx2 := congrArg List.length hx
          rw [List.length_append] at hx2
          have hx3 := congrArg List.length j2
          repeat' first|(apply p3;(first|exact pu1|exact a_add rfl rfl (by omega) (by omega)|exact puI);exact rfl)|refine cd ?_|(apply s3;exact a_appE (fP rfl) rfl rfl rfl rfl nowR (by omega) (by decide) (by decide) (by exact rfl);exact rfl;exact rfl)
          refine q_again (j + 1,_) [0,2] (by exact stk) ?_ ?_
          · exact ⟨by dsimp only; omega,by dsimp only; omega,by dsimp only; rw [hx,j2]⟩
          · dsimp only; omega
        · rw [List.take_of_length_le (by omega)] at j2
          rw [← j2]
          repeat' first|(apply p3;(exact pu1);exact rfl)|refine cd ?_
          repeat refine cr ?_
          refine ends_id ?_
          refine endK [?_] (h2 := ?_) (h3 := ?_) (nd := ?_)
          rotate_left 1
          all_goals (repeat' first|exact ce0|refine ce ?_|refine ce2 ?_ ?_|exact SVLe.refl|refine ceb ?_)
          all_goals first | exact (show nodupB _ = true from rfl) | exact Or.inr rfl | (rfl)
structure JnOk (ls : List (List Int)) : Prop where
  n : (ls.length : Int) ≤ 16777216
  l : ∀ x ∈ ls,(x.length : Int) ≤ 16777216
  t : (ls.flatten.length : Int) ≤ 16777216
theorem jn_two {a b : List Int} (h : (a.length : Int) + b.length ≤ 16777216) : JnOk [a,b] := by
  refine ⟨by simp,fun x hx => ?_,by simp; omega⟩
  simp only [List.mem_cons,List.not_mem_nil,or_false] at hx
  rcases hx with rfl | rfl <;> omega
theorem joined_ok (ls : List (List Int)) (g : JnOk ls) : Does Tryz.prog 124 [.one (shW ls)] [] (.one (.gv 0)) [roI ls.flatten] := by
  obtain ⟨hn,hl,ht⟩ := g
  refine does_of (k := 0) Tryz.func124 rfl Tryz.ntmps124 rfl rfl fun w F0 S0 ρ0 => ?_
  dsimp only [argT,argH]
  repeat' first|(apply p3;exact pu1;exact rfl)|refine cd ?_|(apply c4 1;exact callK1 (θ := []) (hD := (concatI_ok _ preB69 preB69 preB69));exact rfl;exact rfl;exact rfl;refine dM ?_)
  repeat refine cr ?_
  refine ends_id ?_
  refine endK [?_] (h2 := ?_) (h3 := ?_) (nd := ?_)
  rotate_left 1
  all_goals (repeat' first|exact ce0|refine ce ?_|refine ce2 ?_ ?_|exact SVLe.refl|refine ceb ?_)
  all_goals first | exact (show nodupB _ = true from rfl) | exact Or.inr rfl | (rfl)
end Go.Proofs.YtighjcjmacajoaaGreatDoor
end
section
set_option linter.unusedVariables false
set_option linter.unusedSimpArgs false
set_option maxRecDepth 100000
set_option maxHeartbeats 4000000
namespace Go.Proofs.YtighjcjmacajoaaGreatDoor
open Go Foot
theorem vMach_len {m : Mach} (hm : vMach m = true) : (m.ru.length : Int) ≤ 6000 := by
  have hb := vMach_bd hm
  have : m.sy * m.st ≤ 6 * 1000 := Int.mul_le_mul hb.1.2 hb.2.1.2 (by omega) (by omega)
  omega
end Go.Proofs.YtighjcjmacajoaaGreatDoor
end
section
set_option linter.unusedVariables false
set_option linter.unusedSimpArgs false
set_option maxRecDepth 100000
set_option maxHeartbeats 4000000
namespace Go.Proofs.YtighjcjmacajoaaGreatDoor
open Go Foot
structure PtOk (m : Mach) (x : Part) : Prop where
  s : 0 ≤ x.st ∧ x.st ≤ m.st - 1
  a : 0 ≤ x.pl ∧ x.pl < x.ce.length
  l : (x.ce.length : Int) ≤ 60
  c : ∀ v ∈ x.ce,0 ≤ v ∧ v ≤ m.sy - 1
theorem pt_gd {m : Mach} {x : Part} (g : PtOk m x) : PtGd x := ⟨g.a.1,g.a.2,by have := g.l; omega⟩
end Go.Proofs.YtighjcjmacajoaaGreatDoor
end
section
set_option linter.unusedVariables false
set_option linter.unusedSimpArgs false
set_option maxRecDepth 100000
set_option maxHeartbeats 4000000
namespace Go.Proofs.YtighjcjmacajoaaGreatDoor
open Go Foot
structure LvOk (m : Mach) (l : List Part) : Prop where
  n : (l.length : Int) ≤ 6000
  a : ∀ x ∈ l,PtOk m x
theorem lv_at {m : Mach} {l : List Part} (g : LvOk m l) {i : Nat} (h : i < l.length) : PtOk m l[i] := g.a _ (List.getElem_mem h)
end Go.Proofs.YtighjcjmacajoaaGreatDoor
end
section
set_option linter.unusedVariables false
set_option linter.unusedSimpArgs false
set_option maxRecDepth 100000
set_option maxHeartbeats 4000000
namespace Go.Proofs.YtighjcjmacajoaaGreatDoor
open Go Foot
def rlO (m : Mach) : Nat → Int → Conf → Conf × Int × Bool × Bool
  | 0,n,c => (c,n,decide (ruAt m c = noR),true)
  | k + 1,n,c => if ruAt m c = noR then (c,n,true,true) else if roomS (stepS (ruAt m c) c) then rlO m k (n + 1) (stepS (ruAt m c) c) else (⟨0,[],[]⟩,0,false,false)
theorem rl_halt {m : Mach} {n b : Int} {c : Conf} {O : Conf × Int × Bool × Bool} (hn : n < b) (h : ruAt m c = noR) (hO : rlO m (b - n).toNat n c = O) : O = (c,n,true,true) := by
  rw [← hO,show (b - n).toNat = (b - n - 1).toNat + 1 by omega]; unfold rlO; rw [if_pos h]
theorem rl_full {m : Mach} {n b : Int} {c : Conf} {O : Conf × Int × Bool × Bool} (hn : n < b) (h : ¬ ruAt m c = noR) (hr : roomS (stepS (ruAt m c) c) = false) (hO : rlO m (b - n).toNat n c = O) : O = (⟨0,[],[]⟩,0,false,false) := by
  rw [← hO,show (b - n).toNat = (b - n - 1).toNat + 1 by omega]; unfold rlO; rw [if_neg h]; simp [hr]
theorem rl_next {m : Mach} {n b : Int} {c : Conf} {O : Conf × Int × Bool × Bool} (hn : n < b) (h : ¬ ruAt m c = noR) (hr : roomS (stepS (ruAt m c) c) = true) (hO : rlO m (b - n).toNat n c = O) : rlO m (b - (n + 1)).toNat (n + 1) (stepS (ruAt m c) c) = O := by
  rw [← hO,show (b - n).toNat = (b - (n + 1)).toNat + 1 by omega]; conv => rhs; unfold rlO
  rw [if_neg h]; simp [hr]
theorem rl_end {m : Mach} {n b : Int} {c : Conf} {O : Conf × Int × Bool × Bool} (hn : ¬ n < b) (hO : rlO m (b - n).toNat n c = O) : O = (c,n,decide (ruAt m c = noR),true) := by
  rw [← hO,show (b - n).toNat = 0 by omega]; unfold rlO; rfl
theorem preB66 {p : Prop} (h : p := by first | with_reducible assumption | omega | (simp only [List.length_append,List.length_cons,List.length_nil,List.length_set,List.length_replicate,List.length_take,List.length_drop,List.length_tail,List.length_dropLast,List.length_reverse] at *; omega) | exact mem_len (by assumption) (by omega) | (with_reducible refine Int.le_trans (Int.ofNat_le.2 (trimR_len _)) ?_; simp only [List.length_cons,List.length_tail]; omega) | (exact (ruAt_ok (by assumption) (by assumption) (by assumption)).2.1) | (exact (ruAt_ok (by assumption) (by assumption) (by assumption)).2.1) | (have := vMach_bd (by assumption); omega) | (simp only [mC_ch,mC_tu]; omega) | (have := vTag_bd (by assumption); omega) | (have := (‹Gd _ _›).le; omega) | (exact tgHalts_no (by assumption)) | (exact tgHead (by assumption) (by assumption) (by assumption)) | (exact Int.le_trans (tgStep_gd (by assumption) (by assumption) (by assumption) (by assumption)).le (by decide)) | (exact vTag_r (by assumption)) | (with_reducible refine Int.le_trans (Int.ofNat_le.2 (pushL_len _ _)) ?_; simp only [List.length_dropLast]; omega) | exact ls_at (by assumption) (by omega) | exact pt_gd (by assumption) | exact lv_at (by assumption) (by omega) | exact pt_gd (lv_at (by assumption) (by omega)) | exact (ask_ok (by assumption)).1 | exact (ask_ok (by assumption)).2.1 | exact (ask_ok (by assumption)).2.2.1 | exact (ask_ok (by assumption)).2.2.2 | trivial) : p := h
theorem l05Run_ok (m : Mach) (c : Conf) (b : Int) (hm : vMach m = true) (hc : vConf m c = true) (h0 : 0 ≤ b) (hb : b ≤ 1000000) (O : Conf × Int × Bool × Bool) (hO : rlO m b.toNat 0 c = O) : Does Tryz.prog 101 [.one (maB m),.agg (coC c),.one (int b)] [] (.tup [(true,[int O.1.st,.gv 0,.gv 1]),(false,[int O.2.1]),(false,[boo O.2.2.1]),(false,[boo O.2.2.2])]) [roI O.1.le,roI O.1.ri] := by
  have hbd := at_bd hm hc
  refine does_of (k := 0) Tryz.func101 rfl Tryz.ntmps101 rfl rfl fun w F0 S0 ρ0 => ?_
  dsimp only [argT,argH]
  repeat' first|(apply n3;exact a_new (gb := .bx _) rfl;exact rfl;refine dA ?_)|(apply p3;(exact pu1);exact rfl)|refine cd ?_|(apply w3;(exact a_st_bx rfl rfl rfl rfl (fN rfl rfl) (Nat.le_of_ble_eq_true rfl) rfl);exact rfl;refine dS ?_)|(apply c4 2;exact callK1 (θ := []) (hD := (l05OwnConfig_ok _ preB66 preB66));exact rfl;exact rfl;exact rfl;refine dM ?_)
  refine g_loop_id ?_
  refine loopK [0,2,6,7,8,9,10] [2,3,4] (fun y : Int × Conf => vConf m y.2 = true ∧ 0 ≤ y.1 ∧ y.1 ≤ b ∧ rlO m (b - y.1).toNat y.1 y.2 = O) (fun y => [(11,.one (int y.1))]) (fun y => [(4,.bx [int y.2.st,.gv 2,.gv 3]),(2,roI y.2.le),(3,roI y.2.ri)]) (fun y => (b - y.1).toNat) ((0 : Int),c) [0,1,2,3,4] (hI := ?_) (hr := ?_)
  · exact ⟨hc,by simp,h0,by simpa using hO⟩
  · rintro ⟨n,c⟩ ⟨i1,i2,i3,i6⟩
    dsimp only [List.cons_append,List.nil_append] at *
    skip
    have hbd := at_bd hm i1; have hok := ruAt_ok hm i1
    repeat' first|(apply p3;(first|exact pu1|exact puC);exact rfl)|refine cdn ?_|refine g_reg (id := 3) ?_|refine g_reg (id := 5) ?_|refine g_reg (id := 6) ?_|(apply w3;(exact a_st_bx rfl rfl rfl rfl (fN rfl rfl) (Nat.le_of_ble_eq_true rfl) rfl);exact rfl;refine dS ?_)|(apply c4 0;exact callK1 (θ := []) (hD := (l05HaltsC_ok _ _ preB66 preB66));exact rfl;exact rfl;exact rfl;refine dM ?_)|((refine g_cond rfl (fun hc => ?_) (fun hc => ?_)) <;> (try simp only [dcB] at hc) <;> (try first|contradiction|(exfalso;omega)))
    · obtain rfl := rl_halt (by omega) hc i6
      repeat refine cr ?_
      refine ends_id ?_
      refine endK [?_,?_] (h2 := ?_) (h3 := ?_) (nd := ?_)
      rotate_left 2
      all_goals (repeat' first|exact ce0|refine ce ?_|refine ce2 ?_ ?_|exact SVLe.refl|refine ceb ?_)
      all_goals first | exact (show nodupB _ = true from rfl) | exact Or.inr rfl | (rfl)
    · have hnr : ¬ ruAt m c = noR := hc
      have hok := hok hnr
      repeat' first|(apply n3;exact a_new (gb := .bx _) rfl;exact rfl;refine dA ?_)|(apply p3;(first|exact pu1|exact a_add rfl rfl (by omega) (by omega));exact rfl)|refine cd ?_|(apply w3;(exact a_st_bx rfl rfl rfl rfl (fN rfl rfl) (Nat.le_of_ble_eq_true rfl) rfl);exact rfl;refine dS ?_)|(apply c4 2;exact callK1 (θ := []) (hD := (l05StepC_ok _ _ preB66 preB66));exact rfl;exact rfl;exact rfl;refine dM ?_)|((refine g_cond rfl (fun hc => ?_) (fun hc => ?_)) <;> (try simp only [dcB] at hc) <;> (try first|contradiction|(exfalso;omega)))
      · obtain rfl := rl_full (by omega) hnr (by assumption) i6
        refine g_conv (t_nilB (i := 1) (k := 1) (z := 1) rfl rfl rfl (by decide)) ?_
        try dsimp only [setRow,List.map_cons,List.map_nil,scC,List.set_cons_zero,List.set_cons_succ,Nat.reduceAdd]
        refine g_conv (t_nilB (i := 1) (k := 2) (z := 1) rfl rfl rfl (by decide)) ?_
        try dsimp only [setRow,List.map_cons,List.map_nil,scC,List.set_cons_zero,List.set_cons_succ,Nat.reduceAdd]
        repeat refine cr ?_
        refine ends_id ?_
        refine endK [?_,?_] (h2 := ?_) (h3 := ?_) (nd := ?_)
        rotate_left 2
        all_goals (repeat' first|exact ce0|refine ce ?_|refine ce2 ?_ ?_|exact SVLe.refl|refine ceb ?_)
        all_goals first | exact (show nodupB _ = true from rfl) | exact Or.inr rfl | (rfl)
      · have hr : roomS (stepS (ruAt m c) c) = true := by assumption
        refine q_again (n + 1,stepS (ruAt m c) c) [0,1,5,6,4] (by exact stk) ?_ ?_
        · exact ⟨stepS_ok hm i1 hnr hr,by dsimp only; omega,by dsimp only; omega,rl_next (by omega) hnr hr i6⟩
        · dsimp only; omega
    · have hnb : n = b := by omega
      obtain rfl := rl_end hc i6
      subst hnb
      repeat' first|refine cd ?_|(apply g_drN (id := 11) okM [[],[],[],[2],[0,2,3],[0,1,2,3,4],[0,1,2,3,4,5],[0,1,2,3,4,5,6]] [([],[]),([],[]),([],[]),([],[]),([],[1]),([],[]),([],[]),([],[])] 0;(focus (refine dp 0 0 [34,35,36] [] puL ?_;refine dp 1 0 [33,35,36] [(false,1)] pu1 ?_;refine dp 2 0 [33,34] [] pu1 ?_;refine dp 3 1 [33,34] [] (callD1 (n := _) 0 (θ := []) (hD := (l05HaltsC_ok _ _ preB66 preB66))) ?_;refine duE 4 11 [34] [] (by exact a_st_bx rfl rfl rfl rfl (fN rfl rfl) (Nat.le_of_ble_eq_true rfl) rfl) (by exact rfl) (by exact rfl) ?_;refine dp 5 31 [] [] pu1 ?_;refine dp 6 63 [] [] pu1 ?_;refine dp 7 127 [] [] (a_pure (sv := .one _) rfl) ?_;(refine d_nil ?_;refine dN ?_)));any_goals kernel_rfl)
      repeat refine cr ?_
      refine ends_id ?_
      refine endK [?_,?_] (h2 := ?_) (h3 := ?_) (nd := ?_)
      rotate_left 2
      all_goals (repeat' first|exact ce0|refine ce ?_|refine ce2 ?_ ?_|exact SVLe.refl|refine ceb ?_)
      all_goals first | exact (show nodupB _ = true from rfl) | exact Or.inr rfl | (rfl)
end Go.Proofs.YtighjcjmacajoaaGreatDoor
end
section
set_option linter.unusedVariables false
set_option linter.unusedSimpArgs false
set_option maxRecDepth 100000
set_option maxHeartbeats 4000000
namespace Go.Proofs.YtighjcjmacajoaaGreatDoor
open Go Foot
end Go.Proofs.YtighjcjmacajoaaGreatDoor
end
section
set_option linter.unusedVariables false
set_option linter.unusedSimpArgs false
set_option maxRecDepth 100000
set_option maxHeartbeats 4000000
namespace Go.Proofs.YtighjcjmacajoaaGreatDoor
open Go Foot
def frF (m : Mach) : Nat → List Int
  | 0 => []
  | i + 1 => if ruI m i = noR then frF m i ++ [(i : Int)] else frF m i
theorem frF_yes {m : Mach} {i : Int} (h0 : 0 ≤ i) (h : ruI m i = noR) : frF m (i + 1).toNat = frF m i.toNat ++ [i] := by
  rw [show (i + 1).toNat = i.toNat + 1 by omega,frF,show ((i.toNat : Nat) : Int) = i by omega,if_pos h]
theorem frF_no {m : Mach} {i : Int} (h0 : 0 ≤ i) (h : ¬ ruI m i = noR) : frF m (i + 1).toNat = frF m i.toNat := by
  rw [show (i + 1).toNat = i.toNat + 1 by omega,frF,show ((i.toNat : Nat) : Int) = i by omega,if_neg h]
theorem frF_len (m : Mach) : ∀ i,(frF m i).length ≤ i
  | 0 => by simp [frF]
  | i + 1 => by
    have := frF_len m i
    unfold frF
    split
    · simp; omega
    · omega
@[irreducible] def freeL (m : Mach) : List Int := frF m m.ru.length
theorem freeRules_ok (m : Mach) (hm : vMach m = true) : Does Tryz.prog 176 [.agg (maC m)] [] (.one (.gv 0)) [roI (freeL m)] := by
  have hl := vMach_len hm
  refine does_of (k := 0) Tryz.func176 rfl Tryz.ntmps176 rfl rfl fun w F0 S0 ρ0 => ?_
  dsimp only [argT,argH]
  repeat' first|(apply n3;exact a_nilO eI rfl;exact rfl)|(apply n3;(first|exact a_new (gb := .bx _) rfl|exact a_litE eI [] rfl rfl rfl rfl rfl rfl rfl rfl);exact rfl;refine dA ?_)|(apply p3;(first|exact pu1|exact puN);exact rfl)|refine cd ?_
  refine g_loop_id ?_
  refine loopK [2,3,8,9] [2] (fun y : Int × List Int => 0 ≤ y.1 ∧ y.1 ≤ m.ru.length ∧ y.2 = frF m y.1.toNat) (fun y => [(10,.one (int y.1))]) (fun y => [(2,roI y.2)]) (fun y => (m.ru.length - y.1).toNat) ((0 : Int),([] : List Int)) [0,1,2] (hI := ?_) (hr := ?_)
  · exact ⟨by simp,by simp,rfl⟩
  · rintro ⟨i,out⟩ ⟨h0,h1,h2⟩
    dsimp only [List.cons_append,List.nil_append] at *
    skip
    repeat' first|(apply p3;(first|exact pu1|exact puC);exact rfl)|refine cdn ?_|refine g_reg (id := 3) ?_|refine g_reg (id := 8) ?_|((refine g_cond rfl (fun hc => ?_) (fun hc => ?_)) <;> (try simp only [dcB] at hc) <;> (try first|contradiction|(exfalso;omega)))
    · have hg := ruI_get (m := m) (i := i) (by omega)
      have ho := frF_len m i.toNat
      rw [← h2] at ho
      repeat' first|(apply n3;exact a_new (gb := .bx _) rfl;exact rfl;refine dA ?_)|(apply p3;(first|exact pu1|exact puI);exact rfl)|refine cdn ?_|refine g_reg (id := 4) ?_|(apply w3;(exact a_st_bx rfl rfl rfl rfl (fN rfl rfl) (Nat.le_of_ble_eq_true rfl) rfl);exact rfl;refine dS ?_)
      simp only [hg]
      by_cases hn : ruI m i = noR
      · have hn2 : ¬ ¬ ruI m i = ⟨0,0,-1⟩ := fun h => h hn
        repeat' first|(apply n3;(exact a_litE eI [_] rfl rfl rfl rfl rfl rfl rfl rfl);exact rfl;refine dA ?_)|(apply p3;(first|exact pu1|exact a_add rfl rfl (by omega) (by omega));exact rfl)|refine cd ?_|(apply s3;exact a_appE (fP rfl) rfl rfl rfl rfl nowR (by (simp;omega)) (by decide) (by decide) (by exact rfl);exact rfl;exact rfl)|(apply c4 0;exact callK1 (θ := []) (hD := (isRule_ok _));exact rfl;exact rfl;exact rfl;refine dM ?_)|((refine g_cond rfl (fun hc => ?_) (fun hc => ?_)) <;> (try simp only [dcB] at hc) <;> (try first|contradiction|(exfalso;omega)))
        refine q_again (i + 1,_) [0,1,5] (by exact stk) ?_ ?_
        · refine ⟨by dsimp only; omega,by dsimp only; omega,?_⟩
          dsimp only
          rw [frF_yes h0 hn,h2]
        · dsimp only; omega
      · have hn2 : ¬ ruI m i = ⟨0,0,-1⟩ := hn
        repeat' first|(apply p3;(first|exact pu1|exact a_add rfl rfl (by omega) (by omega));exact rfl)|refine cd ?_|(apply c4 0;exact callK1 (θ := []) (hD := (isRule_ok _));exact rfl;exact rfl;exact rfl;refine dM ?_)|((refine g_cond rfl (fun hc => ?_) (fun hc => ?_)) <;> (try simp only [dcB] at hc) <;> (try first|contradiction|(exfalso;omega)))
        refine q_again (i + 1,out) [0,1,2] (by exact stk) ?_ ?_
        · refine ⟨by dsimp only; omega,by dsimp only; omega,?_⟩
          dsimp only
          rw [frF_no h0 hn,h2]
        · dsimp only; omega
    · have hi : i.toNat = m.ru.length := by omega
      have e : freeL m = out := by unfold freeL; rw [h2,hi]
      rw [e]
      skip
      repeat refine cr ?_
      refine ends_id ?_
      refine endK [?_] (h2 := ?_) (h3 := ?_) (nd := ?_)
      rotate_left 1
      all_goals (repeat' first|exact ce0|refine ce ?_|refine ce2 ?_ ?_|(refine Or.inr (bx_eq rfl rfl ?_);(try dsimp only [C.ren,C.ren.all]);(try exact rfl))|exact SVLe.refl|refine ceb ?_)
      all_goals first | exact (show nodupB _ = true from rfl) | exact Or.inr rfl | (rfl)
end Go.Proofs.YtighjcjmacajoaaGreatDoor
end
section
set_option linter.unusedVariables false
set_option linter.unusedSimpArgs false
set_option maxRecDepth 100000
set_option maxHeartbeats 4000000
namespace Go.Proofs.YtighjcjmacajoaaGreatDoor
open Go Foot
end Go.Proofs.YtighjcjmacajoaaGreatDoor
end
section
set_option linter.unusedVariables false
set_option linter.unusedSimpArgs false
set_option maxRecDepth 100000
set_option maxHeartbeats 4000000
namespace Go.Proofs.YtighjcjmacajoaaGreatDoor
open Go Foot
def isDg (c : UInt8) : Prop := 48 ≤ c.toNat ∧ c.toNat ≤ 57
def valD (l : Bs) : Nat := l.foldl (fun a c => 10 * a + (c.toNat - 48)) 0
theorem valD_snoc (l : Bs) (c : UInt8) : valD (l ++ [c]) = 10 * valD l + (c.toNat - 48) := by unfold valD; rw [List.foldl_append]; rfl
theorem dg_nat {d : Nat} (h : d < 10) : isDg (UInt8.ofNat (48 + d)) ∧ (UInt8.ofNat (48 + d)).toNat - 48 = d := by
  have : (UInt8.ofNat (48 + d)).toNat = 48 + d := by rw [UInt8.toNat_ofNat']; omega
  unfold isDg
  omega
theorem dec_val : ∀ (u : Nat),valD (Lib.decDigits u) = u ∧ (∀ c ∈ Lib.decDigits u,isDg c) ∧ Lib.decDigits u ≠ [] := by
  intro u
  induction u using Nat.strongRecOn with
  | _ u ih =>
    rw [Lib.decDigits]
    by_cases h : u < 10
    · rw [dif_pos h]
      obtain ⟨d1,d2⟩ := dg_nat h
      refine ⟨?_,fun c hc => by rw [List.mem_singleton.1 hc]; exact d1,by simp⟩
      have := valD_snoc [] (UInt8.ofNat (48 + u))
      rw [List.nil_append,d2] at this
      rw [this]
      simp [valD]
    · rw [dif_neg h]
      obtain ⟨i1,i2,i3⟩ := ih (u / 10) (by omega)
      obtain ⟨d1,d2⟩ := dg_nat (show u % 10 < 10 by omega)
      refine ⟨by rw [valD_snoc,i1,d2]; omega,fun c hc => ?_,by simp⟩
      rcases List.mem_append.1 hc with hc | hc
      · exact i2 c hc
      · rw [List.mem_singleton.1 hc]; exact d1
theorem split_at {α : Type} {s : α} : ∀ {a a' b b' : List α},a ++ s :: b = a' ++ s :: b' → s ∉ a → s ∉ a' → a = a' ∧ b = b'
  | [],[],b,b',h,_,_ => ⟨rfl,by simpa using h⟩
  | [],y :: a',b,b',h,_,h2 => by
    simp only [List.nil_append,List.cons_append,List.cons.injEq] at h
    exact absurd (by simp [h.1]) h2
  | x :: a,[],b,b',h,h1,_ => by
    simp only [List.nil_append,List.cons_append,List.cons.injEq] at h
    exact absurd (by simp [h.1]) h1
  | x :: a,y :: a',b,b',h,h1,h2 => by
    simp only [List.cons_append,List.cons.injEq] at h
    obtain ⟨q1,q2⟩ := split_at h.2 (fun q => h1 (by simp [q])) (fun q => h2 (by simp [q]))
    exact ⟨by rw [h.1,q1],q2⟩
theorem decT_nat {n : Int} (h : 0 ≤ n) : decT n = Lib.decDigits n.toNat := by
  unfold decT Lib.itoa
  rw [if_neg (by omega)]
theorem decT_dg {n : Int} (h : 0 ≤ n) : ∀ c ∈ decT n,isDg c := by rw [decT_nat h]; exact (dec_val _).2.1
theorem decT_inj {a b : Int} (ha : 0 ≤ a) (hb : 0 ≤ b) (h : decT a = decT b) : a = b := by
  rw [decT_nat ha,decT_nat hb] at h
  have := congrArg valD h
  rw [(dec_val _).1,(dec_val _).1] at this
  omega
end Go.Proofs.YtighjcjmacajoaaGreatDoor
end
section
set_option linter.unusedVariables false
set_option linter.unusedSimpArgs false
set_option maxRecDepth 100000
set_option maxHeartbeats 4000000
namespace Go.Proofs.YtighjcjmacajoaaGreatDoor
open Go Foot
def usL : List Rule' → Int → Int → Int × Int
  | [],s,y => (s,y)
  | r :: l,s,y => if r = noR then usL l s y else usL l (max s (r.n + 1)) (max y (r.w + 1))
@[irreducible] def usS (m : Mach) : Int := (usL m.ru 1 1).1
@[irreducible] def usY (m : Mach) : Int := (usL m.ru 1 1).2
def rcL : List Rule' → Nat
  | [] => 0
  | r :: l => if r = noR then rcL l else rcL l + 1
theorem rcL_app : ∀ (l k : List Rule'),rcL (l ++ k) = rcL l + rcL k
  | [],k => by simp [rcL]
  | r :: l,k => by
    simp only [List.cons_append,rcL,rcL_app l k]
    split <;> omega
theorem rcL_le : ∀ (l : List Rule'),rcL l ≤ l.length
  | [] => by simp [rcL]
  | r :: l => by
    have := rcL_le l
    simp only [rcL,List.length_cons]
    split <;> omega
theorem drop_get {α : Type} {l : List α} {i : Int} (h0 : 0 ≤ i) (h : i.toNat < l.length) : l.drop i.toNat = l[i.toNat] :: l.drop (i + 1).toNat := by
  rw [List.drop_eq_getElem_cons h,show (i + 1).toNat = i.toNat + 1 by omega]
theorem us_no {l : List Rule'} {i s y : Int} (h0 : 0 ≤ i) (h : i.toNat < l.length) (hr : l[i.toNat] = noR) : usL (l.drop (i + 1).toNat) s y = usL (l.drop i.toNat) s y := by
  rw [drop_get h0 h,usL,if_pos hr]
theorem us_yes {l : List Rule'} {i s y : Int} (h0 : 0 ≤ i) (h : i.toNat < l.length) (hr : ¬ l[i.toNat] = noR) : usL (l.drop (i + 1).toNat) (max s (l[i.toNat].n + 1)) (max y (l[i.toNat].w + 1)) = usL (l.drop i.toNat) s y := by
  rw [drop_get h0 h,usL,if_neg hr]
theorem rc_no {l : List Rule'} {i : Int} (h0 : 0 ≤ i) (h : i.toNat < l.length) (hr : l[i.toNat] = noR) : rcL (l.drop (i + 1).toNat) = rcL (l.drop i.toNat) := by
  rw [drop_get h0 h,rcL,if_pos hr]
theorem rc_yes {l : List Rule'} {i : Int} (h0 : 0 ≤ i) (h : i.toNat < l.length) (hr : ¬ l[i.toNat] = noR) : rcL (l.drop (i + 1).toNat) + 1 = rcL (l.drop i.toNat) := by
  rw [drop_get h0 h,rcL,if_neg hr]
theorem usL_bd {sy st : Int} : ∀ (l : List Rule') (s y : Int),l.all (okRule sy st) = true → 1 ≤ s → s ≤ st → 1 ≤ y → y ≤ sy → (1 ≤ (usL l s y).1 ∧ (usL l s y).1 ≤ st) ∧ 1 ≤ (usL l s y).2 ∧ (usL l s y).2 ≤ sy
  | [],s,y,_,h1,h2,h3,h4 => ⟨⟨h1,h2⟩,h3,h4⟩
  | r :: l,s,y,h,h1,h2,h3,h4 => by
    simp only [List.all_cons,Bool.and_eq_true] at h
    unfold usL
    split
    · exact usL_bd l s y h.2 h1 h2 h3 h4
    · rename_i hr
      have h5 := h.1
      unfold okRule at h5
      rw [decide_eq_true_eq] at h5
      rcases h5 with h5 | h5
      · exact absurd h5 hr
      · exact usL_bd l _ _ h.2 (by omega) (by omega) (by omega) (by omega)
theorem us_bd {m : Mach} (hm : vMach m = true) : (1 ≤ usS m ∧ usS m ≤ m.st) ∧ 1 ≤ usY m ∧ usY m ≤ m.sy := by
  have hb := vMach_bd hm
  have ha : m.ru.all (okRule m.sy m.st) = true := by
    unfold vMach at hm
    rw [Bool.and_eq_true] at hm
    exact hm.2
  unfold usS usY
  exact usL_bd m.ru 1 1 ha (by omega) (by omega) (by omega) (by omega)
theorem fr_rc (m : Mach) : ∀ (i : Nat),i ≤ m.ru.length → (frF m i).length + rcL (m.ru.take i) = i
  | 0,_ => by simp [frF,rcL]
  | i + 1,h => by
    have ih := fr_rc m i (by omega)
    have hg : m.ru[i]'(by omega) = ruI m i := ruI_get (m := m) (i := (i : Int)) (by simp; omega)
    rw [List.take_succ_eq_append_getElem (by omega),rcL_app,hg]
    unfold frF
    by_cases hr : ruI m i = noR
    · rw [if_pos hr]
      simp only [List.length_append,List.length_cons,List.length_nil,rcL,if_pos hr]
      omega
    · rw [if_neg hr]
      simp only [rcL,if_neg hr]
      omega
theorem free_rc (m : Mach) : (freeL m).length + rcL m.ru = m.ru.length := by
  have := fr_rc m m.ru.length (Nat.le_refl _)
  rw [List.take_length] at this
  unfold freeL
  exact this
@[irreducible] def ndS (m : Mach) (B : Int) : Int := if (rlO m B.toNat 0 blank).2.2.2 = true then if (rlO m B.toNat 0 blank).2.2.1 = true then if (rcL m.ru : Int) + 1 = m.ru.length then 1 else 0 else 2 else 3
@[irreducible] def ndA (m : Mach) (B : Int) : Int := if (rlO m B.toNat 0 blank).2.2.2 = true then if (rlO m B.toNat 0 blank).2.2.1 = true then (rlO m B.toNat 0 blank).1.st * m.sy + (rlO m B.toNat 0 blank).1.ri.headD 0 else 0 else 0
@[irreducible] def ndN (m : Mach) (B : Int) : Int := if (rlO m B.toNat 0 blank).2.2.2 = true then (rlO m B.toNat 0 blank).2.1 else 0
theorem it_eq {m : Mach} : ∀ (k : Nat) (n n' : Int) (c : Conf),
    ((rlO m k n c).2.2.2 = true → (itSteps m bdRun k n c (n',false)).j = none ∧ (itSteps m bdRun k n c (n',false)).c = (rlO m k n c).1 ∧ (itSteps m bdRun k n c (n',false)).x.1 = (rlO m k n c).2.1 ∧ decide (ruAt m (rlO m k n c).1 = noR) = (rlO m k n c).2.2.1) ∧
    ((rlO m k n c).2.2.2 = false → ¬ (itSteps m bdRun k n c (n',false)).j = none)
  | 0,n,n',c => by
    have e1 : bdRun (n',false) (c,n,true) = ((n,false),none) := by simp [bdRun]
    unfold itSteps rlO
    rw [e1]
    simp
  | k + 1,n,n',c => by
    have e1 : bdRun (n',false) (c,n,true) = ((n,false),none) := by simp [bdRun]
    unfold itSteps
    rw [e1]
    simp only [Option.isSome_none,Bool.false_eq_true,if_false]
    unfold rlO
    by_cases hr : ruAt m c = noR
    · rw [if_pos hr,if_pos hr]
      simp [hr]
    · rw [if_neg hr,if_neg hr]
      by_cases hf : roomS (stepS (ruAt m c) c) = true
      · rw [if_pos hf,if_pos hf]
        exact it_eq k (n + 1) n (stepS (ruAt m c) c)
      · rw [if_neg hf,if_neg hf]
        simp [bdRun]
theorem run_rl (m : Mach) (B : Int) : ((rlO m B.toNat 0 blank).2.2.2 = true → runCode (runIt m B blank) = 0 ∧ (runIt m B blank).c = (rlO m B.toNat 0 blank).1 ∧ runMade (runIt m B blank) = (rlO m B.toNat 0 blank).2.1 ∧ runHalts m (runIt m B blank) = (rlO m B.toNat 0 blank).2.2.1) ∧
    ((rlO m B.toNat 0 blank).2.2.2 = false → runCode (runIt m B blank) = 5) := by
  have e : itSteps m bdRun B.toNat 0 blank (0,false) = runIt m B blank := by unfold runIt; rfl
  have h := it_eq (m := m) B.toNat 0 0 blank
  rw [e] at h
  refine ⟨fun h1 => ?_,fun h1 => ?_⟩
  · obtain ⟨g1,g2,g3,g4⟩ := h.1 h1
    unfold runCode runMade runHalts
    rw [if_pos g1,if_pos g1,if_pos g1,g2]
    exact ⟨rfl,rfl,g3,g4⟩
  · unfold runCode
    rw [if_neg (h.2 h1)]
theorem rl_ok {m : Mach} (hm : vMach m = true) : ∀ (k : Nat) (n : Int) (c : Conf),vConf m c = true → (rlO m k n c).2.2.2 = true → vConf m (rlO m k n c).1 = true
  | 0,n,c,h,_ => h
  | k + 1,n,c,h,h2 => by
    unfold rlO at h2 ⊢
    by_cases hr : ruAt m c = noR
    · rw [if_pos hr]; exact h
    · rw [if_neg hr] at h2 ⊢
      by_cases hf : roomS (stepS (ruAt m c) c) = true
      · rw [if_pos hf] at h2 ⊢
        exact rl_ok hm k _ _ (stepS_ok hm h hr hf) h2
      · rw [if_neg hf] at h2; cases h2
theorem nd_at {m : Mach} {B : Int} (hm : vMach m = true) (h : ndS m B = 0) : 0 ≤ ndA m B ∧ ndA m B < m.ru.length ∧ ruI m (ndA m B) = noR ∧ (rcL m.ru : Int) + 1 ≠ m.ru.length := by
  unfold ndS at h
  split at h
  · rename_i h1
    split at h
    · rename_i h2
      split at h
      · cases h
      · rename_i h3
        have hc := rl_ok hm B.toNat 0 blank (vBlank hm) h1
        have hb := at_bd hm hc
        have h4 := ((it_eq (m := m) B.toNat 0 0 blank).1 h1).2.2.2
        rw [h2,decide_eq_true_eq] at h4
        unfold ndA
        rw [if_pos h1,if_pos h2]
        refine ⟨by omega,by omega,?_,h3⟩
        unfold ruAt at h4
        unfold ruI
        exact h4
    · cases h
  · cases h
theorem ndA_bd {m : Mach} {B : Int} (hm : vMach m = true) : 0 ≤ ndA m B ∧ ndA m B < m.ru.length := by
  have hb := vMach_bd hm
  have hp : 1 ≤ m.sy * m.st := Int.mul_pos (by omega) (by omega)
  unfold ndA
  split
  · rename_i h1
    split
    · have hc := rl_ok hm B.toNat 0 blank (vBlank hm) h1
      have hb := at_bd hm hc
      omega
    · omega
  · omega
theorem ndS_bd (m : Mach) (B : Int) : 0 ≤ ndS m B ∧ ndS m B ≤ 3 := by
  unfold ndS
  split
  · split
    · split <;> omega
    · omega
  · omega
def chQ (w mv : Int) (k : Nat) : List Rule' := (List.range k).map fun (q : Nat) => ⟨w,mv,((q : Nat) : Int)⟩
def chMv (w : Int) (mvs : List Int) (K : Nat) : List Rule' := mvs.flatMap fun mv => chQ w mv K
def chW (mvs : List Int) (W K : Nat) : List Rule' := (List.range W).flatMap fun (w : Nat) => chMv ((w : Nat) : Int) mvs K
@[irreducible] def chMvs (m : Mach) : List Int := if rcL m.ru = 0 then [1] else [-1,1]
@[irreducible] def chR (m : Mach) : List Rule' := chW (chMvs m) (min (usY m + 1) m.sy).toNat (min (usS m + 1) m.st).toNat
theorem chQ_next (w mv : Int) (k : Nat) : chQ w mv (k + 1) = chQ w mv k ++ [⟨w,mv,(k : Int)⟩] := by
  unfold chQ; rw [List.range_succ,List.map_append]; rfl
theorem chQ_len (w mv : Int) (k : Nat) : (chQ w mv k).length = k := by unfold chQ; simp
theorem chMv_next (w : Int) (mvs : List Int) (mv : Int) (K : Nat) : chMv w (mvs ++ [mv]) K = chMv w mvs K ++ chQ w mv K := by
  unfold chMv; rw [List.flatMap_append]; simp
theorem chMv_len (w : Int) (mvs : List Int) (K : Nat) : (chMv w mvs K).length = mvs.length * K := by
  unfold chMv
  induction mvs with
  | nil => simp
  | cons a l ih => rw [List.flatMap_cons,List.length_append,ih,chQ_len,List.length_cons,Nat.succ_mul]; omega
theorem chW_next (mvs : List Int) (W K : Nat) : chW mvs (W + 1) K = chW mvs W K ++ chMv ((W : Nat) : Int) mvs K := by
  unfold chW; rw [List.range_succ,List.flatMap_append]; simp
theorem chW_len (mvs : List Int) (W K : Nat) : (chW mvs W K).length = W * (mvs.length * K) := by
  induction W with
  | zero => simp [chW]
  | succ n ih => rw [chW_next,List.length_append,ih,chMv_len,Nat.succ_mul]
theorem chW_mem {mvs : List Int} {W K : Nat} {r : Rule'} (h : r ∈ chW mvs W K) : (0 ≤ r.w ∧ r.w < W) ∧ r.m ∈ mvs ∧ 0 ≤ r.n ∧ r.n < K := by
  unfold chW chMv chQ at h
  simp only [List.mem_flatMap,List.mem_map,List.mem_range] at h
  obtain ⟨w,hw,mv,hmv,q,hq,rfl⟩ := h
  exact ⟨⟨by simp,by simp; omega⟩,hmv,by simp,by simp; omega⟩
theorem chMvs_mem {m : Mach} {x : Int} (h : x ∈ chMvs m) : x = 1 ∨ x = -1 := by
  unfold chMvs at h
  split at h
  · simp at h; exact .inl h
  · simp at h; omega
theorem chMvs_len (m : Mach) : 1 ≤ (chMvs m).length ∧ (chMvs m).length ≤ 2 := by
  unfold chMvs
  split <;> simp
theorem chR_ok {m : Mach} (hm : vMach m = true) {r : Rule'} (h : r ∈ chR m) : okRule m.sy m.st r = true ∧ r ≠ noR := by
  have hb := us_bd hm
  unfold chR at h
  obtain ⟨h1,h2,h3⟩ := chW_mem h
  have h4 := chMvs_mem h2
  refine ⟨?_,fun e => ?_⟩
  · unfold okRule
    rw [decide_eq_true_eq]
    exact .inr ⟨by omega,h4,by omega⟩
  · rw [e] at h3; simp at h3
theorem chR_len {m : Mach} (hm : vMach m = true) : 1 ≤ ((chR m).length : Int) ∧ ((chR m).length : Int) ≤ 12000 := by
  have hb := us_bd hm
  have hv := vMach_bd hm
  have hl := chMvs_len m
  unfold chR
  rw [chW_len]
  have hW1 : 1 ≤ (min (usY m + 1) m.sy).toNat := by omega
  have hW2 : (min (usY m + 1) m.sy).toNat ≤ 6 := by omega
  have hK1 : 1 ≤ (min (usS m + 1) m.st).toNat := by omega
  have hK2 : (min (usS m + 1) m.st).toNat ≤ 1000 := by omega
  generalize (min (usY m + 1) m.sy).toNat = W at *
  generalize (min (usS m + 1) m.st).toNat = K at *
  generalize (chMvs m).length = L at *
  have h1 : 1 ≤ L * K := Nat.mul_pos hl.1 hK1
  have h2 : L * K ≤ 2 * 1000 := Nat.mul_le_mul hl.2 hK2
  have h3 : 1 ≤ W * (L * K) := Nat.mul_pos hW1 h1
  have h4 : W * (L * K) ≤ 6 * (2 * 1000) := Nat.mul_le_mul hW2 h2
  omega
@[irreducible] def chM (m : Mach) (a : Int) (r : Rule') : Mach := ⟨m.sy,m.st,m.ru.set a.toNat r⟩
theorem chM_sy (m : Mach) (a : Int) (r : Rule') : (chM m a r).sy = m.sy := by unfold chM; rfl
theorem chM_st (m : Mach) (a : Int) (r : Rule') : (chM m a r).st = m.st := by unfold chM; rfl
theorem chM_ru (m : Mach) (a : Int) (r : Rule') : (chM m a r).ru = m.ru.set a.toNat r := by unfold chM; rfl
theorem chM_ok {m : Mach} {a : Int} {r : Rule'} (hm : vMach m = true) (hr : okRule m.sy m.st r = true) : vMach (chM m a r) = true := by
  unfold vMach at hm ⊢
  rw [chM_sy,chM_st,chM_ru]
  simp only [Bool.and_eq_true,decide_eq_true_eq,List.length_set] at hm ⊢
  refine ⟨hm.1,?_⟩
  rw [List.all_eq_true] at hm ⊢
  intro x hx
  rcases List.mem_or_eq_of_mem_set hx with h | h
  · exact hm.2 x h
  · rw [h]; exact hr
theorem rcL_set {l : List Rule'} {k : Nat} {r : Rule'} (hk : k < l.length) (h : l[k] = noR) (hr : r ≠ noR) : rcL (l.set k r) = rcL l + 1 := by
  have e : l = l.take k ++ l[k] :: l.drop (k + 1) := by rw [← List.drop_eq_getElem_cons hk,List.take_append_drop]
  rw [List.set_eq_take_append_cons_drop,if_pos hk,rcL_app]
  conv => rhs; rw [e,rcL_app]
  simp only [rcL,if_neg hr,h,if_true]
  omega
@[irreducible] def stp (B : Int) (m : Mach) (k : Int) : Option Mach := if ndS m B = 0 ∧ 0 ≤ k ∧ k < (chR m).length then some (chM m (ndA m B) ((chR m).getD k.toNat noR)) else none
structure NdOk (sy st : Int) (m : Mach) : Prop where
  v : vMach m = true
  sy : m.sy = sy
  st : m.st = st
theorem stp_ok {B sy st k : Int} {m m' : Mach} (h : NdOk sy st m) (hs : stp B m k = some m') : NdOk sy st m' ∧ rcL m'.ru = rcL m.ru + 1 := by
  unfold stp at hs
  split at hs
  · rename_i hc
    simp only [Option.some.injEq] at hs
    subst hs
    have hg : (chR m).getD k.toNat noR ∈ chR m := by
      rw [List.getD_eq_getElem?_getD,List.getElem?_eq_getElem (by omega)]
      exact List.getElem_mem _
    have hr := chR_ok h.v hg
    have ha := nd_at h.v hc.1
    refine ⟨⟨chM_ok h.v hr.1,by rw [chM_sy,h.sy],by rw [chM_st,h.st]⟩,?_⟩
    rw [chM_ru]
    exact rcL_set (by omega) ((ruI_get (by omega)).trans ha.2.2.1) hr.2
  · cases hs
def pth (B : Int) : Mach → List Int → Option Mach
  | m,[] => some m
  | m,k :: p => (stp B m k).bind fun m' => pth B m' p
def pthL (B : Int) : Mach → List Int → Option (List Mach)
  | m,[] => some [m]
  | m,k :: p => (stp B m k).bind fun m' => (pthL B m' p).map (m :: ·)
@[irreducible] def root (sy st : Int) : Mach := ⟨sy,st,List.replicate (st * sy).toNat noR⟩
theorem root_ok {sy st : Int} (h1 : 2 ≤ sy) (h2 : sy ≤ 6) (h3 : 1 ≤ st) (h4 : st ≤ 1000) : NdOk sy st (root sy st) := by
  have hp : 1 ≤ st * sy := Int.mul_pos (by omega) (by omega)
  refine ⟨?_,by unfold root; rfl,by unfold root; rfl⟩
  unfold vMach root
  simp only [Bool.and_eq_true,decide_eq_true_eq,List.length_replicate,List.all_eq_true]
  refine ⟨⟨⟨h1,h2⟩,⟨h3,h4⟩,?_⟩,fun x hx => ?_⟩
  · rw [Int.mul_comm sy st]; omega
  · rw [List.eq_of_mem_replicate hx]
    unfold okRule
    simp
theorem pth_ok {B sy st : Int} : ∀ {p : List Int} {m m' : Mach},NdOk sy st m → pth B m p = some m' → NdOk sy st m' ∧ rcL m'.ru = rcL m.ru + p.length
  | [],m,m',h,e => by simp only [pth,Option.some.injEq] at e; subst e; exact ⟨h,rfl⟩
  | k :: p,m,m',h,e => by
    simp only [pth,Option.bind_eq_some_iff] at e
    obtain ⟨m1,e1,e2⟩ := e
    have h1 := stp_ok h e1
    have h2 := pth_ok h1.1 e2
    refine ⟨h2.1,?_⟩
    rw [h2.2,h1.2,List.length_cons]
    omega
theorem pth_app {B : Int} : ∀ (p q : List Int) (m : Mach),pth B m (p ++ q) = (pth B m p).bind fun m' => pth B m' q
  | [],q,m => rfl
  | k :: p,q,m => by
    simp only [List.cons_append,pth]
    cases stp B m k with
    | none => rfl
    | some m' => simp only [Option.bind_some]; exact pth_app p q m'
theorem pthL_pth {B : Int} : ∀ (p : List Int) (m : Mach),(pthL B m p).isSome = (pth B m p).isSome
  | [],m => rfl
  | k :: p,m => by
    simp only [pthL,pth]
    cases stp B m k with
    | none => rfl
    | some m' => simp only [Option.bind_some,Option.isSome_map]; exact pthL_pth p m'
theorem pthL_get {B : Int} : ∀ {p : List Int} {m : Mach} {l : List Mach},pthL B m p = some l → l.length = p.length + 1 ∧ ∀ i,i ≤ p.length → pth B m (p.take i) = l[i]?
  | [],m,l,h => by
    simp only [pthL,Option.some.injEq] at h
    subst h
    refine ⟨rfl,fun i hi => ?_⟩
    obtain rfl : i = 0 := by simpa using hi
    rfl
  | k :: p,m,l,h => by
    simp only [pthL,Option.bind_eq_some_iff,Option.map_eq_some_iff] at h
    obtain ⟨m1,h1,l1,h2,rfl⟩ := h
    have ih := pthL_get h2
    refine ⟨by simp [ih.1],fun i hi => ?_⟩
    cases i with
    | zero => rfl
    | succ i =>
      rw [List.take_succ_cons,pth,h1,Option.bind_some,List.getElem?_cons_succ]
      exact ih.2 i (by simpa using hi)
end Go.Proofs.YtighjcjmacajoaaGreatDoor
end
section
set_option linter.unusedVariables false
set_option linter.unusedSimpArgs false
set_option maxRecDepth 100000
set_option maxHeartbeats 4000000
namespace Go.Proofs.YtighjcjmacajoaaGreatDoor
open Go Foot
theorem dg_no {l : Bs} {c : UInt8} (h : ∀ x ∈ l,isDg x) (hc : ¬ isDg c) : c ∉ l := fun hm => hc (h c hm)
theorem rulT_form {sy st : Int} {r : Rule'} (h : okRule sy st r = true) : (r = noR ∧ rulT r = [45,45,45]) ∨ (r ≠ noR ∧ 0 ≤ r.w ∧ 0 ≤ r.n ∧ ((r.m = -1 ∧ rulT r = decT r.w ++ (76 : UInt8) :: decT r.n) ∨ (r.m = 1 ∧ rulT r = decT r.w ++ (82 : UInt8) :: decT r.n))) := by
  unfold okRule at h
  rw [decide_eq_true_eq] at h
  by_cases hr : r = noR
  · exact .inl ⟨hr,by unfold rulT; rw [if_pos hr]⟩
  · rcases h with h | ⟨h1,h2,h3⟩
    · exact absurd h hr
    · refine .inr ⟨hr,by omega,by omega,?_⟩
      rcases h2 with h2 | h2
      · exact .inr ⟨h2,by unfold rulT; rw [if_neg hr,if_neg (by omega)]; simp⟩
      · exact .inl ⟨h2,by unfold rulT; rw [if_neg hr,if_pos (by omega)]; simp⟩
theorem not_dg {c : UInt8} (h : c.toNat < 48 ∨ 57 < c.toNat) : ¬ isDg c := by
  intro hd
  unfold isDg at hd
  omega
theorem dec_ne {n : Int} (h : 0 ≤ n) : decT n ≠ [] := by rw [decT_nat h]; exact (dec_val _).2.2
theorem rulT_inj {sy st : Int} {r r' : Rule'} (h : okRule sy st r = true) (h' : okRule sy st r' = true) (e : rulT r = rulT r') : r = r' := by
  have hw : ∀ {x : Rule'},0 ≤ x.w → ∀ (t : Bs),[45,45,45] ≠ decT x.w ++ t := by
    intro x hx t e
    rcases hd : decT x.w with _ | ⟨a,l⟩
    · exact dec_ne hx hd
    · rw [hd] at e
      simp only [List.cons_append,List.cons.injEq] at e
      have := decT_dg hx a (by rw [hd]; exact List.mem_cons_self)
      rw [← e.1] at this
      exact not_dg (by decide) this
  rcases rulT_form h with ⟨h1,h2⟩ | ⟨h1,h2,h3,h4⟩ <;> rcases rulT_form h' with ⟨k1,k2⟩ | ⟨k1,k2,k3,k4⟩
  · rw [h1,k1]
  · exfalso
    rw [h2] at e
    rcases k4 with ⟨_,k4⟩ | ⟨_,k4⟩ <;> (rw [k4] at e; exact hw k2 _ e)
  · exfalso
    rw [k2] at e
    rcases h4 with ⟨_,h4⟩ | ⟨_,h4⟩ <;> (rw [h4] at e; exact hw h2 _ e.symm)
  · have n76 : ∀ {n : Int},0 ≤ n → (76 : UInt8) ∉ decT n := fun hn => dg_no (decT_dg hn) (not_dg (by decide))
    have n82 : ∀ {n : Int},0 ≤ n → (82 : UInt8) ∉ decT n := fun hn => dg_no (decT_dg hn) (not_dg (by decide))
    have fin : ∀ {s : UInt8},decT r.w ++ s :: decT r.n = decT r'.w ++ s :: decT r'.n → s ∉ decT r.w → s ∉ decT r'.w → r.w = r'.w ∧ r.n = r'.n := by
      intro s e hs hs'
      obtain ⟨e1,e2⟩ := split_at e hs hs'
      exact ⟨decT_inj h2 k2 e1,decT_inj h3 k3 e2⟩
    rcases h4 with ⟨hm,h4⟩ | ⟨hm,h4⟩ <;> rcases k4 with ⟨km,k4⟩ | ⟨km,k4⟩ <;> rw [h4,k4] at e
    · obtain ⟨e1,e2⟩ := fin e (n76 h2) (n76 k2)
      cases r; cases r'; simp_all
    · exfalso
      have : (76 : UInt8) ∈ decT r'.w ++ (82 : UInt8) :: decT r'.n := by rw [← e]; simp
      simp only [List.mem_append,List.mem_cons] at this
      rcases this with q | q | q
      · exact n76 k2 q
      · exact absurd q (by decide)
      · exact n76 k3 q
    · exfalso
      have : (82 : UInt8) ∈ decT r'.w ++ (76 : UInt8) :: decT r'.n := by rw [← e]; simp
      simp only [List.mem_append,List.mem_cons] at this
      rcases this with q | q | q
      · exact n82 k2 q
      · exact absurd q (by decide)
      · exact n82 k3 q
    · obtain ⟨e1,e2⟩ := fin e (n82 h2) (n82 k2)
      cases r; cases r'; simp_all
theorem rulT_no {sy st : Int} {r : Rule'} (h : okRule sy st r = true) {c : UInt8} (hc : c = 44 ∨ c = 59) : c ∉ rulT r := by
  have nd : ¬ isDg c := by rcases hc with rfl | rfl <;> exact not_dg (by decide)
  have n45 : c ≠ 45 := by rcases hc with rfl | rfl <;> decide
  have n76 : c ≠ 76 := by rcases hc with rfl | rfl <;> decide
  have n82 : c ≠ 82 := by rcases hc with rfl | rfl <;> decide
  rcases rulT_form h with ⟨h1,h2⟩ | ⟨h1,h2,h3,h4⟩
  · rw [h2]; simp [n45]
  · rcases h4 with ⟨_,h4⟩ | ⟨_,h4⟩
    · rw [h4]; simp only [List.mem_append,List.mem_cons,not_or]; exact ⟨dg_no (decT_dg h2) nd,n76,dg_no (decT_dg h3) nd⟩
    · rw [h4]; simp only [List.mem_append,List.mem_cons,not_or]; exact ⟨dg_no (decT_dg h2) nd,n82,dg_no (decT_dg h3) nd⟩
theorem macF_inj {sy st : Int} : ∀ {l l' : List Rule'} {i : Nat},l.length = l'.length → l.all (okRule sy st) = true → l'.all (okRule sy st) = true → macF sy i l = macF sy i l' → l = l'
  | [],[],_,_,_,_,_ => rfl
  | [],_ :: _,_,h,_,_,_ => by simp at h
  | _ :: _,[],_,h,_,_,_ => by simp at h
  | r :: l,r' :: l',i,hl,h,h',e => by
    simp only [List.all_cons,Bool.and_eq_true] at h h'
    simp only [macF] at e
    have e1 := List.append_cancel_left e
    have hl' : l.length = l'.length := by simpa using hl
    have key : rulT r = rulT r' ∧ macF sy (i + 1) l = macF sy (i + 1) l' := by
      cases l with
      | nil =>
        have : l' = [] := List.eq_nil_of_length_eq_zero hl'.symm
        subst this
        simpa [macF] using e1
      | cons a l =>
        cases l' with
        | nil => simp at hl'
        | cons b l' =>
          simp only [macF] at e1 ⊢
          have hs : ∃ c : UInt8,(c = 44 ∨ c = 59) ∧ sepT sy ((i + 1 : Nat) : Int) = [c] := by
            unfold sepT
            rw [if_neg (by omega)]
            split
            · exact ⟨59,.inr rfl,rfl⟩
            · exact ⟨44,.inl rfl,rfl⟩
          obtain ⟨c,hc,hs⟩ := hs
          rw [hs] at e1 ⊢
          simp only [List.cons_append,List.nil_append] at e1 ⊢
          obtain ⟨q1,q2⟩ := split_at e1 (rulT_no h.1 hc) (rulT_no h'.1 hc)
          exact ⟨q1,by rw [q2]⟩
    rw [rulT_inj h.1 h'.1 key.1,macF_inj hl' h.2 h'.2 key.2]
theorem macT_inj {sy st : Int} {m m' : Mach} (h : NdOk sy st m) (h' : NdOk sy st m') (e : macT m = macT m') : m = m' := by
  have ha : ∀ {m : Mach},vMach m = true → m.ru.all (okRule m.sy m.st) = true := by
    intro m hm
    unfold vMach at hm
    rw [Bool.and_eq_true] at hm
    exact hm.2
  have hb := (vMach_bd h.v).2.2
  have hb' := (vMach_bd h'.v).2.2
  have a1 := ha h.v
  have a2 := ha h'.v
  unfold macT at e
  rw [h.sy,h.st] at hb a1
  rw [h'.sy,h'.st] at hb' a2
  rw [h.sy,h'.sy] at e
  have := macF_inj (st := st) (by omega) a1 a2 e
  have e1 := h.sy
  have e2 := h.st
  have e3 := h'.sy
  have e4 := h'.st
  cases m; cases m'; simp_all
end Go.Proofs.YtighjcjmacajoaaGreatDoor
end
section
set_option linter.unusedVariables false
set_option linter.unusedSimpArgs false
set_option maxRecDepth 100000
set_option maxHeartbeats 4000000
namespace Go.Proofs.YtighjcjmacajoaaGreatDoor
open Go Foot
theorem preB14 {p : Prop} (h : p := by first | with_reducible assumption | omega | (simp only [List.length_append,List.length_cons,List.length_nil,List.length_set,List.length_replicate,List.length_take,List.length_drop,List.length_tail,List.length_dropLast,List.length_reverse] at *; omega) | exact mem_len (by assumption) (by omega) | (with_reducible refine Int.le_trans (Int.ofNat_le.2 (trimR_len _)) ?_; simp only [List.length_cons,List.length_tail]; omega) | (exact (ruAt_ok (by assumption) (by assumption) (by assumption)).2.1) | (have := vMach_bd (by assumption); omega) | (with_reducible refine Int.le_trans (Int.ofNat_le.2 (pushL_len _ _)) ?_; simp only [List.length_dropLast]; omega) | exact (ask_ok (by assumption)).1 | exact (ask_ok (by assumption)).2.1 | exact (ask_ok (by assumption)).2.2.1 | exact (ask_ok (by assumption)).2.2.2 | trivial) : p := h
theorem mul64_ok (x y : Int) (h1 : 0 ≤ x) (h2 : x ≤ 16777216) (h3 : 0 ≤ y) (h4 : y ≤ 16777216) (h5 : 0 ≤ x * y) (h6 : x * y ≤ 4294967295) : Does Tryz.prog 242 [.one (u64 x),.one (u64 y)] [] (.tup [(false,[u64 0]),(false,[u64 (x * y)])]) [] := by
  have h7 : x * y < 18446744073709551616 := by omega
  refine does_of (k := 0) Tryz.func242 rfl Tryz.ntmps242 rfl rfl fun w F0 S0 ρ0 => ?_
  dsimp only [argT,argH]
  repeat' first|(apply p3;(first|exact pu1|exact u_and rfl rfl (by omega) (by omega)|exact u_shr rfl rfl (by omega) (by omega)|exact u_mul rfl rfl (by first|omega|assumption) (by first|omega|assumption)|exact u_add rfl rfl (by first|omega|assumption) (by first|omega|assumption));exact rfl)|refine cd ?_
  repeat refine cr ?_
  refine ends_id ?_
  refine endK [] (h2 := ?_) (h3 := ?_) (nd := ?_)
  all_goals (repeat' first|exact ce0|refine ce ?_|refine ce2 ?_ ?_|exact SVLe.refl|refine ceb ?_)
  all_goals first | exact (show nodupB _ = true from rfl) | exact Or.inr rfl | (simp)
theorem mulU_ok (x y : Int) (h1 : 0 ≤ x) (h2 : x ≤ 16777216) (h3 : 0 ≤ y) (h4 : y ≤ 16777216) (h5 : 0 ≤ x * y) (h6 : x * y ≤ 4294967295) : Does Tryz.prog 178 [.one (u64 x),.one (u64 y)] [] (.tup [(false,[u64 0]),(false,[u64 (x * y)])]) [] := by
  refine does_of (k := 0) Tryz.func178 rfl Tryz.ntmps178 rfl rfl fun w F0 S0 ρ0 => ?_
  dsimp only [argT,argH]
  repeat' first|(apply p3;(exact pu1);exact rfl)|refine cd ?_|(apply c4 0;exact callK1 (θ := []) (hD := (mul64_ok _ _ preB14 preB14 preB14 preB14 preB14 preB14));exact rfl;exact rfl;exact rfl;refine dM ?_)
  repeat refine cr ?_
  refine ends_id ?_
  refine endK [] (h2 := ?_) (h3 := ?_) (nd := ?_)
  all_goals (repeat' first|exact ce0|refine ce ?_|refine ce2 ?_ ?_|exact SVLe.refl|refine ceb ?_)
  all_goals first | exact (show nodupB _ = true from rfl) | exact Or.inr rfl | (rfl)
theorem rep_grow {α : Type} {r : α} {l : List α} {k m : Nat} (h1 : k + m ≤ l.length) (h2 : m ≤ k) (h3 : l.take k = List.replicate k r) : (l.take k ++ (l.drop 0).take m ++ l.drop (k + m)).take (k + m) = List.replicate (k + m) r ∧ (l.take k ++ (l.drop 0).take m ++ l.drop (k + m)).length = l.length := by
  have h4 : l.take m = List.replicate m r := by
    have := congrArg (List.take m) h3
    rwa [List.take_take,Nat.min_eq_left h2,List.take_replicate,Nat.min_eq_left h2] at this
  have hl : (l.take k ++ (l.drop 0).take m).length = k + m := by rw [List.length_append,List.length_take,List.length_take,List.drop_zero]; omega
  constructor
  · rw [List.take_append_of_le_length (by omega),List.take_of_length_le (by omega),List.drop_zero,h3,h4,List.replicate_append_replicate]
  · rw [List.length_append,hl,List.length_drop]; omega
theorem repeatR_ok (r : Rule') (n : Int) (h0 : 0 ≤ n) (h1 : n ≤ 1000000) : Does Tryz.prog 114 [.one (shR [r]),.one (int n)] [] (.one (.gv 0)) [.row 3 (rows eR (List.replicate n.toNat r))] := by
  have hln : (([r].length : Nat) : Int) * n = n := by simp
  refine does_of (k := 0) Tryz.func114 rfl Tryz.ntmps114 rfl rfl fun w F0 S0 ρ0 => ?_
  dsimp only [argT,argH]
  repeat' first|(apply n3;exact a_make (fE rfl) (fZ rfl) (fP rfl) (by decide) rfl rfl (by omega) rfl (by omega) (by omega) (rows_rep eR ⟨0,0,0⟩ _);exact rfl;refine dA ?_)|(apply p3;(first|exact pu1|exact puC|exact puN|exact u_conv rfl Tryz.underlying3 Tryz.underlying204 bnd bnd|exact u_gtr rfl rfl|exact u_vnoc rfl Tryz.underlying204 Tryz.underlying3 bnd bnd);exact rfl)|refine cd ?_|(apply c4 0;exact callK1 (θ := []) (hD := (mulU_ok _ _ preB14 preB14 preB14 preB14 preB14 preB14));exact rfl;exact rfl;exact rfl;refine dM ?_)|(apply c4 0;exact a_copyV rfl rfl rfl rfl (fS rfl) rfl nowR rfl (by exact rfl) (by exact rfl);exact rfl;exact rfl;exact rfl;refine dM ?_)|(apply py3;exact rfl;exact rfl;(first|exact pu1|exact u_gtr rfl rfl);exact rfl;exact rfl)|((refine g_cond rfl (fun hc => ?_) (fun hc => ?_)) <;> (try simp only [dcB] at hc) <;> (try first|contradiction|(exfalso;omega)))
  generalize e0 : ([r].length.min (List.replicate ((([r].length : Nat) : Int) * n).toNat (⟨0,0,0⟩ : Rule')).length) = k0
  generalize e1 : (List.take k0 [r] ++ List.drop k0 (List.replicate ((([r].length : Nat) : Int) * n).toNat (⟨0,0,0⟩ : Rule'))) = l0
  have hk0 : (k0 : Int) = min 1 n := by
    rw [← e0,hln,List.length_replicate]
    show ((min 1 n.toNat : Nat) : Int) = min 1 n
    omega
  have hl0 : l0.length = n.toNat ∧ l0.take k0 = List.replicate k0 r := by
    rw [← e1,hln]
    by_cases hn : n = 0
    · have : k0 = 0 := by omega
      subst this hn
      simp
    · have : k0 = 1 := by omega
      subst this
      simp
      omega
  clear e0 e1
  refine g_loop_id ?_
  refine loopK [4,7] [0] (fun y : Int × List Rule' => 0 ≤ y.1 ∧ y.1 ≤ n ∧ (0 < n → 0 < y.1) ∧ y.2.length = n.toNat ∧ y.2.take y.1.toNat = List.replicate y.1.toNat r) (fun y => [(8,.one (int y.1))]) (fun y => [(0,.row 3 (rows eR y.2))]) (fun y => (n - y.1).toNat) ((k0 : Int),l0) [0] (hI := ?_) (hr := ?_)
  · exact ⟨by simp,by dsimp only; omega,fun _ => by dsimp only; omega,hl0.1,by dsimp only; rw [Int.toNat_natCast]; exact hl0.2⟩
  · rintro ⟨k,l⟩ ⟨k1,k2,k3,k4,k5⟩
    dsimp only [List.cons_append,List.nil_append] at *
    skip
    have hm : (k.toNat - 0).min (l.length - k.toNat) = min (k.toNat - 0) (l.length - k.toNat) := rfl
    repeat' first|(apply p3;(first|exact pu1|exact puN|exact puC);exact rfl)|refine cd ?_|(apply g_drN (id := 9) okM [[],[],[],[1,2],[],[],[4,5],[1,2,3,4,5,6],[0,1,2,3,4,5,6,7],[0,1,2,3,4,5,6,7,8]] [([],[]),([],[]),([],[]),([],[]),([],[]),([],[]),([],[]),([],[0]),([],[]),([],[])] 0;(focus (refine dp 0 0 [39,40,41,42,43,44,45] [(false,0)] pu1 ?_;refine dp 1 0 [38,40,42,43,44] [] pu1 ?_;refine dp 2 0 [38,39,42,43,44] [] pu1 ?_;refine dp 3 3 [38,42,43,44] [] (a_slTG rfl rfl rfl (fS rfl) (by omega) (by omega) (by exact rfl)) ?_;refine dp 4 0 [38,39,40,41,43] [] pu1 ?_;refine dp 5 0 [38,39,40,41,42] [] pu1 ?_;refine dp 6 3 [38,39,40,41] [] (a_slHG rfl rfl rfl (fS rfl) (by omega) (by omega) (by exact rfl)) ?_;refine duN 7 63 [38] [] (by exact a_copyG rfl rfl rfl (fS rfl) rfl nowR bnd bnd rfl (by exact rfl) (by exact rfl)) (by exact rfl) (by exact rfl) ?_;refine dp 8 255 [] [] (a_add rfl rfl (by omega) (by omega)) ?_;refine dp 9 511 [] [] pu1 ?_;(refine d_nil ?_;refine dN ?_)));any_goals kernel_rfl)|((refine g_cond rfl (fun hc => ?_) (fun hc => ?_)) <;> (try simp only [dcB] at hc) <;> (try first|contradiction|(exfalso;omega)))
    · have hg := rep_grow (m := (k.toNat - 0).min (l.length - k.toNat)) (by omega) (by omega) k5
      have hk : (k + (((k.toNat - 0).min (l.length - k.toNat) : Nat) : Int)).toNat = k.toNat + (k.toNat - 0).min (l.length - k.toNat) := by omega
      refine q_again (k + (((k.toNat - 0).min (l.length - k.toNat) : Nat) : Int),l.take k.toNat ++ (l.drop 0).take ((k.toNat - 0).min (l.length - k.toNat)) ++ l.drop (k.toNat + (k.toNat - 0).min (l.length - k.toNat))) [0] (by exact stk) ?_ ?_
      · exact ⟨by dsimp only; omega,by dsimp only; omega,fun _ => by dsimp only; omega,hg.2.trans k4,by dsimp only; rw [hk]; exact hg.1⟩
      · dsimp only; omega
    · have : k.toNat = n.toNat := by omega
      rw [this,List.take_of_length_le (by omega)] at k5
      repeat refine cr ?_
      refine ends_id ?_
      refine endK [?_] (h2 := ?_) (h3 := ?_) (nd := ?_)
      rotate_left 1
      all_goals (repeat' first|exact ce0|refine ce ?_|refine ce2 ?_ ?_|(refine Or.inr (bx_eq rfl rfl ?_);(try dsimp only [C.ren,C.ren.all]);(try exact rfl))|exact SVLe.refl|refine ceb ?_)
      all_goals first | exact (show nodupB _ = true from rfl) | exact Or.inr rfl | (exact k5)
end Go.Proofs.YtighjcjmacajoaaGreatDoor
end
section
set_option linter.unusedVariables false
set_option linter.unusedSimpArgs false
set_option maxRecDepth 100000
set_option maxHeartbeats 4000000
namespace Go.Proofs.YtighjcjmacajoaaGreatDoor
open Go Foot
end Go.Proofs.YtighjcjmacajoaaGreatDoor
end
section
set_option linter.unusedVariables false
set_option linter.unusedSimpArgs false
set_option maxRecDepth 100000
set_option maxHeartbeats 4000000
namespace Go.Proofs.YtighjcjmacajoaaGreatDoor
open Go Foot
abbrev c0 : Conf := ⟨0,[],[]⟩
theorem preB16 {p : Prop} (h : p := by first | with_reducible assumption | omega | (simp only [List.length_append,List.length_cons,List.length_nil,List.length_set,List.length_replicate,List.length_take,List.length_drop,List.length_tail,List.length_dropLast,List.length_reverse] at *; omega) | exact mem_len (by assumption) (by omega) | (with_reducible refine Int.le_trans (Int.ofNat_le.2 (trimR_len _)) ?_; simp only [List.length_cons,List.length_tail]; omega) | (exact (ruAt_ok (by assumption) (by assumption) (by assumption)).2.1) | (have := vMach_bd (by assumption); omega) | (with_reducible refine Int.le_trans (Int.ofNat_le.2 (pushL_len _ _)) ?_; simp only [List.length_dropLast]; omega) | exact (ask_ok (by assumption)).1 | exact (ask_ok (by assumption)).2.1 | exact (ask_ok (by assumption)).2.2.1 | exact (ask_ok (by assumption)).2.2.2 | (exact (ruAt_ok (by assumption) (by assumption) (by assumption)).2.1) | trivial) : p := h
theorem emptyMachine_ok (st sy : Int) (h1 : 0 ≤ st) (h2 : st ≤ 1000) (h3 : 0 ≤ sy) (h4 : sy ≤ 6) (h5 : 0 ≤ st * sy) (h6 : st * sy ≤ 6000) : Does Tryz.prog 50 [.one (int st),.one (int sy)] [] (.agg [int sy,int st,.gv 0]) [.row 3 (rows eR (List.replicate (st * sy).toNat noR))] := by
  refine does_of (k := 0) Tryz.func50 rfl Tryz.ntmps50 rfl rfl fun w F0 S0 ρ0 => ?_
  dsimp only [argT,argH]
  repeat' first|(apply n3;(first|exact a_new (gb := .bx _) rfl|exact a_litE eR [⟨_,_,_⟩] rfl rfl rfl rfl rfl rfl rfl rfl);exact rfl;refine dA ?_)|(apply p3;(first|exact pu1|exact a_mulB rfl rfl (by omega) (by omega) (by omega) (by omega));exact rfl)|refine cd ?_|(apply w3;(exact a_st_bx rfl rfl rfl rfl (fN rfl rfl) (Nat.le_of_ble_eq_true rfl) rfl);exact rfl;refine dS ?_)|(apply c4 0;exact callK1 (θ := []) (hD := noRule_ok);exact rfl;exact rfl;exact rfl;refine dM ?_)|(apply c4 1;exact callK1 (θ := []) (hD := (repeatR_ok _ _ preB16 preB16));exact rfl;exact rfl;exact rfl;refine dM ?_)
  repeat refine cr ?_
  refine ends_id ?_
  refine endK [?_] (h2 := ?_) (h3 := ?_) (nd := ?_)
  rotate_left 1
  all_goals (repeat' first|exact ce0|refine ce ?_|refine ce2 ?_ ?_|(refine Or.inr (bx_eq rfl rfl ?_);(try dsimp only [C.ren,C.ren.all]);(try exact rfl))|exact SVLe.refl|refine ceb ?_)
  all_goals first | exact (show nodupB _ = true from rfl) | exact Or.inr rfl | (rfl)
end Go.Proofs.YtighjcjmacajoaaGreatDoor
end
section
set_option linter.unusedVariables false
set_option linter.unusedSimpArgs false
set_option maxRecDepth 100000
set_option maxHeartbeats 4000000
namespace Go.Proofs.YtighjcjmacajoaaGreatDoor
open Go Foot
theorem l30Empty_ok (st sy : Int) (h1 : 0 ≤ st) (h2 : st ≤ 1000) (h3 : 0 ≤ sy) (h4 : sy ≤ 6) (h5 : 0 ≤ st * sy) (h6 : st * sy ≤ 6000) : Does Tryz.prog 40 [.one (int st),.one (int sy)] [] (.agg [int sy,int st,.gv 0]) [.row 3 (rows eR (List.replicate (st * sy).toNat noR))] := by
  refine does_of (k := 0) Tryz.func40 rfl Tryz.ntmps40 rfl rfl fun w F0 S0 ρ0 => ?_
  dsimp only [argT,argH]
  repeat' first|(apply n3;exact a_new (gb := .bx _) rfl;exact rfl;refine dA ?_)|(apply p3;(exact pu1);exact rfl)|refine cd ?_|(apply w3;(exact a_st_bx rfl rfl rfl rfl (fN rfl rfl) (Nat.le_of_ble_eq_true rfl) rfl);exact rfl;refine dS ?_)
  refine g_conv (t_nilB (i := 1) (k := 2) (z := 3) rfl rfl rfl (by decide)) ?_
  try dsimp only [setRow,List.map_cons,List.map_nil,scC,List.set_cons_zero,List.set_cons_succ,Nat.reduceAdd]
  refine g_loop_id ?_
  refine loopK [0,1,4,5] [1,2] (fun i : Int => 0 ≤ i ∧ i ≤ st * sy) (fun i => [(6,.one (int i))]) (fun i => [(1,.bx [int sy,int st,.gv 2]),(2,.row 3 (rows eR (List.replicate i.toNat noR)))]) (fun i => (st * sy - i).toNat) (0 : Int) [0,1,2] (hI := ?_) (hr := ?_)
  · exact ⟨by omega,by omega⟩
  · rintro i ⟨h7,h8⟩
    dsimp only [List.cons_append,List.nil_append] at *
    skip
    repeat' first|(apply p3;(first|exact pu1|exact a_mulB rfl rfl (by omega) (by omega) (by omega) (by omega)|exact puC|exact a_add rfl rfl (by omega) (by omega));exact rfl)|refine cd ?_|(apply w3;(exact a_st_bx rfl rfl rfl rfl (fN rfl rfl) (Nat.le_of_ble_eq_true rfl) rfl);exact rfl;refine dS ?_)|(apply g_drN (id := 5) okM [[],[0],[],[2],[0,1,2,3],[0,1,2,3,4],[0,1,2,3,4,5]] [([],[]),([],[]),([],[]),([0],[]),([1],[_]),([],[]),([],[1])] 2;(focus (refine dp 0 0 [19,20] [(true,0)] (a_pure (sv := .one _) rfl) ?_;refine dp 1 1 [19,20] [(true,0)] puL ?_;refine dp 2 0 [17,18] [] (callD1 (n := _) 0 (θ := []) (hD := l05None_ok)) ?_;refine duE 3 1 [17,18] [] (atN 0 (fun _ => a_litE eR [⟨_,_,_⟩] rfl rfl rfl rfl rfl rfl rfl rfl)) (by exact rfl) (by exact rfl) ?_;refine duE 4 15 [] [] (atS 1 (fun _ hj => a_appE (fP rfl) rfl rfl rfl rfl nowR (by (simp;omega)) (by decide) hj (by exact rfl)) (by decide)) (by exact rfl) (by exact rfl) ?_;refine dp 5 31 [] [] (a_pure (sv := .one _) rfl) ?_;refine duE 6 63 [] [] (a_st_bx rfl rfl rfl rfl (fN rfl rfl) (Nat.le_of_ble_eq_true rfl) rfl) (by exact rfl) (by exact rfl) ?_;(refine d_nil ?_;refine dN ?_)));any_goals kernel_rfl)|((refine g_cond rfl (fun hc => ?_) (fun hc => ?_)) <;> (try simp only [dcB] at hc) <;> (try first|contradiction|(exfalso;omega)))
    · have hrep : List.replicate i.toNat noR ++ [noR] = List.replicate (i + 1).toNat noR := by rw [show (i + 1).toNat = i.toNat + 1 by omega,List.replicate_succ']
      simp only [hrep] at *
      refine q_again (i + 1) [0,1,4] (by exact stk) ?_ ?_
      · exact ⟨by omega,by omega⟩
      · omega
    · have hi : i = st * sy := by omega
      rw [← hi]
      repeat refine cr ?_
      refine ends_id ?_
      refine endK [?_] (h2 := ?_) (h3 := ?_) (nd := ?_)
      rotate_left 1
      all_goals (repeat' first|exact ce0|refine ce ?_|refine ce2 ?_ ?_|(refine Or.inr (bx_eq rfl rfl ?_);(try dsimp only [C.ren,C.ren.all]);(try exact rfl))|exact SVLe.refl|refine ceb ?_)
      all_goals first | exact (show nodupB _ = true from rfl) | exact Or.inr rfl | (rfl)
end Go.Proofs.YtighjcjmacajoaaGreatDoor
end
section
set_option linter.unusedVariables false
set_option linter.unusedSimpArgs false
set_option maxRecDepth 100000
set_option maxHeartbeats 4000000
namespace Go.Proofs.YtighjcjmacajoaaGreatDoor
open Go Foot
theorem preB92 {p : Prop} (h : p := by first | with_reducible assumption | omega | (simp only [List.length_append,List.length_cons,List.length_nil,List.length_set,List.length_replicate,List.length_take,List.length_drop,List.length_tail,List.length_dropLast,List.length_reverse] at *; omega) | exact mem_len (by assumption) (by omega) | (with_reducible refine Int.le_trans (Int.ofNat_le.2 (trimR_len _)) ?_; simp only [List.length_cons,List.length_tail]; omega) | (exact (ruAt_ok (by assumption) (by assumption) (by assumption)).2.1) | (exact (ruAt_ok (by assumption) (by assumption) (by assumption)).2.1) | (have := vMach_bd (by assumption); omega) | (simp only [mC_ch,mC_tu]; omega) | (have := vTag_bd (by assumption); omega) | (have := (‹Gd _ _›).le; omega) | (exact tgHalts_no (by assumption)) | (exact tgHead (by assumption) (by assumption) (by assumption)) | (exact Int.le_trans (tgStep_gd (by assumption) (by assumption) (by assumption) (by assumption)).le (by decide)) | (exact vTag_r (by assumption)) | (with_reducible refine Int.le_trans (Int.ofNat_le.2 (pushL_len _ _)) ?_; simp only [List.length_dropLast]; omega) | exact ls_at (by assumption) (by omega) | exact pt_gd (by assumption) | exact lv_at (by assumption) (by omega) | exact pt_gd (lv_at (by assumption) (by omega)) | exact (ask_ok (by assumption)).1 | exact (ask_ok (by assumption)).2.1 | exact (ask_ok (by assumption)).2.2.1 | exact (ask_ok (by assumption)).2.2.2 | trivial) : p := h
theorem usedCounts_ok (m : Mach) (hm : vMach m = true) : Does Tryz.prog 179 [.agg (maC m)] [] (.tup [(false,[int (usS m)]),(false,[int (usY m)])]) [] := by
  have hl := vMach_len hm
  refine does_of (k := 0) Tryz.func179 rfl Tryz.ntmps179 rfl rfl fun w F0 S0 ρ0 => ?_
  dsimp only [argT,argH]
  repeat' first|(apply n3;exact a_new (gb := .bx _) rfl;exact rfl;refine dA ?_)|(apply p3;(first|exact pu1|exact puN);exact rfl)|refine cd ?_
  refine g_loop_id ?_
  refine loopK [2,3,9,10] [] (fun y : Int × Int × Int => 0 ≤ y.1 ∧ y.1 ≤ m.ru.length ∧ usL (m.ru.drop y.1.toNat) y.2.1 y.2.2 = usL m.ru 1 1) (fun y => [(11,.one (int y.1)),(4,.one (int y.2.1)),(5,.one (int y.2.2))]) (fun _ => []) (fun y => (m.ru.length - y.1).toNat) ((0 : Int),(1 : Int),(1 : Int)) [0] (hI := ?_) (hr := ?_)
  · exact ⟨by simp,by simp,rfl⟩
  · rintro ⟨i,s,y⟩ ⟨h0,h1,h2⟩
    dsimp only [List.cons_append,List.nil_append] at *
    skip
    repeat' first|(apply n3;exact a_new (gb := .bx _) rfl;exact rfl;refine dA ?_)|(apply p3;(first|exact pu1|exact puC|exact puI);exact rfl)|refine cdn ?_|refine g_reg (id := 3) ?_|refine g_reg (id := 4) ?_|(apply w3;(exact a_st_bx rfl rfl rfl rfl (fN rfl rfl) (Nat.le_of_ble_eq_true rfl) rfl);exact rfl;refine dS ?_)|((refine g_cond rfl (fun hc => ?_) (fun hc => ?_)) <;> (try simp only [dcB] at hc) <;> (try first|contradiction|(exfalso;omega)))
    · have hb := vMach_ru hm i.toNat (by omega)
      have hn := us_no (s := s) (y := y) h0 (show i.toNat < m.ru.length by omega)
      have hy := us_yes (s := s) (y := y) h0 (show i.toNat < m.ru.length by omega)
      generalize m.ru[i.toNat] = r at *
      by_cases hr : r = noR
      · repeat' first|(apply p3;(first|exact pu1|exact a_add rfl rfl (by omega) (by omega));exact rfl)|refine cd ?_|(apply c4 0;exact callK1 (θ := []) (hD := (isRule_ok _));exact rfl;exact rfl;exact rfl;refine dM ?_)|((refine g_cond rfl (fun hc => ?_) (fun hc => ?_)) <;> (try simp only [dcB] at hc) <;> (try first|contradiction|(exfalso;omega)))
        refine q_again (i + 1,s,y) [0] (by exact stk) ?_ ?_
        · exact ⟨by dsimp only; omega,by dsimp only; omega,(hn hr).trans h2⟩
        · dsimp only; omega
      · repeat' first|(apply p3;(first|exact pu1|exact a_add rfl rfl (by omega) (by omega));exact rfl)|refine cd ?_|(apply c4 0;exact callK1 (θ := []) (hD := (isRule_ok _));exact rfl;exact rfl;exact rfl;refine dM ?_)|(apply g_drN (id := 6) okM [[],[],[1],[1,2],[0,1,2,3],[],[],[6],[6,7],[5,6,7,8],[0,1,2,3,4],[0,1,2,3,4,5,6,7,8,9,10]] [([],[]),([],[]),([],[]),([],[]),([],[]),([],[]),([],[]),([],[]),([],[]),([],[]),([],[]),([],[])] 0;(focus (refine dp 0 0 [18,19,20,22,23,24,25,26] [] pu1 ?_;refine dp 1 0 [17,22,23,24,25,26] [] (a_pure (sv := .one _) rfl) ?_;refine dp 2 1 [17,22,23,24,25,26] [] puL ?_;refine dp 3 3 [17,22,23,24,25,26] [] (a_add rfl rfl (by omega) (by omega)) ?_;refine dp 4 15 [22,23,24,25,26] [] (a_max rfl rfl) ?_;refine dp 5 0 [17,18,19,20,21,23,24,25,4] [] pu1 ?_;refine dp 6 0 [17,18,19,20,21,22,4] [] (a_pure (sv := .one _) rfl) ?_;refine dp 7 1 [17,18,19,20,21,22,4] [] puL ?_;refine dp 8 3 [17,18,19,20,21,22,4] [] (a_add rfl rfl (by omega) (by omega)) ?_;refine dp 9 15 [17,18,19,20,21,4] [] (a_max rfl rfl) ?_;refine dp 10 992 [22,23,24,25,26] [] pu1 ?_;refine dp 11 2047 [] [] pu1 ?_;(refine d_nil ?_;refine dN ?_)));any_goals kernel_rfl)|((refine g_cond rfl (fun hc => ?_) (fun hc => ?_)) <;> (try simp only [dcB] at hc) <;> (try first|contradiction|(exfalso;omega)))
        have em : ∀ a b : Int,(if a > b then a else b) = max b a := fun a b => by split <;> omega
        refine q_again (i + 1,if r.n + 1 > s then r.n + 1 else s,if r.w + 1 > y then r.w + 1 else y) [0] (by exact stk) ?_ ?_
        · exact ⟨by dsimp only; omega,by dsimp only; omega,by dsimp only; rw [em,em]; exact (hy hr).trans h2⟩
        · dsimp only; omega
    · have e : usS m = s := by unfold usS; rw [← h2,show i.toNat = m.ru.length by omega,List.drop_length]; rfl
      have e' : usY m = y := by unfold usY; rw [← h2,show i.toNat = m.ru.length by omega,List.drop_length]; rfl
      rw [e,e']
      repeat' first|(apply p3;(exact pu1);exact rfl)|refine cd ?_
      repeat refine cr ?_
      refine ends_id ?_
      refine endK [] (h2 := ?_) (h3 := ?_) (nd := ?_)
      all_goals (repeat' first|exact ce0|refine ce ?_|refine ce2 ?_ ?_|exact SVLe.refl|refine ceb ?_)
      all_goals first | exact (show nodupB _ = true from rfl) | exact Or.inr rfl | (rfl)
theorem l30Used_ok (m : Mach) (hm : vMach m = true) : Does Tryz.prog 102 [.one (maB m)] [] (.tup [(false,[int (usS m)]),(false,[int (usY m)]),(false,[int (rcL m.ru)])]) [] := by
  have hl := vMach_len hm
  refine does_of (k := 0) Tryz.func102 rfl Tryz.ntmps102 rfl rfl fun w F0 S0 ρ0 => ?_
  dsimp only [argT,argH]
  repeat' first|(apply p3;(exact pu1);exact rfl)|refine cd ?_
  refine g_loop_id ?_
  refine loopK [0,2,3,4] [] (fun y : Int × Int × Int × Int => 0 ≤ y.1 ∧ y.1 ≤ m.ru.length ∧ usL (m.ru.drop y.1.toNat) y.2.1 y.2.2.1 = usL m.ru 1 1 ∧ y.2.2.2 + rcL (m.ru.drop y.1.toNat) = rcL m.ru ∧ 0 ≤ y.2.2.2 ∧ y.2.2.2 ≤ y.1) (fun y => [(8,.one (int y.1)),(5,.one (int y.2.1)),(6,.one (int y.2.2.1)),(7,.one (int y.2.2.2))]) (fun _ => []) (fun y => (m.ru.length - y.1).toNat) ((0 : Int),(1 : Int),(1 : Int),(0 : Int)) [] (hI := ?_) (hr := ?_)
  · exact ⟨by simp,by simp,rfl,by simp,by simp,by simp⟩
  · rintro ⟨i,s,y,c⟩ ⟨h0,h1,h2,h3,h4,h5⟩
    dsimp only [List.cons_append,List.nil_append] at *
    skip
    repeat' first|(apply p3;(first|exact pu1|exact puN|exact puC);exact rfl)|refine cdn ?_|refine g_reg (id := 5) ?_|((refine g_cond rfl (fun hc => ?_) (fun hc => ?_)) <;> (try simp only [dcB] at hc) <;> (try first|contradiction|(exfalso;omega)))
    · have hb := vMach_ru hm i.toNat (by omega)
      have hn := us_no (s := s) (y := y) h0 (show i.toNat < m.ru.length by omega)
      have hy := us_yes (s := s) (y := y) h0 (show i.toNat < m.ru.length by omega)
      have cn := rc_no h0 (show i.toNat < m.ru.length by omega)
      have cy := rc_yes h0 (show i.toNat < m.ru.length by omega)
      try dsimp only at h2 h3
      by_cases hr : m.ru[i.toNat]'(by omega) = noR
      · have hr2 : ¬ ¬ m.ru[i.toNat]'(by omega) = ⟨0,0,-1⟩ := fun h => h hr
        repeat' first|(apply p3;(first|exact pu1|exact a_add rfl rfl (by omega) (by omega));exact rfl)|refine cd ?_|(apply g_drN (id := 7) okM [[],[0],[0,1],[0,1,2],[],[0,1,2,3,4],[0,1,2,3,4,5],[],[0,1,2,3,4,5,6,7]] [([],[]),([],[]),([],[]),([],[]),([],[]),([],[]),([],[]),([],[]),([],[])] 0;(focus (refine dp 0 0 [22,25] [] pu1 ?_;refine dp 1 1 [22,25] [] (a_pure (sv := .one _) rfl) ?_;refine dp 2 3 [22,25] [] (a_pure (sv := .one _) rfl) ?_;refine dp 3 7 [22,25] [] puL ?_;refine dp 4 0 [18,19,20,21,25] [] pu1 ?_;refine dp 5 31 [25] [] puI ?_;refine dp 6 63 [25] [] puL ?_;refine dp 7 0 [18,19,20,21,22,23,24] [] (callD1 (n := _) 0 (θ := []) (hD := l05None_ok)) ?_;refine dp 8 255 [] [] (by exact a_neRule (s := ⟨_,_,_⟩) rfl rfl) ?_;(refine d_nil ?_;refine dN ?_)));any_goals kernel_rfl)|((refine g_cond rfl (fun hc => ?_) (fun hc => ?_)) <;> (try simp only [dcB] at hc) <;> (try first|contradiction|(exfalso;omega)))
        refine q_again (i + 1,s,y,c) [] (by exact stk) ?_ ?_
        · exact ⟨by dsimp only; omega,by dsimp only; omega,(hn hr).trans h2,by dsimp only; rw [cn hr]; exact h3,h4,by dsimp only; omega⟩
        · dsimp only; omega
      · have hr2 : ¬ m.ru[i.toNat]'(by omega) = ⟨0,0,-1⟩ := hr
        have cy := cy hr
        repeat' first|(apply p3;(first|exact pu1|exact a_add rfl rfl (by omega) (by omega)|exact puI);exact rfl)|refine cd ?_|(apply c4 0;exact callK1 (θ := []) (hD := (l00Max_ok _ _));exact rfl;exact rfl;exact rfl;refine dM ?_)|(apply g_drN (id := 7) okM [[],[0],[0,1],[0,1,2],[],[0,1,2,3,4],[0,1,2,3,4,5],[],[0,1,2,3,4,5,6,7]] [([],[]),([],[]),([],[]),([],[]),([],[]),([],[]),([],[]),([],[]),([],[])] 0;(focus (refine dp 0 0 [22,25] [] pu1 ?_;refine dp 1 1 [22,25] [] (a_pure (sv := .one _) rfl) ?_;refine dp 2 3 [22,25] [] (a_pure (sv := .one _) rfl) ?_;refine dp 3 7 [22,25] [] puL ?_;refine dp 4 0 [18,19,20,21,25] [] pu1 ?_;refine dp 5 31 [25] [] puI ?_;refine dp 6 63 [25] [] puL ?_;refine dp 7 0 [18,19,20,21,22,23,24] [] (callD1 (n := _) 0 (θ := []) (hD := l05None_ok)) ?_;refine dp 8 255 [] [] (by exact a_neRule (s := ⟨_,_,_⟩) rfl rfl) ?_;(refine d_nil ?_;refine dN ?_)));any_goals kernel_rfl)|((refine g_cond rfl (fun hc => ?_) (fun hc => ?_)) <;> (try simp only [dcB] at hc) <;> (try first|contradiction|(exfalso;omega)))
        refine q_again (i + 1,max s ((m.ru[i.toNat]'(by omega)).n + 1),max y ((m.ru[i.toNat]'(by omega)).w + 1),c + 1) [] (by exact stk) ?_ ?_
        · exact ⟨by dsimp only; omega,by dsimp only; omega,(hy hr).trans h2,by dsimp only; omega,by dsimp only; omega,by dsimp only; omega⟩
        · dsimp only; omega
    · have hi : i.toNat = m.ru.length := by omega
      have e : usS m = s := by unfold usS; rw [← h2,hi,List.drop_length]; rfl
      have e' : usY m = y := by unfold usY; rw [← h2,hi,List.drop_length]; rfl
      have e2 : ((rcL m.ru : Nat) : Int) = c := by rw [← h3,hi,List.drop_length]; simp [rcL]
      rw [e,e',e2]
      repeat' first|(apply p3;(exact pu1);exact rfl)|refine cd ?_
      repeat refine cr ?_
      refine ends_id ?_
      refine endK [] (h2 := ?_) (h3 := ?_) (nd := ?_)
      all_goals (repeat' first|exact ce0|refine ce ?_|refine ce2 ?_ ?_|exact SVLe.refl|refine ceb ?_)
      all_goals first | exact (show nodupB _ = true from rfl) | exact Or.inr rfl | (rfl)
theorem runT_ok (m : Mach) (B : Int) (c : Conf) (n : Int) (oh : Bool) (hm : vMach m = true) (h1 : B ≤ 1000000) (hO : rlO m B.toNat 0 blank = (c,n,oh,true)) : Does Tryz.prog 175 [.one (.gv 0),.one (int B)] [ruBx m 0 1 2,roI [],roI []] (.tup [(false,[int n]),(false,[boo oh]),(false,[int 0])]) [ruBx m c.st 3 4,.dead,.dead,roI c.le.reverse,roI c.ri.reverse] := by
  have h := run_ok m blank B hm (vBlank hm) (by omega)
  have hr := (run_rl m B).1 (by rw [hO])
  rw [hO] at hr
  obtain ⟨q1,q2,q3,q4⟩ := hr
  rw [q1,q2,q3,q4] at h
  exact h
theorem runF_ok (m : Mach) (B : Int) (hm : vMach m = true) (h1 : B ≤ 1000000) (hO : (rlO m B.toNat 0 blank).2.2.2 = false) : Does Tryz.prog 175 [.one (.gv 0),.one (int B)] [ruBx m 0 1 2,roI [],roI []] (.tup [(false,[int (runMade (runIt m B blank))]),(false,[boo (runHalts m (runIt m B blank))]),(false,[int 5])]) [ruBx m (runIt m B blank).c.st 3 4,.dead,.dead,roI (runIt m B blank).c.le.reverse,roI (runIt m B blank).c.ri.reverse] := by
  have h := run_ok m blank B hm (vBlank hm) (by omega)
  have hr := (run_rl m B).2 hO
  rw [hr] at h
  exact h
theorem nodeStatus_ok (m : Mach) (B : Int) (hm : vMach m = true) (h0 : 0 ≤ B) (h1 : B ≤ 1000000) : Does Tryz.prog 113 [.agg (maC m),.one (int B)] [] (.tup [(false,[int (ndS m B)]),(false,[int (ndA m B)]),(false,[int (ndN m B)])]) [] := by
  have hfr := free_rc m
  have hok := rl_ok hm B.toNat 0 blank (vBlank hm)
  by_cases hk : (rlO m B.toNat 0 blank).2.2.2 = true
  · have hvc := hok hk
    have e1 : ndS m B = if (rlO m B.toNat 0 blank).2.2.1 = true then if (rcL m.ru : Int) + 1 = m.ru.length then 1 else 0 else 2 := by unfold ndS; rw [if_pos hk]
    have e2 : ndA m B = if (rlO m B.toNat 0 blank).2.2.1 = true then (rlO m B.toNat 0 blank).1.st * m.sy + (rlO m B.toNat 0 blank).1.ri.headD 0 else 0 := by unfold ndA; rw [if_pos hk]
    have e3 : ndN m B = (rlO m B.toNat 0 blank).2.1 := by unfold ndN; rw [if_pos hk]
    rw [e1,e2,e3]
    generalize hO : rlO m B.toNat 0 blank = O at *
    obtain ⟨c,n,oh,ok⟩ := O
    obtain rfl : ok = true := hk
    try dsimp only at hvc ⊢
    cases oh
    · rw [if_neg (by decide),if_neg (by decide)]
      refine does_of (k := 0) Tryz.func113 rfl Tryz.ntmps113 rfl rfl fun w F0 S0 ρ0 => ?_
      dsimp only [argT,argH]
      repeat' first|(apply n3;exact a_new (gb := .bx _) rfl;exact rfl;refine dA ?_)|(apply p3;(first|exact pu1|exact a_ne rfl rfl);exact rfl)|refine cd ?_|(apply c4 3;exact callK0 (θ := []) (hD := (blankRun_ok _));exact rfl;exact rfl;exact rfl;refine dM ?_)|(apply c4 2;exact callK0 (θ := [1,2,3]) (hD := (runT_ok m B c n false hm preB92 hO));exact rfl;exact rfl;exact rfl;refine dM ?_)
      repeat refine cr ?_
      refine ends_id ?_
      refine endK [] (h2 := ?_) (h3 := ?_) (nd := ?_)
      all_goals (repeat' first|exact ce0|refine ce ?_|refine ce2 ?_ ?_|exact SVLe.refl|refine ceb ?_)
      all_goals first | exact (show nodupB _ = true from rfl) | exact Or.inr rfl | (rfl)
    · rw [if_pos rfl,if_pos rfl]
      refine does_of (k := 0) Tryz.func113 rfl Tryz.ntmps113 rfl rfl fun w F0 S0 ρ0 => ?_
      dsimp only [argT,argH]
      repeat' first|(apply n3;exact a_new (gb := .bx _) rfl;exact rfl;refine dA ?_)|(apply p3;(first|exact pu1|exact a_ne rfl rfl|exact puN|exact puC);exact rfl)|refine cd ?_|(apply c4 3;exact callK0 (θ := []) (hD := (blankRun_ok _));exact rfl;exact rfl;exact rfl;refine dM ?_)|(apply c4 2;exact callK0 (θ := [1,2,3]) (hD := (runT_ok m B c n true hm preB92 hO));exact rfl;exact rfl;exact rfl;refine dM ?_)|(apply c4 1;exact callK1 (θ := []) (hD := (freeRules_ok _ preB92));exact rfl;exact rfl;exact rfl;refine dM ?_)|(apply c4 0;exact callK1 (θ := []) (hD := (atC_ok m c hm hvc));exact rfl;exact rfl;exact rfl;refine dM ?_)|((refine g_cond rfl (fun hc => ?_) (fun hc => ?_)) <;> (try simp only [dcB] at hc) <;> (try first|contradiction|(exfalso;omega)))
      all_goals
        repeat refine cr ?_
        refine ends_id ?_
        refine endK [] (h2 := ?_) (h3 := ?_) (nd := ?_)
        all_goals (repeat' first|exact ce0|refine ce ?_|refine ce2 ?_ ?_|exact SVLe.refl|refine ceb ?_)
        all_goals first | exact (show nodupB _ = true from rfl) | exact Or.inr rfl | ((first | rfl | (rw [if_pos (by omega)]) | (rw [if_neg (by omega)])))
  · have q : (rlO m B.toNat 0 blank).2.2.2 = false := by simpa using hk
    have e1 : ndS m B = 3 := by unfold ndS; rw [if_neg hk]
    have e2 : ndA m B = 0 := by unfold ndA; rw [if_neg hk]
    have e3 : ndN m B = 0 := by unfold ndN; rw [if_neg hk]
    rw [e1,e2,e3]
    refine does_of (k := 0) Tryz.func113 rfl Tryz.ntmps113 rfl rfl fun w F0 S0 ρ0 => ?_
    dsimp only [argT,argH]
    repeat' first|(apply n3;exact a_new (gb := .bx _) rfl;exact rfl;refine dA ?_)|(apply p3;(first|exact pu1|exact a_ne rfl rfl);exact rfl)|refine cd ?_|(apply c4 3;exact callK0 (θ := []) (hD := (blankRun_ok _));exact rfl;exact rfl;exact rfl;refine dM ?_)|(apply c4 2;exact callK0 (θ := [1,2,3]) (hD := (runF_ok m B hm preB92 q));exact rfl;exact rfl;exact rfl;refine dM ?_)
    repeat refine cr ?_
    refine ends_id ?_
    refine endK [] (h2 := ?_) (h3 := ?_) (nd := ?_)
    all_goals (repeat' first|exact ce0|refine ce ?_|refine ce2 ?_ ?_|exact SVLe.refl|refine ceb ?_)
    all_goals first | exact (show nodupB _ = true from rfl) | exact Or.inr rfl | (rfl)
theorem l30Status_ok (m : Mach) (B : Int) (hm : vMach m = true) (h0 : 0 ≤ B) (h1 : B ≤ 1000000) : Does Tryz.prog 42 [.one (maB m),.one (int B)] [] (.tup [(false,[int (ndS m B)]),(false,[int (ndA m B)]),(false,[int (ndN m B)])]) [] := by
  have hv := vBlank hm
  have hok := rl_ok hm B.toNat 0 blank hv
  have hl := vMach_len hm
  have hrc := rcL_le m.ru
  by_cases hk : (rlO m B.toNat 0 blank).2.2.2 = true
  · have hvc := hok hk
    have e1 : ndS m B = if (rlO m B.toNat 0 blank).2.2.1 = true then if (rcL m.ru : Int) + 1 = m.ru.length then 1 else 0 else 2 := by unfold ndS; rw [if_pos hk]
    have e2 : ndA m B = if (rlO m B.toNat 0 blank).2.2.1 = true then (rlO m B.toNat 0 blank).1.st * m.sy + (rlO m B.toNat 0 blank).1.ri.headD 0 else 0 := by unfold ndA; rw [if_pos hk]
    have e3 : ndN m B = (rlO m B.toNat 0 blank).2.1 := by unfold ndN; rw [if_pos hk]
    rw [e1,e2,e3]
    generalize hO : rlO m B.toNat 0 blank = O at *
    obtain ⟨c,n,oh,ok⟩ := O
    obtain rfl : ok = true := hk
    try dsimp only at hvc ⊢
    cases oh
    · rw [if_neg (by decide),if_neg (by decide)]
      refine does_of (k := 0) Tryz.func42 rfl Tryz.ntmps42 rfl rfl fun w F0 S0 ρ0 => ?_
      dsimp only [argT,argH]
      repeat' first|(apply n3;exact a_new (gb := .bx _) rfl;exact rfl;refine dA ?_)|(apply p3;(exact pu1);exact rfl)|refine cd ?_|(apply w3;(exact a_st_bx rfl rfl rfl rfl (fN rfl rfl) (Nat.le_of_ble_eq_true rfl) rfl);exact rfl;refine dS ?_)|(apply c4 2;exact callK1 (θ := []) (hD := (l05Run_ok m blank B hm hv preB92 preB92 ⟨c,n,false,true⟩ hO));exact rfl;exact rfl;exact rfl;refine dM ?_)
      repeat refine cr ?_
      refine ends_id ?_
      refine endK [] (h2 := ?_) (h3 := ?_) (nd := ?_)
      all_goals (repeat' first|exact ce0|refine ce ?_|refine ce2 ?_ ?_|exact SVLe.refl|refine ceb ?_)
      all_goals first | exact (show nodupB _ = true from rfl) | exact Or.inr rfl | (rfl)
    · rw [if_pos rfl,if_pos rfl]
      refine does_of (k := 0) Tryz.func42 rfl Tryz.ntmps42 rfl rfl fun w F0 S0 ρ0 => ?_
      dsimp only [argT,argH]
      repeat' first|(apply n3;exact a_new (gb := .bx _) rfl;exact rfl;refine dA ?_)|(apply p3;(first|exact pu1|exact a_add rfl rfl (by omega) (by omega)|exact puN|exact puC);exact rfl)|refine cd ?_|(apply w3;(exact a_st_bx rfl rfl rfl rfl (fN rfl rfl) (Nat.le_of_ble_eq_true rfl) rfl);exact rfl;refine dS ?_)|(apply c4 2;exact callK1 (θ := []) (hD := (l05Run_ok m blank B hm hv preB92 preB92 ⟨c,n,true,true⟩ hO));exact rfl;exact rfl;exact rfl;refine dM ?_)|(apply c4 0;exact callK1 (θ := []) (hD := (l30Used_ok _ preB92));exact rfl;exact rfl;exact rfl;refine dM ?_)|(apply c4 0;exact callK1 (θ := []) (hD := (l05AtC_ok m c hm hvc));exact rfl;exact rfl;exact rfl;refine dM ?_)|((refine g_cond rfl (fun hc => ?_) (fun hc => ?_)) <;> (try simp only [dcB] at hc) <;> (try first|contradiction|(exfalso;omega)))
      all_goals
        repeat refine cr ?_
        refine ends_id ?_
        refine endK [] (h2 := ?_) (h3 := ?_) (nd := ?_)
        all_goals (repeat' first|exact ce0|refine ce ?_|refine ce2 ?_ ?_|exact SVLe.refl|refine ceb ?_)
        all_goals first | exact (show nodupB _ = true from rfl) | exact Or.inr rfl | ((first | rfl | (rw [if_pos (by omega)]) | (rw [if_neg (by omega)])))
  · have e1 : ndS m B = 3 := by unfold ndS; rw [if_neg hk]
    have e2 : ndA m B = 0 := by unfold ndA; rw [if_neg hk]
    have e3 : ndN m B = 0 := by unfold ndN; rw [if_neg hk]
    rw [e1,e2,e3]
    generalize hO : rlO m B.toNat 0 blank = O at *
    obtain ⟨c,n,oh,ok⟩ := O
    obtain rfl : ok = false := by simpa using hk
    refine does_of (k := 0) Tryz.func42 rfl Tryz.ntmps42 rfl rfl fun w F0 S0 ρ0 => ?_
    dsimp only [argT,argH]
    repeat' first|(apply n3;exact a_new (gb := .bx _) rfl;exact rfl;refine dA ?_)|(apply p3;(exact pu1);exact rfl)|refine cd ?_|(apply w3;(exact a_st_bx rfl rfl rfl rfl (fN rfl rfl) (Nat.le_of_ble_eq_true rfl) rfl);exact rfl;refine dS ?_)|(apply c4 2;exact callK1 (θ := []) (hD := (l05Run_ok m blank B hm hv preB92 preB92 ⟨c,n,oh,false⟩ hO));exact rfl;exact rfl;exact rfl;refine dM ?_)
    repeat refine cr ?_
    refine ends_id ?_
    refine endK [] (h2 := ?_) (h3 := ?_) (nd := ?_)
    all_goals (repeat' first|exact ce0|refine ce ?_|refine ce2 ?_ ?_|exact SVLe.refl|refine ceb ?_)
    all_goals first | exact (show nodupB _ = true from rfl) | exact Or.inr rfl | (rfl)
end Go.Proofs.YtighjcjmacajoaaGreatDoor
end
section
set_option linter.unusedVariables false
set_option linter.unusedSimpArgs false
set_option maxRecDepth 100000
set_option maxHeartbeats 4000000
namespace Go.Proofs.YtighjcjmacajoaaGreatDoor
open Go Foot
abbrev eMa : Enc Mach := ⟨3,fun m => [.sc (.int .i64 m.sy),.sc (.int .i64 m.st),.sl false 3 (rows eR m.ru)],fun _ => rfl,by decide⟩
theorem chW_le {mvs : List Int} {W K : Nat} (h1 : W ≤ 6) (h2 : mvs.length ≤ 2) (h3 : K ≤ 1000) : (chW mvs W K).length ≤ 12000 := by
  rw [chW_len]
  have h4 : mvs.length * K ≤ 2 * 1000 := Nat.mul_le_mul h2 h3
  have h5 : W * (mvs.length * K) ≤ 6 * (2 * 1000) := Nat.mul_le_mul h1 h4
  omega
theorem chMv_le {w : Int} {mvs : List Int} {K : Nat} (h2 : mvs.length ≤ 2) (h3 : K ≤ 1000) : (chMv w mvs K).length ≤ 2000 := by
  rw [chMv_len]
  have h4 : mvs.length * K ≤ 2 * 1000 := Nat.mul_le_mul h2 h3
  omega
theorem chMv_take {w : Int} {mvs : List Int} {K : Nat} {i : Int} (h0 : 0 ≤ i) (h : i.toNat < mvs.length) : chMv w (mvs.take (i + 1).toNat) K = chMv w (mvs.take i.toNat) K ++ chQ w mvs[i.toNat] K := by
  rw [show (i + 1).toNat = i.toNat + 1 by omega,List.take_succ_eq_append_getElem h,chMv_next]
theorem chQ_nextI {w mv q : Int} (h : 0 ≤ q) : chQ w mv (q + 1).toNat = chQ w mv q.toNat ++ [⟨w,mv,q⟩] := by
  rw [show (q + 1).toNat = q.toNat + 1 by omega,chQ_next,show ((q.toNat : Nat) : Int) = q by omega]
theorem chW_nextI {mvs : List Int} {w : Int} {K : Nat} (h : 0 ≤ w) : chW mvs (w + 1).toNat K = chW mvs w.toNat K ++ chMv w mvs K := by
  rw [show (w + 1).toNat = w.toNat + 1 by omega,chW_next,show ((w.toNat : Nat) : Int) = w by omega]
theorem emn (a b : Int) : (if b < a then b else a) = min a b := by split <;> omega
theorem preB93 {p : Prop} (h : p := by first | with_reducible assumption | omega | (simp only [List.length_append,List.length_cons,List.length_nil,List.length_set,List.length_replicate,List.length_take,List.length_drop,List.length_tail,List.length_dropLast,List.length_reverse] at *; omega) | exact mem_len (by assumption) (by omega) | (with_reducible refine Int.le_trans (Int.ofNat_le.2 (trimR_len _)) ?_; simp only [List.length_cons,List.length_tail]; omega) | (exact (ruAt_ok (by assumption) (by assumption) (by assumption)).2.1) | (exact (ruAt_ok (by assumption) (by assumption) (by assumption)).2.1) | (have := vMach_bd (by assumption); omega) | (simp only [mC_ch,mC_tu]; omega) | (have := vTag_bd (by assumption); omega) | (have := (‹Gd _ _›).le; omega) | (exact tgHalts_no (by assumption)) | (exact tgHead (by assumption) (by assumption) (by assumption)) | (exact Int.le_trans (tgStep_gd (by assumption) (by assumption) (by assumption) (by assumption)).le (by decide)) | (exact vTag_r (by assumption)) | (with_reducible refine Int.le_trans (Int.ofNat_le.2 (pushL_len _ _)) ?_; simp only [List.length_dropLast]; omega) | exact ls_at (by assumption) (by omega) | exact pt_gd (by assumption) | exact lv_at (by assumption) (by omega) | exact pt_gd (lv_at (by assumption) (by omega)) | exact (ask_ok (by assumption)).1 | exact (ask_ok (by assumption)).2.1 | exact (ask_ok (by assumption)).2.2.1 | exact (ask_ok (by assumption)).2.2.2 | trivial) : p := h
theorem childRules_ok (m : Mach) (hm : vMach m = true) : Does Tryz.prog 117 [.agg (maC m)] [] (.one (.gv 0)) [.row 3 (rows eR (chR m))] := by
  have hb := us_bd hm
  have hv := vMach_bd hm
  have hfr := free_rc m
  have hml := chMvs_len m
  have hR : chR m = chW (chMvs m) (min (usY m + 1) m.sy).toNat (min (usS m + 1) m.st).toNat := by unfold chR; rfl
  have hW1 : 1 ≤ min (usY m + 1) m.sy ∧ min (usY m + 1) m.sy ≤ 6 := by omega
  have hK1 : 1 ≤ min (usS m + 1) m.st ∧ min (usS m + 1) m.st ≤ 1000 := by omega
  refine does_of (k := 0) Tryz.func117 rfl Tryz.ntmps117 rfl rfl fun w F0 S0 ρ0 => ?_
  dsimp only [argT,argH]
  repeat' first|(apply p3;exact a_litF (dst := some 16) eI [_,_] rfl rfl rfl rfl rfl rfl rfl rfl nowR;exact rfl)|(apply n3;exact a_nilO eR rfl;exact rfl)|(apply n3;exact a_new (gb := .bx _) rfl;exact rfl;refine dA ?_)|(apply p3;(exact pu1);exact rfl)|refine cd ?_|(apply c4 0;exact callK1 (θ := []) (hD := (usedCounts_ok _ preB93));exact rfl;exact rfl;exact rfl;refine dM ?_)|(apply g_drN (id := 3) okM [[],[0],[0,1],[],[3],[3,4],[0,1,2,3,4,5]] [([],[]),([0],[]),([],[]),([],[]),([],[]),([],[]),([],[])] 1;(focus (refine dp 0 0 [20,21,22] [] puL ?_;refine duN 1 1 [20,21,22] [] (callD1 (n := _) 0 (θ := []) (hD := (freeRules_ok _ preB93))) (by exact rfl) (by exact rfl) ?_;refine dp 2 3 [20,21,22] [] (by exact puN) ?_;refine dp 3 0 [17,18,19] [(true,0)] (a_pure (sv := .one _) rfl) ?_;refine dp 4 1 [17,18,19] [(true,0)] puL ?_;refine dp 5 3 [17,18,19] [(true,0)] (by exact puN) ?_;refine dp 6 63 [] [] (by exact puC) ?_;(refine d_nil ?_;refine dN ?_)));any_goals kernel_rfl)
  refine cutK [1,2,3,4] [] (fun y : List Int => y = chMvs m) (fun y => [(5,.one (shI y))]) (fun _ => []) (hc := ?_) (hk := ?_)
  · repeat' first|(apply p3;exact a_litF (dst := some 24) eI [_] rfl rfl rfl rfl rfl rfl rfl rfl nowR;exact rfl)|(apply p3;exact pu1;exact rfl)|refine cd ?_|((refine g_cond rfl (fun hc => ?_) (fun hc => ?_)) <;> (try simp only [dcB] at hc) <;> (try first|contradiction|(exfalso;omega)))
    · refine q_here [1] [0,1,2] (by exact stk) ?_
      unfold chMvs; rw [if_pos (by omega)]
    · refine q_here [-1,1] [0,1,2] (by exact stk) ?_
      unfold chMvs; rw [if_neg (by omega)]
  rintro mvs hmvs
  dsimp only [List.cons_append,List.nil_append] at *
  skip
  repeat' first|(apply n3;(exact a_litE eR [] rfl rfl rfl rfl rfl rfl rfl rfl);exact rfl;refine dA ?_)|(apply p3;(first|exact pu1|exact a_add rfl rfl (by omega) (by omega)|exact a_min rfl rfl);exact rfl)|refine cd ?_
  rw [← hmvs] at hR hml
  simp only [emn]
  generalize min (usY m + 1) m.sy = W at *
  generalize hKK : min (usS m + 1) m.st = K at *
  refine g_loop_id ?_
  refine loopK [1,2,3,5,6,30] [3] (fun y : Int × List Rule' => 0 ≤ y.1 ∧ y.1 ≤ W ∧ y.2 = chW mvs y.1.toNat K.toNat) (fun y => [(31,.one (int y.1))]) (fun y => [(3,.row 3 (rows eR y.2))]) (fun y => (W - y.1).toNat) ((0 : Int),([] : List Rule')) [0,1,2,3] (hI := ?_) (hr := ?_)
  · exact ⟨by simp,by dsimp only; omega,by simp [chW]⟩
  · rintro ⟨w,out⟩ ⟨h0,h1,h2⟩
    dsimp only [List.cons_append,List.nil_append] at *
    skip
    repeat' first|(apply p3;(first|exact pu1|exact puC|exact puN);exact rfl)|refine cd ?_|((refine g_cond rfl (fun hc => ?_) (fun hc => ?_)) <;> (try simp only [dcB] at hc) <;> (try first|contradiction|(exfalso;omega)))
    · refine g_loop_id ?_
      refine loopK [1,2,3,5,6,7,30,31,32,33,34,35] [3] (fun y : Int × List Rule' => 0 ≤ y.1 ∧ y.1 ≤ mvs.length ∧ y.2 = chW mvs w.toNat K.toNat ++ chMv w (mvs.take y.1.toNat) K.toNat) (fun y => [(36,.one (int y.1))]) (fun y => [(3,.row 3 (rows eR y.2))]) (fun y => (mvs.length - y.1).toNat) ((0 : Int),out) [0,1,2,3] (hI := ?_) (hr := ?_)
      · exact ⟨by simp,by simp,by simp [chMv,h2]⟩
      · rintro ⟨i,out'⟩ ⟨j0,j1,j2⟩
        dsimp only [List.cons_append,List.nil_append] at *
        skip
        repeat' first|(apply p3;(first|exact pu1|exact puC|exact a_add rfl rfl (by omega) (by omega)|exact a_min rfl rfl|exact puI);exact rfl)|refine cd ?_|((refine g_cond rfl (fun hc => ?_) (fun hc => ?_)) <;> (try simp only [dcB] at hc) <;> (try first|contradiction|(exfalso;omega)))
        · simp only [emn,hKK]
          refine g_loop_id ?_
          refine loopK [1,2,3,5,6,7,9,30,31,32,33,34,35,36,37,38,39,40,41,42,43,44] [3] (fun y : Int × List Rule' => 0 ≤ y.1 ∧ y.1 ≤ K ∧ y.2 = chW mvs w.toNat K.toNat ++ chMv w (mvs.take i.toNat) K.toNat ++ chQ w (mvs[i.toNat]'(by omega)) y.1.toNat) (fun y => [(45,.one (int y.1))]) (fun y => [(3,.row 3 (rows eR y.2))]) (fun y => (K - y.1).toNat) ((0 : Int),out') [0,1,2,3] (hI := ?_) (hr := ?_)
          · exact ⟨by simp,by dsimp only; omega,by simp [chQ,j2]⟩
          · rintro ⟨q,o⟩ ⟨k0,k1,k2⟩
            dsimp only [List.cons_append,List.nil_append] at *
            skip
            repeat' first|(apply p3;(first|exact pu1|exact puC|exact a_add rfl rfl (by omega) (by omega));exact rfl)|refine cdn ?_|refine g_reg (id := 13) ?_|refine g_reg (id := 17) ?_|((refine g_cond rfl (fun hc => ?_) (fun hc => ?_)) <;> (try simp only [dcB] at hc) <;> (try first|contradiction|(exfalso;omega)))
            · have l1 := chW_le (mvs := mvs) (W := w.toNat) (K := K.toNat) (by omega) (by omega) (by omega)
              have l2 := chMv_le (w := w) (mvs := mvs.take i.toNat) (K := K.toNat) (by rw [List.length_take]; omega) (by omega)
              have l3 : (o.length : Int) ≤ 16000 := by
                rw [k2,List.length_append,List.length_append,chQ_len]
                omega
              repeat' first|(apply n3;(exact a_litE eR [⟨_,_,_⟩] rfl rfl rfl rfl rfl rfl rfl rfl);exact rfl;refine dA ?_)|(apply p3;(first|exact pu1|exact a_add rfl rfl (by omega) (by omega));exact rfl)|refine cd ?_|(apply s3;exact a_appE (fP rfl) rfl rfl rfl rfl nowR (by (simp;omega)) (by decide) (by decide) (by exact rfl);exact rfl;exact rfl)
              refine q_again (q + 1,_) [0,1,2,5] (by exact stk) ?_ ?_
              · exact ⟨by dsimp only; omega,by dsimp only; omega,by dsimp only; rw [chQ_nextI k0,← List.append_assoc,← k2]⟩
              · dsimp only; omega
            · refine q_again (i + 1,o) [0,1,2,3] (by exact stk) ?_ ?_
              · refine ⟨by dsimp only; omega,by dsimp only; omega,?_⟩
                dsimp only
                rw [chMv_take j0 (by omega),k2,List.append_assoc,show q = K by omega]
              · dsimp only; omega
        · refine q_again (w + 1,out') [0,1,2,3] (by exact stk) ?_ ?_
          · refine ⟨by dsimp only; omega,by dsimp only; omega,?_⟩
            dsimp only
            rw [chW_nextI h0,j2,List.take_of_length_le (by omega)]
          · dsimp only; omega
    · have e : chR m = out := by rw [hR,h2,show w = W by omega]
      rw [e]
      skip
      repeat refine cr ?_
      refine ends_id ?_
      refine endK [?_] (h2 := ?_) (h3 := ?_) (nd := ?_)
      rotate_left 1
      all_goals (repeat' first|exact ce0|refine ce ?_|refine ce2 ?_ ?_|(refine Or.inr (bx_eq rfl rfl ?_);(try dsimp only [C.ren,C.ren.all]);(try exact rfl))|exact SVLe.refl|refine ceb ?_)
      all_goals first | exact (show nodupB _ = true from rfl) | exact Or.inr rfl | (rfl)
theorem cloneR_ok (xs : List Rule') (hx : (xs.length : Int) ≤ 16777216) : Does Tryz.prog 180 [.one (shR xs)] [] (.one (.gv 0)) [.row 3 (rows eR xs)] := by
  refine does_of (k := 0) Tryz.func180 rfl Tryz.ntmps180 rfl rfl fun w F0 S0 ρ0 => ?_
  dsimp only [argT,argH]
  repeat' first|(apply n3;exact a_nilO eR rfl;exact rfl)|(apply n3;(exact a_litE eR [] rfl rfl rfl rfl rfl rfl rfl rfl);exact rfl;refine dA ?_)|(apply p3;(exact pu1);exact rfl)|refine cd ?_|(apply s3;exact a_appE (fP rfl) rfl rfl rfl rfl nowR (by (simp;omega)) (by decide) (by decide) (by exact rfl);exact rfl;exact rfl)|(apply o_isnil;exact rfl;exact rfl;exact (fE rfl);exact rfl;exact rfl;intro b hnil)|((refine g_cond rfl (fun hc => ?_) (fun hc => ?_)) <;> (try simp only [dcB] at hc) <;> (try first|contradiction|(exfalso;omega)))
  · repeat refine cr ?_
    refine ends_id ?_
    refine endK [?_] (h2 := ?_) (h3 := ?_) (nd := ?_)
    rotate_left 1
    all_goals (repeat' first|exact ce0|refine ce ?_|refine ce2 ?_ ?_|(refine Or.inr (bx_eq rfl rfl ?_);(try dsimp only [C.ren,C.ren.all]);(try exact rfl))|exact SVLe.refl|refine ceb ?_)
    all_goals first | exact (show nodupB _ = true from rfl) | exact Or.inr rfl | (exact (hnil hc).symm)
  · repeat refine cr ?_
    refine ends_id ?_
    refine endK [?_] (h2 := ?_) (h3 := ?_) (nd := ?_)
    rotate_left 1
    all_goals (repeat' first|exact ce0|refine ce ?_|refine ce2 ?_ ?_|(refine Or.inr (bx_eq rfl rfl ?_);(try dsimp only [C.ren,C.ren.all]);(try exact rfl))|exact SVLe.refl|refine ceb ?_)
    all_goals first | exact (show nodupB _ = true from rfl) | exact Or.inr rfl | (rfl)
theorem copyMachine_ok (m : Mach) (hx : (m.ru.length : Int) ≤ 16777216) : Does Tryz.prog 118 [.agg (maC m)] [] (.agg [int m.sy,int m.st,.gv 0]) [.row 3 (rows eR m.ru)] := by
  refine does_of (k := 0) Tryz.func118 rfl Tryz.ntmps118 rfl rfl fun w F0 S0 ρ0 => ?_
  dsimp only [argT,argH]
  repeat' first|(apply n3;exact a_new (gb := .bx _) rfl;exact rfl;refine dA ?_)|(apply p3;exact puL;exact rfl)|refine cd ?_|(apply w3;(exact a_st_bx rfl rfl rfl rfl (fN rfl rfl) (Nat.le_of_ble_eq_true rfl) rfl);exact rfl;refine dS ?_)|(apply c4 1;exact callK1 (θ := []) (hD := (cloneR_ok _ preB93));exact rfl;exact rfl;exact rfl;refine dM ?_)
  repeat refine cr ?_
  refine ends_id ?_
  refine endK [?_] (h2 := ?_) (h3 := ?_) (nd := ?_)
  rotate_left 1
  all_goals (repeat' first|exact ce0|refine ce ?_|refine ce2 ?_ ?_|(refine Or.inr (bx_eq rfl rfl ?_);(try dsimp only [C.ren,C.ren.all]);(try exact rfl))|exact SVLe.refl|refine ceb ?_)
  all_goals first | exact (show nodupB _ = true from rfl) | exact Or.inr rfl | (rfl)
theorem child_ok (m : Mach) (a : Int) (r : Rule') (hx : (m.ru.length : Int) ≤ 16777216) (h0 : 0 ≤ a) (h1 : a < m.ru.length) : Does Tryz.prog 54 [.agg (maC m),.one (int a),.agg (ruC r)] [] (.agg [int m.sy,int m.st,.gv 0]) [.row 3 (rows eR (m.ru.set a.toNat r))] := by
  refine does_of (k := 0) Tryz.func54 rfl Tryz.ntmps54 rfl rfl fun w F0 S0 ρ0 => ?_
  dsimp only [argT,argH]
  repeat' first|(apply n3;exact a_new (gb := .bx _) rfl;exact rfl;refine dA ?_)|(apply p3;(first|exact pu1|exact puI);exact rfl)|refine cd ?_|(apply w3;(first|exact a_st_bx rfl rfl rfl rfl (fN rfl rfl) (Nat.le_of_ble_eq_true rfl) rfl|exact a_stE (E := eR) ⟨_,_,_⟩ rfl rfl rfl rfl (fN rfl rfl) bnd (by exact rfl));exact rfl;refine dS ?_)|(apply c4 1;exact callK1 (θ := []) (hD := (copyMachine_ok _ preB93));exact rfl;exact rfl;exact rfl;refine dM ?_)
  repeat refine cr ?_
  refine ends_id ?_
  refine endK [?_] (h2 := ?_) (h3 := ?_) (nd := ?_)
  rotate_left 1
  all_goals (repeat' first|exact ce0|refine ce ?_|refine ce2 ?_ ?_|(refine Or.inr (bx_eq rfl rfl ?_);(try dsimp only [C.ren,C.ren.all]);(try exact rfl))|exact SVLe.refl|refine ceb ?_)
  all_goals first | exact (show nodupB _ = true from rfl) | exact Or.inr rfl | (rfl)
theorem children_ok (m : Mach) (s a : Int) (hm : vMach m = true) : Does Tryz.prog 53 [.agg [int m.sy,int m.st,shR m.ru,int s,int a]] [] (.one (.gv 0)) [.row 3 (rows eR (if s = 0 then chR m else []))] := by
  refine does_of (k := 0) Tryz.func53 rfl Tryz.ntmps53 rfl rfl fun w F0 S0 ρ0 => ?_
  dsimp only [argT,argH]
  repeat' first|(apply n3;exact a_nilO eR rfl;exact rfl)|(apply n3;exact a_new (gb := .bx _) rfl;exact rfl;refine dA ?_)|(apply p3;(first|exact pu1|exact a_ne rfl rfl);exact rfl)|refine cd ?_|(apply c4 1;exact callK1 (θ := []) (hD := (childRules_ok _ preB93));exact rfl;exact rfl;exact rfl;refine dM ?_)|((refine g_cond rfl (fun hc => ?_) (fun hc => ?_)) <;> (try simp only [dcB] at hc) <;> (try first|contradiction|(exfalso;omega)))
  · repeat refine cr ?_
    refine ends_id ?_
    refine endK [?_] (h2 := ?_) (h3 := ?_) (nd := ?_)
    rotate_left 1
    all_goals (repeat' first|exact ce0|refine ce ?_|refine ce2 ?_ ?_|(refine Or.inr (bx_eq rfl rfl ?_);(try dsimp only [C.ren,C.ren.all]);(try exact rfl))|exact SVLe.refl|refine ceb ?_)
    all_goals first | exact (show nodupB _ = true from rfl) | exact Or.inr rfl | ((rw [if_neg (by assumption)]))
  · repeat refine cr ?_
    refine ends_id ?_
    refine endK [?_] (h2 := ?_) (h3 := ?_) (nd := ?_)
    rotate_left 1
    all_goals (repeat' first|exact ce0|refine ce ?_|refine ce2 ?_ ?_|(refine Or.inr (bx_eq rfl rfl ?_);(try dsimp only [C.ren,C.ren.all]);(try exact rfl))|exact SVLe.refl|refine ceb ?_)
    all_goals first | exact (show nodupB _ = true from rfl) | exact Or.inr rfl | ((rw [if_pos (by assumption)]))
theorem l05Own_ok (m : Mach) (hx : (m.ru.length : Int) ≤ 16777216) : Does Tryz.prog 105 [.one (maB m)] [] (.agg [int m.sy,int m.st,.gv 0]) [.row 3 (rows eR m.ru)] := by
  refine does_of (k := 0) Tryz.func105 rfl Tryz.ntmps105 rfl rfl fun w F0 S0 ρ0 => ?_
  dsimp only [argT,argH]
  repeat' first|(apply n3;exact a_new (gb := .bx _) rfl;exact rfl;refine dA ?_)|refine cd ?_|(apply g_drN (id := 1) okM [[],[0],[0,1],[0,1,2],[],[4],[4,5],[4,5,6],[],[],[9],[9,10],[9,10,11],[8,9,10,11,12],[0,1,2,3,4,5,6,7,8,9,10,11,12,13],[0,1,2,3,4,5,6,7,8,9,10,11,12,13,14]] [([],[]),([],[]),([],[]),([],[]),([],[]),([],[]),([],[]),([],[]),([0],[]),([],[]),([],[]),([],[]),([],[]),([1],[1]),([],[]),([],[0])] 2;(focus (refine dp 0 0 [7,8,9,10,11,12,13,14,15,16] [(true,0),(true,1),(false,1)] pu1 ?_;refine dp 1 1 [7,8,9,10,11,12,13,14,15,16] [(true,0),(true,1),(false,1)] (a_pure (sv := .one _) rfl) ?_;refine dp 2 3 [7,8,9,10,11,12,13,14,15,16] [(true,0),(true,1),(false,1)] (a_pure (sv := .one _) rfl) ?_;refine dp 3 7 [7,8,9,10,11,12,13,14,15,16] [(true,0),(true,1),(false,1)] puL ?_;refine dp 4 0 [3,4,5,6,11,12,13,14,15,16] [(true,0),(true,1),(false,1)] pu1 ?_;refine dp 5 1 [3,4,5,6,11,12,13,14,15,16] [(true,0),(true,1),(false,1)] (a_pure (sv := .one _) rfl) ?_;refine dp 6 3 [3,4,5,6,11,12,13,14,15,16] [(true,0),(true,1),(false,1)] (a_pure (sv := .one _) rfl) ?_;refine dp 7 7 [3,4,5,6,11,12,13,14,15,16] [(true,0),(true,1),(false,1)] puL ?_;refine duE 8 0 [3,4,5,6,7,8,9,10,12,13,14,15] [] (atN 0 (fun _ => a_litE eR [] rfl rfl rfl rfl rfl rfl rfl rfl)) (by exact rfl) (by exact rfl) ?_;refine dp 9 0 [3,4,5,6,7,8,9,10,11] [(true,0)] pu1 ?_;refine dp 10 1 [3,4,5,6,7,8,9,10,11] [(true,0)] (a_pure (sv := .one _) rfl) ?_;refine dp 11 3 [3,4,5,6,7,8,9,10,11] [(true,0)] (a_pure (sv := .one _) rfl) ?_;refine dp 12 7 [3,4,5,6,7,8,9,10,11] [(true,0)] puL ?_;refine duE 13 31 [3,4,5,6,7,8,9,10] [] (atS 1 (fun _ hj => a_appE (fP rfl) rfl rfl rfl rfl nowR (by (simp;omega)) (by decide) hj (by exact rfl)) (by decide)) (by exact rfl) (by exact rfl) ?_;refine dp 14 16383 [] [] (a_pure (sv := .agg _) rfl) ?_;refine duE 15 32767 [] [] (by exact a_st_bx rfl rfl rfl rfl (fN rfl rfl) (Nat.le_of_ble_eq_true rfl) rfl) (by exact rfl) (by exact rfl) ?_;(refine d_nil ?_;refine dN ?_)));any_goals kernel_rfl)
  repeat refine cr ?_
  refine ends_id ?_
  refine endK [?_] (h2 := ?_) (h3 := ?_) (nd := ?_)
  rotate_left 1
  all_goals (repeat' first|exact ce0|refine ce ?_|refine ce2 ?_ ?_|(refine Or.inr (bx_eq rfl rfl ?_);(try dsimp only [C.ren,C.ren.all]);(try exact rfl))|exact SVLe.refl|refine ceb ?_)
  all_goals first | exact (show nodupB _ = true from rfl) | exact Or.inr rfl | (rfl)
end Go.Proofs.YtighjcjmacajoaaGreatDoor
end
section
set_option linter.unusedVariables false
set_option linter.unusedSimpArgs false
set_option maxRecDepth 100000
namespace Go.Proofs.YtighjcjmacajoaaGreatDoor
open Go Foot
abbrev eVv : Enc Value := ⟨1,fun v => [.sc v],fun _ => rfl,by decide⟩
abbrev eO1 : Enc (List Int) := ⟨1,fun l => [.sl true 1 (rows eI l)],fun _ => rfl,by decide⟩
abbrev eS1 : Enc (List Int) := ⟨1,fun l => [.sl false 1 (rows eI l)],fun _ => rfl,by decide⟩
structure Back (w : World) (S Z G : Foot) (ps : List (List Int)) (vs : List Value) : Prop where
  r : Reps w no (rows eO1 ps) vs G
  s : le G S
  z : Foot.dis G Z
  t : ∀ t ∈ tabs,∀ o,¬ G t.1 o
theorem Back.keep {w w' : World} {S S' Z G : Foot} {ps : List (List Int)} {vs : List Value} (h : Back w S Z G ps vs) (hS : Agree w w' S) (hle : le S S') : Back w' S' Z G ps vs :=
  ⟨h.r.keep (hS.le h.s) Agree.no (le_refl _) (le_refl _),h.s.trans hle,h.z,h.t⟩
def zw (Z : Foot) : Opq where
  p w S us F := us = [] ∧ le Z S
  keep := fun ⟨h1,h2⟩ _ _ hle _ => ⟨h1,h2.trans hle⟩
def rcs (Z : Foot) (ps : List (List Int)) (vs : List Value) : Opq where
  p w S us F := us = [] ∧ le Z S ∧ ∃ G,Back w S Z G ps vs
  keep := fun ⟨h1,h2,G,h3⟩ _ hS hle _ => ⟨h1,h2.trans hle,G,h3.keep hS hle⟩
def thP (Z : Foot) (ps : List (List Int)) : Opq where
  p w S us F := le Z S ∧ ∃ v vs G,us = [v] ∧ Rep w no (.sl true 1 (rows eVv vs)) v F ∧ Back w S Z G ps vs
  keep := fun ⟨h1,v,vs,G,h2,h3,h4⟩ hF hS hle hf => ⟨h1.trans hle,v,vs,G,h2,h3.keep hF Agree.no (le_refl _) hf,h4.keep hS hle⟩
theorem plain_eVv : ∀ vs : List Value,D.plain.all (rows eVv vs)
  | [] => trivial
  | v :: vs => ⟨trivial,plain_eVv vs⟩
theorem rep_eVv {w : World} {S S' F : Foot} {v : Value} {vs : List Value} (h : Rep w S (.sl true 1 (rows eVv vs)) v F) : Rep w S' (.sl true 1 (rows eVv vs)) v F := h.plain ⟨rfl,plain_eVv vs⟩
theorem reps_eVv {w : World} {S F : Foot} : ∀ {vs us : List Value},Reps w S (rows eVv vs) us F → us = vs
  | [],us,h => h
  | v :: vs,us,h => by
    rw [rows_cons] at h
    simp only [List.singleton_append,Reps] at h
    obtain ⟨u,us',F1,F2,rfl,_,_,_,h4,h5⟩ := h
    rw [h4.1,reps_eVv h5]
theorem eVv_len (vs : List Value) : (rows eVv vs).length = vs.length := by rw [rows_len]; simp
theorem eO_len (ps : List (List Int)) : (rows eO1 ps).length = ps.length := by rw [rows_len]; simp
theorem Back.len {w : World} {S Z G : Foot} {ps : List (List Int)} {vs : List Value} (h : Back w S Z G ps vs) : vs.length = ps.length := by
  have := h.r.length
  rwa [eO_len] at this
theorem shut_eO : ∀ ps : List (List Int),ShutL (rows eO1 ps) (rows eS1 ps) := fun ps => ShutL.rows (fun l => ShutL.cons (Shut1.sl (ShutL.no (noOwnI l))) ShutL.nil)
theorem lkG_cons (d : Nat) (gb : GB) (h : List (Nat × GB)) (i : Nat) : lkG ((d,gb) :: h) i = if i = d then gb else lkG h i := by
  simp only [lkG]
  by_cases hi : i = d
  · subst hi; simp
  · simp [beq_ne hi,hi]
section
variable {P : Program} {g : Gh} {t : List (Nat × SV)} {h0 : List (Nat × GB)} {n i j q r : Nat} {a : Act} {w : World} {S Z : Foot} {ρ : Env} {F : Nat → Foot} {ps : List (List Int)} {vs : List Value} {Q : Exit → St → Prop}
theorem rel_root {gb : GB} (h : Rel g ⟨t,h0,n⟩ a w S ρ F) (hr : gb = .dead ∨ ∃ v,ρ i = some v ∧ RepG w S ρ gb v (F i)) : Rel g ⟨t,(i,gb) :: h0,n⟩ a w S ρ F := by
  refine ⟨h.size,h.defers,h.slot,fun j => ?_,h.dis,h.disS,h.own,h.ex,h.exS,h.old,h.inS,h.newS,h.pin,h.tab,h.fin⟩
  simp only [lkG_cons]
  split
  · rename_i e; subst e; exact hr
  · exact h.root j
theorem rel_new {R : Opq} (h : Rel g ⟨t,h0,n⟩ a w S ρ F) (hf : Fresh ⟨t,h0,n⟩ ρ) (hp : R.p w S [] (F n)) : ∃ ρ',Env.le ρ ρ' ∧ Rel g ⟨t,(n,.opq R []) :: h0,n + 1⟩ a w S ρ' F ∧ Fresh ⟨t,(n,.opq R []) :: h0,n + 1⟩ ρ' := by
  have hn : ρ n = none := hf n (Nat.le_refl n)
  have hle : Env.le ρ (fun k => if k = n then some (.bool false) else ρ k) := fun k u hk => by
    have : k ≠ n := fun e => by rw [e,hn] at hk; cases hk
    simp only [this,if_false]; exact hk
  refine ⟨_,hle,⟨h.size,h.defers,fun k => (h.slot k).keep (Agree.refl _ _) (le_refl _) hle,fun k => ?_,h.dis,h.disS,h.own,h.ex,h.exS,h.old,h.inS,h.newS,fun k u hk hu => hle _ _ (h.pin k u hk hu),h.tab,?_⟩,fun k hk => ?_⟩
  · simp only [lkG_cons]
    split
    · rename_i e
      subst e
      exact .inr ⟨.bool false,by simp,[],rfl,hp⟩
    · rename_i hkn
      rcases h.root k with h0 | ⟨u,r1,r2⟩
      · exact .inl h0
      · exact .inr ⟨u,r1,r2.keep (Agree.refl _ _) (Agree.refl _ _) (le_refl _) hle (le_refl _)⟩
  · obtain ⟨N,hN⟩ := h.fin
    exact ⟨N + n + 1,fun k hk => by
      have : k ≠ n := by omega
      simp only [this,if_false]
      exact hN k (by omega)⟩
  · have hk' : n + 1 ≤ k := hk
    have : k ≠ n := by omega
    simp only [this,if_false]
    exact hf k (by show n ≤ k; omega)
theorem t_leS (d : Nat) (sv' : SV) (hs : SVLe h0 [] (lkS t d) sv') : Conv g ⟨t,h0,n⟩ ⟨(d,sv') :: t,h0,n⟩ := fun a w S ρ F hr hf => ⟨S,ρ,F,hr.setSlot (SVLe.rep0 hs hr (hr.slot d)),hf⟩
theorem t_zw : Conv g ⟨t,h0,n⟩ ⟨t,(n,.opq (zw g.S0) []) :: h0,n + 1⟩ := fun a w S ρ F hr hf => by
  obtain ⟨ρ',_,h1,h2⟩ := rel_new (R := zw g.S0) hr hf ⟨rfl,hr.inS⟩
  exact ⟨S,ρ',F,h1,h2⟩
theorem rel_th (h : Rel g ⟨t,h0,n⟩ a w S ρ F) (hg : lkG h0 i = .opq (thP Z ps) [i]) : ∃ v vs G,ρ i = some v ∧ le Z S ∧ Rep w no (.sl true 1 (rows eVv vs)) v (F i) ∧ Back w S Z G ps vs := by
  rcases h.root i with h1 | ⟨u,r1,r2⟩
  · simp only [hg] at h1; cases h1
  · simp only [hg] at r2
    obtain ⟨us,r2,r3,v,vs,G,rfl,r4,r5⟩ := r2
    simp only [List.map_cons,List.map_nil,List.cons.injEq,and_true] at r2
    exact ⟨v,vs,G,r2,r3,r4,r5⟩
theorem rel_open (hi : i < n) (h : Rel g ⟨t,h0,n⟩ a w S ρ F) (hf : Fresh ⟨t,h0,n⟩ ρ) (hg : lkG h0 i = .opq (thP Z ps) [i]) :
    ∃ vs,vs.length = ps.length ∧ ∃ ρ',Rel g ⟨t,(n,.opq (rcs Z ps vs) []) :: (i,.row 1 (rows eVv vs)) :: h0,n + 1⟩ a w S ρ' F ∧ Fresh ⟨t,(n,.opq (rcs Z ps vs) []) :: (i,.row 1 (rows eVv vs)) :: h0,n + 1⟩ ρ' := by
  obtain ⟨v,vs,G,r1,r3,r4,r5⟩ := rel_th h hg
  have h2 : Rel g ⟨t,(i,.row 1 (rows eVv vs)) :: h0,n⟩ a w S ρ F := rel_root h (.inr ⟨v,r1,rep_eVv r4⟩)
  obtain ⟨ρ',_,q1,q2⟩ := rel_new (R := rcs Z ps vs) h2 hf ⟨rfl,r3,G,r5⟩
  exact ⟨vs,r5.len,ρ',q1,q2⟩
theorem g_openT {c : Code} (hi : Nat.blt i n = true) (hg : lkG h0 i = .opq (thP Z ps) [i]) (hk : ∀ vs : List Value,vs.length = ps.length → GWp P g c ⟨t,(n,.opq (rcs Z ps vs) []) :: (i,.row 1 (rows eVv vs)) :: h0,n + 1⟩ Q) : GWp P g c ⟨t,h0,n⟩ Q := ⟨fun a w S ρ F hr hf => by
  obtain ⟨vs,hv,ρ',q1,q2⟩ := rel_open (blt_lt hi) hr hf hg
  exact (hk vs hv).run _ _ _ _ _ q1 q2⟩
theorem t_mkT (hg : lkG h0 i = .row 1 []) (hq : lkG h0 q = .opq (zw Z) []) : Conv g ⟨t,h0,n⟩ ⟨t,(i,.opq (thP Z []) [i]) :: h0,n⟩ := fun a w S ρ F hr hf => by
  refine ⟨S,ρ,F,rel_root hr ?_,hf⟩
  have hZ : le Z S := by
    rcases hr.root q with h1 | ⟨u,r1,r2⟩
    · simp only [hq] at h1; cases h1
    · simp only [hq] at r2
      obtain ⟨us,_,_,h2⟩ := r2
      exact h2
  rcases hr.root i with h1 | ⟨u,r1,r2⟩
  · simp only [hg] at h1; cases h1
  · simp only [hg] at r2
    refine .inr ⟨u,r1,[u],by simp [r1],hZ,u,[],no,rfl,Rep.plain r2 ⟨rfl,trivial⟩,⟨rfl,no_le _,no_dis _,fun _ _ _ h => h⟩⟩
theorem rel_rcs (h : Rel g ⟨t,h0,n⟩ a w S ρ F) (hg : lkG h0 q = .opq (rcs Z ps vs) []) : le Z S ∧ ∃ G,Back w S Z G ps vs := by
  rcases h.root q with h1 | ⟨u,r1,r2⟩
  · simp only [hg] at h1; cases h1
  · simp only [hg] at r2
    obtain ⟨us,_,_,h2,G,h3⟩ := r2
    exact ⟨h2,G,h3⟩
theorem rel_rowT {z : Nat} {xs : List D} (h : Rel g ⟨t,h0,n⟩ a w S ρ F) (hg : lkG h0 r = .row z xs) : ∃ v,ρ r = some v ∧ Rep w S (.sl true z xs) v (F r) := by
  rcases h.root r with h1 | ⟨u,r1,r2⟩
  · simp only [hg] at h1; cases h1
  · simp only [hg] at r2
    exact ⟨u,r1,r2⟩
theorem nbeq {i j : Nat} (h : Nat.beq i j = false) : i ≠ j := fun e => by rw [e] at h; simp at h
theorem t_appT {p : List Int} (hj : lkG h0 j = .opq (rowQ 1 (rows eVv vs) [.r 0] []) [j,r]) (hq : lkG h0 q = .opq (rcs Z ps vs) []) (hr : lkG h0 r = .row 1 (rows eI p)) (hjr : Nat.beq j r = false) (hqr : Nat.beq q r = false) (hjq : Nat.beq j q = false) :
    Turn g ⟨t,h0,n⟩ ⟨t,(j,.opq (thP Z (ps ++ [p])) [j]) :: (q,.dead) :: (r,.sh 1 (rows eI p)) :: h0,n⟩ := by
  refine ⟨Nat.le_refl _,fun a w S ρ F h => ⟨S.or (F r),fun k => if k = r then no else F k,?_⟩⟩
  have hjr := nbeq hjr
  have hqr := nbeq hqr
  have hjq := nbeq hjq
  have hS : le S (S.or (F r)) := le_or_left _ _
  obtain ⟨vr,r1,r2⟩ := rel_rowT h hr
  obtain ⟨hZ,G,hB⟩ := rel_rcs h hq
  have hj' : ∃ u,ρ j = some u ∧ Rep w no (.sl true 1 (rows eVv (vs ++ [vr]))) u (F j) := by
    rcases h.root j with h1 | ⟨u,q1,q2⟩
    · simp only [hj] at h1; cases h1
    · simp only [hj] at q2
      obtain ⟨rl,e1,e2,e3⟩ := repQ_elim q2 q1
      simp only [List.map_cons,List.map_nil,r1] at e1
      cases rl with
      | nil => cases e1
      | cons x rl =>
        simp only [List.map_cons,List.cons.injEq,Option.some.injEq] at e1
        obtain ⟨rfl,e1⟩ := e1
        refine ⟨u,q1,?_⟩
        have : rows eVv vs ++ [Qc.r 0].map (Qc.sub (vr :: rl)) ++ [] = rows eVv (vs ++ [vr]) := by
          rw [List.append_nil,← rows_app]; rfl
        rw [this] at e3
        exact rep_eVv e3
  obtain ⟨u,q1,q2⟩ := hj'
  have hrp : Rep w no (.sl true 1 (rows eI p)) vr (F r) := r2.plain ⟨rfl,plainI p⟩
  have hB' : Back w (S.or (F r)) Z (G.or (F r)) (ps ++ [p]) (vs ++ [vr]) := by
    refine ⟨?_,or_le (hB.s.trans hS) (le_or_right _ _),dis_or hB.z fun b o x y => h.disS r b o x (hZ b o y),fun t ht o hh => hh.elim (hB.t t ht o) fun hh => h.disS r _ _ hh ((h.tab t ht).2 o)⟩
    rw [← rows_app]
    refine Reps.append hB.r ?_ (fun b o x y => h.disS r b o y (hB.s b o x)) (le_or_left _ _) (le_or_right _ _)
    exact ⟨vr,[],F r,no,rfl,le_refl _,no_le _,dis_no _,hrp,rfl⟩
  refine ⟨h.size,h.defers.keep fun r' _ m => ⟨m.at_,fun j o hj => (by split at hj; exact hj.elim; exact m.F j o hj),fun o ho => ho.elim (m.S o) (m.F r o),m.lo⟩,fun k => (h.slot k).keep (Agree.refl _ _) hS (Env.le.refl _),fun k => ?_,fun k l hkl => ?_,fun k => ?_,fun k => ?_,fun k b o hb => ?_,fun b o hb => ?_,h.old,h.inS.trans hS,fun b o hb => ?_,h.pin,h.tab.keep (Agree.refl _ _) hS,h.fin⟩
  · simp only [lkG_cons]
    split
    · rename_i e
      subst e
      simp only [if_neg hjr]
      exact .inr ⟨u,q1,[u],by simp [q1],hZ.trans hS,u,_,_,rfl,q2,hB'⟩
    · split
      · exact .inl rfl
      · split
        · rename_i e
          subst e
          exact .inr ⟨vr,r1,by
            show Rep w (S.or (F k)) (.sl false 1 (rows eI p)) vr no
            exact Shut1.sl (ShutL.no (noOwnI p)) _ _ _ _ _ r2 (le_refl _)⟩
        · rename_i hk
          skip
          rcases h.root k with h0 | ⟨u,r1,r2⟩
          · exact .inl h0
          · exact .inr ⟨u,r1,r2.keep (Agree.refl _ _) (Agree.refl _ _) hS (Env.le.refl _) (le_refl _)⟩
  · by_cases hk : k = r
    · simp only [hk,if_true]; exact no_dis _
    · by_cases hl : l = r
      · simp only [hl,if_true]; exact dis_no _
      · simp only [if_neg hk,if_neg hl]; exact h.dis k l hkl
  · by_cases hk : k = r
    · simp only [hk,if_true]; exact no_dis _
    · simp only [if_neg hk]
      exact fun b o hb hs => hs.elim (fun hs => h.disS k b o hb hs) (fun hs => h.dis k r hk b o hb hs)
  · by_cases hk : k = r
    · simp only [hk,if_true]; exact no_le _
    · simp only [if_neg hk]; exact h.own k
  · by_cases hk : k = r
    · simp only [hk,if_true] at hb; exact hb.elim
    · simp only [if_neg hk] at hb; exact h.ex k b o hb
  · exact hb.elim (h.exS b o) (h.ex r b o)
  · exact hb.elim (h.newS b o) (fun hb => .inr (h.own r b o hb))
inductive Kept : List (List Int) → List Value → List (List Int) → List Value → Prop where
  | nil : Kept [] [] [] []
  | keep {p v ps vs ps' vs'} (h : Kept ps vs ps' vs') : Kept (p :: ps) (v :: vs) (p :: ps') (v :: vs')
  | skip {p v ps vs ps' vs'} (h : Kept ps vs ps' vs') : Kept (p :: ps) (v :: vs) ps' vs'
theorem Kept.reps {ps ps' : List (List Int)} {vs vs' : List Value} (h : Kept ps vs ps' vs') : ∀ {G : Foot},Reps w S (rows eO1 ps) vs G → Reps w S (rows eO1 ps') vs' G := by
  induction h with
  | nil => exact fun h => h
  | keep h ih =>
    intro G hr
    rw [rows_cons] at hr ⊢
    simp only [List.singleton_append,Reps] at hr ⊢
    obtain ⟨v,us,F1,F2,e,h1,h2,h3,h4,h5⟩ := hr
    simp only [List.cons.injEq] at e
    obtain ⟨rfl,rfl⟩ := e
    exact ⟨_,_,F1,F2,rfl,h1,h2,h3,h4,ih h5⟩
  | skip h ih =>
    intro G hr
    rw [rows_cons] at hr
    simp only [List.singleton_append,Reps] at hr
    obtain ⟨v,us,F1,F2,e,h1,h2,h3,h4,h5⟩ := hr
    simp only [List.cons.injEq] at e
    obtain ⟨rfl,rfl⟩ := e
    exact (ih h5).mono h2
theorem t_shutT {ps' : List (List Int)} {vs' : List Value} (hj : lkG h0 j = .row 1 (rows eVv vs')) (hq : lkG h0 q = .opq (rcs Z ps vs) []) (hk : Kept ps vs ps' vs') (hjq : Nat.beq j q = false) :
    Conv g ⟨t,h0,n⟩ ⟨t,(j,.opq (thP Z ps') [j]) :: (q,.dead) :: h0,n⟩ := fun a w S ρ F hr hf => by
  obtain ⟨v,r1,r2⟩ := rel_rowT hr hj
  obtain ⟨hZ,G,hB⟩ := rel_rcs hr hq
  refine ⟨S,ρ,F,rel_root (rel_root hr (.inl rfl)) (.inr ⟨v,r1,[v],by simp [r1],hZ,v,vs',G,rfl,rep_eVv r2,hk.reps hB.r,hB.s,hB.z,hB.t⟩),hf⟩
theorem Rep.listO {v : Value} {F1 G : Foot} (h : Rep w S (.sl true 1 (rows eVv vs)) v F1) (hG : Reps w S (rows eO1 ps) vs G) (hd : Foot.dis F1 G) : Rep w S (.sl true 1 (rows eO1 ps)) v (F1.or G) := by
  have hlen := hG.length
  simp only [Rep,if_true] at h ⊢
  obtain ⟨ad,len,cap,rfl,e1,e2,e3,e4⟩ := h
  rw [eVv_len] at e1
  refine ⟨ad,len,cap,rfl,by omega,e2,e3,?_⟩
  rcases e4 with ⟨e4,e5⟩ | ⟨b,off,us,G0,rfl,f1,f2,f3,f4,f5,f6⟩
  · exact .inl ⟨e4,e5⟩
  · have := reps_eVv f2
    subst this
    exact .inr ⟨b,off,_,G,rfl,f1,hG,f3.trans (le_or_left _ _),le_or_right _ _,fun b o x y => hd b o (f3 b o x) y,f6⟩
theorem t_shT (hg : lkG h0 i = .opq (thP Z ps) [i]) : Turn g ⟨t,h0,n⟩ ⟨t,(i,.sh 1 (rows eS1 ps)) :: h0,n⟩ := by
  refine ⟨Nat.le_refl _,fun a w S ρ F h => ⟨S.or (F i),fun k => if k = i then no else F k,?_⟩⟩
  have hS : le S (S.or (F i)) := le_or_left _ _
  obtain ⟨v,vs,G,r1,r2,r3,r4⟩ := rel_th h hg
  have hd : Foot.dis (F i) G := fun b o x y => h.disS i b o x (r4.s b o y)
  have hrep := (rep_eVv (S' := S) r3).listO (r4.r.keep (Agree.refl _ _) Agree.no (no_le _) (le_refl _)) hd
  have hsh : Rep w (S.or (F i)) (.sl false 1 (rows eS1 ps)) v no := by
    have := Shut1.sl (o := true) (z := 1) (shut_eO ps) w S ((F i).or G) _ v hrep (le_refl _)
    refine this.keep Agree.no (Agree.refl _ _) (or_le hS (or_le (le_or_right _ _) (r4.s.trans hS))) (le_refl _)
  refine ⟨h.size,h.defers.keep fun r' _ m => ⟨m.at_,fun j o hj => (by split at hj; exact hj.elim; exact m.F j o hj),fun o ho => ho.elim (m.S o) (m.F i o),m.lo⟩,fun k => (h.slot k).keep (Agree.refl _ _) hS (Env.le.refl _),fun k => ?_,fun k l hkl => ?_,fun k => ?_,fun k => ?_,fun k b o hb => ?_,fun b o hb => ?_,h.old,h.inS.trans hS,fun b o hb => ?_,h.pin,h.tab.keep (Agree.refl _ _) hS,h.fin⟩
  · simp only [lkG_cons]
    split
    · rename_i e
      subst e
      exact .inr ⟨v,r1,hsh⟩
    · rename_i hk
      skip
      rcases h.root k with h0 | ⟨u,r1,r2⟩
      · exact .inl h0
      · exact .inr ⟨u,r1,r2.keep (Agree.refl _ _) (Agree.refl _ _) hS (Env.le.refl _) (le_refl _)⟩
  · by_cases hk : k = i
    · simp only [hk,if_true]; exact no_dis _
    · by_cases hl : l = i
      · simp only [hl,if_true]; exact dis_no _
      · simp only [if_neg hk,if_neg hl]; exact h.dis k l hkl
  · by_cases hk : k = i
    · simp only [hk,if_true]; exact no_dis _
    · simp only [if_neg hk]
      exact fun b o hb hs => hs.elim (fun hs => h.disS k b o hb hs) (fun hs => h.dis k i hk b o hb hs)
  · by_cases hk : k = i
    · simp only [hk,if_true]; exact no_le _
    · simp only [if_neg hk]; exact h.own k
  · by_cases hk : k = i
    · simp only [hk,if_true] at hb; exact hb.elim
    · simp only [if_neg hk] at hb; exact h.ex k b o hb
  · exact hb.elim (h.exS b o) (h.ex i b o)
  · exact hb.elim (h.newS b o) (fun hb => .inr (h.own i b o hb))
def slotsPlain : List (Nat × SV) → Prop
  | [] => True
  | (_,sv) :: t => sv.plain ∧ slotsPlain t
theorem slotsPlain_lk : ∀ {t : List (Nat × SV)},slotsPlain t → ∀ i,(lkS t i).plain
  | [],_,i => trivial
  | (d,sv) :: t,h,i => by
    rw [lkS_cons]
    split
    · exact h.1
    · exact slotsPlain_lk h.2 i
theorem t_thaw {t' : List (Nat × SV)} (hg : lkG h0 i = .opq (thP g.S0 ps) [i]) (hs : leS t' t) (hp : slotsPlain t') : Turn g ⟨t,h0,n⟩ ⟨t',[(i,.row 1 (rows eO1 ps))],n⟩ := by
  refine ⟨Nat.le_refl _,fun a w S ρ F h => ?_⟩
  obtain ⟨v,vs,G,r1,r2,r3,r4⟩ := rel_th h hg
  have hd : Foot.dis (F i) G := fun b o x y => h.disS i b o x (r4.s b o y)
  refine ⟨fun b o => S b o ∧ ¬ G b o,fun k => if k = i then (F i).or G else F k,?_⟩
  have hrep := (rep_eVv (S' := fun b o => S b o ∧ ¬ G b o) r3).listO (r4.r.keep (Agree.refl _ _) Agree.no (no_le _) (le_refl _)) hd
  refine ⟨h.size,h.defers.keep fun r' _ m => ⟨m.at_,fun j o hj => (by split at hj; exact hj.elim (m.F i o) (fun hj => m.S o (r4.s _ _ hj)); exact m.F j o hj),fun o ho => m.S o ho.1,m.lo⟩,fun k => ?_,fun k => ?_,fun k l hkl => ?_,fun k => ?_,fun k => ?_,fun k b o hb => ?_,fun b o hb => h.exS b o hb.1,h.old,fun b o hb => ⟨h.inS b o hb,fun hg => r4.z b o hg hb⟩,fun b o hb => h.newS b o hb.1,h.pin,fun t ht => ⟨(h.tab t ht).1,fun o => ⟨(h.tab t ht).2 o,r4.t t ht o⟩⟩,h.fin⟩
  · rcases leS_lk hs k with e | e
    · show RepS _ _ _ (lkS t' k) _
      rw [e]; trivial
    · have h1 := h.slot k
      have h2 := slotsPlain_lk hp k
      show RepS _ _ _ (lkS t' k) _
      rw [e] at h2 ⊢
      exact RepS.plain h1 h2
  · simp only [lkG_cons]
    split
    · rename_i e
      subst e
      skip
      exact .inr ⟨v,r1,hrep⟩
    · exact .inl rfl
  · by_cases hk : k = i
    · have hl : l ≠ i := fun e => hkl (by rw [hk,e])
      simp only [hk,if_true,if_neg hl]
      exact dis_or (h.dis i l fun e => hl e.symm) fun b o x y => h.disS l b o y (r4.s b o x)
    · simp only [if_neg hk]
      by_cases hl : l = i
      · simp only [hl,if_true]
        exact (dis_or (h.dis i k fun e => hk e.symm) fun b o x y => h.disS k b o y (r4.s b o x)).symm
      · simp only [if_neg hl]; exact h.dis k l hkl
  · by_cases hk : k = i
    · simp only [hk,if_true]
      exact dis_or (fun b o x y => h.disS i b o x y.1) fun b o x y => y.2 x
    · simp only [if_neg hk]
      exact fun b o x y => h.disS k b o x y.1
  · by_cases hk : k = i
    · simp only [hk,if_true]
      exact or_le (h.own i) fun b o x => (h.newS b o (r4.s b o x)).elim (fun hz => absurd hz fun hz => r4.z b o x hz) id
    · simp only [if_neg hk]; exact h.own k
  · by_cases hk : k = i
    · simp only [hk,if_true] at hb
      exact hb.elim (h.ex i b o) fun hb => h.exS b o (r4.s b o hb)
    · simp only [if_neg hk] at hb; exact h.ex k b o hb
end
end Go.Proofs.YtighjcjmacajoaaGreatDoor
end
section
set_option linter.unusedVariables false
set_option linter.unusedSimpArgs false
set_option maxRecDepth 100000
namespace Go.Proofs.YtighjcjmacajoaaGreatDoor
open Go Foot
theorem row_part {α : Type} {E : Enc α} {l : List α} {i o n : Nat} (hi : i < l.length) (ho : o + n ≤ E.z) : ((rows E l).drop (i * E.z + o)).take n = ((E.enc l[i]).drop o).take n := by
  have hl : (rows E (l.take i)).length = i * E.z := rows_pre rfl (Nat.le_of_lt hi)
  have he := E.len l[i]
  rw [rows_mid hi,List.append_assoc,List.drop_append,hl,List.drop_of_length_le (by omega),List.nil_append,show i * E.z + o - i * E.z = o by omega]
  rw [List.drop_append_of_le_length (by omega),List.take_append_of_le_length (by rw [List.length_drop]; omega)]
section
variable {P : Program} {g : Gh} {st : St} {dst : Option Tmp} {ty : TypeId} {pos : String} {after : Array Edge} {guard : Option (Nat × Bool)} {x y : Operand} {α : Type} {E : Enc α} {l : List α} {z r k i : Nat} {c0 : C}
theorem a_ldsE {T n : Nat} {ys : List D} {cs : List C} (o : Nat) (hc : opd st x = .one c0) (ht : tgt st c0 = some (r,k)) (hg : lkG st.h r = .row z (rows E l)) (hT : aggB P T n = true) (hz : E.z = z) (hk : k = i * z + o) (hn : 0 < n) (ho : o + n ≤ z) (hi : i < l.length) (hq : ((E.enc l[i]).drop o).take n = ys) (hno : D.noOwn.all ys) (hcs : ys.map C.d = cs) :
    Acts P g ⟨dst,.load T x,ty,pos,after,guard⟩ st (.agg cs) [] [] := by
  subst hz
  subst hk
  refine a_lds_row hc ht hg hT hn ?_ (by rw [row_part hi ho]; exact hq) hno hcs
  rw [rows_len]
  have : (i + 1) * E.z ≤ l.length * E.z := Nat.mul_le_mul_right _ hi
  rw [Nat.add_mul,Nat.one_mul] at this
  omega
theorem a_ldE {T : Nat} {c : D} (o : Nat) (hc : opd st x = .one c0) (ht : tgt st c0 = some (r,k)) (hg : lkG st.h r = .row z (rows E l)) (hT : cellB P T = true) (hz : E.z = z) (hk : k = i * z + o) (ho : o < z) (hi : i < l.length) (hq : (E.enc l[i])[o]? = some c) (hno : c.noOwn) :
    Acts P g ⟨dst,.load T x,ty,pos,after,guard⟩ st (.one (.d c)) [] [] := by
  subst hz
  subst hk
  refine a_ld_row hc ht hg hT ?_ hno
  have h := row_part (E := E) (l := l) (n := 1) hi ho
  have h1 := congrArg (fun q => q[0]?) h
  simp only [List.getElem?_take,List.getElem?_drop,Nat.add_zero,Nat.lt_add_one,if_true] at h1
  simpa [hq] using h1
end
end Go.Proofs.YtighjcjmacajoaaGreatDoor
end
section
set_option linter.unusedVariables false
set_option linter.unusedSimpArgs false
set_option maxRecDepth 100000
set_option maxHeartbeats 4000000
namespace Go.Proofs.YtighjcjmacajoaaGreatDoor
open Go Foot
theorem preB95 {p : Prop} (h : p := by first | with_reducible assumption | omega | (simp only [List.length_append,List.length_cons,List.length_nil,List.length_set,List.length_replicate,List.length_take,List.length_drop,List.length_tail,List.length_dropLast,List.length_reverse] at *; omega) | exact mem_len (by assumption) (by omega) | (with_reducible refine Int.le_trans (Int.ofNat_le.2 (trimR_len _)) ?_; simp only [List.length_cons,List.length_tail]; omega) | (exact (ruAt_ok (by assumption) (by assumption) (by assumption)).2.1) | (exact (ruAt_ok (by assumption) (by assumption) (by assumption)).2.1) | (have := vMach_bd (by assumption); omega) | (simp only [mC_ch,mC_tu]; omega) | (have := vTag_bd (by assumption); omega) | (have := (‹Gd _ _›).le; omega) | (exact tgHalts_no (by assumption)) | (exact tgHead (by assumption) (by assumption) (by assumption)) | (exact Int.le_trans (tgStep_gd (by assumption) (by assumption) (by assumption) (by assumption)).le (by decide)) | (exact vTag_r (by assumption)) | (with_reducible refine Int.le_trans (Int.ofNat_le.2 (pushL_len _ _)) ?_; simp only [List.length_dropLast]; omega) | exact ls_at (by assumption) (by omega) | exact pt_gd (by assumption) | exact lv_at (by assumption) (by omega) | exact pt_gd (lv_at (by assumption) (by omega)) | exact (ask_ok (by assumption)).1 | exact (ask_ok (by assumption)).2.1 | exact (ask_ok (by assumption)).2.2.1 | exact (ask_ok (by assumption)).2.2.2 | trivial) : p := h
theorem l00Min_ok (a b : Int) : Does Tryz.prog 104 [.one (int a),.one (int b)] [] (.one (int (min a b))) [] := by
  refine does_of (k := 0) Tryz.func104 rfl Tryz.ntmps104 rfl rfl fun w F0 S0 ρ0 => ?_
  dsimp only [argT,argH]
  repeat' first|(apply p3;(first|exact pu1|exact puC);exact rfl)|refine cd ?_|((refine g_cond rfl (fun hc => ?_) (fun hc => ?_)) <;> (try simp only [dcB] at hc) <;> (try first|contradiction|(exfalso;omega)))
  all_goals
    repeat refine cr ?_
    refine ends_id ?_
    refine endK [] (h2 := ?_) (h3 := ?_) (nd := ?_)
    all_goals (repeat' first|exact ce0|refine ce ?_|refine ce2 ?_ ?_|exact SVLe.refl|refine ceb ?_)
    all_goals first | exact (show nodupB _ = true from rfl) | exact Or.inr rfl | (omega)
def midL (rc : Nat) (w mv : Int) (mvs : List Int) (K : Nat) : List Rule' := if mv = -1 then [] else if mv = 1 then if rc = 0 then [] else chQ w (-1) K else chMv w mvs K
theorem midL_3 (rc : Nat) (w : Int) (mvs : List Int) (K : Nat) (h : mvs = if rc = 0 then [1] else [-1,1]) : midL rc w 1 mvs K ++ chQ w 1 K = chMv w mvs K := by
  unfold midL
  rw [if_neg (by decide),if_pos rfl,h]
  split
  · simp [chMv]
  · simp [chMv]
theorem midL_no (w : Int) (mvs : List Int) (K : Nat) : midL 0 w 1 mvs K = midL 0 w (-1) mvs K := by
  unfold midL; simp
theorem midL_yes {rc : Nat} (w : Int) (mvs : List Int) (K : Nat) (h : ¬ rc = 0) : midL rc w (-1) mvs K ++ chQ w (-1) K = midL rc w 1 mvs K := by
  unfold midL; simp [h]
theorem midL_end (rc : Nat) (w mv : Int) (mvs : List Int) (K : Nat) (h : 1 < mv) : midL rc w mv mvs K = chMv w mvs K := by
  unfold midL; rw [if_neg (by omega),if_neg (by omega)]
theorem midL_le {rc : Nat} {w mv : Int} {mvs : List Int} {K : Nat} (h2 : mvs.length ≤ 2) (h3 : K ≤ 1000) : (midL rc w mv mvs K).length ≤ 2000 := by
  unfold midL
  split
  · simp
  · split
    · split
      · simp
      · rw [chQ_len]; omega
    · exact chMv_le h2 h3
theorem l30Children_ok (m : Mach) (a : Int) (hm : vMach m = true) (h0 : 0 ≤ a) (h1 : a < m.ru.length) : Does Tryz.prog 43 [.one (.gv 0),.one (int a)] [.bx (maC m)] (.one (.gv 1)) [.bx (maC m),.row 3 (rows eMa ((chR m).map (chM m a)))] := by
  have hb := us_bd hm
  have hv := vMach_bd hm
  have hl := vMach_len hm
  have hml := chMvs_len m
  have hmv : chMvs m = if rcL m.ru = 0 then [1] else [-1,1] := by unfold chMvs; rfl
  have hR : chR m = chW (chMvs m) (min (usY m + 1) m.sy).toNat (min (usS m + 1) m.st).toNat := by unfold chR; rfl
  have hW1 : 1 ≤ min (usY m + 1) m.sy ∧ min (usY m + 1) m.sy ≤ 6 := by omega
  have hK1 : 1 ≤ min (usS m + 1) m.st ∧ min (usS m + 1) m.st ≤ 1000 := by omega
  generalize hWW : min (usY m + 1) m.sy = W at *
  generalize hKK : min (usS m + 1) m.st = K at *
  generalize chMvs m = mvs at *
  refine does_of (k := 1) Tryz.func43 rfl Tryz.ntmps43 rfl rfl fun w F0 S0 ρ0 => ?_
  dsimp only [argT,argH]
  repeat' first|(apply n3;exact a_nilO eMa rfl;exact rfl)|(apply n3;(exact a_litE eMa [] rfl rfl rfl rfl rfl rfl rfl rfl);exact rfl;refine dA ?_)|(apply p3;(exact pu1);exact rfl)|refine cd ?_|(apply c4 0;exact callK1 (θ := []) (hD := (l30Used_ok _ preB95));exact rfl;exact rfl;exact rfl;refine dM ?_)
  refine g_loop_id ?_
  refine loopK [0,1,4,5,6,7,8] [2] (fun y : Int × List Mach => 0 ≤ y.1 ∧ y.1 ≤ W ∧ y.2 = (chW mvs y.1.toNat K.toNat).map (chM m a)) (fun y => [(9,.one (int y.1))]) (fun y => [(2,.row 3 (rows eMa y.2))]) (fun y => (W - y.1).toNat) ((0 : Int),([] : List Mach)) [0,1,2] (hI := ?_) (hr := ?_)
  · exact ⟨by simp,by dsimp only; omega,by simp [chW]⟩
  · rintro ⟨w,out⟩ ⟨k0,k1,k2⟩
    dsimp only [List.cons_append,List.nil_append] at *
    skip
    repeat' first|(apply p3;(first|exact pu1|exact a_sub rfl rfl (by omega) (by omega)|exact puC);exact rfl)|refine cd ?_|(apply c4 0;exact callK1 (θ := []) (hD := (l00Min_ok _ _));exact rfl;exact rfl;exact rfl;refine dM ?_)|((refine g_cond rfl (fun hc => ?_) (fun hc => ?_)) <;> (try simp only [dcB] at hc) <;> (try first|contradiction|(exfalso;omega)))
    · refine g_loop_id ?_
      refine loopK [0,1,4,5,6,7,8,9,20,21,22,23,24,25,26,27,28] [2] (fun y : Int × List Mach => (y.1 = -1 ∨ y.1 = 1 ∨ y.1 = 3) ∧ y.2 = (chW mvs w.toNat K.toNat ++ midL (rcL m.ru) w y.1 mvs K.toNat).map (chM m a)) (fun y => [(10,.one (int y.1))]) (fun y => [(2,.row 3 (rows eMa y.2))]) (fun y => (3 - y.1).toNat) ((-1 : Int),out) [0,1,2] (hI := ?_) (hr := ?_)
      · exact ⟨by simp,by simp [midL,k2]⟩
      · rintro ⟨mv,out'⟩ ⟨j0,j1⟩
        dsimp only [List.cons_append,List.nil_append] at *
        skip
        repeat' first|(apply p3;(first|exact pu1|exact puC|exact a_add rfl rfl (by omega) (by omega));exact rfl)|refine cd ?_|refine o_no rfl rfl rfl rfl ?_|(apply py3;exact rfl;exact rfl;(first|exact pu1|exact puC);exact rfl;exact rfl)|((first|refine o_gs rfl rfl (fun hc => ?_) (fun hc => ?_)|refine g_cond rfl (fun hc => ?_) (fun hc => ?_)) <;> (try simp only [dcB] at hc) <;> (try first|contradiction|(exfalso;omega)))
        · refine q_again (mv + 2,out') [0,1,2] (by exact stk) ?_ ?_
          · refine ⟨by dsimp only; omega,?_⟩
            obtain rfl : mv = -1 := by omega
            have hz : rcL m.ru = 0 := by omega
            dsimp only
            rw [j1,hz,show (-1 : Int) + 2 = 1 by rfl,midL_no]
          · dsimp only; omega
        rotate_right
        · refine q_again (w + 1,out') [0,1,2] (by exact stk) ?_ ?_
          · refine ⟨by dsimp only; omega,by dsimp only; omega,?_⟩
            dsimp only
            rw [chW_nextI k0,j1,midL_end _ w mv mvs K.toNat (by omega)]
          · dsimp only; omega
        all_goals
          refine g_loop_id ?_
          refine loopK [0,1,4,5,6,7,8,9,10,20,21,22,23,24,25,26,27,28,31,32,35,36,37,38,39,40] [2] (fun y : Int × List Mach => 0 ≤ y.1 ∧ y.1 ≤ K ∧ y.2 = (chW mvs w.toNat K.toNat ++ midL (rcL m.ru) w mv mvs K.toNat ++ chQ w mv y.1.toNat).map (chM m a)) (fun y => [(11,.one (int y.1))]) (fun y => [(2,.row 3 (rows eMa y.2))]) (fun y => (K - y.1).toNat) ((0 : Int),out') [0,1,2] (hI := ?_) (hr := ?_)
          · exact ⟨by simp,by dsimp only; omega,by simp [chQ,j1]⟩
          · rintro ⟨q,o⟩ ⟨i0,i1,i2⟩
            dsimp only [List.cons_append,List.nil_append] at *
            skip
            repeat' first|(apply p3;(first|exact pu1|exact a_sub rfl rfl (by omega) (by omega)|exact puC|exact a_add rfl rfl (by omega) (by omega));exact rfl)|refine cdn ?_|refine g_reg (id := 11) ?_|refine g_reg (id := 8) ?_|(apply c4 0;exact callK1 (θ := []) (hD := (l00Min_ok _ _));exact rfl;exact rfl;exact rfl;refine dM ?_)|((refine g_cond rfl (fun hc => ?_) (fun hc => ?_)) <;> (try simp only [dcB] at hc) <;> (try first|contradiction|(exfalso;omega)))
            · have l1 := chW_le (mvs := mvs) (W := w.toNat) (K := K.toNat) (by omega) (by omega) (by omega)
              have l2 := midL_le (rc := rcL m.ru) (w := w) (mv := mv) (mvs := mvs) (K := K.toNat) (by omega) (by omega)
              have l3 : (o.length : Int) ≤ 16000 := by
                rw [i2,List.length_map,List.length_append,List.length_append,chQ_len]
                omega
              repeat' first|(apply n3;exact a_new (gb := .bx _) rfl;exact rfl;refine dA ?_)|(apply p3;(first|exact pu1|exact puI);exact rfl)|refine cdn ?_|refine g_reg (id := 13) ?_|refine g_reg (id := 14) ?_|(apply w3;(first|exact a_st_bx rfl rfl rfl rfl (fN rfl rfl) (Nat.le_of_ble_eq_true rfl) rfl|exact a_stE (E := eR) ⟨_,_,_⟩ rfl rfl rfl rfl (fN rfl rfl) bnd (by exact rfl));exact rfl;refine dS ?_)|(apply c4 1;exact callK1 (θ := []) (hD := (l05Own_ok _ preB95));exact rfl;exact rfl;exact rfl;refine dM ?_)
              refine g_turn (t_freeze (i := 3) rfl nowR) ?_
              repeat' first|(apply p3;(exact pu1);exact rfl)|refine cd ?_
              first | refine g_conv (t_leS 63 (.agg [int m.sy,int m.st,shR (m.ru.set a.toNat ⟨w,mv,q⟩)]) (by (repeat (first | exact SVLe.refl | refine SVLe.one ?_ | refine SVLe.agg ?_ | exact CsLe.nil | refine CsLe.cons ?_ ?_ | exact CLe.refl | exact CLe.sh rfl | exact CLe.nil (by decide))); first | done | fail)) ?_ | refine o_conv (t_leS 63 (.agg [int m.sy,int m.st,shR (m.ru.set a.toNat ⟨w,mv,q⟩)]) (by (repeat (first | exact SVLe.refl | refine SVLe.one ?_ | refine SVLe.agg ?_ | exact CsLe.nil | refine CsLe.cons ?_ ?_ | exact CLe.refl | exact CLe.sh rfl | exact CLe.nil (by decide))); first | done | fail)) ?_
              skip
              (apply n3; exact a_litE eMa [⟨m.sy,m.st,m.ru.set a.toNat ⟨w,mv,q⟩⟩] rfl rfl rfl rfl rfl rfl rfl rfl; exact rfl; refine dA ?_)
              repeat' first|(apply p3;(first|exact pu1|exact a_add rfl rfl (by omega) (by omega));exact rfl)|refine cd ?_|(apply s3;exact a_appE (fP rfl) rfl rfl rfl rfl nowR (by (simp;omega)) (by decide) (by decide) (by exact rfl);exact rfl;exact rfl)
              refine q_again (q + 1,_) [0,1,6] (by exact stk) ?_ ?_
              · refine ⟨by dsimp only; omega,by dsimp only; omega,?_⟩
                dsimp only
                rw [chQ_nextI i0,← List.append_assoc,List.map_append,← i2]
                unfold chM
                rfl
              · dsimp only; omega
            · refine q_again (mv + 2,o) [0,1,2] (by exact stk) ?_ ?_
              · refine ⟨by dsimp only; omega,?_⟩
                dsimp only
                rw [i2,show q = K by omega,List.append_assoc]
                have hmv1 : mv = -1 ∨ mv = 1 := by omega
                rcases hmv1 with e | e
                · rw [e,midL_yes w mvs K.toNat (by omega),show (-1 : Int) + 2 = 1 by rfl]
                · rw [e,midL_3 _ w mvs K.toNat hmv,midL_end _ w (1 + 2) mvs K.toNat (by decide)]
              · dsimp only; omega
    · have e : (chR m).map (chM m a) = out := by rw [hR,k2,show w = W by omega]
      rw [e]
      skip
      repeat refine cr ?_
      refine ends_id ?_
      refine endK [?_] (h2 := ?_) (h3 := ?_) (nd := ?_)
      rotate_left 1
      all_goals (repeat' first|exact ce0|refine ce ?_|refine ce2 ?_ ?_|(refine Or.inr (bx_eq rfl rfl ?_);(try dsimp only [C.ren,C.ren.all]);(try exact rfl))|exact SVLe.refl|refine ceb ?_)
      all_goals first | exact (show nodupB _ = true from rfl) | exact Or.inr rfl | (rfl)
abbrev mach0 : Mach := ⟨0,0,[]⟩
end Go.Proofs.YtighjcjmacajoaaGreatDoor
end
section
set_option linter.unusedVariables false
set_option linter.unusedSimpArgs false
set_option maxRecDepth 100000
set_option maxHeartbeats 4000000
namespace Go.Proofs.YtighjcjmacajoaaGreatDoor
open Go Foot
@[irreducible] def askT (s y B : Int) : Int := if inB s 1 6 = true ∧ inB y 2 6 = true ∧ inB B 1 20000 = true then 0 else 2
theorem ask_bd {s y B : Int} (h : askT s y B = 0) : (1 ≤ s ∧ s ≤ 6) ∧ (2 ≤ y ∧ y ≤ 6) ∧ 1 ≤ B ∧ B ≤ 20000 := by
  unfold askT at h
  split at h
  · rename_i hc
    simpa [inB] using hc
  · cases h
theorem l30Root_ok (st sy : Int) (h1 : 1 ≤ st) (h2 : st ≤ 6) (h3 : 2 ≤ sy) (h4 : sy ≤ 6) : Does Tryz.prog 40 [.one (int st),.one (int sy)] [] (.agg [int (root sy st).sy,int (root sy st).st,.gv 0]) [.row 3 (rows eR (root sy st).ru)] := by
  have hp1 : 0 ≤ st * sy := Int.mul_nonneg (by omega) (by omega)
  have hp2 : st * sy ≤ 6 * 6 := Int.mul_le_mul (by omega) (by omega) (by omega) (by omega)
  unfold root
  exact l30Empty_ok st sy (by omega) (by omega) (by omega) (by omega) hp1 (by omega)
end Go.Proofs.YtighjcjmacajoaaGreatDoor
end
section
set_option linter.unusedVariables false
set_option linter.unusedSimpArgs false
set_option maxRecDepth 100000
set_option maxHeartbeats 4000000
namespace Go.Proofs.YtighjcjmacajoaaGreatDoor
open Go Foot
theorem stp_some {B : Int} {m m' : Mach} {k : Int} (h : stp B m k = some m') : ndS m B = 0 ∧ 0 ≤ k ∧ k < (chR m).length := by
  unfold stp at h
  split at h
  · assumption
  · cases h
theorem pth_at {B sy st : Int} {rt m0 : Mach} {p : List Int} (hok : NdOk sy st rt) (hv : pth B rt p = some m0) (k : Nat) (hk : k < p.length) : ∃ m,pth B rt (p.take k) = some m ∧ NdOk sy st m ∧ ndS m B = 0 ∧ 0 ≤ p[k] ∧ p[k] < ((chR m).length : Int) := by
  have e : p = p.take k ++ p.drop k := (List.take_append_drop k p).symm
  rw [e,pth_app] at hv
  cases h1 : pth B rt (p.take k) with
  | none => rw [h1] at hv; cases hv
  | some m =>
    rw [h1,Option.bind_some,List.drop_eq_getElem_cons hk,pth] at hv
    cases h2 : stp B m p[k] with
    | none => rw [h2] at hv; cases hv
    | some m' =>
      have h3 := stp_some h2
      exact ⟨m,rfl,(pth_ok hok h1).1,h3.1,h3.2.1,h3.2.2⟩
theorem pth_len {B sy st : Int} {rt m0 : Mach} {p : List Int} (hok : NdOk sy st rt) (hv : pth B rt p = some m0) (h1 : sy ≤ 6) (h2 : st ≤ 6) (h3 : 0 ≤ st) (h4 : 0 ≤ sy) : p.length ≤ 36 := by
  obtain ⟨h,e⟩ := pth_ok hok hv
  have hl := (vMach_bd h.v).2.2
  rw [h.sy,h.st] at hl
  have h5 : sy * st ≤ 6 * 6 := Int.mul_le_mul (by omega) (by omega) (by omega) (by omega)
  have := rcL_le m0.ru
  omega
def asd (B : Int) (rt : Mach) (p : List Int) (least : Nat) : Nat → Option (List Int)
  | 0 => none
  | n + 1 => if n + 1 ≤ least then none else if ((pth B rt (p.take n)).bind fun m => stp B m (p.getD n 0 + 1)).isSome = true then some (p.take n ++ [p.getD n 0 + 1]) else asd B rt p least n
theorem asd_end {B : Int} {rt : Mach} {p : List Int} {least : Nat} {n : Int} (h : n.toNat ≤ least) : asd B rt p least n.toNat = none := by
  cases hn : n.toNat with
  | zero => rfl
  | succ k => rw [asd,if_pos (by omega)]
theorem asd_step {B : Int} {rt m : Mach} {p : List Int} {least : Nat} {n : Int} (h0 : 0 < n) (h1 : least < n.toNat) (hk : (n - 1).toNat < p.length) (hm : pth B rt (p.take (n - 1).toNat) = some m) : asd B rt p least n.toNat = if (stp B m (p[(n - 1).toNat] + 1)).isSome = true then some (p.take (n - 1).toNat ++ [p[(n - 1).toNat] + 1]) else asd B rt p least (n - 1).toNat := by
  have e : n.toNat = (n - 1).toNat + 1 := by omega
  rw [e,asd,if_neg (by omega),hm,Option.bind_some,List.getD_eq_getElem?_getD,List.getElem?_eq_getElem hk]
  rfl
@[irreducible] def nxt (B : Int) (rt m : Mach) (p : List Int) (least : Nat) : Option (List Int) := if ndS m B = 0 then some (p ++ [0]) else asd B rt p least p.length
end Go.Proofs.YtighjcjmacajoaaGreatDoor
end
section
set_option linter.unusedVariables false
set_option linter.unusedSimpArgs false
set_option maxRecDepth 100000
set_option maxHeartbeats 4000000
namespace Go.Proofs.YtighjcjmacajoaaGreatDoor
open Go Foot
def tre (B : Int) : Nat → List Int → Mach → List (List Int)
  | 0,q,_ => [q]
  | f + 1,q,x => q :: (if ndS x B = 0 then (List.range (chR x).length).flatMap fun (k : Nat) => tre B f (q ++ [((k : Nat) : Int)]) (chM x (ndA x B) ((chR x).getD k noR)) else [])
def trs (B : Int) (f : Nat) (q : List Int) (x : Mach) (n : Nat) : List (List Int) := (List.range n).flatMap fun (k : Nat) => tre B f (q ++ [((k : Nat) : Int)]) (chM x (ndA x B) ((chR x).getD k noR))
theorem trs_0 (B : Int) (f : Nat) (q : List Int) (x : Mach) : trs B f q x 0 = [] := rfl
theorem trs_next (B : Int) (f : Nat) (q : List Int) (x : Mach) (n : Nat) : trs B f q x (n + 1) = trs B f q x n ++ tre B f (q ++ [((n : Nat) : Int)]) (chM x (ndA x B) ((chR x).getD n noR)) := by
  unfold trs; rw [List.range_succ,List.flatMap_append]; simp
theorem tre_head (B : Int) : ∀ (f : Nat) (q : List Int) (x : Mach),∃ l,tre B f q x = q :: l
  | 0,q,x => ⟨[],rfl⟩
  | f + 1,q,x => ⟨_,rfl⟩
theorem tre_succ (B : Int) (f : Nat) (q : List Int) (x : Mach) : tre B (f + 1) q x = q :: (if ndS x B = 0 then trs B f q x (chR x).length else []) := rfl
theorem tre_len (B : Int) : ∀ (f : Nat) (q : List Int) (x : Mach),∀ p ∈ tre B f q x,p.length ≤ q.length + f
  | 0,q,x,p,h => by rw [tre,List.mem_singleton] at h; rw [h]; omega
  | f + 1,q,x,p,h => by
    rw [tre] at h
    rcases List.mem_cons.1 h with rfl | h
    · omega
    · split at h
      · obtain ⟨k,_,hk⟩ := List.mem_flatMap.1 h
        have := tre_len B f _ _ p hk
        simp at this
        omega
      · cases h
theorem stp_nat {B : Int} {x : Mach} {k : Nat} (hs : ndS x B = 0) (h : k < (chR x).length) : stp B x ((k : Nat) : Int) = some (chM x (ndA x B) ((chR x).getD k noR)) := by
  unfold stp
  rw [if_pos ⟨hs,by omega,by omega⟩]
  simp
theorem pth_child {B : Int} {rt x : Mach} {q : List Int} {k : Nat} (hq : pth B rt q = some x) (hs : ndS x B = 0) (h : k < (chR x).length) : pth B rt (q ++ [((k : Nat) : Int)]) = some (chM x (ndA x B) ((chR x).getD k noR)) := by
  rw [pth_app,hq,Option.bind_some,pth,stp_nat hs h]
  rfl
theorem tre_pth {B sy st : Int} {rt : Mach} (hrt : NdOk sy st rt) : ∀ (f : Nat) (q : List Int) (x : Mach),pth B rt q = some x → ∀ p ∈ tre B f q x,∃ y,pth B rt p = some y
  | 0,q,x,hq,p,h => by rw [tre,List.mem_singleton] at h; rw [h]; exact ⟨x,hq⟩
  | f + 1,q,x,hq,p,h => by
    rw [tre] at h
    rcases List.mem_cons.1 h with rfl | h
    · exact ⟨x,hq⟩
    · split at h
      · rename_i hs
        obtain ⟨k,hk1,hk⟩ := List.mem_flatMap.1 h
        exact tre_pth hrt f _ _ (pth_child hq hs (List.mem_range.1 hk1)) p hk
      · cases h
end Go.Proofs.YtighjcjmacajoaaGreatDoor
end
section
set_option linter.unusedVariables false
set_option linter.unusedSimpArgs false
set_option maxRecDepth 100000
set_option maxHeartbeats 4000000
namespace Go.Proofs.YtighjcjmacajoaaGreatDoor
open Go Foot
end Go.Proofs.YtighjcjmacajoaaGreatDoor
end
