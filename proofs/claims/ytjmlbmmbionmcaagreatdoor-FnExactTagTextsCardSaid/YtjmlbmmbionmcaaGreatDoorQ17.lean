/- Parts of the proof (17 of 20). -/
import Derived.Lib.AppendZerosOnto
import Derived.Test.YtjmlbmmbionmcaaGreatDoorQ16
section
set_option linter.unusedVariables false
set_option linter.unusedSimpArgs false
set_option maxRecDepth 100000
namespace Go.Proofs.YtjmlbmmbionmcaaGreatDoor
open Go Foot
section
variable {P : Program} {g : Gh} {st : St} {dst : Option Tmp} {ty : TypeId} {pos : String} {after : Array Edge} {guard : Option (Nat × Bool)} {x y : Operand}
theorem a_cap0 {T e : Nat} (hx : opd st x = .one nilC) (hu : P.underlying T = some (.slice e)) : Acts P g ⟨dst,.call { callee := .builtin .cap,args := #[x],argTypes := #[T] },ty,pos,after,guard⟩ st (.one (int 0)) [] [] := by
  refine acts_of fun a w S ρ F h => ⟨.int .i64 0,?_,⟨rfl,rfl⟩⟩
  have e := opd_sc h hx
  simp only [execOp,resolve,invoke,builtin]
  simp [e,builtin,Builtin.cap_,run_underlying hu,goInt]
theorem a_sl0 {T zz : Nat} {hi : Operand} (hx : opd st x = .one nilC) (hh : opd st hi = .one (int 0)) (hT : sliceB P T zz = true) : Acts P g ⟨dst,.slice T x none (some hi) none,ty,pos,after,guard⟩ st (.one nilC) [] [] := by
  refine acts_of fun a w S ρ F h => ⟨.slice none 0 0,?_,⟨rfl,rfl⟩⟩
  show (do pure (.value (← Instr.sliceAt T (a.eval x) ((none : Option Operand).map a.eval) ((some hi).map a.eval) ((none : Option Operand).map a.eval))) : Sem Next).run P w = _
  rw [opd_sc h hx]
  have := run_slice (P := P) (w := w) (T := T) (z := zz) (len := 0) (cap := 0) (l := 0) (u := 0) (ad := none) (lo := none) (hi := some (a.eval hi)) hT (.inl ⟨rfl,rfl⟩) (.inr ⟨.i64,by rw [opd_sc h hh]; rfl⟩) (Nat.le_refl _) (Nat.le_refl _) (Nat.le_refl _)
  simp at this
  simp [this]
theorem a_appZ {T Tn e zz bytes n i : Nat} {vs : List Value} {row : List D} {k1 kn : IntKind} {m : Int} (hu : P.underlying T = some (.slice e)) (hun : P.underlying Tn = some (.int kn)) (hT : zeroC P e = some vs) (hT2 : appB P T zz bytes = true) (hz0 : 0 < zz)
    (hx : opd st x = .one nilC) (hy : opd st y = .one (.d (.sc (.int k1 m)))) (hm : 0 < m) (hmn : m.toNat = n) (hn : m < 9223372036854775808) (hb : n * bytes ≤ 281474976710656) (hrow : repRow (vs.map scD) n = row) :
    Acts P g ⟨dst,.call { callee := .builtin .append,args := #[x,y],argTypes := #[T,Tn] },ty,pos,after,guard⟩ st (.one (.gv i)) [] [(i,.row zz row)] := by
  subst hrow
  have hmn' : m = (n : Int) := by omega
  subst hmn'
  refine ⟨fun a w S ρ F h hfr K Q hK => ?_⟩
  have hfr' : ρ i = none := by simpa using hfr _ (List.mem_singleton.2 rfl)
  clear hfr
  obtain ⟨inf,zv,hi,hz,rfl,hall⟩ := zeroC_spec hT
  unfold appB at hT2
  rw [hu] at hT2
  simp only [hi,hz,Bool.and_eq_true] at hT2
  obtain ⟨⟨hz1,hb1⟩,hz3⟩ := hT2
  have hz1 := Nat.eq_of_beq_eq_true hz1
  have hb1 := Nat.eq_of_beq_eq_true hb1
  have hz3 := Nat.eq_of_beq_eq_true hz3
  subst hz1 hb1
  have hnp : 0 < n := by omega
  have hnc : Builtin.nextslicecap (0 + n) 0 = n := by unfold Builtin.nextslicecap; rw [if_pos (by omega)]; omega
  have hrun := Lib.run_append_grow_zeros (P := P) w T Tn ty e inf zv k1 kn hu hun hi hz none 0 0 [] (by simp [Builtin.firstCells]) n hnp hz0 (by omega) (by omega) hb (by rw [hnc]; exact hb)
  have hge := grownCap_ge w (0 + n) 0 e
  have hrun2 : (execOp a.eval ⟨dst,.call { callee := .builtin .append,args := #[x,y],argTypes := #[T,Tn] },ty,pos,after,guard⟩).run P w = .ok (.value (.slice (some ⟨w.heap.size,0,none⟩) (0 + n) (grownCap w (0 + n) 0 e))) (w.drew.alloc (.cells ((#[] : Array Value) ++ Builtin.zeroCells zv.cells n ++ Builtin.zeroCells zv.cells (grownCap w (0 + n) 0 e - (0 + n))) e)) := by
    simp only [execOp,resolve,invoke,builtin]
    simp [opd_sc h hx,opd_sc h hy,builtin]
    simp at hrun
    rw [hrun]
    rfl
  refine oper_in (fun _ h => nomatch h) ?_
  rw [hrun2,Oper.uponIn_value]
  rw [Nat.zero_add] at hge ⊢
  generalize grownCap w n 0 e = c at *
  have hzr : (Builtin.zeroCells zv.cells n).toList = repRow zv.cells.toList n := by unfold Builtin.zeroCells; exact zero_row zv.cells n
  have hzs : zv.cells.toList.length = inf.size := by simpa using hz3
  have hallr : (repRow zv.cells.toList n).all Value.oneCell' = true := by
    rw [List.all_eq_true] at hall ⊢
    intro u hu
    simp only [repRow,List.mem_flatten,List.mem_replicate] at hu
    obtain ⟨l,⟨_,rfl⟩,hu⟩ := hu
    exact hall u hu
  have hrs := reps_sc (w := w) (S := S) hallr
  rw [repRow_map] at hrs
  have hk : Keeps no w (w.drew.alloc (.cells ((#[] : Array Value) ++ Builtin.zeroCells zv.cells n ++ Builtin.zeroCells zv.cells (c - n)) e)) := keeps_drew.trans (keeps_alloc _) (no_le _)
  have hcells : (w.drew.alloc (.cells ((#[] : Array Value) ++ Builtin.zeroCells zv.cells n ++ Builtin.zeroCells zv.cells (c - n)) e)).heap[w.heap.size]? = some (.cells ((#[] : Array Value) ++ Builtin.zeroCells zv.cells n ++ Builtin.zeroCells zv.cells (c - n)) e) := by
    rw [heap_alloc]
    exact Array.getElem?_push_size
  have hsz : (w.drew.alloc (.cells ((#[] : Array Value) ++ Builtin.zeroCells zv.cells n ++ Builtin.zeroCells zv.cells (c - n)) e)).heap.size = w.heap.size + 1 := by rw [heap_alloc,Array.size_push]; rfl
  have hfull : ((#[] : Array Value) ++ Builtin.zeroCells zv.cells n ++ Builtin.zeroCells zv.cells (c - n)).size = c * inf.size := by
    have hz4 : zv.cells.size = inf.size := hz3
    simp only [Array.size_append,size_zeroCells,hz4,Array.size_empty,Nat.zero_add,← Nat.add_mul]
    congr 1
    omega
  generalize w.drew.alloc (.cells ((#[] : Array Value) ++ Builtin.zeroCells zv.cells n ++ Builtin.zeroCells zv.cells (c - n)) e) = W at *
  have hrep : Rep W S (.sl true inf.size (repRow (zv.cells.toList.map scD) n)) (.slice (some ⟨w.heap.size,0,none⟩) n c) (rng w.heap.size 0 (c * inf.size)) := by
    simp only [Rep,if_true]
    refine ⟨_,n,c,rfl,by rw [repRow_len,List.length_map,hzs],hz0,hge,.inr ⟨w.heap.size,0,repRow zv.cells.toList n,no,rfl,?_,hrs.keep Agree.no (hk.agree h.exS (dis_no _)) (le_refl _) (le_refl _),le_refl _,no_le _,dis_no _,?_⟩⟩
    · intro k u hk'
      have hkl : k < (repRow zv.cells.toList n).length := (List.getElem?_eq_some_iff.1 hk').1
      rw [← hzr] at hkl hk'
      simp only [World.cell?,hcells]
      simp only [Nat.zero_add,Option.isSome_none,Bool.false_eq_true,if_false]
      rw [Array.getElem?_append_left (by simpa using hkl)]
      simpa using hk'
    · intro k hk'
      have : k < ((#[] : Array Value) ++ Builtin.zeroCells zv.cells n ++ Builtin.zeroCells zv.cells (c - n)).size := by rw [hfull]; exact hk'
      simp only [World.cell?,World.frozen?,hcells,Nat.zero_add]
      simp only [Option.isSome_none,Bool.false_eq_true,if_false]
      rw [Array.getElem?_eq_getElem this]
      simp
  refine hK _ _ no _ _ (Done.new (S1 := no) hk hfr' (fun ρ' hl _ => hrep) ?_) ⟨by simp,rfl⟩
  rintro b o ⟨rfl,_,_⟩
  exact ⟨Nat.le_refl _,by omega⟩
theorem a_appZI {T Tn e i : Nat} {k1 kn : IntKind} {m : Int} (hu : P.underlying T = some (.slice e)) (hun : P.underlying Tn = some (.int kn)) (hT : zeroC P e = some [.int .i64 0]) (hT2 : appB P T 1 8 = true)
    (hx : opd st x = .one nilC) (hy : opd st y = .one (.d (.sc (.int k1 m)))) (hm : 0 < m) (hn : m ≤ 16777216) :
    Acts P g ⟨dst,.call { callee := .builtin .append,args := #[x,y],argTypes := #[T,Tn] },ty,pos,after,guard⟩ st (.one (.gv i)) [] [(i,.row 1 (rows eI (List.replicate m.toNat 0)))] :=
  a_appZ hu hun hT hT2 (by decide) hx hy hm rfl (by omega) (by omega) (rows_rep eI 0 _)
end
end Go.Proofs.YtjmlbmmbionmcaaGreatDoor
end
section
set_option linter.unusedVariables false
set_option linter.unusedSimpArgs false
set_option maxRecDepth 100000
set_option maxHeartbeats 4000000
namespace Go.Proofs.YtjmlbmmbionmcaaGreatDoor
open Go Foot
theorem preB69 {p : Prop} (h : p := by first | with_reducible assumption | omega | (simp only [List.length_append,List.length_cons,List.length_nil,List.length_set,List.length_replicate,List.length_take,List.length_drop,List.length_tail,List.length_dropLast,List.length_reverse] at *; omega) | exact mem_len (by assumption) (by omega) | (with_reducible refine Int.le_trans (Int.ofNat_le.2 (trimR_len _)) ?_; simp only [List.length_cons,List.length_tail]; omega) | (exact (ruAt_ok (by assumption) (by assumption) (by assumption)).2.1) | (exact (ruAt_ok (by assumption) (by assumption) (by assumption)).2.1) | (have := vMach_bd (by assumption); omega) | (simp only [mC_ch,mC_tu]; omega) | (have := vTag_bd (by assumption); omega) | (have := (‹Gd _ _›).le; omega) | (exact tgHalts_no (by assumption)) | (exact tgHead (by assumption) (by assumption) (by assumption)) | (exact Int.le_trans (tgStep_gd (by assumption) (by assumption) (by assumption) (by assumption)).le (by decide)) | (exact vTag_r (by assumption)) | (with_reducible refine Int.le_trans (Int.ofNat_le.2 (pushL_len _ _)) ?_; simp only [List.length_dropLast]; omega) | exact ls_at (by assumption) (by omega) | exact pt_gd (by assumption) | exact lv_at (by assumption) (by omega) | exact pt_gd (lv_at (by assumption) (by omega)) | exact (ask_ok (by assumption)).1 | exact (ask_ok (by assumption)).2.1 | exact (ask_ok (by assumption)).2.2.1 | exact (ask_ok (by assumption)).2.2.2 | trivial) : p := h
theorem growI_ok (n : Int) (h0 : 0 ≤ n) (h1 : n ≤ 16777216) : Does Tryz.prog 189 [.one nilC,.one (int n)] [] (.one (.gv 0)) [roI []] := by
  refine does_of (k := 0) Tryz.func189 rfl Tryz.ntmps189 rfl rfl fun w F0 S0 ρ0 => ?_
  dsimp only [argT,argH]
  repeat' first|(apply n3;exact a_nilO eI rfl;exact rfl)|(apply p3;(first|exact pu1|exact puC|exact a_cap0 rfl (fE rfl)|exact a_sub rfl rfl (by omega) (by omega));exact rfl)|refine cdn ?_|refine g_reg (id := 0) ?_|refine g_reg (id := 1) ?_|refine g_reg (id := 3) ?_|refine g_reg (id := 4) ?_|((refine g_cond rfl (fun hc => ?_) (fun hc => ?_)) <;> (try simp only [dcB] at hc) <;> (try first|contradiction|(exfalso;omega)))
  · repeat' first|(apply n3;exact a_appZI (fE rfl) (fK rfl) (fZ rfl) (fP rfl) rfl rfl (by omega) (by omega);exact rfl;refine dA ?_)|(apply p3;(first|exact pu1|exact a_cap0 rfl (fE rfl)|exact a_sl0 rfl rfl (fS rfl));exact rfl)|refine cd ?_|(apply s3;exact a_slHO rfl rfl rfl (fS rfl) (by omega) (by omega) (by exact rfl) (by decide);exact rfl;exact rfl)
    repeat refine cr ?_
    refine ends_id ?_
    refine endK [?_] (h2 := ?_) (h3 := ?_) (nd := ?_)
    rotate_left 1
    all_goals (repeat' first|exact ce0|refine ce ?_|refine ce2 ?_ ?_|exact SVLe.refl|refine ceb ?_)
    all_goals first | exact (show nodupB _ = true from rfl) | exact Or.inr rfl | (rfl)
  · repeat' first|(apply n3;exact a_nilO eI rfl;exact rfl)|(apply p3;(exact pu1);exact rfl)|refine cd ?_
    repeat refine cr ?_
    refine ends_id ?_
    refine endK [?_] (h2 := ?_) (h3 := ?_) (nd := ?_)
    rotate_left 1
    all_goals (repeat' first|exact ce0|refine ce ?_|refine ce2 ?_ ?_|exact SVLe.refl|refine ceb ?_)
    all_goals first | exact (show nodupB _ = true from rfl) | exact Or.inr rfl | (rfl)
theorem concatI_ok (ls : List (List Int)) (hn : (ls.length : Int) ≤ 16777216) (hl : ∀ x ∈ ls,(x.length : Int) ≤ 16777216) (ht : (ls.flatten.length : Int) ≤ 16777216) : Does Tryz.prog 170 [.one (shW ls)] [] (.one (.gv 0)) [roI ls.flatten] := by
  have key : ∀ i : Nat,(ls.take i).flatten.length ≤ ls.flatten.length := fun i => by
    have := congrArg (fun l => l.flatten.length) (List.take_append_drop i ls)
    simp only [List.flatten_append,List.length_append] at this
    omega
  have nx : ∀ (i : Int) (h0 : 0 ≤ i) (h : i.toNat < ls.length),(ls.take (i + 1).toNat).flatten = (ls.take i.toNat).flatten ++ ls[i.toNat] := fun i h0 h => by
    rw [show (i + 1).toNat = i.toNat + 1 by omega,List.take_succ_eq_append_getElem h,List.flatten_append,List.flatten_cons,List.flatten_nil,List.append_nil]
  refine does_of (k := 0) Tryz.func170 rfl Tryz.ntmps170 rfl rfl fun w F0 S0 ρ0 => ?_
  dsimp only [argT,argH]
  repeat' first|(apply n3;exact a_nilO eI rfl;exact rfl)|(apply p3;(first|exact pu1|exact puN);exact rfl)|refine cd ?_
  refine g_loop_id ?_
  refine loopK [0,2,9,10] [] (fun y : Int × Int => 0 ≤ y.1 ∧ y.1 ≤ ls.length ∧ y.2 = (ls.take y.1.toNat).flatten.length) (fun y => [(11,.one (int y.1)),(3,.one (int y.2))]) (fun y => []) (fun y => (ls.length - y.1).toNat) ((0 : Int),(0 : Int)) [0] (hI := ?_) (hr := ?_)
  · exact ⟨by simp,by simp,by simp⟩
  · rintro ⟨i,s⟩ ⟨h0,h1,h2⟩
    dsimp only [List.cons_append,List.nil_append] at *
    skip
    repeat' first|(apply p3;(exact puC);exact rfl)|refine cdn ?_|refine g_reg (id := 3) ?_|((refine g_cond rfl (fun hc => ?_) (fun hc => ?_)) <;> (try simp only [dcB] at hc) <;> (try first|contradiction|(exfalso;omega)))
    · have hk := key i.toNat
      have hk2 := key (i + 1).toNat
      have hx := nx i h0 (by omega)
      have hv := hl _ (List.getElem_mem (show i.toNat < ls.length by omega))
      have hx2 := congrArg List.length hx
      rw [List.length_append] at hx2
      repeat' first|(apply p3;(first|exact pu1|exact puC|exact puN|exact a_add rfl rfl (by omega) (by omega)|exact puI);exact rfl)|refine cd ?_|((refine g_cond rfl (fun hc => ?_) (fun hc => ?_)) <;> (try simp only [dcB] at hc) <;> (try first|contradiction|(exfalso;omega)))
      refine q_again (i + 1,_) [0] (by exact stk) ?_ ?_
      · exact ⟨by dsimp only; omega,by dsimp only; omega,by dsimp only; omega⟩
      · dsimp only; omega
    · have hk := key i.toNat
      repeat' first|(apply p3;(first|exact pu1|exact puN);exact rfl)|refine cd ?_|(apply c4 1;exact callK1 (θ := []) (hD := (growI_ok _ preB69 preB69));exact rfl;exact rfl;exact rfl;refine dM ?_)
      refine g_loop_id ?_
      refine loopK [2,6,25,26] [1] (fun y : Int × List Int => 0 ≤ y.1 ∧ y.1 ≤ ls.length ∧ y.2 = (ls.take y.1.toNat).flatten) (fun y => [(27,.one (int y.1))]) (fun y => [(1,roI y.2)]) (fun y => (ls.length - y.1).toNat) ((0 : Int),([] : List Int)) [0,1] (hI := ?_) (hr := ?_)
      · exact ⟨by simp,by simp,by simp⟩
      · rintro ⟨j,o⟩ ⟨j0,j1,j2⟩
        dsimp only [List.cons_append,List.nil_append] at *
        skip
        repeat' first|(apply p3;(exact puC);exact rfl)|refine cdn ?_|refine g_reg (id := 11) ?_|((refine g_cond rfl (fun hc => ?_) (fun hc => ?_)) <;> (try simp only [dcB] at hc) <;> (try first|contradiction|(exfalso;omega)))
        · have hk2 := key (j + 1).toNat
          have hx := nx j j0 (by omega)
          have hv := hl _ (List.getElem_mem (show j.toNat < ls.length by omega))
          have hx2 := congrArg List.length hx
          rw [List.length_append] at hx2
          have hx3 := congrArg List.length j2
          repeat' first|(apply p3;(first|exact pu1|exact a_add rfl rfl (by omega) (by omega)|exact puI);exact rfl)|refine cd ?_|(apply s3;exact a_appE (fP rfl) rfl rfl rfl rfl nowR (by omega) (by decide) (by decide) (by exact rfl);exact rfl;exact rfl)
          refine q_again (j + 1,_) [0,2] (by exact stk) ?_ ?_
          · exact ⟨by dsimp only; omega,by dsimp only; omega,by dsimp only; rw [hx,j2]⟩
          · dsimp only; omega
        · rw [List.take_of_length_le (by omega)] at j2
          rw [← j2]
          repeat' first|(apply p3;(exact pu1);exact rfl)|refine cd ?_
          repeat refine cr ?_
          refine ends_id ?_
          refine endK [?_] (h2 := ?_) (h3 := ?_) (nd := ?_)
          rotate_left 1
          all_goals (repeat' first|exact ce0|refine ce ?_|refine ce2 ?_ ?_|exact SVLe.refl|refine ceb ?_)
          all_goals first | exact (show nodupB _ = true from rfl) | exact Or.inr rfl | (rfl)
structure JnOk (ls : List (List Int)) : Prop where
  n : (ls.length : Int) ≤ 16777216
  l : ∀ x ∈ ls,(x.length : Int) ≤ 16777216
  t : (ls.flatten.length : Int) ≤ 16777216
theorem jn_two {a b : List Int} (h : (a.length : Int) + b.length ≤ 16777216) : JnOk [a,b] := by
  refine ⟨by simp,fun x hx => ?_,by simp; omega⟩
  simp only [List.mem_cons,List.not_mem_nil,or_false] at hx
  rcases hx with rfl | rfl <;> omega
theorem joined_ok (ls : List (List Int)) (g : JnOk ls) : Does Tryz.prog 143 [.one (shW ls)] [] (.one (.gv 0)) [roI ls.flatten] := by
  obtain ⟨hn,hl,ht⟩ := g
  refine does_of (k := 0) Tryz.func143 rfl Tryz.ntmps143 rfl rfl fun w F0 S0 ρ0 => ?_
  dsimp only [argT,argH]
  repeat' first|(apply p3;exact pu1;exact rfl)|refine cd ?_|(apply c4 1;exact callK1 (θ := []) (hD := (concatI_ok _ preB69 preB69 preB69));exact rfl;exact rfl;exact rfl;refine dM ?_)
  repeat refine cr ?_
  refine ends_id ?_
  refine endK [?_] (h2 := ?_) (h3 := ?_) (nd := ?_)
  rotate_left 1
  all_goals (repeat' first|exact ce0|refine ce ?_|refine ce2 ?_ ?_|exact SVLe.refl|refine ceb ?_)
  all_goals first | exact (show nodupB _ = true from rfl) | exact Or.inr rfl | (rfl)
end Go.Proofs.YtjmlbmmbionmcaaGreatDoor
end
section
set_option linter.unusedVariables false
set_option linter.unusedSimpArgs false
set_option maxRecDepth 100000
set_option maxHeartbeats 1000000
namespace Go.Proofs.YtjmlbmmbionmcaaGreatDoor
open Go Foot Go.RowKit
@[irreducible] def dcQ (m : Mach) (w : List Int) (q : Nat) : Option Conf :=
  if (frA q w).2.2 = true then some ⟨q,btS (frA q w).1,btS (frA q w).2.1⟩
  else if (frB q 0 w).2.2 = true ∧ ruN m q 0 = noR then some ⟨q,btS (frB q 0 w).1,btS (2 * (frB q 0 w).2.1 + 0)⟩
  else if (frB q 1 w).2.2 = true ∧ ruN m q 1 = noR then some ⟨q,btS (frB q 1 w).1,btS (2 * (frB q 1 w).2.1 + 1)⟩ else none
def dcS (m : Mach) (w : List Int) : Nat → Nat → Option Conf
  | 0,_ => none
  | k + 1,q => match dcQ m w q with
    | some c => some c
    | none => dcS m w k (q + 1)
theorem dcS_0 {m : Mach} {w : List Int} {q : Nat} : dcS m w 0 q = none := rfl
theorem dcS_n {m : Mach} {w : List Int} {k q : Nat} (h : dcQ m w q = none) : dcS m w (k + 1) q = dcS m w k (q + 1) := by rw [dcS,h]
theorem dcS_c {m : Mach} {w : List Int} {k q : Nat} {c : Conf} (h : dcQ m w q = some c) : dcS m w (k + 1) q = some c := by rw [dcS,h]
@[irreducible] def dcI (m : Mach) (w : List Int) : Option Conf :=
  if (w.length : Int) = 0 ∨ w.headD 0 = 0 then none
  else if w = shA ((w.headD 0 - 1) / 30) (w.count (2 + 30 * ((w.headD 0 - 1) / 30))) (w.count (4 + 30 * ((w.headD 0 - 1) / 30))) then some ⟨(w.headD 0 - 1) / 30,btS (w.count (2 + 30 * ((w.headD 0 - 1) / 30)) : Nat),btS (w.count (4 + 30 * ((w.headD 0 - 1) / 30)) : Nat)⟩
  else if ruN m ((w.headD 0 - 1) / 30).toNat 0 = noR ∧ w = shB ((w.headD 0 - 1) / 30) 0 (w.count (12 + 30 * ((w.headD 0 - 1) / 30))) (w.count (16 + 30 * ((w.headD 0 - 1) / 30))) then some ⟨(w.headD 0 - 1) / 30,btS (w.count (12 + 30 * ((w.headD 0 - 1) / 30)) : Nat),btS (2 * (w.count (16 + 30 * ((w.headD 0 - 1) / 30)) : Nat) + 0)⟩
  else if ruN m ((w.headD 0 - 1) / 30).toNat 1 = noR ∧ w = shB ((w.headD 0 - 1) / 30) 1 (w.count (12 + 30 * ((w.headD 0 - 1) / 30))) (w.count (16 + 30 * ((w.headD 0 - 1) / 30))) then some ⟨(w.headD 0 - 1) / 30,btS (w.count (12 + 30 * ((w.headD 0 - 1) / 30)) : Nat),btS (2 * (w.count (16 + 30 * ((w.headD 0 - 1) / 30)) : Nat) + 1)⟩
  else none
theorem frA_hd {q : Int} {w : List Int} (h : (frA q w).2.2 = true) : w.headD 0 = 1 + 30 * q := by
  obtain ⟨a,b,_,e⟩ := frA_fw h
  rw [e,shA_hd]
theorem frB_hd {q : Int} {v : Nat} {w : List Int} (h : (frB q v w).2.2 = true) : w.headD 0 = 9 + 30 * q ∨ w.headD 0 = 10 + 30 * q := by
  obtain ⟨a,b,_,e⟩ := frB_fw h
  rw [e,shB_hd]
  split <;> simp
theorem dcQ_hd {m : Mach} {w : List Int} {q : Nat} (h : dcQ m w q ≠ none) : w.headD 0 = 1 + 30 * q ∨ w.headD 0 = 9 + 30 * q ∨ w.headD 0 = 10 + 30 * q := by
  unfold dcQ at h
  by_cases h1 : (frA q w).2.2 = true
  · exact .inl (frA_hd h1)
  · rw [if_neg h1] at h
    by_cases h2 : (frB q 0 w).2.2 = true ∧ ruN m q 0 = noR
    · exact .inr (frB_hd (v := 0) h2.1)
    · rw [if_neg h2] at h
      by_cases h3 : (frB q 1 w).2.2 = true ∧ ruN m q 1 = noR
      · exact .inr (frB_hd (v := 1) h3.1)
      · rw [if_neg h3] at h
        exact absurd rfl h
theorem dcS_none {m : Mach} {w : List Int} : ∀ {k q : Nat},(∀ j,q ≤ j → dcQ m w j = none) → dcS m w k q = none
  | 0,q,h => rfl
  | k + 1,q,h => by rw [dcS_n (h q (Nat.le_refl _)),dcS_none (fun j hj => h j (by omega))]
theorem dcS_at {m : Mach} {w : List Int} {p : Nat} (h : ∀ j,j ≠ p → dcQ m w j = none) : ∀ {k q : Nat},q ≤ p → p < q + k → dcS m w k q = dcQ m w p
  | 0,q,h1,h2 => by omega
  | k + 1,q,h1,h2 => by
    by_cases e : q = p
    · subst e
      cases hc : dcQ m w q with
      | none => rw [dcS_n hc,dcS_none (fun j hj => h j (by omega))]
      | some c => rw [dcS_c hc]
    · rw [dcS_n (h q e),dcS_at h (by omega) (by omega)]
theorem dec_at {m : Mach} {w : List Int} {q : Nat} (hn : ¬ ((w.length : Int) = 0 ∨ w.headD 0 = 0)) (hq : (w.headD 0 - 1) / 30 = q) : dcQ m w q = dcI m w := by
  unfold dcQ dcI
  rw [if_neg hn,hq,Int.toNat_natCast]
  have hq0 : (0 : Int) ≤ q := by omega
  by_cases h1 : (frA q w).2.2 = true
  · obtain ⟨a,b,e1,e2⟩ := frA_fw h1
    have hc := shA_ca (q := (q : Int)) hq0 (a := a) (b := b)
    rw [← e2] at hc
    rw [if_pos h1,hc.1,hc.2,if_pos e2,e1]
  · have n1 : ¬ w = shA q (w.count (2 + 30 * (q : Int))) (w.count (4 + 30 * (q : Int))) := fun e => by
      rw [e,frA_bw] at h1
      exact h1 rfl
    rw [if_neg h1,if_neg n1]
    have two : ∀ (v : Nat),((frB q v w).2.2 = true ↔ w = shB q v (w.count (12 + 30 * (q : Int))) (w.count (16 + 30 * (q : Int)))) ∧ ((frB q v w).2.2 = true → (frB q v w).1 = (w.count (12 + 30 * (q : Int)) : Nat) ∧ (frB q v w).2.1 = (w.count (16 + 30 * (q : Int)) : Nat)) := fun v => by
      constructor
      · constructor
        · intro h
          obtain ⟨a,b,e1,e2⟩ := frB_fw h
          have hc := shB_ca (q := (q : Int)) hq0 (v := v) (a := a) (b := b)
          rw [← e2] at hc
          rw [hc.1,hc.2]
          exact e2
        · intro e
          rw [e,frB_bw]
      · intro h
        obtain ⟨a,b,e1,e2⟩ := frB_fw h
        have hc := shB_ca (q := (q : Int)) hq0 (v := v) (a := a) (b := b)
        rw [← e2] at hc
        rw [hc.1,hc.2,e1]
        exact ⟨rfl,rfl⟩
    have t0 := two 0
    have t1 := two 1
    by_cases h2 : (frB q 0 w).2.2 = true ∧ ruN m q 0 = noR
    · have h5 := t0.2 h2.1
      rw [if_pos h2,if_pos ⟨h2.2,t0.1.1 h2.1⟩]
      simp only [Int.natCast_zero] at h5
      rw [h5.1,h5.2]
    · have n2 : ¬ (ruN m q 0 = noR ∧ w = shB q 0 (w.count (12 + 30 * (q : Int))) (w.count (16 + 30 * (q : Int)))) := fun e => h2 ⟨t0.1.2 e.2,e.1⟩
      rw [if_neg h2,if_neg n2]
      by_cases h3 : (frB q 1 w).2.2 = true ∧ ruN m q 1 = noR
      · have h5 := t1.2 h3.1
        rw [if_pos h3,if_pos ⟨h3.2,t1.1.1 h3.1⟩]
        have e1 : (((1 : Nat) : Int)) = 1 := rfl
        rw [e1] at h5
        rw [h5.1,h5.2]
      · have n3 : ¬ (ruN m q 1 = noR ∧ w = shB q 1 (w.count (12 + 30 * (q : Int))) (w.count (16 + 30 * (q : Int)))) := fun e => h3 ⟨t1.1.2 e.2,e.1⟩
        rw [if_neg h3,if_neg n3]
theorem dec_same {m : Mach} {w : List Int} (hs : 0 ≤ m.st) (hw : ∀ y ∈ w,0 ≤ y ∧ y ≤ 30 * m.st) : dcS m w m.st.toNat 0 = dcI m w := by
  by_cases hn : (w.length : Int) = 0 ∨ w.headD 0 = 0
  · have h0 : w.headD 0 = 0 := by
      rcases hn with h | h
      · have : w = [] := List.length_eq_zero_iff.1 (by omega)
        rw [this]
        rfl
      · exact h
    rw [dcS_none (fun j _ => Classical.byContradiction fun e => by have := dcQ_hd e; omega)]
    unfold dcI
    rw [if_pos hn]
  · have hh : 1 ≤ w.headD 0 ∧ w.headD 0 ≤ 30 * m.st := by
      cases w with
      | nil => exact absurd (Or.inl rfl) hn
      | cons x w =>
        have h1 := hw x (by simp)
        have h2 : ¬ x = 0 := fun e => hn (Or.inr e)
        show 1 ≤ x ∧ x ≤ 30 * m.st
        omega
    have hq : (w.headD 0 - 1) / 30 = (((w.headD 0 - 1) / 30).toNat : Int) := by omega
    rw [dcS_at (p := ((w.headD 0 - 1) / 30).toNat) (fun j hj => Classical.byContradiction fun e => by have := dcQ_hd e; omega) (by omega) (by omega),dec_at hn hq]
theorem dcI_gd {m : Mach} {w : List Int} {c : Conf} (hl : w.length ≤ 1000) (h : dcI m w = some c) : (∀ x ∈ c.le,0 ≤ x ∧ x ≤ 1) ∧ (∀ x ∈ c.ri,0 ≤ x ∧ x ≤ 1) ∧ (c.le.length : Int) ≤ 3000 ∧ (c.ri.length : Int) ≤ 3000 := by
  have cl : ∀ x : Int,w.count x ≤ 1000 := fun x => Nat.le_trans List.count_le_length hl
  have key : ∀ (n k : Int) (q : Int),n ≤ 3000 → k ≤ 3000 → c = ⟨q,btS n,btS k⟩ → (∀ x ∈ c.le,0 ≤ x ∧ x ≤ 1) ∧ (∀ x ∈ c.ri,0 ≤ x ∧ x ≤ 1) ∧ (c.le.length : Int) ≤ 3000 ∧ (c.ri.length : Int) ≤ 3000 := by
    intro n k q hn hk e
    subst e
    have l1 := btS_len n
    have l2 := btS_len k
    exact ⟨fun x hx => btS_bit hx,fun x hx => btS_bit hx,by dsimp only; omega,by dsimp only; omega⟩
  unfold dcI at h
  by_cases h0 : (w.length : Int) = 0 ∨ w.headD 0 = 0
  · rw [if_pos h0] at h; cases h
  · rw [if_neg h0] at h
    generalize (w.headD 0 - 1) / 30 = q at h
    have c1 := cl (2 + 30 * q)
    have c2 := cl (4 + 30 * q)
    have c3 := cl (12 + 30 * q)
    have c4 := cl (16 + 30 * q)
    generalize w.count (2 + 30 * q) = n1 at *
    generalize w.count (4 + 30 * q) = n2 at *
    generalize w.count (12 + 30 * q) = n3 at *
    generalize w.count (16 + 30 * q) = n4 at *
    split at h
    · injection h with h; exact key _ _ _ (by omega) (by omega) h.symm
    · split at h
      · injection h with h; exact key _ _ _ (by omega) (by omega) h.symm
      · split at h
        · injection h with h; exact key _ _ _ (by omega) (by omega) h.symm
        · cases h
end Go.Proofs.YtjmlbmmbionmcaaGreatDoor
end
section
set_option linter.unusedVariables false
set_option linter.unusedSimpArgs false
set_option maxRecDepth 100000
set_option maxHeartbeats 1000000
namespace Go.Proofs.YtjmlbmmbionmcaaGreatDoor
open Go Foot Go.RowKit
def rlW (r : Rule') (s : Int) : List (List Int) := (rlN r s).map fun ns => wdN ns r.n
theorem rlW_len (r : Rule') (s : Int) : (rlW r s).length = 4 := by unfold rlW; rw [List.length_map,rlN_len]
theorem rlW_get {r : Rule'} {s : Int} {i : Nat} (hr : r ≠ noR) (hi : i < (rlW r s).length) : (rlW r s)[i] = rwN r s i := by
  have h4 := rlN_len r s
  have hi' : i < (rlN r s).length := by rw [rlW_len] at hi; omega
  rw [rwN_get hr,← get_getD (rlN r s) [] i hi']
  have e : ∀ (h : i < ((rlN r s).map fun ns => wdN ns r.n).length),((rlN r s).map fun ns => wdN ns r.n)[i] = wdN (rlN r s)[i] r.n := fun h => List.getElem_map _
  exact e (by rw [List.length_map]; exact hi')
theorem preB193 {p : Prop} (h : p := by first | with_reducible assumption | omega | (simp only [List.length_append,List.length_cons,List.length_nil,List.length_set,List.length_replicate,List.length_take,List.length_drop,List.length_tail,List.length_dropLast,List.length_reverse] at *; omega) | exact mem_len (by assumption) (by omega) | (with_reducible refine Int.le_trans (Int.ofNat_le.2 (trimR_len _)) ?_; simp only [List.length_cons,List.length_tail]; omega) | (exact (ruAt_ok (by assumption) (by assumption) (by assumption)).2.1) | (exact (ruAt_ok (by assumption) (by assumption) (by assumption)).2.1) | (have := vMach_bd (by assumption); omega) | (simp only [mC_ch,mC_tu]; omega) | (have := vTag_bd (by assumption); omega) | (have := (‹Gd _ _›).le; omega) | (exact tgHalts_no (by assumption)) | (exact tgHead (by assumption) (by assumption) (by assumption)) | (exact Int.le_trans (tgStep_gd (by assumption) (by assumption) (by assumption) (by assumption)).le (by decide)) | (exact vTag_r (by assumption)) | (with_reducible refine Int.le_trans (Int.ofNat_le.2 (pushL_len _ _)) ?_; simp only [List.length_dropLast]; omega) | exact ls_at (by assumption) (by omega) | exact pt_gd (by assumption) | exact lv_at (by assumption) (by omega) | exact pt_gd (lv_at (by assumption) (by omega)) | exact (ask_ok (by assumption)).1 | exact (ask_ok (by assumption)).2.1 | exact (ask_ok (by assumption)).2.2.1 | exact (ask_ok (by assumption)).2.2.2 | trivial) : p := h
theorem l15Ruled_ok (r : Rule') (s : Int) (h0 : -1000 ≤ r.n) (h1 : r.n ≤ 1000000) : Does Tryz.prog 132 [.agg (ruC r),.one (int s)] [] (.one (.gv 0)) [roW (rlW r s)] := by
  have hr : rlW r s = if 0 < r.m then [wdN ((if s = 0 then [xN] else []) ++ [[65],xN] ++ (if r.w = 1 then [[97],xN] else [])) r.n,wdN [[97],xN,[97],xN] r.n,wdN [[66],xN] r.n,wdN [[98],xN] r.n] else [wdN ((if s = 0 then [xN] else []) ++ [[69]]) r.n,wdN [[101]] r.n,wdN ([[70,49],[70,48]] ++ (if r.w = 1 then [[102,49],[102,48],[102,49],[102,48]] else [])) r.n,wdN [[102,49],[102,48],[102,49],[102,48],[102,49],[102,48],[102,49],[102,48]] r.n] := by
    unfold rlW rlN
    split <;> rfl
  rw [hr]
  by_cases hm : 0 < r.m
  · rw [if_pos hm]
    by_cases hs : s = 0
    · rw [if_pos hs]
      by_cases hw : r.w = 1
      · rw [if_pos hw]
        refine does_of (k := 0) Tryz.func132 rfl Tryz.ntmps132 rfl rfl fun w F0 S0 ρ0 => ?_
        dsimp only [argT,argH]
        repeat' first|(apply n3;exact a_nilO eWo rfl;exact rfl)|(apply n3;(first|exact a_new (gb := .bx _) rfl|exact a_litE eS [] rfl rfl rfl rfl rfl rfl rfl rfl|exact a_litE eS [_] rfl rfl rfl rfl rfl rfl rfl rfl|exact a_litE eS [_,_] rfl rfl rfl rfl rfl rfl rfl rfl|exact a_litE eS [_,_,_,_,_,_,_,_] rfl rfl rfl rfl rfl rfl rfl rfl|exact a_litE eS [_,_,_,_] rfl rfl rfl rfl rfl rfl rfl rfl);exact rfl;refine dA ?_)|(apply p3;(first|exact pu1|exact puC);exact rfl)|refine cd ?_|(apply s3;exact a_appE (fP rfl) rfl rfl rfl rfl nowR (by (simp <;> omega)) (by decide) (by decide) (by exact rfl);exact rfl;exact rfl)|(apply g_drN (id := 17) okM [[],[],[1],[0,1,2],[],[],[5],[0,1,2,3,4,5,6],[],[],[9],[0,1,2,3,4,5,6,7,8,9,10],[],[],[13],[0,1,2,3,4,5,6,7,8,9,10,11,12,13,14],[0,1,2,3,4,5,6,7,8,9,10,11,12,13,14,15],[0,1,2,3,4,5,6,7,8,9,10,11,12,13,14,15,16]] [([],[]),([],[]),([],[]),([],[]),([],[]),([],[]),([],[]),([],[]),([],[]),([],[]),([],[]),([],[]),([],[]),([],[]),([],[]),([],[]),([0],[]),([],[])] 1;(focus (refine dp 0 0 [43,44,46,47,48,50,51,52,54,55,56] [] pu1 ?_;refine dp 1 0 [42,46,47,48,50,51,52,54,55,56] [] (a_pure (sv := .one _) rfl) ?_;refine dp 2 1 [42,46,47,48,50,51,52,54,55,56] [] puL ?_;refine dp 3 7 [46,47,48,50,51,52,54,55,56] [] (callFD 0 (hD := (l15Word_ok _ _ preB193 preB193 preB193))) ?_;refine dp 4 0 [42,43,44,45,47,48,50,51,52,54,55,56] [] pu1 ?_;refine dp 5 0 [42,43,44,45,46,50,51,52,54,55,56] [] (a_pure (sv := .one _) rfl) ?_;refine dp 6 1 [42,43,44,45,46,50,51,52,54,55,56] [] puL ?_;refine dp 7 127 [50,51,52,54,55,56] [] (callFD 0 (hD := (l15Word_ok _ _ preB193 preB193 preB193))) ?_;refine dp 8 0 [42,43,44,45,46,47,48,49,51,52,54,55,56] [] pu1 ?_;refine dp 9 0 [42,43,44,45,46,47,48,49,50,54,55,56] [] (a_pure (sv := .one _) rfl) ?_;refine dp 10 1 [42,43,44,45,46,47,48,49,50,54,55,56] [] puL ?_;refine dp 11 2047 [54,55,56] [] (callFD 0 (hD := (l15Word_ok _ _ preB193 preB193 preB193))) ?_;refine dp 12 0 [42,43,44,45,46,47,48,49,50,51,52,53,55,56] [] pu1 ?_;refine dp 13 0 [42,43,44,45,46,47,48,49,50,51,52,53,54] [] (a_pure (sv := .one _) rfl) ?_;refine dp 14 1 [42,43,44,45,46,47,48,49,50,51,52,53,54] [] puL ?_;refine dp 15 32767 [] [] (callFD 0 (hD := (l15Word_ok _ _ preB193 preB193 preB193))) ?_;refine duE 16 65535 [] [] (atN 0 (fun _ => a_litE eW [_,_,_,_] rfl rfl rfl rfl rfl rfl rfl rfl)) (by exact rfl) (by exact rfl) ?_;refine dp 17 131071 [] [] pu1 ?_;(refine d_nil ?_;refine dN ?_)));any_goals kernel_rfl)|((refine g_cond rfl (fun hc => ?_) (fun hc => ?_)) <;> (try simp only [dcB] at hc) <;> (try first|contradiction|(exfalso;omega)))|fail
        repeat refine cr ?_
        refine ends_id ?_
        refine endK [?_] (h2 := ?_) (h3 := ?_) (nd := ?_)
        rotate_left 1
        all_goals (repeat' first|exact ce0|refine ce ?_|refine ce2 ?_ ?_|(refine Or.inr (bx_eq rfl rfl ?_);(try dsimp only [C.ren,C.ren.all]);(try exact rfl))|exact SVLe.refl|refine ceb ?_)
        all_goals first | exact (show nodupB _ = true from rfl) | exact Or.inr rfl | (rfl)
      · rw [if_neg hw]
        refine does_of (k := 0) Tryz.func132 rfl Tryz.ntmps132 rfl rfl fun w F0 S0 ρ0 => ?_
        dsimp only [argT,argH]
        repeat' first|(apply n3;exact a_nilO eWo rfl;exact rfl)|(apply n3;(first|exact a_new (gb := .bx _) rfl|exact a_litE eS [] rfl rfl rfl rfl rfl rfl rfl rfl|exact a_litE eS [_] rfl rfl rfl rfl rfl rfl rfl rfl|exact a_litE eS [_,_] rfl rfl rfl rfl rfl rfl rfl rfl|exact a_litE eS [_,_,_,_,_,_,_,_] rfl rfl rfl rfl rfl rfl rfl rfl|exact a_litE eS [_,_,_,_] rfl rfl rfl rfl rfl rfl rfl rfl);exact rfl;refine dA ?_)|(apply p3;(first|exact pu1|exact puC);exact rfl)|refine cd ?_|(apply s3;exact a_appE (fP rfl) rfl rfl rfl rfl nowR (by (simp <;> omega)) (by decide) (by decide) (by exact rfl);exact rfl;exact rfl)|(apply g_drN (id := 17) okM [[],[],[1],[0,1,2],[],[],[5],[0,1,2,3,4,5,6],[],[],[9],[0,1,2,3,4,5,6,7,8,9,10],[],[],[13],[0,1,2,3,4,5,6,7,8,9,10,11,12,13,14],[0,1,2,3,4,5,6,7,8,9,10,11,12,13,14,15],[0,1,2,3,4,5,6,7,8,9,10,11,12,13,14,15,16]] [([],[]),([],[]),([],[]),([],[]),([],[]),([],[]),([],[]),([],[]),([],[]),([],[]),([],[]),([],[]),([],[]),([],[]),([],[]),([],[]),([0],[]),([],[])] 1;(focus (refine dp 0 0 [43,44,46,47,48,50,51,52,54,55,56] [] pu1 ?_;refine dp 1 0 [42,46,47,48,50,51,52,54,55,56] [] (a_pure (sv := .one _) rfl) ?_;refine dp 2 1 [42,46,47,48,50,51,52,54,55,56] [] puL ?_;refine dp 3 7 [46,47,48,50,51,52,54,55,56] [] (callFD 0 (hD := (l15Word_ok _ _ preB193 preB193 preB193))) ?_;refine dp 4 0 [42,43,44,45,47,48,50,51,52,54,55,56] [] pu1 ?_;refine dp 5 0 [42,43,44,45,46,50,51,52,54,55,56] [] (a_pure (sv := .one _) rfl) ?_;refine dp 6 1 [42,43,44,45,46,50,51,52,54,55,56] [] puL ?_;refine dp 7 127 [50,51,52,54,55,56] [] (callFD 0 (hD := (l15Word_ok _ _ preB193 preB193 preB193))) ?_;refine dp 8 0 [42,43,44,45,46,47,48,49,51,52,54,55,56] [] pu1 ?_;refine dp 9 0 [42,43,44,45,46,47,48,49,50,54,55,56] [] (a_pure (sv := .one _) rfl) ?_;refine dp 10 1 [42,43,44,45,46,47,48,49,50,54,55,56] [] puL ?_;refine dp 11 2047 [54,55,56] [] (callFD 0 (hD := (l15Word_ok _ _ preB193 preB193 preB193))) ?_;refine dp 12 0 [42,43,44,45,46,47,48,49,50,51,52,53,55,56] [] pu1 ?_;refine dp 13 0 [42,43,44,45,46,47,48,49,50,51,52,53,54] [] (a_pure (sv := .one _) rfl) ?_;refine dp 14 1 [42,43,44,45,46,47,48,49,50,51,52,53,54] [] puL ?_;refine dp 15 32767 [] [] (callFD 0 (hD := (l15Word_ok _ _ preB193 preB193 preB193))) ?_;refine duE 16 65535 [] [] (atN 0 (fun _ => a_litE eW [_,_,_,_] rfl rfl rfl rfl rfl rfl rfl rfl)) (by exact rfl) (by exact rfl) ?_;refine dp 17 131071 [] [] pu1 ?_;(refine d_nil ?_;refine dN ?_)));any_goals kernel_rfl)|((refine g_cond rfl (fun hc => ?_) (fun hc => ?_)) <;> (try simp only [dcB] at hc) <;> (try first|contradiction|(exfalso;omega)))|fail
        repeat refine cr ?_
        refine ends_id ?_
        refine endK [?_] (h2 := ?_) (h3 := ?_) (nd := ?_)
        rotate_left 1
        all_goals (repeat' first|exact ce0|refine ce ?_|refine ce2 ?_ ?_|(refine Or.inr (bx_eq rfl rfl ?_);(try dsimp only [C.ren,C.ren.all]);(try exact rfl))|exact SVLe.refl|refine ceb ?_)
        all_goals first | exact (show nodupB _ = true from rfl) | exact Or.inr rfl | (rfl)
    · rw [if_neg hs]
      by_cases hw : r.w = 1
      · rw [if_pos hw]
        refine does_of (k := 0) Tryz.func132 rfl Tryz.ntmps132 rfl rfl fun w F0 S0 ρ0 => ?_
        dsimp only [argT,argH]
        repeat' first|(apply n3;exact a_nilO eWo rfl;exact rfl)|(apply n3;(first|exact a_new (gb := .bx _) rfl|exact a_litE eS [] rfl rfl rfl rfl rfl rfl rfl rfl|exact a_litE eS [_] rfl rfl rfl rfl rfl rfl rfl rfl|exact a_litE eS [_,_] rfl rfl rfl rfl rfl rfl rfl rfl|exact a_litE eS [_,_,_,_,_,_,_,_] rfl rfl rfl rfl rfl rfl rfl rfl|exact a_litE eS [_,_,_,_] rfl rfl rfl rfl rfl rfl rfl rfl);exact rfl;refine dA ?_)|(apply p3;(first|exact pu1|exact puC);exact rfl)|refine cd ?_|(apply s3;exact a_appE (fP rfl) rfl rfl rfl rfl nowR (by (simp <;> omega)) (by decide) (by decide) (by exact rfl);exact rfl;exact rfl)|(apply g_drN (id := 17) okM [[],[],[1],[0,1,2],[],[],[5],[0,1,2,3,4,5,6],[],[],[9],[0,1,2,3,4,5,6,7,8,9,10],[],[],[13],[0,1,2,3,4,5,6,7,8,9,10,11,12,13,14],[0,1,2,3,4,5,6,7,8,9,10,11,12,13,14,15],[0,1,2,3,4,5,6,7,8,9,10,11,12,13,14,15,16]] [([],[]),([],[]),([],[]),([],[]),([],[]),([],[]),([],[]),([],[]),([],[]),([],[]),([],[]),([],[]),([],[]),([],[]),([],[]),([],[]),([0],[]),([],[])] 1;(focus (refine dp 0 0 [43,44,46,47,48,50,51,52,54,55,56] [] pu1 ?_;refine dp 1 0 [42,46,47,48,50,51,52,54,55,56] [] (a_pure (sv := .one _) rfl) ?_;refine dp 2 1 [42,46,47,48,50,51,52,54,55,56] [] puL ?_;refine dp 3 7 [46,47,48,50,51,52,54,55,56] [] (callFD 0 (hD := (l15Word_ok _ _ preB193 preB193 preB193))) ?_;refine dp 4 0 [42,43,44,45,47,48,50,51,52,54,55,56] [] pu1 ?_;refine dp 5 0 [42,43,44,45,46,50,51,52,54,55,56] [] (a_pure (sv := .one _) rfl) ?_;refine dp 6 1 [42,43,44,45,46,50,51,52,54,55,56] [] puL ?_;refine dp 7 127 [50,51,52,54,55,56] [] (callFD 0 (hD := (l15Word_ok _ _ preB193 preB193 preB193))) ?_;refine dp 8 0 [42,43,44,45,46,47,48,49,51,52,54,55,56] [] pu1 ?_;refine dp 9 0 [42,43,44,45,46,47,48,49,50,54,55,56] [] (a_pure (sv := .one _) rfl) ?_;refine dp 10 1 [42,43,44,45,46,47,48,49,50,54,55,56] [] puL ?_;refine dp 11 2047 [54,55,56] [] (callFD 0 (hD := (l15Word_ok _ _ preB193 preB193 preB193))) ?_;refine dp 12 0 [42,43,44,45,46,47,48,49,50,51,52,53,55,56] [] pu1 ?_;refine dp 13 0 [42,43,44,45,46,47,48,49,50,51,52,53,54] [] (a_pure (sv := .one _) rfl) ?_;refine dp 14 1 [42,43,44,45,46,47,48,49,50,51,52,53,54] [] puL ?_;refine dp 15 32767 [] [] (callFD 0 (hD := (l15Word_ok _ _ preB193 preB193 preB193))) ?_;refine duE 16 65535 [] [] (atN 0 (fun _ => a_litE eW [_,_,_,_] rfl rfl rfl rfl rfl rfl rfl rfl)) (by exact rfl) (by exact rfl) ?_;refine dp 17 131071 [] [] pu1 ?_;(refine d_nil ?_;refine dN ?_)));any_goals kernel_rfl)|((refine g_cond rfl (fun hc => ?_) (fun hc => ?_)) <;> (try simp only [dcB] at hc) <;> (try first|contradiction|(exfalso;omega)))|fail
        repeat refine cr ?_
        refine ends_id ?_
        refine endK [?_] (h2 := ?_) (h3 := ?_) (nd := ?_)
        rotate_left 1
        all_goals (repeat' first|exact ce0|refine ce ?_|refine ce2 ?_ ?_|(refine Or.inr (bx_eq rfl rfl ?_);(try dsimp only [C.ren,C.ren.all]);(try exact rfl))|exact SVLe.refl|refine ceb ?_)
        all_goals first | exact (show nodupB _ = true from rfl) | exact Or.inr rfl | (rfl)
      · rw [if_neg hw]
        refine does_of (k := 0) Tryz.func132 rfl Tryz.ntmps132 rfl rfl fun w F0 S0 ρ0 => ?_
        dsimp only [argT,argH]
        repeat' first|(apply n3;exact a_nilO eWo rfl;exact rfl)|(apply n3;(first|exact a_new (gb := .bx _) rfl|exact a_litE eS [] rfl rfl rfl rfl rfl rfl rfl rfl|exact a_litE eS [_] rfl rfl rfl rfl rfl rfl rfl rfl|exact a_litE eS [_,_] rfl rfl rfl rfl rfl rfl rfl rfl|exact a_litE eS [_,_,_,_,_,_,_,_] rfl rfl rfl rfl rfl rfl rfl rfl|exact a_litE eS [_,_,_,_] rfl rfl rfl rfl rfl rfl rfl rfl);exact rfl;refine dA ?_)|(apply p3;(first|exact pu1|exact puC);exact rfl)|refine cd ?_|(apply s3;exact a_appE (fP rfl) rfl rfl rfl rfl nowR (by (simp <;> omega)) (by decide) (by decide) (by exact rfl);exact rfl;exact rfl)|(apply g_drN (id := 17) okM [[],[],[1],[0,1,2],[],[],[5],[0,1,2,3,4,5,6],[],[],[9],[0,1,2,3,4,5,6,7,8,9,10],[],[],[13],[0,1,2,3,4,5,6,7,8,9,10,11,12,13,14],[0,1,2,3,4,5,6,7,8,9,10,11,12,13,14,15],[0,1,2,3,4,5,6,7,8,9,10,11,12,13,14,15,16]] [([],[]),([],[]),([],[]),([],[]),([],[]),([],[]),([],[]),([],[]),([],[]),([],[]),([],[]),([],[]),([],[]),([],[]),([],[]),([],[]),([0],[]),([],[])] 1;(focus (refine dp 0 0 [43,44,46,47,48,50,51,52,54,55,56] [] pu1 ?_;refine dp 1 0 [42,46,47,48,50,51,52,54,55,56] [] (a_pure (sv := .one _) rfl) ?_;refine dp 2 1 [42,46,47,48,50,51,52,54,55,56] [] puL ?_;refine dp 3 7 [46,47,48,50,51,52,54,55,56] [] (callFD 0 (hD := (l15Word_ok _ _ preB193 preB193 preB193))) ?_;refine dp 4 0 [42,43,44,45,47,48,50,51,52,54,55,56] [] pu1 ?_;refine dp 5 0 [42,43,44,45,46,50,51,52,54,55,56] [] (a_pure (sv := .one _) rfl) ?_;refine dp 6 1 [42,43,44,45,46,50,51,52,54,55,56] [] puL ?_;refine dp 7 127 [50,51,52,54,55,56] [] (callFD 0 (hD := (l15Word_ok _ _ preB193 preB193 preB193))) ?_;refine dp 8 0 [42,43,44,45,46,47,48,49,51,52,54,55,56] [] pu1 ?_;refine dp 9 0 [42,43,44,45,46,47,48,49,50,54,55,56] [] (a_pure (sv := .one _) rfl) ?_;refine dp 10 1 [42,43,44,45,46,47,48,49,50,54,55,56] [] puL ?_;refine dp 11 2047 [54,55,56] [] (callFD 0 (hD := (l15Word_ok _ _ preB193 preB193 preB193))) ?_;refine dp 12 0 [42,43,44,45,46,47,48,49,50,51,52,53,55,56] [] pu1 ?_;refine dp 13 0 [42,43,44,45,46,47,48,49,50,51,52,53,54] [] (a_pure (sv := .one _) rfl) ?_;refine dp 14 1 [42,43,44,45,46,47,48,49,50,51,52,53,54] [] puL ?_;refine dp 15 32767 [] [] (callFD 0 (hD := (l15Word_ok _ _ preB193 preB193 preB193))) ?_;refine duE 16 65535 [] [] (atN 0 (fun _ => a_litE eW [_,_,_,_] rfl rfl rfl rfl rfl rfl rfl rfl)) (by exact rfl) (by exact rfl) ?_;refine dp 17 131071 [] [] pu1 ?_;(refine d_nil ?_;refine dN ?_)));any_goals kernel_rfl)|((refine g_cond rfl (fun hc => ?_) (fun hc => ?_)) <;> (try simp only [dcB] at hc) <;> (try first|contradiction|(exfalso;omega)))|fail
        repeat refine cr ?_
        refine ends_id ?_
        refine endK [?_] (h2 := ?_) (h3 := ?_) (nd := ?_)
        rotate_left 1
        all_goals (repeat' first|exact ce0|refine ce ?_|refine ce2 ?_ ?_|(refine Or.inr (bx_eq rfl rfl ?_);(try dsimp only [C.ren,C.ren.all]);(try exact rfl))|exact SVLe.refl|refine ceb ?_)
        all_goals first | exact (show nodupB _ = true from rfl) | exact Or.inr rfl | (rfl)
  · rw [if_neg hm]
    by_cases hs : s = 0
    · rw [if_pos hs]
      by_cases hw : r.w = 1
      · rw [if_pos hw]
        refine does_of (k := 0) Tryz.func132 rfl Tryz.ntmps132 rfl rfl fun w F0 S0 ρ0 => ?_
        dsimp only [argT,argH]
        repeat' first|(apply n3;exact a_nilO eWo rfl;exact rfl)|(apply n3;(first|exact a_new (gb := .bx _) rfl|exact a_litE eS [] rfl rfl rfl rfl rfl rfl rfl rfl|exact a_litE eS [_] rfl rfl rfl rfl rfl rfl rfl rfl|exact a_litE eS [_,_] rfl rfl rfl rfl rfl rfl rfl rfl|exact a_litE eS [_,_,_,_,_,_,_,_] rfl rfl rfl rfl rfl rfl rfl rfl|exact a_litE eS [_,_,_,_] rfl rfl rfl rfl rfl rfl rfl rfl);exact rfl;refine dA ?_)|(apply p3;(first|exact pu1|exact puC);exact rfl)|refine cd ?_|(apply s3;exact a_appE (fP rfl) rfl rfl rfl rfl nowR (by (simp <;> omega)) (by decide) (by decide) (by exact rfl);exact rfl;exact rfl)|(apply g_drN (id := 17) okM [[],[],[1],[0,1,2],[],[],[5],[0,1,2,3,4,5,6],[],[],[9],[0,1,2,3,4,5,6,7,8,9,10],[],[],[13],[0,1,2,3,4,5,6,7,8,9,10,11,12,13,14],[0,1,2,3,4,5,6,7,8,9,10,11,12,13,14,15],[0,1,2,3,4,5,6,7,8,9,10,11,12,13,14,15,16]] [([],[]),([],[]),([],[]),([],[]),([],[]),([],[]),([],[]),([],[]),([],[]),([],[]),([],[]),([],[]),([],[]),([],[]),([],[]),([],[]),([0],[]),([],[])] 1;(focus (refine dp 0 0 [43,44,46,47,48,50,51,52,54,55,56] [] pu1 ?_;refine dp 1 0 [42,46,47,48,50,51,52,54,55,56] [] (a_pure (sv := .one _) rfl) ?_;refine dp 2 1 [42,46,47,48,50,51,52,54,55,56] [] puL ?_;refine dp 3 7 [46,47,48,50,51,52,54,55,56] [] (callFD 0 (hD := (l15Word_ok _ _ preB193 preB193 preB193))) ?_;refine dp 4 0 [42,43,44,45,47,48,50,51,52,54,55,56] [] pu1 ?_;refine dp 5 0 [42,43,44,45,46,50,51,52,54,55,56] [] (a_pure (sv := .one _) rfl) ?_;refine dp 6 1 [42,43,44,45,46,50,51,52,54,55,56] [] puL ?_;refine dp 7 127 [50,51,52,54,55,56] [] (callFD 0 (hD := (l15Word_ok _ _ preB193 preB193 preB193))) ?_;refine dp 8 0 [42,43,44,45,46,47,48,49,51,52,54,55,56] [] pu1 ?_;refine dp 9 0 [42,43,44,45,46,47,48,49,50,54,55,56] [] (a_pure (sv := .one _) rfl) ?_;refine dp 10 1 [42,43,44,45,46,47,48,49,50,54,55,56] [] puL ?_;refine dp 11 2047 [54,55,56] [] (callFD 0 (hD := (l15Word_ok _ _ preB193 preB193 preB193))) ?_;refine dp 12 0 [42,43,44,45,46,47,48,49,50,51,52,53,55,56] [] pu1 ?_;refine dp 13 0 [42,43,44,45,46,47,48,49,50,51,52,53,54] [] (a_pure (sv := .one _) rfl) ?_;refine dp 14 1 [42,43,44,45,46,47,48,49,50,51,52,53,54] [] puL ?_;refine dp 15 32767 [] [] (callFD 0 (hD := (l15Word_ok _ _ preB193 preB193 preB193))) ?_;refine duE 16 65535 [] [] (atN 0 (fun _ => a_litE eW [_,_,_,_] rfl rfl rfl rfl rfl rfl rfl rfl)) (by exact rfl) (by exact rfl) ?_;refine dp 17 131071 [] [] pu1 ?_;(refine d_nil ?_;refine dN ?_)));any_goals kernel_rfl)|((refine g_cond rfl (fun hc => ?_) (fun hc => ?_)) <;> (try simp only [dcB] at hc) <;> (try first|contradiction|(exfalso;omega)))|fail
        repeat refine cr ?_
        refine ends_id ?_
        refine endK [?_] (h2 := ?_) (h3 := ?_) (nd := ?_)
        rotate_left 1
        all_goals (repeat' first|exact ce0|refine ce ?_|refine ce2 ?_ ?_|(refine Or.inr (bx_eq rfl rfl ?_);(try dsimp only [C.ren,C.ren.all]);(try exact rfl))|exact SVLe.refl|refine ceb ?_)
        all_goals first | exact (show nodupB _ = true from rfl) | exact Or.inr rfl | (rfl)
      · rw [if_neg hw]
        refine does_of (k := 0) Tryz.func132 rfl Tryz.ntmps132 rfl rfl fun w F0 S0 ρ0 => ?_
        dsimp only [argT,argH]
        repeat' first|(apply n3;exact a_nilO eWo rfl;exact rfl)|(apply n3;(first|exact a_new (gb := .bx _) rfl|exact a_litE eS [] rfl rfl rfl rfl rfl rfl rfl rfl|exact a_litE eS [_] rfl rfl rfl rfl rfl rfl rfl rfl|exact a_litE eS [_,_] rfl rfl rfl rfl rfl rfl rfl rfl|exact a_litE eS [_,_,_,_,_,_,_,_] rfl rfl rfl rfl rfl rfl rfl rfl);exact rfl;refine dA ?_)|(apply p3;(first|exact pu1|exact puC);exact rfl)|refine cd ?_|(apply s3;exact a_appE (fP rfl) rfl rfl rfl rfl nowR (by (simp <;> omega)) (by decide) (by decide) (by exact rfl);exact rfl;exact rfl)|(apply g_drN (id := 17) okM [[],[],[1],[0,1,2],[],[],[5],[0,1,2,3,4,5,6],[],[],[9],[0,1,2,3,4,5,6,7,8,9,10],[],[],[13],[0,1,2,3,4,5,6,7,8,9,10,11,12,13,14],[0,1,2,3,4,5,6,7,8,9,10,11,12,13,14,15],[0,1,2,3,4,5,6,7,8,9,10,11,12,13,14,15,16]] [([],[]),([],[]),([],[]),([],[]),([],[]),([],[]),([],[]),([],[]),([],[]),([],[]),([],[]),([],[]),([],[]),([],[]),([],[]),([],[]),([0],[]),([],[])] 1;(focus (refine dp 0 0 [43,44,46,47,48,50,51,52,54,55,56] [] pu1 ?_;refine dp 1 0 [42,46,47,48,50,51,52,54,55,56] [] (a_pure (sv := .one _) rfl) ?_;refine dp 2 1 [42,46,47,48,50,51,52,54,55,56] [] puL ?_;refine dp 3 7 [46,47,48,50,51,52,54,55,56] [] (callFD 0 (hD := (l15Word_ok _ _ preB193 preB193 preB193))) ?_;refine dp 4 0 [42,43,44,45,47,48,50,51,52,54,55,56] [] pu1 ?_;refine dp 5 0 [42,43,44,45,46,50,51,52,54,55,56] [] (a_pure (sv := .one _) rfl) ?_;refine dp 6 1 [42,43,44,45,46,50,51,52,54,55,56] [] puL ?_;refine dp 7 127 [50,51,52,54,55,56] [] (callFD 0 (hD := (l15Word_ok _ _ preB193 preB193 preB193))) ?_;refine dp 8 0 [42,43,44,45,46,47,48,49,51,52,54,55,56] [] pu1 ?_;refine dp 9 0 [42,43,44,45,46,47,48,49,50,54,55,56] [] (a_pure (sv := .one _) rfl) ?_;refine dp 10 1 [42,43,44,45,46,47,48,49,50,54,55,56] [] puL ?_;refine dp 11 2047 [54,55,56] [] (callFD 0 (hD := (l15Word_ok _ _ preB193 preB193 preB193))) ?_;refine dp 12 0 [42,43,44,45,46,47,48,49,50,51,52,53,55,56] [] pu1 ?_;refine dp 13 0 [42,43,44,45,46,47,48,49,50,51,52,53,54] [] (a_pure (sv := .one _) rfl) ?_;refine dp 14 1 [42,43,44,45,46,47,48,49,50,51,52,53,54] [] puL ?_;refine dp 15 32767 [] [] (callFD 0 (hD := (l15Word_ok _ _ preB193 preB193 preB193))) ?_;refine duE 16 65535 [] [] (atN 0 (fun _ => a_litE eW [_,_,_,_] rfl rfl rfl rfl rfl rfl rfl rfl)) (by exact rfl) (by exact rfl) ?_;refine dp 17 131071 [] [] pu1 ?_;(refine d_nil ?_;refine dN ?_)));any_goals kernel_rfl)|((refine g_cond rfl (fun hc => ?_) (fun hc => ?_)) <;> (try simp only [dcB] at hc) <;> (try first|contradiction|(exfalso;omega)))|fail
        repeat refine cr ?_
        refine ends_id ?_
        refine endK [?_] (h2 := ?_) (h3 := ?_) (nd := ?_)
        rotate_left 1
        all_goals (repeat' first|exact ce0|refine ce ?_|refine ce2 ?_ ?_|(refine Or.inr (bx_eq rfl rfl ?_);(try dsimp only [C.ren,C.ren.all]);(try exact rfl))|exact SVLe.refl|refine ceb ?_)
        all_goals first | exact (show nodupB _ = true from rfl) | exact Or.inr rfl | (rfl)
    · rw [if_neg hs]
      by_cases hw : r.w = 1
      · rw [if_pos hw]
        refine does_of (k := 0) Tryz.func132 rfl Tryz.ntmps132 rfl rfl fun w F0 S0 ρ0 => ?_
        dsimp only [argT,argH]
        repeat' first|(apply n3;exact a_nilO eWo rfl;exact rfl)|(apply n3;(first|exact a_new (gb := .bx _) rfl|exact a_litE eS [] rfl rfl rfl rfl rfl rfl rfl rfl|exact a_litE eS [_] rfl rfl rfl rfl rfl rfl rfl rfl|exact a_litE eS [_,_] rfl rfl rfl rfl rfl rfl rfl rfl|exact a_litE eS [_,_,_,_,_,_,_,_] rfl rfl rfl rfl rfl rfl rfl rfl|exact a_litE eS [_,_,_,_] rfl rfl rfl rfl rfl rfl rfl rfl);exact rfl;refine dA ?_)|(apply p3;(first|exact pu1|exact puC);exact rfl)|refine cd ?_|(apply s3;exact a_appE (fP rfl) rfl rfl rfl rfl nowR (by (simp <;> omega)) (by decide) (by decide) (by exact rfl);exact rfl;exact rfl)|(apply g_drN (id := 17) okM [[],[],[1],[0,1,2],[],[],[5],[0,1,2,3,4,5,6],[],[],[9],[0,1,2,3,4,5,6,7,8,9,10],[],[],[13],[0,1,2,3,4,5,6,7,8,9,10,11,12,13,14],[0,1,2,3,4,5,6,7,8,9,10,11,12,13,14,15],[0,1,2,3,4,5,6,7,8,9,10,11,12,13,14,15,16]] [([],[]),([],[]),([],[]),([],[]),([],[]),([],[]),([],[]),([],[]),([],[]),([],[]),([],[]),([],[]),([],[]),([],[]),([],[]),([],[]),([0],[]),([],[])] 1;(focus (refine dp 0 0 [43,44,46,47,48,50,51,52,54,55,56] [] pu1 ?_;refine dp 1 0 [42,46,47,48,50,51,52,54,55,56] [] (a_pure (sv := .one _) rfl) ?_;refine dp 2 1 [42,46,47,48,50,51,52,54,55,56] [] puL ?_;refine dp 3 7 [46,47,48,50,51,52,54,55,56] [] (callFD 0 (hD := (l15Word_ok _ _ preB193 preB193 preB193))) ?_;refine dp 4 0 [42,43,44,45,47,48,50,51,52,54,55,56] [] pu1 ?_;refine dp 5 0 [42,43,44,45,46,50,51,52,54,55,56] [] (a_pure (sv := .one _) rfl) ?_;refine dp 6 1 [42,43,44,45,46,50,51,52,54,55,56] [] puL ?_;refine dp 7 127 [50,51,52,54,55,56] [] (callFD 0 (hD := (l15Word_ok _ _ preB193 preB193 preB193))) ?_;refine dp 8 0 [42,43,44,45,46,47,48,49,51,52,54,55,56] [] pu1 ?_;refine dp 9 0 [42,43,44,45,46,47,48,49,50,54,55,56] [] (a_pure (sv := .one _) rfl) ?_;refine dp 10 1 [42,43,44,45,46,47,48,49,50,54,55,56] [] puL ?_;refine dp 11 2047 [54,55,56] [] (callFD 0 (hD := (l15Word_ok _ _ preB193 preB193 preB193))) ?_;refine dp 12 0 [42,43,44,45,46,47,48,49,50,51,52,53,55,56] [] pu1 ?_;refine dp 13 0 [42,43,44,45,46,47,48,49,50,51,52,53,54] [] (a_pure (sv := .one _) rfl) ?_;refine dp 14 1 [42,43,44,45,46,47,48,49,50,51,52,53,54] [] puL ?_;refine dp 15 32767 [] [] (callFD 0 (hD := (l15Word_ok _ _ preB193 preB193 preB193))) ?_;refine duE 16 65535 [] [] (atN 0 (fun _ => a_litE eW [_,_,_,_] rfl rfl rfl rfl rfl rfl rfl rfl)) (by exact rfl) (by exact rfl) ?_;refine dp 17 131071 [] [] pu1 ?_;(refine d_nil ?_;refine dN ?_)));any_goals kernel_rfl)|((refine g_cond rfl (fun hc => ?_) (fun hc => ?_)) <;> (try simp only [dcB] at hc) <;> (try first|contradiction|(exfalso;omega)))|fail
        repeat refine cr ?_
        refine ends_id ?_
        refine endK [?_] (h2 := ?_) (h3 := ?_) (nd := ?_)
        rotate_left 1
        all_goals (repeat' first|exact ce0|refine ce ?_|refine ce2 ?_ ?_|(refine Or.inr (bx_eq rfl rfl ?_);(try dsimp only [C.ren,C.ren.all]);(try exact rfl))|exact SVLe.refl|refine ceb ?_)
        all_goals first | exact (show nodupB _ = true from rfl) | exact Or.inr rfl | (rfl)
      · rw [if_neg hw]
        refine does_of (k := 0) Tryz.func132 rfl Tryz.ntmps132 rfl rfl fun w F0 S0 ρ0 => ?_
        dsimp only [argT,argH]
        repeat' first|(apply n3;exact a_nilO eWo rfl;exact rfl)|(apply n3;(first|exact a_new (gb := .bx _) rfl|exact a_litE eS [] rfl rfl rfl rfl rfl rfl rfl rfl|exact a_litE eS [_] rfl rfl rfl rfl rfl rfl rfl rfl|exact a_litE eS [_,_] rfl rfl rfl rfl rfl rfl rfl rfl|exact a_litE eS [_,_,_,_,_,_,_,_] rfl rfl rfl rfl rfl rfl rfl rfl);exact rfl;refine dA ?_)|(apply p3;(first|exact pu1|exact puC);exact rfl)|refine cd ?_|(apply s3;exact a_appE (fP rfl) rfl rfl rfl rfl nowR (by (simp <;> omega)) (by decide) (by decide) (by exact rfl);exact rfl;exact rfl)|(apply g_drN (id := 17) okM [[],[],[1],[0,1,2],[],[],[5],[0,1,2,3,4,5,6],[],[],[9],[0,1,2,3,4,5,6,7,8,9,10],[],[],[13],[0,1,2,3,4,5,6,7,8,9,10,11,12,13,14],[0,1,2,3,4,5,6,7,8,9,10,11,12,13,14,15],[0,1,2,3,4,5,6,7,8,9,10,11,12,13,14,15,16]] [([],[]),([],[]),([],[]),([],[]),([],[]),([],[]),([],[]),([],[]),([],[]),([],[]),([],[]),([],[]),([],[]),([],[]),([],[]),([],[]),([0],[]),([],[])] 1;(focus (refine dp 0 0 [43,44,46,47,48,50,51,52,54,55,56] [] pu1 ?_;refine dp 1 0 [42,46,47,48,50,51,52,54,55,56] [] (a_pure (sv := .one _) rfl) ?_;refine dp 2 1 [42,46,47,48,50,51,52,54,55,56] [] puL ?_;refine dp 3 7 [46,47,48,50,51,52,54,55,56] [] (callFD 0 (hD := (l15Word_ok _ _ preB193 preB193 preB193))) ?_;refine dp 4 0 [42,43,44,45,47,48,50,51,52,54,55,56] [] pu1 ?_;refine dp 5 0 [42,43,44,45,46,50,51,52,54,55,56] [] (a_pure (sv := .one _) rfl) ?_;refine dp 6 1 [42,43,44,45,46,50,51,52,54,55,56] [] puL ?_;refine dp 7 127 [50,51,52,54,55,56] [] (callFD 0 (hD := (l15Word_ok _ _ preB193 preB193 preB193))) ?_;refine dp 8 0 [42,43,44,45,46,47,48,49,51,52,54,55,56] [] pu1 ?_;refine dp 9 0 [42,43,44,45,46,47,48,49,50,54,55,56] [] (a_pure (sv := .one _) rfl) ?_;refine dp 10 1 [42,43,44,45,46,47,48,49,50,54,55,56] [] puL ?_;refine dp 11 2047 [54,55,56] [] (callFD 0 (hD := (l15Word_ok _ _ preB193 preB193 preB193))) ?_;refine dp 12 0 [42,43,44,45,46,47,48,49,50,51,52,53,55,56] [] pu1 ?_;refine dp 13 0 [42,43,44,45,46,47,48,49,50,51,52,53,54] [] (a_pure (sv := .one _) rfl) ?_;refine dp 14 1 [42,43,44,45,46,47,48,49,50,51,52,53,54] [] puL ?_;refine dp 15 32767 [] [] (callFD 0 (hD := (l15Word_ok _ _ preB193 preB193 preB193))) ?_;refine duE 16 65535 [] [] (atN 0 (fun _ => a_litE eW [_,_,_,_] rfl rfl rfl rfl rfl rfl rfl rfl)) (by exact rfl) (by exact rfl) ?_;refine dp 17 131071 [] [] pu1 ?_;(refine d_nil ?_;refine dN ?_)));any_goals kernel_rfl)|((refine g_cond rfl (fun hc => ?_) (fun hc => ?_)) <;> (try simp only [dcB] at hc) <;> (try first|contradiction|(exfalso;omega)))|fail
        repeat refine cr ?_
        refine ends_id ?_
        refine endK [?_] (h2 := ?_) (h3 := ?_) (nd := ?_)
        rotate_left 1
        all_goals (repeat' first|exact ce0|refine ce ?_|refine ce2 ?_ ?_|(refine Or.inr (bx_eq rfl rfl ?_);(try dsimp only [C.ren,C.ren.all]);(try exact rfl))|exact SVLe.refl|refine ceb ?_)
        all_goals first | exact (show nodupB _ = true from rfl) | exact Or.inr rfl | (rfl)
end Go.Proofs.YtjmlbmmbionmcaaGreatDoor
end
section
set_option linter.unusedVariables false
set_option linter.unusedSimpArgs false
set_option maxRecDepth 100000
set_option maxHeartbeats 1000000
namespace Go.Proofs.YtjmlbmmbionmcaaGreatDoor
open Go Foot Go.RowKit
@[irreducible] def tmY (m : Mach) : Tg := if m.st ≤ 6 then tmT m else ⟨2,[[]],[]⟩
theorem tmY_ok {m : Mach} (h : m.st ≤ 6) : tmY m = tmT m := by unfold tmY; rw [if_pos h]
theorem tmY_no {m : Mach} (h : ¬ m.st ≤ 6) : tmY m = ⟨2,[[]],[]⟩ := by unfold tmY; rw [if_neg h]
theorem b0N_get {q : Int} {i : Nat} (h : i < 30) : (b0N q)[i]'(by rw [b0N_len]; exact h) = if i < 8 ∨ 16 ≤ i then fxN q i else [] := by
  unfold b0N
  rw [List.getElem_map,List.getElem_range]
theorem b0N_take {q : Int} {i : Int} (h0 : 0 ≤ i) (h : i < 30) : (b0N q).take (i + 1).toNat = (b0N q).take i.toNat ++ [if i.toNat < 8 ∨ 16 ≤ i.toNat then fxN q i.toNat else []] := by
  rw [show (i + 1).toNat = i.toNat + 1 by omega,List.take_succ_eq_append_getElem (by rw [b0N_len]; omega),b0N_get (by omega)]
theorem fxN_get {q : Int} {i : Nat} (h : i < nmL.length) : fxN q i = wdN (fixN nmL[i]) q := by unfold fxN; rw [← get_getD nmL [] i h]
theorem ruN_get {m : Mach} {q s : Int} (h0 : 0 ≤ q) (h1 : 0 ≤ s) (h : (2 * q + s).toNat < m.ru.length) : m.ru[(2 * q + s).toNat] = ruN m q.toNat s.toNat := by
  unfold ruN
  rw [get_getD _ noR,show (2 * q + s).toNat = 2 * q.toNat + s.toNat by omega]
theorem b0_len {m : Mach} {q i : Int} {a : List (List Int)} (h : a = tmW m q.toNat ++ (b0N q.toNat).take i.toNat) (h0 : 0 ≤ q) (h1 : 0 ≤ i) (h2 : i ≤ 30) : (a.length : Int) = 1 + 30 * q + i := by
  rw [h,List.length_append,tmW_len,List.length_take,b0N_len]
  omega
theorem b0_yes {m : Mach} {q i : Int} {a : List (List Int)} (h0 : 0 ≤ q) (h1 : 0 ≤ i) (hi : i.toNat < nmL.length) (hc : i.toNat < 8 ∨ 16 ≤ i.toNat) (h : a = tmW m q.toNat ++ (b0N q.toNat).take i.toNat) : a ++ [wdN (fixN nmL[i.toNat]) q] = tmW m q.toNat ++ (b0N q.toNat).take (i + 1).toNat := by
  have hn : nmL.length = 30 := rfl
  rw [b0N_take h1 (by omega),if_pos hc,fxN_get hi,h,List.append_assoc,show ((q.toNat : Nat) : Int) = q by omega]
theorem b0_not {m : Mach} {q i : Int} {a : List (List Int)} (h0 : 0 ≤ q) (h1 : 0 ≤ i) (h2 : ¬ i.toNat < 8) (h3 : ¬ 16 ≤ i.toNat) (h : a = tmW m q.toNat ++ (b0N q.toNat).take i.toNat) : a ++ [[]] = tmW m q.toNat ++ (b0N q.toNat).take (i + 1).toNat := by
  rw [b0N_take h1 (by omega),if_neg (by omega),h,List.append_assoc]
theorem midH_len (m : Mach) (q : Nat) (s : Int) (hq : q ≤ 6) : ((midH m q s).length : Int) ≤ 100 := by
  have := tmH_len m q
  unfold midH
  rw [List.length_append,List.length_append]
  split <;> split <;> simp <;> omega
theorem preB194 {p : Prop} (h : p := by first | with_reducible assumption | omega | (simp only [List.length_append,List.length_cons,List.length_nil,List.length_set,List.length_replicate,List.length_take,List.length_drop,List.length_tail,List.length_dropLast,List.length_reverse] at *; omega) | exact mem_len (by assumption) (by omega) | (with_reducible refine Int.le_trans (Int.ofNat_le.2 (trimR_len _)) ?_; simp only [List.length_cons,List.length_tail]; omega) | (exact (ruAt_ok (by assumption) (by assumption) (by assumption)).2.1) | (exact (ruAt_ok (by assumption) (by assumption) (by assumption)).2.1) | (have := vMach_bd (by assumption); omega) | (simp only [mC_ch,mC_tu]; omega) | (have := vTag_bd (by assumption); omega) | (have := (‹Gd _ _›).le; omega) | (exact tgHalts_no (by assumption)) | (exact tgHead (by assumption) (by assumption) (by assumption)) | (exact Int.le_trans (tgStep_gd (by assumption) (by assumption) (by assumption) (by assumption)).le (by decide)) | (exact vTag_r (by assumption)) | (with_reducible refine Int.le_trans (Int.ofNat_le.2 (pushL_len _ _)) ?_; simp only [List.length_dropLast]; omega) | exact ls_at (by assumption) (by omega) | exact pt_gd (by assumption) | exact lv_at (by assumption) (by omega) | exact pt_gd (lv_at (by assumption) (by omega)) | exact (ask_ok (by assumption)).1 | exact (ask_ok (by assumption)).2.1 | exact (ask_ok (by assumption)).2.2.1 | exact (ask_ok (by assumption)).2.2.2 | trivial) : p := h
theorem l15Make_ok (m : Mach) (hv : vMach m = true) (hy : m.sy = 2) : Does Tryz.prog 80 [.one (maB m)] [] (.tup [(true,[int 2,.gv 0,.gv 1]),(false,[boo (decide (m.st ≤ 6))])]) [roW (tmY m).wo,roI (tmY m).ha] := by
  have hb := vMach_bd hv
  rw [hy] at hb
  have hP : ∀ q : Int,ltN [80,49] q = 1 + 30 * q + 8 := fun q => ltN_i 8 (by decide) q
  have hn : nmL.length = 30 := rfl
  by_cases hs : m.st ≤ 6
  · rw [tmY_ok hs,decide_eq_true hs]
    have g : TmOk m := ⟨hv,hy,hs⟩
    have hr : ∀ (q s : Nat),q < m.st.toNat → s < 2 → -1 ≤ (ruN m q s).n ∧ (ruN m q s).n ≤ 1000 := fun q s h1 h2 => by
      rcases tm_ru g h1 h2 with h | h
      · rw [h]; decide
      · omega
    refine does_of (k := 0) Tryz.func80 rfl Tryz.ntmps80 rfl rfl fun w F0 S0 ρ0 => ?_
    dsimp only [argT,argH]
    repeat' first|(apply p3;exact a_litF (dst := some 20) eI [] rfl rfl rfl rfl rfl rfl rfl rfl nowR;exact rfl)|(apply n3;(first|exact a_new (gb := .bx _) rfl|exact a_litE eW [_] rfl rfl rfl rfl rfl rfl rfl rfl|exact a_litE eI [] rfl rfl rfl rfl rfl rfl rfl rfl);exact rfl;refine dA ?_)|(apply p3;(first|exact pu1|exact a_mulB rfl rfl (by omega) (by omega) (by omega) (by omega)|exact a_add rfl rfl (by omega) (by omega)|exact puC);exact rfl)|refine cd ?_|(apply w3;(exact a_st_bx rfl rfl rfl rfl (fN rfl rfl) (Nat.le_of_ble_eq_true rfl) rfl);exact rfl;refine dS ?_)|(apply c4 1;exact callK1 (θ := []) (hD := l15Names_ok);exact rfl;exact rfl;exact rfl;refine dM ?_)|((refine g_cond rfl (fun hc => ?_) (fun hc => ?_)) <;> (try simp only [dcB] at hc) <;> (try first|contradiction|(exfalso;omega)))|fail
    simp only [setRow,scC,List.map_cons,List.map_nil,List.set_cons_zero,List.set_cons_succ,Nat.zero_add,List.getElem?_cons_zero,List.getElem?_cons_succ,List.take_succ_cons,List.take_zero,List.drop_zero,List.cons_append,List.nil_append,List.drop_succ_cons,List.drop_nil,List.append_nil,List.append_eq]
    refine g_loop_id ?_
    refine loopK [0,2,3,5,6] [1,2,3] (fun y : Int × List (List Int) × List Int => 0 ≤ y.1 ∧ y.1 ≤ m.st ∧ y.2.1 = tmW m y.1.toNat ∧ y.2.2 = tmH m y.1.toNat) (fun y => [(7,.one (int y.1))]) (fun y => [(1,roW y.2.1),(2,roI y.2.2),(3,.bx [int 2,.gv 1,.gv 2])]) (fun y => (m.st - y.1).toNat) ((0 : Int),([[]] : List (List Int)),([] : List Int)) [0,1,2,3,4] (hI := ?_) (hr := ?_)
    · exact ⟨by simp,by simp; omega,rfl,rfl⟩
    · rintro ⟨q,ws,hs'⟩ ⟨j0,j1,j2,j3⟩
      dsimp only [List.cons_append,List.nil_append] at *
      skip
      repeat' first|(apply p3;(first|exact pu1|exact puC);exact rfl)|refine cd ?_|(apply w3;(exact a_st_bx rfl rfl rfl rfl (fN rfl rfl) (Nat.le_of_ble_eq_true rfl) rfl);exact rfl;refine dS ?_)|((refine g_cond rfl (fun hc => ?_) (fun hc => ?_)) <;> (try simp only [dcB] at hc) <;> (try first|contradiction|(exfalso;omega)))|fail
      · have hq : q.toNat < m.st.toNat := by omega
        refine g_loop_id ?_
        refine loopK [0,2,3,5,6,7] [1,3] (fun y : Int × List (List Int) => 0 ≤ y.1 ∧ y.1 ≤ 30 ∧ y.2 = tmW m q.toNat ++ (b0N q.toNat).take y.1.toNat) (fun y => [(8,.one (int y.1))]) (fun y => [(1,roW y.2),(3,.bx [int 2,.gv 1,.gv 2])]) (fun y => (30 - y.1).toNat) ((0 : Int),ws) [0,1,2,3,4] (hI := ?_) (hr := ?_)
        · exact ⟨by simp,by simp,by simp [j2]⟩
        · rintro ⟨i,a⟩ ⟨k0,k1,k2⟩
          dsimp only [List.cons_append,List.nil_append] at *
          skip
          have ja : (a.length : Int) = 1 + 30 * q + i := b0_len k2 j0 k0 k1
          repeat' first|(apply p3;(first|exact pu1|exact puN|exact puC);exact rfl)|refine cdn ?_|refine g_reg (id := 10) ?_|refine g_reg (id := 12) ?_|refine o_no rfl rfl rfl rfl ?_|(apply py3;exact rfl;exact rfl;(first|exact pu1|exact puC);exact rfl;exact rfl)|((first|refine o_gs rfl rfl (fun hc => ?_) (fun hc => ?_)|refine g_cond rfl (fun hc => ?_) (fun hc => ?_)) <;> (try simp only [dcB] at hc) <;> (try first|contradiction|(exfalso;omega)))|fail
          · have hi : i.toNat < nmL.length := by omega
            have jf := fixN_len (nmL[i.toNat * 1]'(by omega))
            have jt := b0N_take (q := q.toNat) k0 (by omega)
            repeat' first|(apply p3;(first|exact pu1|exact a_add rfl rfl (by omega) (by omega));exact rfl)|refine cd ?_|(apply g_drN (id := 13) okM [[],[0],[],[],[2,3],[2,3,4],[2,3,4,5],[],[2,3,4,5,6,7],[2,3,4,5,6,7,8],[0,1,2,3,4,5,6,7,8,9],[0,1,2,3,4,5,6,7,8,9,10],[0,1,2,3,4,5,6,7,8,9,10,11]] [([],[]),([],[]),([],[]),([],[]),([],[]),([],[]),([0],[]),([],[]),([],[]),([1],[]),([2],[_]),([],[]),([],[3])] 3;(focus (refine dp 0 0 [50,51,52,53,54,55,56,57] [(true,0),(true,1)] (a_pure (sv := .one _) rfl) ?_;refine dp 1 1 [50,51,52,53,54,55,56,57] [(true,0),(true,1)] (by exact puL) ?_;refine dp 2 0 [48,49,51,55] [] pu1 ?_;refine dp 3 0 [48,49,50,55] [] pu1 ?_;refine dp 4 3 [48,49,55] [] puI ?_;refine dp 5 7 [48,49,55] [] (by exact a_ld_rowS rfl rfl rfl (fC rfl) bnd) ?_;refine duN 6 15 [48,49,55] [] (callD1 (n := _) 0 (θ := []) (hD := (l15Fixed_ok _))) (by exact rfl) (by exact rfl) ?_;refine dp 7 0 [48,49,50,51,52,53,54] [(true,0)] pu1 ?_;refine dp 8 63 [48,49] [] (callFD 1 (hD := (l15Word_ok (fixN (nmL[i.toNat * 1]'(by omega))) q (by omega) (by omega) (by omega)))) ?_;refine duE 9 127 [48,49] [] (atN 1 (fun _ => a_litE eW [_] rfl rfl rfl rfl rfl rfl rfl rfl)) (by exact rfl) (by exact rfl) ?_;refine duE 10 1023 [] [] (atS 2 (fun _ hj => a_appE (fP rfl) rfl rfl rfl rfl nowR (by (simp <;> omega)) (by decide) hj (by exact rfl)) (by decide)) (by exact rfl) (by exact rfl) ?_;refine dp 11 2047 [] [] (a_pure (sv := .one _) rfl) ?_;refine duE 12 4095 [] [] (by exact a_st_bx rfl rfl rfl rfl (fN rfl rfl) (Nat.le_of_ble_eq_true rfl) rfl) (by exact rfl) (by exact rfl) ?_;(refine d_nil ?_;refine dN ?_)));any_goals kernel_rfl)|fail
            refine q_again (i + 1,a ++ [wdN (fixN (nmL[i.toNat * 1]'(by omega))) q]) [0,7,2,3,4] (by exact stk) ?_ ?_
            · dsimp only
              exact ⟨by omega,by omega,by have := b0_yes j0 k0 hi (.inl (by omega)) k2; simp only [Nat.mul_one]; exact this⟩
            · dsimp only; omega
          · have hi : i.toNat < nmL.length := by omega
            have jf := fixN_len (nmL[i.toNat * 1]'(by omega))
            repeat' first|(apply p3;(first|exact pu1|exact a_add rfl rfl (by omega) (by omega));exact rfl)|refine cdn ?_|refine g_reg (id := 11) ?_|(apply g_drN (id := 13) okM [[],[0],[],[],[2,3],[2,3,4],[2,3,4,5],[],[2,3,4,5,6,7],[2,3,4,5,6,7,8],[0,1,2,3,4,5,6,7,8,9],[0,1,2,3,4,5,6,7,8,9,10],[0,1,2,3,4,5,6,7,8,9,10,11]] [([],[]),([],[]),([],[]),([],[]),([],[]),([],[]),([0],[]),([],[]),([],[]),([1],[]),([2],[_]),([],[]),([],[3])] 3;(focus (refine dp 0 0 [50,51,52,53,54,55,56,57] [(true,0),(true,1)] (a_pure (sv := .one _) rfl) ?_;refine dp 1 1 [50,51,52,53,54,55,56,57] [(true,0),(true,1)] (by exact puL) ?_;refine dp 2 0 [48,49,51,55] [] pu1 ?_;refine dp 3 0 [48,49,50,55] [] pu1 ?_;refine dp 4 3 [48,49,55] [] puI ?_;refine dp 5 7 [48,49,55] [] (by exact a_ld_rowS rfl rfl rfl (fC rfl) bnd) ?_;refine duN 6 15 [48,49,55] [] (callD1 (n := _) 0 (θ := []) (hD := (l15Fixed_ok _))) (by exact rfl) (by exact rfl) ?_;refine dp 7 0 [48,49,50,51,52,53,54] [(true,0)] pu1 ?_;refine dp 8 63 [48,49] [] (callFD 1 (hD := (l15Word_ok (fixN (nmL[i.toNat * 1]'(by omega))) q (by omega) (by omega) (by omega)))) ?_;refine duE 9 127 [48,49] [] (atN 1 (fun _ => a_litE eW [_] rfl rfl rfl rfl rfl rfl rfl rfl)) (by exact rfl) (by exact rfl) ?_;refine duE 10 1023 [] [] (atS 2 (fun _ hj => a_appE (fP rfl) rfl rfl rfl rfl nowR (by (simp <;> omega)) (by decide) hj (by exact rfl)) (by decide)) (by exact rfl) (by exact rfl) ?_;refine dp 11 2047 [] [] (a_pure (sv := .one _) rfl) ?_;refine duE 12 4095 [] [] (by exact a_st_bx rfl rfl rfl rfl (fN rfl rfl) (Nat.le_of_ble_eq_true rfl) rfl) (by exact rfl) (by exact rfl) ?_;(refine d_nil ?_;refine dN ?_)));any_goals kernel_rfl)|fail
            refine q_again (i + 1,a ++ [wdN (fixN (nmL[i.toNat * 1]'(by omega))) q]) [0,7,2,3,4] (by exact stk) ?_ ?_
            · dsimp only
              exact ⟨by omega,by omega,by have := b0_yes j0 k0 hi (.inr (by omega)) k2; simp only [Nat.mul_one]; exact this⟩
            · dsimp only; omega
          · skip
            repeat' first|(apply p3;exact a_litF (dst := some 62) eI [] rfl rfl rfl rfl rfl rfl rfl rfl nowR;exact rfl)|(apply n3;(exact a_litE eW [_] rfl rfl rfl rfl rfl rfl rfl rfl);exact rfl;refine dA ?_)|(apply p3;(first|exact pu1|exact a_add rfl rfl (by omega) (by omega));exact rfl)|refine cdn ?_|refine g_reg (id := 14) ?_|refine g_reg (id := 11) ?_|(apply s3;exact a_appE (fP rfl) rfl rfl rfl rfl nowR (by (simp <;> omega)) (by decide) (by decide) (by exact rfl);exact rfl;exact rfl)|(apply w3;(exact a_st_bx rfl rfl rfl rfl (fN rfl rfl) (Nat.le_of_ble_eq_true rfl) rfl);exact rfl;refine dS ?_)|fail
            refine q_again (i + 1,a ++ [[]]) [0,6,2,3,4] (by exact stk) ?_ ?_
            · dsimp only
              exact ⟨by omega,by omega,b0_not j0 k0 (by omega) (by omega) k2⟩
            · dsimp only; omega
          · have ea : a = midS m q.toNat 1 := by rw [midS_1,k2,List.take_of_length_le (by rw [b0N_len]; omega)]
            repeat' first|(apply p3;(exact pu1);exact rfl)|refine cdn ?_|refine g_reg (id := 15) ?_|fail
            refine g_loop_id ?_
            refine loopK [0,2,3,5,6,7,8] [1,2,3] (fun y : Int × List (List Int) × List Int => -1 ≤ y.1 ∧ y.1 ≤ 1 ∧ y.2.1 = midS m q.toNat y.1 ∧ y.2.2 = midH m q.toNat y.1) (fun y => [(9,.one (int y.1))]) (fun y => [(1,roW y.2.1),(2,roI y.2.2),(3,.bx [int 2,.gv 1,.gv 2])]) (fun y => (y.1 + 1).toNat) ((1 : Int),a,hs') [0,1,2,3,4] (hI := ?_) (hr := ?_)
            · exact ⟨by simp,by simp,ea,by rw [midH_1]; exact j3⟩
            · rintro ⟨s,b,hb'⟩ ⟨z0,z1,z2,z3⟩
              dsimp only [List.cons_append,List.nil_append] at *
              skip
              repeat' first|(apply p3;(first|exact pu1|exact puC|exact a_add rfl rfl (by omega) (by omega));exact rfl)|refine cdn ?_|refine g_reg (id := 16) ?_|refine g_reg (id := 8) ?_|((refine g_cond rfl (fun hc => ?_) (fun hc => ?_)) <;> (try simp only [dcB] at hc) <;> (try first|contradiction|(exfalso;omega)))|fail
              · have hR := ruN_get (m := m) j0 hc (by omega)
                have hrn := hr q.toNat s.toNat hq (by omega)
                have hPq := hP q
                have jb : (b.length : Int) = 31 + 30 * q := by rw [z2,midS_len]; omega
                repeat' first|(apply n3;exact a_new (gb := .bx _) rfl;exact rfl;refine dA ?_)|(apply p3;(first|exact pu1|exact a_mulB rfl rfl (by omega) (by omega) (by omega) (by omega)|exact a_add rfl rfl (by omega) (by omega)|exact a_sub rfl rfl (by omega) (by omega)|exact puI);exact rfl)|refine cdn ?_|refine g_reg (id := 18) ?_|refine g_reg (id := 19) ?_|(apply w3;(exact a_st_bx rfl rfl rfl rfl (fN rfl rfl) (Nat.le_of_ble_eq_true rfl) rfl);exact rfl;refine dS ?_)|(apply c4 0;exact callK1 (θ := []) (hD := (l15Letter_ok _ _ preB194 preB194));exact rfl;exact rfl;exact rfl;refine dM ?_)|(apply g_drN (id := 20) okM [[],[],[0,1]] [([],[]),([],[]),([],[])] 0;(focus (refine dp 0 0 [86] [] (by exact puL) ?_;refine dp 1 0 [85] [] (callD1 (n := _) 0 (θ := []) (hD := l05None_ok)) ?_;refine dp 2 3 [] [] (by exact a_eqRule (s := ⟨_,_,_⟩) rfl rfl) ?_;(refine d_nil ?_;refine dN ?_)));any_goals kernel_rfl)|((refine g_cond rfl (fun hc => ?_) (fun hc => ?_)) <;> (try simp only [dcB] at hc) <;> (try first|contradiction|(exfalso;omega)))|fail
                · rw [hR] at hc
                  have e1 := midS_no (m := m) (q := q.toNat) (s := s.toNat) (by omega) hc
                  have e2 := midH_no (m := m) (q := q.toNat) (s := s.toNat) (by omega) hc
                  have jh : (hb'.length : Int) ≤ 100 := by rw [z3]; exact midH_len m q.toNat s (by omega)
                  rw [show ((s.toNat : Nat) : Int) = s by omega] at e1 e2
                  repeat' first|(apply n3;(exact a_litE eI [_] rfl rfl rfl rfl rfl rfl rfl rfl);exact rfl;refine dA ?_)|(apply p3;(first|exact pu1|exact a_sub rfl rfl (by omega) (by omega));exact rfl)|refine cdn ?_|refine g_reg (id := 21) ?_|refine g_reg (id := 17) ?_|(apply s3;exact a_appE (fP rfl) rfl rfl rfl rfl nowR (by (simp <;> omega)) (by decide) (by decide) (by exact rfl);exact rfl;exact rfl)|(apply w3;(exact a_st_bx rfl rfl rfl rfl (fN rfl rfl) (Nat.le_of_ble_eq_true rfl) rfl);exact rfl;refine dS ?_)|fail
                  refine q_again (s - 1,b,hb' ++ [ltN [80,49] q + 1 - s]) [0,1,7,3,4] (by exact stk) ?_ ?_
                  · dsimp only
                    refine ⟨by omega,by omega,by rw [e1]; exact z2,?_⟩
                    rw [e2,← z3,hPq,show ((q.toNat : Nat) : Int) = q by omega]
                    congr 2
                    omega
                  · dsimp only; omega
                · rw [hR] at hc
                  have e1 := midS_ru (m := m) (q := q.toNat) (s := s.toNat) (by omega)
                  have e2 := midH_ru (m := m) (q := q.toNat) (s := s.toNat) (by omega) hc
                  rw [show ((s.toNat : Nat) : Int) = s by omega] at e1 e2
                  simp only [hR,setRow,scC,List.map_cons,List.map_nil,List.set_cons_zero,List.set_cons_succ,Nat.zero_add,List.getElem?_cons_zero,List.getElem?_cons_succ,List.take_succ_cons,List.take_zero,List.drop_zero,List.cons_append,List.nil_append,List.drop_succ_cons,List.drop_nil,List.append_nil,List.append_eq]
                  generalize hr2 : ruN m q.toNat s.toNat = r at *
                  skip
                  repeat' first|(apply p3;(exact pu1);exact rfl)|refine cdn ?_|refine g_reg (id := 22) ?_|(apply c4 1;exact callK0 (θ := []) (hD := (l15Ruled_ok r s (by omega) (by omega)));exact rfl;exact rfl;exact rfl;refine dM ?_)|fail
                  refine g_turn (t_freeze (i := 6) rfl nowR) ?_
                  simp only [setRow,C.frz.all,C.frz,SV.frz,tFrz,scC,List.map_cons,List.map_nil,List.set_cons_zero,List.set_cons_succ,Nat.zero_add,List.getElem?_cons_zero,List.getElem?_cons_succ,List.take_succ_cons,List.take_zero,List.drop_zero]
                  repeat' first|(apply p3;(exact pu1);exact rfl)|refine cdn ?_|refine g_reg (id := 23) ?_|fail
                  have jw := rlW_len r s
                  have hru := hc
                  refine g_loop_id ?_
                  refine loopK [0,2,3,5,6,7,8,9,11,12] [1] (fun y : Int × List (List Int) => 0 ≤ y.1 ∧ y.1 ≤ 4 ∧ y.2 = stI b (1 + 30 * q.toNat + (9 - s.toNat)) (rwN r s) y.1.toNat) (fun y => [(13,.one (int y.1))]) (fun y => [(1,roW y.2)]) (fun y => (4 - y.1).toNat) ((0 : Int),b) [0,1,2,3,4,5,6] (hI := ?_) (hr := ?_)
                  · exact ⟨by simp,by simp,rfl⟩
                  · rintro ⟨u,d⟩ ⟨u0,u1,u2⟩
                    dsimp only [List.cons_append,List.nil_append] at *
                    skip
                    have jd : d.length = b.length := by rw [u2,stI_len]
                    repeat' first|(apply p3;(first|exact pu1|exact puC|exact a_sub rfl rfl (by omega) (by omega));exact rfl)|refine cdn ?_|refine g_reg (id := 24) ?_|refine g_reg (id := 17) ?_|((refine g_cond rfl (fun hc => ?_) (fun hc => ?_)) <;> (try simp only [dcB] at hc) <;> (try first|contradiction|(exfalso;omega)))|fail
                    · have hu : u.toNat < (rlW r s).length := by omega
                      have hg := rlW_get (s := s) hru hu
                      repeat' first|(apply p3;(first|exact pu1|exact a_add rfl rfl (by omega) (by omega));exact rfl)|refine cdn ?_|refine g_reg (id := 25) ?_|(apply g_drN (id := 26) okM [[],[0],[],[],[3],[2,3,4],[],[],[6,7],[6,7,8],[0,1,2,3,4,5,6,7,8,9],[0,1,2,3,4,5,6,7,8,9,10]] [([],[]),([],[]),([],[]),([],[]),([],[]),([],[]),([],[]),([],[]),([],[]),([],[]),([],[]),([],[1])] 0;(focus (refine dp 0 0 [103,104,105,106,107,108,109,110] [] (a_pure (sv := .one _) rfl) ?_;refine dp 1 1 [103,104,105,106,107,108,109,110] [] (by exact puL) ?_;refine dp 2 0 [101,102,104,105,107,108,109,110] [] pu1 ?_;refine dp 3 0 [101,102,103,107,108,109,110] [] pu1 ?_;refine dp 4 1 [101,102,103,107,108,109,110] [] (by exact a_mulB rfl rfl (by omega) (by omega) (by omega) (by omega)) ?_;refine dp 5 7 [101,102,107,108,109,110] [] (a_add rfl rfl (by omega) (by omega)) ?_;refine dp 6 0 [101,102,103,104,105,106,108] [] pu1 ?_;refine dp 7 0 [101,102,103,104,105,106,107] [] pu1 ?_;refine dp 8 3 [101,102,103,104,105,106] [] puI ?_;refine dp 9 7 [101,102,103,104,105,106] [] (by exact puL) ?_;refine dp 10 1023 [] [] puI ?_;refine duE 11 2047 [] [] (by exact a_stE (E := eW) _ rfl rfl rfl rfl (fN rfl rfl) bnd (by exact rfl)) (by exact rfl) (by exact rfl) ?_;(refine d_nil ?_;refine dN ?_)));any_goals kernel_rfl)|fail
                      refine q_again (u + 1,d.set (ltN [80,49] q + 1 - s + 2 * u).toNat ((rlW r s)[u.toNat]'hu)) [0,1,2,3,4,5,6] (by exact stk) ?_ ?_
                      · dsimp only
                        refine ⟨by omega,by omega,?_⟩
                        rw [show (u + 1).toNat = u.toNat + 1 by omega,stI,← u2,hg]
                        congr 1
                        omega
                      · dsimp only; omega
                    · have e4 : u.toNat = 4 := by omega
                      refine q_again (s - 1,d,hb') [0,1,2,3,4] (by exact stk) ?_ ?_
                      · dsimp only
                        refine ⟨by omega,by omega,?_,by rw [e2]; exact z3⟩
                        rw [e1,u2,e4,z2]
                        unfold ruS
                        rw [show ((s.toNat : Nat) : Int) = s by omega]
                      · dsimp only; omega
              · have es : s = -1 := by omega
                subst es
                skip
                skip
                refine q_again (q + 1,b,hb') [0,1,2,3,4] (by exact stk) ?_ ?_
                · dsimp only
                  rw [show (q + 1).toNat = q.toNat + 1 by omega]
                  exact ⟨by omega,by omega,by rw [z2,midS_e],by rw [z3,midH_e]⟩
                · dsimp only; omega
      · rw [j2,j3,show q.toNat = m.st.toNat by omega]
        repeat refine cr ?_
        refine ends_id ?_
        refine endK [?_,?_] (h2 := ?_) (h3 := ?_) (nd := ?_)
        rotate_left 2
        all_goals (repeat' first|exact ce0|refine ce ?_|refine ce2 ?_ ?_|(refine Or.inr (bx_eq rfl rfl ?_);(try dsimp only [C.ren,C.ren.all]);(try exact rfl))|exact SVLe.refl|refine ceb ?_)
        all_goals first | exact (show nodupB _ = true from rfl) | exact Or.inr rfl | (rfl)
  · rw [tmY_no hs,decide_eq_false hs]
    refine does_of (k := 0) Tryz.func80 rfl Tryz.ntmps80 rfl rfl fun w F0 S0 ρ0 => ?_
    dsimp only [argT,argH]
    repeat' first|(apply p3;exact a_litF (dst := some 20) eI [] rfl rfl rfl rfl rfl rfl rfl rfl nowR;exact rfl)|(apply n3;(first|exact a_new (gb := .bx _) rfl|exact a_litE eW [_] rfl rfl rfl rfl rfl rfl rfl rfl|exact a_litE eI [] rfl rfl rfl rfl rfl rfl rfl rfl);exact rfl;refine dA ?_)|(apply p3;(first|exact pu1|exact a_mulB rfl rfl (by omega) (by omega) (by omega) (by omega)|exact a_add rfl rfl (by omega) (by omega)|exact puC);exact rfl)|refine cd ?_|(apply w3;(exact a_st_bx rfl rfl rfl rfl (fN rfl rfl) (Nat.le_of_ble_eq_true rfl) rfl);exact rfl;refine dS ?_)|((refine g_cond rfl (fun hc => ?_) (fun hc => ?_)) <;> (try simp only [dcB] at hc) <;> (try first|contradiction|(exfalso;omega)))|fail
    repeat refine cr ?_
    refine ends_id ?_
    refine endK [?_,?_] (h2 := ?_) (h3 := ?_) (nd := ?_)
    rotate_left 2
    all_goals (repeat' first|exact ce0|refine ce ?_|refine ce2 ?_ ?_|(refine Or.inr (bx_eq rfl rfl ?_);(try dsimp only [C.ren,C.ren.all]);(try exact rfl))|exact SVLe.refl|refine ceb ?_)
    all_goals first | exact (show nodupB _ = true from rfl) | exact Or.inr rfl | (rfl)
end Go.Proofs.YtjmlbmmbionmcaaGreatDoor
end
section
set_option linter.unusedVariables false
set_option linter.unusedSimpArgs false
set_option maxRecDepth 100000
set_option maxHeartbeats 1000000
namespace Go.Proofs.YtjmlbmmbionmcaaGreatDoor
open Go Foot Go.RowKit
def nmO : List Int → Option Int
  | [] => some 0
  | x :: l => match nmO l with
    | none => none
    | some n => if 1000000000000 < 2 * n + x then none else some (2 * n + x)
theorem nmO_bd : ∀ {l : List Int} {n : Int},(∀ x ∈ l,0 ≤ x ∧ x ≤ 1) → nmO l = some n → 0 ≤ n ∧ n ≤ 1000000000000
  | [],n,_,h => by injection h with h; omega
  | x :: l,n,hb,h => by
    rw [nmO] at h
    have hx := hb x (by simp)
    cases e : nmO l with
    | none => rw [e] at h; cases h
    | some k =>
      have := nmO_bd (fun x hx => hb x (by simp [hx])) e
      rw [e] at h
      dsimp only at h
      split at h
      · cases h
      · injection h with h; omega
theorem nmO_drop {l : List Int} {i : Nat} (h : i < l.length) : nmO (l.drop i) = match nmO (l.drop (i + 1)) with
    | none => none
    | some n => if 1000000000000 < 2 * n + l[i] then none else some (2 * n + l[i]) := by
  rw [List.drop_eq_getElem_cons h,nmO]
theorem nmO_none {l : List Int} : ∀ (j : Nat) {i : Nat},l.length - i ≤ j → nmO (l.drop i) = none → nmO l = none
  | _,0,_,h => by simpa using h
  | 0,i + 1,hj,h => by
    rw [List.drop_of_length_le (by omega)] at h
    cases h
  | j + 1,i + 1,hj,h => by
    by_cases hi : i < l.length
    · refine nmO_none (l := l) (l.length) (i := i) (by omega) ?_
      rw [nmO_drop hi,h]
    · rw [List.drop_of_length_le (by omega)] at h
      cases h
structure NmJ (l : List Int) (i n : Int) : Prop where
  h0 : -1 ≤ i
  h1 : i < l.length
  e : nmO (l.drop (i + 1).toNat) = some n
theorem nmJ_0 (l : List Int) : NmJ l ((l.length : Int) - 1) 0 := ⟨by omega,by omega,by rw [List.drop_of_length_le (by omega)]; rfl⟩
theorem nmJ_e {l : List Int} {i n : Int} (h : NmJ l i n) (hi : ¬ 0 ≤ i) : nmO l = some n := by
  have := h.e
  have h0 := h.h0
  rwa [show (i + 1).toNat = 0 by omega,List.drop_zero] at this
theorem nmJ_s {l : List Int} {i n : Int} (h : NmJ l i n) (hi : 0 ≤ i) (hl : i.toNat < l.length) : (1000000000000 < 2 * n + l[i.toNat] → nmO l = none) ∧ (¬ 1000000000000 < 2 * n + l[i.toNat] → NmJ l (i - 1) (2 * n + l[i.toNat])) := by
  have e := h.e
  rw [show (i + 1).toNat = i.toNat + 1 by omega] at e
  have d := nmO_drop hl
  rw [e] at d
  dsimp only at d
  constructor
  · intro hc
    rw [if_pos hc] at d
    exact nmO_none l.length (by omega) d
  · intro hc
    rw [if_neg hc] at d
    exact ⟨by omega,by have := h.h1; omega,by rw [show (i - 1 + 1).toNat = i.toNat by omega]; exact d⟩
@[irreducible] def nmV (l : List Int) : Int := (nmO l).getD 0
theorem nmV_some {l : List Int} {n : Int} (h : nmO l = some n) : nmV l = n := by unfold nmV; rw [h]; rfl
theorem nmV_none {l : List Int} (h : nmO l = none) : nmV l = 0 := by unfold nmV; rw [h]; rfl
@[irreducible] def nmB (l : List Int) : Bool := (nmO l).isSome
theorem nmB_some {l : List Int} {n : Int} (h : nmO l = some n) : nmB l = true := by unfold nmB; rw [h]; rfl
theorem nmB_none {l : List Int} (h : nmO l = none) : nmB l = false := by unfold nmB; rw [h]; rfl
theorem preB202 {p : Prop} (h : p := by first | with_reducible assumption | omega | (simp only [List.length_append,List.length_cons,List.length_nil,List.length_set,List.length_replicate,List.length_take,List.length_drop,List.length_tail,List.length_dropLast,List.length_reverse] at *; omega) | exact mem_len (by assumption) (by omega) | (with_reducible refine Int.le_trans (Int.ofNat_le.2 (trimR_len _)) ?_; simp only [List.length_cons,List.length_tail]; omega) | (exact (ruAt_ok (by assumption) (by assumption) (by assumption)).2.1) | (exact (ruAt_ok (by assumption) (by assumption) (by assumption)).2.1) | (have := vMach_bd (by assumption); omega) | (simp only [List.length_append,List.length_cons,List.length_nil,repW_len,seN_len] at *; omega) | (simp only [mC_ch,mC_tu]; omega) | (have := vTag_bd (by assumption); omega) | (have := (‹Gd _ _›).le; omega) | (exact tgHalts_no (by assumption)) | (exact tgHead (by assumption) (by assumption) (by assumption)) | (exact Int.le_trans (tgStep_gd (by assumption) (by assumption) (by assumption) (by assumption)).le (by decide)) | (exact vTag_r (by assumption)) | (with_reducible refine Int.le_trans (Int.ofNat_le.2 (pushL_len _ _)) ?_; simp only [List.length_dropLast]; omega) | exact ls_at (by assumption) (by omega) | exact pt_gd (by assumption) | exact lv_at (by assumption) (by omega) | exact pt_gd (lv_at (by assumption) (by omega)) | exact (ask_ok (by assumption)).1 | exact (ask_ok (by assumption)).2.1 | exact (ask_ok (by assumption)).2.2.1 | exact (ask_ok (by assumption)).2.2.2 | trivial) : p := h
theorem l15Number_ok (l : List Int) (hl : (l.length : Int) ≤ 16777216) (hb : ∀ x ∈ l,0 ≤ x ∧ x ≤ 1) : Does Tryz.prog 81 [.one (shI l)] [] (.tup [(false,[int (nmV l)]),(false,[boo (nmB l)])]) [] := by
  refine does_of (k := 0) Tryz.func81 rfl Tryz.ntmps81 rfl rfl fun w F0 S0 ρ0 => ?_
  dsimp only [argT,argH]
  repeat' first|(apply p3;(first|exact pu1|exact puN|exact a_sub rfl rfl (by omega) (by omega));exact rfl)|refine cd ?_
  refine g_loop_id ?_
  refine loopK [0,2,3] [] (fun y : Int × Int => NmJ l y.1 y.2 ∧ 0 ≤ y.2 ∧ y.2 ≤ 1000000000000) (fun y => [(5,.one (int y.1)),(4,.one (int y.2))]) (fun _ => []) (fun y => (y.1 + 1).toNat) ((l.length : Int) - 1,(0 : Int)) [] (hI := ?_) (hr := ?_)
  · exact ⟨nmJ_0 l,by simp,by simp⟩
  · rintro ⟨i,n⟩ ⟨g,j1,j2⟩
    dsimp only [List.cons_append,List.nil_append] at *
    skip
    have g0 := g.h0 ; have g1 := g.h1
    repeat' first|(apply p3;(first|exact pu1|exact puC);exact rfl)|refine cdn ?_|refine g_reg (id := 3) ?_|refine g_reg (id := 8) ?_|((refine g_cond rfl (fun hc => ?_) (fun hc => ?_)) <;> (try simp only [dcB] at hc) <;> (try first|contradiction|(exfalso;omega)))
    · have hi : i.toNat < l.length := by omega
      have hx := hb _ (List.getElem_mem hi)
      have hs := nmJ_s g hc hi
      repeat' first|(apply p3;(first|exact pu1|exact puC|exact a_mul rfl rfl (by first|omega|assumption) (by first|omega|assumption)|exact a_add rfl rfl (by omega) (by omega)|exact a_sub rfl rfl (by omega) (by omega)|exact puI);exact rfl)|refine cd ?_|((refine g_cond rfl (fun hc => ?_) (fun hc => ?_)) <;> (try simp only [dcB] at hc) <;> (try first|contradiction|(exfalso;omega)))
      · have e := hs.1 hc
        rw [nmV_none e,nmB_none e]
        repeat refine cr ?_
        refine ends_id ?_
        refine endK [] (h2 := ?_) (h3 := ?_) (nd := ?_)
        all_goals (repeat' first|exact ce0|refine ce ?_|refine ce2 ?_ ?_|exact SVLe.refl|refine ceb ?_)
        all_goals first | exact (show nodupB _ = true from rfl) | exact Or.inr rfl | (rfl)
      · refine q_again (i - 1,2 * n + (l[i.toNat]'hi)) [] (by exact stk) ?_ ?_
        · exact ⟨hs.2 hc,by dsimp only; omega,by dsimp only; omega⟩
        · dsimp only; omega
    · have e := nmJ_e g hc
      rw [nmV_some e,nmB_some e]
      skip
      repeat refine cr ?_
      refine ends_id ?_
      refine endK [] (h2 := ?_) (h3 := ?_) (nd := ?_)
      all_goals (repeat' first|exact ce0|refine ce ?_|refine ce2 ?_ ?_|exact SVLe.refl|refine ceb ?_)
      all_goals first | exact (show nodupB _ = true from rfl) | exact Or.inr rfl | (rfl)
theorem numberOf_ok (l : List Int) (hl : (l.length : Int) ≤ 16777216) (hb : ∀ x ∈ l,0 ≤ x ∧ x ≤ 1) : Does Tryz.prog 117 [.one (shI l)] [] (.tup [(false,[int (nmV l)]),(false,[int (bif nmB l then 0 else 5)])]) [] := by
  refine does_of (k := 0) Tryz.func117 rfl Tryz.ntmps117 rfl rfl fun w F0 S0 ρ0 => ?_
  dsimp only [argT,argH]
  repeat' first|(apply p3;(first|exact pu1|exact puN|exact a_sub rfl rfl (by omega) (by omega));exact rfl)|refine cd ?_
  refine g_loop_id ?_
  refine loopK [0,2,3] [] (fun y : Int × Int => NmJ l y.1 y.2 ∧ 0 ≤ y.2 ∧ y.2 ≤ 1000000000000) (fun y => [(5,.one (int y.1)),(4,.one (int y.2))]) (fun _ => []) (fun y => (y.1 + 1).toNat) ((l.length : Int) - 1,(0 : Int)) [] (hI := ?_) (hr := ?_)
  · exact ⟨nmJ_0 l,by simp,by simp⟩
  · rintro ⟨i,n⟩ ⟨g,j1,j2⟩
    dsimp only [List.cons_append,List.nil_append] at *
    skip
    have g0 := g.h0 ; have g1 := g.h1
    repeat' first|(apply p3;(first|exact pu1|exact puC);exact rfl)|refine cdn ?_|refine g_reg (id := 3) ?_|refine g_reg (id := 8) ?_|((refine g_cond rfl (fun hc => ?_) (fun hc => ?_)) <;> (try simp only [dcB] at hc) <;> (try first|contradiction|(exfalso;omega)))
    · have hi : i.toNat < l.length := by omega
      have hx := hb _ (List.getElem_mem hi)
      have hs := nmJ_s g hc hi
      repeat' first|(apply p3;(first|exact pu1|exact puC|exact a_mul rfl rfl (by first|omega|assumption) (by first|omega|assumption)|exact a_add rfl rfl (by omega) (by omega)|exact a_sub rfl rfl (by omega) (by omega)|exact puI);exact rfl)|refine cd ?_|((refine g_cond rfl (fun hc => ?_) (fun hc => ?_)) <;> (try simp only [dcB] at hc) <;> (try first|contradiction|(exfalso;omega)))
      · have e := hs.1 hc
        rw [nmV_none e,nmB_none e]
        repeat refine cr ?_
        refine ends_id ?_
        refine endK [] (h2 := ?_) (h3 := ?_) (nd := ?_)
        all_goals (repeat' first|exact ce0|refine ce ?_|refine ce2 ?_ ?_|exact SVLe.refl|refine ceb ?_)
        all_goals first | exact (show nodupB _ = true from rfl) | exact Or.inr rfl | (rfl)
      · refine q_again (i - 1,2 * n + (l[i.toNat]'hi)) [] (by exact stk) ?_ ?_
        · exact ⟨hs.2 hc,by dsimp only; omega,by dsimp only; omega⟩
        · dsimp only; omega
    · have e := nmJ_e g hc
      rw [nmV_some e,nmB_some e]
      skip
      repeat refine cr ?_
      refine ends_id ?_
      refine endK [] (h2 := ?_) (h3 := ?_) (nd := ?_)
      all_goals (repeat' first|exact ce0|refine ce ?_|refine ce2 ?_ ?_|exact SVLe.refl|refine ceb ?_)
      all_goals first | exact (show nodupB _ = true from rfl) | exact Or.inr rfl | (rfl)
theorem numbersOf_ok (c : Conf) (hl : (c.le.length : Int) ≤ 16777216) (hr : (c.ri.length : Int) ≤ 16777216) (hb : ∀ x ∈ c.le,0 ≤ x ∧ x ≤ 1) (hd : ∀ x ∈ c.ri,0 ≤ x ∧ x ≤ 1) : Does Tryz.prog 69 [.agg (coC c)] [] (.tup [(false,[int (bif nmB c.le && nmB c.ri then nmV c.le else 0)]),(false,[int (bif nmB c.le && nmB c.ri then nmV c.ri else 0)]),(false,[int (bif nmB c.le && nmB c.ri then 0 else 5)])]) [] := by
  cases h1 : nmB c.le with
  | false =>
    refine does_of (k := 0) Tryz.func69 rfl Tryz.ntmps69 rfl rfl fun w F0 S0 ρ0 => ?_
    dsimp only [argT,argH]
    repeat' first|(apply n3;exact a_new (gb := .bx _) rfl;exact rfl;refine dA ?_)|(apply p3;(exact pu1);exact rfl)|refine cdn ?_|refine g_reg (id := 0) ?_|refine g_reg (id := 1) ?_|refine g_reg (id := 2) ?_|(apply c4 0;exact callK1 (θ := []) (hD := (numberOf_ok _ preB202 preB202));exact rfl;exact rfl;exact rfl;refine dM ?_)
    simp only [h1,cond_false]
    repeat' first|(apply p3;(first|exact pu1|exact a_ne rfl rfl);exact rfl)|refine cd ?_|refine o_no rfl rfl rfl rfl ?_
    repeat refine cr ?_
    refine ends_id ?_
    refine endK [] (h2 := ?_) (h3 := ?_) (nd := ?_)
    all_goals (repeat' first|exact ce0|refine ce ?_|refine ce2 ?_ ?_|exact SVLe.refl|refine ceb ?_)
    all_goals first | exact (show nodupB _ = true from rfl) | exact Or.inr rfl | (rfl)
  | true =>
    cases h2 : nmB c.ri with
    | false =>
      refine does_of (k := 0) Tryz.func69 rfl Tryz.ntmps69 rfl rfl fun w F0 S0 ρ0 => ?_
      dsimp only [argT,argH]
      repeat' first|(apply n3;exact a_new (gb := .bx _) rfl;exact rfl;refine dA ?_)|(apply p3;(exact pu1);exact rfl)|refine cdn ?_|refine g_reg (id := 0) ?_|refine g_reg (id := 1) ?_|refine g_reg (id := 2) ?_|(apply c4 0;exact callK1 (θ := []) (hD := (numberOf_ok _ preB202 preB202));exact rfl;exact rfl;exact rfl;refine dM ?_)
      simp only [h1,h2,cond_false,cond_true]
      repeat' first|(apply p3;(first|exact pu1|exact a_ne rfl rfl);exact rfl)|refine cd ?_|(apply py3;exact rfl;exact rfl;(first|exact pu1|exact a_ne rfl rfl);exact rfl;exact rfl)
      repeat refine cr ?_
      refine ends_id ?_
      refine endK [] (h2 := ?_) (h3 := ?_) (nd := ?_)
      all_goals (repeat' first|exact ce0|refine ce ?_|refine ce2 ?_ ?_|exact SVLe.refl|refine ceb ?_)
      all_goals first | exact (show nodupB _ = true from rfl) | exact Or.inr rfl | (rfl)
    | true =>
      refine does_of (k := 0) Tryz.func69 rfl Tryz.ntmps69 rfl rfl fun w F0 S0 ρ0 => ?_
      dsimp only [argT,argH]
      repeat' first|(apply n3;exact a_new (gb := .bx _) rfl;exact rfl;refine dA ?_)|(apply p3;(exact pu1);exact rfl)|refine cdn ?_|refine g_reg (id := 0) ?_|refine g_reg (id := 1) ?_|refine g_reg (id := 2) ?_|(apply c4 0;exact callK1 (θ := []) (hD := (numberOf_ok _ preB202 preB202));exact rfl;exact rfl;exact rfl;refine dM ?_)
      simp only [h1,h2,cond_false,cond_true]
      repeat' first|(apply p3;(first|exact pu1|exact a_ne rfl rfl);exact rfl)|refine cd ?_|(apply py3;exact rfl;exact rfl;(first|exact pu1|exact a_ne rfl rfl);exact rfl;exact rfl)
      repeat refine cr ?_
      refine ends_id ?_
      refine endK [] (h2 := ?_) (h3 := ?_) (nd := ?_)
      all_goals (repeat' first|exact ce0|refine ce ?_|refine ce2 ?_ ?_|exact SVLe.refl|refine ceb ?_)
      all_goals first | exact (show nodupB _ = true from rfl) | exact Or.inr rfl | (rfl)
theorem binaryCode_ok (m : Mach) (v : Bool) : Does Tryz.prog 39 [.agg (maC m),.one (boo v)] [] (.one (int (bif v then (if m.sy = 2 then 0 else 2) else 1))) [] := by
  cases v with
  | false =>
    refine does_of (k := 0) Tryz.func39 rfl Tryz.ntmps39 rfl rfl fun w F0 S0 ρ0 => ?_
    dsimp only [argT,argH]
    repeat' first|(apply n3;exact a_new (gb := .bx _) rfl;exact rfl;refine dA ?_)|(apply p3;(exact pu1);exact rfl)|refine cd ?_
    repeat refine cr ?_
    refine ends_id ?_
    refine endK [] (h2 := ?_) (h3 := ?_) (nd := ?_)
    all_goals (repeat' first|exact ce0|refine ce ?_|refine ce2 ?_ ?_|exact SVLe.refl|refine ceb ?_)
    all_goals first | exact (show nodupB _ = true from rfl) | exact Or.inr rfl | (rfl)
  | true =>
    by_cases h : m.sy = 2
    · rw [cond_true,if_pos h]
      refine does_of (k := 0) Tryz.func39 rfl Tryz.ntmps39 rfl rfl fun w F0 S0 ρ0 => ?_
      dsimp only [argT,argH]
      repeat' first|(apply n3;exact a_new (gb := .bx _) rfl;exact rfl;refine dA ?_)|(apply p3;(first|exact pu1|exact a_ne rfl rfl);exact rfl)|refine cd ?_|((refine g_cond rfl (fun hc => ?_) (fun hc => ?_)) <;> (try simp only [dcB] at hc) <;> (try first|contradiction|(exfalso;omega)))
      repeat refine cr ?_
      refine ends_id ?_
      refine endK [] (h2 := ?_) (h3 := ?_) (nd := ?_)
      all_goals (repeat' first|exact ce0|refine ce ?_|refine ce2 ?_ ?_|exact SVLe.refl|refine ceb ?_)
      all_goals first | exact (show nodupB _ = true from rfl) | exact Or.inr rfl | (rfl)
    · rw [cond_true,if_neg h]
      refine does_of (k := 0) Tryz.func39 rfl Tryz.ntmps39 rfl rfl fun w F0 S0 ρ0 => ?_
      dsimp only [argT,argH]
      repeat' first|(apply n3;exact a_new (gb := .bx _) rfl;exact rfl;refine dA ?_)|(apply p3;(first|exact pu1|exact a_ne rfl rfl);exact rfl)|refine cd ?_|((refine g_cond rfl (fun hc => ?_) (fun hc => ?_)) <;> (try simp only [dcB] at hc) <;> (try first|contradiction|(exfalso;omega)))
      repeat refine cr ?_
      refine ends_id ?_
      refine endK [] (h2 := ?_) (h3 := ?_) (nd := ?_)
      all_goals (repeat' first|exact ce0|refine ce ?_|refine ce2 ?_ ?_|exact SVLe.refl|refine ceb ?_)
      all_goals first | exact (show nodupB _ = true from rfl) | exact Or.inr rfl | (rfl)
theorem l15Ask_ok (m : Mach) (c : Conf) (hm : (m.ru.length : Int) ≤ 16777216) (hx : (c.le.length : Int) ≤ 16777216) (hy : (c.ri.length : Int) ≤ 16777216) : Does Tryz.prog 32 [.one (maB m),.one (coB c)] [] (.one (int (if vMach m = true ∧ vConf m c = true then (if m.sy = 2 then 0 else 2) else 1))) [] := by
  refine does_of (k := 0) Tryz.func32 rfl Tryz.ntmps32 rfl rfl fun w F0 S0 ρ0 => ?_
  dsimp only [argT,argH]
  repeat' first|(apply p3;(first|exact pu1|exact a_ne rfl rfl);exact rfl)|refine cd ?_|(apply c4 0;exact callK1 (θ := []) (hD := (l05Is_ok _ preB202));exact rfl;exact rfl;exact rfl;refine dM ?_)|refine o_no rfl rfl rfl rfl ?_|(apply py3;exact rfl;exact rfl;(exact pu1);exact rfl;exact rfl)|(apply cy4 0;exact rfl;exact rfl;exact callK1 (θ := []) (hD := (l05Good_ok _ _ preB202 preB202 preB202 preB202 preB202 preB202));exact rfl;exact rfl;exact rfl;exact rfl;refine dM ?_)|((first|refine o_gs rfl rfl (fun hc => ?_) (fun hc => ?_)|refine g_cond rfl (fun hc => ?_) (fun hc => ?_)) <;> (try simp only [dcB] at hc) <;> (try first|contradiction|(exfalso;omega)))
  all_goals
    repeat refine cr ?_
    refine ends_id ?_
    refine endK [] (h2 := ?_) (h3 := ?_) (nd := ?_)
    all_goals (repeat' first|exact ce0|refine ce ?_|refine ce2 ?_ ?_|exact SVLe.refl|refine ceb ?_)
    all_goals first | exact (show nodupB _ = true from rfl) | exact Or.inr rfl | ((simp_all))
end Go.Proofs.YtjmlbmmbionmcaaGreatDoor
end
section
set_option linter.unusedVariables false
set_option linter.unusedSimpArgs false
set_option maxRecDepth 100000
set_option maxHeartbeats 1000000
namespace Go.Proofs.YtjmlbmmbionmcaaGreatDoor
open Go Foot Go.RowKit
theorem wdN_1x {s : Bs} (h : ¬ s = xN) (q : Int) : wdN [s,xN] q = [ltN s q,0] := by unfold wdN; simp [h]
theorem wdN_2 {s t : Bs} (h : ¬ s = xN) (h2 : ¬ t = xN) (q : Int) : wdN [s,t] q = [ltN s q,ltN t q] := by unfold wdN; simp [h,h2]
theorem wdN_1 {s : Bs} (h : ¬ s = xN) (q : Int) : wdN [s] q = [ltN s q] := by unfold wdN; simp [h]
theorem preB203 {p : Prop} (h : p := by first | with_reducible assumption | omega | (simp only [List.length_append,List.length_cons,List.length_nil,List.length_set,List.length_replicate,List.length_take,List.length_drop,List.length_tail,List.length_dropLast,List.length_reverse] at *; omega) | exact mem_len (by assumption) (by omega) | (with_reducible refine Int.le_trans (Int.ofNat_le.2 (trimR_len _)) ?_; simp only [List.length_cons,List.length_tail]; omega) | (exact (ruAt_ok (by assumption) (by assumption) (by assumption)).2.1) | (exact (ruAt_ok (by assumption) (by assumption) (by assumption)).2.1) | (have := vMach_bd (by assumption); omega) | (simp only [List.length_append,List.length_cons,List.length_nil,repW_len,seN_len] at *; omega) | (simp only [mC_ch,mC_tu]; omega) | (have := vTag_bd (by assumption); omega) | (have := (‹Gd _ _›).le; omega) | (exact tgHalts_no (by assumption)) | (exact tgHead (by assumption) (by assumption) (by assumption)) | (exact Int.le_trans (tgStep_gd (by assumption) (by assumption) (by assumption) (by assumption)).le (by decide)) | (exact vTag_r (by assumption)) | (with_reducible refine Int.le_trans (Int.ofNat_le.2 (pushL_len _ _)) ?_; simp only [List.length_dropLast]; omega) | exact ls_at (by assumption) (by omega) | exact pt_gd (by assumption) | exact lv_at (by assumption) (by omega) | exact pt_gd (lv_at (by assumption) (by omega)) | exact (ask_ok (by assumption)).1 | exact (ask_ok (by assumption)).2.1 | exact (ask_ok (by assumption)).2.2.1 | exact (ask_ok (by assumption)).2.2.2 | trivial) : p := h
theorem tapeCellsOf_ok (n : Int) (h0 : 0 ≤ n) (h1 : n ≤ 10000000) : Does Tryz.prog 155 [.one (int n),.one (int 2)] [] (.one (.gv 0)) [roI (btS n)] := by
  have hbl := btS_len n
  refine does_of (k := 0) Tryz.func155 rfl Tryz.ntmps155 rfl rfl fun w F0 S0 ρ0 => ?_
  dsimp only [argT,argH]
  repeat' first|(apply n3;exact a_nilO eI rfl;exact rfl)|(apply n3;(exact a_litE eI [] rfl rfl rfl rfl rfl rfl rfl rfl);exact rfl;refine dA ?_)|(apply p3;(exact pu1);exact rfl)|refine cd ?_|fail
  refine g_loop_id ?_
  refine loopK [1,4] [1] (fun y : Int × List Int => 0 ≤ y.1 ∧ y.1 ≤ n ∧ y.2 ++ btS y.1 = btS n) (fun y => [(0,.one (int y.1)),(5,.one (.gv 1))]) (fun y => [(1,roI y.2)]) (fun y => y.1.toNat) (n,[]) [0,1] (hI := ?_) (hr := ?_)
  · exact ⟨h0,by simp,by simp⟩
  · rintro ⟨k,l⟩ ⟨j0,j1,j2⟩
    dsimp only [List.cons_append,List.nil_append] at *
    skip
    have jl : l.length ≤ (btS n).length := by (rw [← j2,List.length_append]; omega)
    repeat' first|(apply n3;(exact a_litE eI [_] rfl rfl rfl rfl rfl rfl rfl rfl);exact rfl;refine dA ?_)|(apply p3;(first|exact pu1|exact puC|exact a_rem rfl rfl (by omega) (by omega) (by omega)|exact a_quo rfl rfl (by omega) (by omega) (by omega));exact rfl)|refine cd ?_|(apply s3;exact a_appE (fP rfl) rfl rfl rfl rfl nowR (by (simp <;> omega)) (by decide) (by decide) (by exact rfl);exact rfl;exact rfl)|((refine g_cond rfl (fun hc => ?_) (fun hc => ?_)) <;> (try simp only [dcB] at hc) <;> (try first|contradiction|(exfalso;omega)))|fail
    · have hb := btS_s hc
      refine q_again (k / 2,l ++ [k % 2]) [0,3] (by exact stk) ?_ ?_
      · dsimp only
        exact ⟨by omega,by omega,by rw [List.append_assoc,← j2,hb]; rfl⟩
      · dsimp only; omega
    · rw [btS_n hc,List.append_nil] at j2
      rw [← j2]
      repeat refine cr ?_
      refine ends_id ?_
      refine endK [?_] (h2 := ?_) (h3 := ?_) (nd := ?_)
      rotate_left 1
      all_goals (repeat' first|exact ce0|refine ce ?_|refine ce2 ?_ ?_|(refine Or.inr (bx_eq rfl rfl ?_);(try dsimp only [C.ren,C.ren.all]);(try exact rfl))|exact SVLe.refl|refine ceb ?_)
      all_goals first | exact (show nodupB _ = true from rfl) | exact Or.inr rfl | (rfl)
theorem l15Side_ok (n : Int) (h0 : 0 ≤ n) (h1 : n ≤ 10000000) : Does Tryz.prog 66 [.one (int n)] [] (.one (.gv 0)) [roI (btS n)] := by
  have hbl := btS_len n
  refine does_of (k := 0) Tryz.func66 rfl Tryz.ntmps66 rfl rfl fun w F0 S0 ρ0 => ?_
  dsimp only [argT,argH]
  repeat' first|(apply n3;exact a_nilO eI rfl;exact rfl)|(apply n3;(exact a_litE eI [] rfl rfl rfl rfl rfl rfl rfl rfl);exact rfl;refine dA ?_)|(apply p3;(exact pu1);exact rfl)|refine cd ?_|fail
  refine g_loop_id ?_
  refine loopK [2] [1] (fun y : Int × List Int => 0 ≤ y.1 ∧ y.1 ≤ n ∧ y.2 ++ btS y.1 = btS n) (fun y => [(0,.one (int y.1)),(3,.one (.gv 1))]) (fun y => [(1,roI y.2)]) (fun y => y.1.toNat) (n,[]) [0,1] (hI := ?_) (hr := ?_)
  · exact ⟨h0,by simp,by simp⟩
  · rintro ⟨k,l⟩ ⟨j0,j1,j2⟩
    dsimp only [List.cons_append,List.nil_append] at *
    skip
    have jl : l.length ≤ (btS n).length := by (rw [← j2,List.length_append]; omega)
    repeat' first|(apply n3;(exact a_litE eI [_] rfl rfl rfl rfl rfl rfl rfl rfl);exact rfl;refine dA ?_)|(apply p3;(first|exact pu1|exact puC|exact a_rem rfl rfl (by omega) (by omega) (by omega)|exact a_quo rfl rfl (by omega) (by omega) (by omega));exact rfl)|refine cd ?_|(apply s3;exact a_appE (fP rfl) rfl rfl rfl rfl nowR (by (simp <;> omega)) (by decide) (by decide) (by exact rfl);exact rfl;exact rfl)|((refine g_cond rfl (fun hc => ?_) (fun hc => ?_)) <;> (try simp only [dcB] at hc) <;> (try first|contradiction|(exfalso;omega)))|fail
    · have hb := btS_s hc
      refine q_again (k / 2,l ++ [k % 2]) [0,3] (by exact stk) ?_ ?_
      · dsimp only
        exact ⟨by omega,by omega,by rw [List.append_assoc,← j2,hb]; rfl⟩
      · dsimp only; omega
    · rw [btS_n hc,List.append_nil] at j2
      rw [← j2]
      repeat refine cr ?_
      refine ends_id ?_
      refine endK [?_] (h2 := ?_) (h3 := ?_) (nd := ?_)
      rotate_left 1
      all_goals (repeat' first|exact ce0|refine ce ?_|refine ce2 ?_ ?_|(refine Or.inr (bx_eq rfl rfl ?_);(try dsimp only [C.ren,C.ren.all]);(try exact rfl))|exact SVLe.refl|refine ceb ?_)
      all_goals first | exact (show nodupB _ = true from rfl) | exact Or.inr rfl | (rfl)
theorem configOfBits_ok (q a b : Int) (h0 : 0 ≤ a) (h1 : a ≤ 10000000) (h2 : 0 ≤ b) (h3 : b ≤ 10000000) : Does Tryz.prog 104 [.one (int q),.one (int a),.one (int b)] [] (.agg [int q,.gv 0,.gv 1]) [roI (btS a),roI (btS b)] := by
  refine does_of (k := 0) Tryz.func104 rfl Tryz.ntmps104 rfl rfl fun w F0 S0 ρ0 => ?_
  dsimp only [argT,argH]
  repeat' first|(apply n3;exact a_new (gb := .bx _) rfl;exact rfl;refine dA ?_)|(apply p3;exact pu1;exact rfl)|refine cd ?_|(apply w3;(exact a_st_bx rfl rfl rfl rfl (fN rfl rfl) (Nat.le_of_ble_eq_true rfl) rfl);exact rfl;refine dS ?_)|(apply c4 1;exact callK1 (θ := []) (hD := (tapeCellsOf_ok _ preB203 preB203));exact rfl;exact rfl;exact rfl;refine dM ?_)|fail
  repeat refine cr ?_
  refine ends_id ?_
  refine endK [?_,?_] (h2 := ?_) (h3 := ?_) (nd := ?_)
  rotate_left 2
  all_goals (repeat' first|exact ce0|refine ce ?_|refine ce2 ?_ ?_|(refine Or.inr (bx_eq rfl rfl ?_);(try dsimp only [C.ren,C.ren.all]);(try exact rfl))|exact SVLe.refl|refine ceb ?_)
  all_goals first | exact (show nodupB _ = true from rfl) | exact Or.inr rfl | (rfl)
theorem pairA_ok (q : Int) (s : Bs) (h0 : -1000 ≤ q) (h1 : q ≤ 1000000) : Does Tryz.prog 142 [.one (str s),.one (.d (.bx false [.sc (.int .i64 q)]))] [] (.one (.gv 0)) [roI [ltN s q,0]] := by
  refine does_of (k := 0) Tryz.func142 rfl Tryz.ntmps142 rfl rfl fun w F0 S0 ρ0 => ?_
  dsimp only [argT,argH]
  repeat' first|(apply n3;exact a_nilO eI rfl;exact rfl)|(apply n3;exact a_litE eI [_,_] rfl rfl rfl rfl rfl rfl rfl rfl;exact rfl;refine dA ?_)|(apply p3;(exact pu1);exact rfl)|refine cd ?_|(apply c4 0;exact callK1 (θ := []) (hD := (letterOf_ok _ _ preB203 preB203));exact rfl;exact rfl;exact rfl;refine dM ?_)|fail
  repeat refine cr ?_
  refine ends_id ?_
  refine endK [?_] (h2 := ?_) (h3 := ?_) (nd := ?_)
  rotate_left 1
  all_goals (repeat' first|exact ce0|refine ce ?_|refine ce2 ?_ ?_|(refine Or.inr (bx_eq rfl rfl ?_);(try dsimp only [C.ren,C.ren.all]);(try exact rfl))|exact SVLe.refl|refine ceb ?_)
  all_goals first | exact (show nodupB _ = true from rfl) | exact Or.inr rfl | (rfl)
theorem pairH_ok (q : Int) (s : Bs) (h0 : -1000 ≤ q) (h1 : q ≤ 1000000) (hs : s.length ≤ 100) : Does Tryz.prog 156 [.one (str s),.one (.d (.bx false [.sc (.int .i64 q)]))] [] (.one (.gv 0)) [roI [ltN (s ++ [49]) q,ltN (s ++ [48]) q]] := by
  refine does_of (k := 0) Tryz.func156 rfl Tryz.ntmps156 rfl rfl fun w F0 S0 ρ0 => ?_
  dsimp only [argT,argH]
  repeat' first|(apply n3;exact a_nilO eI rfl;exact rfl)|refine cd ?_|(apply g_drN (id := 1) okM [[],[0],[],[0,1,2],[],[4],[],[0,1,2,3,4,5,6],[0,1,2,3,4,5,6,7],[0,1,2,3,4,5,6,7,8]] [([],[]),([],[]),([],[]),([],[]),([],[]),([],[]),([],[]),([],[]),([0],[]),([],[])] 1;(focus (refine dp 0 0 [6,8,9,10] [] pu1 ?_;refine dp 1 1 [6,8,9,10] [] (a_addS rfl rfl (by (simp only [List.length_append,List.length_cons,List.length_nil];omega))) ?_;refine dp 2 0 [4,5,8,9,10] [] puL ?_;refine dp 3 7 [8,9,10] [] (callD1 (n := _) 0 (θ := []) (hD := (letterOf_ok _ _ preB203 preB203))) ?_;refine dp 4 0 [4,5,6,7,10] [] pu1 ?_;refine dp 5 1 [4,5,6,7,10] [] (a_addS rfl rfl (by (simp only [List.length_append,List.length_cons,List.length_nil];omega))) ?_;refine dp 6 0 [4,5,6,7,8,9] [] puL ?_;refine dp 7 127 [] [] (callD1 (n := _) 0 (θ := []) (hD := (letterOf_ok _ _ preB203 preB203))) ?_;refine duE 8 255 [] [] (atN 0 (fun _ => a_litE eI [_,_] rfl rfl rfl rfl rfl rfl rfl rfl)) (by exact rfl) (by exact rfl) ?_;refine dp 9 511 [] [] pu1 ?_;(refine d_nil ?_;refine dN ?_)));any_goals kernel_rfl)|fail
  repeat refine cr ?_
  refine ends_id ?_
  refine endK [?_] (h2 := ?_) (h3 := ?_) (nd := ?_)
  rotate_left 1
  all_goals (repeat' first|exact ce0|refine ce ?_|refine ce2 ?_ ?_|(refine Or.inr (bx_eq rfl rfl ?_);(try dsimp only [C.ren,C.ren.all]);(try exact rfl))|exact SVLe.refl|refine ceb ?_)
  all_goals first | exact (show nodupB _ = true from rfl) | exact Or.inr rfl | (rfl)
theorem shownWord_ok (q a b : Int) (h0 : 0 ≤ q) (h1 : q ≤ 1000) (h2 : 0 ≤ a) (h3 : a ≤ 1000) (h4 : 0 ≤ b) (h5 : b ≤ 1000) : Does Tryz.prog 92 [.one (int q),.one (int a),.one (int b)] [] (.one (.gv 0)) [roI (shA q a.toNat b.toNat)] := by
  have hsh : shA q a.toNat b.toNat = [[ltN [65] q,0],repW [ltN [97] q,0] a.toNat,[ltN [66] q,0],repW [ltN [98] q,0] b.toNat].flatten := by
    unfold shA shF
    rw [wdN_1x (by decide),wdN_1x (by decide),wdN_1x (by decide),wdN_1x (by decide)]
    simp
  rw [hsh]
  have hJ : JnOk [[ltN [65] q,0],repW [ltN [97] q,0] a.toNat,[ltN [66] q,0],repW [ltN [98] q,0] b.toNat] := by
    refine ⟨by simp,fun x hx => ?_,?_⟩
    · have : x.length ≤ 2000 := by
        simp only [List.mem_cons,List.not_mem_nil,or_false] at hx
        rcases hx with h | h | h | h <;> subst h <;> simp [repW_len] <;> omega
      omega
    · simp only [List.flatten_cons,List.flatten_nil,List.length_append,List.length_nil,List.length_cons,repW_len]
      omega
  refine does_of (k := 0) Tryz.func92 rfl Tryz.ntmps92 rfl rfl fun w F0 S0 ρ0 => ?_
  dsimp only [argT,argH]
  repeat' first|(apply n3;exact a_new (gb := .bx _) rfl;exact rfl;refine dA ?_)|(apply p3;exact a_pure (sv := .one _) rfl;exact rfl)|refine cdn ?_|refine g_reg (id := 0) ?_|fail
  first | refine g_turn (t_frzB (d := 3) (i := 0) rfl rfl rfl) ?_ | refine o_turn (t_frzB (d := 3) (i := 0) rfl rfl rfl) ?_
  repeat' first|(apply p3;exact pu1;exact rfl)|refine cd ?_|(apply c4 1;exact callK1 (θ := []) (hD := (pairA_ok q _ preB203 preB203));exact rfl;exact rfl;exact rfl;refine dM ?_)|(apply c4 1;exact callK1 (θ := []) (hD := (repeatI_ok _ _ preB203 preB203 preB203));exact rfl;exact rfl;exact rfl;refine dM ?_)|fail
  refine o_turn (t_freeze (i := 1) rfl nowR) ?_
  refine o_turn (t_freeze (i := 3) rfl nowR) ?_
  refine o_turn (t_freeze (i := 4) rfl nowR) ?_
  refine o_turn (t_freeze (i := 6) rfl nowR) ?_
  repeat' first|(apply n3;(exact a_litE eW [_,_,_,_] rfl rfl rfl rfl rfl rfl rfl rfl);exact rfl;refine dA ?_)|(apply p3;exact pu1;exact rfl)|refine cd ?_|(apply c4 1;exact callK1 (θ := []) (hD := (joined_ok [[ltN [65] q,0],repW [ltN [97] q,0] a.toNat,[ltN [66] q,0],repW [ltN [98] q,0] b.toNat] hJ));exact rfl;exact rfl;exact rfl;refine dM ?_)|fail
  repeat refine cr ?_
  refine ends_id ?_
  refine endK [?_] (h2 := ?_) (h3 := ?_) (nd := ?_)
  rotate_left 1
  all_goals (repeat' first|exact ce0|refine ce ?_|refine ce2 ?_ ?_|(refine Or.inr (bx_eq rfl rfl ?_);(try dsimp only [C.ren,C.ren.all]);(try exact rfl))|exact SVLe.refl|refine ceb ?_)
  all_goals first | exact (show nodupB _ = true from rfl) | exact Or.inr rfl | (rfl)
theorem haltedWord_ok (q v a b : Int) (h0 : 0 ≤ q) (h1 : q ≤ 1000) (hv : v = 0 ∨ v = 1) (h2 : 0 ≤ a) (h3 : a ≤ 1000) (h4 : 0 ≤ b) (h5 : b ≤ 1000) : Does Tryz.prog 105 [.one (int q),.one (int v),.one (int a),.one (int b)] [] (.one (shI (shB q v.toNat a.toNat b.toNat))) [] := by
  have hsh : shB q v.toNat a.toNat b.toNat = ([[ltN ([80] ++ [49]) q,ltN ([80] ++ [48]) q],repW [ltN ([112] ++ [49]) q,ltN ([112] ++ [48]) q] a.toNat,[ltN ([81] ++ [49]) q,ltN ([81] ++ [48]) q],repW [ltN ([114] ++ [49]) q,ltN ([114] ++ [48]) q] b.toNat].flatten).drop (1 - v).toNat := by
    unfold shB shF
    have k1 := wdN_2 (s := [80,49]) (t := [80,48]) (by decide) (by decide) q
    have k2 := wdN_1 (s := [80,48]) (by decide) q
    have k3 := wdN_2 (s := [112,49]) (t := [112,48]) (by decide) (by decide) q
    have k4 := wdN_2 (s := [81,49]) (t := [81,48]) (by decide) (by decide) q
    have k5 := wdN_2 (s := [114,49]) (t := [114,48]) (by decide) (by decide) q
    rcases hv with h | h
    · subst h
      simp [k1,k2,k3,k4,k5]
    · subst h
      simp [k1,k2,k3,k4,k5]
  have hJ : JnOk [[ltN ([80] ++ [49]) q,ltN ([80] ++ [48]) q],repW [ltN ([112] ++ [49]) q,ltN ([112] ++ [48]) q] a.toNat,[ltN ([81] ++ [49]) q,ltN ([81] ++ [48]) q],repW [ltN ([114] ++ [49]) q,ltN ([114] ++ [48]) q] b.toNat] := by
    refine ⟨by simp,fun x hx => ?_,?_⟩
    · have : x.length ≤ 2000 := by
        simp only [List.mem_cons,List.not_mem_nil,or_false] at hx
        rcases hx with h | h | h | h <;> subst h <;> simp [repW_len] <;> omega
      omega
    · simp only [List.flatten_cons,List.flatten_nil,List.length_append,List.length_nil,List.length_cons,repW_len]
      omega
  have hlen : ([[ltN [80,49] q,ltN [80,48] q],repW [ltN [112,49] q,ltN [112,48] q] a.toNat,[ltN [81,49] q,ltN [81,48] q],repW [ltN [114,49] q,ltN [114,48] q] b.toNat].flatten).length = 4 + 2 * a.toNat + 2 * b.toNat := by
    simp only [List.flatten_cons,List.flatten_nil,List.length_append,List.length_nil,List.length_cons,repW_len]
    omega
  rw [hsh]
  refine does_of (k := 0) Tryz.func105 rfl Tryz.ntmps105 rfl rfl fun w F0 S0 ρ0 => ?_
  dsimp only [argT,argH]
  repeat' first|(apply n3;exact a_new (gb := .bx _) rfl;exact rfl;refine dA ?_)|(apply p3;exact a_pure (sv := .one _) rfl;exact rfl)|refine cdn ?_|refine g_reg (id := 0) ?_|fail
  first | refine g_turn (t_frzB (d := 4) (i := 0) rfl rfl rfl) ?_ | refine o_turn (t_frzB (d := 4) (i := 0) rfl rfl rfl) ?_
  repeat' first|(apply p3;(exact pu1);exact rfl)|refine cd ?_|(apply c4 1;exact callK1 (θ := []) (hD := (pairH_ok q _ preB203 preB203 preB203));exact rfl;exact rfl;exact rfl;refine dM ?_)|(apply c4 1;exact callK1 (θ := []) (hD := (repeatI_ok _ _ preB203 preB203 preB203));exact rfl;exact rfl;exact rfl;refine dM ?_)|fail
  refine o_turn (t_freeze (i := 1) rfl nowR) ?_
  refine o_turn (t_freeze (i := 3) rfl nowR) ?_
  refine o_turn (t_freeze (i := 4) rfl nowR) ?_
  refine o_turn (t_freeze (i := 6) rfl nowR) ?_
  repeat' first|(apply n3;(exact a_litE eW [_,_,_,_] rfl rfl rfl rfl rfl rfl rfl rfl);exact rfl;refine dA ?_)|(apply p3;exact pu1;exact rfl)|refine cdn ?_|(apply c4 1;exact callK1 (θ := []) (hD := (joined_ok [[ltN ([80] ++ [49]) q,ltN ([80] ++ [48]) q],repW [ltN ([112] ++ [49]) q,ltN ([112] ++ [48]) q] a.toNat,[ltN ([81] ++ [49]) q,ltN ([81] ++ [48]) q],repW [ltN ([114] ++ [49]) q,ltN ([114] ++ [48]) q] b.toNat] hJ));exact rfl;exact rfl;exact rfl;refine dM ?_)|fail
  refine g_turn (t_freeze (i := 8) rfl nowR) ?_
  repeat' first|(apply p3;(first|exact pu1|exact a_sub rfl rfl (by omega) (by omega)|exact a_slT rfl rfl rfl (fS rfl) (by omega) (by omega) (by exact rfl));exact rfl)|refine cd ?_|fail
  repeat refine cr ?_
  refine ends_id ?_
  refine endK [] (h2 := ?_) (h3 := ?_) (nd := ?_)
  all_goals (repeat' first|exact ce0|refine ce ?_|refine ce2 ?_ ?_|exact SVLe.refl|refine ceb ?_)
  all_goals first | exact (show nodupB _ = true from rfl) | exact Or.inr rfl | (rfl)
end Go.Proofs.YtjmlbmmbionmcaaGreatDoor
end
section
set_option linter.unusedVariables false
set_option linter.unusedSimpArgs false
set_option maxRecDepth 100000
set_option maxHeartbeats 1000000
namespace Go.Proofs.YtjmlbmmbionmcaaGreatDoor
open Go Foot Go.RowKit
abbrev eSL : Enc (List Bs) := ⟨1,fun l => [.sl false 1 (rows eS l)],fun _ => rfl,by decide⟩
abbrev shSL (l : List (List Bs)) : C := .d (.sl false 1 (rows eSL l))
theorem preB196 {p : Prop} (h : p := by first | with_reducible assumption | omega | (simp only [List.length_append,List.length_cons,List.length_nil,List.length_set,List.length_replicate,List.length_take,List.length_drop,List.length_tail,List.length_dropLast,List.length_reverse] at *; omega) | exact mem_len (by assumption) (by omega) | (with_reducible refine Int.le_trans (Int.ofNat_le.2 (trimR_len _)) ?_; simp only [List.length_cons,List.length_tail]; omega) | (exact (ruAt_ok (by assumption) (by assumption) (by assumption)).2.1) | (exact (ruAt_ok (by assumption) (by assumption) (by assumption)).2.1) | (have := vMach_bd (by assumption); omega) | (simp only [mC_ch,mC_tu]; omega) | (have := vTag_bd (by assumption); omega) | (have := (‹Gd _ _›).le; omega) | (exact tgHalts_no (by assumption)) | (exact tgHead (by assumption) (by assumption) (by assumption)) | (exact Int.le_trans (tgStep_gd (by assumption) (by assumption) (by assumption) (by assumption)).le (by decide)) | (exact vTag_r (by assumption)) | (with_reducible refine Int.le_trans (Int.ofNat_le.2 (pushL_len _ _)) ?_; simp only [List.length_dropLast]; omega) | exact ls_at (by assumption) (by omega) | exact pt_gd (by assumption) | exact lv_at (by assumption) (by omega) | exact pt_gd (lv_at (by assumption) (by omega)) | exact (ask_ok (by assumption)).1 | exact (ask_ok (by assumption)).2.1 | exact (ask_ok (by assumption)).2.2.1 | exact (ask_ok (by assumption)).2.2.2 | trivial) : p := h
theorem tbSet_ok (ws : List (List Int)) (s : Bs) (q p : Int) (ns : List Bs) (h0 : 0 ≤ q) (h1 : q ≤ 5) (h2 : -1000 ≤ p) (h3 : p ≤ 1000) (hn : (ns.length : Int) ≤ 1000) (hi : 0 ≤ ixT s nmL) (hl : 30 * q + 31 ≤ (ws.length : Int)) : Does Tryz.prog 145 [.one (.gv 0),.one (str s),.one (int q),.one (int p),.one (shS ns)] [.bx [.gv 1],roW ws] .any [.bx [.gv 1],roW (seN q p ws s ns)] := by
  have hse : seN q p ws s ns = ws.set (ltN s q).toNat (wdN ns p) := by unfold seN; rfl
  have hlb : 1 + 30 * q ≤ ltN s q := by unfold ltN; omega
  have hlc := (ltN_bd s q).2
  rw [hse]
  refine does_of (k := 2) Tryz.func145 rfl Tryz.ntmps145 rfl rfl fun w F0 S0 ρ0 => ?_
  dsimp only [argT,argH]
  repeat' first|(apply n3;(exact a_litE eI [] rfl rfl rfl rfl rfl rfl rfl rfl);exact rfl;refine dA ?_)|(apply p3;(first|exact pu1|exact puN);exact rfl)|refine cd ?_|fail
  refine g_loop_id ?_
  refine loopK [0,1,2,3,14,15] [2] (fun y : Int × List Int => 0 ≤ y.1 ∧ y.1 ≤ ns.length ∧ y.2 = wdN (ns.take y.1.toNat) p) (fun y => [(16,.one (int y.1)),(10,.one (.gv 2))]) (fun y => [(2,roI y.2)]) (fun y => (ns.length - y.1).toNat) ((0 : Int),[]) [0,1,2] (hI := ?_) (hr := ?_)
  · exact ⟨by simp,by simp,by simp [wdN_nil]⟩
  · rintro ⟨i,l⟩ ⟨j0,j1,j2⟩
    dsimp only [List.cons_append,List.nil_append] at *
    skip
    have jl : (l.length : Int) = i := by rw [j2,wdN_len,List.length_take]; omega
    repeat' first|(apply n3;(exact a_litE eI [_] rfl rfl rfl rfl rfl rfl rfl rfl);exact rfl;refine dA ?_)|(apply p3;(first|exact pu1|exact puC|exact a_eqT rfl rfl|exact a_add rfl rfl (by omega) (by omega)|exact puI);exact rfl)|refine cdn ?_|refine g_reg (id := 2) ?_|refine g_reg (id := 3) ?_|refine g_reg (id := 4) ?_|refine g_reg (id := 5) ?_|refine g_reg (id := 6) ?_|refine g_reg (id := 7) ?_|(apply s3;exact a_appE (fP rfl) rfl rfl rfl rfl nowR (by (simp <;> omega)) (by decide) (by decide) (by exact rfl);exact rfl;exact rfl)|(apply c4 0;exact callK1 (θ := []) (hD := (letterOf_ok _ _ preB196 preB196));exact rfl;exact rfl;exact rfl;refine dM ?_)|((refine g_cond rfl (fun hc => ?_) (fun hc => ?_)) <;> (try simp only [dcB] at hc) <;> (try first|contradiction|(exfalso;omega)))|fail
    · have hw := wdN_take (ns := ns) (q := p) j0 (by omega)
      refine q_again (i + 1,l ++ [0]) [0,1,4] (by exact stk) ?_ ?_
      · dsimp only
        exact ⟨by omega,by omega,by rw [hw,if_pos (by assumption),← j2]⟩
      · dsimp only; omega
    · have hw := wdN_take (ns := ns) (q := p) j0 (by omega)
      refine q_again (i + 1,l ++ [ltN (ns[i.toNat]'(by omega)) p]) [0,1,4] (by exact stk) ?_ ?_
      · dsimp only
        exact ⟨by omega,by omega,by rw [hw,if_neg (by assumption),← j2]⟩
      · dsimp only; omega
    · have e : l = wdN ns p := by rw [j2,List.take_of_length_le (by omega)]
      rw [← e]
      refine g_turn (t_freeze (i := 2) rfl nowR) ?_
      repeat' first|(apply g_drN (id := 8) okM [[],[0],[0,1],[0,1,2],[],[],[4,5],[],[0,1,2,3,4,5,6,7],[0,1,2,3,4,5,6,7,8]] [([],[]),([],[]),([],[]),([],[]),([],[]),([],[]),([],[]),([],[]),([],[]),([],[1])] 0;(focus (refine dp 0 0 [36,37,38,39] [] pu1 ?_;refine dp 1 1 [36,37,38,39] [] (a_pure (sv := .one _) rfl) ?_;refine dp 2 3 [36,37,38,39] [] (a_pure (sv := .one _) rfl) ?_;refine dp 3 7 [36,37,38,39] [] puL ?_;refine dp 4 0 [32,33,34,35,37,39] [] pu1 ?_;refine dp 5 0 [32,33,34,35,36,39] [] pu1 ?_;refine dp 6 3 [32,33,34,35,39] [] (callD1 (n := _) 0 (θ := []) (hD := (letterOf_ok _ _ preB196 preB196))) ?_;refine dp 7 0 [32,33,34,35,36,37,38] [] pu1 ?_;refine dp 8 255 [] [] puI ?_;refine duE 9 511 [] [] (by exact a_stE (E := eW) _ rfl rfl rfl rfl (fN rfl rfl) bnd (by exact rfl)) (by exact rfl) (by exact rfl) ?_;(refine d_nil ?_;refine dN ?_)));any_goals kernel_rfl)|fail
      repeat refine cr ?_
      refine ends_id ?_
      refine endK [] (h2 := ?_) (h3 := ?_) (nd := ?_)
      all_goals (repeat' first|exact ce0|refine ce ?_|refine ce2 ?_ ?_|(refine Or.inr (bx_eq rfl rfl ?_);(try dsimp only [C.ren,C.ren.all]);(try exact rfl))|exact SVLe.refl|refine ceb ?_)
      all_goals first | exact (show nodupB _ = true from rfl) | exact Or.inr rfl | (rfl)
theorem tbg_cons : ∀ r ∈ tbgN,∃ s0 t0,r = s0 :: t0 := fun r h => by
  cases r with
  | nil => exact absurd h (by decide)
  | cons a l => exact ⟨a,l,rfl⟩
theorem tbg_len : ∀ r ∈ tbgN,r.length ≤ 8 := by decide
theorem stateWords_ok (ws : List (List Int)) (q : Int) (h0 : 0 ≤ q) (h1 : q ≤ 5) (hl : 30 * q + 31 ≤ (ws.length : Int)) : Does Tryz.prog 93 [.one (.gv 0),.one (int q)] [.bx [.gv 1],roW ws] .any [.bx [.gv 1],roW (stN q ws tbgN)] := by
  have hT : tbgN.length = 22 := rfl
  refine does_of (k := 2) Tryz.func93 rfl Tryz.ntmps93 rfl rfl fun w F0 S0 ρ0 => ?_
  dsimp only [argT,argH]
  repeat' first|(apply p3;exact a_litF (dst := some 7) eS [_,_,_] rfl rfl rfl rfl rfl rfl rfl rfl nowR;exact rfl)|(apply p3;exact a_litF (dst := some 8) eS [_,_,_] rfl rfl rfl rfl rfl rfl rfl rfl nowR;exact rfl)|(apply p3;exact a_litF (dst := some 9) eS [_,_] rfl rfl rfl rfl rfl rfl rfl rfl nowR;exact rfl)|(apply p3;exact a_litF (dst := some 10) eS [_,_] rfl rfl rfl rfl rfl rfl rfl rfl nowR;exact rfl)|(apply p3;exact a_litF (dst := some 11) eS [_,_,_] rfl rfl rfl rfl rfl rfl rfl rfl nowR;exact rfl)|(apply p3;exact a_litF (dst := some 12) eS [_,_,_] rfl rfl rfl rfl rfl rfl rfl rfl nowR;exact rfl)|(apply p3;exact a_litF (dst := some 13) eS [_,_,_] rfl rfl rfl rfl rfl rfl rfl rfl nowR;exact rfl)|(apply p3;exact a_litF (dst := some 14) eS [_,_,_] rfl rfl rfl rfl rfl rfl rfl rfl nowR;exact rfl)|(apply p3;exact a_litF (dst := some 15) eS [_,_,_] rfl rfl rfl rfl rfl rfl rfl rfl nowR;exact rfl)|(apply p3;exact a_litF (dst := some 16) eS [_,_,_] rfl rfl rfl rfl rfl rfl rfl rfl nowR;exact rfl)|(apply p3;exact a_litF (dst := some 17) eS [_,_,_,_,_] rfl rfl rfl rfl rfl rfl rfl rfl nowR;exact rfl)|(apply p3;exact a_litF (dst := some 18) eS [_,_,_] rfl rfl rfl rfl rfl rfl rfl rfl nowR;exact rfl)|(apply p3;exact a_litF (dst := some 19) eS [_,_,_] rfl rfl rfl rfl rfl rfl rfl rfl nowR;exact rfl)|(apply p3;exact a_litF (dst := some 20) eS [_,_,_] rfl rfl rfl rfl rfl rfl rfl rfl nowR;exact rfl)|(apply p3;exact a_litF (dst := some 21) eS [_,_,_] rfl rfl rfl rfl rfl rfl rfl rfl nowR;exact rfl)|(apply p3;exact a_litF (dst := some 22) eS [_,_,_,_] rfl rfl rfl rfl rfl rfl rfl rfl nowR;exact rfl)|(apply p3;exact a_litF (dst := some 23) eS [_,_,_] rfl rfl rfl rfl rfl rfl rfl rfl nowR;exact rfl)|(apply p3;exact a_litF (dst := some 24) eS [_,_,_] rfl rfl rfl rfl rfl rfl rfl rfl nowR;exact rfl)|(apply p3;exact a_litF (dst := some 25) eS [_,_,_] rfl rfl rfl rfl rfl rfl rfl rfl nowR;exact rfl)|(apply p3;exact a_litF (dst := some 26) eS [_,_,_] rfl rfl rfl rfl rfl rfl rfl rfl nowR;exact rfl)|(apply p3;exact a_litF (dst := some 27) eS [_,_,_] rfl rfl rfl rfl rfl rfl rfl rfl nowR;exact rfl)|(apply p3;exact a_litF (dst := some 28) eS [_,_,_] rfl rfl rfl rfl rfl rfl rfl rfl nowR;exact rfl)|(apply p3;exact a_litF (dst := some 29) eSL [_,_,_,_,_,_,_,_,_,_,_,_,_,_,_,_,_,_,_,_,_,_] rfl rfl rfl rfl rfl rfl rfl rfl nowR;exact rfl)|(apply p3;(first|exact pu1|exact puN);exact rfl)|refine cd ?_|fail
  rw [show ([[[65],[65,49],[120]],[[97],[97,49],[120]],[[66],[66,49]],[[98],[98,49]],[[65,49],[80,49],[80,48]],[[97,49],[112,49],[112,48]],[[66,49],[81,49],[81,48]],[[98,49],[114,49],[114,48]],[[69],[72,49],[72,48]],[[101],[104,49],[104,48]],[[70,49],[74,49],[74,48],[106,49],[106,48]],[[70,48],[74,49],[74,48]],[[102,49],[106,49],[106,48]],[[102,48],[106,49],[106,48]],[[72,49],[65],[120]],[[72,48],[120],[65],[120]],[[104,49],[97],[120]],[[104,48],[97],[120]],[[74,49],[66],[120]],[[74,48],[66],[120]],[[106,49],[98],[120]],[[106,48],[98],[120]]] : List (List Bs)) = tbgN from rfl]
  refine g_loop_id ?_
  refine loopK [0,1,30,31] [1] (fun y : Int × List (List Int) => 0 ≤ y.1 ∧ y.1 ≤ 22 ∧ y.2 = stN q ws (tbgN.take y.1.toNat)) (fun y => [(32,.one (int y.1))]) (fun y => [(1,roW y.2)]) (fun y => (22 - y.1).toNat) ((0 : Int),ws) [0,1] (hI := ?_) (hr := ?_)
  · exact ⟨by simp,by simp,by simp [stN]⟩
  · rintro ⟨i,a⟩ ⟨j0,j1,j2⟩
    dsimp only [List.cons_append,List.nil_append] at *
    skip
    have jl : a.length = ws.length := by rw [j2,stN_len]
    repeat' first|(apply p3;(first|exact pu1|exact puC|exact puI);exact rfl)|refine cdn ?_|refine g_reg (id := 2) ?_|refine g_reg (id := 3) ?_|((refine g_cond rfl (fun hc => ?_) (fun hc => ?_)) <;> (try simp only [dcB] at hc) <;> (try first|contradiction|(exfalso;omega)))|fail
    · have hi : i.toNat < tbgN.length := by omega
      obtain ⟨s0,t0,e⟩ := tbg_cons _ (List.getElem_mem hi)
      have hix : 0 ≤ ixT s0 nmL := by have := tbg_ix _ (List.getElem_mem hi); rw [e] at this; exact this
      have ht : (t0.length : Int) ≤ 1000 := by have := tbg_len _ (List.getElem_mem hi); rw [e,List.length_cons] at this; omega
      have hsn : stN q ws (tbgN.take (i + 1).toNat) = seN q q (stN q ws (tbgN.take i.toNat)) s0 t0 := by
        rw [show (i + 1).toNat = i.toNat + 1 by omega,List.take_succ_eq_append_getElem hi,stN_snoc,e]
        rfl
      have hcl : (s0 :: t0).length = t0.length + 1 := rfl
      simp only [e]
      repeat' first|(apply p3;(first|exact pu1|exact a_add rfl rfl (by omega) (by omega));exact rfl)|refine cd ?_|(apply g_drN (id := 4) okM [[],[],[1],[1,2],[],[],[],[6],[0,1,2,3,4,5,6,7]] [([],[]),([],[]),([],[]),([],[]),([],[]),([],[]),([],[]),([],[]),([],[0,1])] 0;(focus (refine dp 0 0 [37,38,39,40,41,42,43] [] pu1 ?_;refine dp 1 0 [36,40,41,42,43] [] pu1 ?_;refine dp 2 1 [36,40,41,42,43] [] puI ?_;refine dp 3 3 [36,40,41,42,43] [] (by exact a_pure (sv := .one _) rfl) ?_;refine dp 4 0 [36,37,38,39,41,42,43] [] pu1 ?_;refine dp 5 0 [36,37,38,39,40,42,43] [] pu1 ?_;refine dp 6 0 [36,37,38,39,40,41] [] pu1 ?_;refine dp 7 1 [36,37,38,39,40,41] [] (by exact a_slT rfl rfl rfl (fS rfl) (by omega) (by omega) (by exact rfl)) ?_;refine duN 8 255 [] [] (callD0 (n := _) 0 (θ := [_,_]) (hD := (tbSet_ok a s0 q q t0 h0 h1 (by omega) (by omega) ht hix (by omega)))) (by exact rfl) (by exact rfl) ?_;(refine d_nil ?_;refine dN ?_)));any_goals kernel_rfl)|fail
      refine q_again (i + 1,seN q q a s0 t0) [0,1] (by exact stk) ?_ ?_
      · dsimp only
        exact ⟨by omega,by omega,by rw [hsn,← j2]⟩
      · dsimp only; omega
    · have e : stN q ws tbgN = a := by rw [j2,List.take_of_length_le (by omega)]
      rw [e]
      repeat refine cr ?_
      refine ends_id ?_
      refine endK [] (h2 := ?_) (h3 := ?_) (nd := ?_)
      all_goals (repeat' first|exact ce0|refine ce ?_|refine ce2 ?_ ?_|(refine Or.inr (bx_eq rfl rfl ?_);(try dsimp only [C.ren,C.ren.all]);(try exact rfl))|exact SVLe.refl|refine ceb ?_)
      all_goals first | exact (show nodupB _ = true from rfl) | exact Or.inr rfl | (rfl)
end Go.Proofs.YtjmlbmmbionmcaaGreatDoor
end
section
set_option linter.unusedVariables false
set_option linter.unusedSimpArgs false
set_option maxRecDepth 100000
set_option maxHeartbeats 8000000
namespace Go.Proofs.YtjmlbmmbionmcaaGreatDoor
open Go Foot Go.RowKit
section
variable {P : Program} {g : Gh} {st : St} {dst : Option Tmp} {ty : TypeId} {pos : String} {after : Array Edge} {guard : Option (Nat × Bool)} {x y : Operand}
theorem a_ldW {T i k : Nat} {c0 : C} {l : List (List Int)} (hc : opd st x = .one c0) (ht : tgt st c0 = some (i,k)) (hg : lkG st.h i = .row 1 (rows eW l)) (hT : cellB P T = true) (hk : k < l.length) : Acts P g ⟨dst,.load T x,ty,pos,after,guard⟩ st (.one (shI (l[k]'hk))) [] [] := by
  refine a_ld_row (c := .sl false 1 (rows eI (l[k]'hk))) hc ht hg hT ?_ rfl
  have := rows_nth (E := eW) (o := 0) hk (by decide)
  simpa using this
end
theorem stI_four (ws : List (List Int)) (k : Nat) (f : Nat → List Int) : stI ws k f 4 = (((ws.set k (f 0)).set (k + 2) (f 1)).set (k + 4) (f 2)).set (k + 6) (f 3) := rfl
theorem ru_four {q s : Nat} {r : Rule'} {d : Bs} {n0 n1 n2 n3 : List Bs} {ws : List (List Int)} (hd : (s = 0 ∧ d = [48]) ∨ (s = 1 ∧ d = [49])) (hr : r ≠ noR) (hl : rlN r s = [n0,n1,n2,n3]) : seN q r.n (seN q r.n (seN q r.n (seN q r.n ws (80 :: d) n0) (112 :: d) n1) (81 :: d) n2) (114 :: d) n3 = ruS q s r ws := by
  have e0 : rwN r s 0 = wdN n0 r.n := by rw [rwN_get hr,hl]; rfl
  have e1 : rwN r s 1 = wdN n1 r.n := by rw [rwN_get hr,hl]; rfl
  have e2 : rwN r s 2 = wdN n2 r.n := by rw [rwN_get hr,hl]; rfl
  have e3 : rwN r s 3 = wdN n3 r.n := by rw [rwN_get hr,hl]; rfl
  unfold ruS seN
  rw [stI_four,e0,e1,e2,e3]
  rcases hd with ⟨h1,h2⟩ | ⟨h1,h2⟩
  · subst h1 h2
    rw [ltN_i (s := [80,48]) 9 (by decide),ltN_i (s := [112,48]) 11 (by decide),ltN_i (s := [81,48]) 13 (by decide),ltN_i (s := [114,48]) 15 (by decide)]
    rw [show (1 + 30 * (q : Int) + 9).toNat = 30 * q + 10 by omega,show (1 + 30 * (q : Int) + 11).toNat = 30 * q + 12 by omega,show (1 + 30 * (q : Int) + 13).toNat = 30 * q + 14 by omega,show (1 + 30 * (q : Int) + 15).toNat = 30 * q + 16 by omega,show 1 + 30 * q + (9 - 0) = 30 * q + 10 by omega]
  · subst h1 h2
    rw [ltN_i (s := [80,49]) 8 (by decide),ltN_i (s := [112,49]) 10 (by decide),ltN_i (s := [81,49]) 12 (by decide),ltN_i (s := [114,49]) 14 (by decide)]
    rw [show (1 + 30 * (q : Int) + 8).toNat = 30 * q + 9 by omega,show (1 + 30 * (q : Int) + 10).toNat = 30 * q + 11 by omega,show (1 + 30 * (q : Int) + 12).toNat = 30 * q + 13 by omega,show (1 + 30 * (q : Int) + 14).toNat = 30 * q + 15 by omega,show 1 + 30 * q + (9 - 1) = 30 * q + 9 by omega]
theorem wdN_x (ns : List Bs) (q : Int) : wdN (xN :: ns) q = 0 :: wdN ns q := by unfold wdN; rfl
theorem ru_get {q : Nat} {p : Int} {n0 n1 n2 n3 : List Bs} {ws : List (List Int)} {k : Nat} (hk : k = 30 * q + 10) (hw : 30 * q + 31 ≤ ws.length) (h : k < (seN q p (seN q p (seN q p (seN q p ws [80,48] n0) [112,48] n1) [81,48] n2) [114,48] n3).length) : (seN q p (seN q p (seN q p (seN q p ws [80,48] n0) [112,48] n1) [81,48] n2) [114,48] n3)[k] = wdN n0 p := by
  subst hk
  have z0 : (ltN [80,48] (q : Int)).toNat = 30 * q + 10 := by rw [ltN_i (s := [80,48]) 9 (by decide)]; omega
  have z1 : (ltN [112,48] (q : Int)).toNat = 30 * q + 12 := by rw [ltN_i (s := [112,48]) 11 (by decide)]; omega
  have z2 : (ltN [81,48] (q : Int)).toNat = 30 * q + 14 := by rw [ltN_i (s := [81,48]) 13 (by decide)]; omega
  have z3 : (ltN [114,48] (q : Int)).toNat = 30 * q + 16 := by rw [ltN_i (s := [114,48]) 15 (by decide)]; omega
  unfold seN
  simp only [z0,z1,z2,z3]
  rw [List.getElem_set_ne (by omega),List.getElem_set_ne (by omega),List.getElem_set_ne (by omega),List.getElem_set_self]
theorem ru_zero {q : Nat} {r : Rule'} {n0 n1 n2 n3 : List Bs} {ws : List (List Int)} {k : Nat} (hk : k = 30 * q + 10) (hr : r ≠ noR) (hl : rlN r 0 = [xN :: n0,n1,n2,n3]) (hw : 30 * q + 31 ≤ ws.length) (h : k < (seN q r.n (seN q r.n (seN q r.n (seN q r.n ws [80,48] n0) [112,48] n1) [81,48] n2) [114,48] n3).length) : (seN q r.n (seN q r.n (seN q r.n (seN q r.n ws [80,48] n0) [112,48] n1) [81,48] n2) [114,48] n3).set k ([[0],(seN q r.n (seN q r.n (seN q r.n (seN q r.n ws [80,48] n0) [112,48] n1) [81,48] n2) [114,48] n3)[k]].flatten) = ruS q 0 r ws := by
  have hg := ru_get hk hw h
  have e0 : rwN r 0 0 = 0 :: wdN n0 r.n := by rw [rwN_get hr,hl,← wdN_x]; rfl
  have e1 : rwN r 0 1 = wdN n1 r.n := by rw [rwN_get hr,hl]; rfl
  have e2 : rwN r 0 2 = wdN n2 r.n := by rw [rwN_get hr,hl]; rfl
  have e3 : rwN r 0 3 = wdN n3 r.n := by rw [rwN_get hr,hl]; rfl
  have z0 : (ltN [80,48] (q : Int)).toNat = 30 * q + 10 := by rw [ltN_i (s := [80,48]) 9 (by decide)]; omega
  have z1 : (ltN [112,48] (q : Int)).toNat = 30 * q + 12 := by rw [ltN_i (s := [112,48]) 11 (by decide)]; omega
  have z2 : (ltN [81,48] (q : Int)).toNat = 30 * q + 14 := by rw [ltN_i (s := [81,48]) 13 (by decide)]; omega
  have z3 : (ltN [114,48] (q : Int)).toNat = 30 * q + 16 := by rw [ltN_i (s := [114,48]) 15 (by decide)]; omega
  rw [hg,show [[0],wdN n0 r.n].flatten = 0 :: wdN n0 r.n by simp]
  subst hk
  unfold ruS seN
  rw [stI_four,z0,z1,z2,z3]
  rw [List.set_comm _ _ (show 30 * q + 16 ≠ 30 * q + 10 by omega),List.set_comm _ _ (show 30 * q + 14 ≠ 30 * q + 10 by omega),List.set_comm _ _ (show 30 * q + 12 ≠ 30 * q + 10 by omega),List.set_set]
  rw [show ((0 : Nat) : Int) = 0 from rfl,e0,e1,e2,e3,show 1 + 30 * q + (9 - 0) = 30 * q + 10 by omega]
attribute [local simp] repW_len seN_len
theorem preB200 {p : Prop} (h : p := by first | with_reducible assumption | omega | (simp only [List.length_append,List.length_cons,List.length_nil,List.length_set,List.length_replicate,List.length_take,List.length_drop,List.length_tail,List.length_dropLast,List.length_reverse] at *; omega) | exact mem_len (by assumption) (by omega) | (with_reducible refine Int.le_trans (Int.ofNat_le.2 (trimR_len _)) ?_; simp only [List.length_cons,List.length_tail]; omega) | (exact (ruAt_ok (by assumption) (by assumption) (by assumption)).2.1) | (exact (ruAt_ok (by assumption) (by assumption) (by assumption)).2.1) | (have := vMach_bd (by assumption); omega) | (simp only [mC_ch,mC_tu]; omega) | (have := vTag_bd (by assumption); omega) | (have := (‹Gd _ _›).le; omega) | (exact tgHalts_no (by assumption)) | (exact tgHead (by assumption) (by assumption) (by assumption)) | (exact Int.le_trans (tgStep_gd (by assumption) (by assumption) (by assumption) (by assumption)).le (by decide)) | (exact vTag_r (by assumption)) | (with_reducible refine Int.le_trans (Int.ofNat_le.2 (pushL_len _ _)) ?_; simp only [List.length_dropLast]; omega) | exact ls_at (by assumption) (by omega) | exact pt_gd (by assumption) | exact lv_at (by assumption) (by omega) | exact pt_gd (lv_at (by assumption) (by omega)) | exact (ask_ok (by assumption)).1 | exact (ask_ok (by assumption)).2.1 | exact (ask_ok (by assumption)).2.2.1 | exact (ask_ok (by assumption)).2.2.2 | (simp only [List.length_append,List.length_cons,List.length_nil,repW_len,seN_len] at *; omega) | trivial) : p := h
theorem ruleWords_ok (ws : List (List Int)) (q : Int) (s : Nat) (d : Bs) (r : Rule') (hd : (s = 0 ∧ d = [48]) ∨ (s = 1 ∧ d = [49])) (hr : r ≠ noR) (hw : r.w = 0 ∨ r.w = 1) (hm : r.m = 1 ∨ r.m = -1) (hn : 0 ≤ r.n ∧ r.n ≤ 5) (h0 : 0 ≤ q) (h1 : q ≤ 5) (hl : 30 * q + 31 ≤ (ws.length : Int)) : Does Tryz.prog 94 [.one (.gv 0),.one (int q),.one (str d),.agg (ruC r)] [.bx [.gv 1],roW ws] .any [.bx [.gv 1],roW (ruS q.toNat s r ws)] := by
  obtain ⟨w,m,n⟩ := r
  dsimp only at *
  have i0 : 0 ≤ ixT [80,48] nmL := by decide
  have i1 : 0 ≤ ixT [112,48] nmL := by decide
  have i2 : 0 ≤ ixT [81,48] nmL := by decide
  have i3 : 0 ≤ ixT [114,48] nmL := by decide
  have i4 : 0 ≤ ixT [80,49] nmL := by decide
  have i5 : 0 ≤ ixT [112,49] nmL := by decide
  have i6 : 0 ≤ ixT [81,49] nmL := by decide
  have i7 : 0 ≤ ixT [114,49] nmL := by decide
  have hz : ltN [80,48] q = 30 * q + 10 := by rw [ltN_i (s := [80,48]) 9 (by decide)]; omega
  rcases hd with ⟨hd1,hd2⟩ | ⟨hd1,hd2⟩
  · subst hd1 hd2
    rcases hm with hm | hm
    · subst hm
      rcases hw with hw | hw
      · subst hw
        have hq : ((q.toNat : Nat) : Int) = q := by omega
        have hrl : (repW [[97],[120]] (Int.toNat 0)).length = 0 := by rw [repW_len]; rfl
        refine does_of (k := 2) Tryz.func94 rfl Tryz.ntmps94 rfl rfl fun w F0 S0 ρ0 => ?_
        dsimp only [argT,argH]
        have hlc : ws.length = (seN q n (seN q n (seN q n (seN q n ws [80,48] ([65] :: [120] :: repW [[97],[120]] (Int.toNat 0))) [112,48] [[97],[120],[97],[120]]) [81,48] [[66],[120]]) [114,48] [[98],[120]]).length := by simp only [seN_len]
        have hk : (ltN [80,48] q).toNat = 30 * q.toNat + 10 := by rw [hz]; omega
        have hkl : (ltN [80,48] q).toNat < (seN q n (seN q n (seN q n (seN q n ws [80,48] ([65] :: [120] :: repW [[97],[120]] (Int.toNat 0))) [112,48] [[97],[120],[97],[120]]) [81,48] [[66],[120]]) [114,48] [[98],[120]]).length := by omega
        have hg := ru_get (q := q.toNat) (p := n) (n0 := ([65] :: [120] :: repW [[97],[120]] (Int.toNat 0))) (n1 := [[97],[120],[97],[120]]) (n2 := [[66],[120]]) (n3 := [[98],[120]]) (ws := ws) (k := (ltN [80,48] q).toNat) hk (by omega) (by rw [hq]; exact hkl)
        have hf := ru_zero (q := q.toNat) (r := ⟨0,1,n⟩) (n0 := ([65] :: [120] :: repW [[97],[120]] (Int.toNat 0))) (n1 := [[97],[120],[97],[120]]) (n2 := [[66],[120]]) (n3 := [[98],[120]]) (ws := ws) (k := (ltN [80,48] q).toNat) hk hr (by unfold rlN; rfl) (by omega) (by rw [hq]; exact hkl)
        simp only [hq] at hf hg
        have hJ : JnOk [[0],((seN q n (seN q n (seN q n (seN q n ws [80,48] ([65] :: [120] :: repW [[97],[120]] (Int.toNat 0))) [112,48] [[97],[120],[97],[120]]) [81,48] [[66],[120]]) [114,48] [[98],[120]]))[(ltN [80,48] q).toNat * 1]'(by omega)] := by simp only [Nat.mul_one]; rw [hg]; exact jn_two (by rw [wdN_len]; decide)
        rw [← hf]
        repeat' first|(apply n3;(first|exact a_new (gb := .bx _) rfl|exact a_litE eS [_,_] rfl rfl rfl rfl rfl rfl rfl rfl);exact rfl;refine dA ?_)|(apply p3;(first|exact pu1|exact puC|exact a_addS rfl rfl (by first|omega|(simp only [List.length_append,List.length_cons,List.length_nil];omega)));exact rfl)|refine cdn ?_|refine g_reg (id := 0) ?_|refine g_reg (id := 1) ?_|refine g_reg (id := 2) ?_|refine g_reg (id := 3) ?_|(apply s3;exact a_appE (fP rfl) rfl rfl rfl rfl nowR (by (simp <;> omega)) (by decide) (by decide) (by exact rfl);exact rfl;exact rfl)|(apply c4 1;exact callK1 (θ := []) (hD := (repeated_ok _ _ preB200 preB200 preB200));exact rfl;exact rfl;exact rfl;refine dM ?_)|fail
        refine o_turn (t_freeze (i := 6) rfl nowR) ?_
        repeat' first|(apply p3;exact a_litF (dst := some 32) eS [_,_,_,_] rfl rfl rfl rfl rfl rfl rfl rfl nowR;exact rfl)|(apply p3;exact a_litF (dst := some 39) eS [_,_] rfl rfl rfl rfl rfl rfl rfl rfl nowR;exact rfl)|(apply p3;exact a_litF (dst := some 46) eS [_,_] rfl rfl rfl rfl rfl rfl rfl rfl nowR;exact rfl)|(apply p3;(first|exact pu1|exact a_addS rfl rfl (by first|omega|(simp only [List.length_append,List.length_cons,List.length_nil];omega)));exact rfl)|refine cdn ?_|refine g_reg (id := 4) ?_|refine g_reg (id := 5) ?_|refine g_reg (id := 6) ?_|(apply c4 0;exact callK0 (θ := [_,_]) (hD := (tbSet_ok _ _ _ _ _ preB200 preB200 preB200 preB200 preB200 preB200 preB200));exact rfl;exact rfl;exact rfl;refine dM ?_)|fail
        repeat' first|(apply p3;(first|exact pu1|exact a_eqT rfl rfl);exact rfl)|refine cdn ?_|refine g_reg (id := 11) ?_|refine g_reg (id := 12) ?_|(apply c4 0;exact callK1 (θ := []) (hD := (letterOf_ok _ _ preB200 preB200));exact rfl;exact rfl;exact rfl;refine dM ?_)|fail
        repeat' first|(apply g_drN (id := 13) okM [[],[0],[0,1],[0,1,2],[],[],[],[6],[6,7],[6,7,8],[],[6,7,8,9,10],[6,7,8,9,10,11],[5,6,7,8,9,10,11,12],[5,6,7,8,9,10,11,12,13],[0,1,2,3,4,5,6,7,8,9,10,11,12,13,14],[0,1,2,3,4,5,6,7,8,9,10,11,12,13,14,15]] [([],[]),([],[]),([],[]),([],[]),([],[]),([],[]),([],[]),([],[]),([],[]),([],[]),([],[]),([],[]),([],[]),([0],[]),([],[]),([],[]),([],[1])] 1;(focus (refine dp 0 0 [91,92,93,94,95,96,97,98,99,100,101] [(true,0)] pu1 ?_;refine dp 1 1 [91,92,93,94,95,96,97,98,99,100,101] [(true,0)] (a_pure (sv := .one _) rfl) ?_;refine dp 2 3 [91,92,93,94,95,96,97,98,99,100,101] [(true,0)] (a_pure (sv := .one _) rfl) ?_;refine dp 3 7 [91,92,93,94,95,96,97,98,99,100,101] [(true,0)] puL ?_;refine dp 4 0 [87,88,89,90,92,93,94,95,96,97,98,99,100,101] [(true,0)] pu1 ?_;refine dp 5 0 [87,88,89,90,91,93,94,95,96,97,98,99] [] (a_litF (dst := some 92) eI [_] rfl rfl rfl rfl rfl rfl rfl rfl nowR) ?_;refine dp 6 0 [87,88,89,90,91,92,97] [] pu1 ?_;refine dp 7 1 [87,88,89,90,91,92,97] [] (a_pure (sv := .one _) rfl) ?_;refine dp 8 3 [87,88,89,90,91,92,97] [] (a_pure (sv := .one _) rfl) ?_;refine dp 9 7 [87,88,89,90,91,92,97] [] puL ?_;refine dp 10 0 [87,88,89,90,91,92,93,94,95,96] [] pu1 ?_;refine dp 11 31 [87,88,89,90,91,92] [] puI ?_;refine dp 12 63 [87,88,89,90,91,92] [] (by exact a_ldW rfl rfl rfl (fC rfl) bnd) ?_;refine duE 13 255 [87,88,89,90,91] [] (atN 0 (fun _ => a_litE eW [_,_] rfl rfl rfl rfl rfl rfl rfl rfl)) (by exact rfl) (by exact rfl) ?_;refine dp 14 511 [87,88,89,90,91] [] (callFD 1 (hD := (joined_ok [[0],((seN q n (seN q n (seN q n (seN q n ws [80,48] ([65] :: [120] :: repW [[97],[120]] (Int.toNat 0))) [112,48] [[97],[120],[97],[120]]) [81,48] [[66],[120]]) [114,48] [[98],[120]]))[(ltN [80,48] q).toNat * 1]'(by omega)] hJ))) ?_;refine dp 15 32767 [] [] puI ?_;refine duE 16 65535 [] [] (by exact a_stE (E := eW) _ rfl rfl rfl rfl (fN rfl rfl) bnd (by exact rfl)) (by exact rfl) (by exact rfl) ?_;(refine d_nil ?_;refine dN ?_)));any_goals kernel_rfl)|fail
        repeat refine cr ?_
        refine ends_id ?_
        refine endK [] (h2 := ?_) (h3 := ?_) (nd := ?_)
        all_goals (repeat' first|exact ce0|refine ce ?_|refine ce2 ?_ ?_|(refine Or.inr (bx_eq rfl rfl ?_);(try dsimp only [C.ren,C.ren.all]);(try exact rfl))|exact SVLe.refl|refine ceb ?_)
        all_goals first | exact (show nodupB _ = true from rfl) | exact Or.inr rfl | ((simp only [Nat.mul_one]))
      · subst hw
        have hq : ((q.toNat : Nat) : Int) = q := by omega
        have hrl : (repW [[97],[120]] (Int.toNat 1)).length = 2 := by rw [repW_len]; rfl
        refine does_of (k := 2) Tryz.func94 rfl Tryz.ntmps94 rfl rfl fun w F0 S0 ρ0 => ?_
        dsimp only [argT,argH]
        have hlc : ws.length = (seN q n (seN q n (seN q n (seN q n ws [80,48] ([65] :: [120] :: repW [[97],[120]] (Int.toNat 1))) [112,48] [[97],[120],[97],[120]]) [81,48] [[66],[120]]) [114,48] [[98],[120]]).length := by simp only [seN_len]
        have hk : (ltN [80,48] q).toNat = 30 * q.toNat + 10 := by rw [hz]; omega
        have hkl : (ltN [80,48] q).toNat < (seN q n (seN q n (seN q n (seN q n ws [80,48] ([65] :: [120] :: repW [[97],[120]] (Int.toNat 1))) [112,48] [[97],[120],[97],[120]]) [81,48] [[66],[120]]) [114,48] [[98],[120]]).length := by omega
        have hg := ru_get (q := q.toNat) (p := n) (n0 := ([65] :: [120] :: repW [[97],[120]] (Int.toNat 1))) (n1 := [[97],[120],[97],[120]]) (n2 := [[66],[120]]) (n3 := [[98],[120]]) (ws := ws) (k := (ltN [80,48] q).toNat) hk (by omega) (by rw [hq]; exact hkl)
        have hf := ru_zero (q := q.toNat) (r := ⟨1,1,n⟩) (n0 := ([65] :: [120] :: repW [[97],[120]] (Int.toNat 1))) (n1 := [[97],[120],[97],[120]]) (n2 := [[66],[120]]) (n3 := [[98],[120]]) (ws := ws) (k := (ltN [80,48] q).toNat) hk hr (by unfold rlN; rfl) (by omega) (by rw [hq]; exact hkl)
        simp only [hq] at hf hg
        have hJ : JnOk [[0],((seN q n (seN q n (seN q n (seN q n ws [80,48] ([65] :: [120] :: repW [[97],[120]] (Int.toNat 1))) [112,48] [[97],[120],[97],[120]]) [81,48] [[66],[120]]) [114,48] [[98],[120]]))[(ltN [80,48] q).toNat * 1]'(by omega)] := by simp only [Nat.mul_one]; rw [hg]; exact jn_two (by rw [wdN_len]; decide)
        rw [← hf]
        repeat' first|(apply n3;(first|exact a_new (gb := .bx _) rfl|exact a_litE eS [_,_] rfl rfl rfl rfl rfl rfl rfl rfl);exact rfl;refine dA ?_)|(apply p3;(first|exact pu1|exact puC|exact a_addS rfl rfl (by first|omega|(simp only [List.length_append,List.length_cons,List.length_nil];omega)));exact rfl)|refine cdn ?_|refine g_reg (id := 0) ?_|refine g_reg (id := 1) ?_|refine g_reg (id := 2) ?_|refine g_reg (id := 3) ?_|(apply s3;exact a_appE (fP rfl) rfl rfl rfl rfl nowR (by (simp <;> omega)) (by decide) (by decide) (by exact rfl);exact rfl;exact rfl)|(apply c4 1;exact callK1 (θ := []) (hD := (repeated_ok _ _ preB200 preB200 preB200));exact rfl;exact rfl;exact rfl;refine dM ?_)|fail
        refine o_turn (t_freeze (i := 6) rfl nowR) ?_
        repeat' first|(apply p3;exact a_litF (dst := some 32) eS [_,_,_,_] rfl rfl rfl rfl rfl rfl rfl rfl nowR;exact rfl)|(apply p3;exact a_litF (dst := some 39) eS [_,_] rfl rfl rfl rfl rfl rfl rfl rfl nowR;exact rfl)|(apply p3;exact a_litF (dst := some 46) eS [_,_] rfl rfl rfl rfl rfl rfl rfl rfl nowR;exact rfl)|(apply p3;(first|exact pu1|exact a_addS rfl rfl (by first|omega|(simp only [List.length_append,List.length_cons,List.length_nil];omega)));exact rfl)|refine cdn ?_|refine g_reg (id := 4) ?_|refine g_reg (id := 5) ?_|refine g_reg (id := 6) ?_|(apply c4 0;exact callK0 (θ := [_,_]) (hD := (tbSet_ok _ _ _ _ _ preB200 preB200 preB200 preB200 preB200 preB200 preB200));exact rfl;exact rfl;exact rfl;refine dM ?_)|fail
        repeat' first|(apply p3;(first|exact pu1|exact a_eqT rfl rfl);exact rfl)|refine cdn ?_|refine g_reg (id := 11) ?_|refine g_reg (id := 12) ?_|(apply c4 0;exact callK1 (θ := []) (hD := (letterOf_ok _ _ preB200 preB200));exact rfl;exact rfl;exact rfl;refine dM ?_)|fail
        repeat' first|(apply g_drN (id := 13) okM [[],[0],[0,1],[0,1,2],[],[],[],[6],[6,7],[6,7,8],[],[6,7,8,9,10],[6,7,8,9,10,11],[5,6,7,8,9,10,11,12],[5,6,7,8,9,10,11,12,13],[0,1,2,3,4,5,6,7,8,9,10,11,12,13,14],[0,1,2,3,4,5,6,7,8,9,10,11,12,13,14,15]] [([],[]),([],[]),([],[]),([],[]),([],[]),([],[]),([],[]),([],[]),([],[]),([],[]),([],[]),([],[]),([],[]),([0],[]),([],[]),([],[]),([],[1])] 1;(focus (refine dp 0 0 [91,92,93,94,95,96,97,98,99,100,101] [(true,0)] pu1 ?_;refine dp 1 1 [91,92,93,94,95,96,97,98,99,100,101] [(true,0)] (a_pure (sv := .one _) rfl) ?_;refine dp 2 3 [91,92,93,94,95,96,97,98,99,100,101] [(true,0)] (a_pure (sv := .one _) rfl) ?_;refine dp 3 7 [91,92,93,94,95,96,97,98,99,100,101] [(true,0)] puL ?_;refine dp 4 0 [87,88,89,90,92,93,94,95,96,97,98,99,100,101] [(true,0)] pu1 ?_;refine dp 5 0 [87,88,89,90,91,93,94,95,96,97,98,99] [] (a_litF (dst := some 92) eI [_] rfl rfl rfl rfl rfl rfl rfl rfl nowR) ?_;refine dp 6 0 [87,88,89,90,91,92,97] [] pu1 ?_;refine dp 7 1 [87,88,89,90,91,92,97] [] (a_pure (sv := .one _) rfl) ?_;refine dp 8 3 [87,88,89,90,91,92,97] [] (a_pure (sv := .one _) rfl) ?_;refine dp 9 7 [87,88,89,90,91,92,97] [] puL ?_;refine dp 10 0 [87,88,89,90,91,92,93,94,95,96] [] pu1 ?_;refine dp 11 31 [87,88,89,90,91,92] [] puI ?_;refine dp 12 63 [87,88,89,90,91,92] [] (by exact a_ldW rfl rfl rfl (fC rfl) bnd) ?_;refine duE 13 255 [87,88,89,90,91] [] (atN 0 (fun _ => a_litE eW [_,_] rfl rfl rfl rfl rfl rfl rfl rfl)) (by exact rfl) (by exact rfl) ?_;refine dp 14 511 [87,88,89,90,91] [] (callFD 1 (hD := (joined_ok [[0],((seN q n (seN q n (seN q n (seN q n ws [80,48] ([65] :: [120] :: repW [[97],[120]] (Int.toNat 1))) [112,48] [[97],[120],[97],[120]]) [81,48] [[66],[120]]) [114,48] [[98],[120]]))[(ltN [80,48] q).toNat * 1]'(by omega)] hJ))) ?_;refine dp 15 32767 [] [] puI ?_;refine duE 16 65535 [] [] (by exact a_stE (E := eW) _ rfl rfl rfl rfl (fN rfl rfl) bnd (by exact rfl)) (by exact rfl) (by exact rfl) ?_;(refine d_nil ?_;refine dN ?_)));any_goals kernel_rfl)|fail
        repeat refine cr ?_
        refine ends_id ?_
        refine endK [] (h2 := ?_) (h3 := ?_) (nd := ?_)
        all_goals (repeat' first|exact ce0|refine ce ?_|refine ce2 ?_ ?_|(refine Or.inr (bx_eq rfl rfl ?_);(try dsimp only [C.ren,C.ren.all]);(try exact rfl))|exact SVLe.refl|refine ceb ?_)
        all_goals first | exact (show nodupB _ = true from rfl) | exact Or.inr rfl | ((simp only [Nat.mul_one]))
    · subst hm
      rcases hw with hw | hw
      · subst hw
        have hq : ((q.toNat : Nat) : Int) = q := by omega
        have hrl : (repW [[102,49],[102,48]] (Int.toNat (2 * 0))).length = 0 := by rw [repW_len]; rfl
        refine does_of (k := 2) Tryz.func94 rfl Tryz.ntmps94 rfl rfl fun w F0 S0 ρ0 => ?_
        dsimp only [argT,argH]
        have hlc : ws.length = (seN q n (seN q n (seN q n (seN q n ws [80,48] [[69]]) [112,48] [[101]]) [81,48] ([70,49] :: [70,48] :: repW [[102,49],[102,48]] (Int.toNat (2 * 0)))) [114,48] (repW [[102,49],[102,48]] (Int.toNat 4))).length := by simp only [seN_len]
        have hk : (ltN [80,48] q).toNat = 30 * q.toNat + 10 := by rw [hz]; omega
        have hkl : (ltN [80,48] q).toNat < (seN q n (seN q n (seN q n (seN q n ws [80,48] [[69]]) [112,48] [[101]]) [81,48] ([70,49] :: [70,48] :: repW [[102,49],[102,48]] (Int.toNat (2 * 0)))) [114,48] (repW [[102,49],[102,48]] (Int.toNat 4))).length := by omega
        have hg := ru_get (q := q.toNat) (p := n) (n0 := [[69]]) (n1 := [[101]]) (n2 := ([70,49] :: [70,48] :: repW [[102,49],[102,48]] (Int.toNat (2 * 0)))) (n3 := (repW [[102,49],[102,48]] (Int.toNat 4))) (ws := ws) (k := (ltN [80,48] q).toNat) hk (by omega) (by rw [hq]; exact hkl)
        have hf := ru_zero (q := q.toNat) (r := ⟨0,-1,n⟩) (n0 := [[69]]) (n1 := [[101]]) (n2 := ([70,49] :: [70,48] :: repW [[102,49],[102,48]] (Int.toNat (2 * 0)))) (n3 := (repW [[102,49],[102,48]] (Int.toNat 4))) (ws := ws) (k := (ltN [80,48] q).toNat) hk hr (by unfold rlN; rfl) (by omega) (by rw [hq]; exact hkl)
        simp only [hq] at hf hg
        have hJ : JnOk [[0],((seN q n (seN q n (seN q n (seN q n ws [80,48] [[69]]) [112,48] [[101]]) [81,48] ([70,49] :: [70,48] :: repW [[102,49],[102,48]] (Int.toNat (2 * 0)))) [114,48] (repW [[102,49],[102,48]] (Int.toNat 4))))[(ltN [80,48] q).toNat * 1]'(by omega)] := by simp only [Nat.mul_one]; rw [hg]; exact jn_two (by rw [wdN_len]; decide)
        rw [← hf]
        repeat' first|(apply p3;exact a_litF (dst := some 53) eS [_] rfl rfl rfl rfl rfl rfl rfl rfl nowR;exact rfl)|(apply p3;exact a_litF (dst := some 60) eS [_] rfl rfl rfl rfl rfl rfl rfl rfl nowR;exact rfl)|(apply n3;(first|exact a_new (gb := .bx _) rfl|exact a_litE eS [_,_] rfl rfl rfl rfl rfl rfl rfl rfl);exact rfl;refine dA ?_)|(apply p3;(first|exact pu1|exact puC|exact a_addS rfl rfl (by first|omega|(simp only [List.length_append,List.length_cons,List.length_nil];omega)));exact rfl)|refine cdn ?_|refine g_reg (id := 0) ?_|refine g_reg (id := 1) ?_|refine g_reg (id := 2) ?_|refine g_reg (id := 7) ?_|refine g_reg (id := 8) ?_|refine g_reg (id := 9) ?_|(apply c4 0;exact callK0 (θ := [_,_]) (hD := (tbSet_ok _ _ _ _ _ preB200 preB200 preB200 preB200 preB200 preB200 preB200));exact rfl;exact rfl;exact rfl;refine dM ?_)|fail
        dsimp only
        repeat' first|(apply n3;(exact a_litE eS [_,_] rfl rfl rfl rfl rfl rfl rfl rfl);exact rfl;refine dA ?_)|(apply p3;(exact a_mulB rfl rfl (by omega) (by omega) (by omega) (by omega));exact rfl)|(apply s3;exact a_appE (fP rfl) rfl rfl rfl rfl nowR (by (simp <;> omega)) (by decide) (by decide) (by exact rfl);exact rfl;exact rfl)|(apply c4 1;exact callK1 (θ := []) (hD := (repeated_ok _ _ preB200 preB200 preB200));exact rfl;exact rfl;exact rfl;refine dM ?_)|fail
        refine o_turn (t_freeze (i := 6) rfl nowR) ?_
        repeat' first|(apply n3;(exact a_litE eS [_,_] rfl rfl rfl rfl rfl rfl rfl rfl);exact rfl;refine dA ?_)|(apply p3;(first|exact pu1|exact a_addS rfl rfl (by first|omega|(simp only [List.length_append,List.length_cons,List.length_nil];omega)));exact rfl)|refine cdn ?_|refine g_reg (id := 10) ?_|(apply c4 1;exact callK1 (θ := []) (hD := (repeated_ok _ _ preB200 preB200 preB200));exact rfl;exact rfl;exact rfl;refine dM ?_)|(apply c4 0;exact callK0 (θ := [_,_]) (hD := (tbSet_ok _ _ _ _ _ preB200 preB200 preB200 preB200 preB200 preB200 preB200));exact rfl;exact rfl;exact rfl;refine dM ?_)|fail
        refine o_turn (t_freeze (i := 8) rfl nowR) ?_
        repeat' first|refine cdn ?_|(apply c4 0;exact callK0 (θ := [_,_]) (hD := (tbSet_ok _ _ _ _ _ preB200 preB200 preB200 preB200 preB200 preB200 preB200));exact rfl;exact rfl;exact rfl;refine dM ?_)|fail
        repeat' first|(apply p3;(first|exact pu1|exact a_eqT rfl rfl);exact rfl)|refine cdn ?_|refine g_reg (id := 11) ?_|refine g_reg (id := 12) ?_|(apply c4 0;exact callK1 (θ := []) (hD := (letterOf_ok _ _ preB200 preB200));exact rfl;exact rfl;exact rfl;refine dM ?_)|fail
        repeat' first|(apply g_drN (id := 13) okM [[],[0],[0,1],[0,1,2],[],[],[],[6],[6,7],[6,7,8],[],[6,7,8,9,10],[6,7,8,9,10,11],[5,6,7,8,9,10,11,12],[5,6,7,8,9,10,11,12,13],[0,1,2,3,4,5,6,7,8,9,10,11,12,13,14],[0,1,2,3,4,5,6,7,8,9,10,11,12,13,14,15]] [([],[]),([],[]),([],[]),([],[]),([],[]),([],[]),([],[]),([],[]),([],[]),([],[]),([],[]),([],[]),([],[]),([0],[]),([],[]),([],[]),([],[1])] 1;(focus (refine dp 0 0 [91,92,93,94,95,96,97,98,99,100,101] [(true,0)] pu1 ?_;refine dp 1 1 [91,92,93,94,95,96,97,98,99,100,101] [(true,0)] (a_pure (sv := .one _) rfl) ?_;refine dp 2 3 [91,92,93,94,95,96,97,98,99,100,101] [(true,0)] (a_pure (sv := .one _) rfl) ?_;refine dp 3 7 [91,92,93,94,95,96,97,98,99,100,101] [(true,0)] puL ?_;refine dp 4 0 [87,88,89,90,92,93,94,95,96,97,98,99,100,101] [(true,0)] pu1 ?_;refine dp 5 0 [87,88,89,90,91,93,94,95,96,97,98,99] [] (a_litF (dst := some 92) eI [_] rfl rfl rfl rfl rfl rfl rfl rfl nowR) ?_;refine dp 6 0 [87,88,89,90,91,92,97] [] pu1 ?_;refine dp 7 1 [87,88,89,90,91,92,97] [] (a_pure (sv := .one _) rfl) ?_;refine dp 8 3 [87,88,89,90,91,92,97] [] (a_pure (sv := .one _) rfl) ?_;refine dp 9 7 [87,88,89,90,91,92,97] [] puL ?_;refine dp 10 0 [87,88,89,90,91,92,93,94,95,96] [] pu1 ?_;refine dp 11 31 [87,88,89,90,91,92] [] puI ?_;refine dp 12 63 [87,88,89,90,91,92] [] (by exact a_ldW rfl rfl rfl (fC rfl) bnd) ?_;refine duE 13 255 [87,88,89,90,91] [] (atN 0 (fun _ => a_litE eW [_,_] rfl rfl rfl rfl rfl rfl rfl rfl)) (by exact rfl) (by exact rfl) ?_;refine dp 14 511 [87,88,89,90,91] [] (callFD 1 (hD := (joined_ok [[0],((seN q n (seN q n (seN q n (seN q n ws [80,48] [[69]]) [112,48] [[101]]) [81,48] ([70,49] :: [70,48] :: repW [[102,49],[102,48]] (Int.toNat (2 * 0)))) [114,48] (repW [[102,49],[102,48]] (Int.toNat 4))))[(ltN [80,48] q).toNat * 1]'(by omega)] hJ))) ?_;refine dp 15 32767 [] [] puI ?_;refine duE 16 65535 [] [] (by exact a_stE (E := eW) _ rfl rfl rfl rfl (fN rfl rfl) bnd (by exact rfl)) (by exact rfl) (by exact rfl) ?_;(refine d_nil ?_;refine dN ?_)));any_goals kernel_rfl)|fail
        repeat refine cr ?_
        refine ends_id ?_
        refine endK [] (h2 := ?_) (h3 := ?_) (nd := ?_)
        all_goals (repeat' first|exact ce0|refine ce ?_|refine ce2 ?_ ?_|(refine Or.inr (bx_eq rfl rfl ?_);(try dsimp only [C.ren,C.ren.all]);(try exact rfl))|exact SVLe.refl|refine ceb ?_)
        all_goals first | exact (show nodupB _ = true from rfl) | exact Or.inr rfl | ((simp only [Nat.mul_one]))
      · subst hw
        have hq : ((q.toNat : Nat) : Int) = q := by omega
        have hrl : (repW [[102,49],[102,48]] (Int.toNat (2 * 1))).length = 4 := by rw [repW_len]; rfl
        refine does_of (k := 2) Tryz.func94 rfl Tryz.ntmps94 rfl rfl fun w F0 S0 ρ0 => ?_
        dsimp only [argT,argH]
        have hlc : ws.length = (seN q n (seN q n (seN q n (seN q n ws [80,48] [[69]]) [112,48] [[101]]) [81,48] ([70,49] :: [70,48] :: repW [[102,49],[102,48]] (Int.toNat (2 * 1)))) [114,48] (repW [[102,49],[102,48]] (Int.toNat 4))).length := by simp only [seN_len]
        have hk : (ltN [80,48] q).toNat = 30 * q.toNat + 10 := by rw [hz]; omega
        have hkl : (ltN [80,48] q).toNat < (seN q n (seN q n (seN q n (seN q n ws [80,48] [[69]]) [112,48] [[101]]) [81,48] ([70,49] :: [70,48] :: repW [[102,49],[102,48]] (Int.toNat (2 * 1)))) [114,48] (repW [[102,49],[102,48]] (Int.toNat 4))).length := by omega
        have hg := ru_get (q := q.toNat) (p := n) (n0 := [[69]]) (n1 := [[101]]) (n2 := ([70,49] :: [70,48] :: repW [[102,49],[102,48]] (Int.toNat (2 * 1)))) (n3 := (repW [[102,49],[102,48]] (Int.toNat 4))) (ws := ws) (k := (ltN [80,48] q).toNat) hk (by omega) (by rw [hq]; exact hkl)
        have hf := ru_zero (q := q.toNat) (r := ⟨1,-1,n⟩) (n0 := [[69]]) (n1 := [[101]]) (n2 := ([70,49] :: [70,48] :: repW [[102,49],[102,48]] (Int.toNat (2 * 1)))) (n3 := (repW [[102,49],[102,48]] (Int.toNat 4))) (ws := ws) (k := (ltN [80,48] q).toNat) hk hr (by unfold rlN; rfl) (by omega) (by rw [hq]; exact hkl)
        simp only [hq] at hf hg
        have hJ : JnOk [[0],((seN q n (seN q n (seN q n (seN q n ws [80,48] [[69]]) [112,48] [[101]]) [81,48] ([70,49] :: [70,48] :: repW [[102,49],[102,48]] (Int.toNat (2 * 1)))) [114,48] (repW [[102,49],[102,48]] (Int.toNat 4))))[(ltN [80,48] q).toNat * 1]'(by omega)] := by simp only [Nat.mul_one]; rw [hg]; exact jn_two (by rw [wdN_len]; decide)
        rw [← hf]
        repeat' first|(apply p3;exact a_litF (dst := some 53) eS [_] rfl rfl rfl rfl rfl rfl rfl rfl nowR;exact rfl)|(apply p3;exact a_litF (dst := some 60) eS [_] rfl rfl rfl rfl rfl rfl rfl rfl nowR;exact rfl)|(apply n3;(first|exact a_new (gb := .bx _) rfl|exact a_litE eS [_,_] rfl rfl rfl rfl rfl rfl rfl rfl);exact rfl;refine dA ?_)|(apply p3;(first|exact pu1|exact puC|exact a_addS rfl rfl (by first|omega|(simp only [List.length_append,List.length_cons,List.length_nil];omega)));exact rfl)|refine cdn ?_|refine g_reg (id := 0) ?_|refine g_reg (id := 1) ?_|refine g_reg (id := 2) ?_|refine g_reg (id := 7) ?_|refine g_reg (id := 8) ?_|refine g_reg (id := 9) ?_|(apply c4 0;exact callK0 (θ := [_,_]) (hD := (tbSet_ok _ _ _ _ _ preB200 preB200 preB200 preB200 preB200 preB200 preB200));exact rfl;exact rfl;exact rfl;refine dM ?_)|fail
        dsimp only
        repeat' first|(apply n3;(exact a_litE eS [_,_] rfl rfl rfl rfl rfl rfl rfl rfl);exact rfl;refine dA ?_)|(apply p3;(exact a_mulB rfl rfl (by omega) (by omega) (by omega) (by omega));exact rfl)|(apply s3;exact a_appE (fP rfl) rfl rfl rfl rfl nowR (by (simp <;> omega)) (by decide) (by decide) (by exact rfl);exact rfl;exact rfl)|(apply c4 1;exact callK1 (θ := []) (hD := (repeated_ok _ _ preB200 preB200 preB200));exact rfl;exact rfl;exact rfl;refine dM ?_)|fail
        refine o_turn (t_freeze (i := 6) rfl nowR) ?_
        repeat' first|(apply n3;(exact a_litE eS [_,_] rfl rfl rfl rfl rfl rfl rfl rfl);exact rfl;refine dA ?_)|(apply p3;(first|exact pu1|exact a_addS rfl rfl (by first|omega|(simp only [List.length_append,List.length_cons,List.length_nil];omega)));exact rfl)|refine cdn ?_|refine g_reg (id := 10) ?_|(apply c4 1;exact callK1 (θ := []) (hD := (repeated_ok _ _ preB200 preB200 preB200));exact rfl;exact rfl;exact rfl;refine dM ?_)|(apply c4 0;exact callK0 (θ := [_,_]) (hD := (tbSet_ok _ _ _ _ _ preB200 preB200 preB200 preB200 preB200 preB200 preB200));exact rfl;exact rfl;exact rfl;refine dM ?_)|fail
        refine o_turn (t_freeze (i := 8) rfl nowR) ?_
        repeat' first|refine cdn ?_|(apply c4 0;exact callK0 (θ := [_,_]) (hD := (tbSet_ok _ _ _ _ _ preB200 preB200 preB200 preB200 preB200 preB200 preB200));exact rfl;exact rfl;exact rfl;refine dM ?_)|fail
        repeat' first|(apply p3;(first|exact pu1|exact a_eqT rfl rfl);exact rfl)|refine cdn ?_|refine g_reg (id := 11) ?_|refine g_reg (id := 12) ?_|(apply c4 0;exact callK1 (θ := []) (hD := (letterOf_ok _ _ preB200 preB200));exact rfl;exact rfl;exact rfl;refine dM ?_)|fail
        repeat' first|(apply g_drN (id := 13) okM [[],[0],[0,1],[0,1,2],[],[],[],[6],[6,7],[6,7,8],[],[6,7,8,9,10],[6,7,8,9,10,11],[5,6,7,8,9,10,11,12],[5,6,7,8,9,10,11,12,13],[0,1,2,3,4,5,6,7,8,9,10,11,12,13,14],[0,1,2,3,4,5,6,7,8,9,10,11,12,13,14,15]] [([],[]),([],[]),([],[]),([],[]),([],[]),([],[]),([],[]),([],[]),([],[]),([],[]),([],[]),([],[]),([],[]),([0],[]),([],[]),([],[]),([],[1])] 1;(focus (refine dp 0 0 [91,92,93,94,95,96,97,98,99,100,101] [(true,0)] pu1 ?_;refine dp 1 1 [91,92,93,94,95,96,97,98,99,100,101] [(true,0)] (a_pure (sv := .one _) rfl) ?_;refine dp 2 3 [91,92,93,94,95,96,97,98,99,100,101] [(true,0)] (a_pure (sv := .one _) rfl) ?_;refine dp 3 7 [91,92,93,94,95,96,97,98,99,100,101] [(true,0)] puL ?_;refine dp 4 0 [87,88,89,90,92,93,94,95,96,97,98,99,100,101] [(true,0)] pu1 ?_;refine dp 5 0 [87,88,89,90,91,93,94,95,96,97,98,99] [] (a_litF (dst := some 92) eI [_] rfl rfl rfl rfl rfl rfl rfl rfl nowR) ?_;refine dp 6 0 [87,88,89,90,91,92,97] [] pu1 ?_;refine dp 7 1 [87,88,89,90,91,92,97] [] (a_pure (sv := .one _) rfl) ?_;refine dp 8 3 [87,88,89,90,91,92,97] [] (a_pure (sv := .one _) rfl) ?_;refine dp 9 7 [87,88,89,90,91,92,97] [] puL ?_;refine dp 10 0 [87,88,89,90,91,92,93,94,95,96] [] pu1 ?_;refine dp 11 31 [87,88,89,90,91,92] [] puI ?_;refine dp 12 63 [87,88,89,90,91,92] [] (by exact a_ldW rfl rfl rfl (fC rfl) bnd) ?_;refine duE 13 255 [87,88,89,90,91] [] (atN 0 (fun _ => a_litE eW [_,_] rfl rfl rfl rfl rfl rfl rfl rfl)) (by exact rfl) (by exact rfl) ?_;refine dp 14 511 [87,88,89,90,91] [] (callFD 1 (hD := (joined_ok [[0],((seN q n (seN q n (seN q n (seN q n ws [80,48] [[69]]) [112,48] [[101]]) [81,48] ([70,49] :: [70,48] :: repW [[102,49],[102,48]] (Int.toNat (2 * 1)))) [114,48] (repW [[102,49],[102,48]] (Int.toNat 4))))[(ltN [80,48] q).toNat * 1]'(by omega)] hJ))) ?_;refine dp 15 32767 [] [] puI ?_;refine duE 16 65535 [] [] (by exact a_stE (E := eW) _ rfl rfl rfl rfl (fN rfl rfl) bnd (by exact rfl)) (by exact rfl) (by exact rfl) ?_;(refine d_nil ?_;refine dN ?_)));any_goals kernel_rfl)|fail
        repeat refine cr ?_
        refine ends_id ?_
        refine endK [] (h2 := ?_) (h3 := ?_) (nd := ?_)
        all_goals (repeat' first|exact ce0|refine ce ?_|refine ce2 ?_ ?_|(refine Or.inr (bx_eq rfl rfl ?_);(try dsimp only [C.ren,C.ren.all]);(try exact rfl))|exact SVLe.refl|refine ceb ?_)
        all_goals first | exact (show nodupB _ = true from rfl) | exact Or.inr rfl | ((simp only [Nat.mul_one]))
  · subst hd1 hd2
    rcases hm with hm | hm
    · subst hm
      rcases hw with hw | hw
      · subst hw
        have hq : ((q.toNat : Nat) : Int) = q := by omega
        have hrl : (repW [[97],[120]] (Int.toNat 0)).length = 0 := by rw [repW_len]; rfl
        refine does_of (k := 2) Tryz.func94 rfl Tryz.ntmps94 rfl rfl fun w F0 S0 ρ0 => ?_
        dsimp only [argT,argH]
        have hf := ru_four (q := q.toNat) (s := 1) (r := ⟨0,1,n⟩) (d := [49]) (n0 := ([65] :: [120] :: repW [[97],[120]] (Int.toNat 0))) (n1 := [[97],[120],[97],[120]]) (n2 := [[66],[120]]) (n3 := [[98],[120]]) (ws := ws) (.inr ⟨rfl,rfl⟩) hr (by unfold rlN; rfl)
        rw [hq] at hf
        rw [← hf]
        repeat' first|(apply n3;(first|exact a_new (gb := .bx _) rfl|exact a_litE eS [_,_] rfl rfl rfl rfl rfl rfl rfl rfl);exact rfl;refine dA ?_)|(apply p3;(first|exact pu1|exact puC|exact a_addS rfl rfl (by first|omega|(simp only [List.length_append,List.length_cons,List.length_nil];omega)));exact rfl)|refine cdn ?_|refine g_reg (id := 0) ?_|refine g_reg (id := 1) ?_|refine g_reg (id := 2) ?_|refine g_reg (id := 3) ?_|(apply s3;exact a_appE (fP rfl) rfl rfl rfl rfl nowR (by (simp <;> omega)) (by decide) (by decide) (by exact rfl);exact rfl;exact rfl)|(apply c4 1;exact callK1 (θ := []) (hD := (repeated_ok _ _ preB200 preB200 preB200));exact rfl;exact rfl;exact rfl;refine dM ?_)|fail
        refine o_turn (t_freeze (i := 6) rfl nowR) ?_
        repeat' first|(apply p3;exact a_litF (dst := some 32) eS [_,_,_,_] rfl rfl rfl rfl rfl rfl rfl rfl nowR;exact rfl)|(apply p3;exact a_litF (dst := some 39) eS [_,_] rfl rfl rfl rfl rfl rfl rfl rfl nowR;exact rfl)|(apply p3;exact a_litF (dst := some 46) eS [_,_] rfl rfl rfl rfl rfl rfl rfl rfl nowR;exact rfl)|(apply p3;(first|exact pu1|exact a_addS rfl rfl (by first|omega|(simp only [List.length_append,List.length_cons,List.length_nil];omega)));exact rfl)|refine cdn ?_|refine g_reg (id := 4) ?_|refine g_reg (id := 5) ?_|refine g_reg (id := 6) ?_|(apply c4 0;exact callK0 (θ := [_,_]) (hD := (tbSet_ok _ _ _ _ _ preB200 preB200 preB200 preB200 preB200 preB200 preB200));exact rfl;exact rfl;exact rfl;refine dM ?_)|fail
        repeat' first|(apply p3;(first|exact pu1|exact a_eqT rfl rfl);exact rfl)|refine cd ?_|(apply c4 0;exact callK1 (θ := []) (hD := (letterOf_ok _ _ preB200 preB200));exact rfl;exact rfl;exact rfl;refine dM ?_)|fail
        repeat refine cr ?_
        refine ends_id ?_
        refine endK [] (h2 := ?_) (h3 := ?_) (nd := ?_)
        all_goals (repeat' first|exact ce0|refine ce ?_|refine ce2 ?_ ?_|(refine Or.inr (bx_eq rfl rfl ?_);(try dsimp only [C.ren,C.ren.all]);(try exact rfl))|exact SVLe.refl|refine ceb ?_)
        all_goals first | exact (show nodupB _ = true from rfl) | exact Or.inr rfl | (rfl)
      · subst hw
        have hq : ((q.toNat : Nat) : Int) = q := by omega
        have hrl : (repW [[97],[120]] (Int.toNat 1)).length = 2 := by rw [repW_len]; rfl
        refine does_of (k := 2) Tryz.func94 rfl Tryz.ntmps94 rfl rfl fun w F0 S0 ρ0 => ?_
        dsimp only [argT,argH]
        have hf := ru_four (q := q.toNat) (s := 1) (r := ⟨1,1,n⟩) (d := [49]) (n0 := ([65] :: [120] :: repW [[97],[120]] (Int.toNat 1))) (n1 := [[97],[120],[97],[120]]) (n2 := [[66],[120]]) (n3 := [[98],[120]]) (ws := ws) (.inr ⟨rfl,rfl⟩) hr (by unfold rlN; rfl)
        rw [hq] at hf
        rw [← hf]
        repeat' first|(apply n3;(first|exact a_new (gb := .bx _) rfl|exact a_litE eS [_,_] rfl rfl rfl rfl rfl rfl rfl rfl);exact rfl;refine dA ?_)|(apply p3;(first|exact pu1|exact puC|exact a_addS rfl rfl (by first|omega|(simp only [List.length_append,List.length_cons,List.length_nil];omega)));exact rfl)|refine cdn ?_|refine g_reg (id := 0) ?_|refine g_reg (id := 1) ?_|refine g_reg (id := 2) ?_|refine g_reg (id := 3) ?_|(apply s3;exact a_appE (fP rfl) rfl rfl rfl rfl nowR (by (simp <;> omega)) (by decide) (by decide) (by exact rfl);exact rfl;exact rfl)|(apply c4 1;exact callK1 (θ := []) (hD := (repeated_ok _ _ preB200 preB200 preB200));exact rfl;exact rfl;exact rfl;refine dM ?_)|fail
        refine o_turn (t_freeze (i := 6) rfl nowR) ?_
        repeat' first|(apply p3;exact a_litF (dst := some 32) eS [_,_,_,_] rfl rfl rfl rfl rfl rfl rfl rfl nowR;exact rfl)|(apply p3;exact a_litF (dst := some 39) eS [_,_] rfl rfl rfl rfl rfl rfl rfl rfl nowR;exact rfl)|(apply p3;exact a_litF (dst := some 46) eS [_,_] rfl rfl rfl rfl rfl rfl rfl rfl nowR;exact rfl)|(apply p3;(first|exact pu1|exact a_addS rfl rfl (by first|omega|(simp only [List.length_append,List.length_cons,List.length_nil];omega)));exact rfl)|refine cdn ?_|refine g_reg (id := 4) ?_|refine g_reg (id := 5) ?_|refine g_reg (id := 6) ?_|(apply c4 0;exact callK0 (θ := [_,_]) (hD := (tbSet_ok _ _ _ _ _ preB200 preB200 preB200 preB200 preB200 preB200 preB200));exact rfl;exact rfl;exact rfl;refine dM ?_)|fail
        repeat' first|(apply p3;(first|exact pu1|exact a_eqT rfl rfl);exact rfl)|refine cd ?_|(apply c4 0;exact callK1 (θ := []) (hD := (letterOf_ok _ _ preB200 preB200));exact rfl;exact rfl;exact rfl;refine dM ?_)|fail
        repeat refine cr ?_
        refine ends_id ?_
        refine endK [] (h2 := ?_) (h3 := ?_) (nd := ?_)
        all_goals (repeat' first|exact ce0|refine ce ?_|refine ce2 ?_ ?_|(refine Or.inr (bx_eq rfl rfl ?_);(try dsimp only [C.ren,C.ren.all]);(try exact rfl))|exact SVLe.refl|refine ceb ?_)
        all_goals first | exact (show nodupB _ = true from rfl) | exact Or.inr rfl | (rfl)
    · subst hm
      rcases hw with hw | hw
      · subst hw
        have hq : ((q.toNat : Nat) : Int) = q := by omega
        have hrl : (repW [[102,49],[102,48]] (Int.toNat (2 * 0))).length = 0 := by rw [repW_len]; rfl
        refine does_of (k := 2) Tryz.func94 rfl Tryz.ntmps94 rfl rfl fun w F0 S0 ρ0 => ?_
        dsimp only [argT,argH]
        have hf := ru_four (q := q.toNat) (s := 1) (r := ⟨0,-1,n⟩) (d := [49]) (n0 := [[69]]) (n1 := [[101]]) (n2 := ([70,49] :: [70,48] :: repW [[102,49],[102,48]] (Int.toNat (2 * 0)))) (n3 := (repW [[102,49],[102,48]] (Int.toNat 4))) (ws := ws) (.inr ⟨rfl,rfl⟩) hr (by unfold rlN; rfl)
        rw [hq] at hf
        rw [← hf]
        repeat' first|(apply p3;exact a_litF (dst := some 53) eS [_] rfl rfl rfl rfl rfl rfl rfl rfl nowR;exact rfl)|(apply p3;exact a_litF (dst := some 60) eS [_] rfl rfl rfl rfl rfl rfl rfl rfl nowR;exact rfl)|(apply n3;(first|exact a_new (gb := .bx _) rfl|exact a_litE eS [_,_] rfl rfl rfl rfl rfl rfl rfl rfl);exact rfl;refine dA ?_)|(apply p3;(first|exact pu1|exact puC|exact a_addS rfl rfl (by first|omega|(simp only [List.length_append,List.length_cons,List.length_nil];omega)));exact rfl)|refine cdn ?_|refine g_reg (id := 0) ?_|refine g_reg (id := 1) ?_|refine g_reg (id := 2) ?_|refine g_reg (id := 7) ?_|refine g_reg (id := 8) ?_|refine g_reg (id := 9) ?_|(apply c4 0;exact callK0 (θ := [_,_]) (hD := (tbSet_ok _ _ _ _ _ preB200 preB200 preB200 preB200 preB200 preB200 preB200));exact rfl;exact rfl;exact rfl;refine dM ?_)|fail
        dsimp only
        repeat' first|(apply n3;(exact a_litE eS [_,_] rfl rfl rfl rfl rfl rfl rfl rfl);exact rfl;refine dA ?_)|(apply p3;(exact a_mulB rfl rfl (by omega) (by omega) (by omega) (by omega));exact rfl)|(apply s3;exact a_appE (fP rfl) rfl rfl rfl rfl nowR (by (simp <;> omega)) (by decide) (by decide) (by exact rfl);exact rfl;exact rfl)|(apply c4 1;exact callK1 (θ := []) (hD := (repeated_ok _ _ preB200 preB200 preB200));exact rfl;exact rfl;exact rfl;refine dM ?_)|fail
        refine o_turn (t_freeze (i := 6) rfl nowR) ?_
        repeat' first|(apply n3;(exact a_litE eS [_,_] rfl rfl rfl rfl rfl rfl rfl rfl);exact rfl;refine dA ?_)|(apply p3;(first|exact pu1|exact a_addS rfl rfl (by first|omega|(simp only [List.length_append,List.length_cons,List.length_nil];omega)));exact rfl)|refine cdn ?_|refine g_reg (id := 10) ?_|(apply c4 1;exact callK1 (θ := []) (hD := (repeated_ok _ _ preB200 preB200 preB200));exact rfl;exact rfl;exact rfl;refine dM ?_)|(apply c4 0;exact callK0 (θ := [_,_]) (hD := (tbSet_ok _ _ _ _ _ preB200 preB200 preB200 preB200 preB200 preB200 preB200));exact rfl;exact rfl;exact rfl;refine dM ?_)|fail
        refine o_turn (t_freeze (i := 8) rfl nowR) ?_
        repeat' first|refine cdn ?_|(apply c4 0;exact callK0 (θ := [_,_]) (hD := (tbSet_ok _ _ _ _ _ preB200 preB200 preB200 preB200 preB200 preB200 preB200));exact rfl;exact rfl;exact rfl;refine dM ?_)|fail
        repeat' first|(apply p3;(first|exact pu1|exact a_eqT rfl rfl);exact rfl)|refine cd ?_|(apply c4 0;exact callK1 (θ := []) (hD := (letterOf_ok _ _ preB200 preB200));exact rfl;exact rfl;exact rfl;refine dM ?_)|fail
        repeat refine cr ?_
        refine ends_id ?_
        refine endK [] (h2 := ?_) (h3 := ?_) (nd := ?_)
        all_goals (repeat' first|exact ce0|refine ce ?_|refine ce2 ?_ ?_|(refine Or.inr (bx_eq rfl rfl ?_);(try dsimp only [C.ren,C.ren.all]);(try exact rfl))|exact SVLe.refl|refine ceb ?_)
        all_goals first | exact (show nodupB _ = true from rfl) | exact Or.inr rfl | (rfl)
      · subst hw
        have hq : ((q.toNat : Nat) : Int) = q := by omega
        have hrl : (repW [[102,49],[102,48]] (Int.toNat (2 * 1))).length = 4 := by rw [repW_len]; rfl
        refine does_of (k := 2) Tryz.func94 rfl Tryz.ntmps94 rfl rfl fun w F0 S0 ρ0 => ?_
        dsimp only [argT,argH]
        have hf := ru_four (q := q.toNat) (s := 1) (r := ⟨1,-1,n⟩) (d := [49]) (n0 := [[69]]) (n1 := [[101]]) (n2 := ([70,49] :: [70,48] :: repW [[102,49],[102,48]] (Int.toNat (2 * 1)))) (n3 := (repW [[102,49],[102,48]] (Int.toNat 4))) (ws := ws) (.inr ⟨rfl,rfl⟩) hr (by unfold rlN; rfl)
        rw [hq] at hf
        rw [← hf]
        repeat' first|(apply p3;exact a_litF (dst := some 53) eS [_] rfl rfl rfl rfl rfl rfl rfl rfl nowR;exact rfl)|(apply p3;exact a_litF (dst := some 60) eS [_] rfl rfl rfl rfl rfl rfl rfl rfl nowR;exact rfl)|(apply n3;(first|exact a_new (gb := .bx _) rfl|exact a_litE eS [_,_] rfl rfl rfl rfl rfl rfl rfl rfl);exact rfl;refine dA ?_)|(apply p3;(first|exact pu1|exact puC|exact a_addS rfl rfl (by first|omega|(simp only [List.length_append,List.length_cons,List.length_nil];omega)));exact rfl)|refine cdn ?_|refine g_reg (id := 0) ?_|refine g_reg (id := 1) ?_|refine g_reg (id := 2) ?_|refine g_reg (id := 7) ?_|refine g_reg (id := 8) ?_|refine g_reg (id := 9) ?_|(apply c4 0;exact callK0 (θ := [_,_]) (hD := (tbSet_ok _ _ _ _ _ preB200 preB200 preB200 preB200 preB200 preB200 preB200));exact rfl;exact rfl;exact rfl;refine dM ?_)|fail
        dsimp only
        repeat' first|(apply n3;(exact a_litE eS [_,_] rfl rfl rfl rfl rfl rfl rfl rfl);exact rfl;refine dA ?_)|(apply p3;(exact a_mulB rfl rfl (by omega) (by omega) (by omega) (by omega));exact rfl)|(apply s3;exact a_appE (fP rfl) rfl rfl rfl rfl nowR (by (simp <;> omega)) (by decide) (by decide) (by exact rfl);exact rfl;exact rfl)|(apply c4 1;exact callK1 (θ := []) (hD := (repeated_ok _ _ preB200 preB200 preB200));exact rfl;exact rfl;exact rfl;refine dM ?_)|fail
        refine o_turn (t_freeze (i := 6) rfl nowR) ?_
        repeat' first|(apply n3;(exact a_litE eS [_,_] rfl rfl rfl rfl rfl rfl rfl rfl);exact rfl;refine dA ?_)|(apply p3;(first|exact pu1|exact a_addS rfl rfl (by first|omega|(simp only [List.length_append,List.length_cons,List.length_nil];omega)));exact rfl)|refine cdn ?_|refine g_reg (id := 10) ?_|(apply c4 1;exact callK1 (θ := []) (hD := (repeated_ok _ _ preB200 preB200 preB200));exact rfl;exact rfl;exact rfl;refine dM ?_)|(apply c4 0;exact callK0 (θ := [_,_]) (hD := (tbSet_ok _ _ _ _ _ preB200 preB200 preB200 preB200 preB200 preB200 preB200));exact rfl;exact rfl;exact rfl;refine dM ?_)|fail
        refine o_turn (t_freeze (i := 8) rfl nowR) ?_
        repeat' first|refine cdn ?_|(apply c4 0;exact callK0 (θ := [_,_]) (hD := (tbSet_ok _ _ _ _ _ preB200 preB200 preB200 preB200 preB200 preB200 preB200));exact rfl;exact rfl;exact rfl;refine dM ?_)|fail
        repeat' first|(apply p3;(first|exact pu1|exact a_eqT rfl rfl);exact rfl)|refine cd ?_|(apply c4 0;exact callK1 (θ := []) (hD := (letterOf_ok _ _ preB200 preB200));exact rfl;exact rfl;exact rfl;refine dM ?_)|fail
        repeat refine cr ?_
        refine ends_id ?_
        refine endK [] (h2 := ?_) (h3 := ?_) (nd := ?_)
        all_goals (repeat' first|exact ce0|refine ce ?_|refine ce2 ?_ ?_|(refine Or.inr (bx_eq rfl rfl ?_);(try dsimp only [C.ren,C.ren.all]);(try exact rfl))|exact SVLe.refl|refine ceb ?_)
        all_goals first | exact (show nodupB _ = true from rfl) | exact Or.inr rfl | (rfl)
end Go.Proofs.YtjmlbmmbionmcaaGreatDoor
end
section
set_option linter.unusedVariables false
set_option linter.unusedSimpArgs false
set_option maxRecDepth 100000
set_option maxHeartbeats 1000000
namespace Go.Proofs.YtjmlbmmbionmcaaGreatDoor
open Go Foot Go.RowKit
structure InR (P rest : List Int) (x : Int) (c : List Int) (j : Nat) : Prop where
  ex : ∃ A B,c = A ++ x :: (B ++ rest) ∧ A ++ B = P ∧ A.length = j ∧ ∀ b ∈ B,x ≤ b
theorem inR_len {P rest : List Int} {x : Int} {c : List Int} {j : Nat} (h : InR P rest x c j) : c.length = P.length + 1 + rest.length ∧ j ≤ P.length := by
  obtain ⟨A,B,e1,e2,e3,_⟩ := h.ex
  have := congrArg List.length e2
  rw [List.length_append] at this
  rw [e1,List.length_append,List.length_cons,List.length_append]
  omega
theorem inR_0 {y : List Int} {i : Nat} (h : i < y.length) : InR (y.take i) (y.drop (i + 1)) (y[i]) y i :=
  ⟨y.take i,[],by rw [List.nil_append,← List.drop_eq_getElem_cons h,List.take_append_drop],by rw [List.append_nil],by rw [List.length_take]; omega,by simp⟩
theorem inR_s {P rest : List Int} {x : Int} {c : List Int} {j : Nat} (h : InR P rest x c (j + 1)) {u v : Int} (hu : c[j + 1]? = some u) (hv : c[j]? = some v) (hlt : u < v) : InR P rest x ((c.set (j + 1) v).set j u) j := by
  obtain ⟨A,B,e1,e2,e3,e4⟩ := h.ex
  have hA : A ≠ [] := by intro e; rw [e] at e3; simp at e3
  obtain ⟨A',a,eA⟩ : ∃ A' a,A = A' ++ [a] := ⟨A.dropLast,A.getLast hA,(List.dropLast_concat_getLast hA).symm⟩
  subst eA
  have hj : A'.length = j := by rw [List.length_append] at e3; simpa using e3
  subst hj
  have hu' : u = x := by
    rw [e1,List.getElem?_append_right (by rw [e3]; exact Nat.le_refl _),e3,Nat.sub_self] at hu
    simpa using hu.symm
  have hv' : v = a := by
    rw [e1,List.append_assoc,List.getElem?_append_right (Nat.le_refl _),Nat.sub_self] at hv
    simpa using hv.symm
  subst hu' hv'
  refine ⟨A',v :: B,?_,by rw [← e2,List.append_assoc]; rfl,rfl,fun b hb => ?_⟩
  · rw [e1,List.set_append_right _ _ (by rw [e3]; exact Nat.le_refl _),e3,Nat.sub_self,List.set_cons_zero,List.append_assoc,List.set_append_right _ _ (Nat.le_refl _),Nat.sub_self]
    rfl
  · rcases List.mem_cons.1 hb with h | h
    · subst h; exact Int.le_of_lt hlt
    · exact e4 b h
theorem inR_e {P rest : List Int} {x : Int} {c : List Int} {j : Nat} (h : InR P rest x c j) (hs : P.Pairwise (· ≤ ·)) (hx : ∀ u v,0 < j → c[j]? = some u → c[j - 1]? = some v → ¬ u < v) : (c.take (P.length + 1)).Pairwise (· ≤ ·) ∧ c.Perm (P ++ x :: rest) := by
  obtain ⟨A,B,e1,e2,e3,e4⟩ := h.ex
  have hl : A.length + B.length = P.length := by rw [← e2,List.length_append]
  have ec : c = (A ++ x :: B) ++ rest := by rw [e1]; simp
  constructor
  · rw [ec,List.take_append_of_le_length (by rw [List.length_append,List.length_cons]; omega),List.take_of_length_le (by rw [List.length_append,List.length_cons]; omega)]
    rw [← e2,List.pairwise_append] at hs
    rw [List.pairwise_append,List.pairwise_cons]
    refine ⟨hs.1,⟨e4,hs.2.1⟩,fun a ha b hb => ?_⟩
    have hA : A ≠ [] := by intro e; rw [e] at ha; simp at ha
    obtain ⟨A',z,eA⟩ : ∃ A' z,A = A' ++ [z] := ⟨A.dropLast,A.getLast hA,(List.dropLast_concat_getLast hA).symm⟩
    have hz : z ≤ x := by
      have hj : j = A'.length + 1 := by rw [← e3,eA,List.length_append]; rfl
      have h1 : c[j]? = some x := by rw [e1,List.getElem?_append_right (by omega),e3,Nat.sub_self]; rfl
      have h2 : c[j - 1]? = some z := by rw [e1,eA,List.append_assoc,List.getElem?_append_right (by omega),hj,Nat.add_sub_cancel,Nat.sub_self]; rfl
      have := hx x z (by omega) h1 h2
      omega
    have haz : a ≤ z := by
      have hp := hs.1
      rw [eA,List.pairwise_append] at hp
      rw [eA] at ha
      rcases List.mem_append.1 ha with h | h
      · exact hp.2.2 a h z (by simp)
      · have : a = z := by simpa using h
        omega
    rcases List.mem_cons.1 hb with h | h
    · omega
    · have := e4 b h; omega
  · rw [e1,← e2,List.append_assoc]
    refine List.Perm.append_left A ?_
    exact (List.perm_middle (l₁ := B) (l₂ := rest) (a := x)).symm
theorem inR_ln {y c l : List Int} {x : Int} {i j : Nat} (h : InR (y.take i) (y.drop (i + 1)) x c j) (hi : i < y.length) (jl : y.length = l.length) : c.length = l.length := by
  have := (inR_len h).1
  rw [List.length_take,List.length_drop] at this
  omega
theorem ins_perm {y c : List Int} {i : Nat} (hi : i < y.length) (h : c.Perm (y.take i ++ y[i] :: y.drop (i + 1))) : c.Perm y := by
  rwa [← List.drop_eq_getElem_cons hi,List.take_append_drop] at h
theorem preB199 {p : Prop} (h : p := by first | with_reducible assumption | omega | (simp only [List.length_append,List.length_cons,List.length_nil,List.length_set,List.length_replicate,List.length_take,List.length_drop,List.length_tail,List.length_dropLast,List.length_reverse] at *; omega) | exact mem_len (by assumption) (by omega) | (with_reducible refine Int.le_trans (Int.ofNat_le.2 (trimR_len _)) ?_; simp only [List.length_cons,List.length_tail]; omega) | (exact (ruAt_ok (by assumption) (by assumption) (by assumption)).2.1) | (exact (ruAt_ok (by assumption) (by assumption) (by assumption)).2.1) | (have := vMach_bd (by assumption); omega) | (simp only [mC_ch,mC_tu]; omega) | (have := vTag_bd (by assumption); omega) | (have := (‹Gd _ _›).le; omega) | (exact tgHalts_no (by assumption)) | (exact tgHead (by assumption) (by assumption) (by assumption)) | (exact Int.le_trans (tgStep_gd (by assumption) (by assumption) (by assumption) (by assumption)).le (by decide)) | (exact vTag_r (by assumption)) | (with_reducible refine Int.le_trans (Int.ofNat_le.2 (pushL_len _ _)) ?_; simp only [List.length_dropLast]; omega) | exact ls_at (by assumption) (by omega) | exact pt_gd (by assumption) | exact lv_at (by assumption) (by omega) | exact pt_gd (lv_at (by assumption) (by omega)) | exact (ask_ok (by assumption)).1 | exact (ask_ok (by assumption)).2.1 | exact (ask_ok (by assumption)).2.2.1 | exact (ask_ok (by assumption)).2.2.2 | trivial) : p := h
theorem Len64_ok (n : Int) (h0 : 0 ≤ n) (h1 : n ≤ 16777216) : Does Tryz.prog 184 [.one (u64 n)] [] (.one (int ((Lib.bitLen n.toNat : Nat)))) [] :=
  does_ext (av := [.int .u64 n]) (rv := .int .i64 (Lib.bitLen n.toNat)) (fun w S ρ vs => repA_1) (fun w S ρ => ⟨rfl,rfl⟩) fun w S hT => by
    refine (Tryz.bits_Len64 n w h0 (by omega)).mono ?_
    rintro en w' ⟨rfl,rfl⟩
    exact ⟨rfl,Below.refl _ _⟩
theorem Len_ok (n : Int) (h0 : 0 ≤ n) (h1 : n ≤ 16777216) : Does Tryz.prog 151 [.one (u64 n)] [] (.one (int ((Lib.bitLen n.toNat : Nat)))) [] := by
  refine does_of (k := 0) Tryz.func151 rfl Tryz.ntmps151 rfl rfl fun w F0 S0 ρ0 => ?_
  dsimp only [argT,argH]
  repeat' first|(apply p3;(exact pu1);exact rfl)|refine cd ?_|(apply c4 0;exact callK1 (θ := []) (hD := (Len64_ok _ preB199 preB199));exact rfl;exact rfl;exact rfl;refine dM ?_)
  repeat refine cr ?_
  refine ends_id ?_
  refine endK [] (h2 := ?_) (h3 := ?_) (nd := ?_)
  all_goals (repeat' first|exact ce0|refine ce ?_|refine ce2 ?_ ?_|exact SVLe.refl|refine ceb ?_)
  all_goals first | exact (show nodupB _ = true from rfl) | exact Or.inr rfl | (rfl)
theorem insOrd_ok (l : List Int) (hl : (l.length : Int) ≤ 12) : Does Tryz.prog 174 [.one (.gv 0),.one (int 0),.one (int l.length)] [roI l] .any [roI (srtL l)] := by
  refine does_of (k := 1) Tryz.func174 rfl Tryz.ntmps174 rfl rfl fun w F0 S0 ρ0 => ?_
  dsimp only [argT,argH]
  repeat' first|(apply p3;(first|exact pu1|exact a_add rfl rfl (by omega) (by omega));exact rfl)|refine cd ?_
  refine g_loop_id ?_
  refine loopK [0,1,2] [0] (fun y : Int × List Int => 1 ≤ y.1 ∧ (y.1 ≤ l.length ∨ y.1 = 1) ∧ y.2.Perm l ∧ (y.2.take y.1.toNat).Pairwise (· ≤ ·)) (fun y => [(6,.one (int y.1))]) (fun y => [(0,roI y.2)]) (fun y => (l.length - y.1).toNat) ((1 : Int),l) [0] (hI := ?_) (hr := ?_)
  · refine ⟨by simp,by simp,List.Perm.refl _,?_⟩
    cases l with
    | nil => simp
    | cons a l => simp
  · rintro ⟨i,y⟩ ⟨j0,j1,j2,j3⟩
    dsimp only [List.cons_append,List.nil_append] at *
    skip
    have jl : y.length = l.length := j2.length_eq
    repeat' first|(apply p3;(first|exact pu1|exact puC);exact rfl)|refine cdn ?_|refine g_reg (id := 1) ?_|refine g_reg (id := 3) ?_|((refine g_cond rfl (fun hc => ?_) (fun hc => ?_)) <;> (try simp only [dcB] at hc) <;> (try first|contradiction|(exfalso;omega)))
    · have hi : i.toNat < y.length := by omega
      have h0 := inR_0 hi
      refine g_loop_id ?_
      refine loopK [0,1,2,6] [0] (fun z : Int × List Int => 0 ≤ z.1 ∧ z.1 ≤ i ∧ InR (y.take i.toNat) (y.drop (i.toNat + 1)) (y[i.toNat]'hi) z.2 z.1.toNat) (fun z => [(7,.one (int z.1))]) (fun z => [(0,roI z.2)]) (fun z => z.1.toNat) (i,y) [0] (hI := ?_) (hr := ?_)
      · exact ⟨by dsimp only; omega,by dsimp only; omega,h0⟩
      · rintro ⟨j,c⟩ ⟨k0,k1,k2⟩
        dsimp only [List.cons_append,List.nil_append] at *
        skip
        have kl2 : c.length = l.length := inR_ln k2 hi jl
        repeat' first|(apply p3;(first|exact pu1|exact a_add rfl rfl (by omega) (by omega));exact rfl)|refine cdn ?_|refine g_reg (id := 2) ?_|(apply g_drN (id := 4) okM [[],[],[0,1],[0,1,2],[0,1,2,3],[0,1,2,3],[0,1,2,3,4,5],[0,1,2,3,4,5,6],[0,1,2,3],[0,1,2,3],[0,1,2,3,9],[0,1,2,3,8,9,10],[0,1,2,3,8,9,10,11],[0,1,2,3,4,5,6,7,8,9,10,11,12],[0,1,2,3,4,5,6,7,8,9,10,11,12,13]] [([],[]),([],[]),([],[]),([],[]),([],[]),([],[]),([],[]),([],[]),([],[]),([],[]),([],[]),([],[]),([],[]),([],[]),([],[])] 0;(focus (all_goals refine dp 0 0 [17] [] pu1 ?_;all_goals refine dp 1 0 [16] [] pu1 ?_;all_goals refine dp 2 3 [] [] puC ?_;all_goals (refine db 3 7 [] [] pu1 ?_ ?_ <;> (intro hc;first|cases hc|(try simp only [dcB] at hc);first|contradiction|(exfalso;omega)|skip));all_goals (first|refine dn 4 15 [21,24,25,26,27,28] [] ?_|refine dpy 4 15 [21,24,25,26,27,28] [] pu1 ?_);all_goals (first|refine dn 5 30 [20,24,25,26,27,28] [] ?_|refine dpy 5 30 [20,24,25,26,27,28] [] pu1 ?_);all_goals (first|refine dn 6 63 [24,25,26,27,28] [] ?_|refine dpy 6 63 [24,25,26,27,28] [] puI ?_);all_goals (first|refine dn 7 127 [24,25,26,27,28] [] ?_|refine dpy 7 127 [24,25,26,27,28] [] puL ?_);all_goals (first|refine dn 8 240 [20,21,22,23,25,26] [] ?_|refine dpy 8 240 [20,21,22,23,25,26] [] pu1 ?_);all_goals (first|refine dn 9 480 [20,21,22,23,24] [] ?_|refine dpy 9 480 [20,21,22,23,24] [] pu1 ?_);all_goals (first|refine dn 10 961 [20,21,22,23,24] [] ?_|refine dpy 10 961 [20,21,22,23,24] [] (a_sub rfl rfl (by omega) (by omega)) ?_);all_goals (first|refine dn 11 1927 [20,21,22,23] [] ?_|refine dpy 11 1927 [20,21,22,23] [] puI ?_);all_goals (first|refine dn 12 3855 [20,21,22,23] [] ?_|refine dpy 12 3855 [20,21,22,23] [] puL ?_);all_goals (first|refine dn 13 8191 [] [] ?_|refine dpy 13 8191 [] [] (callD1 (n := _) 0 (θ := []) (hD := (cLess_ok _ _))) ?_);all_goals refine dp 14 16383 [] [] (a_pure (sv := .one _) rfl) ?_;all_goals (refine d_nil ?_;refine dN ?_)));any_goals kernel_rfl)|((refine g_cond rfl (fun hc => ?_) (fun hc => ?_)) <;> (try simp only [dcB] at hc) <;> (try first|contradiction|(exfalso;omega)))
        · have hj : j.toNat = (j - 1).toNat + 1 := by omega
          rw [hj] at k2
          have ks := inR_s k2 (u := c[j.toNat]'(by omega)) (v := c[(j - 1).toNat]'(by omega)) (by rw [← hj]; exact List.getElem?_eq_getElem _) (List.getElem?_eq_getElem _) hc
          rw [← hj] at ks
          repeat' first|(apply p3;(first|exact pu1|exact a_sub rfl rfl (by omega) (by omega));exact rfl)|refine cd ?_|(apply g_drN (id := 6) okM [[],[],[],[],[3],[],[],[6],[5,6,7],[5,6,7,8],[],[],[10,11],[10,11,12],[0,1,5,6,7,8,9,10,11,12,13],[0,1,5,6,7,8,9,10,11,12,13,14],[0,1,2,3,4,5,6,7,8,9,10,11,12,13,14,15],[0,1,2,3,4,5,6,7,8,9,10,11,12,13,14,15,16]] [([],[]),([],[]),([],[]),([],[]),([],[]),([],[]),([],[]),([],[]),([],[]),([],[]),([],[]),([],[]),([],[]),([],[]),([],[]),([],[0]),([],[]),([],[0])] 0;(focus (refine dp 0 0 [34,35,36,37,38,39,40,41,42,43,44,45,46] [] pu1 ?_;refine dp 1 0 [33,35,36,37,38,39,40,41,42,43,44,45,46] [] pu1 ?_;refine dp 2 0 [33,34,36,37,38,39,40,41,42,43,44,45,46,47] [(false,0)] pu1 ?_;refine dp 3 0 [33,34,35,38,39,40,41,42,43,44,45,46,47] [(false,0)] pu1 ?_;refine dp 4 1 [33,34,35,38,39,40,41,42,43,44,45,46,47] [(false,0)] (a_sub rfl rfl (by omega) (by omega)) ?_;refine dp 5 0 [33,34,35,36,37,39,40,43,44,45,46] [] pu1 ?_;refine dp 6 0 [33,34,35,36,37,38,43,44,45,46] [] pu1 ?_;refine dp 7 1 [33,34,35,36,37,38,43,44,45,46] [] (a_sub rfl rfl (by omega) (by omega)) ?_;refine dp 8 7 [33,34,35,36,37,43,44,45,46] [] puI ?_;refine dp 9 15 [33,34,35,36,37,43,44,45,46] [] puL ?_;refine dp 10 0 [33,34,35,36,37,38,39,40,41,42,44] [] pu1 ?_;refine dp 11 0 [33,34,35,36,37,38,39,40,41,42,43] [] pu1 ?_;refine dp 12 3 [33,34,35,36,37,38,39,40,41,42] [] puI ?_;refine dp 13 7 [33,34,35,36,37,38,39,40,41,42] [] puL ?_;refine dp 14 12799 [35,36,37] [] puI ?_;refine duE 15 25599 [35,36,37] [] (by exact a_st_rowI rfl rfl rfl rfl (fN rfl rfl) bnd) (by exact rfl) (by exact rfl) ?_;refine dp 16 65535 [] [] puI ?_;refine duE 17 131071 [] [] (by exact a_st_rowI rfl rfl rfl rfl (fN rfl rfl) bnd) (by exact rfl) (by exact rfl) ?_;(refine d_nil ?_;refine dN ?_)));any_goals kernel_rfl)
          refine q_again (j - 1,(c.set j.toNat (c[(j - 1).toNat]'(by omega))).set (j - 1).toNat (c[j.toNat]'(by omega))) [0] (by exact stk) ?_ ?_
          · dsimp only
            exact ⟨by omega,by omega,ks⟩
          · dsimp only; omega
        · have ee := inR_e k2 (by exact j3) (fun u v h hu hv => by
            rw [List.getElem?_eq_getElem (by omega)] at hu
            rw [show j.toNat - 1 = (j - 1).toNat by omega,List.getElem?_eq_getElem (by omega)] at hv
            injection hu with hu
            injection hv with hv
            rw [← hu,← hv]
            exact hc)
          refine q_again (i + 1,c) [0] (by exact stk) ?_ ?_
          · dsimp only
            exact ⟨by omega,by omega,(ins_perm hi ee.2).trans j2,by rw [show (i + 1).toNat = (y.take i.toNat).length + 1 by rw [List.length_take]; omega]; exact ee.1⟩
          · dsimp only; omega
        · have ee := inR_e k2 (by exact j3) (fun u v h _ _ => by omega)
          refine q_again (i + 1,c) [0] (by exact stk) ?_ ?_
          · dsimp only
            exact ⟨by omega,by omega,(ins_perm hi ee.2).trans j2,by rw [show (i + 1).toNat = (y.take i.toNat).length + 1 by rw [List.length_take]; omega]; exact ee.1⟩
          · dsimp only; omega
    · have e : srtL l = y := srtL_eq j2 (by rw [List.take_of_length_le (by omega)] at j3; exact j3)
      rw [e]
      repeat refine cr ?_
      refine ends_id ?_
      refine endK [] (h2 := ?_) (h3 := ?_) (nd := ?_)
      all_goals (repeat' first|exact ce0|refine ce ?_|refine ce2 ?_ ?_|(refine Or.inr (bx_eq rfl rfl ?_);(try dsimp only [C.ren,C.ren.all]);(try exact rfl))|exact SVLe.refl|refine ceb ?_)
      all_goals first | exact (show nodupB _ = true from rfl) | exact Or.inr rfl | (rfl)
theorem pdq_ok (l : List Int) (d : Int) (hl : (l.length : Int) ≤ 12) : Does Tryz.prog 150 [.one (.gv 0),.one (int 0),.one (int l.length),.one (int d)] [roI l] .any [roI (srtL l)] := by
  refine does_of (k := 1) Tryz.func150 rfl Tryz.ntmps150 rfl rfl fun w F0 S0 ρ0 => ?_
  dsimp only [argT,argH]
  repeat' first|(apply p3;(exact pu1);exact rfl)|refine cd ?_
  refine g_loop_id ?_
  refine loopK [0,1,2,3,8,9] [0] (fun y : Int => y = 0) (fun y => []) (fun y => [(0,roI l)]) (fun y => 0) (0 : Int) [0] (hI := ?_) (hr := ?_)
  · exact rfl
  · rintro y j0
    dsimp only [List.cons_append,List.nil_append] at *
    skip
    repeat' first|(apply p3;(first|exact pu1|exact a_sub rfl rfl (by omega) (by omega)|exact puC);exact rfl)|refine cd ?_|(apply c4 0;exact callK1 (θ := [_]) (hD := (insOrd_ok _ preB199));exact rfl;exact rfl;exact rfl;refine dM ?_)|((refine g_cond rfl (fun hc => ?_) (fun hc => ?_)) <;> (try simp only [dcB] at hc) <;> (try first|contradiction|(exfalso;omega)))
    · repeat refine cr ?_
      refine ends_id ?_
      refine endK [] (h2 := ?_) (h3 := ?_) (nd := ?_)
      all_goals (repeat' first|exact ce0|refine ce ?_|refine ce2 ?_ ?_|(refine Or.inr (bx_eq rfl rfl ?_);(try dsimp only [C.ren,C.ren.all]);(try exact rfl))|exact SVLe.refl|refine ceb ?_)
      all_goals first | exact (show nodupB _ = true from rfl) | exact Or.inr rfl | (rfl)
theorem Sort_ok (l : List Int) (hl : (l.length : Int) ≤ 12) : Does Tryz.prog 97 [.one (.gv 0)] [roI l] .any [roI (srtL l)] := by
  refine does_of (k := 1) Tryz.func97 rfl Tryz.ntmps97 rfl rfl fun w F0 S0 ρ0 => ?_
  dsimp only [argT,argH]
  repeat' first|(apply p3;(first|exact pu1|exact puN|exact u_conv rfl Tryz.underlying3 Tryz.underlying195 bnd bnd);exact rfl)|refine cd ?_|(apply c4 0;exact callK1 (θ := []) (hD := (Len_ok _ preB199 preB199));exact rfl;exact rfl;exact rfl;refine dM ?_)|(apply c4 0;exact callK1 (θ := [_]) (hD := (pdq_ok _ _ preB199));exact rfl;exact rfl;exact rfl;refine dM ?_)
  repeat refine cr ?_
  refine ends_id ?_
  refine endK [] (h2 := ?_) (h3 := ?_) (nd := ?_)
  all_goals (repeat' first|exact ce0|refine ce ?_|refine ce2 ?_ ?_|(refine Or.inr (bx_eq rfl rfl ?_);(try dsimp only [C.ren,C.ren.all]);(try exact rfl))|exact SVLe.refl|refine ceb ?_)
  all_goals first | exact (show nodupB _ = true from rfl) | exact Or.inr rfl | (rfl)
end Go.Proofs.YtjmlbmmbionmcaaGreatDoor
end
section
set_option linter.unusedVariables false
set_option linter.unusedSimpArgs false
set_option maxRecDepth 100000
set_option maxHeartbeats 1000000
namespace Go.Proofs.YtjmlbmmbionmcaaGreatDoor
open Go Foot Go.RowKit
@[irreducible] def tmX (m : Mach) : Tg := if m.st ≤ 6 then tmT m else ⟨0,[],[]⟩
theorem tmX_ok {m : Mach} (h : m.st ≤ 6) : tmX m = tmT m := by unfold tmX; rw [if_pos h]
theorem tmX_no {m : Mach} (h : ¬ m.st ≤ 6) : tmX m = ⟨0,[],[]⟩ := by unfold tmX; rw [if_neg h]
theorem decT_1 : decT 1 = [49] := by unfold decT Lib.itoa; simp [Lib.decDigits]
theorem nilShd {z : Nat} (hz : 0 < z) : ∀ (w : World) (S : Foot) (v : Value) (F : Foot),Rep w S (.sc (.slice none 0 0)) v F → Rep w S (.sl false z []) v F := fun w S v F hr => by
  rw [hr.1]
  simp only [Rep]
  exact ⟨none,0,0,rfl,by simp,hz,Nat.le_refl _,.inl ⟨rfl,fun _ => rfl⟩⟩
theorem tm_dec {v : Int} (h0 : 0 ≤ v) (h1 : v < 2) : (v.toNat = 0 ∧ decT v = [48]) ∨ (v.toNat = 1 ∧ decT v = [49]) := by
  have h : v = 0 ∨ v = 1 := by omega
  rcases h with h | h
  · subst h; exact .inl ⟨rfl,decT_0⟩
  · subst h; exact .inr ⟨rfl,decT_1⟩
theorem tm_len {v : Int} (h0 : 0 ≤ v) (h1 : v < 2) : (decT v).length = 1 := by
  rcases tm_dec h0 h1 with h | h
  · rw [h.2]; rfl
  · rw [h.2]; rfl
theorem tm_lt {v q : Int} (h0 : 0 ≤ v) (h1 : v < 2) : ltN ([80] ++ decT v) q = 1 + 30 * q + 8 + (1 - v) := by
  have h : v = 0 ∨ v = 1 := by omega
  rcases h with h | h
  · subst h
    rw [decT_0]
    show ltN [80,48] q = _
    rw [ltN_i 9 (by decide)]
    omega
  · subst h
    rw [decT_1]
    show ltN [80,49] q = _
    rw [ltN_i 8 (by decide)]
    omega
theorem preB201 {p : Prop} (h : p := by first | with_reducible assumption | omega | (simp only [List.length_append,List.length_cons,List.length_nil,List.length_set,List.length_replicate,List.length_take,List.length_drop,List.length_tail,List.length_dropLast,List.length_reverse] at *; omega) | exact mem_len (by assumption) (by omega) | (with_reducible refine Int.le_trans (Int.ofNat_le.2 (trimR_len _)) ?_; simp only [List.length_cons,List.length_tail]; omega) | (exact (ruAt_ok (by assumption) (by assumption) (by assumption)).2.1) | (exact (ruAt_ok (by assumption) (by assumption) (by assumption)).2.1) | (have := vMach_bd (by assumption); omega) | (simp only [List.length_append,List.length_cons,List.length_nil,repW_len,seN_len] at *; omega) | (simp only [mC_ch,mC_tu]; omega) | (have := vTag_bd (by assumption); omega) | (have := (‹Gd _ _›).le; omega) | (exact tgHalts_no (by assumption)) | (exact tgHead (by assumption) (by assumption) (by assumption)) | (exact Int.le_trans (tgStep_gd (by assumption) (by assumption) (by assumption) (by assumption)).le (by decide)) | (exact vTag_r (by assumption)) | (with_reducible refine Int.le_trans (Int.ofNat_le.2 (pushL_len _ _)) ?_; simp only [List.length_dropLast]; omega) | exact ls_at (by assumption) (by omega) | exact pt_gd (by assumption) | exact lv_at (by assumption) (by omega) | exact pt_gd (lv_at (by assumption) (by omega)) | exact (ask_ok (by assumption)).1 | exact (ask_ok (by assumption)).2.1 | exact (ask_ok (by assumption)).2.2.1 | exact (ask_ok (by assumption)).2.2.2 | trivial) : p := h
theorem tagOfMachine_ok (m : Mach) (hv : vMach m = true) (hy : m.sy = 2) : Does Tryz.prog 43 [.agg (maC m)] [] (.tup [(true,[int (tmX m).de,.gv 0,.gv 1]),(false,[int (if m.st ≤ 6 then 0 else 5)])]) [roW (tmX m).wo,roI (tmX m).ha] := by
  have hb := vMach_bd hv
  rw [hy] at hb
  by_cases hs : m.st ≤ 6
  · rw [tmX_ok hs,if_pos hs]
    have g : TmOk m := ⟨hv,hy,hs⟩
    refine does_of (k := 0) Tryz.func43 rfl Tryz.ntmps43 rfl rfl fun w F0 S0 ρ0 => ?_
    dsimp only [argT,argH]
    repeat' first|(apply n3;(first|exact a_new (gb := .bx _) rfl|exact a_make (fE rfl) (fZ rfl) (fP rfl) (by decide) rfl rfl (by omega) rfl (by omega) (by omega) (rows_rep eWo none _));exact rfl;refine dA ?_)|(apply p3;(first|exact pu1|exact a_mulB rfl rfl (by omega) (by omega) (by omega) (by omega)|exact a_add rfl rfl (by omega) (by omega)|exact puC);exact rfl)|refine cd ?_|(apply w3;(exact a_st_bx rfl rfl rfl rfl (fN rfl rfl) (Nat.le_of_ble_eq_true rfl) rfl);exact rfl;refine dS ?_)|((refine g_cond rfl (fun hc => ?_) (fun hc => ?_)) <;> (try simp only [dcB] at hc) <;> (try first|contradiction|(exfalso;omega)))|fail
    refine g_conv (t_nilR (i := 2) (E' := eW) ([] : List Int) rfl (by repeat (first | exact trivial | exact nilShd (by decide) | refine And.intro ?_ ?_))) ?_
    simp only [setRow,scC,List.map_cons,List.map_nil,List.set_cons_zero,List.set_cons_succ,Nat.zero_add,List.getElem?_cons_zero,List.getElem?_cons_succ,List.take_succ_cons,List.take_zero,List.drop_zero,List.cons_append,List.nil_append,List.drop_succ_cons,List.drop_nil,List.append_nil,List.append_eq]
    refine g_conv (t_nilB (i := 4) (k := 2) (z := 1) rfl rfl rfl (by decide)) ?_
    try dsimp only [setRow,List.map_cons,List.map_nil,scC,List.set_cons_zero,List.set_cons_succ,Nat.reduceAdd]
    have h60 : aheS m 0 = List.replicate (1 + 30 * m.st).toNat [] := aheS_0 m (by omega)
    rw [← h60]
    refine g_loop_id ?_
    refine loopK [1,2,3,5,6,23] [2,4,5] (fun y : Int × List (List Int) × List Int => 0 ≤ y.1 ∧ y.1 ≤ m.st ∧ y.2.1 = aheS m y.1.toNat ∧ y.2.2 = tmU m y.1.toNat) (fun y => [(24,.one (int y.1))]) (fun y => [(2,roW y.2.1),(5,roI y.2.2),(4,.bx [int 2,nilC,.gv 5])]) (fun y => (m.st - y.1).toNat) ((0 : Int),aheS m 0,([] : List Int)) [0,1,2,3,4,5] (hI := ?_) (hr := ?_)
    · exact ⟨by simp,by simp; omega,rfl,rfl⟩
    · rintro ⟨q,ws,hs'⟩ ⟨j0,j1,j2,j3⟩
      dsimp only [List.cons_append,List.nil_append] at *
      skip
      repeat' first|(apply p3;(first|exact pu1|exact puC);exact rfl)|refine cdn ?_|refine g_reg (id := 6) ?_|refine g_reg (id := 7) ?_|refine g_reg (id := 18) ?_|refine g_reg (id := 19) ?_|(apply w3;(exact a_st_bx rfl rfl rfl rfl (fN rfl rfl) (Nat.le_of_ble_eq_true rfl) rfl);exact rfl;refine dS ?_)|((refine g_cond rfl (fun hc => ?_) (fun hc => ?_)) <;> (try simp only [dcB] at hc) <;> (try first|contradiction|(exfalso;omega)))|fail
      · have hq : q.toNat < m.st.toNat := by omega
        have jl := aheS_len (m := m) (q := q.toNat) (by omega)
        rw [← j2] at jl
        have e0 := miiS_0 (m := m) hq
        rw [← j2,show ((q.toNat : Nat) : Int) = q by omega] at e0
        repeat' first|(apply p3;(exact pu1);exact rfl)|refine cd ?_|(apply c4 0;exact callK0 (θ := [_,_]) (hD := (stateWords_ok _ _ preB201 preB201 preB201));exact rfl;exact rfl;exact rfl;refine dM ?_)|fail
        rw [e0]
        refine g_loop_id ?_
        refine loopK [1,2,3,5,6,7,23,24] [2,4,5] (fun y : Int × List (List Int) × List Int => 0 ≤ y.1 ∧ y.1 ≤ 2 ∧ y.2.1 = miiS m q.toNat y.1.toNat ∧ y.2.2 = miiU m q.toNat y.1.toNat) (fun y => [(30,.one (int y.1))]) (fun y => [(2,roW y.2.1),(5,roI y.2.2),(4,.bx [int 2,nilC,.gv 5])]) (fun y => (2 - y.1).toNat) ((0 : Int),miiS m q.toNat 0,hs') [0,1,2,3,4,5] (hI := ?_) (hr := ?_)
        · exact ⟨by simp,by simp,rfl,j3.trans (miiU_0 m q.toNat).symm⟩
        · rintro ⟨v,a,b⟩ ⟨k0,k1,k2,k3⟩
          dsimp only [List.cons_append,List.nil_append] at *
          skip
          repeat' first|(apply p3;(first|exact pu1|exact puC|exact a_add rfl rfl (by omega) (by omega));exact rfl)|refine cdn ?_|refine g_reg (id := 10) ?_|refine g_reg (id := 11) ?_|refine g_reg (id := 17) ?_|((refine g_cond rfl (fun hc => ?_) (fun hc => ?_)) <;> (try simp only [dcB] at hc) <;> (try first|contradiction|(exfalso;omega)))|fail
          · have hR := ruN_get (m := m) (q := q) (s := v) j0 k0 (by omega)
            have hrn := tm_ru g (q := q.toNat) (s := v.toNat) hq (by omega)
            have ja : (a.length : Int) = 1 + 30 * m.st := by rw [k2,miiS_len hq]; omega
            have jb : (b.length : Int) ≤ 2 * q + 2 := by rw [k3]; have := miiU_len m q.toNat v.toNat; omega
            have hc1 := hc
            repeat' first|(apply n3;exact a_new (gb := .bx _) rfl;exact rfl;refine dA ?_)|(apply p3;(first|exact pu1|exact a_mulB rfl rfl (by omega) (by omega) (by omega) (by omega)|exact a_add rfl rfl (by omega) (by omega)|exact puI);exact rfl)|refine cdn ?_|refine g_reg (id := 12) ?_|(apply w3;(exact a_st_bx rfl rfl rfl rfl (fN rfl rfl) (Nat.le_of_ble_eq_true rfl) rfl);exact rfl;refine dS ?_)|fail
            simp only [hR,setRow,scC,List.map_cons,List.map_nil,List.set_cons_zero,List.set_cons_succ,Nat.zero_add,List.getElem?_cons_zero,List.getElem?_cons_succ,List.take_succ_cons,List.take_zero,List.drop_zero,List.cons_append,List.nil_append,List.drop_succ_cons,List.drop_nil,List.append_nil,List.append_eq]
            generalize hr2 : ruN m q.toNat v.toNat = r at *
            skip
            repeat' first|(apply p3;(exact pu1);exact rfl)|refine cdn ?_|refine g_reg (id := 13) ?_|(apply c4 0;exact callK1 (θ := []) (hD := (isRule_ok _));exact rfl;exact rfl;exact rfl;refine dM ?_)|((refine g_cond rfl (fun hc => ?_) (fun hc => ?_)) <;> (try simp only [dcB] at hc) <;> (try first|contradiction|(exfalso;omega)))|fail
            · have hd : (v.toNat = 0 ∧ decT v = [48]) ∨ (v.toNat = 1 ∧ decT v = [49]) := tm_dec k0 hc1
              have e1 := miiS_ru (m := m) (q := q.toNat) (v := v.toNat) (by omega)
              have e2 := miiU_ru (m := m) (q := q.toNat) (v := v.toNat) (by omega) (by rw [hr2]; exact hc)
              rw [hr2,← k2] at e1
              obtain ⟨hw,hmv,hn0,hn1⟩ := hrn.resolve_left hc
              repeat' first|refine cdn ?_|(apply g_drN (id := 14) okM [[],[],[],[2],[],[0,1,2,3,4]] [([],[]),([],[]),([],[]),([],[]),([],[]),([],[_,_])] 0;(focus (refine dp 0 0 [44,45,46,47] [] pu1 ?_;refine dp 1 0 [43,45,46,47] [] pu1 ?_;refine dp 2 0 [43,44,47] [] pu1 ?_;refine dp 3 1 [43,44,47] [] (callD1 (n := _) 0 (θ := []) (hD := (Decimal_ok _ preB201 preB201))) ?_;refine dp 4 0 [43,44,45,46] [] (by exact puL) ?_;refine duN 5 31 [] [] (callD0 (n := _) 0 (θ := [_,_]) (hD := (ruleWords_ok a q v.toNat (decT v) r hd hc hw hmv ⟨hn0,by omega⟩ j0 (by omega) (by omega)))) (by exact rfl) (by exact rfl) ?_;(refine d_nil ?_;refine dN ?_)));any_goals kernel_rfl)|fail
              repeat' first|(apply p3;(first|exact pu1|exact a_add rfl rfl (by omega) (by omega));exact rfl)|refine cd ?_|fail
              refine q_again (v + 1,ruS q.toNat v.toNat r a,b) [0,1,2,3,4,5] (by exact stk) ?_ ?_
              · dsimp only
                rw [show (v + 1).toNat = v.toNat + 1 by omega]
                exact ⟨by omega,by omega,e1.symm,by rw [e2]; exact k3⟩
              · dsimp only; omega
            · have e1 := miiS_no (m := m) (q := q.toNat) (v := v.toNat) (by omega) (by rw [hr2]; exact hc)
              have e2 := miiU_no (m := m) (q := q.toNat) (v := v.toNat) (by omega) (by rw [hr2]; exact hc)
              have e3 : ltN ([80] ++ decT v) q = 1 + 30 * q + 8 + (1 - v) := tm_lt k0 hc1
              have hdl : (decT v).length = 1 := tm_len k0 hc1
              repeat' first|refine cdn ?_|(apply g_drN (id := 15) okM [[],[0],[],[2],[2,3],[],[2,3,4,5],[2,3,4,5,6],[0,1,2,3,4,5,6,7],[0,1,2,3,4,5,6,7,8],[0,1,2,3,4,5,6,7,8,9]] [([],[]),([],[]),([],[]),([],[]),([],[]),([],[]),([],[]),([0],[]),([1],[_]),([],[]),([],[4])] 2;(focus (refine dp 0 0 [51,52,53,54,55,56] [(true,0)] (a_pure (sv := .one _) rfl) ?_;refine dp 1 1 [51,52,53,54,55,56] [(true,0)] (by exact puL) ?_;refine dp 2 0 [49,50,54] [] pu1 ?_;refine dp 3 1 [49,50,54] [] (callD1 (n := _) 0 (θ := []) (hD := (Decimal_ok _ preB201 preB201))) ?_;refine dp 4 3 [49,50,54] [] (a_addS rfl rfl (by (simp only [List.length_append,List.length_cons,List.length_nil];omega))) ?_;refine dp 5 0 [49,50,51,52,53] [] pu1 ?_;refine dp 6 15 [49,50] [] (callD1 (n := _) 0 (θ := []) (hD := (letterOf_ok _ _ preB201 preB201))) ?_;refine duE 7 31 [49,50] [] (atN 0 (fun _ => a_litE eI [_] rfl rfl rfl rfl rfl rfl rfl rfl)) (by exact rfl) (by exact rfl) ?_;refine duE 8 255 [] [] (atS 1 (fun _ hj => a_appE (fP rfl) rfl rfl rfl rfl nowR (by (simp <;> omega)) (by decide) hj (by exact rfl)) (by decide)) (by exact rfl) (by exact rfl) ?_;refine dp 9 511 [] [] (a_pure (sv := .one _) rfl) ?_;refine duE 10 1023 [] [] (by exact a_st_bx rfl rfl rfl rfl (fN rfl rfl) (Nat.le_of_ble_eq_true rfl) rfl) (by exact rfl) (by exact rfl) ?_;(refine d_nil ?_;refine dN ?_)));any_goals kernel_rfl)|fail
              repeat' first|(apply p3;(first|exact pu1|exact a_add rfl rfl (by omega) (by omega));exact rfl)|refine cd ?_|fail
              refine q_again (v + 1,a,b ++ [ltN ([80] ++ decT v) q]) [0,1,2,3,4,8] (by exact stk) ?_ ?_
              · dsimp only
                rw [show (v + 1).toNat = v.toNat + 1 by omega]
                refine ⟨by omega,by omega,by rw [e1]; exact k2,?_⟩
                rw [e2,← k3,e3,show ((q.toNat : Nat) : Int) = q by omega,show ((v.toNat : Nat) : Int) = v by omega]
              · dsimp only; omega
          · rw [show v.toNat = 2 by omega,miiS_e] at k2
            rw [show v.toNat = 2 by omega,miiU_e] at k3
            refine q_again (q + 1,a,b) [0,1,2,3,4,5] (by exact stk) ?_ ?_
            · dsimp only
              rw [show (q + 1).toNat = q.toNat + 1 by omega]
              exact ⟨by omega,by omega,k2,k3⟩
            · dsimp only; omega
      · have jh : (hs'.length : Int) ≤ 12 := by rw [j3]; have := tmU_len m q.toNat; omega
        have hqs : q.toNat = m.st.toNat := by omega
        rw [hqs] at j2 j3
        have e1 : srtL hs' = tmH m m.st.toNat := by rw [j3,srt_tm]
        have e2 : ws = tmW m m.st.toNat := by rw [j2,aheS_e]
        rw [← e1,← e2]
        repeat' first|(apply p3;(exact pu1);exact rfl)|refine cd ?_|(apply w3;(exact a_st_bx rfl rfl rfl rfl (fN rfl rfl) (Nat.le_of_ble_eq_true rfl) rfl);exact rfl;refine dS ?_)|(apply c4 0;exact callK1 (θ := [_]) (hD := (Sort_ok _ preB201));exact rfl;exact rfl;exact rfl;refine dM ?_)|fail
        repeat refine cr ?_
        refine ends_id ?_
        refine endK [?_,?_] (h2 := ?_) (h3 := ?_) (nd := ?_)
        rotate_left 2
        all_goals (repeat' first|exact ce0|refine ce ?_|refine ce2 ?_ ?_|(refine Or.inr (bx_eq rfl rfl ?_);(try dsimp only [C.ren,C.ren.all]);(try exact rfl))|exact SVLe.refl|refine ceb ?_)
        all_goals first | exact (show nodupB _ = true from rfl) | exact Or.inr rfl | (rfl)
  · rw [tmX_no hs,if_neg hs]
    refine does_of (k := 0) Tryz.func43 rfl Tryz.ntmps43 rfl rfl fun w F0 S0 ρ0 => ?_
    dsimp only [argT,argH]
    repeat' first|(apply n3;(exact a_new (gb := .bx _) rfl);exact rfl;refine dA ?_)|(apply p3;(first|exact pu1|exact a_mulB rfl rfl (by omega) (by omega) (by omega) (by omega)|exact a_add rfl rfl (by omega) (by omega)|exact puC);exact rfl)|refine cd ?_|(apply w3;(exact a_st_bx rfl rfl rfl rfl (fN rfl rfl) (Nat.le_of_ble_eq_true rfl) rfl);exact rfl;refine dS ?_)|((refine g_cond rfl (fun hc => ?_) (fun hc => ?_)) <;> (try simp only [dcB] at hc) <;> (try first|contradiction|(exfalso;omega)))|fail
    simp only [setRow,scC,List.map_cons,List.map_nil,List.set_cons_zero,List.set_cons_succ,Nat.zero_add,List.getElem?_cons_zero,List.getElem?_cons_succ,List.take_succ_cons,List.take_zero,List.drop_zero,List.cons_append,List.nil_append,List.drop_succ_cons,List.drop_nil,List.append_nil,List.append_eq]
    refine g_conv (t_nilB (i := 1) (k := 1) (z := 1) rfl rfl rfl (by decide)) ?_
    try dsimp only [setRow,List.map_cons,List.map_nil,scC,List.set_cons_zero,List.set_cons_succ,Nat.reduceAdd]
    refine g_conv (t_nilB (i := 1) (k := 2) (z := 1) rfl rfl rfl (by decide)) ?_
    try dsimp only [setRow,List.map_cons,List.map_nil,scC,List.set_cons_zero,List.set_cons_succ,Nat.reduceAdd]
    repeat refine cr ?_
    refine ends_id ?_
    refine endK [?_,?_] (h2 := ?_) (h3 := ?_) (nd := ?_)
    rotate_left 2
    all_goals (repeat' first|exact ce0|refine ce ?_|refine ce2 ?_ ?_|(refine Or.inr (bx_eq rfl rfl ?_);(try dsimp only [C.ren,C.ren.all]);(try exact rfl))|exact SVLe.refl|refine ceb ?_)
    all_goals first | exact (show nodupB _ = true from rfl) | exact Or.inr rfl | (rfl)
end Go.Proofs.YtjmlbmmbionmcaaGreatDoor
end
section
set_option linter.unusedVariables false
set_option linter.unusedSimpArgs false
set_option maxRecDepth 100000
set_option maxHeartbeats 1000000
namespace Go.Proofs.YtjmlbmmbionmcaaGreatDoor
open Go Foot Go.RowKit
abbrev cfZ (o : Option Conf) : Conf := o.getD ⟨0,[],[]⟩
theorem hd_bd {m : Mach} {l : List Int} (hw : ∀ y ∈ l,0 ≤ y ∧ y ≤ 30 * m.st) (hn : ¬ ((l.length : Int) = 0 ∨ l.headD 0 = 0)) : 1 ≤ l.headD 0 ∧ l.headD 0 ≤ 30 * m.st ∧ 0 < l.length := by
  cases l with
  | nil => exact absurd (Or.inl rfl) hn
  | cons x l =>
    have h1 := hw x (by simp)
    have h2 : ¬ x = 0 := fun e => hn (Or.inr e)
    show 1 ≤ x ∧ x ≤ 30 * m.st ∧ 0 < (x :: l).length
    exact ⟨by omega,by omega,by simp⟩
theorem hd_get {l : List Int} (h : 0 < l.length) : l[0] = l.headD 0 := by
  cases l with
  | nil => exact absurd h (by simp)
  | cons x l => rfl
theorem shA_len (q : Int) (a b : Nat) : (shA q a b).length = 4 + 2 * a + 2 * b := by
  unfold shA shF
  simp only [List.length_append,repW_len,wdN_len,List.length_cons,List.length_nil]
  omega
theorem shB_len (q : Int) (v a b : Nat) : (shB q v a b).length ≤ 4 + 2 * a + 2 * b := by
  unfold shB shF
  simp only [List.length_append,repW_len,wdN_len,List.length_cons,List.length_nil]
  split
  · simp only [List.length_cons,List.length_nil]; omega
  · simp only [List.length_cons,List.length_nil]; omega
theorem dcI_at {m : Mach} {l : List Int} {q : Nat} (hn : ¬ ((l.length : Int) = 0 ∨ l.headD 0 = 0)) (hq : (l.headD 0 - 1) / 30 = q) : dcI m l = if l = shA q (l.count (2 + 30 * (q : Int))) (l.count (4 + 30 * (q : Int))) then some ⟨q,btS (l.count (2 + 30 * (q : Int)) : Nat),btS (l.count (4 + 30 * (q : Int)) : Nat)⟩ else if ruN m q 0 = noR ∧ l = shB q 0 (l.count (12 + 30 * (q : Int))) (l.count (16 + 30 * (q : Int))) then some ⟨q,btS (l.count (12 + 30 * (q : Int)) : Nat),btS (2 * (l.count (16 + 30 * (q : Int)) : Nat) + 0)⟩ else if ruN m q 1 = noR ∧ l = shB q 1 (l.count (12 + 30 * (q : Int))) (l.count (16 + 30 * (q : Int))) then some ⟨q,btS (l.count (12 + 30 * (q : Int)) : Nat),btS (2 * (l.count (16 + 30 * (q : Int)) : Nat) + 1)⟩ else none := by
  unfold dcI
  rw [if_neg hn,hq,Int.toNat_natCast]
theorem preB204 {p : Prop} (h : p := by first | with_reducible assumption | omega | (simp only [List.length_append,List.length_cons,List.length_nil,List.length_set,List.length_replicate,List.length_take,List.length_drop,List.length_tail,List.length_dropLast,List.length_reverse] at *; omega) | exact mem_len (by assumption) (by omega) | (with_reducible refine Int.le_trans (Int.ofNat_le.2 (trimR_len _)) ?_; simp only [List.length_cons,List.length_tail]; omega) | (exact (ruAt_ok (by assumption) (by assumption) (by assumption)).2.1) | (exact (ruAt_ok (by assumption) (by assumption) (by assumption)).2.1) | (have := vMach_bd (by assumption); omega) | (simp only [List.length_append,List.length_cons,List.length_nil,repW_len,seN_len] at *; omega) | (simp only [mC_ch,mC_tu]; omega) | (have := vTag_bd (by assumption); omega) | (have := (‹Gd _ _›).le; omega) | (exact tgHalts_no (by assumption)) | (exact tgHead (by assumption) (by assumption) (by assumption)) | (exact Int.le_trans (tgStep_gd (by assumption) (by assumption) (by assumption) (by assumption)).le (by decide)) | (exact vTag_r (by assumption)) | (with_reducible refine Int.le_trans (Int.ofNat_le.2 (pushL_len _ _)) ?_; simp only [List.length_dropLast]; omega) | exact ls_at (by assumption) (by omega) | exact pt_gd (by assumption) | exact lv_at (by assumption) (by omega) | exact pt_gd (lv_at (by assumption) (by omega)) | exact (ask_ok (by assumption)).1 | exact (ask_ok (by assumption)).2.1 | exact (ask_ok (by assumption)).2.2.1 | exact (ask_ok (by assumption)).2.2.2 | trivial) : p := h
theorem shownN_ok (q a b : Nat) (h1 : q ≤ 1000) (h3 : a ≤ 1000) (h5 : b ≤ 1000) : Does Tryz.prog 92 [.one (int (q : Int)),.one (int (a : Int)),.one (int (b : Int))] [] (.one (.gv 0)) [roI (shA q a b)] := shownWord_ok q a b (by omega) (by omega) (by omega) (by omega) (by omega) (by omega)
theorem haltedN_ok (q v a b : Nat) (h1 : q ≤ 1000) (hv : v = 0 ∨ v = 1) (h3 : a ≤ 1000) (h5 : b ≤ 1000) : Does Tryz.prog 105 [.one (int (q : Int)),.one (int (v : Int)),.one (int (a : Int)),.one (int (b : Int))] [] (.one (shI (shB q v a b))) [] := haltedWord_ok q v a b (by omega) (by omega) (by omega) (by omega) (by omega) (by omega) (by omega)
theorem decodeTagWord_ok (m : Mach) (l : List Int) (g : TmOk m) (hw : ∀ y ∈ l,0 ≤ y ∧ y ≤ 30 * m.st) (hl : l.length ≤ 1000) : Does Tryz.prog 45 [.agg (maC m),.one (shI l)] [] (.tup [(true,[int (cfZ (dcI m l)).st,.gv 0,.gv 1]),(false,[int (bif (dcI m l).isSome then 0 else 9)])]) [roI (cfZ (dcI m l)).le,roI (cfZ (dcI m l)).ri] := by
  have hb := vMach_bd g.v
  rw [g.y] at hb
  have hs := g.s
  by_cases hn : (l.length : Int) = 0 ∨ l.headD 0 = 0
  · have e : dcI m l = none := by unfold dcI; rw [if_pos hn]
    rw [e]
    refine does_of (k := 0) Tryz.func45 rfl Tryz.ntmps45 rfl rfl fun w F0 S0 ρ0 => ?_
    dsimp only [argT,argH]
    repeat' first|(apply n3;exact a_new (gb := .bx _) rfl;exact rfl;refine dA ?_)|(apply p3;(first|exact pu1|exact puN|exact puC);exact rfl)|refine cdn ?_|refine g_reg (id := 0) ?_|refine g_reg (id := 1) ?_|refine g_reg (id := 2) ?_|(apply w3;(exact a_st_bx rfl rfl rfl rfl (fN rfl rfl) (Nat.le_of_ble_eq_true rfl) rfl);exact rfl;refine dS ?_)|refine o_no rfl rfl rfl rfl ?_|(apply py3;exact rfl;exact rfl;(first|exact pu1|exact puC|exact puI);exact rfl;exact rfl)|((first|refine o_gs rfl rfl (fun hc => ?_) (fun hc => ?_)|refine g_cond rfl (fun hc => ?_) (fun hc => ?_)) <;> (try simp only [dcB] at hc) <;> (try first|contradiction|(exfalso;omega)))|fail
    · simp only [setRow,scC,List.map_cons,List.map_nil,List.set_cons_zero,List.set_cons_succ,Nat.zero_add,List.getElem?_cons_zero,List.getElem?_cons_succ,List.take_succ_cons,List.take_zero,List.drop_zero,List.cons_append,List.nil_append,List.drop_succ_cons,List.drop_nil,List.append_nil,List.append_eq]
      refine g_conv (t_nilB (i := 1) (k := 1) (z := 1) rfl rfl rfl (by decide)) ?_
      try dsimp only [setRow,List.map_cons,List.map_nil,scC,List.set_cons_zero,List.set_cons_succ,Nat.reduceAdd]
      refine g_conv (t_nilB (i := 1) (k := 2) (z := 1) rfl rfl rfl (by decide)) ?_
      try dsimp only [setRow,List.map_cons,List.map_nil,scC,List.set_cons_zero,List.set_cons_succ,Nat.reduceAdd]
      repeat refine cr ?_
      refine ends_id ?_
      refine endK [?_,?_] (h2 := ?_) (h3 := ?_) (nd := ?_)
      rotate_left 2
      all_goals (repeat' first|exact ce0|refine ce ?_|refine ce2 ?_ ?_|(refine Or.inr (bx_eq rfl rfl ?_);(try dsimp only [C.ren,C.ren.all]);(try exact rfl))|exact SVLe.refl|refine ceb ?_)
      all_goals first | exact (show nodupB _ = true from rfl) | exact Or.inr rfl | (rfl)
    · simp only [setRow,scC,List.map_cons,List.map_nil,List.set_cons_zero,List.set_cons_succ,Nat.zero_add,List.getElem?_cons_zero,List.getElem?_cons_succ,List.take_succ_cons,List.take_zero,List.drop_zero,List.cons_append,List.nil_append,List.drop_succ_cons,List.drop_nil,List.append_nil,List.append_eq]
      refine g_conv (t_nilB (i := 1) (k := 1) (z := 1) rfl rfl rfl (by decide)) ?_
      try dsimp only [setRow,List.map_cons,List.map_nil,scC,List.set_cons_zero,List.set_cons_succ,Nat.reduceAdd]
      refine g_conv (t_nilB (i := 1) (k := 2) (z := 1) rfl rfl rfl (by decide)) ?_
      try dsimp only [setRow,List.map_cons,List.map_nil,scC,List.set_cons_zero,List.set_cons_succ,Nat.reduceAdd]
      repeat refine cr ?_
      refine ends_id ?_
      refine endK [?_,?_] (h2 := ?_) (h3 := ?_) (nd := ?_)
      rotate_left 2
      all_goals (repeat' first|exact ce0|refine ce ?_|refine ce2 ?_ ?_|(refine Or.inr (bx_eq rfl rfl ?_);(try dsimp only [C.ren,C.ren.all]);(try exact rfl))|exact SVLe.refl|refine ceb ?_)
      all_goals first | exact (show nodupB _ = true from rfl) | exact Or.inr rfl | (rfl)
    · exfalso
      rcases hn with h | h
      · contradiction
      · rw [← hd_get (by omega)] at h
        contradiction
  · have hh := hd_bd hw hn
    have hlt : Int.toNat 0 < l.length := hh.2.2
    have hg : l[Int.toNat 0]'hlt = l.headD 0 := hd_get hh.2.2
    have hg1 : 1 ≤ l[Int.toNat 0]'hlt := by rw [hg]; exact hh.1
    have hg2 : l[Int.toNat 0]'hlt ≤ 30 * m.st := by rw [hg]; exact hh.2.1
    obtain ⟨q,hq⟩ : ∃ q : Nat,(l.headD 0 - 1) / 30 = q := ⟨((l.headD 0 - 1) / 30).toNat,by omega⟩
    have hqs : (q : Int) < m.st := by omega
    have la : ltN [97] (q : Int) = 2 + 30 * q := by rw [ltN_i 1 (by decide)]; omega
    have lb : ltN [98] (q : Int) = 4 + 30 * q := by rw [ltN_i 3 (by decide)]; omega
    have lp : ltN [112,48] (q : Int) = 12 + 30 * q := by rw [ltN_i 11 (by decide)]; omega
    have lr : ltN [114,48] (q : Int) = 16 + 30 * q := by rw [ltN_i 15 (by decide)]; omega
    have e := dcI_at (m := m) hn hq
    have bx1 : l.count (2 + 30 * (q : Int)) ≤ 1000 := Nat.le_trans List.count_le_length hl
    have bx2 : l.count (4 + 30 * (q : Int)) ≤ 1000 := Nat.le_trans List.count_le_length hl
    have bx3 : l.count (12 + 30 * (q : Int)) ≤ 1000 := Nat.le_trans List.count_le_length hl
    have bx4 : l.count (16 + 30 * (q : Int)) ≤ 1000 := Nat.le_trans List.count_le_length hl
    generalize hn1 : l.count (2 + 30 * (q : Int)) = x1 at *
    generalize hn2 : l.count (4 + 30 * (q : Int)) = x2 at *
    generalize hn3 : l.count (12 + 30 * (q : Int)) = x3 at *
    generalize hn4 : l.count (16 + 30 * (q : Int)) = x4 at *
    have sA := shA_len (q : Int) x1 x2
    have sB := fun v => shB_len (q : Int) v x3 x4
    by_cases hA : l = shA q x1 x2
    · have hA' : eqI l (shA q x1 x2) = true := by unfold eqI; exact decide_eq_true hA
      have e1 : dcI m l = some ⟨q,btS x1,btS x2⟩ := by rw [e,if_pos hA]
      rw [e1]
      refine does_of (k := 0) Tryz.func45 rfl Tryz.ntmps45 rfl rfl fun w F0 S0 ρ0 => ?_
      dsimp only [argT,argH]
      repeat' first|(apply n3;exact a_new (gb := .bx _) rfl;exact rfl;refine dA ?_)|(apply p3;(first|exact pu1|exact puN|exact puC);exact rfl)|refine cdn ?_|refine g_reg (id := 0) ?_|refine g_reg (id := 1) ?_|(apply py3;exact rfl;exact rfl;(first|exact pu1|exact puC|exact puI);exact rfl;exact rfl)|((first|refine o_gs rfl rfl (fun hc => ?_) (fun hc => ?_)|refine g_cond rfl (fun hc => ?_) (fun hc => ?_)) <;> (try simp only [dcB] at hc) <;> (try first|contradiction|(exfalso;omega)))|fail
      repeat' first|(apply p3;(first|exact pu1|exact a_sub rfl rfl (by omega) (by omega)|exact a_quo rfl rfl (by omega) (by omega) (by omega)|exact puI);exact rfl)|refine cdn ?_|refine g_reg (id := 3) ?_|fail
      simp only [hg,hq]
      repeat' first|(apply p3;(exact pu1);exact rfl)|refine cdn ?_|refine g_reg (id := 4) ?_|(apply c4 0;exact callK1 (θ := []) (hD := (letterOf_ok _ _ preB204 preB204));exact rfl;exact rfl;exact rfl;refine dM ?_)|(apply c4 0;exact callK1 (θ := []) (hD := (countOf_ok _ _ preB204));exact rfl;exact rfl;exact rfl;refine dM ?_)|fail
      simp only [la,lb,hn1,hn2]
      repeat' first|(apply p3;(exact pu1);exact rfl)|refine cdn ?_|refine g_reg (id := 5) ?_|(apply c4 1;exact callK1 (θ := []) (hD := (shownN_ok _ _ _ preB204 preB204 preB204));exact rfl;exact rfl;exact rfl;refine dM ?_)|(apply c4 0;exact callK1 (θ := []) (hD := (sEqual_ok _ _ preB204 preB204));exact rfl;exact rfl;exact rfl;refine dM ?_)|((refine g_cond rfl (fun hc => ?_) (fun hc => ?_)) <;> (try simp only [dcB] at hc) <;> (try first|contradiction|(exfalso;omega)))|fail
      · simp only [Option.getD_some,Option.isSome_some,cond_true]
        repeat' first|(apply p3;(exact pu1);exact rfl)|refine cd ?_|(apply w3;(exact a_st_bx rfl rfl rfl rfl (fN rfl rfl) (Nat.le_of_ble_eq_true rfl) rfl);exact rfl;refine dS ?_)|(apply c4 2;exact callK1 (θ := []) (hD := (configOfBits_ok _ _ _ preB204 preB204 preB204 preB204));exact rfl;exact rfl;exact rfl;refine dM ?_)|fail
        repeat refine cr ?_
        refine ends_id ?_
        refine endK [?_,?_] (h2 := ?_) (h3 := ?_) (nd := ?_)
        rotate_left 2
        all_goals (repeat' first|exact ce0|refine ce ?_|refine ce2 ?_ ?_|(refine Or.inr (bx_eq rfl rfl ?_);(try dsimp only [C.ren,C.ren.all]);(try exact rfl))|exact SVLe.refl|refine ceb ?_)
        all_goals first | exact (show nodupB _ = true from rfl) | exact Or.inr rfl | (rfl)
      · rw [hA'] at hc
        cases hc
    · have hA' : eqI l (shA q x1 x2) = false := by unfold eqI; exact decide_eq_false hA
      rw [if_neg hA] at e
      refine does_of (k := 0) Tryz.func45 rfl Tryz.ntmps45 rfl rfl fun w F0 S0 ρ0 => ?_
      dsimp only [argT,argH]
      repeat' first|(apply n3;exact a_new (gb := .bx _) rfl;exact rfl;refine dA ?_)|(apply p3;(first|exact pu1|exact puN|exact puC);exact rfl)|refine cdn ?_|refine g_reg (id := 0) ?_|refine g_reg (id := 1) ?_|(apply py3;exact rfl;exact rfl;(first|exact pu1|exact puC|exact puI);exact rfl;exact rfl)|((first|refine o_gs rfl rfl (fun hc => ?_) (fun hc => ?_)|refine g_cond rfl (fun hc => ?_) (fun hc => ?_)) <;> (try simp only [dcB] at hc) <;> (try first|contradiction|(exfalso;omega)))|fail
      repeat' first|(apply p3;(first|exact pu1|exact a_sub rfl rfl (by omega) (by omega)|exact a_quo rfl rfl (by omega) (by omega) (by omega)|exact puI);exact rfl)|refine cdn ?_|refine g_reg (id := 3) ?_|fail
      simp only [hg,hq]
      repeat' first|(apply p3;(exact pu1);exact rfl)|refine cdn ?_|refine g_reg (id := 4) ?_|(apply c4 0;exact callK1 (θ := []) (hD := (letterOf_ok _ _ preB204 preB204));exact rfl;exact rfl;exact rfl;refine dM ?_)|(apply c4 0;exact callK1 (θ := []) (hD := (countOf_ok _ _ preB204));exact rfl;exact rfl;exact rfl;refine dM ?_)|fail
      simp only [la,lb,hn1,hn2]
      repeat' first|(apply p3;(exact pu1);exact rfl)|refine cdn ?_|refine g_reg (id := 5) ?_|(apply c4 1;exact callK1 (θ := []) (hD := (shownN_ok _ _ _ preB204 preB204 preB204));exact rfl;exact rfl;exact rfl;refine dM ?_)|(apply c4 0;exact callK1 (θ := []) (hD := (sEqual_ok _ _ preB204 preB204));exact rfl;exact rfl;exact rfl;refine dM ?_)|((refine g_cond rfl (fun hc => ?_) (fun hc => ?_)) <;> (try simp only [dcB] at hc) <;> (try first|contradiction|(exfalso;omega)))|fail
      · rw [hA'] at hc
        cases hc
      · skip
        repeat' first|(apply p3;(exact pu1);exact rfl)|refine cdn ?_|refine g_reg (id := 7) ?_|(apply c4 0;exact callK1 (θ := []) (hD := (letterOf_ok _ _ preB204 preB204));exact rfl;exact rfl;exact rfl;refine dM ?_)|(apply c4 0;exact callK1 (θ := []) (hD := (countOf_ok _ _ preB204));exact rfl;exact rfl;exact rfl;refine dM ?_)|fail
        simp only [lp,lr,hn3,hn4]
        repeat' first|(apply p3;(exact pu1);exact rfl)|refine cdn ?_|refine g_reg (id := 8) ?_|fail
        refine g_loop_id ?_
        refine loopK [1,2,4,5,6,7,9] [] (fun v : Int => 0 ≤ v ∧ v ≤ 2 ∧ (1 ≤ v → ¬ (ruN m q 0 = noR ∧ l = shB q 0 x3 x4)) ∧ (2 ≤ v → ¬ (ruN m q 1 = noR ∧ l = shB q 1 x3 x4))) (fun v => [(52,.one (int v))]) (fun _ => []) (fun v => (2 - v).toNat) (0 : Int) [0,1,2] (hI := ?_) (hr := ?_)
        · exact ⟨by simp,by simp,fun h => absurd h (by simp),fun h => absurd h (by simp)⟩
        · rintro v ⟨j0,j1,j2,j3⟩
          dsimp only [List.cons_append,List.nil_append] at *
          skip
          repeat' first|(apply p3;(first|exact pu1|exact puC);exact rfl)|refine cdn ?_|refine g_reg (id := 9) ?_|refine g_reg (id := 10) ?_|refine g_reg (id := 14) ?_|(apply w3;(exact a_st_bx rfl rfl rfl rfl (fN rfl rfl) (Nat.le_of_ble_eq_true rfl) rfl);exact rfl;refine dS ?_)|((refine g_cond rfl (fun hc => ?_) (fun hc => ?_)) <;> (try simp only [dcB] at hc) <;> (try first|contradiction|(exfalso;omega)))|fail
          · obtain ⟨u,hu⟩ : ∃ u : Nat,v = u := ⟨v.toNat,by omega⟩
            subst hu
            have hR := ruN_get (m := m) (q := (q : Int)) (s := (u : Int)) (by omega) (by omega) (by omega)
            simp only [Int.toNat_natCast] at hR
            have hu2 : u = 0 ∨ u = 1 := by omega
            have sBu := sB u
            repeat' first|(apply p3;(first|exact pu1|exact a_mulB rfl rfl (by omega) (by omega) (by omega) (by omega)|exact a_add rfl rfl (by omega) (by omega)|exact puI);exact rfl)|refine cdn ?_|refine g_reg (id := 11) ?_|(apply c4 0;exact callK1 (θ := []) (hD := (isRule_ok _));exact rfl;exact rfl;exact rfl;refine dM ?_)|refine o_no rfl rfl rfl rfl ?_|(apply py3;exact rfl;exact rfl;(exact pu1);exact rfl;exact rfl)|(apply cy4 0;exact rfl;exact rfl;exact callK0 (θ := []) (hD := (haltedN_ok _ _ _ _ preB204 preB204 preB204 preB204));exact rfl;exact rfl;exact rfl;exact rfl;refine dM ?_)|(apply cy4 0;exact rfl;exact rfl;exact callK1 (θ := []) (hD := (sEqual_ok _ _ preB204 preB204));exact rfl;exact rfl;exact rfl;exact rfl;refine dM ?_)|((first|refine o_gs rfl rfl (fun hc => ?_) (fun hc => ?_)|refine g_cond rfl (fun hc => ?_) (fun hc => ?_)) <;> (try simp only [dcB] at hc) <;> (try first|contradiction|(exfalso;omega)))|fail
            · have hr0 : ruN m q u = noR := by rw [← hR]; assumption
              have hE : l = shB q u x3 x4 := by unfold eqI at hc; exact of_decide_eq_true hc
              have e1 : dcI m l = some ⟨q,btS x3,btS (2 * (x4 : Int) + (u : Int))⟩ := by
                rcases hu2 with h | h
                · subst h
                  rw [e,if_pos ⟨hr0,hE⟩]
                  rfl
                · subst h
                  rw [e,if_neg (j2 (by omega)),if_pos ⟨hr0,hE⟩]
                  rfl
              rw [e1]
              simp only [Option.getD_some,Option.isSome_some,cond_true]
              repeat' first|(apply p3;(first|exact pu1|exact a_mulB rfl rfl (by omega) (by omega) (by omega) (by omega)|exact a_add rfl rfl (by omega) (by omega));exact rfl)|refine cd ?_|(apply w3;(exact a_st_bx rfl rfl rfl rfl (fN rfl rfl) (Nat.le_of_ble_eq_true rfl) rfl);exact rfl;refine dS ?_)|(apply c4 2;exact callK1 (θ := []) (hD := (configOfBits_ok _ _ _ preB204 preB204 preB204 preB204));exact rfl;exact rfl;exact rfl;refine dM ?_)|fail
              repeat refine cr ?_
              refine ends_id ?_
              refine endK [?_,?_] (h2 := ?_) (h3 := ?_) (nd := ?_)
              rotate_left 2
              all_goals (repeat' first|exact ce0|refine ce ?_|refine ce2 ?_ ?_|(refine Or.inr (bx_eq rfl rfl ?_);(try dsimp only [C.ren,C.ren.all]);(try exact rfl))|exact SVLe.refl|refine ceb ?_)
              all_goals first | exact (show nodupB _ = true from rfl) | exact Or.inr rfl | (rfl)
            · have hE : ¬ l = shB q u x3 x4 := by unfold eqI at hc; exact of_decide_eq_false hc
              repeat' first|(apply p3;(first|exact pu1|exact a_add rfl rfl (by omega) (by omega));exact rfl)|refine cdn ?_|refine g_reg (id := 13) ?_|fail
              refine q_again ((u : Int) + 1) [0,1,2] (by exact stk) ?_ ?_
              · refine ⟨by omega,by omega,fun _ hD => ?_,fun h hD => ?_⟩
                · rcases hu2 with h | h
                  · subst h; exact hE hD.2
                  · subst h; exact j2 (by omega) hD
                · have : u = 1 := by omega
                  subst this
                  exact hE hD.2
              · omega
            · have hr0 : ¬ ruN m q u = noR := by rw [← hR]; assumption
              repeat' first|(apply p3;(first|exact pu1|exact a_add rfl rfl (by omega) (by omega));exact rfl)|refine cdn ?_|refine g_reg (id := 13) ?_|fail
              refine q_again ((u : Int) + 1) [0,1,2] (by exact stk) ?_ ?_
              · refine ⟨by omega,by omega,fun _ hD => ?_,fun h hD => ?_⟩
                · rcases hu2 with h | h
                  · subst h; exact hr0 hD.1
                  · subst h; exact j2 (by omega) hD
                · have : u = 1 := by omega
                  subst this
                  exact hr0 hD.1
              · omega
          · rw [if_neg (j2 (by omega)),if_neg (j3 (by omega))] at e
            rw [e]
            skip
            simp only [setRow,scC,List.map_cons,List.map_nil,List.set_cons_zero,List.set_cons_succ,Nat.zero_add,List.getElem?_cons_zero,List.getElem?_cons_succ,List.take_succ_cons,List.take_zero,List.drop_zero,List.cons_append,List.nil_append,List.drop_succ_cons,List.drop_nil,List.append_nil,List.append_eq]
            refine g_conv (t_nilB (i := 1) (k := 1) (z := 1) rfl rfl rfl (by decide)) ?_
            try dsimp only [setRow,List.map_cons,List.map_nil,scC,List.set_cons_zero,List.set_cons_succ,Nat.reduceAdd]
            refine g_conv (t_nilB (i := 1) (k := 2) (z := 1) rfl rfl rfl (by decide)) ?_
            try dsimp only [setRow,List.map_cons,List.map_nil,scC,List.set_cons_zero,List.set_cons_succ,Nat.reduceAdd]
            repeat refine cr ?_
            refine ends_id ?_
            refine endK [?_,?_] (h2 := ?_) (h3 := ?_) (nd := ?_)
            rotate_left 2
            all_goals (repeat' first|exact ce0|refine ce ?_|refine ce2 ?_ ?_|(refine Or.inr (bx_eq rfl rfl ?_);(try dsimp only [C.ren,C.ren.all]);(try exact rfl))|exact SVLe.refl|refine ceb ?_)
            all_goals first | exact (show nodupB _ = true from rfl) | exact Or.inr rfl | (rfl)
end Go.Proofs.YtjmlbmmbionmcaaGreatDoor
end
