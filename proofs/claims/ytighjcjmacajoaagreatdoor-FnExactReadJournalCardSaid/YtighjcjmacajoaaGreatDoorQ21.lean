/- Parts of the proof (21 of 22). -/
import Derived.Carry
import Derived.ChangeOld
import Derived.Deep.Fields
import Derived.Deep.Slices
import Derived.OpenShut
import Derived.ProofKit
import Derived.ShutString
import Derived.Test.YtighjcjmacajoaaGreatDoorQ20
section
set_option linter.unusedVariables false
set_option linter.unusedSimpArgs false
set_option maxRecDepth 100000
namespace Go.Proofs.YtighjcjmacajoaaGreatDoor
open Go Foot Go.ChangeShapes Go.WideShapes Go.ChangeAt Go.RowKit Go.Deep
def allW (w : World) : Foot := fun b _ => b < w.heap.size
def Opens {α : Type} (P : Program) (t : TypeId) (z : Nat) (E : α → List D) (Q : α → Prop) : Prop :=
  (∀ a,(E a).length = z) ∧
  ∀ {H : Type} (enc : TypeId × Value → H) (w : World) (base : Nat) (held : Bool) (fuel : Nat) (cs : List Value) (x : DataW H × List MemPlace),
    DataW.trod enc P w base (fun _ => true) held fuel t cs = some x → ∃ a,Reps w (allW w) (E a) cs no ∧ Q a
theorem reps_one {w : World} {S : Foot} {c : D} {v : Value} (h : Rep w S c v no) : Reps w S [c] [v] no :=
  ⟨v,[],no,no,rfl,le_refl _,le_refl _,no_dis _,h,rfl⟩
section
variable {H : Type} {enc : TypeId × Value → H} {P : Program} {w : World} {base : Nat} {held : Bool} {t : TypeId} {v : Value} {d : DataW H} {p : List MemPlace} {ρ : Env}
theorem arg_one {α : Type} {E : α → D} {Q : α → Prop} (hv : v.cells = #[v]) (h : DataW.Trod enc P w base (fun _ => true) held t v d p) (ho : Opens P t 1 (fun a => [E a]) Q) :
    ∃ a,RepS w (allW w) ρ (.one (.d (E a))) v ∧ Q a := by
  obtain ⟨fuel,hf⟩ := h
  obtain ⟨a,ha,hq⟩ := ho.2 enc w base held fuel _ _ hf
  rw [hv] at ha
  simp only [Reps] at ha
  obtain ⟨v',us,F1,F2,e,_,_,_,h1,rfl⟩ := ha
  cases e
  exact ⟨a,h1.mono (by assumption),hq⟩
end
theorem does_calls {P : Program} {f : Nat} {args : List SV} {vs : Array Value} {w : World} (hd : Does P f args [] (.one (boo true)) []) (ht : Tabs w (allW w)) (ha : RepA w (allW w) (fun _ => none) args vs.toList) :
    Calls P f vs w fun e w' => e = .returned (.bool true) ∧ Below w.heap.size w w' := by
  have := hd vs.toList w (allW w) (fun _ => none) (fun _ => no) ha ⟨fun i gb h => by simp at h,fun _ _ => rfl,fun i j h => by simp at h,fun i h => by simp at h,fun i h => by simp at h,fun b o h => h,ht⟩
  rw [show vs.toList.toArray = vs from rfl] at this
  refine this.mono fun e w' hx => ?_
  obtain ⟨v,S1,ρ',F',he,hr,hv⟩ := hx
  obtain ⟨rfl,_⟩ := hv
  refine ⟨he,hr.keeps.os,hr.keeps.tape,hr.keeps.output,hr.keeps.size,fun k hk => hr.keeps.block k hk fun o ⟨i,hi,_⟩ => by simp at hi⟩
end Go.Proofs.YtighjcjmacajoaaGreatDoor
end
section
set_option linter.unusedVariables false
set_option linter.unusedSimpArgs false
set_option maxRecDepth 100000
namespace Go.Proofs.YtighjcjmacajoaaGreatDoor
open Go Foot Go.ChangeShapes Go.WideShapes Go.ChangeAt Go.RowKit Go.Deep
theorem own : ownKnob Tryz.prog.godebug = none := by kernel_rfl
theorem laidOut : laidOutB Tryz.prog = true := by kernel_rfl
end Go.Proofs.YtighjcjmacajoaaGreatDoor
end
section
set_option linter.unusedVariables false
set_option linter.unusedSimpArgs false
set_option maxRecDepth 100000
namespace Go.Proofs.YtighjcjmacajoaaGreatDoor
open Go Foot Go.ChangeShapes Go.WideShapes Go.ChangeAt Go.RowKit Go.Deep
end Go.Proofs.YtighjcjmacajoaaGreatDoor
end
section
set_option linter.unusedVariables false
set_option linter.unusedSimpArgs false
set_option maxRecDepth 100000
namespace Go.Proofs.YtighjcjmacajoaaGreatDoor
open Go Foot Go.ChangeShapes Go.WideShapes Go.ChangeAt Go.RowKit Go.Deep
end Go.Proofs.YtighjcjmacajoaaGreatDoor
end
section
set_option linter.unusedVariables false
set_option linter.unusedSimpArgs false
set_option maxRecDepth 100000
namespace Go.Proofs.YtighjcjmacajoaaGreatDoor
open Go Foot Go.ChangeShapes Go.WideShapes Go.ChangeAt Go.RowKit Go.Deep
end Go.Proofs.YtighjcjmacajoaaGreatDoor
end
section
set_option linter.unusedVariables false
set_option linter.unusedSimpArgs false
set_option maxRecDepth 100000
set_option maxHeartbeats 4000000
namespace Go.Proofs.YtighjcjmacajoaaGreatDoor
open Go Foot
structure LenOk (v : Verd) : Prop where
  a : (v.m.ru.length : Int) ≤ 9223372036854775807
  b : (v.p.nu.length : Int) ≤ 9223372036854775807
  c : (v.p.wo.length : Int) ≤ 9223372036854775807
  d : ∀ x ∈ v.p.wo,(x.length : Int) ≤ 9223372036854775807
theorem preD5 {p : Prop} (h : p := by first | with_reducible assumption | omega | (simp only [List.length_append,List.length_cons,List.length_nil,List.length_set,List.length_replicate,List.length_take,List.length_drop,List.length_tail,List.length_dropLast,List.length_reverse] at *; omega) | exact mem_len (by assumption) (by omega) | (with_reducible refine Int.le_trans (Int.ofNat_le.2 (trimR_len _)) ?_; simp only [List.length_cons,List.length_tail]; omega) | (exact (ruAt_ok (by assumption) (by assumption) (by assumption)).2.1) | (exact (ruAt_ok (by assumption) (by assumption) (by assumption)).2.1) | (have := vMach_bd (by assumption); omega) | (simp only [mC_ch,mC_tu]; omega) | (have := vTag_bd (by assumption); omega) | (have := (‹Gd _ _›).le; omega) | (exact tgHalts_no (by assumption)) | (exact tgHead (by assumption) (by assumption) (by assumption)) | (exact Int.le_trans (tgStep_gd (by assumption) (by assumption) (by assumption) (by assumption)).le (by decide)) | (exact vTag_r (by assumption)) | (with_reducible refine Int.le_trans (Int.ofNat_le.2 (pushL_len _ _)) ?_; simp only [List.length_dropLast]; omega) | exact ls_at (by assumption) (by omega) | exact pt_gd (by assumption) | exact lv_at (by assumption) (by omega) | exact pt_gd (lv_at (by assumption) (by omega)) | exact (ask_ok (by assumption)).1 | exact (ask_ok (by assumption)).2.1 | exact (ask_ok (by assumption)).2.2.1 | exact (ask_ok (by assumption)).2.2.2 | (simp only [marks_len]; omega) | (simp only [marksR_len]; omega) | trivial) : p := h
structure BigOk (v : Verd) : Prop where
  a : (v.m.ru.length : Int) ≤ 1048576
  b : (v.p.nu.length : Int) ≤ 1048576
  c : (v.p.wo.length : Int) ≤ 1048576
  d : ∀ x ∈ v.p.wo,(x.length : Int) ≤ 1048576
@[irreducible] def eqV (a b : Verd) : Bool := eqM a.m b.m && eqP a.p b.p
theorem eqVerdict_ok (a b : Verd) (g : BigOk a) (k : BigOk b) : Does Tryz.prog 32 [.agg (veC a),.agg (veC b)] [] (.one (boo (eqV a b))) [] := by
  obtain ⟨g1,g2,g3,g4⟩ := g
  obtain ⟨k1,k2,k3,k4⟩ := k
  refine does_of (k := 0) Tryz.func32 rfl Tryz.ntmps32 rfl rfl fun w F0 S0 ρ0 => ?_
  dsimp only [argT,argH]
  repeat' first|(apply n3;exact a_new (gb := .bx _) rfl;exact rfl;refine dA ?_)|(apply p3;(exact puL);exact rfl)|refine cd ?_|(apply c4 0;exact callK1 (θ := []) (hD := (eqMachine_ok _ _ preD5 preD5));exact rfl;exact rfl;exact rfl;refine dM ?_)|(apply c4 0;exact callK1 (θ := []) (hD := (eqProof_ok _ _ preD5 preD5 preD5 preD5 preD5 preD5));exact rfl;exact rfl;exact rfl;refine dM ?_)|((refine g_cond rfl (fun hc => ?_) (fun hc => ?_)) <;> (try simp only [dcB] at hc) <;> (try first|contradiction|(exfalso;omega)))
  all_goals
    repeat refine cr ?_
    refine ends_id ?_
    refine endK [] (h2 := ?_) (h3 := ?_) (nd := ?_)
    all_goals (repeat' first|exact ce0|refine ce ?_|refine ce2 ?_ ?_|exact SVLe.refl|refine ceb ?_)
    all_goals first | exact (show nodupB _ = true from rfl) | exact Or.inr rfl | ((unfold eqV; simp [*]))
end Go.Proofs.YtighjcjmacajoaaGreatDoor
end
section
set_option linter.unusedVariables false
set_option linter.unusedSimpArgs false
set_option maxRecDepth 100000
set_option maxHeartbeats 4000000
namespace Go.Proofs.YtighjcjmacajoaaGreatDoor
open Go Foot
structure LnsOk (l : List Verd) : Prop where
  n : (l.length : Int) ≤ 9223372036854775807
  a : ∀ v ∈ l,LenOk v
theorem lns_at {l : List Verd} (g : LnsOk l) {i : Nat} (h : i < l.length) : LenOk l[i] := g.a _ (List.getElem_mem h)
structure BgsOk (l : List Verd) : Prop where
  n : (l.length : Int) ≤ 1048576
  a : ∀ v ∈ l,BigOk v
theorem bgs_at {l : List Verd} (g : BgsOk l) {i : Nat} (h : i < l.length) : BigOk l[i] := g.a _ (List.getElem_mem h)
theorem preD6_2 {p : Prop} (h : p := by first | with_reducible assumption | omega | (simp only [List.length_append,List.length_cons,List.length_nil,List.length_set,List.length_replicate,List.length_take,List.length_drop,List.length_tail,List.length_dropLast,List.length_reverse] at *; omega) | exact mem_len (by assumption) (by omega) | (with_reducible refine Int.le_trans (Int.ofNat_le.2 (trimR_len _)) ?_; simp only [List.length_cons,List.length_tail]; omega) | (exact (ruAt_ok (by assumption) (by assumption) (by assumption)).2.1) | (exact (ruAt_ok (by assumption) (by assumption) (by assumption)).2.1) | (have := vMach_bd (by assumption); omega) | (simp only [mC_ch,mC_tu]; omega) | (have := vTag_bd (by assumption); omega) | (have := (‹Gd _ _›).le; omega) | (exact tgHalts_no (by assumption)) | (exact tgHead (by assumption) (by assumption) (by assumption)) | (exact Int.le_trans (tgStep_gd (by assumption) (by assumption) (by assumption) (by assumption)).le (by decide)) | (exact vTag_r (by assumption)) | (with_reducible refine Int.le_trans (Int.ofNat_le.2 (pushL_len _ _)) ?_; simp only [List.length_dropLast]; omega) | exact ls_at (by assumption) (by omega) | exact pt_gd (by assumption) | exact lv_at (by assumption) (by omega) | exact pt_gd (lv_at (by assumption) (by omega)) | exact (ask_ok (by assumption)).1 | exact (ask_ok (by assumption)).2.1 | exact (ask_ok (by assumption)).2.2.1 | exact (ask_ok (by assumption)).2.2.2 | (simp only [marks_len]; omega) | (simp only [marksR_len]; omega) | exact lns_at (by assumption) (by omega) | exact bgs_at (by assumption) (by omega) | trivial) : p := h
theorem eqV_iff {a b : Verd} : eqV a b = true ↔ a = b := by
  obtain ⟨⟨a1,a2,a3⟩,⟨a4,a5,a6⟩⟩ := a
  obtain ⟨⟨b1,b2,b3⟩,⟨b4,b5,b6⟩⟩ := b
  unfold eqV eqM eqP
  simp only [Bool.and_eq_true,decide_eq_true_eq,Verd.mk.injEq,Mach.mk.injEq,Prf.mk.injEq]
theorem eqVerdictSs_ok (xs : List Verd) (g : BgsOk xs) : Does Tryz.prog 27 [.one (shV xs),.one (shV xs)] [] (.one (boo true)) [] := by
  have hx := g.n
  have hq : ∀ v : Verd,¬ eqV v v = false := fun v h => by rw [eqV_iff.2 rfl] at h; cases h
  refine does_of (k := 0) Tryz.func27 rfl Tryz.ntmps27 rfl rfl fun w F0 S0 ρ0 => ?_
  dsimp only [argT,argH]
  repeat' first|(apply p3;(first|exact pu1|exact puN|exact a_ne rfl rfl);exact rfl)|refine cd ?_|((refine g_cond rfl (fun hc => ?_) (fun hc => ?_)) <;> (try simp only [dcB] at hc) <;> (try first|contradiction|(exfalso;omega)))
  refine g_loop_id ?_
  refine loopK [0,1,4] [] (fun i : Int => 0 ≤ i ∧ i ≤ xs.length) (fun i => [(5,.one (int i))]) (fun _ => []) (fun i => (xs.length - i).toNat) (0 : Int) [] (hI := ?_) (hr := ?_)
  · exact ⟨by simp,by simp⟩
  · rintro i ⟨h0,h1⟩
    dsimp only [List.cons_append,List.nil_append] at *
    skip
    repeat' first|(apply p3;(first|exact pu1|exact puN|exact puC);exact rfl)|refine cdn ?_|refine g_reg (id := 4) ?_|refine g_reg (id := 8) ?_|((refine g_cond rfl (fun hc => ?_) (fun hc => ?_)) <;> (try simp only [dcB] at hc) <;> (try first|contradiction|(exfalso;omega)))
    · have hq2 := hq (xs[i.toNat]'(by omega))
      repeat' first|(apply p3;(first|exact pu1|exact a_add rfl rfl (by omega) (by omega));exact rfl)|refine cd ?_|(apply g_drN (id := 6) okM [[],[],[0,1],[0,1,2],[],[],[4,5],[4,5,6],[0,1,2,3,4,5,6,7],[0,1,2,3,4,5,6,7,8]] [([],[]),([],[]),([],[]),([],[]),([],[]),([],[]),([],[]),([],[]),([],[]),([],[])] 0;(focus (refine dp 0 0 [18,21,22,23,24] [] pu1 ?_;refine dp 1 0 [17,21,22,23,24] [] pu1 ?_;refine dp 2 3 [21,22,23,24] [] puI ?_;refine dp 3 7 [21,22,23,24] [] (by exact puL) ?_;refine dp 4 0 [17,18,19,20,22] [] pu1 ?_;refine dp 5 0 [17,18,19,20,21] [] pu1 ?_;refine dp 6 3 [17,18,19,20] [] puI ?_;refine dp 7 7 [17,18,19,20] [] (by exact puL) ?_;refine dp 8 255 [] [] (callD1 (n := _) 0 (θ := []) (hD := (eqVerdict_ok _ _ preD6_2 preD6_2))) ?_;refine dp 9 511 [] [] (a_pure (sv := .one _) rfl) ?_;(refine d_nil ?_;refine dN ?_)));any_goals kernel_rfl)|((refine g_cond rfl (fun hc => ?_) (fun hc => ?_)) <;> (try simp only [dcB] at hc) <;> (try first|contradiction|(exfalso;omega)))
      refine q_again (i + 1) [] (by exact stk) ?_ ?_
      · exact ⟨by omega,by omega⟩
      · omega
    · skip
      repeat refine cr ?_
      refine ends_id ?_
      refine endK [] (h2 := ?_) (h3 := ?_) (nd := ?_)
      all_goals (repeat' first|exact ce0|refine ce ?_|refine ce2 ?_ ?_|exact SVLe.refl|refine ceb ?_)
      all_goals first | exact (show nodupB _ = true from rfl) | exact Or.inr rfl | (rfl)
end Go.Proofs.YtighjcjmacajoaaGreatDoor
end
section
set_option linter.unusedVariables false
set_option linter.unusedSimpArgs false
set_option maxRecDepth 100000
set_option maxHeartbeats 4000000
namespace Go.Proofs.YtighjcjmacajoaaGreatDoor
open Go Foot
@[irreducible] def marksR (k : Int) (n : Nat) : List Rule' := (List.range n).map fun (i : Nat) => ⟨k + 3 * (i : Int),k + 3 * (i : Int) + 1,k + 3 * (i : Int) + 2⟩
theorem marksR_len (k : Int) (n : Nat) : (marksR k n).length = n := by unfold marksR; simp
theorem marksR_get (k : Int) (n i : Nat) (h : i < n) : (marksR k n)[i]? = some ⟨k + 3 * i,k + 3 * i + 1,k + 3 * i + 2⟩ := by unfold marksR; simp [h]
theorem markR_end {k : Int} {xs l : List Rule'} (h1 : l.length = xs.length) (h2 : ∀ j (h : j < xs.length),l[j]? = some ⟨k + 3 * j,k + 3 * j + 1,k + 3 * j + 2⟩) : l = marksR k xs.length := by
  apply List.ext_getElem?
  intro j
  by_cases hj : j < xs.length
  · rw [marksR_get k _ j hj,h2 j hj]
  · rw [List.getElem?_eq_none (by omega),List.getElem?_eq_none (by rw [marksR_len]; omega)]
theorem markRuleS_ok (m : Mach) (k : Int) (h1 : 0 ≤ k) (h2 : k ≤ 4611686018427387904) (hx : (m.ru.length : Int) ≤ 4611686018427) : Does Tryz.prog 80 [.one (.gv 0),.one (int k)] [.row 3 (rows eR m.ru)] (.one (int (k + 3 * m.ru.length))) [.row 3 (rows eR (marksR k m.ru.length))] := by
  refine does_of (k := 1) Tryz.func80 rfl Tryz.ntmps80 rfl rfl fun w F0 S0 ρ0 => ?_
  dsimp only [argT,argH]
  repeat' first|(apply p3;(exact pu1);exact rfl)|refine cd ?_
  refine g_loop_id ?_
  refine loopK [0,4] [0] (fun y : Int × List Rule' => 0 ≤ y.1 ∧ y.1 ≤ m.ru.length ∧ y.2.length = m.ru.length ∧ ∀ (j : Nat),(j : Int) < y.1 → y.2[j]? = some ⟨k + 3 * j,k + 3 * j + 1,k + 3 * j + 2⟩) (fun y => [(5,.one (int y.1)),(1,.one (int (k + 3 * y.1)))]) (fun y => [(0,.row 3 (rows eR y.2))]) (fun y => (m.ru.length - y.1).toNat) ((0 : Int),m.ru) [0] (hI := ?_) (hr := ?_)
  · exact ⟨by simp,by simp,rfl,fun j h' => by simp at h'; omega⟩
  · rintro ⟨i,l⟩ ⟨k1,k2,k3,k4⟩
    dsimp only [List.cons_append,List.nil_append] at *
    skip
    repeat' first|(apply p3;(first|exact pu1|exact puN|exact puC|exact a_add rfl rfl (by omega) (by omega)|exact puI);exact rfl)|refine cd ?_|(apply w3;(exact a_stF (E := eR) ⟨_,_,_⟩ rfl rfl rfl rfl (fN rfl rfl) (Nat.le_of_ble_eq_true rfl) (Nat.le_of_ble_eq_true rfl) (by first|exact List.getElem?_set_self bnd|exact List.getElem?_eq_getElem bnd) (by (try dsimp only [setRow,List.set_cons_succ,List.set_cons_zero]);first|done|exact rfl) rfl);exact rfl;refine dS ?_)|((refine g_cond rfl (fun hc => ?_) (fun hc => ?_)) <;> (try simp only [dcB] at hc) <;> (try first|contradiction|(exfalso;omega)))
    · refine q_again (i + 1,_) [0] (by exact stk) ?_ ?_
      · refine ⟨by dsimp only; omega,by dsimp only; omega,by simp [k3],fun j h => ?_⟩
        dsimp only at h ⊢
        simp only [List.set_set]
        rw [List.getElem?_set]
        split
        · rename_i e
          subst e
          rw [if_pos (by omega),show ((i.toNat : Nat) : Int) = i by omega,show k + 3 * i + 1 + 1 = k + 3 * i + 2 by omega]
        · exact k4 j (by omega)
      · dsimp only; omega
    · have hi : i = m.ru.length := by omega
      subst hi
      have hl := markR_end (k := k) k3 fun j hj => k4 j (by omega)
      rw [← hl]
      repeat refine cr ?_
      refine ends_id ?_
      refine endK [] (h2 := ?_) (h3 := ?_) (nd := ?_)
      all_goals (repeat' first|exact ce0|refine ce ?_|refine ce2 ?_ ?_|(refine Or.inr (bx_eq rfl rfl ?_);(try dsimp only [C.ren,C.ren.all]);(try exact rfl))|exact SVLe.refl|refine ceb ?_)
      all_goals first | exact (show nodupB _ = true from rfl) | exact Or.inr rfl | (rfl)
end Go.Proofs.YtighjcjmacajoaaGreatDoor
end
section
set_option linter.unusedVariables false
set_option linter.unusedSimpArgs false
set_option maxRecDepth 100000
set_option maxHeartbeats 4000000
namespace Go.Proofs.YtighjcjmacajoaaGreatDoor
open Go Foot
abbrev eVn : Enc Verd := ⟨6,fun v => [.sc (.int .i64 v.m.sy),.sc (.int .i64 v.m.st),.sl true 3 (rows eR v.m.ru),.sc (.int .i64 v.p.k),.sl true 1 (rows eI v.p.nu),.sl true 1 (rows eWn v.p.wo)],fun _ => rfl,by decide⟩
abbrev roVn (l : List Verd) : GB := .row 6 (rows eVn l)
theorem preD8 {p : Prop} (h : p := by first | with_reducible assumption | omega | (simp only [List.length_append,List.length_cons,List.length_nil,List.length_set,List.length_replicate,List.length_take,List.length_drop,List.length_tail,List.length_dropLast,List.length_reverse] at *; omega) | exact mem_len (by assumption) (by omega) | (with_reducible refine Int.le_trans (Int.ofNat_le.2 (trimR_len _)) ?_; simp only [List.length_cons,List.length_tail]; omega) | (exact (ruAt_ok (by assumption) (by assumption) (by assumption)).2.1) | (exact (ruAt_ok (by assumption) (by assumption) (by assumption)).2.1) | (have := vMach_bd (by assumption); omega) | (simp only [mC_ch,mC_tu]; omega) | (have := vTag_bd (by assumption); omega) | (have := (‹Gd _ _›).le; omega) | (exact tgHalts_no (by assumption)) | (exact tgHead (by assumption) (by assumption) (by assumption)) | (exact Int.le_trans (tgStep_gd (by assumption) (by assumption) (by assumption) (by assumption)).le (by decide)) | (exact vTag_r (by assumption)) | (with_reducible refine Int.le_trans (Int.ofNat_le.2 (pushL_len _ _)) ?_; simp only [List.length_dropLast]; omega) | exact ls_at (by assumption) (by omega) | exact pt_gd (by assumption) | exact lv_at (by assumption) (by omega) | exact pt_gd (lv_at (by assumption) (by omega)) | exact (ask_ok (by assumption)).1 | exact (ask_ok (by assumption)).2.1 | exact (ask_ok (by assumption)).2.2.1 | exact (ask_ok (by assumption)).2.2.2 | (simp only [marks_len]; omega) | (simp only [marksR_len]; omega) | exact lns_at (by assumption) (by omega) | exact bgs_at (by assumption) (by omega) | trivial) : p := h
@[irreducible] def szv (v : Verd) : Int := 3 + 3 * v.m.ru.length + v.p.nu.length + totW v.p.wo
@[irreducible] def mkv (k : Int) (v : Verd) : Verd := ⟨⟨k,k + 1,marksR (k + 1 + 1) v.m.ru.length⟩,⟨k + 1 + 1 + 3 * v.m.ru.length,marks (k + 1 + 1 + 3 * v.m.ru.length + 1) v.p.nu.length,mksW (k + 1 + 1 + 3 * v.m.ru.length + 1 + v.p.nu.length) v.p.wo⟩⟩
@[irreducible] def totV (xs : List Verd) : Int := totL szv xs
@[irreducible] def mksV (k : Int) (xs : List Verd) : List Verd := mkL szv mkv k xs
theorem totW_bd {xs : List (List Int)} (b : Int) (h : ∀ x ∈ xs,(x.length : Int) ≤ b) : 0 ≤ totW xs ∧ totW xs ≤ xs.length * b := by
  unfold totW
  exact totL_bd szw b fun x hx => ⟨by unfold szw; omega,h x hx⟩
theorem szv_bd {v : Verd} (g : BigOk v) : 0 ≤ szv v ∧ szv v ≤ 1099517000000 := by
  obtain ⟨g1,g2,g3,g4⟩ := g
  have h := totW_bd 1048576 g4
  unfold szv
  omega
theorem totV_bd {xs : List Verd} (g : ∀ v ∈ xs,BigOk v) : 0 ≤ totL szv xs ∧ totL szv xs ≤ xs.length * 1099517000000 := totL_bd szv _ fun v hv => szv_bd (g v hv)
theorem markVerdictSn_ok (xs : List Verd) (k : Int) (g : BgsOk xs) (h1 : 0 ≤ k) (h2 : k ≤ 1152921504606846976) : Does Tryz.prog 28 [.one (.gv 0),.one (int k)] [roVn xs] (.one (int (k + totV xs))) [roVn (mksV k xs)] := by
  have hx := g.n
  refine does_of (k := 1) Tryz.func28 rfl Tryz.ntmps28 rfl rfl fun w F0 S0 ρ0 => ?_
  dsimp only [argT,argH]
  repeat' first|(apply p3;(exact pu1);exact rfl)|refine cd ?_
  refine g_loop_id ?_
  refine loopK [0,4] [0] (fun y : Int × Int × List Verd => 0 ≤ y.1 ∧ y.1 ≤ xs.length ∧ y.2.1 = k + totL szv (xs.take y.1.toNat) ∧ y.2.2 = mkT szv mkv k xs y.1.toNat) (fun y => [(5,.one (int y.1)),(1,.one (int y.2.1))]) (fun y => [(0,roVn y.2.2)]) (fun y => (xs.length - y.1).toNat) ((0 : Int),k,xs) [0] (hI := ?_) (hr := ?_)
  · exact ⟨by simp,by simp,by simp [totL],(mkT_0 _ _ _ _).symm⟩
  · rintro ⟨i,k',l⟩ ⟨k1,k2,k3,k4⟩
    dsimp only [List.cons_append,List.nil_append] at *
    skip
    repeat' first|(apply p3;(first|exact pu1|exact puN|exact puC);exact rfl)|refine cdn ?_|refine g_reg (id := 2) ?_|refine g_reg (id := 13) ?_|((refine g_cond rfl (fun hc => ?_) (fun hc => ?_)) <;> (try simp only [dcB] at hc) <;> (try first|contradiction|(exfalso;omega)))
    · have hl := mkT_len szv mkv k xs i.toNat (by omega)
      rw [← k4] at hl
      have hi : i.toNat < xs.length := by omega
      have hg : l[i.toNat]'(by omega) = xs[i.toNat] := by subst k4; exact mkT_get _ _ _ _ _ hi _
      have hb := totV_bd (xs := xs.take i.toNat) (fun x hx => g.a x (List.mem_of_mem_take hx))
      have hv := bgs_at g hi
      obtain ⟨v1,v2,v3,v4⟩ := hv
      have hw := totW_bd 1048576 v4
      have v5 : ∀ x ∈ xs[i.toNat].p.wo,(x.length : Int) ≤ 4611686018427 := fun x hx => by have := v4 x hx; omega
      have hn := totL_next szv k1 (xs := xs) hi
      have hs : szv xs[i.toNat] = 3 + 3 * xs[i.toNat].m.ru.length + xs[i.toNat].p.nu.length + totW xs[i.toNat].p.wo := by unfold szv; rfl
      have hlt : (xs.take i.toNat).length ≤ 1048576 := by rw [List.length_take]; omega
      first | refine g_conv (t_qE (i := 0) (i.toNat) bnd rfl) ?_ | refine o_conv (t_qE (i := 0) (i.toNat) bnd rfl) ?_
      try dsimp only [List.map_cons,List.map_nil,List.set_cons_zero,List.set_cons_succ,List.length_cons,List.length_nil,List.cons_append,List.nil_append,Nat.reduceAdd,setRow]
      first | refine g_conv (t_open1 (i := 0) (k := 2) rfl rfl rfl) ?_ | refine o_conv (t_open1 (i := 0) (k := 2) rfl rfl rfl) ?_
      try dsimp only [List.map_cons,List.map_nil,List.set_cons_zero,List.set_cons_succ,List.length_cons,List.length_nil,List.cons_append,List.nil_append,Nat.reduceAdd,setRow]
      first | refine g_conv (t_open1 (i := 0) (k := 4) rfl rfl rfl) ?_ | refine o_conv (t_open1 (i := 0) (k := 4) rfl rfl rfl) ?_
      try dsimp only [List.map_cons,List.map_nil,List.set_cons_zero,List.set_cons_succ,List.length_cons,List.length_nil,List.cons_append,List.nil_append,Nat.reduceAdd,setRow]
      first | refine g_conv (t_open1 (i := 0) (k := 5) rfl rfl rfl) ?_ | refine o_conv (t_open1 (i := 0) (k := 5) rfl rfl rfl) ?_
      try dsimp only [List.map_cons,List.map_nil,List.set_cons_zero,List.set_cons_succ,List.length_cons,List.length_nil,List.cons_append,List.nil_append,Nat.reduceAdd,setRow]
      simp only [hg]
      generalize hxv : xs[i.toNat] = v at *
      have hmk : mkv k' v = ⟨⟨k',k' + 1,marksR (k' + 1 + 1) v.m.ru.length⟩,⟨k' + 1 + 1 + 3 * v.m.ru.length,marks (k' + 1 + 1 + 3 * v.m.ru.length + 1) v.p.nu.length,mksW (k' + 1 + 1 + 3 * v.m.ru.length + 1 + v.p.nu.length) v.p.wo⟩⟩ := by unfold mkv; rfl
      repeat' first|(apply p3;(first|exact pu1|exact puX|exact a_add rfl rfl (by omega) (by omega)|exact puQ);exact rfl)|refine cdn ?_|refine g_reg (id := 4) ?_|refine g_reg (id := 5) ?_|refine g_reg (id := 6) ?_|refine g_reg (id := 7) ?_|refine g_reg (id := 8) ?_|refine g_reg (id := 9) ?_|refine g_reg (id := 10) ?_|refine g_reg (id := 11) ?_|refine g_reg (id := 12) ?_|(apply w3;(first|exact a_stQE 0 rfl rfl rfl rfl (fN rfl rfl) (Nat.le_of_ble_eq_true rfl) (Nat.le_of_ble_eq_true rfl) rfl bnd bnd|exact a_stQE 1 rfl rfl rfl rfl (fN rfl rfl) (Nat.le_of_ble_eq_true rfl) (Nat.le_of_ble_eq_true rfl) rfl bnd bnd|exact a_stQE 3 rfl rfl rfl rfl (fN rfl rfl) (Nat.le_of_ble_eq_true rfl) (Nat.le_of_ble_eq_true rfl) rfl bnd bnd);exact rfl;refine dS ?_)|(apply c4 0;exact callK1 (θ := [_]) (hD := (markRuleS_ok _ _ preD8 preD8 preD8));exact rfl;exact rfl;exact rfl;refine dM ?_)|(apply c4 0;exact callK1 (θ := [_]) (hD := (markInt64S_ok _ _ preD8 preD8 preD8));exact rfl;exact rfl;exact rfl;refine dM ?_)|(apply c4 0;exact callK1 (θ := [_]) (hD := (markInt64SSn_ok _ _ preD8 preD8 preD8 preD8));exact rfl;exact rfl;exact rfl;refine dM ?_)
      first | refine g_conv (t_close1 (i := 0) (j := 1) (k := 2) (m := 0) rfl rfl rfl rfl rfl) ?_ | refine o_conv (t_close1 (i := 0) (j := 1) (k := 2) (m := 0) rfl rfl rfl rfl rfl) ?_
      try dsimp only [List.map_cons,List.map_nil,List.set_cons_zero,List.set_cons_succ,List.length_cons,List.length_nil,List.cons_append,List.nil_append,Nat.reduceAdd,setRow]
      first | refine g_conv (t_close1 (i := 0) (j := 2) (k := 4) (m := 1) rfl rfl rfl rfl rfl) ?_ | refine o_conv (t_close1 (i := 0) (j := 2) (k := 4) (m := 1) rfl rfl rfl rfl rfl) ?_
      try dsimp only [List.map_cons,List.map_nil,List.set_cons_zero,List.set_cons_succ,List.length_cons,List.length_nil,List.cons_append,List.nil_append,Nat.reduceAdd,setRow]
      first | refine g_conv (t_close1 (i := 0) (j := 3) (k := 5) (m := 2) rfl rfl rfl rfl rfl) ?_ | refine o_conv (t_close1 (i := 0) (j := 3) (k := 5) (m := 2) rfl rfl rfl rfl rfl) ?_
      try dsimp only [List.map_cons,List.map_nil,List.set_cons_zero,List.set_cons_succ,List.length_cons,List.length_nil,List.cons_append,List.nil_append,Nat.reduceAdd,setRow]
      first | refine g_conv (t_uE (i := 0) (⟨⟨k',k' + 1,marksR (k' + 1 + 1) v.m.ru.length⟩,⟨k' + 1 + 1 + 3 * v.m.ru.length,marks (k' + 1 + 1 + 3 * v.m.ru.length + 1) v.p.nu.length,mksW (k' + 1 + 1 + 3 * v.m.ru.length + 1 + v.p.nu.length) v.p.wo⟩⟩ : Verd) bnd rfl rfl) ?_ | refine o_conv (t_uE (i := 0) (⟨⟨k',k' + 1,marksR (k' + 1 + 1) v.m.ru.length⟩,⟨k' + 1 + 1 + 3 * v.m.ru.length,marks (k' + 1 + 1 + 3 * v.m.ru.length + 1) v.p.nu.length,mksW (k' + 1 + 1 + 3 * v.m.ru.length + 1 + v.p.nu.length) v.p.wo⟩⟩ : Verd) bnd rfl rfl) ?_
      repeat' first|(apply p3;(first|exact pu1|exact a_add rfl rfl (by omega) (by omega));exact rfl)|refine cd ?_
      refine q_again (i + 1,_,l.set i.toNat _) [0] (by exact stk) ?_ ?_
      · refine ⟨by dsimp only; omega,by dsimp only; omega,by dsimp only; omega,?_⟩
        dsimp only
        rw [show (i + 1).toNat = i.toNat + 1 by omega,← mkT_next szv mkv k xs i.toNat hi,← k3,← k4,hxv,hmk]
      · dsimp only; omega
    · have hl := mkT_len szv mkv k xs i.toNat (by omega)
      rw [← k4] at hl
      have hi : i.toNat = xs.length := by omega
      rw [hi,mkT_end] at k4
      rw [hi,List.take_length] at k3
      have e1 : totV xs = totL szv xs := by unfold totV; rfl
      have e2 : mksV k xs = mkL szv mkv k xs := by unfold mksV; rfl
      rw [e1,e2,← k3,← k4]
      skip
      repeat refine cr ?_
      refine ends_id ?_
      refine endK [] (h2 := ?_) (h3 := ?_) (nd := ?_)
      all_goals (repeat' first|exact ce0|refine ce ?_|refine ce2 ?_ ?_|(refine Or.inr (bx_eq rfl rfl ?_);(try dsimp only [C.ren,C.ren.all]);(try exact rfl))|exact SVLe.refl|refine ceb ?_)
      all_goals first | exact (show nodupB _ = true from rfl) | exact Or.inr rfl | (rfl)
end Go.Proofs.YtighjcjmacajoaaGreatDoor
end
section
set_option linter.unusedVariables false
set_option linter.unusedSimpArgs false
set_option maxRecDepth 100000
set_option maxHeartbeats 4000000
namespace Go.Proofs.YtighjcjmacajoaaGreatDoor
open Go Foot Go.RowKit
abbrev opn : Bs := [111,112,101,110]
@[irreducible] def mbI (a : Bs) : Bool := vMach (mrI a) && decide (macT (mrI a) = a)
@[irreducible] def mcI (a : Bs) : Mach := ⟨if mbI a = true then (mrI a).sy else 0,if mbI a = true then (mrI a).st else 0,if mbI a = true then (mrI a).ru else []⟩
@[irreducible] def pcI (b : Bs) : Prf := if b = opn then ⟨0,[],[]⟩ else pI b
@[irreducible] def vcI (a b : Bs) : Verd := ⟨mcI a,pcI b⟩
theorem mcI_le (a : Bs) : ((mcI a).ru.length : Int) ≤ 16777216 := by
  unfold mcI
  dsimp only
  split
  · next h =>
    unfold mbI at h
    rw [Bool.and_eq_true] at h
    have := vMach_len h.1
    omega
  · simp
theorem pI_gd (b : Bs) : ((pI b).nu.length : Int) ≤ 16777216 ∧ ((pI b).wo.length : Int) ≤ 16777216 ∧ ∀ x ∈ (pI b).wo,(x.length : Int) ≤ 16777216 := by
  cases h : bI b with
  | false => rw [pI_f h]; exact ⟨by simp,by simp,by simp⟩
  | true =>
    have g := validP_gd ((proof_same b).2.2 h).1
    have g1 := g.nl
    have g2 := g.wl
    exact ⟨by omega,by omega,fun x hx => by have := (g.wb x hx).1; omega⟩
theorem pcI_gd (b : Bs) : ((pcI b).nu.length : Int) ≤ 16777216 ∧ ((pcI b).wo.length : Int) ≤ 16777216 ∧ ∀ x ∈ (pcI b).wo,(x.length : Int) ≤ 16777216 := by
  unfold pcI
  split
  · exact ⟨by simp,by simp,by simp⟩
  · exact pI_gd b
theorem vcI_gd (a b : Bs) : VeGd (vcI a b) := by
  have h1 := mcI_le a
  obtain ⟨h2,h3,h4⟩ := pcI_gd b
  have e : vcI a b = ⟨mcI a,pcI b⟩ := by unfold vcI; rfl
  rw [e]
  exact ⟨h1,h2,h3,h4⟩
@[irreducible] def bvI (s : Bs) : Bool := decide (((spl 32 s).length : Int) = 3) && decide (verT (vcI ((spl 32 s).getD 0 []) ((spl 32 s).getD 1 [])) = s)
@[irreducible] def vI (s : Bs) : Verd := if bvI s = true then vcI ((spl 32 s).getD 0 []) ((spl 32 s).getD 1 []) else ⟨⟨0,0,[]⟩,⟨0,[],[]⟩⟩
theorem vI_f {s : Bs} (h : bvI s = false) : vI s = ⟨⟨0,0,[]⟩,⟨0,[],[]⟩⟩ := by unfold vI; rw [h]; simp
theorem ReadVerdictI_ok (s : Bs) (hs : (s.length : Int) ≤ 1048576) : Does Tryz.prog 31 [.one (str s)] [] (.tup [(true,[int (vI s).m.sy,int (vI s).m.st,.gv 0,int (vI s).p.k,.gv 1,.gv 2]),(false,[boo (bvI s)])]) [.row 3 (rows eR (vI s).m.ru),roI (vI s).p.nu,roWn (vI s).p.wo] := by
  obtain ⟨ps,eps⟩ : ∃ ps,ps = spl 32 s := ⟨_,rfl⟩
  have hpe := spl_el 32 s
  have hpl := spl_len 32 s
  rw [← eps] at hpe hpl
  have ebI : bvI s = (decide ((ps.length : Int) = 3) && decide (verT (vcI (ps.getD 0 []) (ps.getD 1 [])) = s)) := by unfold bvI; rw [← eps]
  by_cases h3 : (ps.length : Int) = 3
  · have l0 : (0 : Int).toNat * 1 < ps.length := by show 0 < ps.length; omega
    have l1 : (1 : Int).toNat * 1 < ps.length := by show 1 < ps.length; omega
    have hs0 : ¬ s = [] := by
      rintro rfl
      have : ps = [[]] := by rw [eps]; rfl
      rw [this] at h3
      simp at h3
    obtain ⟨p0,e0⟩ : ∃ p,ps[(0 : Int).toNat * 1]'l0 = p := ⟨_,rfl⟩
    obtain ⟨p1,e1⟩ : ∃ p,ps[(1 : Int).toNat * 1]'l1 = p := ⟨_,rfl⟩
    have f0 : ps.getD 0 [] = p0 := by rw [List.getD_eq_getElem?_getD,List.getElem?_eq_getElem (show 0 < ps.length by omega)]; exact e0
    have f1 : ps.getD 1 [] = p1 := by rw [List.getD_eq_getElem?_getD,List.getElem?_eq_getElem (show 1 < ps.length by omega)]; exact e1
    have g0 : p0.length ≤ s.length := by rw [← e0]; exact (hpe _ (List.getElem_mem l0)).1
    have g1 : p1.length ≤ s.length := by rw [← e1]; exact (hpe _ (List.getElem_mem l1)).1
    have emb : mbI p0 = (vMach (mrI p0) && decide (macT (mrI p0) = p0)) := by unfold mbI; rfl
    refine does_of (k := 0) Tryz.func31 rfl Tryz.ntmps31 rfl rfl fun w F0 S0 ρ0 => ?_
    dsimp only [argT,argH]
    repeat' first|(apply n3;exact a_new (gb := .bx _) rfl;exact rfl;refine dA ?_)|(apply p3;exact pu1;exact rfl)|refine cdn ?_|refine g_reg (id := 0) ?_|refine g_reg (id := 1) ?_|(apply c4 1;exact callK1 (θ := []) (hD := (Split_ok s 32 hs));exact rfl;exact rfl;exact rfl;refine dM ?_)
    rw [← eps]
    repeat' first|(apply n3;exact a_new (gb := .bx _) rfl;exact rfl;refine dA ?_)|(apply p3;(first|exact pu1|exact puN|exact a_ne rfl rfl);exact rfl)|refine cdn ?_|refine g_reg (id := 2) ?_|refine g_reg (id := 4) ?_|(apply w3;(exact a_st_bx rfl rfl rfl rfl (fN rfl rfl) (Nat.le_of_ble_eq_true rfl) rfl);exact rfl;refine dS ?_)|((refine g_cond rfl (fun hc => ?_) (fun hc => ?_)) <;> (try simp only [dcB] at hc) <;> (try first|contradiction|(exfalso;omega)))
    simp only [setRow,List.map_cons,List.map_nil,scC,List.set_cons_zero,List.set_cons_succ,Nat.zero_add,List.getElem?_cons_zero,List.getElem?_cons_succ,List.take_succ_cons,List.take_zero,List.drop_zero]
    refine g_conv (t_nilB (i := 2) (k := 2) (z := 3) rfl rfl rfl (by decide)) ?_
    try dsimp only [setRow,List.map_cons,List.map_nil,scC,List.set_cons_zero,List.set_cons_succ,Nat.reduceAdd]
    refine g_conv (t_nilB (i := 2) (k := 4) (z := 1) rfl rfl rfl (by decide)) ?_
    try dsimp only [setRow,List.map_cons,List.map_nil,scC,List.set_cons_zero,List.set_cons_succ,Nat.reduceAdd]
    refine g_conv (t_nilB (i := 2) (k := 5) (z := 1) rfl rfl rfl (by decide)) ?_
    try dsimp only [setRow,List.map_cons,List.map_nil,scC,List.set_cons_zero,List.set_cons_succ,Nat.reduceAdd]
    repeat' first|(apply p3;(first|exact pu1|exact a_ld_rowS rfl rfl rfl (fC rfl) bnd|exact a_neT rfl rfl|exact puI);exact rfl)|refine cd ?_|(apply w3;(exact a_st_bx rfl rfl rfl rfl (fN rfl rfl) (Nat.le_of_ble_eq_true rfl) rfl);exact rfl;refine dS ?_)|(apply c4 1;exact callK1 (θ := []) (hD := (ReadMachineI_ok (ps[(0 : Int).toNat * 1]'l0) (by rw [e0];omega) (mbI p0) (by rw [e0];exact emb)));exact rfl;exact rfl;exact rfl;refine dM ?_)
    have q1 : (if mbI p0 = true then (mrI p0).sy else 0) = (mcI p0).sy := by unfold mcI; rfl
    have q2 : (if mbI p0 = true then (mrI p0).st else 0) = (mcI p0).st := by unfold mcI; rfl
    have q3 : (if mbI p0 = true then (mrI p0).ru else []) = (mcI p0).ru := by unfold mcI; rfl
    simp only [e0,e1,q1,q2,q3]
    refine cutK [0,2,3,5] [2,4,5] (fun y : Prf => y = pcI p1) (fun _ => []) (fun y => [(2,.bx [int (mcI p0).sy,int (mcI p0).st,.gv 6,int y.k,.gv 4,.gv 5]),(4,roI y.nu),(5,roWn y.wo)]) (hc := ?_) (hk := ?_)
    · repeat' first|(apply p3;(first|exact pu1|exact a_ld_rowS rfl rfl rfl (fC rfl) bnd|exact puI);exact rfl)|refine cd ?_|(apply w3;exact a_st_bx rfl rfl rfl rfl (fN rfl rfl) (Nat.le_of_ble_eq_true rfl) rfl;exact rfl;refine dS ?_)|(apply c4 2;exact callK1 (θ := []) (hD := (ReadProofI_ok (ps[(1 : Int).toNat * 1]'l1) (by rw [e1];omega)));exact rfl;exact rfl;exact rfl;refine dM ?_)|((refine g_cond rfl (fun hc => ?_) (fun hc => ?_)) <;> (try simp only [dcB] at hc) <;> (try first|contradiction|(exfalso;omega)))
      · rw [e1]
        refine q_here (pI p1) [0,1,2,3,7,8,6] (by exact stk) ?_
        unfold pcI; rw [if_neg (by assumption)]
      · refine q_here ⟨0,[],[]⟩ [0,1,2,3,4,5,6] (by exact stk) ?_
        unfold pcI; rw [if_pos (by assumption)]
    rintro _ rfl
    dsimp only [List.cons_append,List.nil_append] at *
    skip
    repeat' first|refine cdn ?_
    have evc : vcI (ps.getD 0 []) (ps.getD 1 []) = vcI p0 p1 := by rw [f0,f1]
    have ev : vcI p0 p1 = ⟨mcI p0,pcI p1⟩ := by unfold vcI; rfl
    have gv := vcI_gd p0 p1
    rw [evc,ev] at ebI
    rw [ev] at gv
    have hvi : vI s = if bvI s = true then ⟨mcI p0,pcI p1⟩ else ⟨⟨0,0,[]⟩,⟨0,[],[]⟩⟩ := by unfold vI; rw [← eps,evc,ev]
    obtain ⟨b,hb⟩ : ∃ b,bvI s = b := ⟨_,rfl⟩
    rw [hvi,hb]
    rw [ebI,decide_eq_true h3,Bool.true_and] at hb
    by_cases ht : verT ⟨mcI p0,pcI p1⟩ = s
    · rw [decide_eq_true ht] at hb
      subst hb
      simp only [if_true]
      repeat' first|(apply p3;(first|exact pu1|exact a_eqT rfl rfl);exact rfl)|refine cd ?_|(apply w3;(exact a_st_bx rfl rfl rfl rfl (fN rfl rfl) (Nat.le_of_ble_eq_true rfl) rfl);exact rfl;refine dS ?_)|(apply py3;exact rfl;exact rfl;(first|exact pu1|exact a_neT rfl rfl);exact rfl;exact rfl)|(apply cy4 0;exact rfl;exact rfl;exact callK1 (θ := []) (hD := (VerdictText_ok ⟨mcI p0,pcI p1⟩ gv));exact rfl;exact rfl;exact rfl;exact rfl;refine dM ?_)|((first|refine o_gs rfl rfl (fun hc => ?_) (fun hc => ?_)|refine g_cond rfl (fun hc => ?_) (fun hc => ?_)) <;> (try simp only [dcB] at hc) <;> (try first|contradiction|(exfalso;omega)))
      repeat refine cr ?_
      refine ends_id ?_
      refine endK [?_,?_,?_] (h2 := ?_) (h3 := ?_) (nd := ?_)
      rotate_left 3
      all_goals (repeat' first|exact ce0|refine ce ?_|refine ce2 ?_ ?_|(refine Or.inr (bx_eq rfl rfl ?_);(try dsimp only [C.ren,C.ren.all]);(try exact rfl))|exact SVLe.refl|refine ceb ?_)
      all_goals first | exact (show nodupB _ = true from rfl) | exact Or.inr rfl | (rfl)
    · rw [decide_eq_false ht] at hb
      subst hb
      simp only [Bool.false_eq_true,if_false]
      repeat' first|(apply p3;(first|exact pu1|exact a_eqT rfl rfl);exact rfl)|refine cd ?_|(apply w3;(exact a_st_bx rfl rfl rfl rfl (fN rfl rfl) (Nat.le_of_ble_eq_true rfl) rfl);exact rfl;refine dS ?_)|(apply py3;exact rfl;exact rfl;(first|exact pu1|exact a_neT rfl rfl);exact rfl;exact rfl)|(apply cy4 0;exact rfl;exact rfl;exact callK1 (θ := []) (hD := (VerdictText_ok ⟨mcI p0,pcI p1⟩ gv));exact rfl;exact rfl;exact rfl;exact rfl;refine dM ?_)|((first|refine o_gs rfl rfl (fun hc => ?_) (fun hc => ?_)|refine g_cond rfl (fun hc => ?_) (fun hc => ?_)) <;> (try simp only [dcB] at hc) <;> (try first|contradiction|(exfalso;omega)))
      refine g_conv (t_nilB (i := 0) (k := 2) (z := 3) rfl rfl rfl (by decide)) ?_
      try dsimp only [setRow,List.map_cons,List.map_nil,scC,List.set_cons_zero,List.set_cons_succ,Nat.reduceAdd]
      refine g_conv (t_nilB (i := 0) (k := 4) (z := 1) rfl rfl rfl (by decide)) ?_
      try dsimp only [setRow,List.map_cons,List.map_nil,scC,List.set_cons_zero,List.set_cons_succ,Nat.reduceAdd]
      refine g_conv (t_nilB (i := 0) (k := 5) (z := 1) rfl rfl rfl (by decide)) ?_
      try dsimp only [setRow,List.map_cons,List.map_nil,scC,List.set_cons_zero,List.set_cons_succ,Nat.reduceAdd]
      repeat refine cr ?_
      refine ends_id ?_
      refine endK [?_,?_,?_] (h2 := ?_) (h3 := ?_) (nd := ?_)
      rotate_left 3
      all_goals (repeat' first|exact ce0|refine ce ?_|refine ce2 ?_ ?_|(refine Or.inr (bx_eq rfl rfl ?_);(try dsimp only [C.ren,C.ren.all]);(try exact rfl))|exact SVLe.refl|refine ceb ?_)
      all_goals first | exact (show nodupB _ = true from rfl) | exact Or.inr rfl | (rfl)
  · have eb : bvI s = false := by rw [ebI,decide_eq_false h3,Bool.false_and]
    rw [eb,vI_f eb]
    refine does_of (k := 0) Tryz.func31 rfl Tryz.ntmps31 rfl rfl fun w F0 S0 ρ0 => ?_
    dsimp only [argT,argH]
    repeat' first|(apply n3;exact a_new (gb := .bx _) rfl;exact rfl;refine dA ?_)|(apply p3;exact pu1;exact rfl)|refine cdn ?_|refine g_reg (id := 0) ?_|refine g_reg (id := 1) ?_|(apply c4 1;exact callK1 (θ := []) (hD := (Split_ok s 32 hs));exact rfl;exact rfl;exact rfl;refine dM ?_)
    rw [← eps]
    repeat' first|(apply p3;(first|exact pu1|exact puN|exact a_ne rfl rfl);exact rfl)|refine cd ?_|(apply w3;(exact a_st_bx rfl rfl rfl rfl (fN rfl rfl) (Nat.le_of_ble_eq_true rfl) rfl);exact rfl;refine dS ?_)|((refine g_cond rfl (fun hc => ?_) (fun hc => ?_)) <;> (try simp only [dcB] at hc) <;> (try first|contradiction|(exfalso;omega)))
    refine g_conv (t_nilB (i := 0) (k := 2) (z := 3) rfl rfl rfl (by decide)) ?_
    try dsimp only [setRow,List.map_cons,List.map_nil,scC,List.set_cons_zero,List.set_cons_succ,Nat.reduceAdd]
    refine g_conv (t_nilB (i := 0) (k := 4) (z := 1) rfl rfl rfl (by decide)) ?_
    try dsimp only [setRow,List.map_cons,List.map_nil,scC,List.set_cons_zero,List.set_cons_succ,Nat.reduceAdd]
    refine g_conv (t_nilB (i := 0) (k := 5) (z := 1) rfl rfl rfl (by decide)) ?_
    try dsimp only [setRow,List.map_cons,List.map_nil,scC,List.set_cons_zero,List.set_cons_succ,Nat.reduceAdd]
    repeat refine cr ?_
    refine ends_id ?_
    refine endK [?_,?_,?_] (h2 := ?_) (h3 := ?_) (nd := ?_)
    rotate_left 3
    all_goals (repeat' first|exact ce0|refine ce ?_|refine ce2 ?_ ?_|(refine Or.inr (bx_eq rfl rfl ?_);(try dsimp only [C.ren,C.ren.all]);(try exact rfl))|exact SVLe.refl|refine ceb ?_)
    all_goals first | exact (show nodupB _ = true from rfl) | exact Or.inr rfl | (rfl)
end Go.Proofs.YtighjcjmacajoaaGreatDoor
end
section
set_option linter.unusedVariables false
set_option linter.unusedSimpArgs false
set_option maxRecDepth 100000
set_option maxHeartbeats 4000000
namespace Go.Proofs.YtighjcjmacajoaaGreatDoor
open Go Foot Go.RowKit
theorem mac_no {m : Mach} (h : vMach m = true) : (32 : UInt8) ∉ macT m := by
  have hb := vMach_bd h
  rw [macT_eq (by omega)]
  intro q
  rcases join_memG q with q | ⟨p,hp,q⟩
  · revert q; decide
  · obtain ⟨c,_,rfl⟩ := List.mem_map.1 hp
    unfold chT at q
    rcases join_memG q with q | ⟨p,hp,q⟩
    · revert q; decide
    · obtain ⟨r,_,rfl⟩ := List.mem_map.1 hp
      exact rul_no dg32 (by decide) (by decide) (by decide) q
theorem prf_no {p : Prf} (h : OkP p) : (32 : UInt8) ∉ prfT p := by
  unfold prfT
  split
  · decide
  · next hz =>
    have hv : validP p = true := by rcases h.h with e | e; exact absurd e hz; exact e
    have g := validP_gd hv
    unfold proT
    simp only [List.mem_append,not_or]
    exact ⟨⟨⟨⟨(namT_no _).2,by decide⟩,numT_no dg32 (by decide) (by decide)⟩,by decide⟩,worT_no (fun w hw => (g.wb w hw).2) dg32 (by decide) (by decide)⟩
theorem lin_spl {v : Verd} (hm : vMach v.m = true) (hp : OkP v.p) : spl 32 (linT v) = [macT v.m,prfT v.p,decT (crC (linH v) 65535) ++ [10]] := by
  have e : linT v = macT v.m ++ 32 :: (prfT v.p ++ 32 :: (decT (crC (linH v) 65535) ++ [10])) := by
    have q : linH v = macT v.m ++ [32] ++ prfT v.p := by unfold linH; rfl
    have q2 : linT v = linH v ++ [32] ++ decT (crC (linH v) 65535) ++ [10] := by unfold linT; rfl
    rw [q2]
    generalize decT (crC (linH v) 65535) = d
    rw [q]
    simp
  rw [e,spl_app (mac_no hm),spl_app (prf_no hp),spl_no (by
    rw [List.mem_append,not_or]
    exact ⟨dec_no dg32 (by decide),by decide⟩)]
theorem okV_2 {v : Verd} (h : okV v = true) : vMach v.m = true ∧ OkP v.p := by
  unfold okV at h
  simp only [Bool.and_eq_true,Bool.or_eq_true] at h
  exact ⟨h.1.1,⟨h.1.2⟩⟩
theorem mkX_mb (a : Bs) : mbI a = mkX a := by rw [read_same]; unfold mbI; rfl
theorem mcX (a : Bs) : (if mbI a = true then (mrX a).sy else 0) = (mcI a).sy ∧ (if mbI a = true then (mrX a).st else 0) = (mcI a).st ∧ (if mbI a = true then (mrX a).ru else []) = (mcI a).ru := by
  unfold mcI
  dsimp only
  by_cases h : mbI a = true
  · have e := (read_canon ((mkX_mb a).symm.trans h)).1
    simp only [if_pos h,e,and_self]
  · simp only [if_neg h,and_self]
theorem ver_no {s : Bs} (hs : s ≠ []) {v : Verd} (h : okV v = false) : verT v ≠ s := by
  unfold verT
  rw [h]
  exact fun e => hs e.symm
theorem ver_m {s a b : Bs} (hs : s ≠ []) (h : mbI a = false) : verT (vcI a b) ≠ s := by
  refine ver_no hs ?_
  cases q : okV (vcI a b) with
  | false => rfl
  | true =>
    have e := (okV_2 q).1
    have e2 : (vcI a b).m = ⟨0,0,[]⟩ := by unfold vcI mcI; simp [h]
    rw [e2] at e
    have := vMach_bd e
    dsimp only at this
    omega
theorem ver_p {s a b : Bs} (hs : s ≠ []) (h1 : b ≠ opn) (h : bI b = false) (hb : (spl 32 s).getD 1 [] = b) : verT (vcI a b) ≠ s := by
  cases q : okV (vcI a b) with
  | false => exact ver_no hs q
  | true =>
    intro e
    obtain ⟨g1,g2⟩ := okV_2 q
    have e1 : verT (vcI a b) = linT (vcI a b) := by unfold verT; rw [if_pos q]
    have e2 : (vcI a b).p = ⟨0,[],[]⟩ := by unfold vcI pcI; dsimp only; rw [if_neg h1,pI_f h]
    have e3 : prfT (vcI a b).p = opn := by rw [e2]; unfold prfT; rw [if_pos (by unfold isZ; simp)]
    have e4 := lin_spl g1 g2
    rw [← e1,e,e3] at e4
    rw [e4] at hb
    exact h1 hb.symm
theorem ReadVerdictX_ok (s : Bs) (hs : (s.length : Int) ≤ 1048576) : Does Tryz.prog 86 [.one (str s)] [] (.tup [(true,[int (vI s).m.sy,int (vI s).m.st,.gv 0,int (vI s).p.k,.gv 1,.gv 2]),(false,[boo (bvI s)])]) [.row 3 (rows eR (vI s).m.ru),roI (vI s).p.nu,roW (vI s).p.wo] := by
  obtain ⟨ps,eps⟩ : ∃ ps,ps = spl 32 s := ⟨_,rfl⟩
  have hpe := spl_el 32 s
  have hpl := spl_len 32 s
  rw [← eps] at hpe hpl
  have ebI : bvI s = (decide ((ps.length : Int) = 3) && decide (verT (vcI (ps.getD 0 []) (ps.getD 1 [])) = s)) := by unfold bvI; rw [← eps]
  by_cases h3 : (ps.length : Int) = 3
  · have l0 : (0 : Int).toNat * 1 < ps.length := by show 0 < ps.length; omega
    have l1 : (1 : Int).toNat * 1 < ps.length := by show 1 < ps.length; omega
    have hs0 : ¬ s = [] := by
      rintro rfl
      have : ps = [[]] := by rw [eps]; rfl
      rw [this] at h3
      simp at h3
    obtain ⟨p0,e0⟩ : ∃ p,ps[(0 : Int).toNat * 1]'l0 = p := ⟨_,rfl⟩
    obtain ⟨p1,e1⟩ : ∃ p,ps[(1 : Int).toNat * 1]'l1 = p := ⟨_,rfl⟩
    have f0 : ps.getD 0 [] = p0 := by rw [List.getD_eq_getElem?_getD,List.getElem?_eq_getElem (show 0 < ps.length by omega)]; exact e0
    have f1 : ps.getD 1 [] = p1 := by rw [List.getD_eq_getElem?_getD,List.getElem?_eq_getElem (show 1 < ps.length by omega)]; exact e1
    have g0 : p0.length ≤ s.length := by rw [← e0]; exact (hpe _ (List.getElem_mem l0)).1
    have g1 : p1.length ≤ s.length := by rw [← e1]; exact (hpe _ (List.getElem_mem l1)).1
    obtain ⟨q1,q2,q3⟩ := mcX p0
    obtain ⟨s1,s2,_⟩ := proof_same p1
    refine does_of (k := 0) Tryz.func86 rfl Tryz.ntmps86 rfl rfl fun w F0 S0 ρ0 => ?_
    dsimp only [argT,argH]
    repeat' first|(apply n3;exact a_new (gb := .bx _) rfl;exact rfl;refine dA ?_)|(apply p3;exact pu1;exact rfl)|refine cdn ?_|refine g_reg (id := 0) ?_|refine g_reg (id := 1) ?_|(apply c4 1;exact callK1 (θ := []) (hD := (l01Split_ok s 32 hs));exact rfl;exact rfl;exact rfl;refine dM ?_)
    rw [← eps]
    repeat' first|(apply n3;exact a_new (gb := .bx _) rfl;exact rfl;refine dA ?_)|(apply p3;(first|exact pu1|exact puN|exact a_ne rfl rfl|exact a_ld_rowS rfl rfl rfl (fC rfl) bnd|exact a_neT rfl rfl|exact puI);exact rfl)|refine cd ?_|(apply w3;(exact a_st_bx rfl rfl rfl rfl (fN rfl rfl) (Nat.le_of_ble_eq_true rfl) rfl);exact rfl;refine dS ?_)|(apply c4 1;exact callK1 (θ := []) (hD := (ReadMachineS_ok (ps[(0 : Int).toNat * 1]'l0) (by rw [e0];omega) (mbI p0) (by rw [e0];exact mkX_mb p0)));exact rfl;exact rfl;exact rfl;refine dM ?_)|(refine g_cond (c := .tmp 13) rfl (fun hc => ?_) (fun hc => ?_) <;> (try simp only [dcB] at hc) <;> (try (contradiction)))
    simp only [setRow,List.map_cons,List.map_nil,scC,List.set_cons_zero,List.set_cons_succ,Nat.zero_add,List.getElem?_cons_zero,List.getElem?_cons_succ,List.take_succ_cons,List.take_zero,List.drop_zero,C.frz.all,C.frz,SV.frz,tFrz]
    simp only [e0,e1,q1,q2,q3]
    refine g_conv (t_nilB (i := 4) (k := 4) (z := 1) rfl rfl rfl (by decide)) ?_
    try dsimp only [setRow,List.map_cons,List.map_nil,scC,List.set_cons_zero,List.set_cons_succ,Nat.reduceAdd]
    refine g_conv (t_nilB (i := 4) (k := 5) (z := 1) rfl rfl rfl (by decide)) ?_
    try dsimp only [setRow,List.map_cons,List.map_nil,scC,List.set_cons_zero,List.set_cons_succ,Nat.reduceAdd]
    refine cutK [0,2,3,6,7] [4,5,6] (fun y : Prf × Bool => y.1 = pcI p1 ∧ y.2 = (decide (p1 = opn) || bI p1)) (fun y => [(8,.one (boo y.2))]) (fun y => [(4,.bx [int (mcI p0).sy,int (mcI p0).st,.gv 2,int y.1.k,.gv 5,.gv 6]),(5,roI y.1.nu),(6,roW y.1.wo)]) (hc := ?_) (hk := ?_)
    · repeat' first|(apply p3;(first|exact pu1|exact a_ld_rowS rfl rfl rfl (fC rfl) bnd|exact puI);exact rfl)|refine cd ?_|(apply w3;exact a_st_bx rfl rfl rfl rfl (fN rfl rfl) (Nat.le_of_ble_eq_true rfl) rfl;exact rfl;refine dS ?_)|(apply c4 2;exact callK0 (θ := []) (hD := (ReadProofX_ok (ps[(1 : Int).toNat * 1]'l1) (by rw [e1];omega)));exact rfl;exact rfl;exact rfl;refine dM ?_)|((refine g_cond rfl (fun hc => ?_) (fun hc => ?_)) <;> (try simp only [dcB] at hc) <;> (try first|contradiction|(exfalso;omega)))
      · rw [e1,s1,s2]
        refine q_here (pI p1,bI p1) [0,1,2,3,4,7,8] (by exact stk) ?_
        exact ⟨by dsimp only; unfold pcI; rw [if_neg (by assumption)],by dsimp only; rw [decide_eq_false (by assumption),Bool.false_or]⟩
      · refine q_here (⟨0,[],[]⟩,true) [0,1,2,3,4,5,6] (by exact stk) ?_
        exact ⟨by dsimp only; unfold pcI; rw [if_pos (by assumption)],by dsimp only; rw [decide_eq_true (by assumption),Bool.true_or]⟩
    rintro ⟨_,b1⟩ ⟨rfl,hb1⟩
    dsimp only [List.cons_append,List.nil_append] at *
    skip
    repeat' first|refine cdn ?_
    have evc : vcI (ps.getD 0 []) (ps.getD 1 []) = vcI p0 p1 := by rw [f0,f1]
    have ev : vcI p0 p1 = ⟨mcI p0,pcI p1⟩ := by unfold vcI; rfl
    have gv := vcI_gd p0 p1
    have hb0 : (spl 32 s).getD 1 [] = p1 := by rw [← eps]; exact f1
    rw [evc] at ebI
    have hvi : vI s = if bvI s = true then ⟨mcI p0,pcI p1⟩ else ⟨⟨0,0,[]⟩,⟨0,[],[]⟩⟩ := by unfold vI; rw [← eps,evc,ev]
    obtain ⟨b,hb⟩ : ∃ b,bvI s = b := ⟨_,rfl⟩
    rw [hvi,hb]
    rw [ebI,decide_eq_true h3,Bool.true_and] at hb
    cases hm : mbI p0 with
    | false =>
      rw [decide_eq_false (ver_m hs0 hm)] at hb
      subst hb
      simp only [Bool.false_eq_true,if_false]
      repeat' first|(apply p3;(exact pu1);exact rfl)|refine cd ?_|(apply w3;(exact a_st_bx rfl rfl rfl rfl (fN rfl rfl) (Nat.le_of_ble_eq_true rfl) rfl);exact rfl;refine dS ?_)|refine o_no rfl rfl rfl rfl ?_
      refine g_conv (t_nilB (i := 0) (k := 2) (z := 3) rfl rfl rfl (by decide)) ?_
      try dsimp only [setRow,List.map_cons,List.map_nil,scC,List.set_cons_zero,List.set_cons_succ,Nat.reduceAdd]
      refine g_conv (t_nilB (i := 0) (k := 4) (z := 1) rfl rfl rfl (by decide)) ?_
      try dsimp only [setRow,List.map_cons,List.map_nil,scC,List.set_cons_zero,List.set_cons_succ,Nat.reduceAdd]
      refine g_conv (t_nilB (i := 0) (k := 5) (z := 1) rfl rfl rfl (by decide)) ?_
      try dsimp only [setRow,List.map_cons,List.map_nil,scC,List.set_cons_zero,List.set_cons_succ,Nat.reduceAdd]
      repeat refine cr ?_
      refine ends_id ?_
      refine endK [?_,?_,?_] (h2 := ?_) (h3 := ?_) (nd := ?_)
      rotate_left 3
      all_goals (repeat' first|exact ce0|refine ce ?_|refine ce2 ?_ ?_|(refine Or.inr (bx_eq rfl rfl ?_);(try dsimp only [C.ren,C.ren.all]);(try exact rfl))|exact SVLe.refl|refine ceb ?_)
      all_goals first | exact (show nodupB _ = true from rfl) | exact Or.inr rfl | (rfl)
    | true =>
    cases hb2 : b1 with
    | false =>
      rw [hb2] at hb1
      have hb3 := hb1.symm
      rw [Bool.or_eq_false_iff] at hb3
      rw [decide_eq_false (ver_p hs0 (of_decide_eq_false hb3.1) hb3.2 hb0)] at hb
      subst hb
      simp only [Bool.false_eq_true,if_false]
      repeat' first|(apply p3;(exact pu1);exact rfl)|refine cd ?_|(apply w3;(exact a_st_bx rfl rfl rfl rfl (fN rfl rfl) (Nat.le_of_ble_eq_true rfl) rfl);exact rfl;refine dS ?_)|refine o_no rfl rfl rfl rfl ?_|(apply py3;exact rfl;exact rfl;(exact pu1);exact rfl;exact rfl)
      refine g_conv (t_nilB (i := 0) (k := 2) (z := 3) rfl rfl rfl (by decide)) ?_
      try dsimp only [setRow,List.map_cons,List.map_nil,scC,List.set_cons_zero,List.set_cons_succ,Nat.reduceAdd]
      refine g_conv (t_nilB (i := 0) (k := 4) (z := 1) rfl rfl rfl (by decide)) ?_
      try dsimp only [setRow,List.map_cons,List.map_nil,scC,List.set_cons_zero,List.set_cons_succ,Nat.reduceAdd]
      refine g_conv (t_nilB (i := 0) (k := 5) (z := 1) rfl rfl rfl (by decide)) ?_
      try dsimp only [setRow,List.map_cons,List.map_nil,scC,List.set_cons_zero,List.set_cons_succ,Nat.reduceAdd]
      repeat refine cr ?_
      refine ends_id ?_
      refine endK [?_,?_,?_] (h2 := ?_) (h3 := ?_) (nd := ?_)
      rotate_left 3
      all_goals (repeat' first|exact ce0|refine ce ?_|refine ce2 ?_ ?_|(refine Or.inr (bx_eq rfl rfl ?_);(try dsimp only [C.ren,C.ren.all]);(try exact rfl))|exact SVLe.refl|refine ceb ?_)
      all_goals first | exact (show nodupB _ = true from rfl) | exact Or.inr rfl | (rfl)
    | true =>
    have gw := gv
    rw [ev] at gw
    cases hv : okV ⟨mcI p0,pcI p1⟩ with
    | false =>
      rw [decide_eq_false (ver_no hs0 (by rw [ev]; exact hv))] at hb
      subst hb
      have hvn : ¬ okV ⟨mcI p0,pcI p1⟩ = true := by rw [hv]; decide
      simp only [Bool.false_eq_true,if_false]
      repeat' first|(apply p3;(exact pu1);exact rfl)|refine cd ?_|(apply w3;(exact a_st_bx rfl rfl rfl rfl (fN rfl rfl) (Nat.le_of_ble_eq_true rfl) rfl);exact rfl;refine dS ?_)|refine o_no rfl rfl rfl rfl ?_|(apply py3;exact rfl;exact rfl;(exact pu1);exact rfl;exact rfl)|(apply cy4 0;exact rfl;exact rfl;exact callK1 (θ := []) (hD := (l31Is_ok ⟨mcI p0,pcI p1⟩ gw));exact rfl;exact rfl;exact rfl;exact rfl;refine dM ?_)|((refine o_gs rfl rfl (fun hc => ?_) (fun hc => ?_)) <;> (try simp only [dcB] at hc) <;> (try first|contradiction|(exfalso;omega)))
      refine g_conv (t_nilB (i := 0) (k := 2) (z := 3) rfl rfl rfl (by decide)) ?_
      try dsimp only [setRow,List.map_cons,List.map_nil,scC,List.set_cons_zero,List.set_cons_succ,Nat.reduceAdd]
      refine g_conv (t_nilB (i := 0) (k := 4) (z := 1) rfl rfl rfl (by decide)) ?_
      try dsimp only [setRow,List.map_cons,List.map_nil,scC,List.set_cons_zero,List.set_cons_succ,Nat.reduceAdd]
      refine g_conv (t_nilB (i := 0) (k := 5) (z := 1) rfl rfl rfl (by decide)) ?_
      try dsimp only [setRow,List.map_cons,List.map_nil,scC,List.set_cons_zero,List.set_cons_succ,Nat.reduceAdd]
      repeat refine cr ?_
      refine ends_id ?_
      refine endK [?_,?_,?_] (h2 := ?_) (h3 := ?_) (nd := ?_)
      rotate_left 3
      all_goals (repeat' first|exact ce0|refine ce ?_|refine ce2 ?_ ?_|(refine Or.inr (bx_eq rfl rfl ?_);(try dsimp only [C.ren,C.ren.all]);(try exact rfl))|exact SVLe.refl|refine ceb ?_)
      all_goals first | exact (show nodupB _ = true from rfl) | exact Or.inr rfl | (rfl)
    | true =>
    have hvn : ¬ okV ⟨mcI p0,pcI p1⟩ = false := by rw [hv]; decide
    have evt : verT (vcI p0 p1) = linT ⟨mcI p0,pcI p1⟩ := by rw [ev]; unfold verT; rw [if_pos hv]
    rw [evt] at hb
    by_cases ht : linT ⟨mcI p0,pcI p1⟩ = s
    · rw [decide_eq_true ht] at hb
      subst hb
      simp only [if_true]
      repeat' first|(apply p3;(exact pu1);exact rfl)|refine cd ?_|(apply w3;(exact a_st_bx rfl rfl rfl rfl (fN rfl rfl) (Nat.le_of_ble_eq_true rfl) rfl);exact rfl;refine dS ?_)|(apply py3;exact rfl;exact rfl;(first|exact pu1|exact a_neT rfl rfl);exact rfl;exact rfl)|(apply cy4 0;exact rfl;exact rfl;exact callK1 (θ := []) (hD := (l31Is_ok ⟨mcI p0,pcI p1⟩ gw));exact rfl;exact rfl;exact rfl;exact rfl;refine dM ?_)|(apply cy4 0;exact rfl;exact rfl;exact callK1 (θ := []) (hD := (l31Line_ok ⟨mcI p0,pcI p1⟩ (okV_2 hv).1 (okV_2 hv).2));exact rfl;exact rfl;exact rfl;exact rfl;refine dM ?_)|((first|refine o_gs rfl rfl (fun hc => ?_) (fun hc => ?_)|refine g_cond rfl (fun hc => ?_) (fun hc => ?_)) <;> (try simp only [dcB] at hc) <;> (try first|contradiction|(exfalso;omega)))
      repeat refine cr ?_
      refine ends_id ?_
      refine endK [?_,?_,?_] (h2 := ?_) (h3 := ?_) (nd := ?_)
      rotate_left 3
      all_goals (repeat' first|exact ce0|refine ce ?_|refine ce2 ?_ ?_|(refine Or.inr (bx_eq rfl rfl ?_);(try dsimp only [C.ren,C.ren.all]);(try exact rfl))|exact SVLe.refl|refine ceb ?_)
      all_goals first | exact (show nodupB _ = true from rfl) | exact Or.inr rfl | (rfl)
    · rw [decide_eq_false ht] at hb
      subst hb
      simp only [Bool.false_eq_true,if_false]
      repeat' first|(apply p3;(exact pu1);exact rfl)|refine cd ?_|(apply w3;(exact a_st_bx rfl rfl rfl rfl (fN rfl rfl) (Nat.le_of_ble_eq_true rfl) rfl);exact rfl;refine dS ?_)|(apply py3;exact rfl;exact rfl;(first|exact pu1|exact a_neT rfl rfl);exact rfl;exact rfl)|(apply cy4 0;exact rfl;exact rfl;exact callK1 (θ := []) (hD := (l31Is_ok ⟨mcI p0,pcI p1⟩ gw));exact rfl;exact rfl;exact rfl;exact rfl;refine dM ?_)|(apply cy4 0;exact rfl;exact rfl;exact callK1 (θ := []) (hD := (l31Line_ok ⟨mcI p0,pcI p1⟩ (okV_2 hv).1 (okV_2 hv).2));exact rfl;exact rfl;exact rfl;exact rfl;refine dM ?_)|((first|refine o_gs rfl rfl (fun hc => ?_) (fun hc => ?_)|refine g_cond rfl (fun hc => ?_) (fun hc => ?_)) <;> (try simp only [dcB] at hc) <;> (try first|contradiction|(exfalso;omega)))
      refine g_conv (t_nilB (i := 0) (k := 2) (z := 3) rfl rfl rfl (by decide)) ?_
      try dsimp only [setRow,List.map_cons,List.map_nil,scC,List.set_cons_zero,List.set_cons_succ,Nat.reduceAdd]
      refine g_conv (t_nilB (i := 0) (k := 4) (z := 1) rfl rfl rfl (by decide)) ?_
      try dsimp only [setRow,List.map_cons,List.map_nil,scC,List.set_cons_zero,List.set_cons_succ,Nat.reduceAdd]
      refine g_conv (t_nilB (i := 0) (k := 5) (z := 1) rfl rfl rfl (by decide)) ?_
      try dsimp only [setRow,List.map_cons,List.map_nil,scC,List.set_cons_zero,List.set_cons_succ,Nat.reduceAdd]
      repeat refine cr ?_
      refine ends_id ?_
      refine endK [?_,?_,?_] (h2 := ?_) (h3 := ?_) (nd := ?_)
      rotate_left 3
      all_goals (repeat' first|exact ce0|refine ce ?_|refine ce2 ?_ ?_|(refine Or.inr (bx_eq rfl rfl ?_);(try dsimp only [C.ren,C.ren.all]);(try exact rfl))|exact SVLe.refl|refine ceb ?_)
      all_goals first | exact (show nodupB _ = true from rfl) | exact Or.inr rfl | (rfl)
  · have eb : bvI s = false := by rw [ebI,decide_eq_false h3,Bool.false_and]
    rw [eb,vI_f eb]
    refine does_of (k := 0) Tryz.func86 rfl Tryz.ntmps86 rfl rfl fun w F0 S0 ρ0 => ?_
    dsimp only [argT,argH]
    repeat' first|(apply n3;exact a_new (gb := .bx _) rfl;exact rfl;refine dA ?_)|(apply p3;exact pu1;exact rfl)|refine cdn ?_|refine g_reg (id := 0) ?_|refine g_reg (id := 1) ?_|(apply c4 1;exact callK1 (θ := []) (hD := (l01Split_ok s 32 hs));exact rfl;exact rfl;exact rfl;refine dM ?_)
    rw [← eps]
    repeat' first|(apply p3;(first|exact pu1|exact puN|exact a_ne rfl rfl);exact rfl)|refine cd ?_|(apply w3;(exact a_st_bx rfl rfl rfl rfl (fN rfl rfl) (Nat.le_of_ble_eq_true rfl) rfl);exact rfl;refine dS ?_)|((refine g_cond rfl (fun hc => ?_) (fun hc => ?_)) <;> (try simp only [dcB] at hc) <;> (try first|contradiction|(exfalso;omega)))
    refine g_conv (t_nilB (i := 0) (k := 2) (z := 3) rfl rfl rfl (by decide)) ?_
    try dsimp only [setRow,List.map_cons,List.map_nil,scC,List.set_cons_zero,List.set_cons_succ,Nat.reduceAdd]
    refine g_conv (t_nilB (i := 0) (k := 4) (z := 1) rfl rfl rfl (by decide)) ?_
    try dsimp only [setRow,List.map_cons,List.map_nil,scC,List.set_cons_zero,List.set_cons_succ,Nat.reduceAdd]
    refine g_conv (t_nilB (i := 0) (k := 5) (z := 1) rfl rfl rfl (by decide)) ?_
    try dsimp only [setRow,List.map_cons,List.map_nil,scC,List.set_cons_zero,List.set_cons_succ,Nat.reduceAdd]
    repeat refine cr ?_
    refine ends_id ?_
    refine endK [?_,?_,?_] (h2 := ?_) (h3 := ?_) (nd := ?_)
    rotate_left 3
    all_goals (repeat' first|exact ce0|refine ce ?_|refine ce2 ?_ ?_|(refine Or.inr (bx_eq rfl rfl ?_);(try dsimp only [C.ren,C.ren.all]);(try exact rfl))|exact SVLe.refl|refine ceb ?_)
    all_goals first | exact (show nodupB _ = true from rfl) | exact Or.inr rfl | (rfl)
end Go.Proofs.YtighjcjmacajoaaGreatDoor
end
section
set_option linter.unusedVariables false
set_option linter.unusedSimpArgs false
set_option maxRecDepth 100000
set_option maxHeartbeats 4000000
namespace Go.Proofs.YtighjcjmacajoaaGreatDoor
open Go Foot Go.RowKit
theorem vI_ok {s : Bs} (h : bvI s = true) : okV (vI s) = true ∧ verT (vI s) = s := by
  have e : vI s = vcI ((spl 32 s).getD 0 []) ((spl 32 s).getD 1 []) := by unfold vI; rw [if_pos h]
  unfold bvI at h
  simp only [Bool.and_eq_true,decide_eq_true_eq] at h
  rw [← e] at h
  obtain ⟨h3,h4⟩ := h
  refine ⟨?_,h4⟩
  cases q : okV (vI s) with
  | true => rfl
  | false =>
    exfalso
    unfold verT at h4
    rw [q] at h4
    simp only [Bool.false_eq_true,if_false] at h4
    rw [← h4] at h3
    simp [spl] at h3
theorem vI_len (s : Bs) : ((vI s).m.ru.length : Int) ≤ 6000 ∧ ((vI s).p.nu.length : Int) ≤ 300 ∧ ((vI s).p.wo.length : Int) ≤ 300 ∧ ∀ x ∈ (vI s).p.wo,(x.length : Int) ≤ 400 := by
  cases h : bvI s with
  | false => rw [vI_f h]; exact ⟨by simp,by simp,by simp,by simp⟩
  | true =>
    obtain ⟨g1,g2⟩ := okV_2 (vI_ok h).1
    have hb := vMach_bd g1
    have hm : ((vI s).m.ru.length : Int) ≤ 6000 := by
      rw [hb.2.2]
      have h1 := hb.1
      have h2 := hb.2.1
      have := Int.mul_le_mul h1.2 h2.2 (by omega) (by omega)
      omega
    refine ⟨hm,?_⟩
    rcases g2.h with e | e
    · unfold isZ at e
      rw [decide_eq_true_eq] at e
      have e3 : (vI s).p.wo = [] := List.eq_nil_of_length_eq_zero (by omega)
      exact ⟨by omega,by omega,by rw [e3]; simp⟩
    · have g := validP_gd e
      exact ⟨g.nl,g.wl,fun x hx => (g.wb x hx).1⟩
end Go.Proofs.YtighjcjmacajoaaGreatDoor
end
section
set_option linter.unusedVariables false
set_option linter.unusedSimpArgs false
set_option maxRecDepth 100000
set_option maxHeartbeats 4000000
namespace Go.Proofs.YtighjcjmacajoaaGreatDoor
open Go Foot
def linS : Bs → List Bs
  | [] => []
  | x :: s => if x = 10 then [10] :: linS s else match linS s with
    | [] => [[x]]
    | l :: r => (x :: l) :: r
theorem linS_no : ∀ {a : Bs},a ≠ [] → (10 : UInt8) ∉ a → linS a = [a]
  | [],h,_ => absurd rfl h
  | [x],_,h => by
    have hx : x ≠ 10 := fun e => h (by simp [e])
    rw [linS,if_neg hx]
    rfl
  | x :: y :: s,_,h => by
    have hx : x ≠ 10 := fun e => h (by simp [e])
    rw [linS,if_neg hx,linS_no (by simp) (fun q => h (by rw [List.mem_cons]; exact .inr q))]
theorem linS_app {b : Bs} : ∀ {a : Bs},(10 : UInt8) ∉ a → linS (a ++ 10 :: b) = (a ++ [10]) :: linS b
  | [],_ => by
    show linS (10 :: b) = [10] :: linS b
    rw [linS,if_pos rfl]
  | x :: a,h => by
    have hx : x ≠ 10 := fun e => h (by simp [e])
    rw [List.cons_append,linS,if_neg hx,linS_app (fun q => h (by simp [q]))]
    rfl
def itL {X : Type} (bd : X → Bs → X × Option Code) : X → List Bs → X × Option Code
  | x,[] => (x,none)
  | x,a :: r => if (bd x a).2.isSome = true then bd x a else itL bd (bd x a).1 r
section
variable {X : Type} {bd : X → Bs → X × Option Code} {x : X} {a : Bs} {r : List Bs} {O : X × Option Code}
theorem itL_out (h : (bd x a).2.isNone = false) (hO : itL bd x (a :: r) = O) : O = bd x a := by
  rw [← hO,itL,if_pos (by cases hh : (bd x a).2 <;> simp_all)]
theorem itL_end (hO : itL bd x [] = O) : (x,none) = O := hO
theorem itL_next (h : (bd x a).2 = none) (hO : itL bd x (a :: r) = O) : itL bd (bd x a).1 r = O := by
  rw [← hO]; conv => rhs; rw [itL,if_neg (by simp [h])]
end
theorem SIndexByte_ok (s : Bs) (c : UInt8) : Does Tryz.prog 164 [.one (str s),.one (u8 ((c.toNat : Nat) : Int))] [] (.one (int (Lib.indexByte s c))) [] := by
  refine does_of (k := 0) Tryz.func164 rfl Tryz.ntmps164 rfl rfl fun w F0 S0 ρ0 => ?_
  dsimp only [argT,argH]
  repeat' first|(apply p3;exact pu1;exact rfl)|refine cd ?_|(apply c4 0;exact callK1 (θ := []) (hD := (IndexByte_ok s c));exact rfl;exact rfl;exact rfl;refine dM ?_)
  repeat refine cr ?_
  refine ends_id ?_
  refine endK [] (h2 := ?_) (h3 := ?_) (nd := ?_)
  all_goals (repeat' first|exact ce0|refine ce ?_|refine ce2 ?_ ?_|exact SVLe.refl|refine ceb ?_)
  all_goals first | exact (show nodupB _ = true from rfl) | exact Or.inr rfl | (rfl)
theorem Lines_ok (s : Bs) : Does Tryz.prog 98 [.one (str s)] [] (.one (.fn (.func 163) [.gv 0])) [.bx [str s]] := by
  refine does_of (k := 0) Tryz.func98 rfl Tryz.ntmps98 rfl rfl fun w F0 S0 ρ0 => ?_
  dsimp only [argT,argH]
  repeat' first|(apply n3;exact a_new (gb := .bx _) rfl;exact rfl;refine dA ?_)|(apply p3;exact pu1;exact rfl)|refine cd ?_
  repeat refine cr ?_
  refine ends_id ?_
  refine endK [?_] (h2 := ?_) (h3 := ?_) (nd := ?_)
  rotate_left 1
  all_goals (repeat' first|exact ce0|refine ce ?_|refine ce2 ?_ ?_|(refine Or.inr (bx_eq rfl rfl ?_);(try dsimp only [C.ren,C.ren.all]);(try exact rfl))|exact SVLe.refl|refine ceb ?_)
  all_goals first | exact (show nodupB _ = true from rfl) | exact Or.inr rfl | (rfl)
theorem linesIt_ok (s : Bs) {X : Type} (l : Nat) (R : X → Option Code → Opq) (bd : X → Bs → X × Option Code) (J : X → Prop) (x0 : X) (hs : (s.length : Int) ≤ 1048576) (h0 : J x0) (hJ : ∀ x a,J x → (a.length : Int) ≤ s.length → (bd x a).2 = none → J (bd x a).1) (hY : ∀ x a,(J x ∧ (a.length : Int) ≤ s.length) → DoesW (YC Tryz.prog l) [.one (str a)] [.opq (R x none) []] (.one (boo (bd x a).2.isNone)) [.opq (R (bd x a).1 (bd x a).2) []]) : Does Tryz.prog 163 [.one (.d (.fn (.yield l) [])),.one (.gv 1)] [.opq (R x0 none) [],.bx [str s]] (.tup []) [.opq (R (itL bd x0 (linS s)).1 (itL bd x0 (linS s)).2) [],.dead] := by
  generalize hO : itL bd x0 (linS s) = O
  refine does_of (k := 2) Tryz.func163 rfl Tryz.ntmps163 rfl rfl fun w F0 S0 ρ0 => ?_
  dsimp only [argT,argH]
  repeat' first|refine cd ?_
  refine g_loop_id ?_
  refine loopK [0,1] [0,1] (fun y : X × Bs => J y.1 ∧ (y.2.length : Int) ≤ s.length ∧ itL bd y.1 (linS y.2) = O) (fun _ => []) (fun y => [(0,.opq (R y.1 none) []),(1,.bx [str y.2])]) (fun y => y.2.length) (x0,s) [0,1] (hI := ?_) (hr := ?_)
  · exact ⟨h0,Int.le_refl _,hO⟩
  · rintro ⟨x,u⟩ ⟨k1,k2,k3⟩
    dsimp only [List.cons_append,List.nil_append] at *
    skip
    repeat' first|(apply p3;(first|exact pu1|exact a_lenT rfl (fT rfl)|exact puC);exact rfl)|refine cdn ?_|refine g_reg (id := 0) ?_|refine g_reg (id := 1) ?_|((refine g_cond rfl (fun hc => ?_) (fun hc => ?_)) <;> (try simp only [dcB] at hc) <;> (try first|contradiction|(exfalso;omega)))
    · by_cases hm : (10 : UInt8) ∈ u
      · obtain ⟨a,b,hu,ha⟩ := index_split (index_nn hm)
        have hi := index_at (b := b) ha
        rw [← hu] at hi
        have hl : u.length = a.length + b.length + 1 := by rw [hu]; simp; omega
        have e1 : u.take (((a.length : Nat) : Int) + 1).toNat = a ++ [10] := by
          rw [hu,show (((a.length : Nat) : Int) + 1).toNat = a.length + 1 by omega,List.take_append,List.take_of_length_le (by omega)]
          simp
        have e2 : u.drop (((a.length : Nat) : Int) + 1).toNat = b := by
          rw [hu,show (((a.length : Nat) : Int) + 1).toNat = a.length + 1 by omega,← List.drop_drop]
          simp
        have e3 : linS u = (a ++ [10]) :: linS b := by rw [hu]; exact linS_app ha
        rw [e3] at k3
        have hp : J x ∧ ((a ++ [10] : Bs).length : Int) ≤ s.length := ⟨k1,by simp; omega⟩
        repeat' first|(apply p3;(exact pu1);exact rfl)|refine cdn ?_|refine g_reg (id := 2) ?_|(apply c4 0;exact callK1 (θ := []) (hD := (SIndexByte_ok u 10));exact rfl;exact rfl;exact rfl;refine dM ?_)
        simp only [hi]
        repeat' first|(apply p3;(first|exact pu1|exact puC);exact rfl)|refine cdn ?_|refine g_reg (id := 3) ?_|(apply g_drN (id := 4) okM [[],[],[1],[0,1,2],[],[],[5],[4,5,6],[0,1,2,3],[0,1,2,3,4,5,6,7,8]] [([],[]),([],[]),([],[]),([],[]),([],[]),([],[]),([],[]),([],[]),([],[]),([],[1])] 0;(focus (refine dp 0 0 [13,14,16,17,18,19] [] (by exact a_pure (sv := .one _) rfl) ?_;refine dp 1 0 [12,16,17,18,19] [] pu1 ?_;refine dp 2 1 [12,16,17,18,19] [] (a_add rfl rfl (by omega) (by omega)) ?_;refine dp 3 7 [16,17,18,19] [] (a_slSh rfl rfl (fT rfl) (by omega) bnd) ?_;refine dp 4 0 [12,13,14,15,17,18,3] [] (by exact a_pure (sv := .one _) rfl) ?_;refine dp 5 0 [12,13,14,15,16,3] [] pu1 ?_;refine dp 6 1 [12,13,14,15,16,3] [] (a_add rfl rfl (by omega) (by omega)) ?_;refine dp 7 7 [12,13,14,15,3] [] (a_slSl rfl rfl (fT rfl) (by omega) bnd) ?_;refine dp 8 240 [16,17,18,19] [] pu1 ?_;refine duE 9 511 [] [] (by exact a_st_bx rfl rfl rfl rfl (fN rfl rfl) (Nat.le_of_ble_eq_true rfl) rfl) (by exact rfl) (by exact rfl) ?_;(refine d_nil ?_;refine dN ?_)));any_goals kernel_rfl)
        simp only [e1,e2]
        repeat' first|(apply p3;(exact pu1);exact rfl)|refine cd ?_|(apply c4 0;exact callY (θ := [0]) (hD := (hY _ _ (by assumption)));exact rfl;exact rfl;exact rfl;refine dM ?_)|((refine g_cond rfl (fun hc => ?_) (fun hc => ?_)) <;> (try simp only [dcB] at hc) <;> (try first|contradiction|(exfalso;omega)))
        · have hE := itL_out (by assumption) k3
          subst hE
          repeat refine cr ?_
          refine ends_id ?_
          refine endK [] (h2 := ?_) (h3 := ?_) (nd := ?_)
          all_goals (repeat' first|exact ce0|refine ce ?_|refine ce2 ?_ ?_|(refine Or.inr (bx_eq rfl rfl ?_);(try dsimp only [C.ren,C.ren.all]);(try exact rfl))|exact SVLe.refl|refine ceb ?_)
          all_goals first | exact (show nodupB _ = true from rfl) | exact Or.inr rfl | (rfl)
        · have e : (bd x (a ++ [10])).2 = none := by cases hh : (bd x (a ++ [10])).2 <;> simp_all
          have hE := itL_next e k3
          simp only [e]
          refine q_again ((bd x (a ++ [10])).1,b) [0,1] (by exact stk) ?_ ?_
          · exact ⟨hJ _ _ hp.1 hp.2 e,by dsimp only; omega,hE⟩
          · dsimp only; omega
      · have hi := index_no hm
        have hne : u ≠ [] := fun e => by subst e; simp at hc
        have e3 : linS u = u :: [] := linS_no hne hm
        rw [e3] at k3
        have hp : J x ∧ (u.length : Int) ≤ s.length := ⟨k1,k2⟩
        repeat' first|(apply p3;(exact pu1);exact rfl)|refine cdn ?_|refine g_reg (id := 2) ?_|(apply c4 0;exact callK1 (θ := []) (hD := (SIndexByte_ok u 10));exact rfl;exact rfl;exact rfl;refine dM ?_)
        simp only [hi]
        repeat' first|(apply p3;(first|exact pu1|exact puC);exact rfl)|refine cd ?_|(apply w3;(exact a_st_bx rfl rfl rfl rfl (fN rfl rfl) (Nat.le_of_ble_eq_true rfl) rfl);exact rfl;refine dS ?_)|(apply c4 0;exact callY (θ := [0]) (hD := (hY _ _ (by assumption)));exact rfl;exact rfl;exact rfl;refine dM ?_)|((refine g_cond rfl (fun hc => ?_) (fun hc => ?_)) <;> (try simp only [dcB] at hc) <;> (try first|contradiction|(exfalso;omega)))
        · have hE := itL_out (by assumption) k3
          subst hE
          repeat refine cr ?_
          refine ends_id ?_
          refine endK [] (h2 := ?_) (h3 := ?_) (nd := ?_)
          all_goals (repeat' first|exact ce0|refine ce ?_|refine ce2 ?_ ?_|(refine Or.inr (bx_eq rfl rfl ?_);(try dsimp only [C.ren,C.ren.all]);(try exact rfl))|exact SVLe.refl|refine ceb ?_)
          all_goals first | exact (show nodupB _ = true from rfl) | exact Or.inr rfl | (rfl)
        · have e : (bd x u).2 = none := by cases hh : (bd x u).2 <;> simp_all
          have hE := itL_next e k3
          simp only [e]
          refine q_again ((bd x u).1,[]) [0,1] (by exact stk) ?_ ?_
          · exact ⟨hJ _ _ hp.1 hp.2 e,by dsimp only; simp,by rw [linS]; exact hE⟩
          · dsimp only; simp; omega
    · have hn : u = [] := List.eq_nil_of_length_eq_zero (by omega)
      subst hn
      have hE := itL_end k3
      subst hE
      repeat refine cr ?_
      refine ends_id ?_
      refine endK [] (h2 := ?_) (h3 := ?_) (nd := ?_)
      all_goals (repeat' first|exact ce0|refine ce ?_|refine ce2 ?_ ?_|(refine Or.inr (bx_eq rfl rfl ?_);(try dsimp only [C.ren,C.ren.all]);(try exact rfl))|exact SVLe.refl|refine ceb ?_)
      all_goals first | exact (show nodupB _ = true from rfl) | exact Or.inr rfl | (rfl)
end Go.Proofs.YtighjcjmacajoaaGreatDoor
end
section
set_option linter.unusedVariables false
set_option linter.unusedSimpArgs false
set_option maxRecDepth 100000
set_option maxHeartbeats 4000000
namespace Go.Proofs.YtighjcjmacajoaaGreatDoor
open Go Foot Go.RowKit
def bdJ (x : List Verd × Int) (a : Bs) : (List Verd × Int) × Option Code := if bvI a = true ∧ (x.1.length : Int) ≠ 40 then ((x.1 ++ [vI a],x.2 + a.length),none) else (x,some (.exit 0))
structure JOk (x : List Verd × Int) : Prop where
  a : (x.1.length : Int) ≤ 40
  b : 0 ≤ x.2
  c : x.2 ≤ x.1.length * 1048576
theorem bdJ_ok {s : Bs} (hs : (s.length : Int) ≤ 1048576) (x : List Verd × Int) (a : Bs) (h : JOk x) (ha : (a.length : Int) ≤ s.length) (hn : (bdJ x a).2 = none) : JOk (bdJ x a).1 := by
  obtain ⟨h1,h2,h3⟩ := h
  unfold bdJ at hn ⊢
  split at hn
  · next q =>
    rw [if_pos q]
    exact ⟨by simp only [List.length_append,List.length_cons,List.length_nil]; omega,by dsimp only; omega,by simp only [List.length_append,List.length_cons,List.length_nil]; omega⟩
  · cases hn
theorem itJ_exit : ∀ {l : List Bs} {x : List Verd × Int} {c : Code},(itL bdJ x l).2 = some c → c = .exit 0
  | [],x,c,h => by cases h
  | a :: r,x,c,h => by
    rw [itL] at h
    split at h
    · unfold bdJ at h
      split at h
      · cases h
      · cases h; rfl
    · exact itJ_exit h
@[irreducible] def jrI (s : Bs) : List Verd × Int := (itL bdJ ([],0) (linS s)).1
theorem RecoverI_ok (s : Bs) (hs : (s.length : Int) ≤ 1048576) : Does Tryz.prog 36 [.one (str s)] [] (.tup [(false,[.gv 0]),(false,[int (jrI s).2])]) [roVn (jrI s).1] := by
  have hO : (itL bdJ ([],0) (linS s)).1 = jrI s := by unfold jrI; rfl
  have hE : ∀ c,(itL bdJ ([],0) (linS s)).2 = some c → c = .exit 0 := fun c h => itJ_exit h
  refine does_of (k := 0) Tryz.func36 rfl Tryz.ntmps36 rfl rfl fun w F0 S0 ρ0 => ?_
  dsimp only [argT,argH]
  repeat' first|(apply n3;exact a_nilO eVn rfl;exact rfl)|(apply n3;(first|exact a_litE eV [] rfl rfl rfl rfl rfl rfl rfl rfl|exact a_new (gb := .bx _) rfl);exact rfl;refine dA ?_)|(apply p3;(exact pu1);exact rfl)|refine cd ?_|(apply w3;(exact a_st_bx rfl rfl rfl rfl (fN rfl rfl) (Nat.le_of_ble_eq_true rfl) rfl);exact rfl;refine dS ?_)|(apply c4 1;exact callK1 (θ := []) (hD := (Lines_ok _));exact rfl;exact rfl;exact rfl;refine dM ?_)
  refine g_conv (t_mvB (i := 1) (j := 2) (k := 0) rfl rfl rfl rfl rfl rfl) ?_
  try dsimp only [setRow,List.map_cons,List.map_nil,scC,List.set_cons_zero,List.set_cons_succ]
  refine rangeK [2,3,4,5,11] [2,3,5] (fun x : List Verd × Int => [(5,roVn x.1),(2,.bx [.gv 5]),(3,.bx [int x.2])]) [0,1,2,3,4,5] 5 5 [4] [] [] [] [] (fun a : Bs => [.one (str a)]) (fun _ => []) bdJ (fun x a => JOk x ∧ (a.length : Int) ≤ s.length) (([],0) : List Verd × Int) (n1 := 6) (hD := fun l R hY => linesIt_ok s l R bdJ JOk ([],0) hs ⟨by simp,by simp,by simp⟩ (fun x a h1 h2 h3 => bdJ_ok hs x a h1 h2 h3) hY) (hr := ?_) (hn := ?_) (hs := ?_)
  · rintro ⟨acc,n⟩ a ⟨⟨j1,j2,j3⟩,j4⟩ lp0 w0 F0 S0 ρ0 rc0
    dsimp only [parT,upOf,deadR,thN,List.map_cons,List.map_nil,SV.ren,List.cons_append,List.nil_append,GB.ren,C.ren,C.ren.all,Nat.reduceAdd] at *
    repeat' first|refine g_reg ?_|(apply p3;(exact a_pure (sv := .one _) rfl);exact rfl)|refine o_nil ?_|refine qAsg.go rfl ?_
    dsimp only
    repeat' first|refine cdn ?_
    try dsimp only at j1 j2 j3
    have ha : (a.length : Int) ≤ 1048576 := by omega
    repeat' first|(apply n3;exact a_new (gb := .bx _) rfl;exact rfl;refine dA ?_)|(apply p3;(exact pu1);exact rfl)|refine cdn ?_|refine g_reg (id := 4) ?_|refine g_reg (id := 5) ?_|(apply w3;(exact a_st_bx rfl rfl rfl rfl (fN rfl rfl) (Nat.le_of_ble_eq_true rfl) rfl);exact rfl;refine dS ?_)|(apply c4 3;exact callK1 (θ := []) (hD := (ReadVerdictI_ok a ha));exact rfl;exact rfl;exact rfl;refine dM ?_)|refine o_no rfl rfl rfl rfl ?_|(apply py3;exact rfl;exact rfl;(first|exact pu1|exact puN|exact puC);exact rfl;exact rfl)|((first|refine o_gs rfl rfl (fun hc => ?_) (fun hc => ?_)|refine g_cond rfl (fun hc => ?_) (fun hc => ?_)) <;> (try simp only [dcB] at hc) <;> (try first|contradiction|(exfalso;omega)))
    · repeat (first | refine g_ret ?_ | refine q_sr ?_ | refine q_br ?_ | refine g_exit ?_ | refine q_se ?_ | refine q_be rfl ?_ | refine q_bn rfl ?_)
      first | refine q_next (acc,n) [0,1,2,3,4,5,6] (by exact stk) ?_ | refine q_ret (acc,n) [0,1,2,3,4,5,6] (by exact stk) ?_ | refine q_exit (acc,n) [0,1,2,3,4,5,6] (by exact stk) ?_
      unfold bdJ; rw [if_neg (by simp [hc])]
    · repeat (first | refine g_ret ?_ | refine q_sr ?_ | refine q_br ?_ | refine g_exit ?_ | refine q_se ?_ | refine q_be rfl ?_ | refine q_bn rfl ?_)
      first | refine q_next (acc,n) [0,1,2,3,4,5,6] (by exact stk) ?_ | refine q_ret (acc,n) [0,1,2,3,4,5,6] (by exact stk) ?_ | refine q_exit (acc,n) [0,1,2,3,4,5,6] (by exact stk) ?_
      unfold bdJ; rw [if_neg (by simp [hc])]
    · skip
      simp only [setRow,List.map_cons,List.map_nil,scC,List.set_cons_zero,List.set_cons_succ,Nat.zero_add,List.getElem?_cons_zero,List.getElem?_cons_succ,List.take_succ_cons,List.take_zero,List.drop_zero]
      refine g_cv ?_
      apply g_drN (id := 6) okM [[],[],[1],[0,1,2],[],[],[5],[4,5,6],[0,1,2,3],[0,1,2,3,4,5,6,7,8]] [([],[]),([],[]),([0],[]),([1],[5]),([],[]),([],[]),([],[]),([],[]),([],[2]),([],[3])] 2
      (focus (refine dp 0 0 [26,27,29,30,31,32] [(true,0)] puL ?_; refine dp 1 0 [25,29,30,31,32] [] puL ?_; refine duE 2 1 [25,29,30,31,32] [] (a_litQ (i := 11) (z := 6) (n := 1) (fP rfl) (by decide) rfl (by decide) rfl rfl rfl) (by exact rfl) (by exact rfl) ?_; refine duE 3 7 [29,30,31,32] [] (a_appQ (j := 12) (i := 5) (fP rfl) rfl rfl rfl rfl qno bndQ bndQ (by decide)) (by exact rfl) (by exact rfl) ?_; refine dp 4 0 [25,26,27,28,30,31] [(true,0),(true,1),(false,5),(false,2)] puL ?_; refine dp 5 0 [25,26,27,28,29] [(true,0),(true,1),(false,5),(false,2)] pu1 ?_; refine dp 6 1 [25,26,27,28,29] [(true,0),(true,1),(false,5),(false,2)] (a_lenT rfl (fT rfl)) ?_; refine dp 7 7 [25,26,27,28] [(true,0),(true,1),(false,5),(false,2)] (a_add rfl rfl (by omega) (by omega)) ?_; refine duE 8 240 [29,30,31,32] [] (a_st_bx rfl rfl rfl rfl (fN rfl rfl) (Nat.le_of_ble_eq_true rfl) rfl) (by exact rfl) (by exact rfl) ?_; refine duE 9 511 [] [] (by first | exact a_st_bx rfl rfl rfl rfl (fN rfl rfl) (Nat.le_of_ble_eq_true rfl) rfl | exact a_st_rowI rfl rfl rfl rfl (fN rfl rfl) bnd | exact a_stE (E := eI) _ rfl rfl rfl rfl (fN rfl rfl) bnd (by exact rfl)) (by exact rfl) (by exact rfl) ?_; (refine d_nil ?_; refine dN ?_)))
      any_goals kernel_rfl
      refine q_cv (t_close1 (i := 12) (j := 7) (k := 2) (m := 0) rfl rfl rfl rfl rfl) ?_
      try dsimp only [List.map_cons,List.map_nil,List.set_cons_zero,List.set_cons_succ,List.length_cons,List.length_nil,List.cons_append,List.nil_append,Nat.reduceAdd,setRow]
      refine q_cv (t_close1 (i := 12) (j := 8) (k := 4) (m := 1) rfl rfl rfl rfl rfl) ?_
      try dsimp only [List.map_cons,List.map_nil,List.set_cons_zero,List.set_cons_succ,List.length_cons,List.length_nil,List.cons_append,List.nil_append,Nat.reduceAdd,setRow]
      refine q_cv (t_close1 (i := 12) (j := 9) (k := 5) (m := 2) rfl rfl rfl rfl rfl) ?_
      try dsimp only [List.map_cons,List.map_nil,List.set_cons_zero,List.set_cons_succ,List.length_cons,List.length_nil,List.cons_append,List.nil_append,Nat.reduceAdd,setRow]
      refine q_cv (t_uA (i := 12) [vI a] rfl rfl) ?_
      refine q_cv0 ?_
      refine q_b ?_
      refine q_next (acc ++ [vI a],n + a.length) [0,1,2,3,4,12,6] (by exact stk) ?_
      unfold bdJ; rw [if_pos ⟨by assumption,hc⟩]
  · rintro hj
    dsimp only [upOf,deadR,calF,List.cons_append,List.nil_append,GB.ren,C.ren,C.ren.all,List.length_cons,List.length_nil,Nat.reduceAdd,Nat.reduceSub] at *
    skip
    repeat' first|refine cd ?_|(apply g_drN (id := 7) okM [[],[],[0],[0,1,2]] [([],[]),([],[]),([],[]),([],[])] 0;(focus (refine dp 0 0 [34] [] puL ?_;refine dp 1 0 [33,2] [] puL ?_;refine dp 2 2 [34] [] pu1 ?_;refine dp 3 7 [] [] pu1 ?_;(refine d_nil ?_;refine dN ?_)));any_goals kernel_rfl)
    simp only [hO]
    skip
    repeat refine cr ?_
    refine ends_id ?_
    refine endK [?_] (h2 := ?_) (h3 := ?_) (nd := ?_)
    rotate_left 1
    all_goals (repeat' first|exact ce0|refine ce ?_|refine ce2 ?_ ?_|(refine Or.inr (bx_eq rfl rfl ?_);(try dsimp only [C.ren,C.ren.all]);(try exact rfl))|exact SVLe.refl|refine ceb ?_)
    all_goals first | exact (show nodupB _ = true from rfl) | exact Or.inr rfl | (rfl)
  · rintro c hj
    dsimp only [upOf,deadR,calF,List.cons_append,List.nil_append,GB.ren,C.ren,C.ren.all,List.length_cons,List.length_nil,Nat.reduceAdd,Nat.reduceSub] at *
    skip
    skip
    obtain rfl := hE _ hj
    simp only [hO]
    repeat' first|refine cd ?_|(apply g_drN (id := 7) okM [[],[],[0],[0,1,2]] [([],[]),([],[]),([],[]),([],[])] 0;(focus (refine dp 0 0 [34] [] puL ?_;refine dp 1 0 [33,2] [] puL ?_;refine dp 2 2 [34] [] pu1 ?_;refine dp 3 7 [] [] pu1 ?_;(refine d_nil ?_;refine dN ?_)));any_goals kernel_rfl)
    repeat refine cr ?_
    refine ends_id ?_
    refine endK [?_] (h2 := ?_) (h3 := ?_) (nd := ?_)
    rotate_left 1
    all_goals (repeat' first|exact ce0|refine ce ?_|refine ce2 ?_ ?_|(refine Or.inr (bx_eq rfl rfl ?_);(try dsimp only [C.ren,C.ren.all]);(try exact rfl))|exact SVLe.refl|refine ceb ?_)
    all_goals first | exact (show nodupB _ = true from rfl) | exact Or.inr rfl | (rfl)
end Go.Proofs.YtighjcjmacajoaaGreatDoor
end
section
set_option linter.unusedVariables false
set_option linter.unusedSimpArgs false
set_option maxRecDepth 100000
set_option maxHeartbeats 4000000
namespace Go.Proofs.YtighjcjmacajoaaGreatDoor
open Go Foot Go.RowKit
theorem bvI_end {u : Bs} (h : bvI u = true) : (10 : UInt8) ∈ u := by
  obtain ⟨h1,h2⟩ := vI_ok h
  unfold verT at h2
  rw [if_pos h1] at h2
  rw [← h2]
  unfold linT
  simp
theorem itJ_stop {x : List Verd × Int} {a : Bs} {r : List Bs} (h : ¬ (bvI a = true ∧ (x.1.length : Int) ≠ 40)) : (itL bdJ x (a :: r)).1 = x := by
  have e : bdJ x a = (x,some (.exit 0)) := by unfold bdJ; rw [if_neg h]
  rw [itL,e]
  rfl
theorem itJ_full {x : List Verd × Int} (h : (x.1.length : Int) = 40) : ∀ l,(itL bdJ x l).1 = x
  | [] => rfl
  | a :: r => itJ_stop (fun q => q.2 h)
theorem itJ_go {x : List Verd × Int} {a : Bs} {r : List Bs} (h1 : bvI a = true) (h2 : (x.1.length : Int) ≠ 40) : itL bdJ x (a :: r) = itL bdJ (x.1 ++ [vI a],x.2 + a.length) r := by
  have e : bdJ x a = ((x.1 ++ [vI a],x.2 + a.length),none) := by unfold bdJ; rw [if_pos ⟨h1,h2⟩]
  rw [itL,e]
  rfl
theorem itJ_tail {x : List Verd × Int} {u : Bs} (h : (10 : UInt8) ∉ u) : (itL bdJ x (linS u)).1 = x := by
  by_cases e : u = []
  · subst e; rfl
  · rw [linS_no e h]
    exact itJ_stop (fun q => h (bvI_end q.1))
abbrev eVm : Enc Verd := ⟨6,fun v => [.sc (.int .i64 v.m.sy),.sc (.int .i64 v.m.st),.sl true 3 (rows eR v.m.ru),.sc (.int .i64 v.p.k),.sl true 1 (rows eI v.p.nu),.sl true 1 (rows eW v.p.wo)],fun _ => rfl,by decide⟩
abbrev roVm (l : List Verd) : GB := .row 6 (rows eVm l)
theorem RecoverX_ok (s : Bs) (hs : (s.length : Int) ≤ 1048576) : Does Tryz.prog 97 [.one (str s)] [] (.tup [(false,[.gv 0]),(false,[int (jrI s).2])]) [roVm (jrI s).1] := by
  have hO : (itL bdJ ([],0) (linS s)).1 = jrI s := by unfold jrI; rfl
  refine does_of (k := 0) Tryz.func97 rfl Tryz.ntmps97 rfl rfl fun w F0 S0 ρ0 => ?_
  dsimp only [argT,argH]
  repeat' first|(apply n3;exact a_nilO eVm rfl;exact rfl)|(apply n3;(exact a_litE eV [] rfl rfl rfl rfl rfl rfl rfl rfl);exact rfl;refine dA ?_)|(apply p3;(exact pu1);exact rfl)|refine cd ?_
  refine g_loop_id ?_
  refine loopK [0,2,3] [1] (fun y : Int × Int × List Verd => 0 ≤ y.2.1 ∧ y.2.1 ≤ y.1 ∧ y.1 ≤ s.length ∧ (y.2.2.length : Int) ≤ 40 ∧ (itL bdJ (y.2.2,y.2.1) (linS (s.drop y.2.1.toNat))).1 = jrI s ∧ (10 : UInt8) ∉ (s.drop y.2.1.toNat).take (y.1 - y.2.1).toNat) (fun y => [(6,.one (int y.1)),(5,.one (int y.2.1)),(4,.one (.gv 1))]) (fun y => [(1,roVm y.2.2)]) (fun y => (s.length - y.1).toNat) ((0 : Int),(0 : Int),([] : List Verd)) [0,1] (hI := ?_) (hr := ?_)
  · exact ⟨by simp,by simp,by simp,by simp,by simpa using hO,by simp⟩
  · rintro ⟨i,st,acc⟩ ⟨h0,h1,h2,h3,h4,h5⟩
    dsimp only [List.cons_append,List.nil_append] at *
    skip
    repeat' first|(apply p3;(first|exact pu1|exact a_lenT rfl (fT rfl)|exact puC);exact rfl)|refine cdn ?_|refine g_reg (id := 4) ?_|refine g_reg (id := 11) ?_|refine o_no rfl rfl rfl rfl ?_|(apply py3;exact rfl;exact rfl;(first|exact pu1|exact puC|exact puN);exact rfl;exact rfl)|((first|refine o_gs rfl rfl (fun hc => ?_) (fun hc => ?_)|refine g_cond rfl (fun hc => ?_) (fun hc => ?_)) <;> (try simp only [dcB] at hc) <;> (try first|contradiction|(exfalso;omega)))
    · have hi : i.toNat < s.length := by omega
      have hdl : (s.drop st.toNat).length = s.length - st.toNat := List.length_drop
      have hgi : (s.drop st.toNat)[(i - st).toNat]? = some (s[i.toNat]'hi) := by
        rw [List.getElem?_drop,show st.toNat + (i - st).toNat = i.toNat by omega,List.getElem?_eq_getElem hi]
      have htk : (s.drop st.toNat).take ((i - st).toNat + 1) = (s.drop st.toNat).take (i - st).toNat ++ [s[i.toNat]'hi] := by
        rw [List.take_add_one,hgi]; rfl
      have hgd : s.getD i.toNat 0 = s[i.toNat]'hi := getD_getElem hi
      repeat' first|(apply p3;(first|exact pu1|exact a_idxS rfl rfl (fT rfl) (by omega) bnd|exact a_ne8 rfl rfl);exact rfl)|refine cdn ?_|refine g_reg (id := 6) ?_|((refine g_cond rfl (fun hc => ?_) (fun hc => ?_)) <;> (try simp only [dcB] at hc) <;> (try first|contradiction|(exfalso;omega)))
      · have hne : ¬ s[i.toNat]'hi = 10 := fun e => by
          rw [hgd,e] at hc
          exact hc rfl
        repeat' first|(apply p3;(first|exact pu1|exact a_add rfl rfl (by omega) (by omega));exact rfl)|refine cd ?_
        refine q_again (i + 1,st,acc) [0,1] (by exact stk) ?_ ?_
        · refine ⟨h0,by dsimp only; omega,by dsimp only; omega,h3,h4,?_⟩
          dsimp only
          rw [show (i + 1 - st).toNat = (i - st).toNat + 1 by omega,htk,List.mem_append,not_or]
          exact ⟨h5,by simp only [List.mem_singleton]; exact fun e => hne e.symm⟩
        · dsimp only; omega
      · have he : s[i.toNat]'hi = 10 := by
          rw [hgd] at hc
          exact UInt8.toNat_inj.1 (by have : (10 : UInt8).toNat = 10 := rfl; omega)
        rw [he] at htk
        obtain ⟨pre,hpre⟩ : ∃ pre,(s.drop st.toNat).take (i - st).toNat = pre := ⟨_,rfl⟩
        rw [hpre] at htk h5
        have hpl : pre.length = (i - st).toNat := by rw [← hpre,List.length_take,hdl]; omega
        have hd : s.drop st.toNat = pre ++ 10 :: s.drop (i + 1).toNat := by
          have q := List.take_append_drop ((i - st).toNat + 1) (s.drop st.toNat)
          rw [htk,List.drop_drop,show st.toNat + ((i - st).toNat + 1) = (i + 1).toNat by omega,List.append_assoc] at q
          exact q.symm
        have ea : (s.drop st.toNat).take ((i + 1).toNat - st.toNat) = pre ++ [10] := by
          rw [show (i + 1).toNat - st.toNat = (i - st).toNat + 1 by omega,htk]
        have hl := linS_app (b := s.drop (i + 1).toNat) h5
        rw [← hd] at hl
        rw [hl] at h4
        have hal : ((pre ++ [10] : Bs).length : Int) ≤ 1048576 := by simp; omega
        have hx : (10 : UInt8) ∉ ([] : Bs) := by simp
        repeat' first|(apply p3;(first|exact pu1|exact a_add rfl rfl (by omega) (by omega)|exact a_slSm rfl rfl rfl (fT rfl) (by omega) (by omega) bnd);exact rfl)|refine g_reg (id := 7) ?_
        simp only [ea]
        repeat' first|(apply n3;exact a_new (gb := .bx _) rfl;exact rfl;refine dA ?_)|(apply p3;(exact pu1);exact rfl)|refine cdn ?_|refine g_reg (id := 8) ?_|refine g_reg (id := 11) ?_|(apply w3;(exact a_st_bx rfl rfl rfl rfl (fN rfl rfl) (Nat.le_of_ble_eq_true rfl) rfl);exact rfl;refine dS ?_)|(apply c4 3;exact callK0 (θ := []) (hD := (ReadVerdictX_ok (pre ++ [10]) hal));exact rfl;exact rfl;exact rfl;refine dM ?_)|((refine g_cond rfl (fun hc => ?_) (fun hc => ?_)) <;> (try simp only [dcB] at hc) <;> (try first|contradiction|(exfalso;omega)))
        · have hr : (acc,st) = jrI s := by
            rw [← h4]
            symm
            exact itJ_stop (fun q => by rw [hc] at q; exact absurd q.1 (by decide))
          rw [← hr]
          repeat refine cr ?_
          refine ends_id ?_
          refine endK [?_] (h2 := ?_) (h3 := ?_) (nd := ?_)
          rotate_left 1
          all_goals (repeat' first|exact ce0|refine ce ?_|refine ce2 ?_ ?_|(refine Or.inr (bx_eq rfl rfl ?_);(try dsimp only [C.ren,C.ren.all]);(try exact rfl))|exact SVLe.refl|refine ceb ?_)
          all_goals first | exact (show nodupB _ = true from rfl) | exact Or.inr rfl | (rfl)
        · rw [itJ_go hc (show (acc.length : Int) ≠ 40 by omega)] at h4
          dsimp only at h4
          rw [show st + ((pre ++ [10] : Bs).length : Int) = i + 1 by simp; omega] at h4
          simp only [setRow,List.map_cons,List.map_nil,scC,List.set_cons_zero,List.set_cons_succ,Nat.zero_add,List.getElem?_cons_zero,List.getElem?_cons_succ,List.take_succ_cons,List.take_zero,List.drop_zero]
          repeat' first|(apply n3;(exact (by exact a_litQ (fP rfl) (by decide) rfl (by decide) rfl rfl rfl));exact rfl;refine dA ?_)|(apply p3;(exact pu1);exact rfl)|refine cdn ?_|refine g_reg (id := 9) ?_|(apply s3;exact a_appQ (fP rfl) rfl rfl rfl rfl qno bndQ bndQ (by decide);exact rfl;exact rfl)
          first | refine g_conv (t_close1 (i := 7) (j := 2) (k := 2) (m := 0) rfl rfl rfl rfl rfl) ?_ | refine o_conv (t_close1 (i := 7) (j := 2) (k := 2) (m := 0) rfl rfl rfl rfl rfl) ?_
          try dsimp only [List.map_cons,List.map_nil,List.set_cons_zero,List.set_cons_succ,List.length_cons,List.length_nil,List.cons_append,List.nil_append,Nat.reduceAdd,setRow]
          first | refine g_conv (t_close1 (i := 7) (j := 3) (k := 4) (m := 1) rfl rfl rfl rfl rfl) ?_ | refine o_conv (t_close1 (i := 7) (j := 3) (k := 4) (m := 1) rfl rfl rfl rfl rfl) ?_
          try dsimp only [List.map_cons,List.map_nil,List.set_cons_zero,List.set_cons_succ,List.length_cons,List.length_nil,List.cons_append,List.nil_append,Nat.reduceAdd,setRow]
          first | refine g_conv (t_close1 (i := 7) (j := 4) (k := 5) (m := 2) rfl rfl rfl rfl rfl) ?_ | refine o_conv (t_close1 (i := 7) (j := 4) (k := 5) (m := 2) rfl rfl rfl rfl rfl) ?_
          try dsimp only [List.map_cons,List.map_nil,List.set_cons_zero,List.set_cons_succ,List.length_cons,List.length_nil,List.cons_append,List.nil_append,Nat.reduceAdd,setRow]
          first | refine g_conv (t_uA (i := 7) [vI (pre ++ [10])] rfl rfl) ?_ | refine o_conv (t_uA (i := 7) [vI (pre ++ [10])] rfl rfl) ?_
          repeat' first|(apply p3;(first|exact pu1|exact a_add rfl rfl (by omega) (by omega));exact rfl)|refine cd ?_
          refine q_again (i + 1,i + 1,acc ++ [vI (pre ++ [10])]) [0,7] (by exact stk) ?_ ?_
          · refine ⟨by dsimp only; omega,Int.le_refl _,by dsimp only; omega,by simp only [List.length_append,List.length_cons,List.length_nil]; omega,h4,?_⟩
            dsimp only
            rw [show (i + 1 - (i + 1)).toNat = 0 by omega,List.take_zero]
            exact hx
          · dsimp only; omega
    · have hr : (acc,st) = jrI s := by
        rw [← h4]
        symm
        by_cases hf : (acc.length : Int) = 40
        · exact itJ_full hf _
        · refine itJ_tail ?_
          rw [List.take_of_length_le (by rw [List.length_drop]; omega)] at h5
          exact h5
      rw [← hr]
      repeat refine cr ?_
      refine ends_id ?_
      refine endK [?_] (h2 := ?_) (h3 := ?_) (nd := ?_)
      rotate_left 1
      all_goals (repeat' first|exact ce0|refine ce ?_|refine ce2 ?_ ?_|(refine Or.inr (bx_eq rfl rfl ?_);(try dsimp only [C.ren,C.ren.all]);(try exact rfl))|exact SVLe.refl|refine ceb ?_)
      all_goals first | exact (show nodupB _ = true from rfl) | exact Or.inr rfl | (rfl)
    · have hr : (acc,st) = jrI s := by
        rw [← h4]
        symm
        refine itJ_tail ?_
        rw [List.take_of_length_le (by rw [List.length_drop]; omega)] at h5
        exact h5
      rw [← hr]
      repeat refine cr ?_
      refine ends_id ?_
      refine endK [?_] (h2 := ?_) (h3 := ?_) (nd := ?_)
      rotate_left 1
      all_goals (repeat' first|exact ce0|refine ce ?_|refine ce2 ?_ ?_|(refine Or.inr (bx_eq rfl rfl ?_);(try dsimp only [C.ren,C.ren.all]);(try exact rfl))|exact SVLe.refl|refine ceb ?_)
      all_goals first | exact (show nodupB _ = true from rfl) | exact Or.inr rfl | (rfl)
end Go.Proofs.YtighjcjmacajoaaGreatDoor
end
section
set_option linter.unusedVariables false
set_option linter.unusedSimpArgs false
set_option maxRecDepth 100000
set_option maxHeartbeats 4000000
namespace Go.Proofs.YtighjcjmacajoaaGreatDoor
open Go Foot Go.RowKit
theorem bigV (a : Bs) : BigOk (vI a) := by
  obtain ⟨l1,l2,l3,l4⟩ := vI_len a
  exact ⟨by omega,by omega,by omega,fun x hx => by have := l4 x hx; omega⟩
theorem itJ_len : ∀ (l : List Bs) (x : List Verd × Int),(x.1.length : Int) ≤ 40 → (∀ v ∈ x.1,BigOk v) → ((itL bdJ x l).1.1.length : Int) ≤ 40 ∧ ∀ v ∈ (itL bdJ x l).1.1,BigOk v
  | [],x,h,h2 => ⟨h,h2⟩
  | a :: r,x,h,h2 => by
    by_cases q : bvI a = true ∧ (x.1.length : Int) ≠ 40
    · rw [itJ_go q.1 q.2]
      refine itJ_len r _ (by simp only [List.length_append,List.length_cons,List.length_nil]; omega) fun v hv => ?_
      dsimp only at hv
      rw [List.mem_append] at hv
      rcases hv with hv | hv
      · exact h2 v hv
      · rw [List.mem_singleton] at hv
        rw [hv]
        exact bigV a
    · rw [itJ_stop q]
      exact ⟨h,h2⟩
theorem jrI_len (s : Bs) : ((jrI s).1.length : Int) ≤ 40 ∧ BgsOk (jrI s).1 := by
  have e : jrI s = (itL bdJ ([],0) (linS s)).1 := by unfold jrI; rfl
  obtain ⟨h1,h2⟩ := itJ_len (linS s) ([],0) (by simp) (by simp)
  rw [← e] at h1 h2
  exact ⟨h1,⟨by omega,h2⟩⟩
theorem sRecover_ok (s : Bs) (hs : (s.length : Int) ≤ 1048576) : Does Tryz.prog 35 [.one (str s)] [] (.tup [(false,[.gv 0]),(false,[int (jrI s).2])]) [roVm (jrI s).1] := by
  refine does_of (k := 0) Tryz.func35 rfl Tryz.ntmps35 rfl rfl fun w F0 S0 ρ0 => ?_
  dsimp only [argT,argH]
  repeat' first|(apply n3;exact a_nilO eVm rfl;exact rfl)|(apply p3;exact pu1;exact rfl)|refine cd ?_|(apply c4 1;exact callK0 (θ := []) (hD := (RecoverX_ok s hs));exact rfl;exact rfl;exact rfl;refine dM ?_)
  repeat refine cr ?_
  refine ends_id ?_
  refine endK [?_] (h2 := ?_) (h3 := ?_) (nd := ?_)
  rotate_left 1
  all_goals (repeat' first|exact ce0|refine ce ?_|refine ce2 ?_ ?_|(refine Or.inr (bx_eq rfl rfl ?_);(try dsimp only [C.ren,C.ren.all]);(try exact rfl))|exact SVLe.refl|refine ceb ?_)
  all_goals first | exact (show nodupB _ = true from rfl) | exact Or.inr rfl | (rfl)
@[irreducible] def rjV (s : Bs) : List Verd := if (jrI s).2 = s.length then (jrI s).1 else []
theorem rjV_t {s : Bs} (h : (jrI s).2 = s.length) : rjV s = (jrI s).1 := by unfold rjV; rw [if_pos h]
theorem rjV_f {s : Bs} (h : ¬ (jrI s).2 = s.length) : rjV s = [] := by unfold rjV; rw [if_neg h]
theorem ReadJournalI_ok (s : Bs) (hs : (s.length : Int) ≤ 1048576) : Does Tryz.prog 38 [.one (str s)] [] (.tup [(false,[.gv 0]),(false,[boo (decide ((jrI s).2 = s.length))])]) [roVn (rjV s)] := by
  by_cases h : (jrI s).2 = s.length
  · rw [rjV_t h,decide_eq_true h]
    refine does_of (k := 0) Tryz.func38 rfl Tryz.ntmps38 rfl rfl fun w F0 S0 ρ0 => ?_
    dsimp only [argT,argH]
    repeat' first|(apply n3;exact a_nilO eVn rfl;exact rfl)|(apply p3;(first|exact pu1|exact a_lenT rfl (fT rfl)|exact a_ne rfl rfl);exact rfl)|refine cd ?_|(apply c4 1;exact callK1 (θ := []) (hD := (RecoverI_ok s hs));exact rfl;exact rfl;exact rfl;refine dM ?_)|((refine g_cond rfl (fun hc => ?_) (fun hc => ?_)) <;> (try simp only [dcB] at hc) <;> (try first|contradiction|(exfalso;omega)))
    repeat refine cr ?_
    refine ends_id ?_
    refine endK [?_] (h2 := ?_) (h3 := ?_) (nd := ?_)
    rotate_left 1
    all_goals (repeat' first|exact ce0|refine ce ?_|refine ce2 ?_ ?_|(refine Or.inr (bx_eq rfl rfl ?_);(try dsimp only [C.ren,C.ren.all]);(try exact rfl))|exact SVLe.refl|refine ceb ?_)
    all_goals first | exact (show nodupB _ = true from rfl) | exact Or.inr rfl | (rfl)
  · rw [rjV_f h,decide_eq_false h]
    refine does_of (k := 0) Tryz.func38 rfl Tryz.ntmps38 rfl rfl fun w F0 S0 ρ0 => ?_
    dsimp only [argT,argH]
    repeat' first|(apply n3;exact a_nilO eVn rfl;exact rfl)|(apply p3;(first|exact pu1|exact a_lenT rfl (fT rfl)|exact a_ne rfl rfl);exact rfl)|refine cd ?_|(apply c4 1;exact callK1 (θ := []) (hD := (RecoverI_ok s hs));exact rfl;exact rfl;exact rfl;refine dM ?_)|((refine g_cond rfl (fun hc => ?_) (fun hc => ?_)) <;> (try simp only [dcB] at hc) <;> (try first|contradiction|(exfalso;omega)))
    repeat refine cr ?_
    refine ends_id ?_
    refine endK [?_] (h2 := ?_) (h3 := ?_) (nd := ?_)
    rotate_left 1
    all_goals (repeat' first|exact ce0|refine ce ?_|refine ce2 ?_ ?_|(refine Or.inr (bx_eq rfl rfl ?_);(try dsimp only [C.ren,C.ren.all]);(try exact rfl))|exact SVLe.refl|refine ceb ?_)
    all_goals first | exact (show nodupB _ = true from rfl) | exact Or.inr rfl | (rfl)
theorem ReadJournalX_ok (s : Bs) (hs : (s.length : Int) ≤ 1048576) : Does Tryz.prog 37 [.one (str s)] [] (.tup [(false,[.gv 0]),(false,[boo (decide ((jrI s).2 = s.length))])]) [roVm (rjV s)] := by
  by_cases h : (jrI s).2 = s.length
  · rw [rjV_t h,decide_eq_true h]
    refine does_of (k := 0) Tryz.func37 rfl Tryz.ntmps37 rfl rfl fun w F0 S0 ρ0 => ?_
    dsimp only [argT,argH]
    repeat' first|(apply n3;exact a_nilO eVm rfl;exact rfl)|(apply p3;(first|exact pu1|exact a_lenT rfl (fT rfl)|exact a_ne rfl rfl);exact rfl)|refine cd ?_|(apply c4 1;exact callK0 (θ := []) (hD := (RecoverX_ok s hs));exact rfl;exact rfl;exact rfl;refine dM ?_)|((refine g_cond rfl (fun hc => ?_) (fun hc => ?_)) <;> (try simp only [dcB] at hc) <;> (try first|contradiction|(exfalso;omega)))
    repeat refine cr ?_
    refine ends_id ?_
    refine endK [?_] (h2 := ?_) (h3 := ?_) (nd := ?_)
    rotate_left 1
    all_goals (repeat' first|exact ce0|refine ce ?_|refine ce2 ?_ ?_|(refine Or.inr (bx_eq rfl rfl ?_);(try dsimp only [C.ren,C.ren.all]);(try exact rfl))|exact SVLe.refl|refine ceb ?_)
    all_goals first | exact (show nodupB _ = true from rfl) | exact Or.inr rfl | (rfl)
  · rw [rjV_f h,decide_eq_false h]
    refine does_of (k := 0) Tryz.func37 rfl Tryz.ntmps37 rfl rfl fun w F0 S0 ρ0 => ?_
    dsimp only [argT,argH]
    repeat' first|(apply n3;exact a_nilO eVm rfl;exact rfl)|(apply p3;(first|exact pu1|exact a_lenT rfl (fT rfl)|exact a_ne rfl rfl);exact rfl)|refine cd ?_|(apply c4 1;exact callK0 (θ := []) (hD := (RecoverX_ok s hs));exact rfl;exact rfl;exact rfl;refine dM ?_)|((refine g_cond rfl (fun hc => ?_) (fun hc => ?_)) <;> (try simp only [dcB] at hc) <;> (try first|contradiction|(exfalso;omega)))
    repeat refine cr ?_
    refine ends_id ?_
    refine endK [?_] (h2 := ?_) (h3 := ?_) (nd := ?_)
    rotate_left 1
    all_goals (repeat' first|exact ce0|refine ce ?_|refine ce2 ?_ ?_|(refine Or.inr (bx_eq rfl rfl ?_);(try dsimp only [C.ren,C.ren.all]);(try exact rfl))|exact SVLe.refl|refine ceb ?_)
    all_goals first | exact (show nodupB _ = true from rfl) | exact Or.inr rfl | (rfl)
theorem rjV_len (s : Bs) : ((rjV s).length : Int) ≤ 40 ∧ BgsOk (rjV s) := by
  by_cases h : (jrI s).2 = s.length
  · rw [rjV_t h]; exact jrI_len s
  · rw [rjV_f h]; exact ⟨by simp,⟨by simp,by simp⟩⟩
end Go.Proofs.YtighjcjmacajoaaGreatDoor
end
section
set_option linter.unusedVariables false
set_option linter.unusedSimpArgs false
set_option maxRecDepth 100000
set_option maxHeartbeats 4000000
namespace Go.Proofs.YtighjcjmacajoaaGreatDoor
open Go Foot
theorem mkL_get {α : Type} (sz : α → Int) (mk : Int → α → α) : ∀ (k : Int) (xs : List α) (i : Nat) (h : i < xs.length),(mkL sz mk k xs)[i]? = some (mk (k + totL sz (xs.take i)) xs[i])
  | k,[],i,h => by simp at h
  | k,x :: xs,0,h => by simp [mkL,totL]
  | k,x :: xs,i + 1,h => by
    have := mkL_get sz mk (k + sz x) xs i (by simpa using h)
    simp only [mkL,List.getElem?_cons_succ,this,List.take_succ_cons,totL,List.getElem_cons_succ,Int.add_assoc]
theorem mksW_len (k : Int) (T : List (List Int)) : (mksW k T).length = T.length := by unfold mksW; rw [mkL_len]
theorem mksW_get (k : Int) (T : List (List Int)) (i : Nat) (h : i < (mksW k T).length) (h' : i < T.length) : (mksW k T)[i]'h = marks (k + totL szw (T.take i)) (T[i]'h').length := by
  have e := mkL_get szw mkw k T i h'
  have e2 : mksW k T = mkL szw mkw k T := by unfold mksW; rfl
  rw [← e2,List.getElem?_eq_getElem h] at e
  exact Option.some.inj e
theorem preD9 {p : Prop} (h : p := by first | with_reducible assumption | omega | (simp only [List.length_append,List.length_cons,List.length_nil,List.length_set,List.length_replicate,List.length_take,List.length_drop,List.length_tail,List.length_dropLast,List.length_reverse] at *; omega) | exact mem_len (by assumption) (by omega) | (with_reducible refine Int.le_trans (Int.ofNat_le.2 (trimR_len _)) ?_; simp only [List.length_cons,List.length_tail]; omega) | (exact (ruAt_ok (by assumption) (by assumption) (by assumption)).2.1) | (exact (ruAt_ok (by assumption) (by assumption) (by assumption)).2.1) | (have := vMach_bd (by assumption); omega) | (simp only [mC_ch,mC_tu]; omega) | (have := vTag_bd (by assumption); omega) | (have := (‹Gd _ _›).le; omega) | (exact tgHalts_no (by assumption)) | (exact tgHead (by assumption) (by assumption) (by assumption)) | (exact Int.le_trans (tgStep_gd (by assumption) (by assumption) (by assumption) (by assumption)).le (by decide)) | (exact vTag_r (by assumption)) | (with_reducible refine Int.le_trans (Int.ofNat_le.2 (pushL_len _ _)) ?_; simp only [List.length_dropLast]; omega) | exact ls_at (by assumption) (by omega) | exact pt_gd (by assumption) | exact lv_at (by assumption) (by omega) | exact pt_gd (lv_at (by assumption) (by omega)) | exact (ask_ok (by assumption)).1 | exact (ask_ok (by assumption)).2.1 | exact (ask_ok (by assumption)).2.2.1 | exact (ask_ok (by assumption)).2.2.2 | (simp only [marks_len]; omega) | (simp only [marksR_len]; omega) | exact lns_at (by assumption) (by omega) | exact bgs_at (by assumption) (by omega) | trivial) : p := h
theorem heldMarksW_ok (T : List (List Int)) (k : Int) (h1 : 0 ≤ k) (h2 : k + totW T ≤ 4611686018427387904) (hx : (T.length : Int) ≤ 4611686018427) (hxs : ∀ x ∈ T,(x.length : Int) ≤ 4611686018427) : Does Tryz.prog 85 [.one (shW (mksW k T)),.one (int k)] [] (.one (int (k + totW T))) [] := by
  have hl := mksW_len k T
  refine does_of (k := 0) Tryz.func85 rfl Tryz.ntmps85 rfl rfl fun w F0 S0 ρ0 => ?_
  dsimp only [argT,argH]
  repeat' first|(apply p3;(exact pu1);exact rfl)|refine cd ?_
  refine g_loop_id ?_
  refine loopK [0,4] [] (fun y : Int × Int => 0 ≤ y.1 ∧ y.1 ≤ T.length ∧ y.2 = k + totL szw (T.take y.1.toNat)) (fun y => [(5,.one (int y.1)),(1,.one (int y.2))]) (fun _ => []) (fun y => (T.length - y.1).toNat) ((0 : Int),k) [] (hI := ?_) (hr := ?_)
  · exact ⟨by simp,by simp,by simp [totL]⟩
  · rintro ⟨i,k'⟩ ⟨k1,k2,k3⟩
    dsimp only [List.cons_append,List.nil_append] at *
    skip
    repeat' first|(apply p3;(first|exact pu1|exact puN|exact puC);exact rfl)|refine cdn ?_|refine g_reg (id := 2) ?_|refine g_reg (id := 7) ?_|((refine g_cond rfl (fun hc => ?_) (fun hc => ?_)) <;> (try simp only [dcB] at hc) <;> (try first|contradiction|(exfalso;omega)))
    · have hi : i.toNat < T.length := by omega
      have hg := mksW_get k T i.toNat (by omega) hi
      rw [← k3] at hg
      have hh : held k' ((mksW k T)[i.toNat]'(by omega)) = k' + (T[i.toNat]'hi).length := by rw [hg,held_marks]
      have hgl : ((mksW k T)[i.toNat]'(by omega)).length = (T[i.toNat]'hi).length := by rw [hg,marks_len]
      have hb := totL_bd szw 4611686018427 (xs := T.take i.toNat) (fun x hx => ⟨by unfold szw; omega,hxs x (List.mem_of_mem_take hx)⟩)
      have hx2 := hxs _ (List.getElem_mem hi)
      have hn := totL_next szw k1 (xs := T) hi
      have ht := totL_app szw (T.take (i + 1).toNat) (T.drop (i + 1).toNat)
      have hd := totL_bd szw 4611686018427 (xs := T.drop (i + 1).toNat) (fun x hx => ⟨by unfold szw; omega,hxs x (List.mem_of_mem_drop hx)⟩)
      rw [List.take_append_drop] at ht
      unfold totW at h2
      have hs : szw T[i.toNat] = (T[i.toNat].length : Int) := rfl
      repeat' first|(apply p3;(first|exact pu1|exact puI);exact rfl)|refine cdn ?_|refine g_reg (id := 4) ?_|(apply c4 0;exact callK1 (θ := []) (hD := (heldInt64S_ok _ _ preD9 preD9 preD9));exact rfl;exact rfl;exact rfl;refine dM ?_)
      simp only [hh]
      repeat' first|(apply p3;(first|exact pu1|exact puC|exact a_add rfl rfl (by omega) (by omega));exact rfl)|refine cd ?_|((refine g_cond rfl (fun hc => ?_) (fun hc => ?_)) <;> (try simp only [dcB] at hc) <;> (try first|contradiction|(exfalso;omega)))
      refine q_again (i + 1,k' + (T[i.toNat]'hi).length) [] (by exact stk) ?_ ?_
      · exact ⟨by dsimp only; omega,by dsimp only; omega,by dsimp only; omega⟩
      · dsimp only; omega
    · have hi : i.toNat = T.length := by omega
      rw [hi,List.take_length] at k3
      have e1 : totW T = totL szw T := by unfold totW; rfl
      rw [e1,← k3]
      skip
      repeat refine cr ?_
      refine ends_id ?_
      refine endK [] (h2 := ?_) (h3 := ?_) (nd := ?_)
      all_goals (repeat' first|exact ce0|refine ce ?_|refine ce2 ?_ ?_|exact SVLe.refl|refine ceb ?_)
      all_goals first | exact (show nodupB _ = true from rfl) | exact Or.inr rfl | (rfl)
end Go.Proofs.YtighjcjmacajoaaGreatDoor
end
section
set_option linter.unusedVariables false
set_option linter.unusedSimpArgs false
set_option maxRecDepth 100000
set_option maxHeartbeats 4000000
namespace Go.Proofs.YtighjcjmacajoaaGreatDoor
open Go Foot
@[irreducible] def heldR (k : Int) (xs : List Rule') : Int := if xs = marksR k xs.length then k + 3 * xs.length else -1
theorem heldR_marks (k : Int) (n : Nat) : heldR k (marksR k n) = k + 3 * n := by unfold heldR; rw [marksR_len,if_pos rfl]
theorem notR {k : Int} {xs : List Rule'} (i : Nat) (h : i < xs.length) (hn : (xs[i]).w ≠ k + 3 * i ∨ (xs[i]).m ≠ k + 3 * i + 1 ∨ (xs[i]).n ≠ k + 3 * i + 2) : heldR k xs = -1 := by
  unfold heldR
  rw [if_neg]
  intro e
  have e1 := marksR_get k xs.length i h
  rw [← e,List.getElem?_eq_getElem h] at e1
  simp only [Option.some.injEq] at e1
  rw [e1] at hn
  simp at hn
theorem heldRuleS_ok (xs : List Rule') (k : Int) (h1 : 0 ≤ k) (h2 : k ≤ 4611686018427387904) (hx : (xs.length : Int) ≤ 4611686018427) : Does Tryz.prog 83 [.one (shR xs),.one (int k)] [] (.one (int (heldR k xs))) [] := by
  refine does_of (k := 0) Tryz.func83 rfl Tryz.ntmps83 rfl rfl fun w F0 S0 ρ0 => ?_
  dsimp only [argT,argH]
  repeat' first|(apply p3;(exact pu1);exact rfl)|refine cd ?_
  refine g_loop_id ?_
  refine loopK [0,4] [] (fun i : Int => 0 ≤ i ∧ i ≤ xs.length ∧ ∀ (j : Nat),(j : Int) < i → xs[j]? = some ⟨k + 3 * j,k + 3 * j + 1,k + 3 * j + 2⟩) (fun i => [(5,.one (int i)),(1,.one (int (k + 3 * i)))]) (fun _ => []) (fun i => (xs.length - i).toNat) (0 : Int) [] (hI := ?_) (hr := ?_)
  · exact ⟨by simp,by simp,fun j h' => by omega⟩
  · rintro i ⟨k1,k2,k4⟩
    dsimp only [List.cons_append,List.nil_append] at *
    skip
    repeat' first|(apply p3;(first|exact pu1|exact puN|exact puC|exact a_ne rfl rfl|exact a_add rfl rfl (by omega) (by omega)|exact puI);exact rfl)|refine cd ?_|((refine g_cond rfl (fun hc => ?_) (fun hc => ?_)) <;> (try simp only [dcB] at hc) <;> (try first|contradiction|(exfalso;omega)))
    · have hn := notR (k := k) (xs := xs) i.toNat (by omega) (.inl (by rw [show ((i.toNat : Nat) : Int) = i by omega]; assumption))
      rw [hn]
      repeat refine cr ?_
      refine ends_id ?_
      refine endK [] (h2 := ?_) (h3 := ?_) (nd := ?_)
      all_goals (repeat' first|exact ce0|refine ce ?_|refine ce2 ?_ ?_|exact SVLe.refl|refine ceb ?_)
      all_goals first | exact (show nodupB _ = true from rfl) | exact Or.inr rfl | (rfl)
    · have hn := notR (k := k) (xs := xs) i.toNat (by omega) (.inr (.inl (by rw [show ((i.toNat : Nat) : Int) = i by omega]; assumption)))
      rw [hn]
      repeat refine cr ?_
      refine ends_id ?_
      refine endK [] (h2 := ?_) (h3 := ?_) (nd := ?_)
      all_goals (repeat' first|exact ce0|refine ce ?_|refine ce2 ?_ ?_|exact SVLe.refl|refine ceb ?_)
      all_goals first | exact (show nodupB _ = true from rfl) | exact Or.inr rfl | (rfl)
    · have hn := notR (k := k) (xs := xs) i.toNat (by omega) (.inr (.inr (by rw [show ((i.toNat : Nat) : Int) = i by omega]; omega)))
      rw [hn]
      repeat refine cr ?_
      refine ends_id ?_
      refine endK [] (h2 := ?_) (h3 := ?_) (nd := ?_)
      all_goals (repeat' first|exact ce0|refine ce ?_|refine ce2 ?_ ?_|exact SVLe.refl|refine ceb ?_)
      all_goals first | exact (show nodupB _ = true from rfl) | exact Or.inr rfl | (rfl)
    · refine q_again (i + 1) [] (by exact stk) ?_ ?_
      · refine ⟨by omega,by omega,fun j h => ?_⟩
        by_cases hj : (j : Int) < i
        · exact k4 j hj
        · have : j = i.toNat := by omega
          subst this
          rw [List.getElem?_eq_getElem (by omega),show ((i.toNat : Nat) : Int) = i by omega]
          have e1 : xs[i.toNat].w = k + 3 * i := by assumption
          have e2 : xs[i.toNat].m = k + 3 * i + 1 := by assumption
          have e3 : xs[i.toNat].n = k + 3 * i + 2 := by omega
          rw [← e3,← e2,← e1]
      · omega
    · have hi : i = xs.length := by omega
      subst hi
      have hl := markR_end (k := k) (xs := xs) rfl fun j hj => k4 j (by omega)
      have hh : heldR k xs = k + 3 * xs.length := by unfold heldR; exact if_pos hl
      rw [hh]
      repeat refine cr ?_
      refine ends_id ?_
      refine endK [] (h2 := ?_) (h3 := ?_) (nd := ?_)
      all_goals (repeat' first|exact ce0|refine ce ?_|refine ce2 ?_ ?_|exact SVLe.refl|refine ceb ?_)
      all_goals first | exact (show nodupB _ = true from rfl) | exact Or.inr rfl | (rfl)
end Go.Proofs.YtighjcjmacajoaaGreatDoor
end
section
set_option linter.unusedVariables false
set_option linter.unusedSimpArgs false
set_option maxRecDepth 100000
set_option maxHeartbeats 4000000
namespace Go.Proofs.YtighjcjmacajoaaGreatDoor
open Go Foot
theorem totW_le {xs : List (List Int)} (h1 : (xs.length : Int) ≤ 1048576) (h : ∀ x ∈ xs,(x.length : Int) ≤ 1048576) : 0 ≤ totW xs ∧ totW xs ≤ 1099511627776 := by
  have := totW_bd 1048576 h
  omega
end Go.Proofs.YtighjcjmacajoaaGreatDoor
end
section
set_option linter.unusedVariables false
set_option linter.unusedSimpArgs false
set_option maxRecDepth 100000
set_option maxHeartbeats 4000000
namespace Go.Proofs.YtighjcjmacajoaaGreatDoor
open Go Foot
theorem mksV_len (k : Int) (T : List Verd) : (mksV k T).length = T.length := by unfold mksV; rw [mkL_len]
theorem mksV_get (k : Int) (T : List Verd) (i : Nat) (h : i < (mksV k T).length) (h' : i < T.length) : (mksV k T)[i]'h = mkv (k + totL szv (T.take i)) (T[i]'h') := by
  have e := mkL_get szv mkv k T i h'
  have e2 : mksV k T = mkL szv mkv k T := by unfold mksV; rfl
  rw [← e2,List.getElem?_eq_getElem h] at e
  exact Option.some.inj e
theorem heldVerdictSn_ok (T : List Verd) (k : Int) (g : BgsOk T) (h1 : 0 ≤ k) (h2 : k ≤ 1152921504606846976) : Does Tryz.prog 29 [.one (shV (mksV k T)),.one (int k)] [] (.one (int (k + totV T))) [] := by
  have hx := g.n
  have hl := mksV_len k T
  refine does_of (k := 0) Tryz.func29 rfl Tryz.ntmps29 rfl rfl fun w F0 S0 ρ0 => ?_
  dsimp only [argT,argH]
  repeat' first|(apply p3;(exact pu1);exact rfl)|refine cd ?_
  refine g_loop_id ?_
  refine loopK [0,4] [] (fun y : Int × Int => 0 ≤ y.1 ∧ y.1 ≤ T.length ∧ y.2 = k + totL szv (T.take y.1.toNat)) (fun y => [(5,.one (int y.1)),(1,.one (int y.2))]) (fun _ => []) (fun y => (T.length - y.1).toNat) ((0 : Int),k) [] (hI := ?_) (hr := ?_)
  · exact ⟨by simp,by simp,by simp [totL]⟩
  · rintro ⟨i,k'⟩ ⟨k1,k2,k3⟩
    dsimp only [List.cons_append,List.nil_append] at *
    skip
    repeat' first|(apply p3;(first|exact pu1|exact puN|exact puC);exact rfl)|refine cdn ?_|refine g_reg (id := 2) ?_|refine g_reg (id := 22) ?_|((refine g_cond rfl (fun hc => ?_) (fun hc => ?_)) <;> (try simp only [dcB] at hc) <;> (try first|contradiction|(exfalso;omega)))
    · have hi : i.toNat < T.length := by omega
      have hi2 : i.toNat < (mksV k T).length := by omega
      have hg := mksV_get k T i.toNat hi2 hi
      rw [← k3] at hg
      have hb := totV_bd (xs := T.take i.toNat) (fun v hv => g.a v (List.mem_of_mem_take hv))
      have hbl : ((T.take i.toNat).length : Int) ≤ 1048576 := by rw [List.length_take]; omega
      have hk : 0 ≤ k' ∧ k' ≤ 3458764513820540928 := by
        have := Int.mul_le_mul_of_nonneg_right hbl (show (0 : Int) ≤ 1099517000000 by omega)
        omega
      have hn := totL_next szv k1 (xs := T) hi
      obtain ⟨v,ev⟩ : ∃ v,T[i.toNat]'hi = v := ⟨_,rfl⟩
      have gv : BigOk v := by rw [← ev]; exact g.a _ (List.getElem_mem hi)
      rw [ev] at hn
      have hsz : szv v = 3 + 3 * v.m.ru.length + v.p.nu.length + totW v.p.wo := by unfold szv; rfl
      obtain ⟨g1,g2,g3,g4⟩ := gv
      have ht := totW_le (xs := v.p.wo) (by omega) g4
      obtain ⟨V,eV⟩ : ∃ V,(mksV k T)[i.toNat]'hi2 = V := ⟨_,rfl⟩
      rw [ev,eV] at hg
      have q1 : V.m.sy = k' := by rw [hg]; unfold mkv; rfl
      have q2 : V.m.st = k' + 1 := by rw [hg]; unfold mkv; rfl
      have q3 : V.m.ru = marksR (k' + 1 + 1) v.m.ru.length := by rw [hg]; unfold mkv; rfl
      have q4 : V.p.k = k' + 1 + 1 + 3 * v.m.ru.length := by rw [hg]; unfold mkv; rfl
      have q5 : V.p.nu = marks (k' + 1 + 1 + 3 * v.m.ru.length + 1) v.p.nu.length := by rw [hg]; unfold mkv; rfl
      have q6 : V.p.wo = mksW (k' + 1 + 1 + 3 * v.m.ru.length + 1 + v.p.nu.length) v.p.wo := by rw [hg]; unfold mkv; rfl
      have q7 : heldR (k' + 1 + 1) V.m.ru = k' + 1 + 1 + 3 * v.m.ru.length := by rw [q3,heldR_marks]
      have q8 : held (k' + 1 + 1 + 3 * v.m.ru.length + 1) V.p.nu = k' + 1 + 1 + 3 * v.m.ru.length + 1 + v.p.nu.length := by rw [q5,held_marks]
      have l3 : (V.m.ru.length : Int) ≤ 4611686018427 := by rw [q3,marksR_len]; omega
      have l5 : (V.p.nu.length : Int) ≤ 4611686018427 := by rw [q5,marks_len]; omega
      have l6 : ∀ x ∈ v.p.wo,(x.length : Int) ≤ 4611686018427 := fun x hx => by have := g4 x hx; omega
      rw [← eV] at q1 q2 q4 q6 q7 q8 l3 l5
      repeat' first|(apply p3;(first|exact a_fa_immT 3 (T := 59) (f := 0) (off := 0) rfl (by kernel_rfl) rfl|exact pu1|exact a_ne rfl rfl|exact a_add rfl rfl (by omega) (by omega)|exact puI);exact rfl)|refine cdn ?_|refine g_reg (id := 4) ?_|refine g_reg (id := 6) ?_|refine g_reg (id := 7) ?_|refine g_reg (id := 9) ?_|((refine g_cond rfl (fun hc => ?_) (fun hc => ?_)) <;> (try simp only [dcB] at hc) <;> (try first|contradiction|(exfalso;omega)))
      repeat' first|(apply p3;(first|exact a_fa_immT 3 (T := 59) (f := 0) (off := 0) rfl (by kernel_rfl) rfl|exact pu1|exact puI);exact rfl)|refine cdn ?_|refine g_reg (id := 10) ?_|(apply c4 0;exact callK1 (θ := []) (hD := (heldRuleS_ok ((mksV k T)[i.toNat]'hi2).m.ru (k' + 1 + 1) (by omega) (by omega) l3));exact rfl;exact rfl;exact rfl;refine dM ?_)
      simp only [q7]
      repeat' first|(apply p3;(first|exact a_fa_immT 3 (T := 59) (f := 1) (off := 3) rfl (by kernel_rfl) rfl|exact pu1|exact puC|exact a_ne rfl rfl|exact a_add rfl rfl (by omega) (by omega)|exact puI);exact rfl)|refine cdn ?_|refine g_reg (id := 11) ?_|refine g_reg (id := 13) ?_|refine g_reg (id := 15) ?_|refine g_reg (id := 16) ?_|(apply c4 0;exact callK1 (θ := []) (hD := (heldInt64S_ok ((mksV k T)[i.toNat]'hi2).p.nu (k' + 1 + 1 + 3 * v.m.ru.length + 1) (by omega) (by omega) l5));exact rfl;exact rfl;exact rfl;refine dM ?_)|((refine g_cond rfl (fun hc => ?_) (fun hc => ?_)) <;> (try simp only [dcB] at hc) <;> (try first|contradiction|(exfalso;omega)))
      simp only [q8]
      repeat' first|(apply p3;(first|exact a_fa_immT 3 (T := 59) (f := 1) (off := 3) rfl (by kernel_rfl) rfl|exact pu1|exact puC|exact puI);exact rfl)|refine cd ?_|((refine g_cond rfl (fun hc => ?_) (fun hc => ?_)) <;> (try simp only [dcB] at hc) <;> (try first|contradiction|(exfalso;omega)))
      simp only [q6]
      repeat' first|(apply p3;(first|exact pu1|exact puC|exact a_add rfl rfl (by omega) (by omega));exact rfl)|refine cd ?_|(apply c4 0;exact callK1 (θ := []) (hD := (heldMarksW_ok v.p.wo (k' + 1 + 1 + 3 * v.m.ru.length + 1 + v.p.nu.length) (by omega) (by omega) (by omega) l6));exact rfl;exact rfl;exact rfl;refine dM ?_)|((refine g_cond rfl (fun hc => ?_) (fun hc => ?_)) <;> (try simp only [dcB] at hc) <;> (try first|contradiction|(exfalso;omega)))
      refine q_again (i + 1,k' + szv v) [] (by exact stk) ?_ ?_
      · exact ⟨by dsimp only; omega,by dsimp only; omega,by dsimp only; omega⟩
      · dsimp only; omega
    · have hi : i.toNat = T.length := by omega
      rw [hi,List.take_length] at k3
      have e1 : totV T = totL szv T := by unfold totV; rfl
      rw [e1,← k3]
      skip
      repeat refine cr ?_
      refine ends_id ?_
      refine endK [] (h2 := ?_) (h3 := ?_) (nd := ?_)
      all_goals (repeat' first|exact ce0|refine ce ?_|refine ce2 ?_ ?_|exact SVLe.refl|refine ceb ?_)
      all_goals first | exact (show nodupB _ = true from rfl) | exact Or.inr rfl | (rfl)
end Go.Proofs.YtighjcjmacajoaaGreatDoor
end
