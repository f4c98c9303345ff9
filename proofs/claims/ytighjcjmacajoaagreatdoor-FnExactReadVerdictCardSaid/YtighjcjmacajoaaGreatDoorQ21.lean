/- Parts of the proof (21 of 22). -/
import Derived.Carry
import Derived.ChangeOld
import Derived.Deep.Fields
import Derived.Deep.Slices
import Derived.OpenShut
import Derived.ProofKit
import Derived.ShutString
import Derived.Test.YtighjcjmacajoaaGreatDoorQ20
section
set_option linter.unusedVariables false
set_option linter.unusedSimpArgs false
set_option maxRecDepth 100000
namespace Go.Proofs.YtighjcjmacajoaaGreatDoor
open Go Foot Go.ChangeShapes Go.WideShapes Go.ChangeAt Go.RowKit Go.Deep
def allW (w : World) : Foot := fun b _ => b < w.heap.size
def Opens {α : Type} (P : Program) (t : TypeId) (z : Nat) (E : α → List D) (Q : α → Prop) : Prop :=
  (∀ a,(E a).length = z) ∧
  ∀ {H : Type} (enc : TypeId × Value → H) (w : World) (base : Nat) (held : Bool) (fuel : Nat) (cs : List Value) (x : DataW H × List MemPlace),
    DataW.trod enc P w base (fun _ => true) held fuel t cs = some x → ∃ a,Reps w (allW w) (E a) cs no ∧ Q a
theorem reps_one {w : World} {S : Foot} {c : D} {v : Value} (h : Rep w S c v no) : Reps w S [c] [v] no :=
  ⟨v,[],no,no,rfl,le_refl _,le_refl _,no_dis _,h,rfl⟩
section
variable {H : Type} {enc : TypeId × Value → H} {P : Program} {w : World} {base : Nat} {held : Bool} {t : TypeId} {v : Value} {d : DataW H} {p : List MemPlace} {ρ : Env}
theorem arg_one {α : Type} {E : α → D} {Q : α → Prop} (hv : v.cells = #[v]) (h : DataW.Trod enc P w base (fun _ => true) held t v d p) (ho : Opens P t 1 (fun a => [E a]) Q) :
    ∃ a,RepS w (allW w) ρ (.one (.d (E a))) v ∧ Q a := by
  obtain ⟨fuel,hf⟩ := h
  obtain ⟨a,ha,hq⟩ := ho.2 enc w base held fuel _ _ hf
  rw [hv] at ha
  simp only [Reps] at ha
  obtain ⟨v',us,F1,F2,e,_,_,_,h1,rfl⟩ := ha
  cases e
  exact ⟨a,h1.mono (by assumption),hq⟩
end
theorem does_calls {P : Program} {f : Nat} {args : List SV} {vs : Array Value} {w : World} (hd : Does P f args [] (.one (boo true)) []) (ht : Tabs w (allW w)) (ha : RepA w (allW w) (fun _ => none) args vs.toList) :
    Calls P f vs w fun e w' => e = .returned (.bool true) ∧ Below w.heap.size w w' := by
  have := hd vs.toList w (allW w) (fun _ => none) (fun _ => no) ha ⟨fun i gb h => by simp at h,fun _ _ => rfl,fun i j h => by simp at h,fun i h => by simp at h,fun i h => by simp at h,fun b o h => h,ht⟩
  rw [show vs.toList.toArray = vs from rfl] at this
  refine this.mono fun e w' hx => ?_
  obtain ⟨v,S1,ρ',F',he,hr,hv⟩ := hx
  obtain ⟨rfl,_⟩ := hv
  refine ⟨he,hr.keeps.os,hr.keeps.tape,hr.keeps.output,hr.keeps.size,fun k hk => hr.keeps.block k hk fun o ⟨i,hi,_⟩ => by simp at hi⟩
end Go.Proofs.YtighjcjmacajoaaGreatDoor
end
section
set_option linter.unusedVariables false
set_option linter.unusedSimpArgs false
set_option maxRecDepth 100000
namespace Go.Proofs.YtighjcjmacajoaaGreatDoor
open Go Foot Go.ChangeShapes Go.WideShapes Go.ChangeAt Go.RowKit Go.Deep
theorem own : ownKnob Tryz.prog.godebug = none := by kernel_rfl
theorem laidOut : laidOutB Tryz.prog = true := by kernel_rfl
end Go.Proofs.YtighjcjmacajoaaGreatDoor
end
section
set_option linter.unusedVariables false
set_option linter.unusedSimpArgs false
set_option maxRecDepth 100000
namespace Go.Proofs.YtighjcjmacajoaaGreatDoor
open Go Foot Go.ChangeShapes Go.WideShapes Go.ChangeAt Go.RowKit Go.Deep
end Go.Proofs.YtighjcjmacajoaaGreatDoor
end
section
set_option linter.unusedVariables false
set_option linter.unusedSimpArgs false
set_option maxRecDepth 100000
namespace Go.Proofs.YtighjcjmacajoaaGreatDoor
open Go Foot Go.ChangeShapes Go.WideShapes Go.ChangeAt Go.RowKit Go.Deep
end Go.Proofs.YtighjcjmacajoaaGreatDoor
end
section
set_option linter.unusedVariables false
set_option linter.unusedSimpArgs false
set_option maxRecDepth 100000
namespace Go.Proofs.YtighjcjmacajoaaGreatDoor
open Go Foot Go.ChangeShapes Go.WideShapes Go.ChangeAt Go.RowKit Go.Deep
end Go.Proofs.YtighjcjmacajoaaGreatDoor
end
section
set_option linter.unusedVariables false
set_option linter.unusedSimpArgs false
set_option maxRecDepth 100000
set_option maxHeartbeats 4000000
namespace Go.Proofs.YtighjcjmacajoaaGreatDoor
open Go Foot
structure LenOk (v : Verd) : Prop where
  a : (v.m.ru.length : Int) ≤ 9223372036854775807
  b : (v.p.nu.length : Int) ≤ 9223372036854775807
  c : (v.p.wo.length : Int) ≤ 9223372036854775807
  d : ∀ x ∈ v.p.wo,(x.length : Int) ≤ 9223372036854775807
theorem preD5 {p : Prop} (h : p := by first | with_reducible assumption | omega | (simp only [List.length_append,List.length_cons,List.length_nil,List.length_set,List.length_replicate,List.length_take,List.length_drop,List.length_tail,List.length_dropLast,List.length_reverse] at *; omega) | exact mem_len (by assumption) (by omega) | (with_reducible refine Int.le_trans (Int.ofNat_le.2 (trimR_len _)) ?_; simp only [List.length_cons,List.length_tail]; omega) | (exact (ruAt_ok (by assumption) (by assumption) (by assumption)).2.1) | (exact (ruAt_ok (by assumption) (by assumption) (by assumption)).2.1) | (have := vMach_bd (by assumption); omega) | (simp only [mC_ch,mC_tu]; omega) | (have := vTag_bd (by assumption); omega) | (have := (‹Gd _ _›).le; omega) | (exact tgHalts_no (by assumption)) | (exact tgHead (by assumption) (by assumption) (by assumption)) | (exact Int.le_trans (tgStep_gd (by assumption) (by assumption) (by assumption) (by assumption)).le (by decide)) | (exact vTag_r (by assumption)) | (with_reducible refine Int.le_trans (Int.ofNat_le.2 (pushL_len _ _)) ?_; simp only [List.length_dropLast]; omega) | exact ls_at (by assumption) (by omega) | exact pt_gd (by assumption) | exact lv_at (by assumption) (by omega) | exact pt_gd (lv_at (by assumption) (by omega)) | exact (ask_ok (by assumption)).1 | exact (ask_ok (by assumption)).2.1 | exact (ask_ok (by assumption)).2.2.1 | exact (ask_ok (by assumption)).2.2.2 | (simp only [marks_len]; omega) | (simp only [marksR_len]; omega) | trivial) : p := h
structure BigOk (v : Verd) : Prop where
  a : (v.m.ru.length : Int) ≤ 1048576
  b : (v.p.nu.length : Int) ≤ 1048576
  c : (v.p.wo.length : Int) ≤ 1048576
  d : ∀ x ∈ v.p.wo,(x.length : Int) ≤ 1048576
@[irreducible] def eqV (a b : Verd) : Bool := eqM a.m b.m && eqP a.p b.p
theorem eqVerdict_ok (a b : Verd) (g : BigOk a) (k : BigOk b) : Does Tryz.prog 32 [.agg (veC a),.agg (veC b)] [] (.one (boo (eqV a b))) [] := by
  obtain ⟨g1,g2,g3,g4⟩ := g
  obtain ⟨k1,k2,k3,k4⟩ := k
  refine does_of (k := 0) Tryz.func32 rfl Tryz.ntmps32 rfl rfl fun w F0 S0 ρ0 => ?_
  dsimp only [argT,argH]
  repeat' first|(apply n3;exact a_new (gb := .bx _) rfl;exact rfl;refine dA ?_)|(apply p3;(exact puL);exact rfl)|refine cd ?_|(apply c4 0;exact callK1 (θ := []) (hD := (eqMachine_ok _ _ preD5 preD5));exact rfl;exact rfl;exact rfl;refine dM ?_)|(apply c4 0;exact callK1 (θ := []) (hD := (eqProof_ok _ _ preD5 preD5 preD5 preD5 preD5 preD5));exact rfl;exact rfl;exact rfl;refine dM ?_)|((refine g_cond rfl (fun hc => ?_) (fun hc => ?_)) <;> (try simp only [dcB] at hc) <;> (try first|contradiction|(exfalso;omega)))
  all_goals
    repeat refine cr ?_
    refine ends_id ?_
    refine endK [] (h2 := ?_) (h3 := ?_) (nd := ?_)
    all_goals (repeat' first|exact ce0|refine ce ?_|refine ce2 ?_ ?_|exact SVLe.refl|refine ceb ?_)
    all_goals first | exact (show nodupB _ = true from rfl) | exact Or.inr rfl | ((unfold eqV; simp [*]))
end Go.Proofs.YtighjcjmacajoaaGreatDoor
end
section
set_option linter.unusedVariables false
set_option linter.unusedSimpArgs false
set_option maxRecDepth 100000
set_option maxHeartbeats 4000000
namespace Go.Proofs.YtighjcjmacajoaaGreatDoor
open Go Foot
structure LnsOk (l : List Verd) : Prop where
  n : (l.length : Int) ≤ 9223372036854775807
  a : ∀ v ∈ l,LenOk v
theorem lns_at {l : List Verd} (g : LnsOk l) {i : Nat} (h : i < l.length) : LenOk l[i] := g.a _ (List.getElem_mem h)
structure BgsOk (l : List Verd) : Prop where
  n : (l.length : Int) ≤ 1048576
  a : ∀ v ∈ l,BigOk v
theorem bgs_at {l : List Verd} (g : BgsOk l) {i : Nat} (h : i < l.length) : BigOk l[i] := g.a _ (List.getElem_mem h)
theorem eqV_iff {a b : Verd} : eqV a b = true ↔ a = b := by
  obtain ⟨⟨a1,a2,a3⟩,⟨a4,a5,a6⟩⟩ := a
  obtain ⟨⟨b1,b2,b3⟩,⟨b4,b5,b6⟩⟩ := b
  unfold eqV eqM eqP
  simp only [Bool.and_eq_true,decide_eq_true_eq,Verd.mk.injEq,Mach.mk.injEq,Prf.mk.injEq]
end Go.Proofs.YtighjcjmacajoaaGreatDoor
end
section
set_option linter.unusedVariables false
set_option linter.unusedSimpArgs false
set_option maxRecDepth 100000
set_option maxHeartbeats 4000000
namespace Go.Proofs.YtighjcjmacajoaaGreatDoor
open Go Foot
@[irreducible] def marksR (k : Int) (n : Nat) : List Rule' := (List.range n).map fun (i : Nat) => ⟨k + 3 * (i : Int),k + 3 * (i : Int) + 1,k + 3 * (i : Int) + 2⟩
theorem marksR_len (k : Int) (n : Nat) : (marksR k n).length = n := by unfold marksR; simp
theorem marksR_get (k : Int) (n i : Nat) (h : i < n) : (marksR k n)[i]? = some ⟨k + 3 * i,k + 3 * i + 1,k + 3 * i + 2⟩ := by unfold marksR; simp [h]
theorem markR_end {k : Int} {xs l : List Rule'} (h1 : l.length = xs.length) (h2 : ∀ j (h : j < xs.length),l[j]? = some ⟨k + 3 * j,k + 3 * j + 1,k + 3 * j + 2⟩) : l = marksR k xs.length := by
  apply List.ext_getElem?
  intro j
  by_cases hj : j < xs.length
  · rw [marksR_get k _ j hj,h2 j hj]
  · rw [List.getElem?_eq_none (by omega),List.getElem?_eq_none (by rw [marksR_len]; omega)]
theorem preD2 {p : Prop} (h : p := by first | with_reducible assumption | omega | (simp only [List.length_append,List.length_cons,List.length_nil,List.length_set,List.length_replicate,List.length_take,List.length_drop,List.length_tail,List.length_dropLast,List.length_reverse] at *; omega) | exact mem_len (by assumption) (by omega) | (with_reducible refine Int.le_trans (Int.ofNat_le.2 (trimR_len _)) ?_; simp only [List.length_cons,List.length_tail]; omega) | (exact (ruAt_ok (by assumption) (by assumption) (by assumption)).2.1) | (exact (ruAt_ok (by assumption) (by assumption) (by assumption)).2.1) | (have := vMach_bd (by assumption); omega) | (simp only [mC_ch,mC_tu]; omega) | (have := vTag_bd (by assumption); omega) | (have := (‹Gd _ _›).le; omega) | (exact tgHalts_no (by assumption)) | (exact tgHead (by assumption) (by assumption) (by assumption)) | (exact Int.le_trans (tgStep_gd (by assumption) (by assumption) (by assumption) (by assumption)).le (by decide)) | (exact vTag_r (by assumption)) | (with_reducible refine Int.le_trans (Int.ofNat_le.2 (pushL_len _ _)) ?_; simp only [List.length_dropLast]; omega) | exact ls_at (by assumption) (by omega) | exact pt_gd (by assumption) | exact lv_at (by assumption) (by omega) | exact pt_gd (lv_at (by assumption) (by omega)) | exact (ask_ok (by assumption)).1 | exact (ask_ok (by assumption)).2.1 | exact (ask_ok (by assumption)).2.2.1 | exact (ask_ok (by assumption)).2.2.2 | (simp only [marks_len]; omega) | (simp only [marksR_len]; omega) | trivial) : p := h
theorem markRuleS_ok (m : Mach) (k : Int) (h1 : 0 ≤ k) (h2 : k ≤ 4611686018427387904) (hx : (m.ru.length : Int) ≤ 4611686018427) : Does Tryz.prog 80 [.one (.gv 0),.one (int k)] [.row 3 (rows eR m.ru)] (.one (int (k + 3 * m.ru.length))) [.row 3 (rows eR (marksR k m.ru.length))] := by
  refine does_of (k := 1) Tryz.func80 rfl Tryz.ntmps80 rfl rfl fun w F0 S0 ρ0 => ?_
  dsimp only [argT,argH]
  repeat' first|(apply p3;(exact pu1);exact rfl)|refine cd ?_
  refine g_loop_id ?_
  refine loopK [0,4] [0] (fun y : Int × List Rule' => 0 ≤ y.1 ∧ y.1 ≤ m.ru.length ∧ y.2.length = m.ru.length ∧ ∀ (j : Nat),(j : Int) < y.1 → y.2[j]? = some ⟨k + 3 * j,k + 3 * j + 1,k + 3 * j + 2⟩) (fun y => [(5,.one (int y.1)),(1,.one (int (k + 3 * y.1)))]) (fun y => [(0,.row 3 (rows eR y.2))]) (fun y => (m.ru.length - y.1).toNat) ((0 : Int),m.ru) [0] (hI := ?_) (hr := ?_)
  · exact ⟨by simp,by simp,rfl,fun j h' => by simp at h'; omega⟩
  · rintro ⟨i,l⟩ ⟨k1,k2,k3,k4⟩
    dsimp only [List.cons_append,List.nil_append] at *
    skip
    repeat' first|(apply p3;(first|exact pu1|exact puN|exact puC|exact a_add rfl rfl (by omega) (by omega)|exact puI);exact rfl)|refine cd ?_|(apply w3;(exact a_stF (E := eR) ⟨_,_,_⟩ rfl rfl rfl rfl (fN rfl rfl) (Nat.le_of_ble_eq_true rfl) (Nat.le_of_ble_eq_true rfl) (by first|exact List.getElem?_set_self bnd|exact List.getElem?_eq_getElem bnd) (by (try dsimp only [setRow,List.set_cons_succ,List.set_cons_zero]);first|done|exact rfl) rfl);exact rfl;refine dS ?_)|((refine g_cond rfl (fun hc => ?_) (fun hc => ?_)) <;> (try simp only [dcB] at hc) <;> (try first|contradiction|(exfalso;omega)))
    · refine q_again (i + 1,_) [0] (by exact stk) ?_ ?_
      · refine ⟨by dsimp only; omega,by dsimp only; omega,by simp [k3],fun j h => ?_⟩
        dsimp only at h ⊢
        simp only [List.set_set]
        rw [List.getElem?_set]
        split
        · rename_i e
          subst e
          rw [if_pos (by omega),show ((i.toNat : Nat) : Int) = i by omega,show k + 3 * i + 1 + 1 = k + 3 * i + 2 by omega]
        · exact k4 j (by omega)
      · dsimp only; omega
    · have hi : i = m.ru.length := by omega
      subst hi
      have hl := markR_end (k := k) k3 fun j hj => k4 j (by omega)
      rw [← hl]
      repeat refine cr ?_
      refine ends_id ?_
      refine endK [] (h2 := ?_) (h3 := ?_) (nd := ?_)
      all_goals (repeat' first|exact ce0|refine ce ?_|refine ce2 ?_ ?_|(refine Or.inr (bx_eq rfl rfl ?_);(try dsimp only [C.ren,C.ren.all]);(try exact rfl))|exact SVLe.refl|refine ceb ?_)
      all_goals first | exact (show nodupB _ = true from rfl) | exact Or.inr rfl | (rfl)
theorem markMachR_ok (m : Mach) (k : Int) (h1 : 0 ≤ k) (h2 : k ≤ 4611686018427387904) (hx : (m.ru.length : Int) ≤ 4611686018427) : Does Tryz.prog 93 [.agg (maO m 0),.one (int k)] [.row 3 (rows eR m.ru)] (.one (int (k + 3 * m.ru.length))) [.row 3 (rows eR (marksR k m.ru.length))] := by
  refine does_of (k := 1) Tryz.func93 rfl Tryz.ntmps93 rfl rfl fun w F0 S0 ρ0 => ?_
  dsimp only [argT,argH]
  repeat' first|(apply n3;exact a_new (gb := .bx _) rfl;exact rfl;refine dA ?_)|(apply p3;(exact pu1);exact rfl)|refine cd ?_|(apply c4 0;exact callK1 (θ := [_]) (hD := (markRuleS_ok _ _ preD2 preD2 preD2));exact rfl;exact rfl;exact rfl;refine dM ?_)
  repeat refine cr ?_
  refine ends_id ?_
  refine endK [] (h2 := ?_) (h3 := ?_) (nd := ?_)
  all_goals (repeat' first|exact ce0|refine ce ?_|refine ce2 ?_ ?_|(refine Or.inr (bx_eq rfl rfl ?_);(try dsimp only [C.ren,C.ren.all]);(try exact rfl))|exact SVLe.refl|refine ceb ?_)
  all_goals first | exact (show nodupB _ = true from rfl) | exact Or.inr rfl | (rfl)
end Go.Proofs.YtighjcjmacajoaaGreatDoor
end
section
set_option linter.unusedVariables false
set_option linter.unusedSimpArgs false
set_option maxRecDepth 100000
set_option maxHeartbeats 4000000
namespace Go.Proofs.YtighjcjmacajoaaGreatDoor
open Go Foot
theorem totW_bd {xs : List (List Int)} (b : Int) (h : ∀ x ∈ xs,(x.length : Int) ≤ b) : 0 ≤ totW xs ∧ totW xs ≤ xs.length * b := by
  unfold totW
  exact totL_bd szw b fun x hx => ⟨by unfold szw; omega,h x hx⟩
end Go.Proofs.YtighjcjmacajoaaGreatDoor
end
section
set_option linter.unusedVariables false
set_option linter.unusedSimpArgs false
set_option maxRecDepth 100000
set_option maxHeartbeats 4000000
namespace Go.Proofs.YtighjcjmacajoaaGreatDoor
open Go Foot Go.RowKit
abbrev opn : Bs := [111,112,101,110]
@[irreducible] def mbI (a : Bs) : Bool := vMach (mrI a) && decide (macT (mrI a) = a)
@[irreducible] def mcI (a : Bs) : Mach := ⟨if mbI a = true then (mrI a).sy else 0,if mbI a = true then (mrI a).st else 0,if mbI a = true then (mrI a).ru else []⟩
@[irreducible] def pcI (b : Bs) : Prf := if b = opn then ⟨0,[],[]⟩ else pI b
@[irreducible] def vcI (a b : Bs) : Verd := ⟨mcI a,pcI b⟩
theorem mcI_le (a : Bs) : ((mcI a).ru.length : Int) ≤ 16777216 := by
  unfold mcI
  dsimp only
  split
  · next h =>
    unfold mbI at h
    rw [Bool.and_eq_true] at h
    have := vMach_len h.1
    omega
  · simp
theorem pI_gd (b : Bs) : ((pI b).nu.length : Int) ≤ 16777216 ∧ ((pI b).wo.length : Int) ≤ 16777216 ∧ ∀ x ∈ (pI b).wo,(x.length : Int) ≤ 16777216 := by
  cases h : bI b with
  | false => rw [pI_f h]; exact ⟨by simp,by simp,by simp⟩
  | true =>
    have g := validP_gd ((proof_same b).2.2 h).1
    have g1 := g.nl
    have g2 := g.wl
    exact ⟨by omega,by omega,fun x hx => by have := (g.wb x hx).1; omega⟩
theorem pcI_gd (b : Bs) : ((pcI b).nu.length : Int) ≤ 16777216 ∧ ((pcI b).wo.length : Int) ≤ 16777216 ∧ ∀ x ∈ (pcI b).wo,(x.length : Int) ≤ 16777216 := by
  unfold pcI
  split
  · exact ⟨by simp,by simp,by simp⟩
  · exact pI_gd b
theorem vcI_gd (a b : Bs) : VeGd (vcI a b) := by
  have h1 := mcI_le a
  obtain ⟨h2,h3,h4⟩ := pcI_gd b
  have e : vcI a b = ⟨mcI a,pcI b⟩ := by unfold vcI; rfl
  rw [e]
  exact ⟨h1,h2,h3,h4⟩
@[irreducible] def bvI (s : Bs) : Bool := decide (((spl 32 s).length : Int) = 3) && decide (verT (vcI ((spl 32 s).getD 0 []) ((spl 32 s).getD 1 [])) = s)
@[irreducible] def vI (s : Bs) : Verd := if bvI s = true then vcI ((spl 32 s).getD 0 []) ((spl 32 s).getD 1 []) else ⟨⟨0,0,[]⟩,⟨0,[],[]⟩⟩
theorem vI_f {s : Bs} (h : bvI s = false) : vI s = ⟨⟨0,0,[]⟩,⟨0,[],[]⟩⟩ := by unfold vI; rw [h]; simp
theorem ReadVerdictI_ok (s : Bs) (hs : (s.length : Int) ≤ 1048576) : Does Tryz.prog 31 [.one (str s)] [] (.tup [(true,[int (vI s).m.sy,int (vI s).m.st,.gv 0,int (vI s).p.k,.gv 1,.gv 2]),(false,[boo (bvI s)])]) [.row 3 (rows eR (vI s).m.ru),roI (vI s).p.nu,roWn (vI s).p.wo] := by
  obtain ⟨ps,eps⟩ : ∃ ps,ps = spl 32 s := ⟨_,rfl⟩
  have hpe := spl_el 32 s
  have hpl := spl_len 32 s
  rw [← eps] at hpe hpl
  have ebI : bvI s = (decide ((ps.length : Int) = 3) && decide (verT (vcI (ps.getD 0 []) (ps.getD 1 [])) = s)) := by unfold bvI; rw [← eps]
  by_cases h3 : (ps.length : Int) = 3
  · have l0 : (0 : Int).toNat * 1 < ps.length := by show 0 < ps.length; omega
    have l1 : (1 : Int).toNat * 1 < ps.length := by show 1 < ps.length; omega
    have hs0 : ¬ s = [] := by
      rintro rfl
      have : ps = [[]] := by rw [eps]; rfl
      rw [this] at h3
      simp at h3
    obtain ⟨p0,e0⟩ : ∃ p,ps[(0 : Int).toNat * 1]'l0 = p := ⟨_,rfl⟩
    obtain ⟨p1,e1⟩ : ∃ p,ps[(1 : Int).toNat * 1]'l1 = p := ⟨_,rfl⟩
    have f0 : ps.getD 0 [] = p0 := by rw [List.getD_eq_getElem?_getD,List.getElem?_eq_getElem (show 0 < ps.length by omega)]; exact e0
    have f1 : ps.getD 1 [] = p1 := by rw [List.getD_eq_getElem?_getD,List.getElem?_eq_getElem (show 1 < ps.length by omega)]; exact e1
    have g0 : p0.length ≤ s.length := by rw [← e0]; exact (hpe _ (List.getElem_mem l0)).1
    have g1 : p1.length ≤ s.length := by rw [← e1]; exact (hpe _ (List.getElem_mem l1)).1
    have emb : mbI p0 = (vMach (mrI p0) && decide (macT (mrI p0) = p0)) := by unfold mbI; rfl
    refine does_of (k := 0) Tryz.func31 rfl Tryz.ntmps31 rfl rfl fun w F0 S0 ρ0 => ?_
    dsimp only [argT,argH]
    repeat' first|(apply n3;exact a_new (gb := .bx _) rfl;exact rfl;refine dA ?_)|(apply p3;exact pu1;exact rfl)|refine cdn ?_|refine g_reg (id := 0) ?_|refine g_reg (id := 1) ?_|(apply c4 1;exact callK1 (θ := []) (hD := (Split_ok s 32 hs));exact rfl;exact rfl;exact rfl;refine dM ?_)
    rw [← eps]
    repeat' first|(apply n3;exact a_new (gb := .bx _) rfl;exact rfl;refine dA ?_)|(apply p3;(first|exact pu1|exact puN|exact a_ne rfl rfl);exact rfl)|refine cdn ?_|refine g_reg (id := 2) ?_|refine g_reg (id := 4) ?_|(apply w3;(exact a_st_bx rfl rfl rfl rfl (fN rfl rfl) (Nat.le_of_ble_eq_true rfl) rfl);exact rfl;refine dS ?_)|((refine g_cond rfl (fun hc => ?_) (fun hc => ?_)) <;> (try simp only [dcB] at hc) <;> (try first|contradiction|(exfalso;omega)))
    simp only [setRow,List.map_cons,List.map_nil,scC,List.set_cons_zero,List.set_cons_succ,Nat.zero_add,List.getElem?_cons_zero,List.getElem?_cons_succ,List.take_succ_cons,List.take_zero,List.drop_zero]
    refine g_conv (t_nilB (i := 2) (k := 2) (z := 3) rfl rfl rfl (by decide)) ?_
    try dsimp only [setRow,List.map_cons,List.map_nil,scC,List.set_cons_zero,List.set_cons_succ,Nat.reduceAdd]
    refine g_conv (t_nilB (i := 2) (k := 4) (z := 1) rfl rfl rfl (by decide)) ?_
    try dsimp only [setRow,List.map_cons,List.map_nil,scC,List.set_cons_zero,List.set_cons_succ,Nat.reduceAdd]
    refine g_conv (t_nilB (i := 2) (k := 5) (z := 1) rfl rfl rfl (by decide)) ?_
    try dsimp only [setRow,List.map_cons,List.map_nil,scC,List.set_cons_zero,List.set_cons_succ,Nat.reduceAdd]
    repeat' first|(apply p3;(first|exact pu1|exact a_ld_rowS rfl rfl rfl (fC rfl) bnd|exact a_neT rfl rfl|exact puI);exact rfl)|refine cd ?_|(apply w3;(exact a_st_bx rfl rfl rfl rfl (fN rfl rfl) (Nat.le_of_ble_eq_true rfl) rfl);exact rfl;refine dS ?_)|(apply c4 1;exact callK1 (θ := []) (hD := (ReadMachineI_ok (ps[(0 : Int).toNat * 1]'l0) (by rw [e0];omega) (mbI p0) (by rw [e0];exact emb)));exact rfl;exact rfl;exact rfl;refine dM ?_)
    have q1 : (if mbI p0 = true then (mrI p0).sy else 0) = (mcI p0).sy := by unfold mcI; rfl
    have q2 : (if mbI p0 = true then (mrI p0).st else 0) = (mcI p0).st := by unfold mcI; rfl
    have q3 : (if mbI p0 = true then (mrI p0).ru else []) = (mcI p0).ru := by unfold mcI; rfl
    simp only [e0,e1,q1,q2,q3]
    refine cutK [0,2,3,5] [2,4,5] (fun y : Prf => y = pcI p1) (fun _ => []) (fun y => [(2,.bx [int (mcI p0).sy,int (mcI p0).st,.gv 6,int y.k,.gv 4,.gv 5]),(4,roI y.nu),(5,roWn y.wo)]) (hc := ?_) (hk := ?_)
    · repeat' first|(apply p3;(first|exact pu1|exact a_ld_rowS rfl rfl rfl (fC rfl) bnd|exact puI);exact rfl)|refine cd ?_|(apply w3;exact a_st_bx rfl rfl rfl rfl (fN rfl rfl) (Nat.le_of_ble_eq_true rfl) rfl;exact rfl;refine dS ?_)|(apply c4 2;exact callK1 (θ := []) (hD := (ReadProofI_ok (ps[(1 : Int).toNat * 1]'l1) (by rw [e1];omega)));exact rfl;exact rfl;exact rfl;refine dM ?_)|((refine g_cond rfl (fun hc => ?_) (fun hc => ?_)) <;> (try simp only [dcB] at hc) <;> (try first|contradiction|(exfalso;omega)))
      · rw [e1]
        refine q_here (pI p1) [0,1,2,3,7,8,6] (by exact stk) ?_
        unfold pcI; rw [if_neg (by assumption)]
      · refine q_here ⟨0,[],[]⟩ [0,1,2,3,4,5,6] (by exact stk) ?_
        unfold pcI; rw [if_pos (by assumption)]
    rintro _ rfl
    dsimp only [List.cons_append,List.nil_append] at *
    skip
    repeat' first|refine cdn ?_
    have evc : vcI (ps.getD 0 []) (ps.getD 1 []) = vcI p0 p1 := by rw [f0,f1]
    have ev : vcI p0 p1 = ⟨mcI p0,pcI p1⟩ := by unfold vcI; rfl
    have gv := vcI_gd p0 p1
    rw [evc,ev] at ebI
    rw [ev] at gv
    have hvi : vI s = if bvI s = true then ⟨mcI p0,pcI p1⟩ else ⟨⟨0,0,[]⟩,⟨0,[],[]⟩⟩ := by unfold vI; rw [← eps,evc,ev]
    obtain ⟨b,hb⟩ : ∃ b,bvI s = b := ⟨_,rfl⟩
    rw [hvi,hb]
    rw [ebI,decide_eq_true h3,Bool.true_and] at hb
    by_cases ht : verT ⟨mcI p0,pcI p1⟩ = s
    · rw [decide_eq_true ht] at hb
      subst hb
      simp only [if_true]
      repeat' first|(apply p3;(first|exact pu1|exact a_eqT rfl rfl);exact rfl)|refine cd ?_|(apply w3;(exact a_st_bx rfl rfl rfl rfl (fN rfl rfl) (Nat.le_of_ble_eq_true rfl) rfl);exact rfl;refine dS ?_)|(apply py3;exact rfl;exact rfl;(first|exact pu1|exact a_neT rfl rfl);exact rfl;exact rfl)|(apply cy4 0;exact rfl;exact rfl;exact callK1 (θ := []) (hD := (VerdictText_ok ⟨mcI p0,pcI p1⟩ gv));exact rfl;exact rfl;exact rfl;exact rfl;refine dM ?_)|((first|refine o_gs rfl rfl (fun hc => ?_) (fun hc => ?_)|refine g_cond rfl (fun hc => ?_) (fun hc => ?_)) <;> (try simp only [dcB] at hc) <;> (try first|contradiction|(exfalso;omega)))
      repeat refine cr ?_
      refine ends_id ?_
      refine endK [?_,?_,?_] (h2 := ?_) (h3 := ?_) (nd := ?_)
      rotate_left 3
      all_goals (repeat' first|exact ce0|refine ce ?_|refine ce2 ?_ ?_|(refine Or.inr (bx_eq rfl rfl ?_);(try dsimp only [C.ren,C.ren.all]);(try exact rfl))|exact SVLe.refl|refine ceb ?_)
      all_goals first | exact (show nodupB _ = true from rfl) | exact Or.inr rfl | (rfl)
    · rw [decide_eq_false ht] at hb
      subst hb
      simp only [Bool.false_eq_true,if_false]
      repeat' first|(apply p3;(first|exact pu1|exact a_eqT rfl rfl);exact rfl)|refine cd ?_|(apply w3;(exact a_st_bx rfl rfl rfl rfl (fN rfl rfl) (Nat.le_of_ble_eq_true rfl) rfl);exact rfl;refine dS ?_)|(apply py3;exact rfl;exact rfl;(first|exact pu1|exact a_neT rfl rfl);exact rfl;exact rfl)|(apply cy4 0;exact rfl;exact rfl;exact callK1 (θ := []) (hD := (VerdictText_ok ⟨mcI p0,pcI p1⟩ gv));exact rfl;exact rfl;exact rfl;exact rfl;refine dM ?_)|((first|refine o_gs rfl rfl (fun hc => ?_) (fun hc => ?_)|refine g_cond rfl (fun hc => ?_) (fun hc => ?_)) <;> (try simp only [dcB] at hc) <;> (try first|contradiction|(exfalso;omega)))
      refine g_conv (t_nilB (i := 0) (k := 2) (z := 3) rfl rfl rfl (by decide)) ?_
      try dsimp only [setRow,List.map_cons,List.map_nil,scC,List.set_cons_zero,List.set_cons_succ,Nat.reduceAdd]
      refine g_conv (t_nilB (i := 0) (k := 4) (z := 1) rfl rfl rfl (by decide)) ?_
      try dsimp only [setRow,List.map_cons,List.map_nil,scC,List.set_cons_zero,List.set_cons_succ,Nat.reduceAdd]
      refine g_conv (t_nilB (i := 0) (k := 5) (z := 1) rfl rfl rfl (by decide)) ?_
      try dsimp only [setRow,List.map_cons,List.map_nil,scC,List.set_cons_zero,List.set_cons_succ,Nat.reduceAdd]
      repeat refine cr ?_
      refine ends_id ?_
      refine endK [?_,?_,?_] (h2 := ?_) (h3 := ?_) (nd := ?_)
      rotate_left 3
      all_goals (repeat' first|exact ce0|refine ce ?_|refine ce2 ?_ ?_|(refine Or.inr (bx_eq rfl rfl ?_);(try dsimp only [C.ren,C.ren.all]);(try exact rfl))|exact SVLe.refl|refine ceb ?_)
      all_goals first | exact (show nodupB _ = true from rfl) | exact Or.inr rfl | (rfl)
  · have eb : bvI s = false := by rw [ebI,decide_eq_false h3,Bool.false_and]
    rw [eb,vI_f eb]
    refine does_of (k := 0) Tryz.func31 rfl Tryz.ntmps31 rfl rfl fun w F0 S0 ρ0 => ?_
    dsimp only [argT,argH]
    repeat' first|(apply n3;exact a_new (gb := .bx _) rfl;exact rfl;refine dA ?_)|(apply p3;exact pu1;exact rfl)|refine cdn ?_|refine g_reg (id := 0) ?_|refine g_reg (id := 1) ?_|(apply c4 1;exact callK1 (θ := []) (hD := (Split_ok s 32 hs));exact rfl;exact rfl;exact rfl;refine dM ?_)
    rw [← eps]
    repeat' first|(apply p3;(first|exact pu1|exact puN|exact a_ne rfl rfl);exact rfl)|refine cd ?_|(apply w3;(exact a_st_bx rfl rfl rfl rfl (fN rfl rfl) (Nat.le_of_ble_eq_true rfl) rfl);exact rfl;refine dS ?_)|((refine g_cond rfl (fun hc => ?_) (fun hc => ?_)) <;> (try simp only [dcB] at hc) <;> (try first|contradiction|(exfalso;omega)))
    refine g_conv (t_nilB (i := 0) (k := 2) (z := 3) rfl rfl rfl (by decide)) ?_
    try dsimp only [setRow,List.map_cons,List.map_nil,scC,List.set_cons_zero,List.set_cons_succ,Nat.reduceAdd]
    refine g_conv (t_nilB (i := 0) (k := 4) (z := 1) rfl rfl rfl (by decide)) ?_
    try dsimp only [setRow,List.map_cons,List.map_nil,scC,List.set_cons_zero,List.set_cons_succ,Nat.reduceAdd]
    refine g_conv (t_nilB (i := 0) (k := 5) (z := 1) rfl rfl rfl (by decide)) ?_
    try dsimp only [setRow,List.map_cons,List.map_nil,scC,List.set_cons_zero,List.set_cons_succ,Nat.reduceAdd]
    repeat refine cr ?_
    refine ends_id ?_
    refine endK [?_,?_,?_] (h2 := ?_) (h3 := ?_) (nd := ?_)
    rotate_left 3
    all_goals (repeat' first|exact ce0|refine ce ?_|refine ce2 ?_ ?_|(refine Or.inr (bx_eq rfl rfl ?_);(try dsimp only [C.ren,C.ren.all]);(try exact rfl))|exact SVLe.refl|refine ceb ?_)
    all_goals first | exact (show nodupB _ = true from rfl) | exact Or.inr rfl | (rfl)
end Go.Proofs.YtighjcjmacajoaaGreatDoor
end
section
set_option linter.unusedVariables false
set_option linter.unusedSimpArgs false
set_option maxRecDepth 100000
set_option maxHeartbeats 4000000
namespace Go.Proofs.YtighjcjmacajoaaGreatDoor
open Go Foot Go.RowKit
theorem mac_no {m : Mach} (h : vMach m = true) : (32 : UInt8) ∉ macT m := by
  have hb := vMach_bd h
  rw [macT_eq (by omega)]
  intro q
  rcases join_memG q with q | ⟨p,hp,q⟩
  · revert q; decide
  · obtain ⟨c,_,rfl⟩ := List.mem_map.1 hp
    unfold chT at q
    rcases join_memG q with q | ⟨p,hp,q⟩
    · revert q; decide
    · obtain ⟨r,_,rfl⟩ := List.mem_map.1 hp
      exact rul_no dg32 (by decide) (by decide) (by decide) q
theorem prf_no {p : Prf} (h : OkP p) : (32 : UInt8) ∉ prfT p := by
  unfold prfT
  split
  · decide
  · next hz =>
    have hv : validP p = true := by rcases h.h with e | e; exact absurd e hz; exact e
    have g := validP_gd hv
    unfold proT
    simp only [List.mem_append,not_or]
    exact ⟨⟨⟨⟨(namT_no _).2,by decide⟩,numT_no dg32 (by decide) (by decide)⟩,by decide⟩,worT_no (fun w hw => (g.wb w hw).2) dg32 (by decide) (by decide)⟩
theorem lin_spl {v : Verd} (hm : vMach v.m = true) (hp : OkP v.p) : spl 32 (linT v) = [macT v.m,prfT v.p,decT (crC (linH v) 65535) ++ [10]] := by
  have e : linT v = macT v.m ++ 32 :: (prfT v.p ++ 32 :: (decT (crC (linH v) 65535) ++ [10])) := by
    have q : linH v = macT v.m ++ [32] ++ prfT v.p := by unfold linH; rfl
    have q2 : linT v = linH v ++ [32] ++ decT (crC (linH v) 65535) ++ [10] := by unfold linT; rfl
    rw [q2]
    generalize decT (crC (linH v) 65535) = d
    rw [q]
    simp
  rw [e,spl_app (mac_no hm),spl_app (prf_no hp),spl_no (by
    rw [List.mem_append,not_or]
    exact ⟨dec_no dg32 (by decide),by decide⟩)]
theorem okV_2 {v : Verd} (h : okV v = true) : vMach v.m = true ∧ OkP v.p := by
  unfold okV at h
  simp only [Bool.and_eq_true,Bool.or_eq_true] at h
  exact ⟨h.1.1,⟨h.1.2⟩⟩
theorem mkX_mb (a : Bs) : mbI a = mkX a := by rw [read_same]; unfold mbI; rfl
theorem mcX (a : Bs) : (if mbI a = true then (mrX a).sy else 0) = (mcI a).sy ∧ (if mbI a = true then (mrX a).st else 0) = (mcI a).st ∧ (if mbI a = true then (mrX a).ru else []) = (mcI a).ru := by
  unfold mcI
  dsimp only
  by_cases h : mbI a = true
  · have e := (read_canon ((mkX_mb a).symm.trans h)).1
    simp only [if_pos h,e,and_self]
  · simp only [if_neg h,and_self]
theorem ver_no {s : Bs} (hs : s ≠ []) {v : Verd} (h : okV v = false) : verT v ≠ s := by
  unfold verT
  rw [h]
  exact fun e => hs e.symm
theorem ver_m {s a b : Bs} (hs : s ≠ []) (h : mbI a = false) : verT (vcI a b) ≠ s := by
  refine ver_no hs ?_
  cases q : okV (vcI a b) with
  | false => rfl
  | true =>
    have e := (okV_2 q).1
    have e2 : (vcI a b).m = ⟨0,0,[]⟩ := by unfold vcI mcI; simp [h]
    rw [e2] at e
    have := vMach_bd e
    dsimp only at this
    omega
theorem ver_p {s a b : Bs} (hs : s ≠ []) (h1 : b ≠ opn) (h : bI b = false) (hb : (spl 32 s).getD 1 [] = b) : verT (vcI a b) ≠ s := by
  cases q : okV (vcI a b) with
  | false => exact ver_no hs q
  | true =>
    intro e
    obtain ⟨g1,g2⟩ := okV_2 q
    have e1 : verT (vcI a b) = linT (vcI a b) := by unfold verT; rw [if_pos q]
    have e2 : (vcI a b).p = ⟨0,[],[]⟩ := by unfold vcI pcI; dsimp only; rw [if_neg h1,pI_f h]
    have e3 : prfT (vcI a b).p = opn := by rw [e2]; unfold prfT; rw [if_pos (by unfold isZ; simp)]
    have e4 := lin_spl g1 g2
    rw [← e1,e,e3] at e4
    rw [e4] at hb
    exact h1 hb.symm
theorem ReadVerdictX_ok (s : Bs) (hs : (s.length : Int) ≤ 1048576) : Does Tryz.prog 86 [.one (str s)] [] (.tup [(true,[int (vI s).m.sy,int (vI s).m.st,.gv 0,int (vI s).p.k,.gv 1,.gv 2]),(false,[boo (bvI s)])]) [.row 3 (rows eR (vI s).m.ru),roI (vI s).p.nu,roW (vI s).p.wo] := by
  obtain ⟨ps,eps⟩ : ∃ ps,ps = spl 32 s := ⟨_,rfl⟩
  have hpe := spl_el 32 s
  have hpl := spl_len 32 s
  rw [← eps] at hpe hpl
  have ebI : bvI s = (decide ((ps.length : Int) = 3) && decide (verT (vcI (ps.getD 0 []) (ps.getD 1 [])) = s)) := by unfold bvI; rw [← eps]
  by_cases h3 : (ps.length : Int) = 3
  · have l0 : (0 : Int).toNat * 1 < ps.length := by show 0 < ps.length; omega
    have l1 : (1 : Int).toNat * 1 < ps.length := by show 1 < ps.length; omega
    have hs0 : ¬ s = [] := by
      rintro rfl
      have : ps = [[]] := by rw [eps]; rfl
      rw [this] at h3
      simp at h3
    obtain ⟨p0,e0⟩ : ∃ p,ps[(0 : Int).toNat * 1]'l0 = p := ⟨_,rfl⟩
    obtain ⟨p1,e1⟩ : ∃ p,ps[(1 : Int).toNat * 1]'l1 = p := ⟨_,rfl⟩
    have f0 : ps.getD 0 [] = p0 := by rw [List.getD_eq_getElem?_getD,List.getElem?_eq_getElem (show 0 < ps.length by omega)]; exact e0
    have f1 : ps.getD 1 [] = p1 := by rw [List.getD_eq_getElem?_getD,List.getElem?_eq_getElem (show 1 < ps.length by omega)]; exact e1
    have g0 : p0.length ≤ s.length := by rw [← e0]; exact (hpe _ (List.getElem_mem l0)).1
    have g1 : p1.length ≤ s.length := by rw [← e1]; exact (hpe _ (List.getElem_mem l1)).1
    obtain ⟨q1,q2,q3⟩ := mcX p0
    obtain ⟨s1,s2,_⟩ := proof_same p1
    refine does_of (k := 0) Tryz.func86 rfl Tryz.ntmps86 rfl rfl fun w F0 S0 ρ0 => ?_
    dsimp only [argT,argH]
    repeat' first|(apply n3;exact a_new (gb := .bx _) rfl;exact rfl;refine dA ?_)|(apply p3;exact pu1;exact rfl)|refine cdn ?_|refine g_reg (id := 0) ?_|refine g_reg (id := 1) ?_|(apply c4 1;exact callK1 (θ := []) (hD := (l01Split_ok s 32 hs));exact rfl;exact rfl;exact rfl;refine dM ?_)
    rw [← eps]
    repeat' first|(apply n3;exact a_new (gb := .bx _) rfl;exact rfl;refine dA ?_)|(apply p3;(first|exact pu1|exact puN|exact a_ne rfl rfl|exact a_ld_rowS rfl rfl rfl (fC rfl) bnd|exact a_neT rfl rfl|exact puI);exact rfl)|refine cd ?_|(apply w3;(exact a_st_bx rfl rfl rfl rfl (fN rfl rfl) (Nat.le_of_ble_eq_true rfl) rfl);exact rfl;refine dS ?_)|(apply c4 1;exact callK1 (θ := []) (hD := (ReadMachineS_ok (ps[(0 : Int).toNat * 1]'l0) (by rw [e0];omega) (mbI p0) (by rw [e0];exact mkX_mb p0)));exact rfl;exact rfl;exact rfl;refine dM ?_)|(refine g_cond (c := .tmp 13) rfl (fun hc => ?_) (fun hc => ?_) <;> (try simp only [dcB] at hc) <;> (try (contradiction)))
    simp only [setRow,List.map_cons,List.map_nil,scC,List.set_cons_zero,List.set_cons_succ,Nat.zero_add,List.getElem?_cons_zero,List.getElem?_cons_succ,List.take_succ_cons,List.take_zero,List.drop_zero,C.frz.all,C.frz,SV.frz,tFrz]
    simp only [e0,e1,q1,q2,q3]
    refine g_conv (t_nilB (i := 4) (k := 4) (z := 1) rfl rfl rfl (by decide)) ?_
    try dsimp only [setRow,List.map_cons,List.map_nil,scC,List.set_cons_zero,List.set_cons_succ,Nat.reduceAdd]
    refine g_conv (t_nilB (i := 4) (k := 5) (z := 1) rfl rfl rfl (by decide)) ?_
    try dsimp only [setRow,List.map_cons,List.map_nil,scC,List.set_cons_zero,List.set_cons_succ,Nat.reduceAdd]
    refine cutK [0,2,3,6,7] [4,5,6] (fun y : Prf × Bool => y.1 = pcI p1 ∧ y.2 = (decide (p1 = opn) || bI p1)) (fun y => [(8,.one (boo y.2))]) (fun y => [(4,.bx [int (mcI p0).sy,int (mcI p0).st,.gv 2,int y.1.k,.gv 5,.gv 6]),(5,roI y.1.nu),(6,roW y.1.wo)]) (hc := ?_) (hk := ?_)
    · repeat' first|(apply p3;(first|exact pu1|exact a_ld_rowS rfl rfl rfl (fC rfl) bnd|exact puI);exact rfl)|refine cd ?_|(apply w3;exact a_st_bx rfl rfl rfl rfl (fN rfl rfl) (Nat.le_of_ble_eq_true rfl) rfl;exact rfl;refine dS ?_)|(apply c4 2;exact callK0 (θ := []) (hD := (ReadProofX_ok (ps[(1 : Int).toNat * 1]'l1) (by rw [e1];omega)));exact rfl;exact rfl;exact rfl;refine dM ?_)|((refine g_cond rfl (fun hc => ?_) (fun hc => ?_)) <;> (try simp only [dcB] at hc) <;> (try first|contradiction|(exfalso;omega)))
      · rw [e1,s1,s2]
        refine q_here (pI p1,bI p1) [0,1,2,3,4,7,8] (by exact stk) ?_
        exact ⟨by dsimp only; unfold pcI; rw [if_neg (by assumption)],by dsimp only; rw [decide_eq_false (by assumption),Bool.false_or]⟩
      · refine q_here (⟨0,[],[]⟩,true) [0,1,2,3,4,5,6] (by exact stk) ?_
        exact ⟨by dsimp only; unfold pcI; rw [if_pos (by assumption)],by dsimp only; rw [decide_eq_true (by assumption),Bool.true_or]⟩
    rintro ⟨_,b1⟩ ⟨rfl,hb1⟩
    dsimp only [List.cons_append,List.nil_append] at *
    skip
    repeat' first|refine cdn ?_
    have evc : vcI (ps.getD 0 []) (ps.getD 1 []) = vcI p0 p1 := by rw [f0,f1]
    have ev : vcI p0 p1 = ⟨mcI p0,pcI p1⟩ := by unfold vcI; rfl
    have gv := vcI_gd p0 p1
    have hb0 : (spl 32 s).getD 1 [] = p1 := by rw [← eps]; exact f1
    rw [evc] at ebI
    have hvi : vI s = if bvI s = true then ⟨mcI p0,pcI p1⟩ else ⟨⟨0,0,[]⟩,⟨0,[],[]⟩⟩ := by unfold vI; rw [← eps,evc,ev]
    obtain ⟨b,hb⟩ : ∃ b,bvI s = b := ⟨_,rfl⟩
    rw [hvi,hb]
    rw [ebI,decide_eq_true h3,Bool.true_and] at hb
    cases hm : mbI p0 with
    | false =>
      rw [decide_eq_false (ver_m hs0 hm)] at hb
      subst hb
      simp only [Bool.false_eq_true,if_false]
      repeat' first|(apply p3;(exact pu1);exact rfl)|refine cd ?_|(apply w3;(exact a_st_bx rfl rfl rfl rfl (fN rfl rfl) (Nat.le_of_ble_eq_true rfl) rfl);exact rfl;refine dS ?_)|refine o_no rfl rfl rfl rfl ?_
      refine g_conv (t_nilB (i := 0) (k := 2) (z := 3) rfl rfl rfl (by decide)) ?_
      try dsimp only [setRow,List.map_cons,List.map_nil,scC,List.set_cons_zero,List.set_cons_succ,Nat.reduceAdd]
      refine g_conv (t_nilB (i := 0) (k := 4) (z := 1) rfl rfl rfl (by decide)) ?_
      try dsimp only [setRow,List.map_cons,List.map_nil,scC,List.set_cons_zero,List.set_cons_succ,Nat.reduceAdd]
      refine g_conv (t_nilB (i := 0) (k := 5) (z := 1) rfl rfl rfl (by decide)) ?_
      try dsimp only [setRow,List.map_cons,List.map_nil,scC,List.set_cons_zero,List.set_cons_succ,Nat.reduceAdd]
      repeat refine cr ?_
      refine ends_id ?_
      refine endK [?_,?_,?_] (h2 := ?_) (h3 := ?_) (nd := ?_)
      rotate_left 3
      all_goals (repeat' first|exact ce0|refine ce ?_|refine ce2 ?_ ?_|(refine Or.inr (bx_eq rfl rfl ?_);(try dsimp only [C.ren,C.ren.all]);(try exact rfl))|exact SVLe.refl|refine ceb ?_)
      all_goals first | exact (show nodupB _ = true from rfl) | exact Or.inr rfl | (rfl)
    | true =>
    cases hb2 : b1 with
    | false =>
      rw [hb2] at hb1
      have hb3 := hb1.symm
      rw [Bool.or_eq_false_iff] at hb3
      rw [decide_eq_false (ver_p hs0 (of_decide_eq_false hb3.1) hb3.2 hb0)] at hb
      subst hb
      simp only [Bool.false_eq_true,if_false]
      repeat' first|(apply p3;(exact pu1);exact rfl)|refine cd ?_|(apply w3;(exact a_st_bx rfl rfl rfl rfl (fN rfl rfl) (Nat.le_of_ble_eq_true rfl) rfl);exact rfl;refine dS ?_)|refine o_no rfl rfl rfl rfl ?_|(apply py3;exact rfl;exact rfl;(exact pu1);exact rfl;exact rfl)
      refine g_conv (t_nilB (i := 0) (k := 2) (z := 3) rfl rfl rfl (by decide)) ?_
      try dsimp only [setRow,List.map_cons,List.map_nil,scC,List.set_cons_zero,List.set_cons_succ,Nat.reduceAdd]
      refine g_conv (t_nilB (i := 0) (k := 4) (z := 1) rfl rfl rfl (by decide)) ?_
      try dsimp only [setRow,List.map_cons,List.map_nil,scC,List.set_cons_zero,List.set_cons_succ,Nat.reduceAdd]
      refine g_conv (t_nilB (i := 0) (k := 5) (z := 1) rfl rfl rfl (by decide)) ?_
      try dsimp only [setRow,List.map_cons,List.map_nil,scC,List.set_cons_zero,List.set_cons_succ,Nat.reduceAdd]
      repeat refine cr ?_
      refine ends_id ?_
      refine endK [?_,?_,?_] (h2 := ?_) (h3 := ?_) (nd := ?_)
      rotate_left 3
      all_goals (repeat' first|exact ce0|refine ce ?_|refine ce2 ?_ ?_|(refine Or.inr (bx_eq rfl rfl ?_);(try dsimp only [C.ren,C.ren.all]);(try exact rfl))|exact SVLe.refl|refine ceb ?_)
      all_goals first | exact (show nodupB _ = true from rfl) | exact Or.inr rfl | (rfl)
    | true =>
    have gw := gv
    rw [ev] at gw
    cases hv : okV ⟨mcI p0,pcI p1⟩ with
    | false =>
      rw [decide_eq_false (ver_no hs0 (by rw [ev]; exact hv))] at hb
      subst hb
      have hvn : ¬ okV ⟨mcI p0,pcI p1⟩ = true := by rw [hv]; decide
      simp only [Bool.false_eq_true,if_false]
      repeat' first|(apply p3;(exact pu1);exact rfl)|refine cd ?_|(apply w3;(exact a_st_bx rfl rfl rfl rfl (fN rfl rfl) (Nat.le_of_ble_eq_true rfl) rfl);exact rfl;refine dS ?_)|refine o_no rfl rfl rfl rfl ?_|(apply py3;exact rfl;exact rfl;(exact pu1);exact rfl;exact rfl)|(apply cy4 0;exact rfl;exact rfl;exact callK1 (θ := []) (hD := (l31Is_ok ⟨mcI p0,pcI p1⟩ gw));exact rfl;exact rfl;exact rfl;exact rfl;refine dM ?_)|((refine o_gs rfl rfl (fun hc => ?_) (fun hc => ?_)) <;> (try simp only [dcB] at hc) <;> (try first|contradiction|(exfalso;omega)))
      refine g_conv (t_nilB (i := 0) (k := 2) (z := 3) rfl rfl rfl (by decide)) ?_
      try dsimp only [setRow,List.map_cons,List.map_nil,scC,List.set_cons_zero,List.set_cons_succ,Nat.reduceAdd]
      refine g_conv (t_nilB (i := 0) (k := 4) (z := 1) rfl rfl rfl (by decide)) ?_
      try dsimp only [setRow,List.map_cons,List.map_nil,scC,List.set_cons_zero,List.set_cons_succ,Nat.reduceAdd]
      refine g_conv (t_nilB (i := 0) (k := 5) (z := 1) rfl rfl rfl (by decide)) ?_
      try dsimp only [setRow,List.map_cons,List.map_nil,scC,List.set_cons_zero,List.set_cons_succ,Nat.reduceAdd]
      repeat refine cr ?_
      refine ends_id ?_
      refine endK [?_,?_,?_] (h2 := ?_) (h3 := ?_) (nd := ?_)
      rotate_left 3
      all_goals (repeat' first|exact ce0|refine ce ?_|refine ce2 ?_ ?_|(refine Or.inr (bx_eq rfl rfl ?_);(try dsimp only [C.ren,C.ren.all]);(try exact rfl))|exact SVLe.refl|refine ceb ?_)
      all_goals first | exact (show nodupB _ = true from rfl) | exact Or.inr rfl | (rfl)
    | true =>
    have hvn : ¬ okV ⟨mcI p0,pcI p1⟩ = false := by rw [hv]; decide
    have evt : verT (vcI p0 p1) = linT ⟨mcI p0,pcI p1⟩ := by rw [ev]; unfold verT; rw [if_pos hv]
    rw [evt] at hb
    by_cases ht : linT ⟨mcI p0,pcI p1⟩ = s
    · rw [decide_eq_true ht] at hb
      subst hb
      simp only [if_true]
      repeat' first|(apply p3;(exact pu1);exact rfl)|refine cd ?_|(apply w3;(exact a_st_bx rfl rfl rfl rfl (fN rfl rfl) (Nat.le_of_ble_eq_true rfl) rfl);exact rfl;refine dS ?_)|(apply py3;exact rfl;exact rfl;(first|exact pu1|exact a_neT rfl rfl);exact rfl;exact rfl)|(apply cy4 0;exact rfl;exact rfl;exact callK1 (θ := []) (hD := (l31Is_ok ⟨mcI p0,pcI p1⟩ gw));exact rfl;exact rfl;exact rfl;exact rfl;refine dM ?_)|(apply cy4 0;exact rfl;exact rfl;exact callK1 (θ := []) (hD := (l31Line_ok ⟨mcI p0,pcI p1⟩ (okV_2 hv).1 (okV_2 hv).2));exact rfl;exact rfl;exact rfl;exact rfl;refine dM ?_)|((first|refine o_gs rfl rfl (fun hc => ?_) (fun hc => ?_)|refine g_cond rfl (fun hc => ?_) (fun hc => ?_)) <;> (try simp only [dcB] at hc) <;> (try first|contradiction|(exfalso;omega)))
      repeat refine cr ?_
      refine ends_id ?_
      refine endK [?_,?_,?_] (h2 := ?_) (h3 := ?_) (nd := ?_)
      rotate_left 3
      all_goals (repeat' first|exact ce0|refine ce ?_|refine ce2 ?_ ?_|(refine Or.inr (bx_eq rfl rfl ?_);(try dsimp only [C.ren,C.ren.all]);(try exact rfl))|exact SVLe.refl|refine ceb ?_)
      all_goals first | exact (show nodupB _ = true from rfl) | exact Or.inr rfl | (rfl)
    · rw [decide_eq_false ht] at hb
      subst hb
      simp only [Bool.false_eq_true,if_false]
      repeat' first|(apply p3;(exact pu1);exact rfl)|refine cd ?_|(apply w3;(exact a_st_bx rfl rfl rfl rfl (fN rfl rfl) (Nat.le_of_ble_eq_true rfl) rfl);exact rfl;refine dS ?_)|(apply py3;exact rfl;exact rfl;(first|exact pu1|exact a_neT rfl rfl);exact rfl;exact rfl)|(apply cy4 0;exact rfl;exact rfl;exact callK1 (θ := []) (hD := (l31Is_ok ⟨mcI p0,pcI p1⟩ gw));exact rfl;exact rfl;exact rfl;exact rfl;refine dM ?_)|(apply cy4 0;exact rfl;exact rfl;exact callK1 (θ := []) (hD := (l31Line_ok ⟨mcI p0,pcI p1⟩ (okV_2 hv).1 (okV_2 hv).2));exact rfl;exact rfl;exact rfl;exact rfl;refine dM ?_)|((first|refine o_gs rfl rfl (fun hc => ?_) (fun hc => ?_)|refine g_cond rfl (fun hc => ?_) (fun hc => ?_)) <;> (try simp only [dcB] at hc) <;> (try first|contradiction|(exfalso;omega)))
      refine g_conv (t_nilB (i := 0) (k := 2) (z := 3) rfl rfl rfl (by decide)) ?_
      try dsimp only [setRow,List.map_cons,List.map_nil,scC,List.set_cons_zero,List.set_cons_succ,Nat.reduceAdd]
      refine g_conv (t_nilB (i := 0) (k := 4) (z := 1) rfl rfl rfl (by decide)) ?_
      try dsimp only [setRow,List.map_cons,List.map_nil,scC,List.set_cons_zero,List.set_cons_succ,Nat.reduceAdd]
      refine g_conv (t_nilB (i := 0) (k := 5) (z := 1) rfl rfl rfl (by decide)) ?_
      try dsimp only [setRow,List.map_cons,List.map_nil,scC,List.set_cons_zero,List.set_cons_succ,Nat.reduceAdd]
      repeat refine cr ?_
      refine ends_id ?_
      refine endK [?_,?_,?_] (h2 := ?_) (h3 := ?_) (nd := ?_)
      rotate_left 3
      all_goals (repeat' first|exact ce0|refine ce ?_|refine ce2 ?_ ?_|(refine Or.inr (bx_eq rfl rfl ?_);(try dsimp only [C.ren,C.ren.all]);(try exact rfl))|exact SVLe.refl|refine ceb ?_)
      all_goals first | exact (show nodupB _ = true from rfl) | exact Or.inr rfl | (rfl)
  · have eb : bvI s = false := by rw [ebI,decide_eq_false h3,Bool.false_and]
    rw [eb,vI_f eb]
    refine does_of (k := 0) Tryz.func86 rfl Tryz.ntmps86 rfl rfl fun w F0 S0 ρ0 => ?_
    dsimp only [argT,argH]
    repeat' first|(apply n3;exact a_new (gb := .bx _) rfl;exact rfl;refine dA ?_)|(apply p3;exact pu1;exact rfl)|refine cdn ?_|refine g_reg (id := 0) ?_|refine g_reg (id := 1) ?_|(apply c4 1;exact callK1 (θ := []) (hD := (l01Split_ok s 32 hs));exact rfl;exact rfl;exact rfl;refine dM ?_)
    rw [← eps]
    repeat' first|(apply p3;(first|exact pu1|exact puN|exact a_ne rfl rfl);exact rfl)|refine cd ?_|(apply w3;(exact a_st_bx rfl rfl rfl rfl (fN rfl rfl) (Nat.le_of_ble_eq_true rfl) rfl);exact rfl;refine dS ?_)|((refine g_cond rfl (fun hc => ?_) (fun hc => ?_)) <;> (try simp only [dcB] at hc) <;> (try first|contradiction|(exfalso;omega)))
    refine g_conv (t_nilB (i := 0) (k := 2) (z := 3) rfl rfl rfl (by decide)) ?_
    try dsimp only [setRow,List.map_cons,List.map_nil,scC,List.set_cons_zero,List.set_cons_succ,Nat.reduceAdd]
    refine g_conv (t_nilB (i := 0) (k := 4) (z := 1) rfl rfl rfl (by decide)) ?_
    try dsimp only [setRow,List.map_cons,List.map_nil,scC,List.set_cons_zero,List.set_cons_succ,Nat.reduceAdd]
    refine g_conv (t_nilB (i := 0) (k := 5) (z := 1) rfl rfl rfl (by decide)) ?_
    try dsimp only [setRow,List.map_cons,List.map_nil,scC,List.set_cons_zero,List.set_cons_succ,Nat.reduceAdd]
    repeat refine cr ?_
    refine ends_id ?_
    refine endK [?_,?_,?_] (h2 := ?_) (h3 := ?_) (nd := ?_)
    rotate_left 3
    all_goals (repeat' first|exact ce0|refine ce ?_|refine ce2 ?_ ?_|(refine Or.inr (bx_eq rfl rfl ?_);(try dsimp only [C.ren,C.ren.all]);(try exact rfl))|exact SVLe.refl|refine ceb ?_)
    all_goals first | exact (show nodupB _ = true from rfl) | exact Or.inr rfl | (rfl)
end Go.Proofs.YtighjcjmacajoaaGreatDoor
end
section
set_option linter.unusedVariables false
set_option linter.unusedSimpArgs false
set_option maxRecDepth 100000
set_option maxHeartbeats 4000000
namespace Go.Proofs.YtighjcjmacajoaaGreatDoor
open Go Foot Go.RowKit
theorem sReadVerdict_ok (s : Bs) (hs : (s.length : Int) ≤ 1048576) : Does Tryz.prog 30 [.one (str s)] [] (.tup [(true,[int (vI s).m.sy,int (vI s).m.st,.gv 0,int (vI s).p.k,.gv 1,.gv 2]),(false,[boo (bvI s)])]) [.row 3 (rows eR (vI s).m.ru),roI (vI s).p.nu,roW (vI s).p.wo] := by
  refine does_of (k := 0) Tryz.func30 rfl Tryz.ntmps30 rfl rfl fun w F0 S0 ρ0 => ?_
  dsimp only [argT,argH]
  repeat' first|(apply n3;exact a_new (gb := .bx _) rfl;exact rfl;refine dA ?_)|(apply p3;exact pu1;exact rfl)|refine cd ?_|(apply w3;(exact a_st_bx rfl rfl rfl rfl (fN rfl rfl) (Nat.le_of_ble_eq_true rfl) rfl);exact rfl;refine dS ?_)|(apply c4 3;exact callK0 (θ := []) (hD := (ReadVerdictX_ok s hs));exact rfl;exact rfl;exact rfl;refine dM ?_)
  repeat refine cr ?_
  refine ends_id ?_
  refine endK [?_,?_,?_] (h2 := ?_) (h3 := ?_) (nd := ?_)
  rotate_left 3
  all_goals (repeat' first|exact ce0|refine ce ?_|refine ce2 ?_ ?_|(refine Or.inr (bx_eq rfl rfl ?_);(try dsimp only [C.ren,C.ren.all]);(try exact rfl))|exact SVLe.refl|refine ceb ?_)
  all_goals first | exact (show nodupB _ = true from rfl) | exact Or.inr rfl | (rfl)
theorem vI_ok {s : Bs} (h : bvI s = true) : okV (vI s) = true ∧ verT (vI s) = s := by
  have e : vI s = vcI ((spl 32 s).getD 0 []) ((spl 32 s).getD 1 []) := by unfold vI; rw [if_pos h]
  unfold bvI at h
  simp only [Bool.and_eq_true,decide_eq_true_eq] at h
  rw [← e] at h
  obtain ⟨h3,h4⟩ := h
  refine ⟨?_,h4⟩
  cases q : okV (vI s) with
  | true => rfl
  | false =>
    exfalso
    unfold verT at h4
    rw [q] at h4
    simp only [Bool.false_eq_true,if_false] at h4
    rw [← h4] at h3
    simp [spl] at h3
theorem vI_len (s : Bs) : ((vI s).m.ru.length : Int) ≤ 6000 ∧ ((vI s).p.nu.length : Int) ≤ 300 ∧ ((vI s).p.wo.length : Int) ≤ 300 ∧ ∀ x ∈ (vI s).p.wo,(x.length : Int) ≤ 400 := by
  cases h : bvI s with
  | false => rw [vI_f h]; exact ⟨by simp,by simp,by simp,by simp⟩
  | true =>
    obtain ⟨g1,g2⟩ := okV_2 (vI_ok h).1
    have hb := vMach_bd g1
    have hm : ((vI s).m.ru.length : Int) ≤ 6000 := by
      rw [hb.2.2]
      have h1 := hb.1
      have h2 := hb.2.1
      have := Int.mul_le_mul h1.2 h2.2 (by omega) (by omega)
      omega
    refine ⟨hm,?_⟩
    rcases g2.h with e | e
    · unfold isZ at e
      rw [decide_eq_true_eq] at e
      have e3 : (vI s).p.wo = [] := List.eq_nil_of_length_eq_zero (by omega)
      exact ⟨by omega,by omega,by rw [e3]; simp⟩
    · have g := validP_gd e
      exact ⟨g.nl,g.wl,fun x hx => (g.wb x hx).1⟩
end Go.Proofs.YtighjcjmacajoaaGreatDoor
end
section
set_option linter.unusedVariables false
set_option linter.unusedSimpArgs false
set_option maxRecDepth 100000
set_option maxHeartbeats 4000000
namespace Go.Proofs.YtighjcjmacajoaaGreatDoor
open Go Foot
theorem mkL_get {α : Type} (sz : α → Int) (mk : Int → α → α) : ∀ (k : Int) (xs : List α) (i : Nat) (h : i < xs.length),(mkL sz mk k xs)[i]? = some (mk (k + totL sz (xs.take i)) xs[i])
  | k,[],i,h => by simp at h
  | k,x :: xs,0,h => by simp [mkL,totL]
  | k,x :: xs,i + 1,h => by
    have := mkL_get sz mk (k + sz x) xs i (by simpa using h)
    simp only [mkL,List.getElem?_cons_succ,this,List.take_succ_cons,totL,List.getElem_cons_succ,Int.add_assoc]
theorem mksW_len (k : Int) (T : List (List Int)) : (mksW k T).length = T.length := by unfold mksW; rw [mkL_len]
theorem mksW_get (k : Int) (T : List (List Int)) (i : Nat) (h : i < (mksW k T).length) (h' : i < T.length) : (mksW k T)[i]'h = marks (k + totL szw (T.take i)) (T[i]'h').length := by
  have e := mkL_get szw mkw k T i h'
  have e2 : mksW k T = mkL szw mkw k T := by unfold mksW; rfl
  rw [← e2,List.getElem?_eq_getElem h] at e
  exact Option.some.inj e
theorem preD9 {p : Prop} (h : p := by first | with_reducible assumption | omega | (simp only [List.length_append,List.length_cons,List.length_nil,List.length_set,List.length_replicate,List.length_take,List.length_drop,List.length_tail,List.length_dropLast,List.length_reverse] at *; omega) | exact mem_len (by assumption) (by omega) | (with_reducible refine Int.le_trans (Int.ofNat_le.2 (trimR_len _)) ?_; simp only [List.length_cons,List.length_tail]; omega) | (exact (ruAt_ok (by assumption) (by assumption) (by assumption)).2.1) | (exact (ruAt_ok (by assumption) (by assumption) (by assumption)).2.1) | (have := vMach_bd (by assumption); omega) | (simp only [mC_ch,mC_tu]; omega) | (have := vTag_bd (by assumption); omega) | (have := (‹Gd _ _›).le; omega) | (exact tgHalts_no (by assumption)) | (exact tgHead (by assumption) (by assumption) (by assumption)) | (exact Int.le_trans (tgStep_gd (by assumption) (by assumption) (by assumption) (by assumption)).le (by decide)) | (exact vTag_r (by assumption)) | (with_reducible refine Int.le_trans (Int.ofNat_le.2 (pushL_len _ _)) ?_; simp only [List.length_dropLast]; omega) | exact ls_at (by assumption) (by omega) | exact pt_gd (by assumption) | exact lv_at (by assumption) (by omega) | exact pt_gd (lv_at (by assumption) (by omega)) | exact (ask_ok (by assumption)).1 | exact (ask_ok (by assumption)).2.1 | exact (ask_ok (by assumption)).2.2.1 | exact (ask_ok (by assumption)).2.2.2 | (simp only [marks_len]; omega) | (simp only [marksR_len]; omega) | exact lns_at (by assumption) (by omega) | exact bgs_at (by assumption) (by omega) | trivial) : p := h
theorem heldMarksW_ok (T : List (List Int)) (k : Int) (h1 : 0 ≤ k) (h2 : k + totW T ≤ 4611686018427387904) (hx : (T.length : Int) ≤ 4611686018427) (hxs : ∀ x ∈ T,(x.length : Int) ≤ 4611686018427) : Does Tryz.prog 85 [.one (shW (mksW k T)),.one (int k)] [] (.one (int (k + totW T))) [] := by
  have hl := mksW_len k T
  refine does_of (k := 0) Tryz.func85 rfl Tryz.ntmps85 rfl rfl fun w F0 S0 ρ0 => ?_
  dsimp only [argT,argH]
  repeat' first|(apply p3;(exact pu1);exact rfl)|refine cd ?_
  refine g_loop_id ?_
  refine loopK [0,4] [] (fun y : Int × Int => 0 ≤ y.1 ∧ y.1 ≤ T.length ∧ y.2 = k + totL szw (T.take y.1.toNat)) (fun y => [(5,.one (int y.1)),(1,.one (int y.2))]) (fun _ => []) (fun y => (T.length - y.1).toNat) ((0 : Int),k) [] (hI := ?_) (hr := ?_)
  · exact ⟨by simp,by simp,by simp [totL]⟩
  · rintro ⟨i,k'⟩ ⟨k1,k2,k3⟩
    dsimp only [List.cons_append,List.nil_append] at *
    skip
    repeat' first|(apply p3;(first|exact pu1|exact puN|exact puC);exact rfl)|refine cdn ?_|refine g_reg (id := 2) ?_|refine g_reg (id := 7) ?_|((refine g_cond rfl (fun hc => ?_) (fun hc => ?_)) <;> (try simp only [dcB] at hc) <;> (try first|contradiction|(exfalso;omega)))
    · have hi : i.toNat < T.length := by omega
      have hg := mksW_get k T i.toNat (by omega) hi
      rw [← k3] at hg
      have hh : held k' ((mksW k T)[i.toNat]'(by omega)) = k' + (T[i.toNat]'hi).length := by rw [hg,held_marks]
      have hgl : ((mksW k T)[i.toNat]'(by omega)).length = (T[i.toNat]'hi).length := by rw [hg,marks_len]
      have hb := totL_bd szw 4611686018427 (xs := T.take i.toNat) (fun x hx => ⟨by unfold szw; omega,hxs x (List.mem_of_mem_take hx)⟩)
      have hx2 := hxs _ (List.getElem_mem hi)
      have hn := totL_next szw k1 (xs := T) hi
      have ht := totL_app szw (T.take (i + 1).toNat) (T.drop (i + 1).toNat)
      have hd := totL_bd szw 4611686018427 (xs := T.drop (i + 1).toNat) (fun x hx => ⟨by unfold szw; omega,hxs x (List.mem_of_mem_drop hx)⟩)
      rw [List.take_append_drop] at ht
      unfold totW at h2
      have hs : szw T[i.toNat] = (T[i.toNat].length : Int) := rfl
      repeat' first|(apply p3;(first|exact pu1|exact puI);exact rfl)|refine cdn ?_|refine g_reg (id := 4) ?_|(apply c4 0;exact callK1 (θ := []) (hD := (heldInt64S_ok _ _ preD9 preD9 preD9));exact rfl;exact rfl;exact rfl;refine dM ?_)
      simp only [hh]
      repeat' first|(apply p3;(first|exact pu1|exact puC|exact a_add rfl rfl (by omega) (by omega));exact rfl)|refine cd ?_|((refine g_cond rfl (fun hc => ?_) (fun hc => ?_)) <;> (try simp only [dcB] at hc) <;> (try first|contradiction|(exfalso;omega)))
      refine q_again (i + 1,k' + (T[i.toNat]'hi).length) [] (by exact stk) ?_ ?_
      · exact ⟨by dsimp only; omega,by dsimp only; omega,by dsimp only; omega⟩
      · dsimp only; omega
    · have hi : i.toNat = T.length := by omega
      rw [hi,List.take_length] at k3
      have e1 : totW T = totL szw T := by unfold totW; rfl
      rw [e1,← k3]
      skip
      repeat refine cr ?_
      refine ends_id ?_
      refine endK [] (h2 := ?_) (h3 := ?_) (nd := ?_)
      all_goals (repeat' first|exact ce0|refine ce ?_|refine ce2 ?_ ?_|exact SVLe.refl|refine ceb ?_)
      all_goals first | exact (show nodupB _ = true from rfl) | exact Or.inr rfl | (rfl)
end Go.Proofs.YtighjcjmacajoaaGreatDoor
end
section
set_option linter.unusedVariables false
set_option linter.unusedSimpArgs false
set_option maxRecDepth 100000
set_option maxHeartbeats 4000000
namespace Go.Proofs.YtighjcjmacajoaaGreatDoor
open Go Foot
@[irreducible] def heldR (k : Int) (xs : List Rule') : Int := if xs = marksR k xs.length then k + 3 * xs.length else -1
theorem heldR_marks (k : Int) (n : Nat) : heldR k (marksR k n) = k + 3 * n := by unfold heldR; rw [marksR_len,if_pos rfl]
theorem notR {k : Int} {xs : List Rule'} (i : Nat) (h : i < xs.length) (hn : (xs[i]).w ≠ k + 3 * i ∨ (xs[i]).m ≠ k + 3 * i + 1 ∨ (xs[i]).n ≠ k + 3 * i + 2) : heldR k xs = -1 := by
  unfold heldR
  rw [if_neg]
  intro e
  have e1 := marksR_get k xs.length i h
  rw [← e,List.getElem?_eq_getElem h] at e1
  simp only [Option.some.injEq] at e1
  rw [e1] at hn
  simp at hn
theorem preD3 {p : Prop} (h : p := by first | with_reducible assumption | omega | (simp only [List.length_append,List.length_cons,List.length_nil,List.length_set,List.length_replicate,List.length_take,List.length_drop,List.length_tail,List.length_dropLast,List.length_reverse] at *; omega) | exact mem_len (by assumption) (by omega) | (with_reducible refine Int.le_trans (Int.ofNat_le.2 (trimR_len _)) ?_; simp only [List.length_cons,List.length_tail]; omega) | (exact (ruAt_ok (by assumption) (by assumption) (by assumption)).2.1) | (exact (ruAt_ok (by assumption) (by assumption) (by assumption)).2.1) | (have := vMach_bd (by assumption); omega) | (simp only [mC_ch,mC_tu]; omega) | (have := vTag_bd (by assumption); omega) | (have := (‹Gd _ _›).le; omega) | (exact tgHalts_no (by assumption)) | (exact tgHead (by assumption) (by assumption) (by assumption)) | (exact Int.le_trans (tgStep_gd (by assumption) (by assumption) (by assumption) (by assumption)).le (by decide)) | (exact vTag_r (by assumption)) | (with_reducible refine Int.le_trans (Int.ofNat_le.2 (pushL_len _ _)) ?_; simp only [List.length_dropLast]; omega) | exact ls_at (by assumption) (by omega) | exact pt_gd (by assumption) | exact lv_at (by assumption) (by omega) | exact pt_gd (lv_at (by assumption) (by omega)) | exact (ask_ok (by assumption)).1 | exact (ask_ok (by assumption)).2.1 | exact (ask_ok (by assumption)).2.2.1 | exact (ask_ok (by assumption)).2.2.2 | (simp only [marks_len]; omega) | (simp only [marksR_len]; omega) | trivial) : p := h
theorem heldRuleS_ok (xs : List Rule') (k : Int) (h1 : 0 ≤ k) (h2 : k ≤ 4611686018427387904) (hx : (xs.length : Int) ≤ 4611686018427) : Does Tryz.prog 83 [.one (shR xs),.one (int k)] [] (.one (int (heldR k xs))) [] := by
  refine does_of (k := 0) Tryz.func83 rfl Tryz.ntmps83 rfl rfl fun w F0 S0 ρ0 => ?_
  dsimp only [argT,argH]
  repeat' first|(apply p3;(exact pu1);exact rfl)|refine cd ?_
  refine g_loop_id ?_
  refine loopK [0,4] [] (fun i : Int => 0 ≤ i ∧ i ≤ xs.length ∧ ∀ (j : Nat),(j : Int) < i → xs[j]? = some ⟨k + 3 * j,k + 3 * j + 1,k + 3 * j + 2⟩) (fun i => [(5,.one (int i)),(1,.one (int (k + 3 * i)))]) (fun _ => []) (fun i => (xs.length - i).toNat) (0 : Int) [] (hI := ?_) (hr := ?_)
  · exact ⟨by simp,by simp,fun j h' => by omega⟩
  · rintro i ⟨k1,k2,k4⟩
    dsimp only [List.cons_append,List.nil_append] at *
    skip
    repeat' first|(apply p3;(first|exact pu1|exact puN|exact puC|exact a_ne rfl rfl|exact a_add rfl rfl (by omega) (by omega)|exact puI);exact rfl)|refine cd ?_|((refine g_cond rfl (fun hc => ?_) (fun hc => ?_)) <;> (try simp only [dcB] at hc) <;> (try first|contradiction|(exfalso;omega)))
    · have hn := notR (k := k) (xs := xs) i.toNat (by omega) (.inl (by rw [show ((i.toNat : Nat) : Int) = i by omega]; assumption))
      rw [hn]
      repeat refine cr ?_
      refine ends_id ?_
      refine endK [] (h2 := ?_) (h3 := ?_) (nd := ?_)
      all_goals (repeat' first|exact ce0|refine ce ?_|refine ce2 ?_ ?_|exact SVLe.refl|refine ceb ?_)
      all_goals first | exact (show nodupB _ = true from rfl) | exact Or.inr rfl | (rfl)
    · have hn := notR (k := k) (xs := xs) i.toNat (by omega) (.inr (.inl (by rw [show ((i.toNat : Nat) : Int) = i by omega]; assumption)))
      rw [hn]
      repeat refine cr ?_
      refine ends_id ?_
      refine endK [] (h2 := ?_) (h3 := ?_) (nd := ?_)
      all_goals (repeat' first|exact ce0|refine ce ?_|refine ce2 ?_ ?_|exact SVLe.refl|refine ceb ?_)
      all_goals first | exact (show nodupB _ = true from rfl) | exact Or.inr rfl | (rfl)
    · have hn := notR (k := k) (xs := xs) i.toNat (by omega) (.inr (.inr (by rw [show ((i.toNat : Nat) : Int) = i by omega]; omega)))
      rw [hn]
      repeat refine cr ?_
      refine ends_id ?_
      refine endK [] (h2 := ?_) (h3 := ?_) (nd := ?_)
      all_goals (repeat' first|exact ce0|refine ce ?_|refine ce2 ?_ ?_|exact SVLe.refl|refine ceb ?_)
      all_goals first | exact (show nodupB _ = true from rfl) | exact Or.inr rfl | (rfl)
    · refine q_again (i + 1) [] (by exact stk) ?_ ?_
      · refine ⟨by omega,by omega,fun j h => ?_⟩
        by_cases hj : (j : Int) < i
        · exact k4 j hj
        · have : j = i.toNat := by omega
          subst this
          rw [List.getElem?_eq_getElem (by omega),show ((i.toNat : Nat) : Int) = i by omega]
          have e1 : xs[i.toNat].w = k + 3 * i := by assumption
          have e2 : xs[i.toNat].m = k + 3 * i + 1 := by assumption
          have e3 : xs[i.toNat].n = k + 3 * i + 2 := by omega
          rw [← e3,← e2,← e1]
      · omega
    · have hi : i = xs.length := by omega
      subst hi
      have hl := markR_end (k := k) (xs := xs) rfl fun j hj => k4 j (by omega)
      have hh : heldR k xs = k + 3 * xs.length := by unfold heldR; exact if_pos hl
      rw [hh]
      repeat refine cr ?_
      refine ends_id ?_
      refine endK [] (h2 := ?_) (h3 := ?_) (nd := ?_)
      all_goals (repeat' first|exact ce0|refine ce ?_|refine ce2 ?_ ?_|exact SVLe.refl|refine ceb ?_)
      all_goals first | exact (show nodupB _ = true from rfl) | exact Or.inr rfl | (rfl)
theorem heldMach_ok (sy st : Int) (ru : List Rule') (k : Int) (h1 : 0 ≤ k) (h2 : k ≤ 4611686018427387904) (hx : (ru.length : Int) ≤ 4611686018427) : Does Tryz.prog 95 [.agg [int sy,int st,.d (.sl false 3 (rows eR ru))],.one (int k)] [] (.one (int (heldR k ru))) [] := by
  refine does_of (k := 0) Tryz.func95 rfl Tryz.ntmps95 rfl rfl fun w F0 S0 ρ0 => ?_
  dsimp only [argT,argH]
  repeat' first|(apply n3;exact a_new (gb := .bx _) rfl;exact rfl;refine dA ?_)|(apply p3;(first|exact pu1|exact puC);exact rfl)|refine cd ?_|(apply c4 0;exact callK1 (θ := []) (hD := (heldRuleS_ok _ _ preD3 preD3 preD3));exact rfl;exact rfl;exact rfl;refine dM ?_)|((refine g_cond rfl (fun hc => ?_) (fun hc => ?_)) <;> (try simp only [dcB] at hc) <;> (try first|contradiction|(exfalso;omega)))
  · have hh : heldR k ru = -1 := by
      unfold heldR at hc ⊢
      split
      · rename_i h; rw [if_pos h] at hc; omega
      · rfl
    rw [hh]
    repeat refine cr ?_
    refine ends_id ?_
    refine endK [] (h2 := ?_) (h3 := ?_) (nd := ?_)
    all_goals (repeat' first|exact ce0|refine ce ?_|refine ce2 ?_ ?_|exact SVLe.refl|refine ceb ?_)
    all_goals first | exact (show nodupB _ = true from rfl) | exact Or.inr rfl | (rfl)
  · repeat refine cr ?_
    refine ends_id ?_
    refine endK [] (h2 := ?_) (h3 := ?_) (nd := ?_)
    all_goals (repeat' first|exact ce0|refine ce ?_|refine ce2 ?_ ?_|exact SVLe.refl|refine ceb ?_)
    all_goals first | exact (show nodupB _ = true from rfl) | exact Or.inr rfl | (rfl)
end Go.Proofs.YtighjcjmacajoaaGreatDoor
end
section
set_option linter.unusedVariables false
set_option linter.unusedSimpArgs false
set_option maxRecDepth 100000
set_option maxHeartbeats 4000000
namespace Go.Proofs.YtighjcjmacajoaaGreatDoor
open Go Foot
theorem totW_le {xs : List (List Int)} (h1 : (xs.length : Int) ≤ 1048576) (h : ∀ x ∈ xs,(x.length : Int) ≤ 1048576) : 0 ≤ totW xs ∧ totW xs ≤ 1099511627776 := by
  have := totW_bd 1048576 h
  omega
theorem markProofN_ok (p : Prf) (k : Int) (h1 : 0 ≤ k) (h2 : k ≤ 1152921504606846976) (hx : (p.nu.length : Int) ≤ 1048576) (hy : (p.wo.length : Int) ≤ 1048576) (hys : ∀ x ∈ p.wo,(x.length : Int) ≤ 1048576) : Does Tryz.prog 94 [.agg [int p.k,.gv 0,.gv 1],.one (int k)] [roI p.nu,roWn p.wo] (.one (int (k + p.nu.length + totW p.wo))) [roI (marks k p.nu.length),roWn (mksW (k + p.nu.length) p.wo)] := by
  have ht := totW_le hy hys
  have hys2 : ∀ x ∈ p.wo,(x.length : Int) ≤ 4611686018427 := fun x hx => by have := hys x hx; omega
  refine does_of (k := 2) Tryz.func94 rfl Tryz.ntmps94 rfl rfl fun w F0 S0 ρ0 => ?_
  dsimp only [argT,argH]
  repeat' first|(apply n3;exact a_new (gb := .bx _) rfl;exact rfl;refine dA ?_)|(apply p3;(exact pu1);exact rfl)|refine cd ?_|(apply c4 0;exact callK1 (θ := [_]) (hD := (markInt64S_ok p.nu k h1 (by omega) (by omega)));exact rfl;exact rfl;exact rfl;refine dM ?_)|(apply c4 0;exact callK1 (θ := [_]) (hD := (markInt64SSn_ok p.wo (k + p.nu.length) (by omega) (by omega) (by omega) hys2));exact rfl;exact rfl;exact rfl;refine dM ?_)
  repeat refine cr ?_
  refine ends_id ?_
  refine endK [] (h2 := ?_) (h3 := ?_) (nd := ?_)
  all_goals (repeat' first|exact ce0|refine ce ?_|refine ce2 ?_ ?_|(refine Or.inr (bx_eq rfl rfl ?_);(try dsimp only [C.ren,C.ren.all]);(try exact rfl))|exact SVLe.refl|refine ceb ?_)
  all_goals first | exact (show nodupB _ = true from rfl) | exact Or.inr rfl | (rfl)
theorem markVerdictN_ok (v : Verd) (k : Int) (g : BigOk v) (h1 : 0 ≤ k) (h2 : k ≤ 576460752303423488) : Does Tryz.prog 33 [.agg [int v.m.sy,int v.m.st,.gv 0,int v.p.k,.gv 1,.gv 2],.one (int k)] [.row 3 (rows eR v.m.ru),roI v.p.nu,roWn v.p.wo] (.one (int (k + 3 * v.m.ru.length + v.p.nu.length + totW v.p.wo))) [.row 3 (rows eR (marksR k v.m.ru.length)),roI (marks (k + 3 * v.m.ru.length) v.p.nu.length),roWn (mksW (k + 3 * v.m.ru.length + v.p.nu.length) v.p.wo)] := by
  obtain ⟨g1,g2,g3,g4⟩ := g
  refine does_of (k := 3) Tryz.func33 rfl Tryz.ntmps33 rfl rfl fun w F0 S0 ρ0 => ?_
  dsimp only [argT,argH]
  repeat' first|(apply n3;exact a_new (gb := .bx _) rfl;exact rfl;refine dA ?_)|(apply p3;(exact pu1);exact rfl)|refine cd ?_|(apply c4 0;exact callK1 (θ := [_]) (hD := (markMachR_ok v.m k h1 (by omega) (by omega)));exact rfl;exact rfl;exact rfl;refine dM ?_)|(apply c4 0;exact callK1 (θ := [_,_]) (hD := (markProofN_ok v.p (k + 3 * v.m.ru.length) (by omega) (by omega) g2 g3 g4));exact rfl;exact rfl;exact rfl;refine dM ?_)
  repeat refine cr ?_
  refine ends_id ?_
  refine endK [] (h2 := ?_) (h3 := ?_) (nd := ?_)
  all_goals (repeat' first|exact ce0|refine ce ?_|refine ce2 ?_ ?_|(refine Or.inr (bx_eq rfl rfl ?_);(try dsimp only [C.ren,C.ren.all]);(try exact rfl))|exact SVLe.refl|refine ceb ?_)
  all_goals first | exact (show nodupB _ = true from rfl) | exact Or.inr rfl | (rfl)
theorem heldProofN_ok (kd : Int) (n : Nat) (T : List (List Int)) (k : Int) (h1 : 0 ≤ k) (h2 : k ≤ 1152921504606846976) (hx : (n : Int) ≤ 1048576) (hy : (T.length : Int) ≤ 1048576) (hys : ∀ x ∈ T,(x.length : Int) ≤ 1048576) : Does Tryz.prog 96 [.agg [int kd,shI (marks k n),shW (mksW (k + n) T)],.one (int k)] [] (.one (int (k + n + totW T))) [] := by
  have ht := totW_le hy hys
  have hys2 : ∀ x ∈ T,(x.length : Int) ≤ 4611686018427 := fun x hx => by have := hys x hx; omega
  have hm := held_marks k n
  have hl := marks_len k n
  refine does_of (k := 0) Tryz.func96 rfl Tryz.ntmps96 rfl rfl fun w F0 S0 ρ0 => ?_
  dsimp only [argT,argH]
  repeat' first|(apply n3;exact a_new (gb := .bx _) rfl;exact rfl;refine dA ?_)|(apply p3;(exact pu1);exact rfl)|refine cdn ?_|refine g_reg (id := 0) ?_|refine g_reg (id := 1) ?_|(apply c4 0;exact callK1 (θ := []) (hD := (heldInt64S_ok (marks k n) k h1 (by omega) (by omega)));exact rfl;exact rfl;exact rfl;refine dM ?_)
  simp only [hm]
  repeat' first|(apply p3;(first|exact pu1|exact puC);exact rfl)|refine cd ?_|(apply c4 0;exact callK1 (θ := []) (hD := (heldMarksW_ok T (k + n) (by omega) (by omega) (by omega) hys2));exact rfl;exact rfl;exact rfl;refine dM ?_)|((refine g_cond rfl (fun hc => ?_) (fun hc => ?_)) <;> (try simp only [dcB] at hc) <;> (try first|contradiction|(exfalso;omega)))
  repeat refine cr ?_
  refine ends_id ?_
  refine endK [] (h2 := ?_) (h3 := ?_) (nd := ?_)
  all_goals (repeat' first|exact ce0|refine ce ?_|refine ce2 ?_ ?_|exact SVLe.refl|refine ceb ?_)
  all_goals first | exact (show nodupB _ = true from rfl) | exact Or.inr rfl | (rfl)
theorem heldVerdictN_ok (sy st kd : Int) (a n : Nat) (T : List (List Int)) (k : Int) (h1 : 0 ≤ k) (h2 : k ≤ 576460752303423488) (ha : (a : Int) ≤ 1048576) (hx : (n : Int) ≤ 1048576) (hy : (T.length : Int) ≤ 1048576) (hys : ∀ x ∈ T,(x.length : Int) ≤ 1048576) : Does Tryz.prog 34 [.agg [int sy,int st,shR (marksR k a),int kd,shI (marks (k + 3 * a) n),shW (mksW (k + 3 * a + n) T)],.one (int k)] [] (.one (int (k + 3 * a + n + totW T))) [] := by
  have ht := totW_le hy hys
  have hm := heldR_marks k a
  have hl := marksR_len k a
  refine does_of (k := 0) Tryz.func34 rfl Tryz.ntmps34 rfl rfl fun w F0 S0 ρ0 => ?_
  dsimp only [argT,argH]
  repeat' first|(apply n3;exact a_new (gb := .bx _) rfl;exact rfl;refine dA ?_)|(apply p3;(exact pu1);exact rfl)|refine cdn ?_|refine g_reg (id := 0) ?_|refine g_reg (id := 1) ?_|(apply c4 0;exact callK1 (θ := []) (hD := (heldMach_ok sy st (marksR k a) k h1 (by omega) (by omega)));exact rfl;exact rfl;exact rfl;refine dM ?_)
  simp only [hm]
  repeat' first|(apply p3;(first|exact pu1|exact puC);exact rfl)|refine cd ?_|(apply c4 0;exact callK1 (θ := []) (hD := (heldProofN_ok kd n T (k + 3 * a) (by omega) (by omega) hx hy hys));exact rfl;exact rfl;exact rfl;refine dM ?_)|((refine g_cond rfl (fun hc => ?_) (fun hc => ?_)) <;> (try simp only [dcB] at hc) <;> (try first|contradiction|(exfalso;omega)))
  repeat refine cr ?_
  refine ends_id ?_
  refine endK [] (h2 := ?_) (h3 := ?_) (nd := ?_)
  all_goals (repeat' first|exact ce0|refine ce ?_|refine ce2 ?_ ?_|exact SVLe.refl|refine ceb ?_)
  all_goals first | exact (show nodupB _ = true from rfl) | exact Or.inr rfl | (rfl)
end Go.Proofs.YtighjcjmacajoaaGreatDoor
end
