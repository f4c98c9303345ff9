/- Parts of the proof (20 of 21). -/
import Derived.Lib.AtoiErrMem
import Derived.Test.YtjifedbidnmapaaQ19
section
set_option linter.unusedVariables false
set_option linter.unusedSimpArgs false
set_option maxRecDepth 100000
set_option maxHeartbeats 4000000
namespace Go.Proofs.Ytjifedbidnmapaa
open Go Foot Go.RowKit
end Go.Proofs.Ytjifedbidnmapaa
end
section
set_option linter.unusedVariables false
set_option linter.unusedSimpArgs false
set_option maxRecDepth 100000
set_option maxHeartbeats 4000000
namespace Go.Proofs.Ytjifedbidnmapaa
open Go Foot Go.RowKit
end Go.Proofs.Ytjifedbidnmapaa
end
section
set_option linter.unusedVariables false
set_option linter.unusedSimpArgs false
set_option maxRecDepth 100000
set_option maxHeartbeats 4000000
namespace Go.Proofs.Ytjifedbidnmapaa
open Go Foot
end Go.Proofs.Ytjifedbidnmapaa
end
section
set_option linter.unusedVariables false
set_option linter.unusedSimpArgs false
set_option maxRecDepth 100000
namespace Go.Proofs.Ytjifedbidnmapaa
open Go Foot Go.Shelf Go.RowKit
end Go.Proofs.Ytjifedbidnmapaa
end
section
set_option linter.unusedVariables false
set_option linter.unusedSimpArgs false
set_option maxRecDepth 1000000
namespace Go.Proofs.Ytjifedbidnmapaa
open Go Foot Go.Shelf Go.RowKit
end Go.Proofs.Ytjifedbidnmapaa
end
section
set_option linter.unusedVariables false
set_option linter.unusedSimpArgs false
set_option maxRecDepth 1000000
namespace Go.Proofs.Ytjifedbidnmapaa
open Go Foot Go.Shelf Go.RowKit
section
variable {g : Gh} {st : St} {dst : Option Tmp} {ty : TypeId} {pos : String} {after : Array Edge} {guard : Option (Nat × Bool)} {i : Nat}
end
section
variable {P : Program} {g : Gh} {st : St}
variable {dst : Option Tmp} {ty : TypeId} {pos : String} {after : Array Edge} {guard : Option (Nat × Bool)} {x : Operand} {T U : TypeId} {i : Nat}
end
end Go.Proofs.Ytjifedbidnmapaa
end
section
set_option linter.unusedVariables false
set_option linter.unusedSimpArgs false
set_option maxRecDepth 100000
set_option maxHeartbeats 4000000
namespace Go.Proofs.Ytjifedbidnmapaa
open Go Foot Go.RowKit
end Go.Proofs.Ytjifedbidnmapaa
end
section
set_option linter.unusedVariables false
set_option linter.unusedSimpArgs false
set_option maxRecDepth 100000
set_option maxHeartbeats 4000000
namespace Go.Proofs.Ytjifedbidnmapaa
open Go Foot Go.RowKit
end Go.Proofs.Ytjifedbidnmapaa
end
section
set_option linter.unusedVariables false
set_option linter.unusedSimpArgs false
set_option maxRecDepth 100000
set_option maxHeartbeats 4000000
namespace Go.Proofs.Ytjifedbidnmapaa
open Go Foot
end Go.Proofs.Ytjifedbidnmapaa
end
section
set_option linter.unusedVariables false
set_option linter.unusedSimpArgs false
set_option maxRecDepth 100000
set_option maxHeartbeats 4000000
namespace Go.Proofs.Ytjifedbidnmapaa
open Go Foot Go.RowKit
end Go.Proofs.Ytjifedbidnmapaa
end
section
set_option linter.unusedVariables false
set_option linter.unusedSimpArgs false
set_option maxRecDepth 100000
set_option maxHeartbeats 4000000
namespace Go.Proofs.Ytjifedbidnmapaa
open Go Foot Go.RowKit
end Go.Proofs.Ytjifedbidnmapaa
end
section
set_option linter.unusedVariables false
set_option linter.unusedSimpArgs false
set_option maxRecDepth 100000
set_option maxHeartbeats 4000000
namespace Go.Proofs.Ytjifedbidnmapaa
open Go Foot
def drF (m : Int) : Nat → Src → List Int → List Int × Src
  | 0,s,r => (r,s)
  | n + 1,s,r => drF m n (pkS s m) (r ++ [pkV s m])
@[irreducible] def drO (m : Int) (s : Src) (n : Int) : List Int × Src := drF m n.toNat s []
theorem drF_pl (m : Int) : ∀ (n : Nat) (s : Src) (r : List Int),s.pl ≤ (drF m n s r).2.pl ∧ (drF m n s r).2.pl ≤ s.pl + 2 * n
  | 0,s,r => by simp [drF]
  | n + 1,s,r => by
    have h1 := drF_pl m n (pkS s m) (r ++ [pkV s m])
    have h2 := pkS_pl s m
    rw [drF]
    omega
theorem drF_ok {m : Int} (hm : 1 ≤ m) : ∀ (n : Nat) (s : Src) (r : List Int),SrOk s → s.pl + 2 * n ≤ 999999999999999900 → (∀ x ∈ r,0 ≤ x ∧ x < m) → SrOk (drF m n s r).2 ∧ (∀ x ∈ (drF m n s r).1,0 ≤ x ∧ x < m) ∧ (drF m n s r).1.length = r.length + n
  | 0,s,r,g,_,h => ⟨g,h,rfl⟩
  | n + 1,s,r,g,hp,h => by
    have k := pkS_pl s m
    have b := pkV_bd (n := m) g hm
    rw [drF]
    have := drF_ok hm n (pkS s m) (r ++ [pkV s m]) (sr_pick g (by omega)) (by omega) fun x hx => by
      rcases List.mem_append.1 hx with hx | hx
      · exact h x hx
      · rw [List.mem_singleton.1 hx]; exact b
    exact ⟨this.1,this.2.1,by rw [this.2.2]; simp; omega⟩
structure DrOk (m : Int) (s : Src) (n : Int) : Prop where
  src : SrOk (drO m s n).2
  lo : s.pl ≤ (drO m s n).2.pl
  hi : (drO m s n).2.pl ≤ s.pl + 2 * n
  len : ((drO m s n).1.length : Int) = n
  ok : ∀ x ∈ (drO m s n).1,0 ≤ x ∧ x < m
theorem drO_ok {m : Int} {s : Src} {n : Int} (hm : 1 ≤ m) (g : SrOk s) (h : s.pl ≤ 100000000000000000) (h1 : 0 ≤ n) (h2 : n ≤ 100) : DrOk m s n := by
  have k1 := drF_ok hm n.toNat s [] g (by omega) (by simp)
  have k2 := drF_pl m n.toNat s []
  have e : drF m n.toNat s [] = drO m s n := by unfold drO; rfl
  rw [e] at k1 k2
  rw [List.length_nil] at k1
  exact ⟨k1.1,k2.1,by omega,by omega,k1.2.1⟩
@[irreducible] def dl1 (m : Int) (s : Src) : List Int × Src := drO m (pkS s 4) (pkV s 4)
def dlF (m : Int) : Nat → Src → List (List Int) → List (List Int) × Src
  | 0,s,r => (r,s)
  | n + 1,s,r => dlF m n (dl1 m s).2 (r ++ [(dl1 m s).1])
@[irreducible] def dlO (m : Int) (s : Src) (n : Int) : List (List Int) × Src := dlF m n.toNat s []
structure D1Ok (m : Int) (s : Src) : Prop where
  src : SrOk (dl1 m s).2
  lo : s.pl ≤ (dl1 m s).2.pl
  hi : (dl1 m s).2.pl ≤ s.pl + 8
  len : (dl1 m s).1.length ≤ 3
  ok : ∀ x ∈ (dl1 m s).1,0 ≤ x ∧ x < m
theorem dl1_ok {m : Int} {s : Src} (hm : 1 ≤ m) (g : SrOk s) (h : s.pl ≤ 90000000000000000) : D1Ok m s := by
  have k := pkS_pl s 4
  have b := pkV_bd (n := 4) g (by omega)
  have d := drO_ok (n := pkV s 4) hm (sr_pick (n := 4) g (by omega)) (by omega) (by omega) (by omega)
  have e : drO m (pkS s 4) (pkV s 4) = dl1 m s := by unfold dl1; rfl
  obtain ⟨d1,d2,d3,d4,d5⟩ := d
  rw [e] at d1 d2 d3 d4 d5
  exact ⟨d1,by omega,by omega,by omega,d5⟩
theorem dlF_ok {m : Int} (hm : 1 ≤ m) : ∀ (n : Nat) (s : Src) (r : List (List Int)),SrOk s → s.pl + 8 * n ≤ 90000000000000000 → (∀ x ∈ r,x.length ≤ 3 ∧ ∀ y ∈ x,0 ≤ y ∧ y < m) → SrOk (dlF m n s r).2 ∧ (∀ x ∈ (dlF m n s r).1,x.length ≤ 3 ∧ ∀ y ∈ x,0 ≤ y ∧ y < m) ∧ (dlF m n s r).1.length = r.length + n ∧ s.pl ≤ (dlF m n s r).2.pl ∧ (dlF m n s r).2.pl ≤ s.pl + 8 * n
  | 0,s,r,g,_,h => ⟨g,h,rfl,by simp [dlF],by simp [dlF]⟩
  | n + 1,s,r,g,hp,h => by
    have k := dl1_ok hm g (by omega)
    have k2 := k.lo
    have k3 := k.hi
    rw [dlF]
    have := dlF_ok hm n (dl1 m s).2 (r ++ [(dl1 m s).1]) k.src (by omega) fun x hx => by
      rcases List.mem_append.1 hx with hx | hx
      · exact h x hx
      · rw [List.mem_singleton.1 hx]; exact ⟨k.len,k.ok⟩
    exact ⟨this.1,this.2.1,by rw [this.2.2.1]; simp; omega,by omega,by omega⟩
structure DlOk (m : Int) (s : Src) (n : Int) : Prop where
  src : SrOk (dlO m s n).2
  lo : s.pl ≤ (dlO m s n).2.pl
  hi : (dlO m s n).2.pl ≤ s.pl + 8 * n
  len : ((dlO m s n).1.length : Int) = n
  ok : ∀ x ∈ (dlO m s n).1,x.length ≤ 3 ∧ ∀ y ∈ x,0 ≤ y ∧ y < m
theorem dlO_ok {m : Int} {s : Src} {n : Int} (hm : 1 ≤ m) (g : SrOk s) (h : s.pl ≤ 10000000000000000) (h1 : 0 ≤ n) (h2 : n ≤ 100) : DlOk m s n := by
  have k1 := dlF_ok hm n.toNat s [] g (by omega) (by simp)
  have e : dlF m n.toNat s [] = dlO m s n := by unfold dlO; rfl
  rw [e] at k1
  rw [List.length_nil] at k1
  exact ⟨k1.1,k1.2.2.2.1,by omega,by omega,k1.2.1⟩
theorem rises_1 {l : List Int} (h : l.length ≤ 1) : risesL l = true := by
  unfold risesL
  rw [List.all_eq_true]
  intro x hx
  rw [List.mem_range] at hx
  omega
end Go.Proofs.Ytjifedbidnmapaa
end
section
set_option linter.unusedVariables false
set_option linter.unusedSimpArgs false
set_option maxRecDepth 100000
set_option maxHeartbeats 4000000
namespace Go.Proofs.Ytjifedbidnmapaa
open Go Foot
theorem drawWords_ok (s : Src) (n m : Int) (g : SrOk s) (h : s.pl ≤ 1000000000000000) (h1 : 0 ≤ n) (h2 : n ≤ 100) (h3 : 1 ≤ m) (h4 : m ≤ 100) : Does Try.prog 14 [.one (.gv 0),.one (int n),.one (int m),.one (int 3)] [srB s] (.one (.gv 1)) [srB (dlO m s n).2,roW (dlO m s n).1] := by
  have e0 : dlF m n.toNat s [] = dlO m s n := by unfold dlO; rfl
  refine does_of (k := 1) Try.func14 rfl Try.ntmps14 rfl rfl fun w F0 S0 ρ0 => ?_
  dsimp only [argT,argH]
  repeat' first|(apply n3;(exact a_litE eW [] rfl rfl rfl rfl rfl rfl rfl rfl);exact rfl;refine dA ?_)|(apply p3;(exact pu1);exact rfl)|refine cd ?_|fail
  refine g_loop_id ?_
  refine loopK [0,2,3,8] [0,1] (fun y : Int × Src × List (List Int) => 0 ≤ y.1 ∧ SrOk y.2.1 ∧ y.2.1.pl ≤ s.pl + 8 * (n - y.1) ∧ (y.2.2.length : Int) ≤ n - y.1 ∧ dlF m y.1.toNat y.2.1 y.2.2 = dlO m s n) (fun y => [(1,.one (int y.1)),(9,.one (.gv 1))]) (fun y => [(0,srB y.2.1),(1,roW y.2.2)]) (fun y => y.1.toNat) (n,s,([] : List (List Int))) [0,1] (hI := ?_) (hr := ?_)
  · exact ⟨h1,g,by simp,by simp,e0⟩
  · rintro ⟨k,u,l⟩ ⟨k0,k1,k2,k3,k4⟩
    dsimp only [List.cons_append,List.nil_append] at *
    skip
    repeat' first|(apply p3;(first|exact pu1|exact puC);exact rfl)|refine cdn ?_|refine g_reg (id := 2) ?_|refine g_reg (id := 10) ?_|((refine g_cond rfl (fun hc => ?_) (fun hc => ?_)) <;> (try simp only [dcB] at hc) <;> (try first|contradiction|(exfalso;omega)))|fail
    · have hp : u.pl ≤ 999999999999999998 := by omega
      have v1 := pkS_pl u 4
      have v2 := sr_pick (n := 4) k1 hp
      have v3 := pkV_bd (n := 4) k1 (by omega)
      have e1 : drF m (pkV u 4).toNat (pkS u 4) [] = dl1 m u := by unfold dl1 drO; rfl
      repeat' first|(apply n3;(exact a_litE eI [] rfl rfl rfl rfl rfl rfl rfl rfl);exact rfl;refine dA ?_)|(apply p3;(first|exact pu1|exact a_add rfl rfl (by omega) (by omega));exact rfl)|refine cd ?_|(apply c4 0;exact callK0 (θ := [_]) (hD := (srcPick_ok u 4 k1 hp (by omega)));exact rfl;exact rfl;exact rfl;refine dM ?_)|fail
      generalize pkS u 4 = u1 at *
      generalize pkV u 4 = c at *
      refine g_loop_id ?_
      refine loopK [0,1,2,3,8,9] [0,2] (fun z : Int × Src × List Int => 0 ≤ z.1 ∧ SrOk z.2.1 ∧ z.2.1.pl ≤ u1.pl + 2 * (c - z.1) ∧ (z.2.2.length : Int) ≤ c - z.1 ∧ drF m z.1.toNat z.2.1 z.2.2 = dl1 m u) (fun z => [(11,.one (int z.1)),(10,.one (.gv 2))]) (fun z => [(0,srB z.2.1),(2,roI z.2.2)]) (fun z => z.1.toNat) (c,u1,([] : List Int)) [0,1,2] (hI := ?_) (hr := ?_)
      · exact ⟨v3.1,v2,by simp,by simp,e1⟩
      · rintro ⟨a,v,r⟩ ⟨m0,m1,m2,m3,m4⟩
        dsimp only [List.cons_append,List.nil_append] at *
        skip
        repeat' first|(apply p3;(first|exact pu1|exact puC);exact rfl)|refine cdn ?_|refine g_reg (id := 6) ?_|((refine g_cond rfl (fun hc => ?_) (fun hc => ?_)) <;> (try simp only [dcB] at hc) <;> (try first|contradiction|(exfalso;omega)))|fail
        · have hp2 : v.pl ≤ 999999999999999998 := by omega
          have w1 := pkS_pl v m
          have w2 := sr_pick (n := m) m1 hp2
          repeat' first|(apply n3;(exact a_litE eI [_] rfl rfl rfl rfl rfl rfl rfl rfl);exact rfl;refine dA ?_)|(apply p3;(first|exact pu1|exact a_sub rfl rfl (by omega) (by omega));exact rfl)|refine cd ?_|(apply s3;exact a_appE (fP rfl) rfl rfl rfl rfl nowR (by (simp <;> omega)) (by decide) (by decide) (by exact rfl);exact rfl;exact rfl)|(apply c4 0;exact callK0 (θ := [_]) (hD := (srcPick_ok v m m1 hp2 (by omega)));exact rfl;exact rfl;exact rfl;refine dM ?_)|fail
          refine q_again (a - 1,pkS v m,r ++ [pkV v m]) [0,1,4] (by exact stk) ?_ ?_
          · dsimp only
            refine ⟨by omega,w2,by omega,by simp; omega,?_⟩
            rw [← m4,show a.toNat = (a - 1).toNat + 1 by omega,drF]
          · dsimp only; omega
        · have v0 : a.toNat = 0 := by omega
          rw [v0,drF] at m4
          have x1 := congrArg Prod.fst m4
          have x2 := congrArg Prod.snd m4
          dsimp only at x1 x2
          first | refine g_turn (t_frzR (d := 10) (i := 2) rfl rfl shutR) ?_ | refine o_turn (t_frzR (d := 10) (i := 2) rfl rfl shutR) ?_
          repeat' first|(apply n3;(exact a_litE eW [_] rfl rfl rfl rfl rfl rfl rfl rfl);exact rfl;refine dA ?_)|(apply p3;(first|exact pu1|exact a_sub rfl rfl (by omega) (by omega));exact rfl)|refine cd ?_|(apply s3;exact a_appE (fP rfl) rfl rfl rfl rfl nowR (by (simp <;> omega)) (by decide) (by decide) (by exact rfl);exact rfl;exact rfl)|fail
          refine q_again (k - 1,v,l ++ [r]) [0,4] (by exact stk) ?_ ?_
          · dsimp only
            refine ⟨by omega,m1,by omega,by simp; omega,?_⟩
            rw [← k4,show k.toNat = (k - 1).toNat + 1 by omega,dlF,← x1,← x2]
          · dsimp only; omega
    · have v0 : k.toNat = 0 := by omega
      rw [v0,dlF] at k4
      rw [← k4]
      repeat refine cr ?_
      refine ends_id ?_
      refine endK [?_] (h2 := ?_) (h3 := ?_) (nd := ?_)
      rotate_left 1
      all_goals (repeat' first|exact ce0|refine ce ?_|refine ce2 ?_ ?_|(refine Or.inr (bx_eq rfl rfl ?_);(try dsimp only [C.ren,C.ren.all]);(try exact rfl))|exact SVLe.refl|refine ceb ?_)
      all_goals first | exact (show nodupB _ = true from rfl) | exact Or.inr rfl | (rfl)
end Go.Proofs.Ytjifedbidnmapaa
end
section
set_option linter.unusedVariables false
set_option linter.unusedSimpArgs false
set_option maxRecDepth 100000
set_option maxHeartbeats 4000000
namespace Go.Proofs.Ytjifedbidnmapaa
open Go Foot
@[irreducible] def j1S (s : Src) : Src := pkS s 3
@[irreducible] def j1N (s : Src) : Int := 1 + pkV s 3
@[irreducible] def j1D (s : Src) : Int := 1 + pkV (j1S s) 2
@[irreducible] def j2S (s : Src) : Src := pkS (j1S s) 2
@[irreducible] def j3W (s : Src) : List (List Int) := (dlO (j1N s) (j2S s) (j1N s)).1
@[irreducible] def j3S (s : Src) : Src := (dlO (j1N s) (j2S s) (j1N s)).2
@[irreducible] def j4S (s : Src) : Src := pkS (j3S s) 2
@[irreducible] def j4B (s : Src) : Bool := decide (pkV (j3S s) 2 = 0)
@[irreducible] def j5H (s : Src) : List Int := bif j4B s then [pkV (j4S s) (j1N s)] else []
@[irreducible] def j5S (s : Src) : Src := bif j4B s then pkS (j4S s) (j1N s) else j4S s
@[irreducible] def j6K (s : Src) : Int := pkV (j5S s) 7
@[irreducible] def j6S (s : Src) : Src := pkS (j5S s) 7
@[irreducible] def j7Q (s : Src) : List Int := (drO (j1N s) (j6S s) (j6K s)).1
@[irreducible] def j7T (s : Src) : Tg := ⟨j1D s,j3W s,j5H s⟩
structure JtOk (s : Src) : Prop where
  g1 : SrOk (j1S s)
  p1 : (j1S s).pl ≤ s.pl + 2
  n : 1 ≤ j1N s ∧ j1N s ≤ 3
  d : 1 ≤ j1D s ∧ j1D s ≤ 2
  g2 : SrOk (j2S s)
  p2 : (j2S s).pl ≤ s.pl + 4
  w : DlOk (j1N s) (j2S s) (j1N s)
  g3 : SrOk (j3S s)
  p3 : (j3S s).pl ≤ s.pl + 100
  g4 : SrOk (j4S s)
  p4 : (j4S s).pl ≤ s.pl + 102
  h : (j5H s).length ≤ 1 ∧ ∀ x ∈ j5H s,0 ≤ x ∧ x < j1N s
  g5 : SrOk (j5S s)
  p5 : (j5S s).pl ≤ s.pl + 104
  k : 0 ≤ j6K s ∧ j6K s ≤ 6
  g6 : SrOk (j6S s)
  p6 : (j6S s).pl ≤ s.pl + 106
  q : DrOk (j1N s) (j6S s) (j6K s)
theorem jt_ok {s : Src} (g : SrOk s) (h : s.pl ≤ 1000000) : JtOk s := by
  have a1 := pkS_pl s 3
  have a2 := sr_pick (n := 3) g (by omega)
  have a3 := pkV_bd (n := 3) g (by omega)
  have e1 : pkS s 3 = j1S s := by unfold j1S; rfl
  have e2 : 1 + pkV s 3 = j1N s := by unfold j1N; rfl
  rw [e1] at a1 a2
  have b1 := pkS_pl (j1S s) 2
  have b2 := sr_pick (n := 2) a2 (by omega)
  have b3 := pkV_bd (n := 2) a2 (by omega)
  have e3 : pkS (j1S s) 2 = j2S s := by unfold j2S; rfl
  have e4 : 1 + pkV (j1S s) 2 = j1D s := by unfold j1D; rfl
  rw [e3] at b1 b2
  have c := dlO_ok (m := j1N s) (s := j2S s) (n := j1N s) (by omega) b2 (by omega) (by omega) (by omega)
  have c1 := c.src
  have c2 := c.hi
  have e5 : (dlO (j1N s) (j2S s) (j1N s)).2 = j3S s := by unfold j3S; rfl
  rw [e5] at c1 c2
  have d1 := pkS_pl (j3S s) 2
  have d2 := sr_pick (n := 2) c1 (by omega)
  have e6 : pkS (j3S s) 2 = j4S s := by unfold j4S; rfl
  rw [e6] at d1 d2
  have f1 := pkS_pl (j4S s) (j1N s)
  have f2 := sr_pick (n := j1N s) d2 (by omega)
  have f3 := pkV_bd (n := j1N s) d2 (by omega)
  have i1 : (j5H s).length ≤ 1 ∧ ∀ x ∈ j5H s,0 ≤ x ∧ x < j1N s := by
    unfold j5H
    cases j4B s with
    | true => exact ⟨Nat.le_refl _,fun x hx => by rw [cond_true] at hx; rw [List.mem_singleton.1 hx]; exact f3⟩
    | false => exact ⟨Nat.zero_le _,fun x hx => by rw [cond_false] at hx; cases hx⟩
  have i2 : SrOk (j5S s) ∧ (j5S s).pl ≤ (j4S s).pl + 2 := by
    unfold j5S
    cases j4B s with
    | true => exact ⟨f2,f1.2⟩
    | false => exact ⟨d2,by rw [cond_false]; omega⟩
  have j1 := pkS_pl (j5S s) 7
  have j2 := sr_pick (n := 7) i2.1 (by omega)
  have j3 := pkV_bd (n := 7) i2.1 (by omega)
  have e7 : pkS (j5S s) 7 = j6S s := by unfold j6S; rfl
  have e8 : pkV (j5S s) 7 = j6K s := by unfold j6K; rfl
  rw [e7] at j1 j2
  rw [e8] at j3
  have m := drO_ok (m := j1N s) (s := j6S s) (n := j6K s) (by omega) j2 (by omega) (by omega) (by omega)
  exact ⟨a2,by omega,by omega,by omega,b2,by omega,c,c1,by omega,d2,by omega,i1,i2.1,by omega,by omega,j2,by omega,m⟩
theorem jt_v {s : Src} (g : JtOk s) : vTag (j7T s) = true ∧ Gd (j7T s) (j7Q s) ∧ (j7Q s).length ≤ 6 ∧ (∀ x ∈ (j7T s).wo,x.length ≤ 3) := by
  have hw := g.w
  have hq := g.q
  have hn := g.n
  have e1 : (dlO (j1N s) (j2S s) (j1N s)).1 = j3W s := by unfold j3W; rfl
  have e2 : (drO (j1N s) (j6S s) (j6K s)).1 = j7Q s := by unfold j7Q; rfl
  have w1 := hw.len
  have w2 := hw.ok
  have q1 := hq.len
  have q2 := hq.ok
  rw [e1] at w1 w2
  rw [e2] at q1 q2
  have hk := g.k
  have hd := g.d
  have hh := g.h
  have hv : vTag (j7T s) = true := by
    unfold vTag j7T
    simp only [w1,Bool.and_eq_true,decide_eq_true_eq]
    refine ⟨⟨⟨by omega,by omega⟩,rises_1 hh.1,?_⟩,?_⟩
    · unfold inAll
      rw [List.all_eq_true]
      intro x hx
      have := hh.2 x hx
      rw [decide_eq_true_eq]
      omega
    · rw [List.all_eq_true]
      intro x hx
      have h1 := w2 x hx
      unfold tgWord inAll
      rw [Bool.and_eq_true,List.all_eq_true,decide_eq_true_eq]
      exact ⟨fun y hy => by have := h1.2 y hy; rw [decide_eq_true_eq]; omega,by omega⟩
  have w3 : ∀ x ∈ (j7T s).wo,x.length ≤ 3 := fun x hx => (w2 x (by unfold j7T at hx; exact hx)).1
  have w4 : (j7T s).wo = j3W s := by unfold j7T; rfl
  have w5 : (j7T s).ha = j5H s := by unfold j7T; rfl
  refine ⟨hv,⟨fun y hy => by rw [w4,w1]; exact q2 y hy,by omega⟩,by omega,w3⟩
theorem B10Tag_ok (l : List Int) (g : SrOk ⟨l,0,0⟩) : Does Try.prog 5 [.one (shY l)] [] (.tup [(true,[int (j7T ⟨l,0,0⟩).de,.gv 0,.gv 1]),(false,[.gv 2])]) [roW (j7T ⟨l,0,0⟩).wo,roI (j7T ⟨l,0,0⟩).ha,roI (j7Q ⟨l,0,0⟩)] := by
  have gr := jt_ok g (by dsimp only; omega)
  obtain ⟨gg1,z1,hn,hd,gg2,z2,hw,gg3,z3,gg4,z4,hh,gg5,z5,hkk,gg6,z6,hq⟩ := gr
  have e1 : pkS ⟨l,0,0⟩ 3 = j1S ⟨l,0,0⟩ := by unfold j1S; rfl
  have e2 : 1 + pkV ⟨l,0,0⟩ 3 = j1N ⟨l,0,0⟩ := by unfold j1N; rfl
  have e3 : pkS (j1S ⟨l,0,0⟩) 2 = j2S ⟨l,0,0⟩ := by unfold j2S; rfl
  have e4 : 1 + pkV (j1S ⟨l,0,0⟩) 2 = j1D ⟨l,0,0⟩ := by unfold j1D; rfl
  have e5 : (dlO (j1N ⟨l,0,0⟩) (j2S ⟨l,0,0⟩) (j1N ⟨l,0,0⟩)).1 = j3W ⟨l,0,0⟩ := by unfold j3W; rfl
  have e6 : (dlO (j1N ⟨l,0,0⟩) (j2S ⟨l,0,0⟩) (j1N ⟨l,0,0⟩)).2 = j3S ⟨l,0,0⟩ := by unfold j3S; rfl
  have e7 : pkS (j3S ⟨l,0,0⟩) 2 = j4S ⟨l,0,0⟩ := by unfold j4S; rfl
  have f5 : pkV (j5S ⟨l,0,0⟩) 7 = j6K ⟨l,0,0⟩ := by unfold j6K; rfl
  have f6 : pkS (j5S ⟨l,0,0⟩) 7 = j6S ⟨l,0,0⟩ := by unfold j6S; rfl
  have f7 : (drO (j1N ⟨l,0,0⟩) (j6S ⟨l,0,0⟩) (j6K ⟨l,0,0⟩)).1 = j7Q ⟨l,0,0⟩ := by unfold j7Q; rfl
  have f8 : drF (j1N ⟨l,0,0⟩) (j6K ⟨l,0,0⟩).toNat (j6S ⟨l,0,0⟩) [] = drO (j1N ⟨l,0,0⟩) (j6S ⟨l,0,0⟩) (j6K ⟨l,0,0⟩) := by unfold drO; rfl
  have hT : j7T ⟨l,0,0⟩ = ⟨j1D ⟨l,0,0⟩,j3W ⟨l,0,0⟩,j5H ⟨l,0,0⟩⟩ := by unfold j7T; rfl
  rw [hT]
  dsimp only
  have b4 := pkV_bd (n := 2) gg1 (by omega)
  have b1 := pkV_bd (n := 3) g (by omega)
  refine does_of (k := 0) Try.func5 rfl Try.ntmps5 rfl rfl fun w F0 S0 ρ0 => ?_
  dsimp only [argT,argH]
  repeat' first|(apply n3;exact a_nilO eI rfl;exact rfl)|(apply n3;exact a_new (gb := .bx _) rfl;exact rfl;refine dA ?_)|(apply p3;(first|exact pu1|exact a_add rfl rfl (by omega) (by omega));exact rfl)|refine cdn ?_|refine g_reg (id := 0) ?_|refine g_reg (id := 1) ?_|refine g_reg (id := 2) ?_|(apply c4 1;exact callK0 (θ := []) (hD := (srcFrom_ok _));exact rfl;exact rfl;exact rfl;refine dM ?_)|(apply c4 0;exact callK0 (θ := [_]) (hD := (srcPick_ok ⟨l,0,0⟩ 3 g (by dsimp only;omega) (by omega)));exact rfl;exact rfl;exact rfl;refine dM ?_)|fail
  rw [e1,e2]
  repeat' first|(apply n3;(first|exact a_new (gb := .bx _) rfl|exact a_litE eI [] rfl rfl rfl rfl rfl rfl rfl rfl);exact rfl;refine dA ?_)|(apply p3;(first|exact pu1|exact a_add rfl rfl (by omega) (by omega));exact rfl)|refine cdn ?_|refine g_reg (id := 3) ?_|(apply w3;exact a_st_bx rfl rfl rfl rfl (fN rfl rfl) (Nat.le_of_ble_eq_true rfl) rfl;exact rfl;refine dS ?_)|(apply c4 0;exact callK0 (θ := [_]) (hD := (srcPick_ok (j1S ⟨l,0,0⟩) 2 gg1 (by dsimp only at z1;omega) (by omega)));exact rfl;exact rfl;exact rfl;refine dM ?_)|(apply c4 1;exact callK0 (θ := [_]) (hD := (drawWords_ok (pkS (j1S ⟨l,0,0⟩) 2) (j1N ⟨l,0,0⟩) (j1N ⟨l,0,0⟩) (by rw [e3];exact gg2) (by rw [e3];dsimp only at z2;omega) (by omega) (by omega) (by omega) (by omega)));exact rfl;exact rfl;exact rfl;refine dM ?_)|fail
  rw [e3,e4,e5,e6]
  simp only [setRow,scC,List.map_cons,List.map_nil,List.set_cons_zero,List.set_cons_succ,Nat.zero_add,List.getElem?_cons_zero,List.getElem?_cons_succ,List.take_succ_cons,List.take_zero,List.drop_zero,List.cons_append,List.nil_append,List.drop_succ_cons,List.drop_nil,List.append_nil,List.append_eq]
  by_cases hB : pkV (j3S ⟨l,0,0⟩) 2 = 0
  · have f1 : j5H ⟨l,0,0⟩ = [pkV (j4S ⟨l,0,0⟩) (j1N ⟨l,0,0⟩)] := by unfold j5H j4B; rw [decide_eq_true hB]; rfl
    have f2 : pkS (j4S ⟨l,0,0⟩) (j1N ⟨l,0,0⟩) = j5S ⟨l,0,0⟩ := by unfold j5S j4B; rw [decide_eq_true hB]; rfl
    rw [f1]
    repeat' first|(apply p3;(exact pu1);exact rfl)|refine cdn ?_|refine g_reg (id := 4) ?_|(apply c4 0;exact callK0 (θ := [_]) (hD := (srcOne_ok (j3S ⟨l,0,0⟩) 2 gg3 (by dsimp only at z3;omega) (by omega)));exact rfl;exact rfl;exact rfl;refine dM ?_)|(apply g_drN (id := 5) okM [[],[0],[],[],[2,3],[2,3,4],[0,1,2,3,4,5],[0,1,2,3,4,5,6],[0,1,2,3,4,5,6,7]] [([],[]),([],[]),([],[]),([],[]),([],[2]),([0],[]),([1],[4]),([],[]),([],[5])] 2;(focus (refine dp 0 0 [27,28,29,30] [(false,2),(true,0)] (a_pure (sv := .one _) rfl) ?_;refine dp 1 1 [27,28,29,30] [(false,2),(true,0)] (by exact puL) ?_;refine dp 2 0 [25,26,28] [] pu1 ?_;refine dp 3 0 [25,26,27] [] pu1 ?_;refine duN 4 3 [25,26] [] (callD0 (n := _) 0 (θ := [_]) (hD := (srcPick_ok (pkS (j3S ⟨l,0,0⟩) 2) (j1N ⟨l,0,0⟩) (by rw [e7];exact gg4) (by rw [e7];dsimp only at z4;omega) (by omega)))) (by exact rfl) (by exact rfl) ?_;refine duE 5 7 [25,26] [] (atN 0 (fun _ => a_litE eI [_] rfl rfl rfl rfl rfl rfl rfl rfl)) (by exact rfl) (by exact rfl) ?_;refine duE 6 63 [] [] (atS 1 (fun _ hj => a_appE (fP rfl) rfl rfl rfl rfl nowR (by (simp <;> omega)) (by decide) hj (by exact rfl)) (by decide)) (by exact rfl) (by exact rfl) ?_;refine dp 7 127 [] [] (a_pure (sv := .one _) rfl) ?_;refine duE 8 255 [] [] (by exact a_st_bx rfl rfl rfl rfl (fN rfl rfl) (Nat.le_of_ble_eq_true rfl) rfl) (by exact rfl) (by exact rfl) ?_;(refine d_nil ?_;refine dN ?_)));any_goals kernel_rfl)|((refine g_cond rfl (fun hc => ?_) (fun hc => ?_)) <;> (try simp only [dcB] at hc) <;> (try first|contradiction|(exfalso;omega)))|fail
    rw [e7,f2]
    repeat' first|(apply n3;(exact a_litE eI [] rfl rfl rfl rfl rfl rfl rfl rfl);exact rfl;refine dA ?_)|(apply p3;(exact pu1);exact rfl)|refine cd ?_|(apply c4 0;exact callK0 (θ := [_]) (hD := (srcPick_ok (j5S ⟨l,0,0⟩) 7 gg5 (by dsimp only at z5;omega) (by omega)));exact rfl;exact rfl;exact rfl;refine dM ?_)|fail
    rw [f5,f6]
    refine g_loop_id ?_
    refine loopK [2,3,4,5,6] [2,8] (fun y : Int × Src × List Int => 0 ≤ y.1 ∧ SrOk y.2.1 ∧ y.2.1.pl ≤ (j6S ⟨l,0,0⟩).pl + 2 * (j6K ⟨l,0,0⟩ - y.1) ∧ (y.2.2.length : Int) ≤ j6K ⟨l,0,0⟩ - y.1 ∧ drF (j1N ⟨l,0,0⟩) y.1.toNat y.2.1 y.2.2 = drO (j1N ⟨l,0,0⟩) (j6S ⟨l,0,0⟩) (j6K ⟨l,0,0⟩)) (fun y => [(8,.one (int y.1)),(7,.one (.gv 8))]) (fun y => [(2,srB y.2.1),(8,roI y.2.2)]) (fun y => y.1.toNat) (j6K ⟨l,0,0⟩,j6S ⟨l,0,0⟩,([] : List Int)) [0,1,2,3,4,5,6,7,8] (hI := ?_) (hr := ?_)
    · exact ⟨hkk.1,gg6,by simp,by simp,f8⟩
    · rintro ⟨k,u,r⟩ ⟨k0,k2,k3,k4,k5⟩
      dsimp only [List.cons_append,List.nil_append] at *
      skip
      repeat' first|(apply p3;(first|exact pu1|exact puC);exact rfl)|refine cdn ?_|refine g_reg (id := 8) ?_|refine g_reg (id := 11) ?_|(apply w3;exact a_st_bx rfl rfl rfl rfl (fN rfl rfl) (Nat.le_of_ble_eq_true rfl) rfl;exact rfl;refine dS ?_)|((refine g_cond rfl (fun hc => ?_) (fun hc => ?_)) <;> (try simp only [dcB] at hc) <;> (try first|contradiction|(exfalso;omega)))|fail
      · have hp : u.pl ≤ 999999999999999998 := by omega
        have v1 := pkS_pl u (j1N ⟨l,0,0⟩)
        have v2 := sr_pick (n := (j1N ⟨l,0,0⟩)) k2 hp
        repeat' first|(apply n3;(exact a_litE eI [_] rfl rfl rfl rfl rfl rfl rfl rfl);exact rfl;refine dA ?_)|(apply p3;(first|exact pu1|exact a_sub rfl rfl (by omega) (by omega));exact rfl)|refine cd ?_|(apply s3;exact a_appE (fP rfl) rfl rfl rfl rfl nowR (by (simp <;> omega)) (by decide) (by decide) (by exact rfl);exact rfl;exact rfl)|(apply c4 0;exact callK0 (θ := [_]) (hD := (srcPick_ok u (j1N ⟨l,0,0⟩) k2 hp (by omega)));exact rfl;exact rfl;exact rfl;refine dM ?_)|fail
        refine q_again (k - 1,pkS u (j1N ⟨l,0,0⟩),r ++ [pkV u (j1N ⟨l,0,0⟩)]) [0,1,2,3,4,5,6,7,10] (by exact stk) ?_ ?_
        · dsimp only
          refine ⟨by omega,v2,by omega,by simp; omega,?_⟩
          rw [← k5,show k.toNat = (k - 1).toNat + 1 by omega,drF]
        · dsimp only; omega
      · have v0 : k.toNat = 0 := by omega
        rw [v0,drF] at k5
        have x1 := congrArg Prod.fst k5
        dsimp only at x1
        rw [f7] at x1
        rw [← x1]
        skip
        repeat refine cr ?_
        refine ends_id ?_
        refine endK [?_,?_,?_] (h2 := ?_) (h3 := ?_) (nd := ?_)
        rotate_left 3
        all_goals (repeat' first|exact ce0|refine ce ?_|refine ce2 ?_ ?_|(refine Or.inr (bx_eq rfl rfl ?_);(try dsimp only [C.ren,C.ren.all]);(try exact rfl))|exact SVLe.refl|refine ceb ?_)
        all_goals first | exact (show nodupB _ = true from rfl) | exact Or.inr rfl | (rfl)
  · have f1 : j5H ⟨l,0,0⟩ = [] := by unfold j5H j4B; rw [decide_eq_false hB]; rfl
    have f2 : j4S ⟨l,0,0⟩ = j5S ⟨l,0,0⟩ := by unfold j5S j4B; rw [decide_eq_false hB]; rfl
    rw [f1]
    repeat' first|(apply p3;(exact pu1);exact rfl)|refine cdn ?_|refine g_reg (id := 4) ?_|(apply c4 0;exact callK0 (θ := [_]) (hD := (srcOne_ok (j3S ⟨l,0,0⟩) 2 gg3 (by dsimp only at z3;omega) (by omega)));exact rfl;exact rfl;exact rfl;refine dM ?_)|((refine g_cond rfl (fun hc => ?_) (fun hc => ?_)) <;> (try simp only [dcB] at hc) <;> (try first|contradiction|(exfalso;omega)))|fail
    rw [e7,f2]
    repeat' first|(apply n3;(exact a_litE eI [] rfl rfl rfl rfl rfl rfl rfl rfl);exact rfl;refine dA ?_)|(apply p3;(exact pu1);exact rfl)|refine cd ?_|(apply c4 0;exact callK0 (θ := [_]) (hD := (srcPick_ok (j5S ⟨l,0,0⟩) 7 gg5 (by dsimp only at z5;omega) (by omega)));exact rfl;exact rfl;exact rfl;refine dM ?_)|fail
    rw [f5,f6]
    refine g_loop_id ?_
    refine loopK [2,3,4,5,6] [2,6] (fun y : Int × Src × List Int => 0 ≤ y.1 ∧ SrOk y.2.1 ∧ y.2.1.pl ≤ (j6S ⟨l,0,0⟩).pl + 2 * (j6K ⟨l,0,0⟩ - y.1) ∧ (y.2.2.length : Int) ≤ j6K ⟨l,0,0⟩ - y.1 ∧ drF (j1N ⟨l,0,0⟩) y.1.toNat y.2.1 y.2.2 = drO (j1N ⟨l,0,0⟩) (j6S ⟨l,0,0⟩) (j6K ⟨l,0,0⟩)) (fun y => [(8,.one (int y.1)),(7,.one (.gv 6))]) (fun y => [(2,srB y.2.1),(6,roI y.2.2)]) (fun y => y.1.toNat) (j6K ⟨l,0,0⟩,j6S ⟨l,0,0⟩,([] : List Int)) [0,1,2,3,4,5,6] (hI := ?_) (hr := ?_)
    · exact ⟨hkk.1,gg6,by simp,by simp,f8⟩
    · rintro ⟨k,u,r⟩ ⟨k0,k2,k3,k4,k5⟩
      dsimp only [List.cons_append,List.nil_append] at *
      skip
      repeat' first|(apply p3;(first|exact pu1|exact puC);exact rfl)|refine cdn ?_|refine g_reg (id := 8) ?_|refine g_reg (id := 11) ?_|(apply w3;exact a_st_bx rfl rfl rfl rfl (fN rfl rfl) (Nat.le_of_ble_eq_true rfl) rfl;exact rfl;refine dS ?_)|((refine g_cond rfl (fun hc => ?_) (fun hc => ?_)) <;> (try simp only [dcB] at hc) <;> (try first|contradiction|(exfalso;omega)))|fail
      · have hp : u.pl ≤ 999999999999999998 := by omega
        have v1 := pkS_pl u (j1N ⟨l,0,0⟩)
        have v2 := sr_pick (n := (j1N ⟨l,0,0⟩)) k2 hp
        repeat' first|(apply n3;(exact a_litE eI [_] rfl rfl rfl rfl rfl rfl rfl rfl);exact rfl;refine dA ?_)|(apply p3;(first|exact pu1|exact a_sub rfl rfl (by omega) (by omega));exact rfl)|refine cd ?_|(apply s3;exact a_appE (fP rfl) rfl rfl rfl rfl nowR (by (simp <;> omega)) (by decide) (by decide) (by exact rfl);exact rfl;exact rfl)|(apply c4 0;exact callK0 (θ := [_]) (hD := (srcPick_ok u (j1N ⟨l,0,0⟩) k2 hp (by omega)));exact rfl;exact rfl;exact rfl;refine dM ?_)|fail
        refine q_again (k - 1,pkS u (j1N ⟨l,0,0⟩),r ++ [pkV u (j1N ⟨l,0,0⟩)]) [0,1,2,3,4,5,8] (by exact stk) ?_ ?_
        · dsimp only
          refine ⟨by omega,v2,by omega,by simp; omega,?_⟩
          rw [← k5,show k.toNat = (k - 1).toNat + 1 by omega,drF]
        · dsimp only; omega
      · have v0 : k.toNat = 0 := by omega
        rw [v0,drF] at k5
        have x1 := congrArg Prod.fst k5
        dsimp only at x1
        rw [f7] at x1
        rw [← x1]
        skip
        repeat refine cr ?_
        refine ends_id ?_
        refine endK [?_,?_,?_] (h2 := ?_) (h3 := ?_) (nd := ?_)
        rotate_left 3
        all_goals (repeat' first|exact ce0|refine ce ?_|refine ce2 ?_ ?_|(refine Or.inr (bx_eq rfl rfl ?_);(try dsimp only [C.ren,C.ren.all]);(try exact rfl))|exact SVLe.refl|refine ceb ?_)
        all_goals first | exact (show nodupB _ = true from rfl) | exact Or.inr rfl | (rfl)
end Go.Proofs.Ytjifedbidnmapaa
end
section
set_option linter.unusedVariables false
set_option linter.unusedSimpArgs false
set_option maxRecDepth 100000
set_option maxHeartbeats 4000000
namespace Go.Proofs.Ytjifedbidnmapaa
open Go Foot
theorem jt_b {s : Src} (g : JtOk s) : ((j7T s).wo.length : Int) ≤ 3 ∧ (j7T s).de ≤ 2 ∧ (j7T s).ha.length ≤ 1 := by
  have hw := g.w
  have hn := g.n
  have hd := g.d
  have hh := g.h
  have e1 : (dlO (j1N s) (j2S s) (j1N s)).1 = j3W s := by unfold j3W; rfl
  have w1 := hw.len
  rw [e1] at w1
  have e2 : j7T s = ⟨j1D s,j3W s,j5H s⟩ := by unfold j7T; rfl
  rw [e2]
  exact ⟨by dsimp only; omega,hd.2,hh.1⟩
theorem preB251 {p : Prop} (h : p := by first | with_reducible assumption | omega | (simp only [List.length_append,List.length_cons,List.length_nil,List.length_set,List.length_replicate,List.length_take,List.length_drop,List.length_tail,List.length_dropLast,List.length_reverse] at *; omega) | exact mem_len (by assumption) (by omega) | (with_reducible refine Int.le_trans (Int.ofNat_le.2 (trimR_len _)) ?_; simp only [List.length_cons,List.length_tail]; omega) | (exact (ruAt_ok (by assumption) (by assumption) (by assumption)).2.1) | (exact (ruAt_ok (by assumption) (by assumption) (by assumption)).2.1) | (have := vMach_bd (by assumption); omega) | (simp only [List.length_append,List.length_cons,List.length_nil,repW_len,seN_len] at *; omega) | (simp only [mC_ch,mC_tu]; omega) | (have := vTag_bd (by assumption); omega) | (have := (‹Gd _ _›).le; omega) | (exact tgHalts_no (by assumption)) | (exact tgHead (by assumption) (by assumption) (by assumption)) | (exact Int.le_trans (tgStep_gd (by assumption) (by assumption) (by assumption) (by assumption)).le (by decide)) | (exact vTag_r (by assumption)) | (with_reducible refine Int.le_trans (Int.ofNat_le.2 (pushL_len _ _)) ?_; simp only [List.length_dropLast]; omega) | exact ls_at (by assumption) (by omega) | exact pt_gd (by assumption) | exact lv_at (by assumption) (by omega) | exact pt_gd (lv_at (by assumption) (by omega)) | exact (ask_ok (by assumption)).1 | exact (ask_ok (by assumption)).2.1 | exact (ask_ok (by assumption)).2.2.1 | exact (ask_ok (by assumption)).2.2.2 | trivial) : p := h
theorem lawTagged (c : List Int) (hc : (c.length : Int) ≤ 9223372036854775807) (hcb : ∀ x ∈ c,0 ≤ x ∧ x ≤ 255) : Does Try.prog 3 [.one (shY c)] [] (.one (boo true)) [] := by
  by_cases hL : (c.length : Int) > 1048576
  · refine does_of (k := 0) Try.func3 rfl Try.ntmps3 rfl rfl fun w F0 S0 ρ0 => ?_
    dsimp only [argT,argH]
    repeat' first|(apply p3;(exact pu1);exact rfl)|refine cd ?_|(apply c4 0;exact callK1 (θ := []) (hD := (b10Long_ok _ preB251));exact rfl;exact rfl;exact rfl;refine dM ?_)|((refine g_cond rfl (fun hc => ?_) (fun hc => ?_)) <;> (try simp only [dcB] at hc) <;> (try first|contradiction|(exfalso;omega)))|fail
    repeat refine cr ?_
    refine ends_id ?_
    refine endK [] (h2 := ?_) (h3 := ?_) (nd := ?_)
    all_goals (repeat' first|exact ce0|refine ce ?_|refine ce2 ?_ ?_|exact SVLe.refl|refine ceb ?_)
    all_goals first | exact (show nodupB _ = true from rfl) | exact Or.inr rfl | (rfl)
  have g : SrOk ⟨c,0,0⟩ := ⟨hc,⟨by dsimp only; omega,by dsimp only; omega⟩,hcb⟩
  have gj := jt_ok g (by dsimp only; omega)
  obtain ⟨hv,hg,hq6,hw3⟩ := jt_v gj
  obtain ⟨hn3,hd2,hh1⟩ := jt_b gj
  refine does_of (k := 0) Try.func3 rfl Try.ntmps3 rfl rfl fun w F0 S0 ρ0 => ?_
  dsimp only [argT,argH]
  repeat' first|(apply n3;exact a_new (gb := .bx _) rfl;exact rfl;refine dA ?_)|(apply p3;exact pu1;exact rfl)|refine cdn ?_|refine g_reg (id := 0) ?_|refine g_reg (id := 1) ?_|refine g_reg (id := 3) ?_|(apply w3;exact a_st_bx rfl rfl rfl rfl (fN rfl rfl) (Nat.le_of_ble_eq_true rfl) rfl;exact rfl;refine dS ?_)|(apply c4 0;exact callK1 (θ := []) (hD := (b10Long_ok _ preB251));exact rfl;exact rfl;exact rfl;refine dM ?_)|(apply c4 3;exact callK0 (θ := []) (hD := (B10Tag_ok c g));exact rfl;exact rfl;exact rfl;refine dM ?_)|((refine g_cond rfl (fun hc => ?_) (fun hc => ?_)) <;> (try simp only [dcB] at hc) <;> (try first|contradiction|(exfalso;omega)))|fail
  generalize j7T ⟨c,0,0⟩ = T at *
  generalize j7Q ⟨c,0,0⟩ = Q at *
  refine g_turn (t_freeze (i := 0) rfl nowR) ?_
  refine g_turn (t_freeze (i := 1) rfl nowR) ?_
  refine g_turn (t_freeze (i := 2) rfl nowR) ?_
  simp only [setRow,C.frz.all,C.frz,SV.frz,tFrz,List.map_cons,List.map_nil,scC,List.set_cons_zero,List.set_cons_succ,Nat.zero_add,List.getElem?_cons_zero,List.getElem?_cons_succ,List.take_succ_cons,List.take_zero,List.drop_zero]
  have hno : NoOv T 10 Q := noOv_small hv hw3 10 Q hg (by omega)
  have hwo : ∀ x ∈ T.wo,(x.length : Int) ≤ 16777216 := fun x hx => by have := hw3 x hx; omega
  have rA : RnOk T Q 10 := ⟨hv,hg,by omega,hwo,hno⟩
  have hX := rnT_gd hv hno hg
  have eqq : eqI Q Q = true := by unfold eqI; simp
  repeat' first|(apply p3;(first|exact pu1|exact a_ne rfl rfl);exact rfl)|refine cdn ?_|refine g_reg (id := 4) ?_|refine g_reg (id := 5) ?_|refine g_reg (id := 6) ?_|refine g_reg (id := 7) ?_|refine g_reg (id := 8) ?_|(apply c4 0;exact callF (hD := (RunTag_ok T Q 10 rA (by omega) (by omega)));exact rfl;exact rfl;exact rfl;refine dM ?_)|(apply c4 0;exact callK0 (θ := []) (hD := (WordOfTag_ok T Q hv hg (by omega) (by omega) hwo (by omega)));exact rfl;exact rfl;exact rfl;refine dM ?_)|(apply c4 0;exact callF (hD := (TagOfWord_ok T Q hv hg.wd (by omega) (by omega) hwo (by omega)));exact rfl;exact rfl;exact rfl;refine dM ?_)|(apply py3;exact rfl;exact rfl;(first|exact pu1|exact a_ne rfl rfl);exact rfl;exact rfl)|(apply cy4 0;exact rfl;exact rfl;exact callK1 (θ := []) (hD := (b10Nums_ok _ _ preB251 preB251));exact rfl;exact rfl;exact rfl;exact rfl;refine dM ?_)|((refine g_cond rfl (fun hc => ?_) (fun hc => ?_)) <;> (try simp only [dcB] at hc) <;> (try first|contradiction|(exfalso;omega)))|fail
  all_goals first | (exfalso; rw [eqq] at hc; cases hc; done) | skip
  repeat' first|(apply p3;(first|exact pu1|exact a_ne rfl rfl);exact rfl)|refine cdn ?_|refine g_reg (id := 9) ?_|refine g_reg (id := 10) ?_|(apply c4 0;exact callK0 (θ := []) (hD := (RunTagByMarkov_ok T Q 400 hv hg (by omega) (by omega) hd2 hw3 (by omega) (by omega) (by omega)));exact rfl;exact rfl;exact rfl;refine dM ?_)|fail
  have eEE : ∀ E : List Int,eqI E E = true := fun E => by unfold eqI; simp
  rw [show Int.toNat 400 = 400 from rfl,show Int.toNat 10 = 10 from rfl]
  have hXl := hX.le
  cases hh : (rnT T 10 Q).2.2 with
  | false =>
    repeat' first|(apply p3;(exact pu1);exact rfl)|refine cd ?_|refine o_no rfl rfl rfl rfl ?_|fail
    repeat refine cr ?_
    refine ends_id ?_
    refine endK [] (h2 := ?_) (h3 := ?_) (nd := ?_)
    all_goals (repeat' first|exact ce0|refine ce ?_|refine ce2 ?_ ?_|exact SVLe.refl|refine ceb ?_)
    all_goals first | exact (show nodupB _ = true from rfl) | exact Or.inr rfl | (rfl)
  | true =>
    obtain ⟨K,eK,hK⟩ := rmk_run hv hw3 10 Q 400 0 Q hg.wd hh (by omega)
    rw [eK]
    generalize (rnT T 10 Q).2.1 = N at *
    generalize (rnT T 10 Q).1 = E at *
    dsimp only
    have hEl : (E.length : Int) ≤ 16777216 := by omega
    have hEE := eEE E
    repeat' first|(apply p3;(exact pu1);exact rfl)|refine cd ?_|(apply py3;exact rfl;exact rfl;(first|exact pu1|exact puC);exact rfl;exact rfl)|(apply cy4 0;exact rfl;exact rfl;exact callK1 (θ := []) (hD := (b10Nums_ok E E hEl hEl));exact rfl;exact rfl;exact rfl;exact rfl;refine dM ?_)|((refine o_gs rfl rfl (fun hc => ?_) (fun hc => ?_)) <;> (try simp only [dcB] at hc) <;> (try first|contradiction|(exfalso;omega)))|fail
    rw [hEE]
    repeat refine cr ?_
    refine ends_id ?_
    refine endK [] (h2 := ?_) (h3 := ?_) (nd := ?_)
    all_goals (repeat' first|exact ce0|refine ce ?_|refine ce2 ?_ ?_|exact SVLe.refl|refine ceb ?_)
    all_goals first | exact (show nodupB _ = true from rfl) | exact Or.inr rfl | (rfl)
end Go.Proofs.Ytjifedbidnmapaa
end
