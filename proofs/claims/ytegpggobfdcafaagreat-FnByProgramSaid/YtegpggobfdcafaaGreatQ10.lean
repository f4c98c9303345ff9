/- Parts of the proof (10 of 19). -/
import Derived.Test.YtegpggobfdcafaaGreatChecked
import Derived.Test.YtegpggobfdcafaaGreatQ9
section
set_option linter.unusedVariables false
set_option linter.unusedSimpArgs false
set_option maxRecDepth 100000
set_option maxHeartbeats 4000000
namespace Go.Proofs.YtegpggobfdcafaaGreat
open Go Foot
abbrev shI (l : List Int) : C := .d (.sl false 1 (rows eI l))
abbrev roI (l : List Int) : GB := .row 1 (rows eI l)
theorem get_getD {α : Type} (l : List α) (d : α) (i : Nat) (h : i < l.length) : l[i] = l.getD i d := by rw [List.getD_eq_getElem?_getD,List.getElem?_eq_getElem h]; rfl
abbrev inB (x lo hi : Int) : Bool := decide (lo ≤ x ∧ x ≤ hi)
theorem l00In_ok (x lo hi : Int) : Does Tryz.prog 115 [.one (int x),.one (int lo),.one (int hi)] [] (.one (boo (inB x lo hi))) [] := by
  refine does_of (k := 0) Tryz.func115 rfl Tryz.ntmps115 rfl rfl fun w F0 S0 ρ0 => ?_
  dsimp only [argT,argH]
  repeat' first|(apply p3;(first|exact pu1|exact puC);exact rfl)|refine cd ?_|refine o_no rfl rfl rfl rfl ?_|(apply py3;exact rfl;exact rfl;(first|exact pu1|exact puC);exact rfl;exact rfl)|((refine o_gs rfl rfl (fun hc => ?_) (fun hc => ?_)) <;> (try simp only [dcB] at hc) <;> (try first|contradiction|(exfalso;omega)))|fail
  all_goals
    repeat refine cr ?_
    refine ends_id ?_
    refine endK [] (h2 := ?_) (h3 := ?_) (nd := ?_)
    all_goals (repeat' first|exact ce0|refine ce ?_|refine ce2 ?_ ?_|exact SVLe.refl|refine ceb ?_)
    all_goals first | exact (show nodupB _ = true from rfl) | exact Or.inr rfl | ((first | (symm; simp; omega) | simp [*]))
theorem within_ok (x lo hi : Int) : Does Tryz.prog 105 [.one (int x),.one (int lo),.one (int hi)] [] (.one (boo (inB x lo hi))) [] := by
  refine does_of (k := 0) Tryz.func105 rfl Tryz.ntmps105 rfl rfl fun w F0 S0 ρ0 => ?_
  dsimp only [argT,argH]
  repeat' first|(apply p3;(first|exact pu1|exact puC);exact rfl)|refine cd ?_|refine o_no rfl rfl rfl rfl ?_|(apply py3;exact rfl;exact rfl;(first|exact pu1|exact puC);exact rfl;exact rfl)|((refine o_gs rfl rfl (fun hc => ?_) (fun hc => ?_)) <;> (try simp only [dcB] at hc) <;> (try first|contradiction|(exfalso;omega)))|fail
  all_goals
    repeat refine cr ?_
    refine ends_id ?_
    refine endK [] (h2 := ?_) (h3 := ?_) (nd := ?_)
    all_goals (repeat' first|exact ce0|refine ce ?_|refine ce2 ?_ ?_|exact SVLe.refl|refine ceb ?_)
    all_goals first | exact (show nodupB _ = true from rfl) | exact Or.inr rfl | ((first | (symm; simp; omega) | simp [*]))
@[irreducible] def eqI (a b : List Int) : Bool := decide (a = b)
theorem take_next {α : Type} {xs ys : List α} {i : Int} (h0 : 0 ≤ i) (hx : i.toNat < xs.length) (hy : i.toNat < ys.length) (h : xs.take i.toNat = ys.take i.toNat) (he : xs[i.toNat] = ys[i.toNat]) : xs.take (i + 1).toNat = ys.take (i + 1).toNat := by
  rw [show (i + 1).toNat = i.toNat + 1 by omega,List.take_succ_eq_append_getElem hx,List.take_succ_eq_append_getElem hy,h,he]
theorem take_end {α : Type} {xs ys : List α} {i : Int} (hx : ¬ i < xs.length) (hl : xs.length = ys.length) (h : xs.take i.toNat = ys.take i.toNat) : xs = ys := by
  rw [List.take_of_length_le (by omega),List.take_of_length_le (by omega)] at h
  exact h
end Go.Proofs.YtegpggobfdcafaaGreat
end
section
set_option linter.unusedVariables false
set_option linter.unusedSimpArgs false
set_option maxRecDepth 100000
set_option maxHeartbeats 4000000
namespace Go.Proofs.YtegpggobfdcafaaGreat
open Go Foot
structure Rule' where
  w : Int
  m : Int
  n : Int
  deriving DecidableEq
abbrev eR : Enc Rule' := ⟨3,fun r => [.sc (.int .i64 r.w),.sc (.int .i64 r.m),.sc (.int .i64 r.n)],fun _ => rfl,by decide⟩
abbrev shR (l : List Rule') : C := .d (.sl false 3 (rows eR l))
abbrev ruC (r : Rule') : List C := [int r.w,int r.m,int r.n]
structure Mach where
  sy : Int
  st : Int
  ru : List Rule'
abbrev maC (m : Mach) : List C := [int m.sy,int m.st,shR m.ru]
structure Conf where
  st : Int
  le : List Int
  ri : List Int
abbrev coC (c : Conf) : List C := [int c.st,shI c.le,shI c.ri]
end Go.Proofs.YtegpggobfdcafaaGreat
end
section
set_option linter.unusedVariables false
set_option linter.unusedSimpArgs false
set_option maxRecDepth 100000
namespace Go.Proofs.YtegpggobfdcafaaGreat
open Go Foot
def C.frz (H : List GB) : C → C
  | .d x => .d x
  | .gv j => match H[j]? with | some (.row z xs) => .d (.sl false z xs) | _ => .d .junk
  | .gp _ _ => .d .junk
  | .gs _ _ _ _ => .d .junk
  | .ifc t ag cs => .ifc t ag (all cs)
  | .fn k cs => .fn k (all cs)
where
  all : List C → List C
  | [] => []
  | c :: cs => c.frz H :: all cs
def tFrz (H : List GB) : List (Bool × List C) → List (Bool × List C)
  | [] => []
  | (ag,cs) :: l => (ag,C.frz.all H cs) :: tFrz H l
def SV.frz (H : List GB) : SV → SV
  | .one c => .one (c.frz H)
  | .agg cs => .agg (C.frz.all H cs)
  | .tup l => .tup (tFrz H l)
  | .any => .any
def GB.rowNo : GB → Prop
  | .row _ xs => D.noOwn.all xs
  | .dead => True
  | _ => False
def rowsNo : List GB → Prop
  | [] => True
  | gb :: l => gb.rowNo ∧ rowsNo l
theorem rowsNo_get : ∀ {H : List GB} {i : Nat} {gb : GB},rowsNo H → H[i]? = some gb → gb.rowNo
  | [],i,gb,_,h => by simp at h
  | g0 :: l,0,gb,h,hi => by simp at hi; subst hi; exact h.1
  | g0 :: l,i + 1,gb,h,hi => rowsNo_get h.2 (by simpa using hi)
section
variable {w : World} {S S' : Foot} {ρ ρ' : Env} {N : Nat} {H : List GB}
structure Frz (w : World) (S S' : Foot) (ρ ρ' : Env) (N : Nat) (H : List GB) : Prop where
  le : Foot.le S S'
  row : ∀ j z xs v,H[j]? = some (.row z xs) → ρ (N + j) = some v → Rep w S' (.sl false z xs) v no
mutual
theorem RepC.frz (hF : Frz w S S' ρ ρ' N H) : ∀ {c : C} {v : Value},RepC w S ρ (c.ren (calF [] N)) v → RepC w S' ρ' (c.frz H) v
  | .d x,v,h => Rep.keep h Agree.no (Agree.refl _ _) hF.le (le_refl _)
  | .gv j,v,h => by
    have h1 : RepC w S ρ (.gv (N + j)) v := h
    unfold C.frz
    split
    · rename_i z xs e
      exact hF.row j z xs v e h1.1
    · exact h1.2
  | .gp j o,v,h => RepC.one (c := .gp (calF [] N j) o) h
  | .gs j z lo hi,v,h => RepC.one (c := .gs (calF [] N j) z lo hi) h
  | .ifc t ag cs,v,h => by
    simp only [C.ren,RepC] at h
    simp only [C.frz,RepC]
    obtain ⟨u,rfl,h⟩ := h
    refine ⟨u,rfl,?_⟩
    cases ag with
    | true => simp only [if_true] at h ⊢; obtain ⟨vs,rfl,h⟩ := h; exact ⟨vs,rfl,RepCs.frz hF h⟩
    | false => simp only [Bool.false_eq_true,if_false] at h ⊢; exact RepCs.frz hF h
  | .fn k cs,v,h => by
    simp only [C.ren,RepC] at h
    simp only [C.frz,RepC]
    obtain ⟨vs,rfl,h⟩ := h
    exact ⟨vs,rfl,RepCs.frz hF h⟩
theorem RepCs.frz (hF : Frz w S S' ρ ρ' N H) : ∀ {cs : List C} {vs : List Value},RepCs w S ρ (C.ren.all (calF [] N) cs) vs → RepCs w S' ρ' (C.frz.all H cs) vs
  | [],vs,h => h
  | c :: cs,vs,h => by
    simp only [C.ren.all,RepCs] at h
    simp only [C.frz.all,RepCs]
    obtain ⟨v,us,rfl,h1,h2⟩ := h
    exact ⟨v,us,rfl,RepC.frz hF h1,RepCs.frz hF h2⟩
end
theorem RepT.frz (hF : Frz w S S' ρ ρ' N H) : ∀ {l : List (Bool × List C)} {vs : List Value},RepT w S ρ (tRen (calF [] N) l) vs → RepT w S' ρ' (tFrz H l) vs
  | [],vs,h => h
  | (ag,cs) :: l,vs,h => by
    simp only [tRen,RepT] at h
    simp only [tFrz,RepT]
    obtain ⟨v,us,rfl,h1,h2⟩ := h
    refine ⟨v,us,rfl,?_,RepT.frz hF h2⟩
    unfold RepU at *
    cases ag with
    | true => simp only [if_true] at *; obtain ⟨vs,rfl,h⟩ := h1; exact ⟨vs,rfl,RepCs.frz hF h⟩
    | false => simp only [Bool.false_eq_true,if_false] at *; exact RepCs.frz hF h1
theorem RepS.frz (hF : Frz w S S' ρ ρ' N H) {sv : SV} {v : Value} (h : RepS w S ρ (sv.ren (calF [] N)) v) : RepS w S' ρ' (sv.frz H) v := by
  cases sv with
  | one c => exact RepC.frz hF h
  | agg cs => obtain ⟨vs,rfl,h⟩ := h; exact ⟨vs,rfl,RepCs.frz hF h⟩
  | tup l => obtain ⟨us,rfl,h⟩ := h; exact ⟨us,rfl,RepT.frz hF h⟩
  | any => trivial
end
section
variable {P : Program} {g : Gh} {st : St} {dst : Option Tmp} {ty : TypeId} {pos : String} {after : Array Edge} {guard : Option (Nat × Bool)} {x : Operand}
theorem acts_frz {o : Oper} {H' : List GB} {res : SV} (hA : ∀ N,Acts P g o st (res.ren (calF [] N)) [] (upOf (calF [] N) 0 H')) (hno : rowsNo H') : Acts P g o st (res.frz H') [] [] := by
  refine ⟨fun a w S ρ F h hfr K Q hK => ?_⟩
  obtain ⟨N,hN⟩ := h.fin
  have hkey : ∀ i gb,(i,gb) ∈ upOf (calF [] N) 0 H' → N ≤ i := fun i gb hm => by
    obtain ⟨k,gb',q1,q2⟩ := upOf_mem hm
    obtain ⟨e1,_⟩ := Prod.mk.inj q2
    rw [e1]
    show N ≤ N + (0 + k)
    omega
  refine (hA N).run a w S ρ F h (fun x hx => .inr (hN _ (hkey _ _ hx))) K Q fun v w' S1 ρ' F' hd hv => ?_
  let S2 : Foot := fun b o => S1 b o ∨ ∃ j gb,H'[j]? = some gb ∧ GB.lives gb = true ∧ F' (N + j) b o
  have hmem : ∀ j gb,H'[j]? = some gb → (N + j,gb.ren (calF [] N)) ∈ upOf (calF [] N) 0 H' := fun j gb hj => by
    have key : ∀ (l : List GB) (k j : Nat),l[j]? = some gb → (N + (k + j),gb.ren (calF [] N)) ∈ upOf (calF [] N) k l := by
      intro l
      induction l with
      | nil => intro k j hj; simp at hj
      | cons g0 l ih =>
        intro k j hj
        cases j with
        | zero => simp at hj; subst hj; simp [upOf,calF]
        | succ j =>
          have := ih (k + 1) j (by simpa using hj)
          rw [show k + (j + 1) = k + 1 + j by omega]
          simp [upOf,this]
    have := key H' 0 j hj
    rwa [Nat.zero_add] at this
  have hdone : Done w w' S S2 ρ ρ F F [] [] := by
    refine ⟨fun g hg => by simp at hg,hd.keeps,?_,?_,Env.le.refl _,fun i hi _ => hi,fun x hx => by simp at hx,fun x hx => by simp at hx,fun x hx => by simp at hx,fun x hx => by simp at hx,fun x hx => by simp at hx⟩
    · rintro b o (hb | ⟨j,gb,hj,_,hb⟩)
      · exact hd.newS b o hb
      · exact hd.own _ (hmem j gb hj) b o hb
    · rintro b o (hb | ⟨j,gb,hj,_,hb⟩)
      · exact hd.exS b o hb
      · exact hd.ex _ (hmem j gb hj) b o hb
  refine hK v w' S2 ρ F hdone (RepS.frz (S := S.or S1) (ρ := ρ') (N := N) ⟨?_,?_⟩ hv)
  · rintro b o (hb | hb)
    · exact .inl hb
    · exact .inr (.inl hb)
  · intro j z xs v' hj hv'
    rcases hd.rep _ (hmem j _ hj) with e | ⟨u,e1,e2⟩
    · cases e
    · simp only at e1 e2
      rw [hv'] at e1
      cases e1
      have e3 : Rep w' (S.or S1) (.sl true z xs) v' (F' (N + j)) := e2
      have hno' : D.noOwn.all xs := rowsNo_get hno hj
      refine (sl_freeze e3 hno').keep Agree.no (Agree.refl _ _) ?_ (le_refl _)
      rintro b o (hb | hb)
      · rcases hb with hb | hb
        · exact .inl hb
        · exact .inr (.inl hb)
      · exact .inr (.inr ⟨j,_,hj,rfl,hb⟩)
theorem a_callF {f : Nat} {c0 : C} {cap : List C} {xs : List Operand} {Ts : Array TypeId} {ags : List SV} {H' : List GB} {res : SV} {ld : List Nat}
    (hD : Does P f ags [] res H') (hc : opd st x = .one c0) (hv : fnv c0 = some (.func f,cap)) (hE : entB P f = true)
    (ha : ASLe st.h ld (xs.map (opd st) ++ cap.map .one) ags) (hcl : ∀ f,ags.map (SV.ren f) = ags) (hlt : ltA 0 ags = true) (hp : res.plain) (hpH : plainH H') (hno : rowsNo H') (hltr : res.lt H'.length = true) (hltH' : allG H'.length H' = true) :
    Acts P g ⟨dst,.call { callee := .value x,args := xs.toArray,argTypes := Ts },ty,pos,after,guard⟩ st (res.frz H') [] [] := by
  refine acts_frz (fun N => ?_) hno
  exact a_call (θ := []) (m := N) (ld := ld) hD hc hv hE (by rw [hcl]; exact ha) trivial rfl rfl rfl (List.all_eq_true.2 fun i _ => rfl) (.inr ⟨hp,hpH⟩) hlt rfl hltr hltH' rfl rfl
theorem a_litF {α : Type} (E : Enc α) (l : List α) {T z b n : Nat} {ps : List (Nat × Operand)} {cs : List C} {row : List D} (hP : lk2 tabP T = some (z,b)) (hn : ps.length = n) (ho : inOrder 0 ps = true) (hc : catCells st z ps = some cs) (hd : allD st.h cs = some row) (hrow : rows E l = row) (hz : E.z = z) (hsm : Nat.ble (n * z) 16777216 = true) (hno : D.noOwn.all (rows E l)) :
    Acts Tryz.prog g ⟨dst,.buildSlice T n ps.toArray,ty,pos,after,guard⟩ st (.one (.d (.sl false z (rows E l)))) [] [] :=
  acts_frz (res := .one (.gv 0)) (H' := [.row z (rows E l)]) (fun N => a_litE (i := N + 0) E l hP hn ho hc hd hrow hz hsm) ⟨hno,trivial⟩
end
section
variable {g : Gh} {t : List (Nat × SV)} {h : List (Nat × GB)} {n : Nat} {dst : Option Tmp} {ty : TypeId} {pos : String} {after : Array Edge} {guard : Option (Nat × Bool)} {x : Operand} {f : Nat} {c0 : C} {cap : List C} {xs : List Operand} {Ts : Array TypeId} {ags : List SV} {H' : List GB} {res : SV} {sv : SV}
theorem callF (hc : opd ⟨t,h,n⟩ x = .one c0 := by exact rfl) (hv : fnv c0 = some (.func f,cap) := by exact rfl) (hE : entB Tryz.prog f = true := by exact fQ rfl) (ha : ASLe h (rest n []) (xs.map (opd ⟨t,h,n⟩) ++ cap.map .one) ags := by (repeat (first | exact ASLe.nil | refine ASLe.cons ?_ ?_ | exact SVLe.refl | exact SVLe.any | refine SVLe.one ?_ | refine SVLe.agg ?_ | exact CsLe.nil | refine CsLe.cons ?_ ?_ | exact CLe.refl | exact CLe.sh rfl | exact CLe.nil (by decide) | refine CLe.fn ?_ | refine CLe.fnD ?_ | refine CLe.ifc ?_ | refine CLe.ifcD ?_ | exact CLe.lendA rfl rfl nowR | exact CLe.lendDA rfl rfl shutR | exact CLe.lendRA rfl rfl rfl rfl bnd nowR rfl | refine CLe.lendVA rfl rfl ?_ | refine CLe.lendPA rfl rfl rfl ?_)); first | done | fail) (hD : Does Tryz.prog f ags [] res H')
    (hcl : ∀ f,ags.map (SV.ren f) = ags := by (intro f; exact rfl)) (hlt : ltA 0 ags = true := by exact rfl) (hp : res.plain := by repeat (first | exact trivial | exact plR | refine And.intro ?_ ?_)) (hpH : plainH H' := by repeat (first | exact trivial | exact plR | refine And.intro ?_ ?_)) (hno : rowsNo H' := by repeat (first | exact trivial | exact nowR | refine And.intro ?_ ?_))
    (hltr : res.lt H'.length = true := by exact rfl) (hltH' : allG H'.length H' = true := by exact rfl) (hsv : res.frz H' = sv := by exact rfl) :
    Acts Tryz.prog g ⟨dst,.call { callee := .value x,args := xs.toArray,argTypes := Ts },ty,pos,after,guard⟩ ⟨t,h,n⟩ sv [] [] :=
  hsv ▸ a_callF (ld := rest n []) hD hc hv hE ha hcl hlt hp hpH hno hltr hltH'
end
section
variable {g : Gh} {t : List (Nat × SV)} {h : List (Nat × GB)} {n : Nat} {rs : List Rs} {fs : List Bool} {u uk : List Nat} {dst : Option Tmp} {ty : TypeId} {pos : String} {after : Array Edge} {guard : Option (Nat × Bool)} {x : Operand} {f : Nat} {c0 : C} {cap : List C} {xs : List Operand} {Ts : Array TypeId} {ags : List SV} {H' : List GB} {res : SV} {sv : SV}
theorem callFD (m : Nat) (hc : opd (visSt ⟨t,h,n⟩ rs fs u uk) x = .one c0 := by exact rfl) (hv : fnv c0 = some (.func f,cap) := by exact rfl) (hE : entB Tryz.prog f = true := by exact fQ rfl) (ha : ASLe (visSt ⟨t,h,n⟩ rs fs u uk).h (rest (n + m) []) (xs.map (opd (visSt ⟨t,h,n⟩ rs fs u uk)) ++ cap.map .one) ags := by (repeat (first | exact ASLe.nil | refine ASLe.cons ?_ ?_ | exact SVLe.refl | exact SVLe.any | refine SVLe.one ?_ | refine SVLe.agg ?_ | exact CsLe.nil | refine CsLe.cons ?_ ?_ | exact CLe.refl | exact CLe.sh rfl | exact CLe.nil (by decide) | refine CLe.fn ?_ | refine CLe.fnD ?_ | refine CLe.ifc ?_ | refine CLe.ifcD ?_ | exact CLe.lendA rfl rfl nowR | exact CLe.lendDA rfl rfl shutR | exact CLe.lendRA rfl rfl rfl rfl bnd nowR rfl | refine CLe.lendVA rfl rfl ?_ | refine CLe.lendPA rfl rfl rfl ?_)); first | done | fail) (hD : Does Tryz.prog f ags [] res H')
    (hcl : ∀ f,ags.map (SV.ren f) = ags := by (intro f; exact rfl)) (hlt : ltA 0 ags = true := by exact rfl) (hp : res.plain := by repeat (first | exact trivial | exact plR | refine And.intro ?_ ?_)) (hpH : plainH H' := by repeat (first | exact trivial | exact plR | refine And.intro ?_ ?_)) (hno : rowsNo H' := by repeat (first | exact trivial | exact nowR | refine And.intro ?_ ?_))
    (hltr : res.lt H'.length = true := by exact rfl) (hltH' : allG H'.length H' = true := by exact rfl) (hsv : res.frz H' = sv := by exact rfl) :
    Acts Tryz.prog g ⟨dst,.call { callee := .value x,args := xs.toArray,argTypes := Ts },ty,pos,after,guard⟩ (visSt ⟨t,h,n⟩ rs fs u uk) sv [] [] :=
  hsv ▸ a_callF (ld := rest (n + m) []) hD hc hv hE ha hcl hlt hp hpH hno hltr hltH'
end
end Go.Proofs.YtegpggobfdcafaaGreat
end
section
set_option linter.unusedVariables false
set_option linter.unusedSimpArgs false
set_option maxRecDepth 100000
set_option maxHeartbeats 4000000
namespace Go.Proofs.YtegpggobfdcafaaGreat
open Go Foot
abbrev eW : Enc (List Int) := ⟨1,fun l => [.sl false 1 (rows eI l)],fun _ => rfl,by decide⟩
abbrev shW (l : List (List Int)) : C := .d (.sl false 1 (rows eW l))
theorem mem_len {α : Type} {xs : List (List α)} {n : Int} (h : ∀ x ∈ xs,(x.length : Int) ≤ n) {i : Nat} (hi : i < xs.length) : ((xs[i]).length : Int) ≤ n := h _ (List.getElem_mem hi)
end Go.Proofs.YtegpggobfdcafaaGreat
end
