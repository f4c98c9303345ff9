/- Parts of the proof (9 of 21). -/
import Derived.Laws.Append
import Derived.Laws.IdiomCopy
import Derived.Test.YtjifedbidnmapaaQ8
section
set_option linter.unusedVariables false
set_option linter.unusedSimpArgs false
set_option maxRecDepth 100000
namespace Go.Proofs.Ytjifedbidnmapaa
open Go Foot
section
variable {P : Program} {g : Gh} {st : St}
variable {dst : Option Tmp} {ty : TypeId} {pos : String} {after : Array Edge} {guard : Option (Nat × Bool)} {x y : Operand} {T : TypeId}
end
end Go.Proofs.Ytjifedbidnmapaa
end
section
set_option linter.unusedVariables false
set_option linter.unusedSimpArgs false
set_option maxRecDepth 100000
namespace Go.Proofs.Ytjifedbidnmapaa
open Go Foot
abbrev u64 (n : Int) : C := .d (.sc (.int .u64 n))
theorem wrapU {n : Int} (h1 : 0 ≤ n) (h2 : n < 18446744073709551616) : IntKind.u64.wrap n = n := by
  simp [IntKind.wrap,IntKind.bits,IntKind.signed]
  omega
section
variable {P : Program} {g : Gh} {st : St}
variable {dst : Option Tmp} {ty : TypeId} {pos : String} {after : Array Edge} {guard : Option (Nat × Bool)} {x y : Operand} {T U : TypeId} {a b : Int}
theorem u_conv (e1 : opd st x = .one (int a)) (hT : P.underlying T = some (.int .i64)) (hU : P.underlying U = some (.int .u64)) (h1 : 0 ≤ a) (h2 : a < 9223372036854775808) : Acts P g ⟨dst,.convert T U x,ty,pos,after,guard⟩ st (.one (u64 a)) [] [] := by
  have := a_conv (P := P) (g := g) (dst := dst) (T := T) (U := U) (ty := ty) (pos := pos) (after := after) (guard := guard) e1 (by rw [hT]; rfl) hU
  rwa [wrapU h1 (by omega)] at this
theorem u_vnoc (e1 : opd st x = .one (u64 a)) (hT : P.underlying T = some (.int .u64)) (hU : P.underlying U = some (.int .i64)) (h1 : 0 ≤ a) (h2 : a < 9223372036854775808) : Acts P g ⟨dst,.convert T U x,ty,pos,after,guard⟩ st (.one (int a)) [] [] := by
  have := a_conv (P := P) (g := g) (dst := dst) (T := T) (U := U) (ty := ty) (pos := pos) (after := after) (guard := guard) e1 (by rw [hT]; rfl) hU
  rwa [wrap64 (by omega) h2] at this
end
end Go.Proofs.Ytjifedbidnmapaa
end
section
set_option linter.unusedVariables false
set_option linter.unusedSimpArgs false
set_option maxRecDepth 100000
namespace Go.Proofs.Ytjifedbidnmapaa
open Go Foot
inductive Qc where
  | d (x : D)
  | r (m : Nat)
def Qc.sub (us : List Value) : Qc → D
  | .d x => x
  | .r m => .sc (us.getD m undef)
def Qc.ok (n : Nat) : Qc → Prop
  | .d _ => True
  | .r m => m < n
section
variable {w : World} {S F : Foot} {ρ : Env} {v : Value} {z i : Nat} {pre post : List D} {qs : List Qc} {js : List Nat}
theorem Reps.out : ∀ {cs : List D} {vs : List Value} {F : Foot} {k : Nat} {c : D},Reps w S cs vs F → cs[k]? = some c → ∃ v F1 F2,vs[k]? = some v ∧ le F1 F ∧ le F2 F ∧ dis F1 F2 ∧ Rep w S c v F1 ∧ Reps w S (cs.set k (.sc v)) vs F2
  | [],_,_,_,_,_,h => by simp at h
  | c0 :: cs,vs,F,0,c,hr,hk => by
    simp only [Reps] at hr
    obtain ⟨v0,us,F1,F2,rfl,h1,h2,h3,h4,h5⟩ := hr
    simp at hk
    subst hk
    exact ⟨v0,F1,F2,by simp,h1,h2,h3,h4,v0,us,no,F2,rfl,no_le _,le_refl _,no_dis _,⟨rfl,h4.one⟩,h5⟩
  | c0 :: cs,vs,F,k + 1,c,hr,hk => by
    simp only [Reps] at hr
    obtain ⟨v0,us,F1,F2,rfl,h1,h2,h3,h4,h5⟩ := hr
    simp at hk
    obtain ⟨v,G1,G2,e1,e2,e3,e4,e5,e6⟩ := Reps.out h5 hk
    refine ⟨v,G1,F1.or G2,by simpa using e1,e2.trans h2,or_le h1 (e3.trans h2),fun b o x y => y.elim (fun y => h3 b o y (e2 b o x)) (fun y => e4 b o x y),e5,v0,us,F1,G2,rfl,le_or_left _ _,le_or_right _ _,h3.le (le_refl _) e3,h4,e6⟩
end
section
variable {P : Program} {g : Gh} {st : St} {a : Act} {w : World} {S : Foot} {ρ : Env} {F : Nat → Foot}
def Qc.noOwn : Qc → Prop
  | .d x => x.noOwn
  | .r _ => True
section
variable {dst : Option Tmp} {ty : TypeId} {pos : String} {after : Array Edge} {guard : Option (Nat × Bool)} {x y : Operand} {z i k o : Nat} {pre post : List D} {qs : List Qc} {js : List Nat}
end
section
variable {dst : Option Tmp} {ty : TypeId} {pos : String} {after : Array Edge} {guard : Option (Nat × Bool)} {x y : Operand}
end
end
section
variable {g : Gh} {t : List (Nat × SV)} {h : List (Nat × GB)} {n : Nat}
end
end Go.Proofs.Ytjifedbidnmapaa
end
section
set_option linter.unusedVariables false
set_option linter.unusedSimpArgs false
set_option maxRecDepth 100000
namespace Go.Proofs.Ytjifedbidnmapaa
open Go Foot
theorem rows_cons {α : Type} {E : Enc α} (x : α) (l : List α) : rows E (x :: l) = E.enc x ++ rows E l := by simp [rows]
section
variable {P : Program} {g : Gh} {st : St} {dst : Option Tmp} {ty : TypeId} {pos : String} {after : Array Edge} {guard : Option (Nat × Bool)} {x y : Operand} {α : Type} {E : Enc α} {l : List α} {z i k m : Nat} {qs : List Qc} {js : List Nat}
end
section
variable {g : Gh} {t : List (Nat × SV)} {h : List (Nat × GB)} {n : Nat} {α : Type} {E : Enc α} {l : List α} {z i : Nat}
end
def NilP : List D → List D → Prop
  | [],[] => True
  | x :: xs,y :: ys => (∀ (w : World) (S : Foot) (v : Value) (F : Foot),Rep w S x v F → Rep w S y v F) ∧ NilP xs ys
  | _,_ => False
theorem NilP.rep : ∀ {xs ys : List D},NilP xs ys → ∀ (w : World) (S : Foot) (vs : List Value) (F : Foot),Reps w S xs vs F → Reps w S ys vs F
  | [],[],_,_,_,_,_,h => h
  | x :: xs,y :: ys,h,w,S,vs,F,hr => by
    simp only [Reps] at hr ⊢
    obtain ⟨v,us,F1,F2,rfl,h1,h2,h3,h4,h5⟩ := hr
    exact ⟨v,us,F1,F2,rfl,h1,h2,h3,h.1 _ _ _ _ h4,NilP.rep h.2 _ _ _ _ h5⟩
theorem NilP.app : ∀ {xs ys xs' ys' : List D},NilP xs ys → NilP xs' ys' → NilP (xs ++ xs') (ys ++ ys')
  | [],[],_,_,_,h => h
  | _ :: _,_ :: _,_,_,h,h' => ⟨h.1,NilP.app h.2 h'⟩
theorem NilP.rows {α β : Type} {E : Enc α} {E' : Enc β} {a : α} {b : β} (h : NilP (E.enc a) (E'.enc b)) : ∀ n,NilP (rows E (List.replicate n a)) (rows E' (List.replicate n b))
  | 0 => trivial
  | n + 1 => by
    rw [List.replicate_succ,List.replicate_succ,rows_cons,rows_cons]
    exact NilP.app h (NilP.rows h n)
theorem t_frzR {g : Gh} {t : List (Nat × SV)} {h : List (Nat × GB)} {n i d z : Nat} {xs ys : List D} (hd : lkS t d = .one (.gv i)) (hg : lkG h i = .row z xs) (hc : ShutL xs ys) : Turn g ⟨t,h,n⟩ ⟨(d,.one (.d (.sl false z ys))) :: t,(i,.dead) :: h,n⟩ := by
  refine ⟨Nat.le_refl _,fun a w S ρ F hr => ⟨S.or (F i),fun j => if j = i then no else F j,?_⟩⟩
  have hS : le S (S.or (F i)) := le_or_left _ _
  have hnew : RepS w (S.or (F i)) ρ (.one (.d (.sl false z ys))) (a.tmps.getD d undef) := by
    have h1 := hr.slot d
    simp only at h1
    rw [hd] at h1
    rcases hr.root i with h0 | ⟨u,r1,r2⟩
    · simp only [hg] at h0; cases h0
    · simp only [hg] at r2
      have h2 := h1.1
      rw [r1] at h2
      cases h2
      exact Shut1.sl hc _ _ _ _ _ r2 (le_refl _)
  refine ⟨hr.size,hr.defers.keep fun r _ m => ⟨m.at_,fun j o hj => (by split at hj; exact hj.elim; exact m.F j o hj),fun o ho => ho.elim (m.S o) (m.F i o),m.lo⟩,fun j => ?_,fun j => ?_,fun j k hjk => ?_,fun j => ?_,fun j => ?_,fun j b o hb => ?_,fun b o hb => ?_,hr.old,hr.inS.trans hS,fun b o hb => ?_,hr.pin,hr.tab.keep (Agree.refl _ _) hS,hr.fin⟩
  · rw [lkS_cons]
    rcases Decidable.em (j = d) with e | e
    · rw [if_pos e,e]; exact hnew
    · rw [if_neg e]; exact (hr.slot j).keep (Agree.refl _ _) hS (Env.le.refl _)
  · simp only [lkG]
    by_cases hj : j = i
    · subst hj
      have hb : Nat.beq j j = true := by simp
      simp only [hb,cond_true]
      exact .inl trivial
    · have hb : Nat.beq j i = false := beq_ne hj
      simp only [hb,cond_false,if_neg hj]
      rcases hr.root j with h0 | ⟨u,r1,r2⟩
      · exact .inl h0
      · exact .inr ⟨u,r1,r2.keep (Agree.refl _ _) (Agree.refl _ _) hS (Env.le.refl _) (le_refl _)⟩
  · by_cases hj : j = i
    · simp only [hj,if_true]; exact no_dis _
    · by_cases hk : k = i
      · simp only [hk,if_true]; exact dis_no _
      · simp only [if_neg hj,if_neg hk]; exact hr.dis j k hjk
  · by_cases hj : j = i
    · simp only [hj,if_true]; exact no_dis _
    · simp only [if_neg hj]
      exact fun b o hb hs => hs.elim (fun hs => hr.disS j b o hb hs) (fun hs => hr.dis j i hj b o hb hs)
  · by_cases hj : j = i
    · simp only [hj,if_true]; exact no_le _
    · simp only [if_neg hj]; exact hr.own j
  · by_cases hj : j = i
    · simp only [hj,if_true] at hb; exact hb.elim
    · simp only [if_neg hj] at hb; exact hr.ex j b o hb
  · exact hb.elim (hr.exS b o) (hr.ex i b o)
  · exact hb.elim (hr.newS b o) (fun hb => .inr (hr.own i b o hb))
end Go.Proofs.Ytjifedbidnmapaa
end
section
set_option linter.unusedVariables false
set_option linter.unusedSimpArgs false
set_option maxRecDepth 100000
namespace Go.Proofs.Ytjifedbidnmapaa
open Go Foot
theorem nowR {α : Type} {E : Enc α} {l : List α} (h : ∀ x,D.noOwn.all (E.enc x) := by intro _; repeat (first | exact trivial | exact rfl | refine And.intro ?_ ?_)) : D.noOwn.all (rows E l) := noOwn_rows h
theorem shutR {xs ys : List D} (h : ShutL xs ys := by repeat' (first | exact ShutL.nil | exact ShutL.no nowR | (refine ShutL.rows (fun _ => ?_)) | (refine ShutL.cons ?_ ?_) | exact Shut1.no trivial | exact Shut1.no rfl | refine Shut1.sl ?_ | refine Shut1.bx ?_)) : ShutL xs ys := h
theorem plR {xs : List D} (h : D.plain.all xs := by repeat' (first | exact trivial | exact rfl | (refine plain_rows (fun _ => ?_)) | refine And.intro ?_ ?_)) : D.plain.all xs := h
theorem bnd {p : Prop} (h : p := by first | omega | (simp only [List.length_append,List.length_cons,List.length_nil,List.length_set,List.length_replicate,List.length_take,List.length_drop,List.length_tail,List.length_dropLast,List.length_reverse]; omega)) : p := h
section
variable {g : Gh} {dst : Option Tmp} {ty : TypeId} {pos : String} {after : Array Edge} {guard : Option (Nat × Bool)} {x : Operand} {f : Nat} {c0 : C} {cap : List C} {xs : List Operand} {Ts : Array TypeId} {ags : List SV} {H H' : List GB} {res : SV} {θ : List Nat} {t : List (Nat × SV)} {h : List (Nat × GB)} {n : Nat}
theorem callK0 (hc : opd ⟨t,h,n⟩ x = .one c0 := by exact rfl) (hv : fnv c0 = some (.func f,cap) := by exact rfl) (hE : entB Try.prog f = true := by exact fQ rfl) (ha : ASLe h [] (xs.map (opd ⟨t,h,n⟩) ++ cap.map .one) (ags.map (SV.ren (calF θ n))) := by (repeat (first | exact ASLe.nil | refine ASLe.cons ?_ ?_ | exact SVLe.refl | refine SVLe.one ?_ | refine SVLe.agg ?_ | exact CsLe.nil | refine CsLe.cons ?_ ?_ | exact CLe.refl | exact CLe.sh rfl | exact CLe.nil (by decide) | refine CLe.fn ?_ | refine CLe.fnD ?_ | refine CLe.ifc ?_ | refine CLe.ifcD ?_)); first | done | fail) (hH : rootsEq (calF θ n) ⟨t,h,n⟩ 0 H := by repeat (first | exact trivial | refine And.intro ?_ ?_ | exact rfl)) (hD : Does Try.prog f ags H res H')
    (hk : H.length = θ.length := by exact rfl) (hθ : nodupB θ = true := by exact rfl) (hm : θ.all (fun t => Nat.blt t n) = true := by exact rfl)
    (hlt : ltA H.length ags = true := by exact rfl) (hltH : allG H.length H = true := by exact rfl) (hltr : res.lt H'.length = true := by exact rfl) (hltH' : allG H'.length H' = true := by exact rfl) :
    Acts Try.prog g ⟨dst,.call { callee := .value x,args := xs.toArray,argTypes := Ts },ty,pos,after,guard⟩ ⟨t,h,n⟩ (res.ren (calF θ n)) θ (upOf (calF θ n) 0 H') :=
  a_call0 hc hv hE ha hH hD hk hθ hm hlt hltH hltr hltH'
theorem callK1 (hc : opd ⟨t,h,n⟩ x = .one c0 := by exact rfl) (hv : fnv c0 = some (.func f,cap) := by exact rfl) (hE : entB Try.prog f = true := by exact fQ rfl) (ha : ASLe h (rest n θ) (xs.map (opd ⟨t,h,n⟩) ++ cap.map .one) (ags.map (SV.ren (calF θ n))) := by (repeat (first | exact ASLe.nil | refine ASLe.cons ?_ ?_ | exact SVLe.refl | refine SVLe.one ?_ | refine SVLe.agg ?_ | exact CsLe.nil | refine CsLe.cons ?_ ?_ | exact CLe.refl | exact CLe.sh rfl | exact CLe.nil (by decide) | refine CLe.fn ?_ | refine CLe.fnD ?_ | refine CLe.ifc ?_ | refine CLe.ifcD ?_ | exact CLe.lendA rfl rfl nowR | exact CLe.lendDA rfl rfl shutR | exact CLe.lendRA rfl rfl rfl rfl bnd nowR rfl | refine CLe.lendVA rfl rfl ?_ | refine CLe.lendPA rfl rfl rfl ?_)); first | done | fail) (hH : rootsEq (calF θ n) ⟨t,h,n⟩ 0 H := by repeat (first | exact trivial | refine And.intro ?_ ?_ | exact rfl)) (hD : Does Try.prog f ags H res H')
    (hk : H.length = θ.length := by exact rfl) (hθ : nodupB θ = true := by exact rfl) (hm : θ.all (fun t => Nat.blt t n) = true := by exact rfl) (hp : res.plain := by repeat (first | exact trivial | exact plR | refine And.intro ?_ ?_)) (hp' : plainH H' := by repeat (first | exact trivial | exact plR | refine And.intro ?_ ?_))
    (hlt : ltA H.length ags = true := by exact rfl) (hltH : allG H.length H = true := by exact rfl) (hltr : res.lt H'.length = true := by exact rfl) (hltH' : allG H'.length H' = true := by exact rfl) :
    Acts Try.prog g ⟨dst,.call { callee := .value x,args := xs.toArray,argTypes := Ts },ty,pos,after,guard⟩ ⟨t,h,n⟩ (res.ren (calF θ n)) θ (upOf (calF θ n) 0 H') :=
  a_call1 hc hv hE ha hH hD hk hθ hm hp hp' hlt hltH hltr hltH'
variable {rs : List Rs} {fs : List Bool} {u uk : List Nat}
theorem callD0 (m : Nat) (hc : opd (visSt ⟨t,h,n⟩ rs fs u uk) x = .one c0 := by exact rfl) (hv : fnv c0 = some (.func f,cap) := by exact rfl) (hE : entB Try.prog f = true := by exact fQ rfl) (ha : ASLe (visSt ⟨t,h,n⟩ rs fs u uk).h [] (xs.map (opd (visSt ⟨t,h,n⟩ rs fs u uk)) ++ cap.map .one) (ags.map (SV.ren (calF θ (n + m)))) := by (repeat (first | exact ASLe.nil | refine ASLe.cons ?_ ?_ | exact SVLe.refl | refine SVLe.one ?_ | refine SVLe.agg ?_ | exact CsLe.nil | refine CsLe.cons ?_ ?_ | exact CLe.refl | exact CLe.sh rfl | exact CLe.nil (by decide) | refine CLe.fn ?_ | refine CLe.fnD ?_ | refine CLe.ifc ?_ | refine CLe.ifcD ?_)); first | done | fail) (hH : rootsEq (calF θ (n + m)) (visSt ⟨t,h,n⟩ rs fs u uk) 0 H := by repeat (first | exact trivial | refine And.intro ?_ ?_ | exact rfl)) (hD : Does Try.prog f ags H res H')
    (hk : H.length = θ.length := by exact rfl) (hθ : nodupB θ = true := by exact rfl) (hm : θ.all (fun t => Nat.blt t (n + m)) = true := by exact rfl)
    (hlt : ltA H.length ags = true := by exact rfl) (hltH : allG H.length H = true := by exact rfl) (hltr : res.lt H'.length = true := by exact rfl) (hltH' : allG H'.length H' = true := by exact rfl) :
    Acts Try.prog g ⟨dst,.call { callee := .value x,args := xs.toArray,argTypes := Ts },ty,pos,after,guard⟩ (visSt ⟨t,h,n⟩ rs fs u uk) (res.ren (calF θ (n + m))) θ (upOf (calF θ (n + m)) 0 H') :=
  a_call0D m hc hv hE ha hH hD hk hθ hm hlt hltH hltr hltH'
theorem callD1 (m : Nat) (hc : opd (visSt ⟨t,h,n⟩ rs fs u uk) x = .one c0 := by exact rfl) (hv : fnv c0 = some (.func f,cap) := by exact rfl) (hE : entB Try.prog f = true := by exact fQ rfl) (ha : ASLe (visSt ⟨t,h,n⟩ rs fs u uk).h (rest (n + m) θ) (xs.map (opd (visSt ⟨t,h,n⟩ rs fs u uk)) ++ cap.map .one) (ags.map (SV.ren (calF θ (n + m)))) := by (repeat (first | exact ASLe.nil | refine ASLe.cons ?_ ?_ | exact SVLe.refl | refine SVLe.one ?_ | refine SVLe.agg ?_ | exact CsLe.nil | refine CsLe.cons ?_ ?_ | exact CLe.refl | exact CLe.sh rfl | exact CLe.nil (by decide) | refine CLe.fn ?_ | refine CLe.fnD ?_ | refine CLe.ifc ?_ | refine CLe.ifcD ?_ | exact CLe.lendA rfl rfl nowR | exact CLe.lendDA rfl rfl shutR | exact CLe.lendRA rfl rfl rfl rfl bnd nowR rfl | refine CLe.lendVA rfl rfl ?_ | refine CLe.lendPA rfl rfl rfl ?_)); first | done | fail) (hH : rootsEq (calF θ (n + m)) (visSt ⟨t,h,n⟩ rs fs u uk) 0 H := by repeat (first | exact trivial | refine And.intro ?_ ?_ | exact rfl)) (hD : Does Try.prog f ags H res H')
    (hk : H.length = θ.length := by exact rfl) (hθ : nodupB θ = true := by exact rfl) (hm : θ.all (fun t => Nat.blt t (n + m)) = true := by exact rfl) (hp : res.plain := by repeat (first | exact trivial | exact plR | refine And.intro ?_ ?_)) (hp' : plainH H' := by repeat (first | exact trivial | exact plR | refine And.intro ?_ ?_))
    (hlt : ltA H.length ags = true := by exact rfl) (hltH : allG H.length H = true := by exact rfl) (hltr : res.lt H'.length = true := by exact rfl) (hltH' : allG H'.length H' = true := by exact rfl) :
    Acts Try.prog g ⟨dst,.call { callee := .value x,args := xs.toArray,argTypes := Ts },ty,pos,after,guard⟩ (visSt ⟨t,h,n⟩ rs fs u uk) (res.ren (calF θ (n + m))) θ (upOf (calF θ (n + m)) 0 H') :=
  a_call1D m hc hv hE ha hH hD hk hθ hm hp hp' hlt hltH hltr hltH'
end
section
variable {g : Gh} {dst : Option Tmp} {ty : TypeId} {pos : String} {after : Array Edge} {guard : Option (Nat × Bool)} {x : Operand} {f Ty : Nat} {c1 : C} {name : String} {xs : List Operand} {Ts : Array TypeId} {ags : List SV} {H H' : List GB} {res : SV} {θ : List Nat} {t : List (Nat × SV)} {h : List (Nat × GB)} {n : Nat}
end
section
variable {P : Program} {g : Gh} {Q : Exit → St → Prop} {t t0 : List (Nat × SV)} {h h0 : List (Nat × GB)} {n : Nat} {st : St}
theorem stk {k m : Nat} {θ : List Nat} {st : St} {t' : List (Nat × SV)} {h' : List (Nat × GB)} (h1 : leT (thF θ) st t' := by repeat (first | exact trivial | refine And.intro ?_ ?_ | exact SVLe.refl | exact SVLe.any | exact SVLe.one (.sh rfl) | exact SVLe.one (.nil (by decide)) | exact SVLe.agg (by repeat (first | exact CsLe.nil | refine CsLe.cons ?_ ?_ | exact CLe.refl | exact CLe.sh rfl | exact CLe.nil (by decide))) | (refine sle_i ?_; omega))) (h2 : leH (thF θ) m st h' := by repeat (first | exact trivial | refine And.intro ?_ ?_ | exact rfl)) (hn : m = θ.length := by exact rfl) (hpin : pinB k θ = true := by exact rfl) (nd : nodupB θ = true := by exact rfl) (lt : allT m t' = true := by exact rfl) (lh : allH m h' = true := by exact rfl) : StLe k θ st ⟨t',h',m⟩ := stle h1 h2 hn hpin nd lt lh
theorem loopK {α : Type} (live ex : List Nat) (I : α → Prop) (ut : α → List (Nat × SV)) (uh : α → List (Nat × GB)) (μ : α → Nat) (x0 : α) (θ : List Nat) {c : Code} (hp : Pick live t t0 := by repeat (first | exact Pick.nil | apply Pick.one rfl | apply Pick.agg rfl | apply Pick.tup rfl | apply Pick.any)) (hq : PickH ex h n h0 := by repeat (first | exact PickH.zero | apply PickH.row rfl rfl | apply PickH.sh rfl rfl | apply PickH.bx rfl rfl | apply PickH.mp rfl rfl | apply PickH.lp rfl rfl | apply PickH.bld rfl rfl | apply PickH.opq rfl rfl | apply PickH.out)) (hin : StLe g.k θ ⟨t,h,n⟩ ⟨ut x0 ++ t0,uh x0 ++ h0,n⟩ := by exact stk) (hI : I x0)
    (hr : ∀ x,I x → GWp P g c ⟨ut x ++ t0,uh x ++ h0,n⟩ (qLoop g.k I (fun x => ⟨ut x ++ t0,uh x ++ h0,n⟩) μ (μ x) Q)) : GWp P g (.loop c) ⟨t,h,n⟩ Q := g_loopU live ex I ut uh μ x0 θ hp hq hin hI hr
theorem endK {fn : Func} {k : Nat} {l : List (Bool × List C)} {res : SV} {H' : List GB} {e : Exit} (ids : List Nat) (he : e = .normal ∨ e = .ret := by first | exact .inr rfl | exact .inl rfl) (h1 : RessOk Try.prog st fn.results.toList l := by repeat (first | exact RessOk.nil | apply RessOk.cons | exact ResOk.one rfl | exact ResOk.agg rfl | exact ResOk.cell rfl rfl rfl (fC rfl) rfl | exact ResOk.cells rfl rfl rfl (fA rfl) (Nat.le_of_ble_eq_true rfl) rfl)) (h2 : SVLe st.h [] (resSV l) (res.ren (resF k ids))) (h3 : rootsLe (resF k ids) st 0 H') (hl : H'.length = k + ids.length := by exact rfl) (nd : nodupB (liveIds (resF k ids) 0 H') = true := by exact rfl) (lt : res.lt H'.length = true := by exact rfl) (lh : allG H'.length H' = true := by exact rfl) : Ends Try.prog fn k res H' e st := ends_m ids he h1 h2 h3 hl nd lt lh
end
theorem dcB : (∀ (p : Prop) [Decidable p],(decide p = true) = p) ∧ (∀ (p : Prop) [Decidable p],(decide p = false) ↔ ¬ p) ∧ (∀ b : Bool,((!b) = true) = (b = false)) ∧ (∀ b : Bool,((!b) = false) = (b = true)) ∧ (∀ b : Bool,(¬ (b = true)) = (b = false)) ∧ (∀ b : Bool,(¬ (b = false)) = (b = true)) ∧ (∀ a b : Bool,((a && b) = true) = (a = true ∧ b = true)) ∧ (∀ a b : Bool,((a || b) = false) ↔ (a = false ∧ b = false)) ∧ (∀ b : Bool,(!(!b)) = b) :=
  ⟨fun _ _ => decide_eq_true_eq,fun _ _ => decide_eq_false_iff_not,fun _ => Bool.not_eq_true' _,fun _ => Bool.not_eq_false' _,fun _ => Bool.not_eq_true _,fun _ => Bool.not_eq_false _,fun _ _ => Bool.and_eq_true _ _,fun _ _ => Bool.or_eq_false_iff,fun _ => Bool.not_not _⟩
theorem dN {G G' : Prop} (hk : G') (e : G = G' := by (try dsimp only [selT,selH,trues,SV.ren,C.ren,C.ren.all,tRen,GB.ren,calF,upOf,List.cons_append,List.nil_append,Nat.reduceAdd,setRow,List.map_cons,List.map_nil,scC,List.set_cons_zero,List.set_cons_succ,List.take_succ_cons,List.take_zero,List.drop_succ_cons,List.drop_zero]); (try exact rfl)) : G := e ▸ hk
theorem dM {G G' : Prop} (hk : G') (e : G = G' := by (try dsimp only [SV.ren,C.ren,C.ren.all,tRen,GB.ren,calF,upOf,List.cons_append,List.nil_append,Nat.reduceAdd]); (try exact rfl)) : G := e ▸ hk
theorem dS {G G' : Prop} (hk : G') (e : G = G' := by (try dsimp only [setRow,List.map_cons,List.map_nil,scC,List.set_cons_zero,List.set_cons_succ,List.take_succ_cons,List.take_zero,List.drop_succ_cons,List.drop_zero,Nat.reduceAdd]); (try exact rfl)) : G := e ▸ hk
theorem dA {G G' : Prop} (hk : G') (e : G = G' := by (try dsimp only [List.map_cons,List.map_nil,scC,Nat.reduceAdd]); (try exact rfl)) : G := e ▸ hk
theorem cd {G G' : Prop} (hk : G') (h : G' → G := by first | exact o_nil | exact g_seq | exact g_reg | exact q_s | exact g_skip | exact g_exit | exact g_block | exact g_if_t rfl | exact g_if_f rfl | exact q_se | exact q_b | exact q_be rfl | exact q_bn rfl | exact q_le | exact q_ce) : G := h hk
theorem cdn {G G' : Prop} (hk : G') (h : G' → G := by first | exact o_nil | exact g_seq | exact q_s | exact g_skip | exact g_exit | exact g_block | exact g_if_t rfl | exact g_if_f rfl | exact q_se | exact q_b | exact q_be rfl | exact q_bn rfl | exact q_le | exact q_ce) : G := h hk
theorem cr {G G' : Prop} (hk : G') (h : G' → G := by first | exact g_ret | exact q_sr | exact q_br | exact q_lr | exact q_cr) : G := h hk
theorem ce0 {G : Prop} (h : G := by first | with_reducible exact SVLe.refl | exact SVLe.any | exact SVLe.one (.sh rfl) | exact SVLe.one (.nil (by decide)) | exact TLe.nil | exact CsLe.nil | exact CLe.refl | exact CLe.sh rfl | exact CLe.nil (by decide) | exact trivial | exact Or.inl rfl | exact Or.inr rfl) : G := h
theorem ce {G G' : Prop} (hk : G') (h : G' → G := by first | exact SVLe.agg | exact SVLe.tup | exact cle_i | exact cle_b | exact fun h => Or.inr (row_eq h)) : G := h hk
theorem ceb {G G' : Prop} (hk : G') (h : G' → G := by first | exact sle_i | exact sle_b) : G := h hk
theorem ce2 {G G' G2 : Prop} (hk : G') (hk2 : G2) (h : G' → G2 → G := by first | exact TLe.cons | exact CsLe.cons | exact And.intro) : G := h hk hk2
section
def bitL : Nat → Nat → List Bool
  | 0,_ => []
  | i + 1,m => Nat.beq (m % 2) 1 :: bitL i (m / 2)
variable {P : Program} {g : Gh} {bf : List (List Nat)} {off : List (List Nat × List Nat)} {ops : List Oper} {t : List (Nat × SV)} {hp : List (Nat × GB)} {n n' : Nat} {Q : Exit → St → Prop} {l : List Oper} {rs : List Rs}
theorem dp (i m : Nat) (u : List Nat) (o : List (Bool × Nat)) {d : Nat} {op : Op} {ty : TypeId} {pos : String} {after : Array Edge} {sv : SV} (ha : Acts P g ⟨some d,op,ty,pos,after,none⟩ (visSt ⟨t,hp,n⟩ rs (bitL i m) u (offL n o)) sv [] []) (h : DR P g bf (offK n off) ops ⟨t,hp,n⟩ n' Q l (⟨some d,sv,[],[]⟩ :: rs)) (hi : rs.length = i := by exact rfl) (hf : flags (fun k => memB k (bf.getD i [])) i = bitL i m := by kernel_rfl) (hu : unordD bf i 0 ops = u := by kernel_rfl) (hk : unordK bf (offK n off) i 0 ops = offL n o := by kernel_rfl) (hd : Nat.blt d g.n = true := by exact rfl) (hc : (offK n off).ck i = [] := by exact rfl) : DR P g bf (offK n off) ops ⟨t,hp,n⟩ n' Q (⟨some d,op,ty,pos,after,none⟩ :: l) rs := d_pN ha hi hf hu hk hd hc h
theorem duN (i m : Nat) (u : List Nat) (o : List (Bool × Nat)) {dst : Option Nat} {op : Op} {ty : TypeId} {pos : String} {after : Array Edge} {sv : SV} {ch : List Nat} {up : List (Nat × GB)} (ha : Acts P g ⟨dst,op,ty,pos,after,none⟩ (visSt ⟨t,hp,n⟩ rs (bitL i m) u (offL n o)) sv ch up) (hc : (offK n off).ck i = ch) (hup : upInB ((offK n off).nw i ++ (offK n off).ck i) up = true) (h : DR P g bf (offK n off) ops ⟨t,hp,n⟩ n' Q l (⟨dst,sv,ch,up⟩ :: rs)) (hi : rs.length = i := by exact rfl) (hf : flags (fun k => memB k (bf.getD i [])) i = bitL i m := by kernel_rfl) (hu : unordD bf i 0 ops = u := by kernel_rfl) (hk : unordK bf (offK n off) i 0 ops = offL n o := by kernel_rfl) (hd : ∀ d,dst = some d → d < g.n := by first | exact dst_some rfl | exact dst_none) : DR P g bf (offK n off) ops ⟨t,hp,n⟩ n' Q (⟨dst,op,ty,pos,after,none⟩ :: l) rs := d_uN ha hi hf hu hk hd hc hup h
theorem duE (i m : Nat) (u : List Nat) (o : List (Bool × Nat)) {dst : Option Nat} {op : Op} {ty : TypeId} {pos : String} {after : Array Edge} {sv : SV} {ch : List Nat} {up : List (Nat × GB)} (ha : Acts P g ⟨dst,op,ty,pos,after,none⟩ (visSt ⟨t,hp,n⟩ rs (bitL i m) u (offL n o)) sv ch up) (hc : (offK n off).ck i = ch) (hup : up.map (·.1) = (offK n off).nw i ++ (offK n off).ck i) (h : DR P g bf (offK n off) ops ⟨t,hp,n⟩ n' Q l (⟨dst,sv,ch,up⟩ :: rs)) (hi : rs.length = i := by exact rfl) (hf : flags (fun k => memB k (bf.getD i [])) i = bitL i m := by kernel_rfl) (hu : unordD bf i 0 ops = u := by kernel_rfl) (hk : unordK bf (offK n off) i 0 ops = offL n o := by kernel_rfl) (hd : ∀ d,dst = some d → d < g.n := by first | exact dst_some rfl | exact dst_none) : DR P g bf (offK n off) ops ⟨t,hp,n⟩ n' Q (⟨dst,op,ty,pos,after,none⟩ :: l) rs := d_uE ha hi hf hu hk hd hc hup h
end
section
variable {g : Gh} {o : Oper} {st : St} {sv : SV}
theorem pu1 (h : Acts Try.prog g o st sv [] [] := by first | exact a_pure (sv := .one _) rfl | exact a_pure (sv := .agg _) rfl | exact a_pure (sv := .tup _) rfl) : Acts Try.prog g o st sv [] [] := h
theorem pu2 (h : Acts Try.prog g o st sv [] [] := by first | exact a_pure (sv := .one _) rfl | exact a_pure (sv := .agg _) rfl) : Acts Try.prog g o st sv [] [] := h
theorem puL (h : Acts Try.prog g o st sv [] [] := by first | exact a_pure (sv := .one _) rfl | exact a_pure (sv := .agg _) rfl | exact a_ld_rowI rfl rfl rfl (fC rfl) bnd) : Acts Try.prog g o st sv [] [] := h
theorem puI (h : Acts Try.prog g o st sv [] [] := by first | exact a_iaE rfl rfl rfl (fS rfl) (by omega) bnd (by exact rfl) | exact a_iaO1 rfl rfl rfl (fS rfl) (by omega) bnd | exact a_iaO rfl rfl rfl (fS rfl) (by omega) bnd (by exact rfl)) : Acts Try.prog g o st sv [] [] := h
theorem puN (h : Acts Try.prog g o st sv [] [] := by exact a_lenE rfl rfl (fS rfl) (by exact rfl)) : Acts Try.prog g o st sv [] [] := h
theorem puC (h : Acts Try.prog g o st sv [] [] := by exact a_cmp rfl rfl rfl trivial rfl) : Acts Try.prog g o st sv [] [] := h
end
end Go.Proofs.Ytjifedbidnmapaa
end
