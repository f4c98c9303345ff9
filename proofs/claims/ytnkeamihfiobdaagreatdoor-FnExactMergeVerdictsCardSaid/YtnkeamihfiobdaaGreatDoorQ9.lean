/- Parts of the proof (9 of 23). -/
import Derived.Laws.Append
import Derived.Laws.IdiomCopy
import Derived.Test.YtnkeamihfiobdaaGreatDoorQ8
section
set_option linter.unusedVariables false
set_option linter.unusedSimpArgs false
set_option maxRecDepth 100000
namespace Go.Proofs.YtnkeamihfiobdaaGreatDoor
open Go Foot
section
variable {P : Program} {g : Gh} {st : St}
variable {dst : Option Tmp} {ty : TypeId} {pos : String} {after : Array Edge} {guard : Option (Nat × Bool)} {x y : Operand} {T : TypeId}
end
end Go.Proofs.YtnkeamihfiobdaaGreatDoor
end
section
set_option linter.unusedVariables false
set_option linter.unusedSimpArgs false
set_option maxRecDepth 100000
namespace Go.Proofs.YtnkeamihfiobdaaGreatDoor
open Go Foot
abbrev u64 (n : Int) : C := .d (.sc (.int .u64 n))
section
variable {P : Program} {g : Gh} {st : St}
variable {dst : Option Tmp} {ty : TypeId} {pos : String} {after : Array Edge} {guard : Option (Nat × Bool)} {x y : Operand} {T U : TypeId} {a b : Int}
end
end Go.Proofs.YtnkeamihfiobdaaGreatDoor
end
section
set_option linter.unusedVariables false
set_option linter.unusedSimpArgs false
set_option maxRecDepth 100000
namespace Go.Proofs.YtnkeamihfiobdaaGreatDoor
open Go Foot
inductive Qc where
  | d (x : D)
  | r (m : Nat)
def Qc.sub (us : List Value) : Qc → D
  | .d x => x
  | .r m => .sc (us.getD m undef)
def Qc.ok (n : Nat) : Qc → Prop
  | .d _ => True
  | .r m => m < n
def rowQ (z : Nat) (pre : List D) (qs : List Qc) (post : List D) : Opq where
  p w S us F := ∃ v r,us = v :: r ∧ (∀ q ∈ qs,q.ok r.length) ∧ Rep w S (.sl true z (pre ++ qs.map (Qc.sub r) ++ post)) v F
  keep := fun ⟨v,r,e,h1,h2⟩ hF hS hle hf => ⟨v,r,e,h1,h2.keep hF hS hle hf⟩
theorem sub_app {r r' : List Value} {q : Qc} (h : q.ok r.length) : q.sub (r ++ r') = q.sub r := by
  cases q with
  | d x => rfl
  | r m =>
    have h : m < r.length := h
    simp only [Qc.sub,List.getD_eq_getElem?_getD,List.getElem?_append_left h]
theorem subs_app {r r' : List Value} {qs : List Qc} (h : ∀ q ∈ qs,q.ok r.length) : qs.map (Qc.sub (r ++ r')) = qs.map (Qc.sub r) := List.map_congr_left fun q hq => sub_app (h q hq)
theorem ok_mono {n m : Nat} {q : Qc} (h : q.ok n) (hm : n ≤ m) : q.ok m := by
  cases q with
  | d x => trivial
  | r k => exact Nat.lt_of_lt_of_le h hm
theorem qs_map_d (cs : List D) (r : List Value) : (cs.map Qc.d).map (Qc.sub r) = cs := by
  rw [List.map_map]
  exact List.map_id _
theorem qs_ok_d (cs : List D) (n : Nat) : ∀ q ∈ cs.map Qc.d,q.ok n := by
  intro q hq
  obtain ⟨c,_,rfl⟩ := List.mem_map.1 hq
  trivial
section
variable {w : World} {S F : Foot} {ρ : Env} {v : Value} {z i : Nat} {pre post : List D} {qs : List Qc} {js : List Nat}
theorem repQ_elim (h : RepG w S ρ (.opq (rowQ z pre qs post) (i :: js)) v F) (hv : ρ i = some v) : ∃ r,js.map ρ = r.map some ∧ (∀ q ∈ qs,q.ok r.length) ∧ Rep w S (.sl true z (pre ++ qs.map (Qc.sub r) ++ post)) v F := by
  obtain ⟨us,h1,v',r,rfl,h2,h3⟩ := h
  simp only [List.map_cons,List.cons.injEq] at h1
  obtain ⟨h0,h1⟩ := h1
  rw [hv] at h0
  cases h0
  exact ⟨r,h1,h2,h3⟩
theorem repQ_intro {r : List Value} (hv : ρ i = some v) (h1 : js.map ρ = r.map some) (h2 : ∀ q ∈ qs,q.ok r.length) (h3 : Rep w S (.sl true z (pre ++ qs.map (Qc.sub r) ++ post)) v F) : RepG w S ρ (.opq (rowQ z pre qs post) (i :: js)) v F :=
  ⟨v :: r,by simp [hv,h1],v,r,rfl,h2,h3⟩
theorem Reps.out : ∀ {cs : List D} {vs : List Value} {F : Foot} {k : Nat} {c : D},Reps w S cs vs F → cs[k]? = some c → ∃ v F1 F2,vs[k]? = some v ∧ le F1 F ∧ le F2 F ∧ dis F1 F2 ∧ Rep w S c v F1 ∧ Reps w S (cs.set k (.sc v)) vs F2
  | [],_,_,_,_,_,h => by simp at h
  | c0 :: cs,vs,F,0,c,hr,hk => by
    simp only [Reps] at hr
    obtain ⟨v0,us,F1,F2,rfl,h1,h2,h3,h4,h5⟩ := hr
    simp at hk
    subst hk
    exact ⟨v0,F1,F2,by simp,h1,h2,h3,h4,v0,us,no,F2,rfl,no_le _,le_refl _,no_dis _,⟨rfl,h4.one⟩,h5⟩
  | c0 :: cs,vs,F,k + 1,c,hr,hk => by
    simp only [Reps] at hr
    obtain ⟨v0,us,F1,F2,rfl,h1,h2,h3,h4,h5⟩ := hr
    simp at hk
    obtain ⟨v,G1,G2,e1,e2,e3,e4,e5,e6⟩ := Reps.out h5 hk
    refine ⟨v,G1,F1.or G2,by simpa using e1,e2.trans h2,or_le h1 (e3.trans h2),fun b o x y => y.elim (fun y => h3 b o y (e2 b o x)) (fun y => e4 b o x y),e5,v0,us,F1,G2,rfl,le_or_left _ _,le_or_right _ _,h3.le (le_refl _) e3,h4,e6⟩
end
section
variable {P : Program} {g : Gh} {st : St} {a : Act} {w : World} {S : Foot} {ρ : Env} {F : Nat → Foot}
theorem Rel.tgt_q (h : Rel g st a w S ρ F) {v : Value} {i k z : Nat} {pre post : List D} {qs : List Qc} {js : List Nat} (hc : RepC w S ρ (.gp i k) v) (hg : lkG st.h i = .opq (rowQ z pre qs post) (i :: js)) (hk : k < pre.length + qs.length + post.length) :
    ∃ r b off vs G len cap,js.map ρ = r.map some ∧ (∀ q ∈ qs,q.ok r.length) ∧ v = .pointer (some ⟨b,off + k,none⟩) ∧ ρ i = some (.slice (some ⟨b,off,none⟩) len cap) ∧ (pre ++ qs.map (Qc.sub r) ++ post).length = len * z ∧ 0 < z ∧ len ≤ cap ∧ lies w b off vs ∧ Reps w S (pre ++ qs.map (Qc.sub r) ++ post) vs G ∧ le (rng b off (cap * z)) (F i) ∧ le G (F i) ∧ Foot.dis (rng b off (cap * z)) G ∧ free w b off (cap * z) := by
  rcases h.root i with h0 | ⟨u,h1,h2⟩
  · rw [hg] at h0; cases h0
  rw [hg] at h2
  obtain ⟨r,q1,q2,q3⟩ := repQ_elim h2 h1
  simp only [Rep,if_true] at q3
  obtain ⟨ad,len,cap,rfl,e1,e2,e3,e4⟩ := q3
  rcases e4 with ⟨rfl,_⟩ | ⟨b,off,vs,G,rfl,f1,f2,f3,f4,f5,f6⟩
  · have : len = 0 := by omega
    subst this
    simp at e1
    obtain ⟨rfl,rfl,rfl⟩ := e1
    simp at hk
  simp only [RepC] at hc
  obtain ⟨u,b',off',k1,k2,rfl⟩ := hc
  rw [h1] at k1
  cases k1
  simp only [base,Option.some.injEq,Prod.mk.injEq] at k2
  obtain ⟨rfl,rfl⟩ := k2
  exact ⟨r,b,off,vs,G,len,cap,q1,q2,rfl,h1,e1,e2,e3,f1,f2,f3,f4,f5,f6⟩
def qC (js : List Nat) : Qc → Option C
  | .d x => some (.d x)
  | .r m => js[m]?.map .gv
def qCs (js : List Nat) : List Qc → Option (List C)
  | [] => some []
  | q :: qs => match qC js q,qCs js qs with | some c,some cs => some (c :: cs) | _,_ => none
def Qc.noOwn : Qc → Prop
  | .d x => x.noOwn
  | .r _ => True
def qNo : List Qc → Prop
  | [] => True
  | q :: qs => q.noOwn ∧ qNo qs
theorem qNo_sub (r : List Value) : ∀ {qs : List Qc},qNo qs → D.noOwn.all (qs.map (Qc.sub r))
  | [],_ => trivial
  | .d x :: qs,h => ⟨h.1,qNo_sub r h.2⟩
  | .r m :: qs,h => ⟨trivial,qNo_sub r h.2⟩
theorem qC_rep {js : List Nat} {r : List Value} (hj : js.map ρ = r.map some) {q : Qc} {c : C} {v : Value} {G : Foot} (hc : qC js q = some c) (hno : q.noOwn) (hok : q.ok r.length) (h : Rep w S (q.sub r) v G) : RepC w S ρ c v := by
  cases q with
  | d x => simp only [qC,Option.some.injEq] at hc; subst hc; exact h.noOwn hno
  | r m =>
    simp only [qC,Option.map_eq_some_iff] at hc
    obtain ⟨g0,h1,rfl⟩ := hc
    obtain ⟨h2,h3⟩ := h
    have hok : m < r.length := hok
    have := congrArg (fun l => l[m]?) hj
    simp only [List.getElem?_map,h1,List.getElem?_eq_getElem hok,Option.map_some,Option.some.injEq] at this
    refine ⟨?_,h3⟩
    rw [this,h2,List.getD_eq_getElem?_getD,List.getElem?_eq_getElem hok]
    rfl
theorem qCs_rep {js : List Nat} {r : List Value} (hj : js.map ρ = r.map some) : ∀ {qs : List Qc} {cs : List C} {vs : List Value} {G : Foot},qCs js qs = some cs → qNo qs → (∀ q ∈ qs,q.ok r.length) → Reps w S (qs.map (Qc.sub r)) vs G → RepCs w S ρ cs vs
  | [],cs,vs,G,hc,_,_,h => by
    simp only [qCs,Option.some.injEq] at hc
    subst hc
    exact h
  | q :: qs,cs,vs,G,hc,hno,hok,h => by
    simp only [qCs] at hc
    split at hc
    · rename_i c cs' h1 h2
      cases hc
      simp only [List.map_cons,Reps] at h
      obtain ⟨v,us,F1,F2,rfl,_,_,_,h4,h5⟩ := h
      exact ⟨v,us,rfl,qC_rep hj h1 hno.1 (hok q (by simp)) h4,qCs_rep hj h2 hno.2 (fun x hx => hok x (by simp [hx])) h5⟩
    · cases hc
section
variable {dst : Option Tmp} {ty : TypeId} {pos : String} {after : Array Edge} {guard : Option (Nat × Bool)} {x y : Operand} {z i k o : Nat} {pre post : List D} {qs : List Qc} {js : List Nat}
theorem a_ldQ {T : Nat} {q : Qc} {c : C} (hc : opd st x = .one (.gp i k)) (hg : lkG st.h i = .opq (rowQ z pre qs post) (i :: js)) (hT : cellB P T = true) (hq : qs[o]? = some q) (hcq : qC js q = some c) (hno : q.noOwn) (hk : k = pre.length + o) : Acts P g ⟨dst,.load T x,ty,pos,after,guard⟩ st (.one c) [] [] := by
  refine acts_of fun a w S ρ F h => ?_
  have ho : o < qs.length := (List.getElem?_eq_some_iff.1 hq).1
  obtain ⟨r,b,off,vs,G,len,cap,q1,q2,e1,e2,e3,e4,e5,e6,e7,e8⟩ := h.tgt_q (opd_one h hc) hg (by omega)
  have hrow : (pre ++ qs.map (Qc.sub r) ++ post)[k]? = some (q.sub r) := by
    subst hk
    rw [List.append_assoc,List.getElem?_append_right (by omega),show pre.length + o - pre.length = o by omega,List.getElem?_append_left (by simpa using ho),List.getElem?_map,hq]
    rfl
  obtain ⟨v,F1,hv,hle,hv'⟩ := e7.nth hrow
  refine ⟨v,run_ld ?_,qC_rep q1 hcq hno (q2 q (List.mem_of_getElem? hq)) hv'⟩
  rw [e1]
  exact run_load_cell hT (e6 k v hv)
theorem a_ldsQ {T n : Nat} {qs' : List Qc} {cs : List C} (hc : opd st x = .one (.gp i k)) (hg : lkG st.h i = .opq (rowQ z pre qs post) (i :: js)) (hT : aggB P T n = true) (hn : 0 < n) (hq : (qs.drop o).take n = qs') (hl : o + n ≤ qs.length) (hcq : qCs js qs' = some cs) (hno : qNo qs') (hk : k = pre.length + o) : Acts P g ⟨dst,.load T x,ty,pos,after,guard⟩ st (.agg cs) [] [] := by
  subst hq
  refine acts_of fun a w S ρ F h => ?_
  obtain ⟨r,b,off,vs,G,len,cap,q1,q2,e1,e2,e3,e4,e5,e6,e7,e8⟩ := h.tgt_q (opd_one h hc) hg (by omega)
  have hrow : ((pre ++ qs.map (Qc.sub r) ++ post).drop k).take n = ((qs.drop o).take n).map (Qc.sub r) := by
    subst hk
    rw [List.append_assoc,← List.drop_drop,List.drop_left',List.drop_append_of_le_length (by simp; omega),List.take_append_of_le_length (by simp; omega),← List.map_drop,← List.map_take]
    rfl
  have hlen := e7.length
  have h1 := (e7.drop k).take n
  rw [hrow] at h1
  refine ⟨.agg ((vs.drop k).take n).toArray,run_ld ?_,⟨_,rfl,by simpa using qCs_rep q1 hcq hno (fun q hq => q2 q (List.mem_of_mem_drop (List.mem_of_mem_take hq))) h1⟩⟩
  rw [e1]
  exact run_load_agg hT ((e6.drop k).take n) (by simp only [List.length_append,List.length_map] at hlen; simp; omega)
theorem a_iaQ {T kk : Nat} {kd : IntKind} {m : Int} (hc : opd st x = .one (.gv i)) (hg : lkG st.h i = .opq (rowQ z pre qs post) (i :: js)) (hi : opd st y = .one (.d (.sc (.int kd m)))) (hT : sliceB P T z = true) (h0 : 0 ≤ m) (hn : m.toNat * z < pre.length + qs.length + post.length) (hk : m.toNat * z = kk) : Acts P g ⟨dst,.indexAddr T x y,ty,pos,after,guard⟩ st (.one (.gp i kk)) [] [] := by
  subst hk
  refine acts_of fun a w S ρ F h => ?_
  have h1 := opd_one h hc
  rcases h.root i with h2 | ⟨u,e1,e2⟩
  · rw [hg] at h2; cases h2
  rw [hg] at e2
  obtain ⟨r,q1,q2,e2⟩ := repQ_elim e2 e1
  obtain ⟨ad,len,cap,hv,hlr,hz,hlc,hcn⟩ := sl_len e2
  have h1' := h1.1
  rw [e1] at h1'
  cases h1'
  simp only [Rep,if_true] at e2
  obtain ⟨ad',len',cap',he,_,_,_,h2⟩ := e2
  rw [hv] at he
  simp only [Value.slice.injEq] at he
  obtain ⟨rfl,rfl,rfl⟩ := he
  have hlt : m.toNat < len := by
    simp only [List.length_append,List.length_map] at hlr
    rw [hlr] at hn
    exact Nat.lt_of_mul_lt_mul_right hn
  rcases h2 with ⟨rfl,_⟩ | ⟨b,of0,vs,G,rfl,hl,hrs,_⟩
  · omega
  refine ⟨.pointer (some ⟨b,of0 + m.toNat * z,none⟩),?_,⟨_,b,of0,e1,by rw [hv]; rfl,rfl⟩⟩
  show (do pure (.value (← Instr.indexAt T (a.eval x) (a.eval y))) : Sem Next).run P w = _
  rw [opd_sc h hi,hv]
  simp [run_indexAt hT h0 (show m < (len : Int) by omega)]
end
def cQ (h : List (Nat × GB)) : Nat → List C → Option (List Qc × List Nat)
  | _,[] => some ([],[])
  | b,c :: cs => match cD h c with
    | some x => match cQ h b cs with | some (q,j) => some (.d x :: q,j) | none => none
    | none => match c with
      | .gv g => match cQ h (b + 1) cs with | some (q,j) => some (.r b :: q,g :: j) | none => none
      | _ => none
theorem rel_cQ (h : Rel g st a w S ρ F) : ∀ {cs : List C} {vs : List Value} {qs : List Qc} {js : List Nat} {b : Nat},RepCs w S ρ cs vs → cQ st.h b cs = some (qs,js) → ∃ r,js.map ρ = r.map some ∧ (∀ q ∈ qs,q.ok (b + js.length)) ∧ ∀ pr po : List Value,pr.length = b → Reps w S (qs.map (Qc.sub (pr ++ r ++ po))) vs no
  | [],vs,qs,js,b,hc,hx => by
    simp only [cQ,Option.some.injEq,Prod.mk.injEq] at hx
    obtain ⟨rfl,rfl⟩ := hx
    exact ⟨[],rfl,by simp,fun _ _ _ => hc⟩
  | c :: cs,vs,qs,js,b,hc,hx => by
    simp only [RepCs] at hc
    obtain ⟨v,us,rfl,h3,h4⟩ := hc
    simp only [cQ] at hx
    split at hx
    · rename_i x hd
      split at hx
      · rename_i q j hq
        simp only [Option.some.injEq,Prod.mk.injEq] at hx
        obtain ⟨rfl,rfl⟩ := hx
        obtain ⟨r,r1,r2,r3⟩ := rel_cQ h h4 hq
        refine ⟨r,r1,?_,fun pr po hp => ⟨v,us,no,no,rfl,le_refl _,le_refl _,no_dis _,rel_cD h h3 hd,r3 pr po hp⟩⟩
        intro q hq
        rcases List.mem_cons.1 hq with rfl | hq
        · trivial
        · exact r2 q hq
      · cases hx
    · split at hx
      · rename_i g0 _
        split at hx
        · rename_i q j hq
          simp only [Option.some.injEq,Prod.mk.injEq] at hx
          obtain ⟨rfl,rfl⟩ := hx
          obtain ⟨r,r1,r2,r3⟩ := rel_cQ h h4 hq
          refine ⟨v :: r,by simp [r1,h3.1],?_,fun pr po hp => ?_⟩
          · intro q hq
            rcases List.mem_cons.1 hq with rfl | hq
            · show b < b + (j.length + 1); omega
            · exact ok_mono (r2 q hq) (by simp; omega)
          · have h5 := r3 (pr ++ [v]) po (by simp [hp])
            rw [show pr ++ [v] ++ r ++ po = pr ++ (v :: r) ++ po by simp] at h5
            refine ⟨v,us,no,no,rfl,le_refl _,le_refl _,no_dis _,⟨?_,h3.2⟩,h5⟩
            rw [List.getD_eq_getElem?_getD,List.append_assoc,List.getElem?_append_right (by omega),hp]
            simp
        · cases hx
      · cases hx
section
variable {dst : Option Tmp} {ty : TypeId} {pos : String} {after : Array Edge} {guard : Option (Nat × Bool)} {x y : Operand}
theorem a_litQ {T z bytes n i : Nat} {ps : List (Nat × Operand)} {cs : List C} {qs : List Qc} {js : List Nat} (hT : appB P T z bytes = true) (hz0 : 0 < z) (hn : ps.length = n) (hsm : n * z ≤ 16777216) (ho : inOrder 0 ps = true) (hc : catCells st z ps = some cs) (hd : cQ st.h 0 cs = some (qs,js)) :
    Acts P g ⟨dst,.buildSlice T n ps.toArray,ty,pos,after,guard⟩ st (.one (.gv i)) [] [(i,.opq (rowQ z [] qs []) (i :: js))] :=
  a_litG hT hz0 hn hsm ho hc fun a w S ρ F h vs hv => by
    obtain ⟨r,r1,r2,r3⟩ := rel_cQ h hv hd
    refine ⟨qs.map (Qc.sub r),by simpa using r3 [] [] rfl,fun ρ' u w' F' hle hu hr => ?_⟩
    refine repQ_intro hu (envs_le hle r1) (fun q hq => ?_) (by simpa using hr)
    have := congrArg List.length r1
    simp only [List.length_map] at this
    have h2 := r2 q hq
    rwa [Nat.zero_add,this] at h2
theorem a_appQ {T i j k zz bytes : Nat} {row : List D} {qs : List Qc} {js : List Nat} (hT : appB P T zz bytes = true) (hx : opd st x = .one (.gv i)) (hg : lkG st.h i = .row zz row) (hy : opd st y = .one (.gv k)) (hs : lkG st.h k = .opq (rowQ zz [] qs []) (k :: js)) (hno : qNo qs)
    (h63 : (cnt zz row + qs.length / zz) ≤ 9223372036854775807) (hby : (cnt zz row + qs.length / zz) * bytes ≤ 140737488355328) (hji : ¬ j = i) :
    Acts P g ⟨dst,.call { callee := .builtin .append,args := #[x,y],argTypes := #[T,T] },ty,pos,after,guard⟩ st (.one (.gv j)) [i] [(j,.opq (rowQ zz row qs []) (j :: js)),(i,.dead)] := by
  refine a_appG (n2 := qs.length / zz) hT hx hg hji (fun a w S ρ F h => ?_) h63 hby
  rcases h.root k with h0 | ⟨u,r1,r2⟩
  · rw [hs] at h0; cases h0
  rw [hs] at r2
  obtain ⟨r,q1,q2,q3⟩ := repQ_elim r2 r1
  simp only [List.nil_append,List.append_nil] at q3
  have hy1 := (opd_one h hy).1
  rw [r1] at hy1
  cases hy1
  obtain ⟨ad,len,cap,hv,hlr,hz,hlc,hcn⟩ := sl_len q3
  simp only [Rep,if_true] at q3
  obtain ⟨ad',len',cap',he,hlr',_,hlc',h2⟩ := q3
  rw [hv] at he
  simp only [Value.slice.injEq] at he
  obtain ⟨rfl,rfl,rfl⟩ := he
  have hlq : qs.length / zz = len := by rw [← hcn]; simp [cnt]
  have hpost : ∀ ρ' u' w' F',Env.le ρ ρ' → ρ' j = some u' → Rep w' S (.sl true zz (row ++ qs.map (Qc.sub r))) u' F' → RepG w' S ρ' (.opq (rowQ zz row qs []) (j :: js)) u' F' := fun ρ' u' w' F' hle hu hr => repQ_intro hu (envs_le hle q1) q2 (by simpa using hr)
  rcases h2 with ⟨rfl,_⟩ | ⟨b,off,vs,G0,rfl,hl,hr,_,hG,_⟩
  · have : len = 0 := by omega
    subst this
    have hn : qs.map (Qc.sub r) = [] := by simpa using hlr
    exact ⟨_,0,0,[],_,hv,hlr,hlq,.inl rfl,by rw [hn]; exact rfl,hpost⟩
  · exact ⟨_,len,cap,vs,_,hv,hlr,hlq,.inr ⟨b,off,rfl,hl⟩,hr.noOwn (qNo_sub r hno),hpost⟩
theorem setRow_map {α β : Type} (f : α → β) : ∀ (m l : List α) (o : Nat),(setRow l o m).map f = setRow (l.map f) o (m.map f)
  | [],_,_ => rfl
  | x :: m,l,o => by simp only [setRow,List.map_cons,← List.map_set,setRow_map f m]
theorem setRow_midQ {α : Type} (pre post : List α) : ∀ (m l : List α) (o : Nat),o + m.length ≤ l.length → setRow (pre ++ l ++ post) (pre.length + o) m = pre ++ setRow l o m ++ post
  | [],_,_,_ => rfl
  | x :: m,l,o,h => by
    simp only [List.length_cons] at h
    simp only [setRow]
    rw [List.append_assoc,List.set_append_right _ _ (by omega),show pre.length + o - pre.length = o by omega,List.set_append_left _ _ (by omega),← List.append_assoc,show pre.length + o + 1 = pre.length + (o + 1) by omega,setRow_midQ pre post m (l.set o x) (o + 1) (by simp; omega)]
theorem setRow_mem {α : Type} {q : α} : ∀ {m l : List α} {o : Nat},q ∈ setRow l o m → q ∈ l ∨ q ∈ m
  | [],_,_,h => .inl h
  | x :: m,l,o,h => by
    rcases setRow_mem (m := m) h with h | h
    · rcases List.mem_or_eq_of_mem_set h with h | rfl
      · exact .inl h
      · exact .inr (by simp)
    · exact .inr (by simp [h])
theorem cQ_len {h : List (Nat × GB)} : ∀ {cs : List C} {b : Nat} {qs : List Qc} {js : List Nat},cQ h b cs = some (qs,js) → qs.length = cs.length
  | [],b,qs,js,e => by simp only [cQ,Option.some.injEq,Prod.mk.injEq] at e; rw [← e.1]; rfl
  | c :: cs,b,qs,js,e => by
    simp only [cQ] at e
    split at e
    · split at e
      · rename_i q j hq
        simp only [Option.some.injEq,Prod.mk.injEq] at e
        rw [← e.1]; simp [cQ_len hq]
      · cases e
    · split at e
      · split at e
        · rename_i q j hq
          simp only [Option.some.injEq,Prod.mk.injEq] at e
          rw [← e.1]; simp [cQ_len hq]
        · cases e
      · cases e
theorem a_stQ {T i k o zz : Nat} {xs : List C} {qs qs2 : List Qc} {js js2 : List Nat} {pre post : List D} (hc : opd st x = .one (.gp i k)) (hg : lkG st.h i = .opq (rowQ zz pre qs post) (i :: js)) (hs : (opd st y).cells = some xs) (hd : cQ st.h js.length xs = some (qs2,js2)) (hT : sizeB P T xs.length = true) (h0 : 0 < xs.length) (hk : k = pre.length + o) (hl : o + xs.length ≤ qs.length) :
    Acts P g ⟨none,.store T x y,ty,pos,after,guard⟩ st .any [i] [(i,.opq (rowQ zz pre (setRow qs o qs2) post) (i :: (js ++ js2)))] := by
  refine ⟨fun a w S ρ F h _ K Q hK => ?_⟩
  obtain ⟨r,b,off,vs,G,len,cap,t1,t2,e1,e2,e3,e4,e5,e6,e7,e8,e9,e10,e11⟩ := h.tgt_q (opd_one h hc) hg (by omega)
  have hy := (h.opd y).cells hs
  have hyl := hy.length
  have hql := cQ_len hd
  have hvl := e7.length
  obtain ⟨r2,s1,s2,s3⟩ := rel_cQ h hy hd
  have hjr : js.length = r.length := by have := congrArg List.length t1; simpa using this
  have hjr2 : js2.length = r2.length := by have := congrArg List.length s1; simpa using this
  have s3 := s3 r [] hjr.symm
  rw [List.append_nil] at s3
  have hcap : (pre ++ qs.map (Qc.sub r) ++ post).length ≤ cap * zz := by rw [e3]; exact Nat.mul_le_mul_right _ e5
  have hcap' := hcap
  simp only [List.length_append,List.length_map] at hcap' hvl
  have hfr : free w b (off + k) (a.eval y).cells.toList.length := by
    intro j hj
    have := e11 (k + j) (by omega)
    rwa [← Nat.add_assoc] at this
  obtain ⟨w',r1,r2',r3,r4,r5⟩ := run_stores (P := P) b (a.eval y).cells.toList 0 (off + k) w hy.one (by simpa using hfr)
  rw [Nat.add_zero] at r2' r3
  have hrun := run_st (P := P) (x := x) (y := y) (T := T) (dst := none) (ty := ty) (pos := pos) (after := after) (guard := guard) (a := a) (w := w) (w' := w') (by rw [e1]; exact run_storeAt (by rw [← Array.length_toList,hyl]; exact hT) r1)
  refine oper_in (fun _ h => nomatch h) ?_
  rw [hrun,Oper.uponIn_skip]
  have hin : le (rng b (off + k) (a.eval y).cells.toList.length) (F i) := fun b' o' ⟨q1,q2,q3⟩ => e8 b' o' ⟨q1,by omega,by omega⟩
  have hk' := r2'.mono hin
  have hbl : b < w.heap.size := block_lt (e11 0 (by omega)).1
  have hagS : Agree w w' S := hk'.agree h.exS (fun b o hb hf => h.disS i b o hf hb)
  have hagG : Agree w w' G := r2'.agree (fun b o hb => h.ex i b o (e9 b o hb)) (fun b' o' hb ⟨q1,q2,q3⟩ => e10 b' o' ⟨q1,by omega,by omega⟩ hb)
  refine hK undef w' no ρ _ (Done.chg (G := F i) hk' e2 ?_ (fun b o hb => ⟨.inl hb,by rw [r5]; exact h.ex i b o hb⟩)) trivial
  have hrow : pre ++ (setRow qs o qs2).map (Qc.sub (r ++ r2)) ++ post = setRow (pre ++ qs.map (Qc.sub r) ++ post) k (qs2.map (Qc.sub (r ++ r2))) := by
    rw [hk,setRow_midQ _ _ _ _ _ (by simp; omega),setRow_map,subs_app t2]
  refine repQ_intro (r := r ++ r2) e2 (by simp [t1,s1]) (fun q hq => ?_) ?_
  · rcases setRow_mem hq with hq | hq
    · exact ok_mono (t2 q hq) (by simp)
    · exact ok_mono (s2 q hq) (by simp; omega)
  · rw [hrow]
    simp only [Rep,if_true]
    refine ⟨_,len,cap,rfl,by rw [setRow_length]; exact e3,e4,e5,.inr ⟨b,off,setRow vs k (a.eval y).cells.toList,G,rfl,lies_stored (F0 := no) e6 (fun _ => hbl) r2' r3 (by omega),(Reps.setRow e7 s3 (by simp; omega)).keep hagG hagS (le_refl _) (le_refl _),e8,e9,e10,?_⟩⟩
    exact free_stored e11 (fun _ => hbl) r2' r3 r4
end
end
section
variable {g : Gh} {t : List (Nat × SV)} {h : List (Nat × GB)} {n : Nat}
theorem t_weak {i : Nat} {gb gb' : GB} (hg : lkG h i = gb) (hl : gb ≠ .dead) (hw : ∀ w S ρ v F,ρ i = some v → RepG w S ρ gb v F → RepG w S ρ gb' v F) : Conv g ⟨t,h,n⟩ ⟨t,(i,gb') :: h,n⟩ := by
  intro a w S ρ F hr hf
  refine ⟨S,ρ,F,⟨hr.size,hr.defers,hr.slot,fun j => ?_,hr.dis,hr.disS,hr.own,hr.ex,hr.exS,hr.old,hr.inS,hr.newS,hr.pin,hr.tab,hr.fin⟩,hf⟩
  have hj0 := hr.root j
  by_cases hj : j = i
  · subst hj
    have hb : Nat.beq j j = true := by simp
    simp only [lkG,hb,cond_true]
    simp only at hj0
    rw [hg] at hj0
    rcases hj0 with h0 | ⟨u,r1,r2⟩
    · exact absurd h0 hl
    · exact .inr ⟨u,r1,hw _ _ _ _ _ r1 r2⟩
  · have hb := beq_ne hj
    simp only [lkG,hb,cond_false]
    exact hj0
theorem t_q {i z : Nat} {pre cs post : List D} (hg : lkG h i = .row z (pre ++ cs ++ post)) : Conv g ⟨t,h,n⟩ ⟨t,(i,.opq (rowQ z pre (cs.map .d) post) [i]) :: h,n⟩ :=
  t_weak hg (by simp) fun w S ρ v F hv hr => repQ_intro (r := []) hv rfl (qs_ok_d _ _) (by rw [qs_map_d]; exact hr)
theorem t_u {i z : Nat} {pre cs post row : List D} {qs : List Qc} {js : List Nat} (hg : lkG h i = .opq (rowQ z pre qs post) (i :: js)) (hq : qs = cs.map .d) (hrow : pre ++ cs ++ post = row) : Conv g ⟨t,h,n⟩ ⟨t,(i,.row z row) :: h,n⟩ := by
  subst hrow hq
  refine t_weak hg (by simp) fun w S ρ v F hv hr => ?_
  obtain ⟨r,q1,q2,q3⟩ := repQ_elim hr hv
  rw [qs_map_d] at q3
  exact q3
theorem t_row {i z : Nat} {xs ys : List D} (hg : lkG h i = .row z xs) (hw : ∀ w S vs F,Reps w S xs vs F → Reps w S ys vs F) : Conv g ⟨t,h,n⟩ ⟨t,(i,.row z ys) :: h,n⟩ := by
  refine t_weak hg (by simp) fun w S ρ v F hv hr => ?_
  simp only [RepG,Rep,if_true] at hr ⊢
  obtain ⟨ad,len,cap,rfl,e1,e2,e3,e4⟩ := hr
  rcases e4 with ⟨rfl,e5⟩ | ⟨b,off,vs,G,rfl,f1,f2,f3,f4,f5,f6⟩
  · have : len = 0 := by omega
    subst this
    have hx : xs = [] := by simpa using e1
    subst hx
    have hy := (hw w S [] no rfl).length
    have hy : ys = [] := by cases ys with | nil => rfl | cons _ _ => simp at hy
    subst hy
    exact ⟨ad,0,0,rfl,e1,e2,e3,.inl ⟨rfl,e5⟩⟩
  · have h1 := f2.length
    have h2 := (hw _ _ _ _ f2).length
    exact ⟨_,len,cap,rfl,by omega,e2,e3,.inr ⟨b,off,vs,G,rfl,f1,hw _ _ _ _ f2,f3,f4,f5,f6⟩⟩
theorem set_mid {α : Type} (pre l post : List α) (k : Nat) (x : α) (h : k < l.length) : (pre ++ l ++ post).set (pre.length + k) x = pre ++ l.set k x ++ post := by
  rw [List.append_assoc,List.set_append_right _ _ (by omega),show pre.length + k - pre.length = k by omega,List.set_append_left _ _ h,← List.append_assoc]
theorem get_mid {α : Type} (pre l post : List α) (k : Nat) (h : k < l.length) : (pre ++ l ++ post)[pre.length + k]? = l[k]? := by
  rw [List.append_assoc,List.getElem?_append_right (by omega),show pre.length + k - pre.length = k by omega,List.getElem?_append_left h]
theorem t_open1 {i z k z' : Nat} {pre post r0 : List D} {qs : List Qc} {js : List Nat} (hi : Nat.blt i n = true) (hg : lkG h i = .opq (rowQ z pre qs post) (i :: js)) (hq : qs[k]? = some (.d (.sl true z' r0))) : Conv g ⟨t,h,n⟩ ⟨t,(i,.opq (rowQ z pre (qs.set k (.r js.length)) post) (i :: (js ++ [n]))) :: (n,.row z' r0) :: h,n + 1⟩ := by
  intro a w S ρ F hr hf
  have hn : ρ n = none := hf n (Nat.le_refl n)
  have hin : i ≠ n := by have := blt_lt hi; omega
  have hk : k < qs.length := (List.getElem?_eq_some_iff.1 hq).1
  rcases hr.root i with h0 | ⟨u,h1,h2⟩
  · rw [hg] at h0; cases h0
  rw [hg] at h2
  obtain ⟨r,q1,q2,q3⟩ := repQ_elim h2 h1
  have hjr : js.length = r.length := by have := congrArg List.length q1; simpa using this
  have hget : (pre ++ qs.map (Qc.sub r) ++ post)[pre.length + k]? = some (.sl true z' r0) := by
    rw [get_mid _ _ _ _ (by simpa using hk),List.getElem?_map,hq]; rfl
  simp only [Rep,if_true] at q3
  obtain ⟨ad,len,cap,rfl,e1,e2,e3,e4⟩ := q3
  rcases e4 with ⟨rfl,_⟩ | ⟨b,off,vs,G,rfl,f1,f2,f3,f4,f5,f6⟩
  · have : len = 0 := by omega
    subst this
    simp at e1
    obtain ⟨rfl,rfl,rfl⟩ := e1
    simp at hk
  obtain ⟨v,F1,F2,p1,p2,p3,p4,p5,p6⟩ := f2.out hget
  have hle : Env.le ρ (fun j => if j = n then some v else ρ j) := fun k u hk => by
    have : k ≠ n := fun e => by rw [e,hn] at hk; cases hk
    simp only [this,if_false]; exact hk
  have hFn : le F1 (F i) := p2.trans f4
  have hFi : le ((rng b off (cap * z)).or F2) (F i) := or_le f3 (p3.trans f4)
  have hdis : Foot.dis F1 ((rng b off (cap * z)).or F2) := fun b o x y => y.elim (fun y => f5 b o y (p2 b o x)) (fun y => p4 b o x y)
  refine ⟨S,fun j => if j = n then some v else ρ j,fun j => if j = n then F1 else if j = i then (rng b off (cap * z)).or F2 else F j,⟨hr.size,hr.defers.same fun j r o hj => (by split at hj; exact ⟨i,hFn _ _ hj⟩; split at hj; exact ⟨i,hFi _ _ hj⟩; exact ⟨j,hj⟩),fun j => (hr.slot j).keep (Agree.refl _ _) (le_refl _) hle,fun j => ?_,fun j k hjk => ?_,fun j => ?_,fun j => ?_,fun j b o hb => ?_,hr.exS,hr.old,hr.inS,hr.newS,fun i u hi hu => hle _ _ (hr.pin i u hi hu),hr.tab,(fun ⟨N,hN⟩ => ⟨max N (n + 1),fun i hi => by rw [if_neg (by omega)]; exact hN i (by omega)⟩) hr.fin⟩,fun k hk => ?_⟩
  · simp only [lkG]
    by_cases hj : j = i
    · subst hj
      have hb : Nat.beq j j = true := by simp
      simp only [hb,cond_true,if_neg hin,if_true]
      refine .inr ⟨_,h1,repQ_intro (r := r ++ [v]) (by simp only [if_neg hin]; exact h1) ?_ ?_ ?_⟩
      · have := envs_le hle q1
        simp only [List.map_append,this,List.map_cons,List.map_nil,if_true]
      · intro q hq'
        rcases List.mem_or_eq_of_mem_set hq' with hq' | rfl
        · exact ok_mono (q2 q hq') (by simp)
        · show js.length < _; simp; omega
      · have hrow : pre ++ (qs.set k (.r js.length)).map (Qc.sub (r ++ [v])) ++ post = (pre ++ qs.map (Qc.sub r) ++ post).set (pre.length + k) (.sc v) := by
          rw [set_mid _ _ _ _ _ (by simpa using hk),List.map_set,subs_app q2]
          congr 3
          simp only [Qc.sub,List.getD_eq_getElem?_getD,hjr]
          simp
        rw [hrow]
        simp only [Rep,if_true]
        exact ⟨_,len,cap,rfl,by simpa using e1,e2,e3,.inr ⟨b,off,vs,F2,rfl,f1,p6,le_or_left _ _,le_or_right _ _,f5.le (le_refl _) p3,f6⟩⟩
    · simp only [beq_ne hj,cond_false]
      by_cases hjn : j = n
      · subst hjn
        have hb : Nat.beq j j = true := by simp
        simp only [hb,cond_true,if_true]
        exact .inr ⟨v,rfl,p5⟩
      · simp only [beq_ne hjn,cond_false,if_neg hj,if_neg hjn]
        rcases hr.root j with h0 | ⟨u,r1,r2⟩
        · exact .inl h0
        · exact .inr ⟨u,r1,r2.keep (Agree.refl _ _) (Agree.refl _ _) (le_refl _) hle (le_refl _)⟩
  · have key : ∀ l,(if l = n then F1 else if l = i then (rng b off (cap * z)).or F2 else F l) = if l = n then F1 else if l = i then (rng b off (cap * z)).or F2 else F l := fun _ => rfl
    by_cases hj : j = n
    · have hkn : k ≠ n := fun e => hjk (by rw [hj,e])
      simp only [hj,if_true,if_neg hkn]
      by_cases hki : k = i
      · simp only [hki,if_true]; exact hdis
      · simp only [if_neg hki]; exact (hr.dis i k (fun e => hki e.symm)).le hFn (le_refl _)
    · simp only [if_neg hj]
      by_cases hji : j = i
      · simp only [hji,if_true]
        by_cases hkn : k = n
        · simp only [hkn,if_true]; exact hdis.symm
        · have hki : k ≠ i := fun e => hjk (by rw [hji,e])
          simp only [if_neg hkn,if_neg hki]; exact (hr.dis i k (fun e => hki e.symm)).le hFi (le_refl _)
      · simp only [if_neg hji]
        by_cases hkn : k = n
        · simp only [hkn,if_true]; exact (hr.dis j i hji).le (le_refl _) hFn
        · simp only [if_neg hkn]
          by_cases hki : k = i
          · simp only [hki,if_true]; exact (hr.dis j i hji).le (le_refl _) hFi
          · simp only [if_neg hki]; exact hr.dis j k hjk
  · by_cases hj : j = n
    · simp only [hj,if_true]; exact (hr.disS i).le hFn (le_refl _)
    · by_cases hji : j = i
      · simp only [hji,hin,if_false,if_true]; exact (hr.disS i).le hFi (le_refl _)
      · simp only [if_neg hj,if_neg hji]; exact hr.disS j
  · by_cases hj : j = n
    · simp only [hj,if_true]; exact hFn.trans (hr.own i)
    · by_cases hji : j = i
      · simp only [hji,hin,if_false,if_true]; exact hFi.trans (hr.own i)
      · simp only [if_neg hj,if_neg hji]; exact hr.own j
  · by_cases hj : j = n
    · simp only [hj,if_true] at hb; exact hr.ex i b o (hFn _ _ hb)
    · by_cases hji : j = i
      · simp only [hji,hin,if_false,if_true] at hb; exact hr.ex i b o (hFi _ _ hb)
      · simp only [if_neg hj,if_neg hji] at hb; exact hr.ex j b o hb
  · have hk' : n + 1 ≤ k := hk
    have : k ≠ n := by omega
    simp only [this,if_false]
    exact hf k (by show n ≤ k; omega)
theorem t_close1 {i j z k m z' : Nat} {pre post r0 : List D} {qs : List Qc} {js : List Nat} (hg : lkG h i = .opq (rowQ z pre qs post) (i :: js)) (hq : qs[k]? = some (.r m)) (hj : js[m]? = some j) (hij : Nat.beq i j = false) (hj2 : lkG h j = .row z' r0) : Conv g ⟨t,h,n⟩ ⟨t,(i,.opq (rowQ z pre (qs.set k (.d (.sl true z' r0))) post) (i :: js)) :: (j,.dead) :: h,n⟩ := by
  intro a w S ρ F hr hf
  have hne : i ≠ j := fun e => by rw [e] at hij; simp at hij
  have hk : k < qs.length := (List.getElem?_eq_some_iff.1 hq).1
  rcases hr.root i with h0 | ⟨u,h1,h2⟩
  · rw [hg] at h0; cases h0
  rw [hg] at h2
  rcases hr.root j with h0 | ⟨v,h3,h4⟩
  · rw [hj2] at h0; cases h0
  rw [hj2] at h4
  obtain ⟨r,q1,q2,q3⟩ := repQ_elim h2 h1
  have hm : r[m]? = some v := by
    have := congrArg (fun l => l[m]?) q1
    simp only [List.getElem?_map,hj,Option.map_some,h3] at this
    cases hrm : r[m]? with
    | none => rw [hrm] at this; cases this
    | some x => rw [hrm] at this; simp at this; rw [this]
  have hget : (pre ++ qs.map (Qc.sub r) ++ post)[pre.length + k]? = some (.sc v) := by
    rw [get_mid _ _ _ _ (by simpa using hk),List.getElem?_map,hq]
    simp [Qc.sub,List.getD_eq_getElem?_getD,hm]
  have hdij : Foot.dis (F j) (F i) := hr.dis j i (fun e => hne e.symm)
  have hnew : RepG w S ρ (.opq (rowQ z pre (qs.set k (.d (.sl true z' r0))) post) (i :: js)) u ((F i).or (F j)) := by
    refine repQ_intro h1 q1 (fun q hq' => ?_) ?_
    · rcases List.mem_or_eq_of_mem_set hq' with hq' | rfl
      · exact q2 q hq'
      · trivial
    · rw [List.map_set,← set_mid _ _ _ _ _ (by simpa using hk)]
      simp only [Rep,if_true] at q3 ⊢
      obtain ⟨ad,len,cap,rfl,e1,e2,e3,e4⟩ := q3
      rcases e4 with ⟨rfl,_⟩ | ⟨b,off,vs,G,rfl,f1,f2,f3,f4,f5,f6⟩
      · have : len = 0 := by omega
        subst this
        simp at e1
        obtain ⟨rfl,rfl,rfl⟩ := e1
        simp at hk
      · have hset := f2.set hget (show Rep w S (.sl true z' r0) v (F j) from h4) (hdij.le (le_refl _) f4)
        obtain ⟨v',F1,p1,_,p2⟩ := f2.nth hget
        have hvv : v' = v := p2.1
        have hvs : vs.set (pre.length + k) v = vs := by
          rw [hvv] at p1
          apply List.ext_getElem?; intro q; rw [List.getElem?_set]; split
          · rename_i e; subst e; split
            · exact p1.symm
            · rename_i e; rw [List.getElem?_eq_none (by omega)] at p1; cases p1
          · rfl
        rw [hvs] at hset
        exact ⟨_,len,cap,rfl,by simpa using e1,e2,e3,.inr ⟨b,off,vs,G.or (F j),rfl,f1,hset,f3.trans (le_or_left _ _),or_le (f4.trans (le_or_left _ _)) (le_or_right _ _),fun b o x y => y.elim (fun y => f5 b o x y) (fun y => hdij b o y (f3 b o x)),f6⟩⟩
  refine ⟨S,ρ,fun l => if l = i then (F i).or (F j) else if l = j then no else F l,⟨hr.size,hr.defers.same fun l r o hl => (by split at hl; exact hl.elim (fun h => ⟨i,h⟩) (fun h => ⟨j,h⟩); split at hl; exact hl.elim; exact ⟨l,hl⟩),hr.slot,fun l => ?_,fun l k hlk => ?_,fun l => ?_,fun l => ?_,fun l b o hb => ?_,hr.exS,hr.old,hr.inS,hr.newS,hr.pin,hr.tab,hr.fin⟩,hf⟩
  · simp only [lkG]
    by_cases hl : l = i
    · subst hl
      have hb : Nat.beq l l = true := by simp
      simp only [hb,cond_true,if_true]
      exact .inr ⟨u,h1,hnew⟩
    · simp only [beq_ne hl,cond_false,if_neg hl]
      by_cases hlj : l = j
      · subst hlj
        have hb : Nat.beq l l = true := by simp
        simp only [hb,cond_true]
        exact .inl trivial
      · simp only [beq_ne hlj,cond_false,if_neg hlj]
        exact hr.root l
  · by_cases hl : l = i
    · have hki : k ≠ i := fun e => hlk (by rw [hl,e])
      simp only [hl,if_true,if_neg hki]
      by_cases hkj : k = j
      · simp only [hkj,if_true]; exact dis_no _
      · simp only [if_neg hkj]; exact dis_or (hr.dis i k (fun e => hki e.symm)) (hr.dis j k (fun e => hkj e.symm))
    · simp only [if_neg hl]
      by_cases hlj : l = j
      · simp only [hlj,if_true]; exact no_dis _
      · simp only [if_neg hlj]
        by_cases hki : k = i
        · simp only [hki,if_true]; exact (dis_or (hr.dis i l (fun e => hl e.symm)) (hr.dis j l (fun e => hlj e.symm))).symm
        · simp only [if_neg hki]
          by_cases hkj : k = j
          · simp only [hkj,if_true]; exact dis_no _
          · simp only [if_neg hkj]; exact hr.dis l k hlk
  · by_cases hl : l = i
    · simp only [hl,if_true]; exact dis_or (hr.disS i) (hr.disS j)
    · by_cases hlj : l = j
      · simp only [hlj,if_neg (fun e : j = i => hne e.symm),if_true]; exact no_dis _
      · simp only [if_neg hl,if_neg hlj]; exact hr.disS l
  · by_cases hl : l = i
    · simp only [hl,if_true]; exact or_le (hr.own i) (hr.own j)
    · by_cases hlj : l = j
      · simp only [hlj,if_neg (fun e : j = i => hne e.symm),if_true]; exact no_le _
      · simp only [if_neg hl,if_neg hlj]; exact hr.own l
  · by_cases hl : l = i
    · simp only [hl,if_true] at hb; exact hb.elim (hr.ex i b o) (hr.ex j b o)
    · by_cases hlj : l = j
      · simp only [hlj,if_neg (fun e : j = i => hne e.symm),if_true] at hb; exact hb.elim
      · simp only [if_neg hl,if_neg hlj] at hb; exact hr.ex l b o hb
end
end Go.Proofs.YtnkeamihfiobdaaGreatDoor
end
section
set_option linter.unusedVariables false
set_option linter.unusedSimpArgs false
set_option maxRecDepth 100000
namespace Go.Proofs.YtnkeamihfiobdaaGreatDoor
open Go Foot
theorem rows_cons {α : Type} {E : Enc α} (x : α) (l : List α) : rows E (x :: l) = E.enc x ++ rows E l := by simp [rows]
theorem rows_mid {α : Type} {E : Enc α} {l : List α} {m : Nat} (h : m < l.length) : rows E l = rows E (l.take m) ++ E.enc l[m] ++ rows E (l.drop (m + 1)) := by
  conv => lhs; rw [← List.take_append_drop m l,List.drop_eq_getElem_cons h,← rows_app,rows_cons,← List.append_assoc]
theorem rows_put {α : Type} {E : Enc α} {l : List α} {m : Nat} {a : α} (h : m < l.length) : rows E (l.take m) ++ E.enc a ++ rows E (l.drop (m + 1)) = rows E (l.set m a) := by
  rw [rows_mid (l := l.set m a) (m := m) (by simpa using h)]
  rw [List.take_set_of_le (Nat.le_refl m),List.getElem_set_self,List.drop_set_of_lt (Nat.lt_succ_self m)]
theorem rows_pre {α : Type} {E : Enc α} {l : List α} {m z : Nat} (hz : E.z = z) (h : m ≤ l.length) : (rows E (l.take m)).length = m * z := by
  rw [rows_len,List.length_take,Nat.min_eq_left h,hz]
abbrev opE {α : Type} (E : Enc α) (l : List α) (m z : Nat) (qs : List Qc) (i : Nat) (js : List Nat) : GB := .opq (rowQ z (rows E (l.take m)) qs (rows E (l.drop (m + 1)))) (i :: js)
section
variable {P : Program} {g : Gh} {st : St} {dst : Option Tmp} {ty : TypeId} {pos : String} {after : Array Edge} {guard : Option (Nat × Bool)} {x y : Operand} {α : Type} {E : Enc α} {l : List α} {z i k m : Nat} {qs : List Qc} {js : List Nat}
theorem a_ldQE {T : Nat} {q : Qc} {c : C} (o : Nat) (hc : opd st x = .one (.gp i k)) (hg : lkG st.h i = opE E l m z qs i js) (hT : cellB P T = true) (hq : qs[o]? = some q) (hcq : qC js q = some c) (hno : q.noOwn) (hz : E.z = z) (hm : m < l.length) (hk : k = m * z + o) : Acts P g ⟨dst,.load T x,ty,pos,after,guard⟩ st (.one c) [] [] :=
  a_ldQ hc hg hT hq hcq hno (by rw [rows_pre hz (Nat.le_of_lt hm)]; exact hk)
theorem a_ldsQE {T n : Nat} {qs' : List Qc} {cs : List C} (o : Nat) (hc : opd st x = .one (.gp i k)) (hg : lkG st.h i = opE E l m z qs i js) (hT : aggB P T n = true) (hn : 0 < n) (hq : (qs.drop o).take n = qs') (hl : o + n ≤ qs.length) (hcq : qCs js qs' = some cs) (hno : qNo qs') (hz : E.z = z) (hm : m < l.length) (hk : k = m * z + o) : Acts P g ⟨dst,.load T x,ty,pos,after,guard⟩ st (.agg cs) [] [] :=
  a_ldsQ hc hg hT hn hq hl hcq hno (by rw [rows_pre hz (Nat.le_of_lt hm)]; exact hk)
theorem a_iaQE {T : Nat} {kd : IntKind} {n : Int} (hc : opd st x = .one (.gv i)) (hg : lkG st.h i = opE E l m z qs i js) (hi : opd st y = .one (.d (.sc (.int kd n)))) (hT : sliceB P T z = true) (hz : E.z = z) (hq : qs.length = z) (hm : m < l.length) (h0 : 0 ≤ n) (hn : n < l.length) : Acts P g ⟨dst,.indexAddr T x y,ty,pos,after,guard⟩ st (.one (.gp i (n.toNat * z))) [] [] := by
  refine a_iaQ hc hg hi hT h0 ?_ rfl
  rw [rows_pre hz (Nat.le_of_lt hm),rows_len,hz,hq,List.length_drop]
  have h1 : n.toNat < l.length := by omega
  have h2 : m * z + z + (l.length - (m + 1)) * z = l.length * z := by
    rw [← Nat.succ_mul,← Nat.add_mul]
    congr 1
    omega
  rw [h2]
  exact Nat.mul_lt_mul_of_pos_right h1 (hz ▸ E.pos)
theorem a_stQE {T : Nat} {xs : List C} {qs2 : List Qc} {js2 : List Nat} (o : Nat) (hc : opd st x = .one (.gp i k)) (hg : lkG st.h i = opE E l m z qs i js) (hs : (opd st y).cells = some xs) (hd : cQ st.h js.length xs = some (qs2,js2)) (hT : sizeB P T xs.length = true) (h0 : 0 < xs.length) (hl : o + xs.length ≤ qs.length) (hz : E.z = z) (hm : m < l.length) (hk : k = m * z + o) :
    Acts P g ⟨none,.store T x y,ty,pos,after,guard⟩ st .any [i] [(i,opE E l m z (setRow qs o qs2) i (js ++ js2))] :=
  a_stQ hc hg hs hd hT h0 (by rw [rows_pre hz (Nat.le_of_lt hm)]; exact hk) hl
end
section
variable {g : Gh} {t : List (Nat × SV)} {h : List (Nat × GB)} {n : Nat} {α : Type} {E : Enc α} {l : List α} {z i : Nat}
theorem t_qE (m : Nat) (hm : m < l.length) (hg : lkG h i = .row z (rows E l)) : Conv g ⟨t,h,n⟩ ⟨t,(i,opE E l m z ((E.enc l[m]).map .d) i []) :: h,n⟩ :=
  t_q (by rw [hg,← rows_mid hm])
theorem t_uE {m : Nat} {qs : List Qc} {js : List Nat} (a : α) (hm : m < l.length) (hg : lkG h i = opE E l m z qs i js) (hq : qs = (E.enc a).map .d) : Conv g ⟨t,h,n⟩ ⟨t,(i,.row z (rows E (l.set m a))) :: h,n⟩ :=
  t_u hg hq (rows_put hm)
theorem t_uA {qs : List Qc} {js : List Nat} (m : List α) (hg : lkG h i = .opq (rowQ z (rows E l) qs []) (i :: js)) (hq : qs = (rows E m).map .d) : Conv g ⟨t,h,n⟩ ⟨t,(i,.row z (rows E (l ++ m))) :: h,n⟩ :=
  t_u hg hq (by rw [List.append_nil,rows_app])
end
def NilP : List D → List D → Prop
  | [],[] => True
  | x :: xs,y :: ys => (∀ (w : World) (S : Foot) (v : Value) (F : Foot),Rep w S x v F → Rep w S y v F) ∧ NilP xs ys
  | _,_ => False
theorem nilOwn {z : Nat} (hz : 0 < z) : ∀ (w : World) (S : Foot) (v : Value) (F : Foot),Rep w S (.sc (.slice none 0 0)) v F → Rep w S (.sl true z []) v F := fun w S v F hr => by rw [hr.1]; exact rep_nil hz
theorem NilP.rep : ∀ {xs ys : List D},NilP xs ys → ∀ (w : World) (S : Foot) (vs : List Value) (F : Foot),Reps w S xs vs F → Reps w S ys vs F
  | [],[],_,_,_,_,_,h => h
  | x :: xs,y :: ys,h,w,S,vs,F,hr => by
    simp only [Reps] at hr ⊢
    obtain ⟨v,us,F1,F2,rfl,h1,h2,h3,h4,h5⟩ := hr
    exact ⟨v,us,F1,F2,rfl,h1,h2,h3,h.1 _ _ _ _ h4,NilP.rep h.2 _ _ _ _ h5⟩
theorem NilP.app : ∀ {xs ys xs' ys' : List D},NilP xs ys → NilP xs' ys' → NilP (xs ++ xs') (ys ++ ys')
  | [],[],_,_,_,h => h
  | _ :: _,_ :: _,_,_,h,h' => ⟨h.1,NilP.app h.2 h'⟩
theorem NilP.rows {α β : Type} {E : Enc α} {E' : Enc β} {a : α} {b : β} (h : NilP (E.enc a) (E'.enc b)) : ∀ n,NilP (rows E (List.replicate n a)) (rows E' (List.replicate n b))
  | 0 => trivial
  | n + 1 => by
    rw [List.replicate_succ,List.replicate_succ,rows_cons,rows_cons]
    exact NilP.app h (NilP.rows h n)
theorem t_nilR {g : Gh} {t : List (Nat × SV)} {h : List (Nat × GB)} {n i z k : Nat} {α β : Type} {E : Enc α} {E' : Enc β} {a : α} (b : β) (hg : lkG h i = .row z (rows E (List.replicate k a))) (hn : NilP (E.enc a) (E'.enc b)) : Conv g ⟨t,h,n⟩ ⟨t,(i,.row z (rows E' (List.replicate k b))) :: h,n⟩ := t_row hg (NilP.rep (NilP.rows hn k))
end Go.Proofs.YtnkeamihfiobdaaGreatDoor
end
section
set_option linter.unusedVariables false
set_option linter.unusedSimpArgs false
set_option maxRecDepth 100000
namespace Go.Proofs.YtnkeamihfiobdaaGreatDoor
open Go Foot
theorem nowR {α : Type} {E : Enc α} {l : List α} (h : ∀ x,D.noOwn.all (E.enc x) := by intro _; repeat (first | exact trivial | exact rfl | refine And.intro ?_ ?_)) : D.noOwn.all (rows E l) := noOwn_rows h
theorem shutR {xs ys : List D} (h : ShutL xs ys := by repeat' (first | exact ShutL.nil | exact ShutL.no nowR | (refine ShutL.rows (fun _ => ?_)) | (refine ShutL.cons ?_ ?_) | exact Shut1.no trivial | exact Shut1.no rfl | refine Shut1.sl ?_ | refine Shut1.bx ?_)) : ShutL xs ys := h
theorem plR {xs : List D} (h : D.plain.all xs := by repeat' (first | exact trivial | exact rfl | (refine plain_rows (fun _ => ?_)) | refine And.intro ?_ ?_)) : D.plain.all xs := h
theorem bnd {p : Prop} (h : p := by first | omega | (simp only [List.length_append,List.length_cons,List.length_nil,List.length_set,List.length_replicate,List.length_take,List.length_drop,List.length_tail,List.length_dropLast,List.length_reverse]; omega)) : p := h
section
variable {g : Gh} {dst : Option Tmp} {ty : TypeId} {pos : String} {after : Array Edge} {guard : Option (Nat × Bool)} {x : Operand} {f : Nat} {c0 : C} {cap : List C} {xs : List Operand} {Ts : Array TypeId} {ags : List SV} {H H' : List GB} {res : SV} {θ : List Nat} {t : List (Nat × SV)} {h : List (Nat × GB)} {n : Nat}
theorem callK0 (hc : opd ⟨t,h,n⟩ x = .one c0 := by exact rfl) (hv : fnv c0 = some (.func f,cap) := by exact rfl) (hE : entB Tryz.prog f = true := by exact fQ rfl) (ha : ASLe h [] (xs.map (opd ⟨t,h,n⟩) ++ cap.map .one) (ags.map (SV.ren (calF θ n))) := by (repeat (first | exact ASLe.nil | refine ASLe.cons ?_ ?_ | exact SVLe.refl | refine SVLe.one ?_ | refine SVLe.agg ?_ | exact CsLe.nil | refine CsLe.cons ?_ ?_ | exact CLe.refl | exact CLe.sh rfl | exact CLe.nil (by decide) | refine CLe.fn ?_ | refine CLe.fnD ?_ | refine CLe.ifc ?_ | refine CLe.ifcD ?_)); first | done | fail) (hH : rootsEq (calF θ n) ⟨t,h,n⟩ 0 H := by repeat (first | exact trivial | refine And.intro ?_ ?_ | exact rfl)) (hD : Does Tryz.prog f ags H res H')
    (hk : H.length = θ.length := by exact rfl) (hθ : nodupB θ = true := by exact rfl) (hm : θ.all (fun t => Nat.blt t n) = true := by exact rfl)
    (hlt : ltA H.length ags = true := by exact rfl) (hltH : allG H.length H = true := by exact rfl) (hltr : res.lt H'.length = true := by exact rfl) (hltH' : allG H'.length H' = true := by exact rfl) :
    Acts Tryz.prog g ⟨dst,.call { callee := .value x,args := xs.toArray,argTypes := Ts },ty,pos,after,guard⟩ ⟨t,h,n⟩ (res.ren (calF θ n)) θ (upOf (calF θ n) 0 H') :=
  a_call0 hc hv hE ha hH hD hk hθ hm hlt hltH hltr hltH'
theorem callK1 (hc : opd ⟨t,h,n⟩ x = .one c0 := by exact rfl) (hv : fnv c0 = some (.func f,cap) := by exact rfl) (hE : entB Tryz.prog f = true := by exact fQ rfl) (ha : ASLe h (rest n θ) (xs.map (opd ⟨t,h,n⟩) ++ cap.map .one) (ags.map (SV.ren (calF θ n))) := by (repeat (first | exact ASLe.nil | refine ASLe.cons ?_ ?_ | exact SVLe.refl | refine SVLe.one ?_ | refine SVLe.agg ?_ | exact CsLe.nil | refine CsLe.cons ?_ ?_ | exact CLe.refl | exact CLe.sh rfl | exact CLe.nil (by decide) | refine CLe.fn ?_ | refine CLe.fnD ?_ | refine CLe.ifc ?_ | refine CLe.ifcD ?_ | exact CLe.lendA rfl rfl nowR | exact CLe.lendDA rfl rfl shutR | exact CLe.lendRA rfl rfl rfl rfl bnd nowR rfl | refine CLe.lendVA rfl rfl ?_ | refine CLe.lendPA rfl rfl rfl ?_)); first | done | fail) (hH : rootsEq (calF θ n) ⟨t,h,n⟩ 0 H := by repeat (first | exact trivial | refine And.intro ?_ ?_ | exact rfl)) (hD : Does Tryz.prog f ags H res H')
    (hk : H.length = θ.length := by exact rfl) (hθ : nodupB θ = true := by exact rfl) (hm : θ.all (fun t => Nat.blt t n) = true := by exact rfl) (hp : res.plain := by repeat (first | exact trivial | exact plR | refine And.intro ?_ ?_)) (hp' : plainH H' := by repeat (first | exact trivial | exact plR | refine And.intro ?_ ?_))
    (hlt : ltA H.length ags = true := by exact rfl) (hltH : allG H.length H = true := by exact rfl) (hltr : res.lt H'.length = true := by exact rfl) (hltH' : allG H'.length H' = true := by exact rfl) :
    Acts Tryz.prog g ⟨dst,.call { callee := .value x,args := xs.toArray,argTypes := Ts },ty,pos,after,guard⟩ ⟨t,h,n⟩ (res.ren (calF θ n)) θ (upOf (calF θ n) 0 H') :=
  a_call1 hc hv hE ha hH hD hk hθ hm hp hp' hlt hltH hltr hltH'
variable {rs : List Rs} {fs : List Bool} {u uk : List Nat}
theorem callD0 (m : Nat) (hc : opd (visSt ⟨t,h,n⟩ rs fs u uk) x = .one c0 := by exact rfl) (hv : fnv c0 = some (.func f,cap) := by exact rfl) (hE : entB Tryz.prog f = true := by exact fQ rfl) (ha : ASLe (visSt ⟨t,h,n⟩ rs fs u uk).h [] (xs.map (opd (visSt ⟨t,h,n⟩ rs fs u uk)) ++ cap.map .one) (ags.map (SV.ren (calF θ (n + m)))) := by (repeat (first | exact ASLe.nil | refine ASLe.cons ?_ ?_ | exact SVLe.refl | refine SVLe.one ?_ | refine SVLe.agg ?_ | exact CsLe.nil | refine CsLe.cons ?_ ?_ | exact CLe.refl | exact CLe.sh rfl | exact CLe.nil (by decide) | refine CLe.fn ?_ | refine CLe.fnD ?_ | refine CLe.ifc ?_ | refine CLe.ifcD ?_)); first | done | fail) (hH : rootsEq (calF θ (n + m)) (visSt ⟨t,h,n⟩ rs fs u uk) 0 H := by repeat (first | exact trivial | refine And.intro ?_ ?_ | exact rfl)) (hD : Does Tryz.prog f ags H res H')
    (hk : H.length = θ.length := by exact rfl) (hθ : nodupB θ = true := by exact rfl) (hm : θ.all (fun t => Nat.blt t (n + m)) = true := by exact rfl)
    (hlt : ltA H.length ags = true := by exact rfl) (hltH : allG H.length H = true := by exact rfl) (hltr : res.lt H'.length = true := by exact rfl) (hltH' : allG H'.length H' = true := by exact rfl) :
    Acts Tryz.prog g ⟨dst,.call { callee := .value x,args := xs.toArray,argTypes := Ts },ty,pos,after,guard⟩ (visSt ⟨t,h,n⟩ rs fs u uk) (res.ren (calF θ (n + m))) θ (upOf (calF θ (n + m)) 0 H') :=
  a_call0D m hc hv hE ha hH hD hk hθ hm hlt hltH hltr hltH'
theorem callD1 (m : Nat) (hc : opd (visSt ⟨t,h,n⟩ rs fs u uk) x = .one c0 := by exact rfl) (hv : fnv c0 = some (.func f,cap) := by exact rfl) (hE : entB Tryz.prog f = true := by exact fQ rfl) (ha : ASLe (visSt ⟨t,h,n⟩ rs fs u uk).h (rest (n + m) θ) (xs.map (opd (visSt ⟨t,h,n⟩ rs fs u uk)) ++ cap.map .one) (ags.map (SV.ren (calF θ (n + m)))) := by (repeat (first | exact ASLe.nil | refine ASLe.cons ?_ ?_ | exact SVLe.refl | refine SVLe.one ?_ | refine SVLe.agg ?_ | exact CsLe.nil | refine CsLe.cons ?_ ?_ | exact CLe.refl | exact CLe.sh rfl | exact CLe.nil (by decide) | refine CLe.fn ?_ | refine CLe.fnD ?_ | refine CLe.ifc ?_ | refine CLe.ifcD ?_ | exact CLe.lendA rfl rfl nowR | exact CLe.lendDA rfl rfl shutR | exact CLe.lendRA rfl rfl rfl rfl bnd nowR rfl | refine CLe.lendVA rfl rfl ?_ | refine CLe.lendPA rfl rfl rfl ?_)); first | done | fail) (hH : rootsEq (calF θ (n + m)) (visSt ⟨t,h,n⟩ rs fs u uk) 0 H := by repeat (first | exact trivial | refine And.intro ?_ ?_ | exact rfl)) (hD : Does Tryz.prog f ags H res H')
    (hk : H.length = θ.length := by exact rfl) (hθ : nodupB θ = true := by exact rfl) (hm : θ.all (fun t => Nat.blt t (n + m)) = true := by exact rfl) (hp : res.plain := by repeat (first | exact trivial | exact plR | refine And.intro ?_ ?_)) (hp' : plainH H' := by repeat (first | exact trivial | exact plR | refine And.intro ?_ ?_))
    (hlt : ltA H.length ags = true := by exact rfl) (hltH : allG H.length H = true := by exact rfl) (hltr : res.lt H'.length = true := by exact rfl) (hltH' : allG H'.length H' = true := by exact rfl) :
    Acts Tryz.prog g ⟨dst,.call { callee := .value x,args := xs.toArray,argTypes := Ts },ty,pos,after,guard⟩ (visSt ⟨t,h,n⟩ rs fs u uk) (res.ren (calF θ (n + m))) θ (upOf (calF θ (n + m)) 0 H') :=
  a_call1D m hc hv hE ha hH hD hk hθ hm hp hp' hlt hltH hltr hltH'
end
section
variable {g : Gh} {dst : Option Tmp} {ty : TypeId} {pos : String} {after : Array Edge} {guard : Option (Nat × Bool)} {x : Operand} {f Ty : Nat} {c1 : C} {name : String} {xs : List Operand} {Ts : Array TypeId} {ags : List SV} {H H' : List GB} {res : SV} {θ : List Nat} {t : List (Nat × SV)} {h : List (Nat × GB)} {n : Nat}
theorem callM (hc : opd ⟨t,h,n⟩ x = .one (.ifc Ty false [c1]) := by exact rfl) (ha : ASLe h (rest n θ) (.one c1 :: xs.map (opd ⟨t,h,n⟩)) (ags.map (SV.ren (calF θ n))) := by (repeat (first | exact ASLe.nil | refine ASLe.cons ?_ ?_ | exact SVLe.refl | refine SVLe.one ?_ | refine SVLe.agg ?_ | exact CsLe.nil | refine CsLe.cons ?_ ?_ | exact CLe.refl | exact CLe.sh rfl | exact CLe.nil (by decide) | refine CLe.fn ?_ | refine CLe.fnD ?_ | refine CLe.ifc ?_ | refine CLe.ifcD ?_ | exact CLe.lendA rfl rfl nowR | exact CLe.lendDA rfl rfl shutR | exact CLe.lendRA rfl rfl rfl rfl bnd nowR rfl | refine CLe.lendVA rfl rfl ?_ | refine CLe.lendPA rfl rfl rfl ?_)); first | done | fail) (hH : rootsEq (calF θ n) ⟨t,h,n⟩ 0 H := by repeat (first | exact trivial | refine And.intro ?_ ?_ | exact rfl)) (hD : Does Tryz.prog f ags H res H')
    (hM : ∀ (v : Value) (w : World),(method (Tryz.prog.types.size + Made.depth) Ty v name).run Tryz.prog w = .ok (f,v) w := by intro _ _; kernel_rfl) (hE : entB Tryz.prog f = true := by exact fQ rfl)
    (hk : H.length = θ.length := by exact rfl) (hθ : nodupB θ = true := by exact rfl) (hm : θ.all (fun t => Nat.blt t n) = true := by exact rfl) (hp : res.plain := by repeat (first | exact trivial | exact plR | refine And.intro ?_ ?_)) (hp' : plainH H' := by repeat (first | exact trivial | exact plR | refine And.intro ?_ ?_))
    (hlt : ltA H.length ags = true := by exact rfl) (hltH : allG H.length H = true := by exact rfl) (hltr : res.lt H'.length = true := by exact rfl) (hltH' : allG H'.length H' = true := by exact rfl) :
    Acts Tryz.prog g ⟨dst,.call { callee := .invoke x name,args := xs.toArray,argTypes := Ts },ty,pos,after,guard⟩ ⟨t,h,n⟩ (res.ren (calF θ n)) θ (upOf (calF θ n) 0 H') :=
  a_inv1 hc ha hH hD hM hE hk hθ hm hp hp' hlt hltH hltr hltH'
end
section
variable {P : Program} {g : Gh} {Q : Exit → St → Prop} {t t0 : List (Nat × SV)} {h h0 : List (Nat × GB)} {n : Nat} {st : St}
theorem stk {k m : Nat} {θ : List Nat} {st : St} {t' : List (Nat × SV)} {h' : List (Nat × GB)} (h1 : leT (thF θ) st t' := by repeat (first | exact trivial | refine And.intro ?_ ?_ | exact SVLe.refl | exact SVLe.any | exact SVLe.one (.sh rfl) | exact SVLe.one (.nil (by decide)) | exact SVLe.agg (by repeat (first | exact CsLe.nil | refine CsLe.cons ?_ ?_ | exact CLe.refl | exact CLe.sh rfl | exact CLe.nil (by decide))) | (refine sle_i ?_; omega))) (h2 : leH (thF θ) m st h' := by repeat (first | exact trivial | refine And.intro ?_ ?_ | exact rfl)) (hn : m = θ.length := by exact rfl) (hpin : pinB k θ = true := by exact rfl) (nd : nodupB θ = true := by exact rfl) (lt : allT m t' = true := by exact rfl) (lh : allH m h' = true := by exact rfl) : StLe k θ st ⟨t',h',m⟩ := stle h1 h2 hn hpin nd lt lh
theorem loopK {α : Type} (live ex : List Nat) (I : α → Prop) (ut : α → List (Nat × SV)) (uh : α → List (Nat × GB)) (μ : α → Nat) (x0 : α) (θ : List Nat) {c : Code} (hp : Pick live t t0 := by repeat (first | exact Pick.nil | apply Pick.one rfl | apply Pick.agg rfl | apply Pick.tup rfl | apply Pick.any)) (hq : PickH ex h n h0 := by repeat (first | exact PickH.zero | apply PickH.row rfl rfl | apply PickH.sh rfl rfl | apply PickH.bx rfl rfl | apply PickH.mp rfl rfl | apply PickH.lp rfl rfl | apply PickH.bld rfl rfl | apply PickH.opq rfl rfl | apply PickH.out)) (hin : StLe g.k θ ⟨t,h,n⟩ ⟨ut x0 ++ t0,uh x0 ++ h0,n⟩ := by exact stk) (hI : I x0)
    (hr : ∀ x,I x → GWp P g c ⟨ut x ++ t0,uh x ++ h0,n⟩ (qLoop g.k I (fun x => ⟨ut x ++ t0,uh x ++ h0,n⟩) μ (μ x) Q)) : GWp P g (.loop c) ⟨t,h,n⟩ Q := g_loopU live ex I ut uh μ x0 θ hp hq hin hI hr
theorem cutK {α : Type} (live ex : List Nat) (I : α → Prop) (ut : α → List (Nat × SV)) (uh : α → List (Nat × GB)) {c : Code} (hp : Pick live t t0 := by repeat (first | exact Pick.nil | apply Pick.one rfl | apply Pick.agg rfl | apply Pick.tup rfl | apply Pick.any)) (hq : PickH ex h n h0 := by repeat (first | exact PickH.zero | apply PickH.row rfl rfl | apply PickH.sh rfl rfl | apply PickH.bx rfl rfl | apply PickH.mp rfl rfl | apply PickH.lp rfl rfl | apply PickH.bld rfl rfl | apply PickH.opq rfl rfl | apply PickH.out))
    (hc : GWp P g c ⟨t,h,n⟩ (qCut g.k I (fun x => ⟨ut x ++ t0,uh x ++ h0,n⟩) Q)) (hk : ∀ x,I x → Q .normal ⟨ut x ++ t0,uh x ++ h0,n⟩) : GWp P g c ⟨t,h,n⟩ Q := g_cutAt live ex I ut uh hp hq hc hk
theorem endK {fn : Func} {k : Nat} {l : List (Bool × List C)} {res : SV} {H' : List GB} {e : Exit} (ids : List Nat) (he : e = .normal ∨ e = .ret := by first | exact .inr rfl | exact .inl rfl) (h1 : RessOk Tryz.prog st fn.results.toList l := by repeat (first | exact RessOk.nil | apply RessOk.cons | exact ResOk.one rfl | exact ResOk.agg rfl | exact ResOk.cell rfl rfl rfl (fC rfl) rfl | exact ResOk.cells rfl rfl rfl (fA rfl) (Nat.le_of_ble_eq_true rfl) rfl)) (h2 : SVLe st.h [] (resSV l) (res.ren (resF k ids))) (h3 : rootsLe (resF k ids) st 0 H') (hl : H'.length = k + ids.length := by exact rfl) (nd : nodupB (liveIds (resF k ids) 0 H') = true := by exact rfl) (lt : res.lt H'.length = true := by exact rfl) (lh : allG H'.length H' = true := by exact rfl) : Ends Tryz.prog fn k res H' e st := ends_m ids he h1 h2 h3 hl nd lt lh
end
theorem dcB : (∀ (p : Prop) [Decidable p],(decide p = true) = p) ∧ (∀ (p : Prop) [Decidable p],(decide p = false) ↔ ¬ p) ∧ (∀ b : Bool,((!b) = true) = (b = false)) ∧ (∀ b : Bool,((!b) = false) = (b = true)) ∧ (∀ b : Bool,(¬ (b = true)) = (b = false)) ∧ (∀ b : Bool,(¬ (b = false)) = (b = true)) ∧ (∀ a b : Bool,((a && b) = true) = (a = true ∧ b = true)) ∧ (∀ a b : Bool,((a || b) = false) ↔ (a = false ∧ b = false)) ∧ (∀ b : Bool,(!(!b)) = b) :=
  ⟨fun _ _ => decide_eq_true_eq,fun _ _ => decide_eq_false_iff_not,fun _ => Bool.not_eq_true' _,fun _ => Bool.not_eq_false' _,fun _ => Bool.not_eq_true _,fun _ => Bool.not_eq_false _,fun _ _ => Bool.and_eq_true _ _,fun _ _ => Bool.or_eq_false_iff,fun _ => Bool.not_not _⟩
theorem dN {G G' : Prop} (hk : G') (e : G = G' := by (try dsimp only [selT,selH,trues,SV.ren,C.ren,C.ren.all,tRen,GB.ren,calF,upOf,List.cons_append,List.nil_append,Nat.reduceAdd,setRow,List.map_cons,List.map_nil,scC,List.set_cons_zero,List.set_cons_succ,List.take_succ_cons,List.take_zero,List.drop_succ_cons,List.drop_zero]); (try exact rfl)) : G := e ▸ hk
theorem dM {G G' : Prop} (hk : G') (e : G = G' := by (try dsimp only [SV.ren,C.ren,C.ren.all,tRen,GB.ren,calF,upOf,List.cons_append,List.nil_append,Nat.reduceAdd]); (try exact rfl)) : G := e ▸ hk
theorem dS {G G' : Prop} (hk : G') (e : G = G' := by (try dsimp only [setRow,List.map_cons,List.map_nil,scC,List.set_cons_zero,List.set_cons_succ,List.take_succ_cons,List.take_zero,List.drop_succ_cons,List.drop_zero,Nat.reduceAdd]); (try exact rfl)) : G := e ▸ hk
theorem dA {G G' : Prop} (hk : G') (e : G = G' := by (try dsimp only [List.map_cons,List.map_nil,scC,Nat.reduceAdd]); (try exact rfl)) : G := e ▸ hk
theorem cd {G G' : Prop} (hk : G') (h : G' → G := by first | exact o_nil | exact g_seq | exact g_reg | exact q_s | exact g_skip | exact g_exit | exact g_block | exact g_if_t rfl | exact g_if_f rfl | exact q_se | exact q_b | exact q_be rfl | exact q_bn rfl | exact q_le | exact q_ce) : G := h hk
theorem cdn {G G' : Prop} (hk : G') (h : G' → G := by first | exact o_nil | exact g_seq | exact q_s | exact g_skip | exact g_exit | exact g_block | exact g_if_t rfl | exact g_if_f rfl | exact q_se | exact q_b | exact q_be rfl | exact q_bn rfl | exact q_le | exact q_ce) : G := h hk
theorem cr {G G' : Prop} (hk : G') (h : G' → G := by first | exact g_ret | exact q_sr | exact q_br | exact q_lr | exact q_cr) : G := h hk
theorem ce0 {G : Prop} (h : G := by first | with_reducible exact SVLe.refl | exact SVLe.any | exact SVLe.one (.sh rfl) | exact SVLe.one (.nil (by decide)) | exact TLe.nil | exact CsLe.nil | exact CLe.refl | exact CLe.sh rfl | exact CLe.nil (by decide) | exact trivial | exact Or.inl rfl | exact Or.inr rfl) : G := h
theorem ce {G G' : Prop} (hk : G') (h : G' → G := by first | exact SVLe.agg | exact SVLe.tup | exact cle_i | exact cle_b | exact fun h => Or.inr (row_eq h)) : G := h hk
theorem ceb {G G' : Prop} (hk : G') (h : G' → G := by first | exact sle_i | exact sle_b) : G := h hk
theorem ce2 {G G' G2 : Prop} (hk : G') (hk2 : G2) (h : G' → G2 → G := by first | exact TLe.cons | exact CsLe.cons | exact And.intro) : G := h hk hk2
section
def bitL : Nat → Nat → List Bool
  | 0,_ => []
  | i + 1,m => Nat.beq (m % 2) 1 :: bitL i (m / 2)
variable {P : Program} {g : Gh} {bf : List (List Nat)} {off : List (List Nat × List Nat)} {ops : List Oper} {t : List (Nat × SV)} {hp : List (Nat × GB)} {n n' : Nat} {Q : Exit → St → Prop} {l : List Oper} {rs : List Rs}
theorem dp (i m : Nat) (u : List Nat) (o : List (Bool × Nat)) {d : Nat} {op : Op} {ty : TypeId} {pos : String} {after : Array Edge} {sv : SV} (ha : Acts P g ⟨some d,op,ty,pos,after,none⟩ (visSt ⟨t,hp,n⟩ rs (bitL i m) u (offL n o)) sv [] []) (h : DR P g bf (offK n off) ops ⟨t,hp,n⟩ n' Q l (⟨some d,sv,[],[]⟩ :: rs)) (hi : rs.length = i := by exact rfl) (hf : flags (fun k => memB k (bf.getD i [])) i = bitL i m := by kernel_rfl) (hu : unordD bf i 0 ops = u := by kernel_rfl) (hk : unordK bf (offK n off) i 0 ops = offL n o := by kernel_rfl) (hd : Nat.blt d g.n = true := by exact rfl) (hc : (offK n off).ck i = [] := by exact rfl) : DR P g bf (offK n off) ops ⟨t,hp,n⟩ n' Q (⟨some d,op,ty,pos,after,none⟩ :: l) rs := d_pN ha hi hf hu hk hd hc h
theorem duN (i m : Nat) (u : List Nat) (o : List (Bool × Nat)) {dst : Option Nat} {op : Op} {ty : TypeId} {pos : String} {after : Array Edge} {sv : SV} {ch : List Nat} {up : List (Nat × GB)} (ha : Acts P g ⟨dst,op,ty,pos,after,none⟩ (visSt ⟨t,hp,n⟩ rs (bitL i m) u (offL n o)) sv ch up) (hc : (offK n off).ck i = ch) (hup : upInB ((offK n off).nw i ++ (offK n off).ck i) up = true) (h : DR P g bf (offK n off) ops ⟨t,hp,n⟩ n' Q l (⟨dst,sv,ch,up⟩ :: rs)) (hi : rs.length = i := by exact rfl) (hf : flags (fun k => memB k (bf.getD i [])) i = bitL i m := by kernel_rfl) (hu : unordD bf i 0 ops = u := by kernel_rfl) (hk : unordK bf (offK n off) i 0 ops = offL n o := by kernel_rfl) (hd : ∀ d,dst = some d → d < g.n := by first | exact dst_some rfl | exact dst_none) : DR P g bf (offK n off) ops ⟨t,hp,n⟩ n' Q (⟨dst,op,ty,pos,after,none⟩ :: l) rs := d_uN ha hi hf hu hk hd hc hup h
theorem duE (i m : Nat) (u : List Nat) (o : List (Bool × Nat)) {dst : Option Nat} {op : Op} {ty : TypeId} {pos : String} {after : Array Edge} {sv : SV} {ch : List Nat} {up : List (Nat × GB)} (ha : Acts P g ⟨dst,op,ty,pos,after,none⟩ (visSt ⟨t,hp,n⟩ rs (bitL i m) u (offL n o)) sv ch up) (hc : (offK n off).ck i = ch) (hup : up.map (·.1) = (offK n off).nw i ++ (offK n off).ck i) (h : DR P g bf (offK n off) ops ⟨t,hp,n⟩ n' Q l (⟨dst,sv,ch,up⟩ :: rs)) (hi : rs.length = i := by exact rfl) (hf : flags (fun k => memB k (bf.getD i [])) i = bitL i m := by kernel_rfl) (hu : unordD bf i 0 ops = u := by kernel_rfl) (hk : unordK bf (offK n off) i 0 ops = offL n o := by kernel_rfl) (hd : ∀ d,dst = some d → d < g.n := by first | exact dst_some rfl | exact dst_none) : DR P g bf (offK n off) ops ⟨t,hp,n⟩ n' Q (⟨dst,op,ty,pos,after,none⟩ :: l) rs := d_uE ha hi hf hu hk hd hc hup h
theorem db (i m : Nat) (u : List Nat) (o : List (Bool × Nat)) {d : Nat} {op : Op} {ty : TypeId} {pos : String} {after : Array Edge} {b : Bool} (ha : Acts P g ⟨some d,op,ty,pos,after,none⟩ (visSt ⟨t,hp,n⟩ rs (bitL i m) u (offL n o)) (.one (boo b)) [] []) (ht : b = true → DR P g bf (offK n off) ops ⟨t,hp,n⟩ n' Q l (⟨some d,.one (boo true),[],[]⟩ :: rs)) (hff : b = false → DR P g bf (offK n off) ops ⟨t,hp,n⟩ n' Q l (⟨some d,.one (boo false),[],[]⟩ :: rs)) (hi : rs.length = i := by exact rfl) (hf : flags (fun k => memB k (bf.getD i [])) i = bitL i m := by kernel_rfl) (hu : unordD bf i 0 ops = u := by kernel_rfl) (hk : unordK bf (offK n off) i 0 ops = offL n o := by kernel_rfl) (hd : Nat.blt d g.n = true := by exact rfl) (hc : (offK n off).ck i = [] := by exact rfl) : DR P g bf (offK n off) ops ⟨t,hp,n⟩ n' Q (⟨some d,op,ty,pos,after,none⟩ :: l) rs := d_bN ha hi hf hu hk hd hc ht hff
theorem dpy (i m : Nat) (u : List Nat) (o : List (Bool × Nat)) {j d' : Nat} {b : Bool} {d : Nat} {op : Op} {ty : TypeId} {pos : String} {after : Array Edge} {sv : SV} (ha : Acts P g ⟨some d,op,ty,pos,after,some (j,b)⟩ (visSt ⟨t,hp,n⟩ rs (bitL i m) u (offL n o)) sv [] []) (h : DR P g bf (offK n off) ops ⟨t,hp,n⟩ n' Q l (⟨some d,sv,[],[]⟩ :: rs)) (hj : ((ops.toArray)[j]?).bind (·.dst) = some d' := by exact rfl) (hb : lkS (visSt ⟨t,hp,n⟩ rs (bitL i m) u (offL n o)).t d' = .one (boo b) := by exact rfl) (hi : rs.length = i := by exact rfl) (hf : flags (fun k => memB k (bf.getD i [])) i = bitL i m := by kernel_rfl) (hu : unordD bf i 0 ops = u := by kernel_rfl) (hk : unordK bf (offK n off) i 0 ops = offL n o := by kernel_rfl) (hdd : Nat.blt d' g.n = true := by exact rfl) (hd : Nat.blt d g.n = true := by exact rfl) (hc : (offK n off).ck i = [] := by exact rfl) : DR P g bf (offK n off) ops ⟨t,hp,n⟩ n' Q (⟨some d,op,ty,pos,after,some (j,b)⟩ :: l) rs := d_pyN hj hb ha hi hf hu hk hdd hd hc h
theorem dn (i m : Nat) (u : List Nat) (o : List (Bool × Nat)) {j d' : Nat} {b : Bool} {dst : Option Nat} {op : Op} {ty : TypeId} {pos : String} {after : Array Edge} (h : DR P g bf (offK n off) ops ⟨t,hp,n⟩ n' Q l (⟨dst,.tup [],[],[]⟩ :: rs)) (hj : ((ops.toArray)[j]?).bind (·.dst) = some d' := by exact rfl) (hb : skips b (lkS (visSt ⟨t,hp,n⟩ rs (bitL i m) u (offL n o)).t d') = true := by exact rfl) (hi : rs.length = i := by exact rfl) (hf : flags (fun k => memB k (bf.getD i [])) i = bitL i m := by kernel_rfl) (hu : unordD bf i 0 ops = u := by kernel_rfl) (hk : unordK bf (offK n off) i 0 ops = offL n o := by kernel_rfl) (hdd : Nat.blt d' g.n = true := by exact rfl) (hd : ∀ d,dst = some d → d < g.n := by first | exact dst_some rfl | exact dst_none) (hc : (offK n off).ck i = [] := by exact rfl) : DR P g bf (offK n off) ops ⟨t,hp,n⟩ n' Q (⟨dst,op,ty,pos,after,some (j,b)⟩ :: l) rs := d_noN hj hb hi hf hu hk hdd hd hc h
end
section
variable {g : Gh} {o : Oper} {st : St} {sv : SV}
theorem pu1 (h : Acts Tryz.prog g o st sv [] [] := by first | exact a_pure (sv := .one _) rfl | exact a_pure (sv := .agg _) rfl | exact a_pure (sv := .tup _) rfl) : Acts Tryz.prog g o st sv [] [] := h
theorem puL (h : Acts Tryz.prog g o st sv [] [] := by first | exact a_pure (sv := .one _) rfl | exact a_pure (sv := .agg _) rfl | exact a_ld_rowI rfl rfl rfl (fC rfl) bnd) : Acts Tryz.prog g o st sv [] [] := h
theorem puI (h : Acts Tryz.prog g o st sv [] [] := by first | exact a_iaE rfl rfl rfl (fS rfl) (by omega) bnd (by exact rfl) | exact a_iaO1 rfl rfl rfl (fS rfl) (by omega) bnd | exact a_iaO rfl rfl rfl (fS rfl) (by omega) bnd (by exact rfl)) : Acts Tryz.prog g o st sv [] [] := h
theorem qno {qs : List Qc} (h : qNo qs := by repeat (first | exact trivial | exact rfl | refine And.intro ?_ ?_)) : qNo qs := h
theorem puQ (h : Acts Tryz.prog g o st sv [] [] := by first | exact a_ldQE 0 rfl rfl (fC rfl) rfl rfl trivial rfl bnd bnd | exact a_ldQE 0 rfl rfl (fC rfl) rfl rfl rfl rfl bnd bnd | exact a_ldsQE 0 rfl rfl (fA rfl) (Nat.le_of_ble_eq_true rfl) rfl (Nat.le_of_ble_eq_true rfl) rfl qno rfl bnd bnd | exact a_ldQE 1 rfl rfl (fC rfl) rfl rfl trivial rfl bnd bnd | exact a_ldQE 1 rfl rfl (fC rfl) rfl rfl rfl rfl bnd bnd | exact a_ldsQE 1 rfl rfl (fA rfl) (Nat.le_of_ble_eq_true rfl) rfl (Nat.le_of_ble_eq_true rfl) rfl qno rfl bnd bnd | exact a_ldQE 2 rfl rfl (fC rfl) rfl rfl trivial rfl bnd bnd | exact a_ldQE 2 rfl rfl (fC rfl) rfl rfl rfl rfl bnd bnd | exact a_ldsQE 2 rfl rfl (fA rfl) (Nat.le_of_ble_eq_true rfl) rfl (Nat.le_of_ble_eq_true rfl) rfl qno rfl bnd bnd | exact a_ldQE 3 rfl rfl (fC rfl) rfl rfl trivial rfl bnd bnd | exact a_ldQE 3 rfl rfl (fC rfl) rfl rfl rfl rfl bnd bnd | exact a_ldsQE 3 rfl rfl (fA rfl) (Nat.le_of_ble_eq_true rfl) rfl (Nat.le_of_ble_eq_true rfl) rfl qno rfl bnd bnd | exact a_ldQE 4 rfl rfl (fC rfl) rfl rfl trivial rfl bnd bnd | exact a_ldQE 4 rfl rfl (fC rfl) rfl rfl rfl rfl bnd bnd | exact a_ldsQE 4 rfl rfl (fA rfl) (Nat.le_of_ble_eq_true rfl) rfl (Nat.le_of_ble_eq_true rfl) rfl qno rfl bnd bnd | exact a_ldQE 5 rfl rfl (fC rfl) rfl rfl trivial rfl bnd bnd | exact a_ldQE 5 rfl rfl (fC rfl) rfl rfl rfl rfl bnd bnd | exact a_ldsQE 5 rfl rfl (fA rfl) (Nat.le_of_ble_eq_true rfl) rfl (Nat.le_of_ble_eq_true rfl) rfl qno rfl bnd bnd | exact a_ldQE 6 rfl rfl (fC rfl) rfl rfl trivial rfl bnd bnd | exact a_ldQE 6 rfl rfl (fC rfl) rfl rfl rfl rfl bnd bnd | exact a_ldsQE 6 rfl rfl (fA rfl) (Nat.le_of_ble_eq_true rfl) rfl (Nat.le_of_ble_eq_true rfl) rfl qno rfl bnd bnd | exact a_ldQE 7 rfl rfl (fC rfl) rfl rfl trivial rfl bnd bnd | exact a_ldQE 7 rfl rfl (fC rfl) rfl rfl rfl rfl bnd bnd | exact a_ldsQE 7 rfl rfl (fA rfl) (Nat.le_of_ble_eq_true rfl) rfl (Nat.le_of_ble_eq_true rfl) rfl qno rfl bnd bnd) : Acts Tryz.prog g o st sv [] [] := h
theorem puX (h : Acts Tryz.prog g o st sv [] [] := by exact a_iaQE rfl rfl rfl (fS rfl) rfl rfl bnd (by omega) bnd) : Acts Tryz.prog g o st sv [] [] := h
theorem puN (h : Acts Tryz.prog g o st sv [] [] := by exact a_lenE rfl rfl (fS rfl) (by exact rfl)) : Acts Tryz.prog g o st sv [] [] := h
theorem puC (h : Acts Tryz.prog g o st sv [] [] := by exact a_cmp rfl rfl rfl trivial rfl) : Acts Tryz.prog g o st sv [] [] := h
end
end Go.Proofs.YtnkeamihfiobdaaGreatDoor
end
