/- Parts of the proof (19 of 23). -/
import Derived.Carry
import Derived.ChangeOld
import Derived.Deep.Fields
import Derived.Deep.Slices
import Derived.OpenShut
import Derived.ProofKit
import Derived.ShutString
import Derived.Test.YtnkeamihfiobdaaGreatDoorQ18
section
set_option linter.unusedVariables false
set_option linter.unusedSimpArgs false
set_option maxRecDepth 100000
namespace Go.Proofs.YtnkeamihfiobdaaGreatDoor
open Go Foot Go.ChangeShapes Go.WideShapes Go.ChangeAt Go.RowKit Go.Deep
def allW (w : World) : Foot := fun b _ => b < w.heap.size
def Opens {α : Type} (P : Program) (t : TypeId) (z : Nat) (E : α → List D) (Q : α → Prop) : Prop :=
  (∀ a,(E a).length = z) ∧
  ∀ {H : Type} (enc : TypeId × Value → H) (w : World) (base : Nat) (held : Bool) (fuel : Nat) (cs : List Value) (x : DataW H × List MemPlace),
    DataW.trod enc P w base (fun _ => true) held fuel t cs = some x → ∃ a,Reps w (allW w) (E a) cs no ∧ Q a
def Ok64 (n : Int) : Prop := -9223372036854775808 ≤ n ∧ n < 9223372036854775808
theorem ok64_of_wf {n : Int} (h : (Lit.int .i64 n).wf = true) : Ok64 n := by
  have := h
  simp [Lit.wf,IntKind.min,IntKind.max,IntKind.signed,IntKind.bits] at this
  unfold Ok64
  omega
theorem reps_one {w : World} {S : Foot} {c : D} {v : Value} (h : Rep w S c v no) : Reps w S [c] [v] no :=
  ⟨v,[],no,no,rfl,le_refl _,le_refl _,no_dis _,h,rfl⟩
theorem opens_int {P : Program} {t : TypeId} (ht : P.underlying t = some (.int .i64)) : Opens P t 1 (fun n : Int => [.sc (.int .i64 n)]) Ok64 := by
  refine ⟨fun _ => rfl,fun enc w base held fuel cs x h => ?_⟩
  obtain ⟨n,rfl,_,hw⟩ := DataW.trod_int ht h
  exact ⟨n,reps_one ⟨rfl,rfl⟩,ok64_of_wf hw⟩
theorem addr_plain {w : World} {a : Addr} {i : Nat} {v : Value} (h : w.cell? (a.add i) = some v) (hi : i = 0) : a.spot = none := by
  subst hi
  simp only [Addr.add,if_true] at h
  unfold World.cell? at h
  split at h
  · split at h
    · cases h
    · rename_i hs; simpa using hs
  · cases h
theorem reps_rows {α : Type} {E : Enc α} {w : World} {S : Foot} : ∀ (l : List α) (vs : List (List Value)),l.length = vs.length → (∀ i (h : i < l.length) (h' : i < vs.length),Reps w S (E.enc l[i]) vs[i] no) → Reps w S (rows E l) vs.flatten no
  | [],[],_,_ => rfl
  | [],_ :: _,h,_ => by simp at h
  | _ :: _,[],h,_ => by simp at h
  | a :: l,v :: vs,h,hr => by
    show Reps w S (E.enc a ++ rows E l) (v ++ vs.flatten) no
    exact Reps.append (hr 0 (by simp) (by simp)) (reps_rows l vs (by simpa using h) fun i h1 h2 => hr (i + 1) (by simpa using h1) (by simpa using h2)) (no_dis _) (le_refl _) (le_refl _)
theorem flat_get {α : Type} {z : Nat} (hz : 0 < z) : ∀ (l : List (List α)),(∀ x ∈ l,x.length = z) → ∀ (i j : Nat),j < z → l.flatten[i * z + j]? = (l[i]?).bind (·[j]?)
  | [],_,i,j,_ => by simp
  | x :: l,h,0,j,hj => by
    have := h x (by simp)
    simp only [List.flatten_cons,Nat.zero_mul,Nat.zero_add]
    rw [List.getElem?_append_left (by omega)]
    rfl
  | x :: l,h,i + 1,j,hj => by
    have hx := h x (by simp)
    simp only [List.flatten_cons]
    rw [List.getElem?_append_right (by rw [hx,Nat.add_mul]; omega),hx,show (i + 1) * z + j - z = i * z + j by rw [Nat.add_mul]; omega,flat_get hz l (fun y hy => h y (by simp [hy])) i j hj]
    simp
theorem opens_slice {α : Type} {P : Program} {t e : TypeId} {E : Enc α} {Q : α → Prop} (ht : P.underlying t = some (.slice e)) (hs : P.cellsOf e = E.z) (he : Opens P e E.z E.enc Q) :
    Opens P t 1 (fun l : List α => [.sl false E.z (rows E l)]) (fun l => l.length ≤ maxLen ∧ ∀ x ∈ l,Q x) := by
  refine ⟨fun _ => rfl,fun enc w base held fuel cs x h => ?_⟩
  rcases open_slice ht h with ⟨rfl,_⟩ | ⟨a,len,cap,m,n,DD,Pl,rfl,hb,hl,hm,hmm,hx,hi⟩
  · refine ⟨[],reps_one ?_,by simp [maxLen],by simp⟩
    simp only [Rep]
    exact ⟨none,0,0,rfl,by simp [rows],E.pos,Nat.le_refl _,.inl ⟨rfl,fun h => by cases h⟩⟩
  · have hlm : len ≤ m := by rw [hmm]; split <;> omega
    have key : ∀ i,i < len → ∃ y cs,Reps w (allW w) (E.enc y) cs no ∧ Q y ∧ cs.length = E.z ∧ ∀ j,j < E.z → w.cell? (a.add (i * E.z + j)) = cs[j]? := by
      intro i hil
      obtain ⟨cs',hc,htr⟩ := hi i (by omega)
      obtain ⟨_,hcl,hat⟩ := World.cells?_some hc
      obtain ⟨y,hy,hq⟩ := he.2 enc w base held n cs' _ htr
      refine ⟨y,cs',hy,hq,by rw [hcl,hs],fun j hj => ?_⟩
      rw [hs] at hat
      rw [← Go.Deep.add_add]
      exact hat j hj
    obtain ⟨L,hL,V,hV,hk⟩ : ∃ L : List α,L.length = len ∧ ∃ V : List (List Value),V.length = len ∧ ∀ i (h1 : i < L.length) (h2 : i < V.length),Reps w (allW w) (E.enc L[i]) V[i] no ∧ Q L[i] ∧ V[i].length = E.z ∧ ∀ j,j < E.z → w.cell? (a.add (i * E.z + j)) = V[i][j]? := by
      refine ⟨List.ofFn fun i : Fin len => (key i.1 i.2).choose,by simp,List.ofFn fun i : Fin len => (key i.1 i.2).choose_spec.choose,by simp,fun i h1 h2 => ?_⟩
      simp only [List.getElem_ofFn]
      simp only [List.length_ofFn] at h1
      exact (key i h1).choose_spec.choose_spec
    have hrep := reps_rows (E := E) (w := w) (S := allW w) L V (by omega) fun i h1 h2 => (hk i h1 h2).1
    have hQ : ∀ x ∈ L,Q x := by
      intro x hx
      obtain ⟨i,h1,rfl⟩ := List.mem_iff_getElem.1 hx
      exact (hk i h1 (by omega)).2.1
    refine ⟨L,reps_one ?_,by rw [hL]; exact Nat.le_trans hl hm,hQ⟩
    simp only [Rep,Bool.false_eq_true,if_false]
    refine ⟨some a,len,cap,rfl,by rw [rows_len,hL],E.pos,hl,?_⟩
    by_cases hc0 : cap = 0
    · exact .inl ⟨hc0,fun h => by cases h⟩
    have hpos := E.pos
    have hsp : a.spot = none := by
      obtain ⟨cs',hc,_⟩ := hi 0 (by rw [hmm]; simp only [if_true]; omega)
      obtain ⟨_,hcl,hat⟩ := World.cells?_some hc
      have h1 := hat 0 (by omega)
      rw [List.getElem?_eq_getElem (by omega)] at h1
      simp only [Nat.zero_mul,Addr.add,if_true] at h1
      exact addr_plain (w := w) (a := a) (i := 0) (by simpa [Addr.add] using h1) rfl
    obtain ⟨b,off,sp⟩ := a
    simp only at hsp
    subst hsp
    have hadd : ∀ k,(Addr.mk b off none).add k = ⟨b,off + k,none⟩ := by intro k; unfold Addr.add; split <;> simp_all
    by_cases h0 : len = 0
    · refine .inr ⟨b,off,[],no,rfl,fun i v hv => by simp at hv,?_,?_,rfl⟩
      · have : L = [] := List.eq_nil_of_length_eq_zero (by omega)
        subst this
        rfl
      · rintro b' o' ⟨_,e1,e2⟩
        rw [rows_len,hL,h0] at e2
        omega
    · refine .inr ?_
      have hVl : ∀ x ∈ V,x.length = E.z := by
        intro x hx
        obtain ⟨i,h1,rfl⟩ := List.mem_iff_getElem.1 hx
        exact (hk i (by omega) h1).2.2.1
      refine ⟨b,off,V.flatten,no,rfl,fun i v hv => ?_,hrep,fun b' o' ⟨e1,e2,e3⟩ => ?_,rfl⟩
      · have hz : i = i / E.z * E.z + i % E.z := by rw [Nat.mul_comm]; exact (Nat.div_add_mod i E.z).symm
        have hj : i % E.z < E.z := Nat.mod_lt _ hpos
        rw [hz,flat_get hpos V hVl _ _ hj] at hv
        obtain ⟨x,h1,h2⟩ := Option.bind_eq_some_iff.1 hv
        obtain ⟨h3,rfl⟩ := List.getElem?_eq_some_iff.1 h1
        have := (hk (i / E.z) (by omega) h3).2.2.2 (i % E.z) hj
        rw [hadd,← hz,h2] at this
        exact this
      · have h1 := (hk 0 (by omega) (by omega)).2.2.2 0 hpos
        have h2 := (hk 0 (by omega) (by omega)).2.2.1
        rw [List.getElem?_eq_getElem (by omega)] at h1
        have := World.block_lt_of_cell? w _ h1
        rw [hadd] at this
        show b' < _
        rw [e1]
        exact this
def OpensL {α : Type} (P : Program) (fs : List Field) (o z : Nat) (E : α → List D) (Q : α → Prop) : Prop :=
  (∀ a,(E a).length = z) ∧
  ∀ {H : Type} (enc : TypeId × Value → H) (w : World) (base : Nat) (held : Bool) (n : Nat) (cs : List Value),
    (∀ (i : Nat) (f : Field),fs[i]? = some f → ∃ y,DataW.trod enc P w base (fun _ => true) held n f.type ((cs.drop f.offset).take (P.cellsOf f.type)) = some y) → cs.length = o + z → ∃ a,Reps w (allW w) (E a) (cs.drop o) no ∧ Q a
theorem opensL_one {α : Type} {P : Program} {f : Field} {o z : Nat} {E : α → List D} {Q : α → Prop} (ho : f.offset = o) (hs : P.cellsOf f.type = z) (h : Opens P f.type z E Q) : OpensL P [f] o z E Q := by
  refine ⟨h.1,fun enc w base held n cs hf hl => ?_⟩
  obtain ⟨y,hy⟩ := hf 0 f rfl
  obtain ⟨a,ha,hq⟩ := h.2 enc w base held n _ _ hy
  rw [ho,hs,List.take_of_length_le (by simp; omega)] at ha
  exact ⟨a,ha,hq⟩
theorem opensL_cons {α β : Type} {P : Program} {f : Field} {fs : List Field} {o z z' : Nat} {E : α → List D} {Q : α → Prop} {E' : β → List D} {Q' : β → Prop} (ho : f.offset = o) (hs : P.cellsOf f.type = z) (h : Opens P f.type z E Q) (hr : OpensL P fs (o + z) z' E' Q') :
    OpensL P (f :: fs) o (z + z') (fun x : α × β => E x.1 ++ E' x.2) (fun x => Q x.1 ∧ Q' x.2) := by
  refine ⟨fun x => by rw [List.length_append,h.1,hr.1],fun enc w base held n cs hf hl => ?_⟩
  obtain ⟨y,hy⟩ := hf 0 f rfl
  obtain ⟨a,ha,hq⟩ := h.2 enc w base held n _ _ hy
  obtain ⟨b,hb,hq'⟩ := hr.2 enc w base held n cs (fun i g hg => hf (i + 1) g (by simpa using hg)) (by rw [hl]; omega)
  rw [ho,hs] at ha
  refine ⟨(a,b),?_,hq,hq'⟩
  have := Reps.append ha hb (no_dis _) (le_refl _) (le_refl _)
  rwa [← List.drop_drop,List.take_append_drop] at this
theorem opens_struct {α : Type} {P : Program} {t : TypeId} {fs : Array Field} {z : Nat} {E : α → List D} {Q : α → Prop} (ht : P.underlying t = some (.struct fs)) (hs : P.cellsOf t = z) (h : OpensL P fs.toList 0 z E Q) : Opens P t z E Q := by
  refine ⟨h.1,fun enc w base held fuel cs x hx => ?_⟩
  obtain ⟨xs,n,_,_,hlen,hxl,hf⟩ := DataW.trod_struct ht hx
  have := h.2 enc w base held n cs (fun i f hfi => by
    have hfi' : fs[i]? = some f := by simpa using hfi
    rw [hf i f hfi']
    have hi : i < xs.length := by rw [hxl]; exact (Array.getElem?_eq_some_iff.1 hfi').1
    exact ⟨_,List.getElem?_eq_getElem hi⟩) (by rw [hlen,hs]; omega)
  simpa using this
theorem Opens.via {α β : Type} {P : Program} {t : TypeId} {z : Nat} {E : β → List D} {Q : β → Prop} {E' : α → List D} {Q' : α → Prop} (h : Opens P t z E Q) (g : β → α) (hg : ∀ y,E' (g y) = E y) (hl : ∀ a,(E' a).length = z) (hq : ∀ y,Q y → Q' (g y)) : Opens P t z E' Q' := by
  refine ⟨hl,fun enc w base held fuel cs x hx => ?_⟩
  obtain ⟨a,ha,h2⟩ := h.2 enc w base held fuel cs x hx
  exact ⟨g a,by rw [hg]; exact ha,hq _ h2⟩
section
variable {H : Type} {enc : TypeId × Value → H} {P : Program} {w : World} {base : Nat} {held : Bool} {t : TypeId} {v : Value} {d : DataW H} {p : List MemPlace} {ρ : Env}
theorem arg_one {α : Type} {E : α → D} {Q : α → Prop} (hv : v.cells = #[v]) (h : DataW.Trod enc P w base (fun _ => true) held t v d p) (ho : Opens P t 1 (fun a => [E a]) Q) :
    ∃ a,RepS w (allW w) ρ (.one (.d (E a))) v ∧ Q a := by
  obtain ⟨fuel,hf⟩ := h
  obtain ⟨a,ha,hq⟩ := ho.2 enc w base held fuel _ _ hf
  rw [hv] at ha
  simp only [Reps] at ha
  obtain ⟨v',us,F1,F2,e,_,_,_,h1,rfl⟩ := ha
  cases e
  exact ⟨a,h1.mono (by assumption),hq⟩
end
theorem does_calls {P : Program} {f : Nat} {args : List SV} {vs : Array Value} {w : World} (hd : Does P f args [] (.one (boo true)) []) (ht : Tabs w (allW w)) (ha : RepA w (allW w) (fun _ => none) args vs.toList) :
    Calls P f vs w fun e w' => e = .returned (.bool true) ∧ Below w.heap.size w w' := by
  have := hd vs.toList w (allW w) (fun _ => none) (fun _ => no) ha ⟨fun i gb h => by simp at h,fun _ _ => rfl,fun i j h => by simp at h,fun i h => by simp at h,fun i h => by simp at h,fun b o h => h,ht⟩
  rw [show vs.toList.toArray = vs from rfl] at this
  refine this.mono fun e w' hx => ?_
  obtain ⟨v,S1,ρ',F',he,hr,hv⟩ := hx
  obtain ⟨rfl,_⟩ := hv
  refine ⟨he,hr.keeps.os,hr.keeps.tape,hr.keeps.output,hr.keeps.size,fun k hk => hr.keeps.block k hk fun o ⟨i,hi,_⟩ => by simp at hi⟩
end Go.Proofs.YtnkeamihfiobdaaGreatDoor
end
section
set_option linter.unusedVariables false
set_option linter.unusedSimpArgs false
set_option maxRecDepth 100000
namespace Go.Proofs.YtnkeamihfiobdaaGreatDoor
open Go Foot Go.ChangeShapes Go.WideShapes Go.ChangeAt Go.RowKit Go.Deep
theorem own : ownKnob Tryz.prog.godebug = none := by kernel_rfl
theorem laidOut : laidOutB Tryz.prog = true := by kernel_rfl
theorem opens_i : Opens Tryz.prog 2 1 (fun n : Int => [.sc (.int .i64 n)]) Ok64 := opens_int Tryz.underlying2
theorem opens_I : Opens Tryz.prog 27 1 (fun l : List Int => [.sl false 1 (rows eI l)]) (fun l => l.length ≤ maxLen ∧ ∀ x ∈ l,Ok64 x) := opens_slice (E := eI) Tryz.underlying27 (by kernel_rfl) opens_i
theorem szL_ge {n : Nat} {l : Int} (hl : l ≤ 1048576) (h : ¬ szL n l < 0) : (n : Int) ≤ l := by
  unfold szL at h; split at h <;> omega
end Go.Proofs.YtnkeamihfiobdaaGreatDoor
end
section
set_option linter.unusedVariables false
set_option linter.unusedSimpArgs false
set_option maxRecDepth 100000
namespace Go.Proofs.YtnkeamihfiobdaaGreatDoor
open Go Foot Go.ChangeShapes Go.WideShapes Go.ChangeAt Go.RowKit Go.Deep
theorem opens_W : Opens Tryz.prog 85 1 (fun l : List (List Int) => [.sl false 1 (rows eW l)]) (fun l => l.length ≤ maxLen ∧ ∀ x ∈ l,x.length ≤ maxLen ∧ ∀ y ∈ x,Ok64 y) := opens_slice (E := eW) Tryz.underlying85 (by kernel_rfl) opens_I
abbrev PrfOk (p : Prf) : Prop := Ok64 p.k ∧ (p.nu.length ≤ maxLen ∧ ∀ x ∈ p.nu,Ok64 x) ∧ p.wo.length ≤ maxLen ∧ ∀ x ∈ p.wo,x.length ≤ maxLen ∧ ∀ y ∈ x,Ok64 y
theorem opens_proof : Opens Tryz.prog 101 3 (fun p : Prf => [.sc (.int .i64 p.k),.sl false 1 (rows eI p.nu),.sl false 1 (rows eW p.wo)]) PrfOk := by
  have h := opens_struct (P := Tryz.prog) (z := 3) Tryz.underlying101 (by kernel_rfl) (opensL_cons (z := 1) (z' := 2) (o := 0) rfl (by kernel_rfl) opens_i (opensL_cons (z := 1) (z' := 1) (o := 1) rfl (by kernel_rfl) opens_I (opensL_one (z := 1) (o := 2) rfl (by kernel_rfl) opens_W)))
  exact h.via (fun y => ⟨y.1,y.2.1,y.2.2⟩) (fun _ => rfl) (fun _ => rfl) (fun _ h => h)
theorem szW_ge : ∀ {xs : List (List Int)} {l : Int},0 ≤ l → l ≤ 1048576 → ¬ szW xs l < 0 → ∀ x ∈ xs,(x.length : Int) ≤ l
  | [],l,_,_,_,x,hx => by cases hx
  | y :: xs,l,h0,hl,h,x,hx => by
    unfold szW at h
    split at h
    · omega
    · rename_i h1
      have h2 := szL_ge hl h1
      have h3 := szL_le (n := y.length) hl
      rcases List.mem_cons.1 hx with rfl | hx
      · exact h2
      · have h5 := szW_ge (by omega) h3 h x hx
        unfold szL at h5 h1
        split at h5 <;> simp_all <;> omega
theorem szWW_ge {xs : List (List Int)} {l : Int} (h0 : 0 ≤ l) (hl : l ≤ 1048576) (h : ¬ szWW xs l < 0) : (xs.length : Int) ≤ l ∧ ∀ x ∈ xs,(x.length : Int) ≤ l := by
  unfold szWW at h
  split at h
  · omega
  · rename_i h1
    refine ⟨by omega,fun x hx => ?_⟩
    have := szW_ge (by omega) (by omega) h x hx
    omega
theorem szP_ge {p : Prf} {l : Int} (h0 : 0 ≤ l) (hl : l ≤ 1048576) (h : ¬ szP p l < 0) : (p.nu.length : Int) ≤ l ∧ (p.wo.length : Int) ≤ l ∧ ∀ x ∈ p.wo,(x.length : Int) ≤ l := by
  unfold szP at h
  split at h
  · omega
  · rename_i h1
    have h2 := szL_ge hl h1
    have h3 : szL p.nu.length l ≤ l := by unfold szL; split <;> omega
    have h4 := szWW_ge (by omega) (by omega) h
    exact ⟨h2,by omega,fun x hx => by have := h4.2 x hx; omega⟩
end Go.Proofs.YtnkeamihfiobdaaGreatDoor
end
section
set_option linter.unusedVariables false
set_option linter.unusedSimpArgs false
set_option maxRecDepth 100000
namespace Go.Proofs.YtnkeamihfiobdaaGreatDoor
open Go Foot Go.ChangeShapes Go.WideShapes Go.ChangeAt Go.RowKit Go.Deep
abbrev RuleOk (r : Rule') : Prop := Ok64 r.w ∧ Ok64 r.m ∧ Ok64 r.n
theorem opens_rule : Opens Tryz.prog 287 3 eR.enc RuleOk := by
  have h := opens_struct (P := Tryz.prog) (z := 3) Tryz.underlying287 (by kernel_rfl) (opensL_cons (z := 1) (z' := 2) (o := 0) rfl (by kernel_rfl) opens_i (opensL_cons (z := 1) (z' := 1) (o := 1) rfl (by kernel_rfl) opens_i (opensL_one (z := 1) (o := 2) rfl (by kernel_rfl) opens_i)))
  exact h.via (fun y => ⟨y.1,y.2.1,y.2.2⟩) (fun _ => rfl) (fun _ => rfl) (fun _ h => h)
theorem opens_rules : Opens Tryz.prog 97 1 (fun l : List Rule' => [.sl false 3 (rows eR l)]) (fun l => l.length ≤ maxLen ∧ ∀ x ∈ l,RuleOk x) := opens_slice (E := eR) Tryz.underlying97 (by kernel_rfl) opens_rule
abbrev MachOk (m : Mach) : Prop := Ok64 m.sy ∧ Ok64 m.st ∧ m.ru.length ≤ maxLen ∧ ∀ x ∈ m.ru,RuleOk x
theorem opens_machine : Opens Tryz.prog 99 3 (fun m : Mach => [.sc (.int .i64 m.sy),.sc (.int .i64 m.st),.sl false 3 (rows eR m.ru)]) MachOk := by
  have h := opens_struct (P := Tryz.prog) (z := 3) Tryz.underlying99 (by kernel_rfl) (opensL_cons (z := 1) (z' := 2) (o := 0) rfl (by kernel_rfl) opens_i (opensL_cons (z := 1) (z' := 1) (o := 1) rfl (by kernel_rfl) opens_i (opensL_one (z := 1) (o := 2) rfl (by kernel_rfl) opens_rules)))
  exact h.via (fun y => ⟨y.1,y.2.1,y.2.2⟩) (fun _ => rfl) (fun _ => rfl) (fun _ h => h)
end Go.Proofs.YtnkeamihfiobdaaGreatDoor
end
section
set_option linter.unusedVariables false
set_option linter.unusedSimpArgs false
set_option maxRecDepth 100000
namespace Go.Proofs.YtnkeamihfiobdaaGreatDoor
open Go Foot Go.ChangeShapes Go.WideShapes Go.ChangeAt Go.RowKit Go.Deep
abbrev VerdOk (v : Verd) : Prop := MachOk v.m ∧ PrfOk v.p
theorem opens_verdict : Opens Tryz.prog 103 6 eV.enc VerdOk := by
  have h := opens_struct (P := Tryz.prog) (z := 6) Tryz.underlying103 (by kernel_rfl) (opensL_cons (z := 3) (z' := 3) (o := 0) rfl (by kernel_rfl) opens_machine (opensL_one (z := 3) (o := 3) rfl (by kernel_rfl) opens_proof))
  exact h.via (fun y => ⟨y.1,y.2⟩) (fun _ => rfl) (fun _ => rfl) (fun _ h => h)
theorem opens_verdicts : Opens Tryz.prog 43 1 (fun l : List Verd => [.sl false 6 (rows eV l)]) (fun l => l.length ≤ maxLen ∧ ∀ x ∈ l,VerdOk x) := opens_slice (E := eV) Tryz.underlying43 (by kernel_rfl) opens_verdict
end Go.Proofs.YtnkeamihfiobdaaGreatDoor
end
section
set_option linter.unusedVariables false
set_option linter.unusedSimpArgs false
set_option maxRecDepth 100000
set_option maxHeartbeats 4000000
namespace Go.Proofs.YtnkeamihfiobdaaGreatDoor
open Go Foot
structure LenOk (v : Verd) : Prop where
  a : (v.m.ru.length : Int) ≤ 9223372036854775807
  b : (v.p.nu.length : Int) ≤ 9223372036854775807
  c : (v.p.wo.length : Int) ≤ 9223372036854775807
  d : ∀ x ∈ v.p.wo,(x.length : Int) ≤ 9223372036854775807
theorem verd_len {v : Verd} (h : VerdOk v) : LenOk v := by
  obtain ⟨⟨_,_,h1,_⟩,_,⟨h2,_⟩,h3,h4⟩ := h
  exact ⟨by unfold maxLen at h1; omega,by unfold maxLen at h2; omega,by unfold maxLen at h3; omega,fun x hx => by have := (h4 x hx).1; unfold maxLen at this; omega⟩
@[irreducible] def szV (v : Verd) (left : Int) : Int := if szL v.m.ru.length left < 0 then -1 else szP v.p (szL v.m.ru.length left)
theorem szP_neg {p : Prf} {l : Int} (h : szP p l < 0) : szP p l = -1 := by
  unfold szP at h ⊢
  split at h
  · rename_i e; rw [if_pos e]
  · rename_i e; rw [if_neg e]; exact szWW_neg h
theorem preD5 {p : Prop} (h : p := by first | with_reducible assumption | omega | (simp only [List.length_append,List.length_cons,List.length_nil,List.length_set,List.length_replicate,List.length_take,List.length_drop,List.length_tail,List.length_dropLast,List.length_reverse] at *; omega) | exact mem_len (by assumption) (by omega) | (with_reducible refine Int.le_trans (Int.ofNat_le.2 (trimR_len _)) ?_; simp only [List.length_cons,List.length_tail]; omega) | (exact (ruAt_ok (by assumption) (by assumption) (by assumption)).2.1) | (exact (ruAt_ok (by assumption) (by assumption) (by assumption)).2.1) | (have := vMach_bd (by assumption); omega) | (simp only [List.length_append,List.length_cons,List.length_nil,repW_len,seN_len] at *; omega) | (simp only [mC_ch,mC_tu]; omega) | (have := vTag_bd (by assumption); omega) | (have := (‹Gd _ _›).le; omega) | (exact tgHalts_no (by assumption)) | (exact tgHead (by assumption) (by assumption) (by assumption)) | (exact Int.le_trans (tgStep_gd (by assumption) (by assumption) (by assumption) (by assumption)).le (by decide)) | (exact vTag_r (by assumption)) | (with_reducible refine Int.le_trans (Int.ofNat_le.2 (pushL_len _ _)) ?_; simp only [List.length_dropLast]; omega) | exact ls_at (by assumption) (by omega) | exact pt_gd (by assumption) | exact lv_at (by assumption) (by omega) | exact pt_gd (lv_at (by assumption) (by omega)) | exact (ask_ok (by assumption)).1 | exact (ask_ok (by assumption)).2.1 | exact (ask_ok (by assumption)).2.2.1 | exact (ask_ok (by assumption)).2.2.2 | (simp only [marks_len]; omega) | (simp only [marksR_len]; omega) | trivial) : p := h
theorem szVerdict_ok (v : Verd) (left : Int) (h1 : left ≤ 1048576) (h2 : 0 ≤ left) (g : LenOk v) : Does Tryz.prog 61 [.agg (veC v),.one (int left)] [] (.one (int (szV v left))) [] := by
  obtain ⟨g1,g2,g3,g4⟩ := g
  have h3 := szL_le (n := v.m.ru.length) h1
  refine does_of (k := 0) Tryz.func61 rfl Tryz.ntmps61 rfl rfl fun w F0 S0 ρ0 => ?_
  dsimp only [argT,argH]
  repeat' first|(apply n3;exact a_new (gb := .bx _) rfl;exact rfl;refine dA ?_)|(apply p3;(first|exact pu1|exact puC);exact rfl)|refine cd ?_|(apply c4 0;exact callK1 (θ := []) (hD := (szMachine_ok _ _ preD5 preD5 preD5));exact rfl;exact rfl;exact rfl;refine dM ?_)|(apply c4 0;exact callK1 (θ := []) (hD := (szProof_ok _ _ preD5 preD5 preD5 preD5 preD5));exact rfl;exact rfl;exact rfl;refine dM ?_)|((refine g_cond rfl (fun hc => ?_) (fun hc => ?_)) <;> (try simp only [dcB] at hc) <;> (try first|contradiction|(exfalso;omega)))|fail
  · repeat refine cr ?_
    refine ends_id ?_
    refine endK [] (h2 := ?_) (h3 := ?_) (nd := ?_)
    all_goals (repeat' first|exact ce0|refine ce ?_|refine ce2 ?_ ?_|exact SVLe.refl|refine ceb ?_)
    all_goals first | exact (show nodupB _ = true from rfl) | exact Or.inr rfl | ((unfold szV; simp [*]))
  · repeat refine cr ?_
    refine ends_id ?_
    refine endK [] (h2 := ?_) (h3 := ?_) (nd := ?_)
    all_goals (repeat' first|exact ce0|refine ce ?_|refine ce2 ?_ ?_|exact SVLe.refl|refine ceb ?_)
    all_goals first | exact (show nodupB _ = true from rfl) | exact Or.inr rfl | ((rw [szV,if_neg (by assumption)]; exact (szP_neg (by assumption)).symm))
  · repeat refine cr ?_
    refine ends_id ?_
    refine endK [] (h2 := ?_) (h3 := ?_) (nd := ?_)
    all_goals (repeat' first|exact ce0|refine ce ?_|refine ce2 ?_ ?_|exact SVLe.refl|refine ceb ?_)
    all_goals first | exact (show nodupB _ = true from rfl) | exact Or.inr rfl | ((unfold szV; simp [*]))
theorem szV_ge {v : Verd} {l : Int} (h0 : 0 ≤ l) (hl : l ≤ 1048576) (h : ¬ szV v l < 0) : (v.m.ru.length : Int) ≤ 1048576 ∧ (v.p.nu.length : Int) ≤ 1048576 ∧ (v.p.wo.length : Int) ≤ 1048576 ∧ ∀ x ∈ v.p.wo,(x.length : Int) ≤ 1048576 := by
  unfold szV at h
  split at h
  · omega
  · rename_i h1
    have h2 := szL_ge hl h1
    have h3 := szL_le (n := v.m.ru.length) hl
    have h4 := szP_ge (by omega) h3 h
    exact ⟨by omega,by omega,by omega,fun x hx => by have := h4.2.2 x hx; omega⟩
structure BigOk (v : Verd) : Prop where
  a : (v.m.ru.length : Int) ≤ 1048576
  b : (v.p.nu.length : Int) ≤ 1048576
  c : (v.p.wo.length : Int) ≤ 1048576
  d : ∀ x ∈ v.p.wo,(x.length : Int) ≤ 1048576
theorem big_gd {v : Verd} (g : BigOk v) : VeGd v := ⟨by have := g.a; omega,by have := g.b; omega,by have := g.c; omega,fun x hx => by have := g.d x hx; omega⟩
@[irreducible] def eqV (a b : Verd) : Bool := eqM a.m b.m && eqP a.p b.p
theorem eqVerdict_ok (a b : Verd) (g : BigOk a) (k : BigOk b) : Does Tryz.prog 73 [.agg (veC a),.agg (veC b)] [] (.one (boo (eqV a b))) [] := by
  obtain ⟨g1,g2,g3,g4⟩ := g
  obtain ⟨k1,k2,k3,k4⟩ := k
  refine does_of (k := 0) Tryz.func73 rfl Tryz.ntmps73 rfl rfl fun w F0 S0 ρ0 => ?_
  dsimp only [argT,argH]
  repeat' first|(apply n3;exact a_new (gb := .bx _) rfl;exact rfl;refine dA ?_)|(apply p3;(exact puL);exact rfl)|refine cd ?_|(apply c4 0;exact callK1 (θ := []) (hD := (eqMachine_ok _ _ preD5 preD5));exact rfl;exact rfl;exact rfl;refine dM ?_)|(apply c4 0;exact callK1 (θ := []) (hD := (eqProof_ok _ _ preD5 preD5 preD5 preD5 preD5 preD5));exact rfl;exact rfl;exact rfl;refine dM ?_)|((refine g_cond rfl (fun hc => ?_) (fun hc => ?_)) <;> (try simp only [dcB] at hc) <;> (try first|contradiction|(exfalso;omega)))|fail
  all_goals
    repeat refine cr ?_
    refine ends_id ?_
    refine endK [] (h2 := ?_) (h3 := ?_) (nd := ?_)
    all_goals (repeat' first|exact ce0|refine ce ?_|refine ce2 ?_ ?_|exact SVLe.refl|refine ceb ?_)
    all_goals first | exact (show nodupB _ = true from rfl) | exact Or.inr rfl | ((unfold eqV; simp [*]))
end Go.Proofs.YtnkeamihfiobdaaGreatDoor
end
section
set_option linter.unusedVariables false
set_option linter.unusedSimpArgs false
set_option maxRecDepth 100000
set_option maxHeartbeats 4000000
namespace Go.Proofs.YtnkeamihfiobdaaGreatDoor
open Go Foot
theorem szP_le {p : Prf} {l : Int} (h : l ≤ 1048576) : szP p l ≤ 1048576 := by
  unfold szP
  split
  · omega
  · have h1 := szL_le (n := p.nu.length) h
    have : ∀ (xs : List (List Int)) (k : Int),k ≤ 1048576 → szW xs k ≤ 1048576 := by
      intro xs
      induction xs with
      | nil => intro k hk; unfold szW; exact hk
      | cons x xs ih =>
        intro k hk
        unfold szW
        split
        · omega
        · exact ih _ (szL_le hk)
    unfold szWW
    split
    · omega
    · exact this _ _ (by omega)
theorem szV_le {v : Verd} {l : Int} (h : l ≤ 1048576) : szV v l ≤ 1048576 := by
  unfold szV
  split
  · omega
  · exact szP_le (szL_le h)
@[irreducible] def szVl : List Verd → Int → Int
  | [],l => l
  | x :: xs,l => if szV x l < 0 then -1 else szVl xs (szV x l)
theorem szVl_step {xs : List Verd} {i l : Int} (h0 : 0 ≤ i) (h : i.toNat < xs.length) : szVl (xs.drop i.toNat) l = if szV (xs[i.toNat]) l < 0 then -1 else szVl (xs.drop (i + 1).toNat) (szV (xs[i.toNat]) l) := by
  rw [List.drop_eq_getElem_cons h,show (i + 1).toNat = i.toNat + 1 by omega]
  conv => lhs; unfold szVl
@[irreducible] def szVs (xs : List Verd) (left : Int) : Int := if left - xs.length < 0 then -1 else szVl xs (left - xs.length)
structure LnsOk (l : List Verd) : Prop where
  n : (l.length : Int) ≤ 9223372036854775807
  a : ∀ v ∈ l,LenOk v
theorem lns_at {l : List Verd} (g : LnsOk l) {i : Nat} (h : i < l.length) : LenOk l[i] := g.a _ (List.getElem_mem h)
theorem preD6 {p : Prop} (h : p := by first | with_reducible assumption | omega | (simp only [List.length_append,List.length_cons,List.length_nil,List.length_set,List.length_replicate,List.length_take,List.length_drop,List.length_tail,List.length_dropLast,List.length_reverse] at *; omega) | exact mem_len (by assumption) (by omega) | (with_reducible refine Int.le_trans (Int.ofNat_le.2 (trimR_len _)) ?_; simp only [List.length_cons,List.length_tail]; omega) | (exact (ruAt_ok (by assumption) (by assumption) (by assumption)).2.1) | (exact (ruAt_ok (by assumption) (by assumption) (by assumption)).2.1) | (have := vMach_bd (by assumption); omega) | (simp only [List.length_append,List.length_cons,List.length_nil,repW_len,seN_len] at *; omega) | (simp only [mC_ch,mC_tu]; omega) | (have := vTag_bd (by assumption); omega) | (have := (‹Gd _ _›).le; omega) | (exact tgHalts_no (by assumption)) | (exact tgHead (by assumption) (by assumption) (by assumption)) | (exact Int.le_trans (tgStep_gd (by assumption) (by assumption) (by assumption) (by assumption)).le (by decide)) | (exact vTag_r (by assumption)) | (with_reducible refine Int.le_trans (Int.ofNat_le.2 (pushL_len _ _)) ?_; simp only [List.length_dropLast]; omega) | exact ls_at (by assumption) (by omega) | exact pt_gd (by assumption) | exact lv_at (by assumption) (by omega) | exact pt_gd (lv_at (by assumption) (by omega)) | exact (ask_ok (by assumption)).1 | exact (ask_ok (by assumption)).2.1 | exact (ask_ok (by assumption)).2.2.1 | exact (ask_ok (by assumption)).2.2.2 | (simp only [marks_len]; omega) | (simp only [marksR_len]; omega) | exact lns_at (by assumption) (by omega) | trivial) : p := h
theorem szVerdictS_ok (xs : List Verd) (left : Int) (h1 : left ≤ 1048576) (h2 : 0 ≤ left) (g : LnsOk xs) : Does Tryz.prog 15 [.one (shV xs),.one (int left)] [] (.one (int (szVs xs left))) [] := by
  have hx := g.n
  refine does_of (k := 0) Tryz.func15 rfl Tryz.ntmps15 rfl rfl fun w F0 S0 ρ0 => ?_
  dsimp only [argT,argH]
  repeat' first|(apply p3;(first|exact pu1|exact puN|exact a_sub rfl rfl (by omega) (by omega)|exact puC);exact rfl)|refine cd ?_|((refine g_cond rfl (fun hc => ?_) (fun hc => ?_)) <;> (try simp only [dcB] at hc) <;> (try first|contradiction|(exfalso;omega)))|fail
  · repeat refine cr ?_
    refine ends_id ?_
    refine endK [] (h2 := ?_) (h3 := ?_) (nd := ?_)
    all_goals (repeat' first|exact ce0|refine ce ?_|refine ce2 ?_ ?_|exact SVLe.refl|refine ceb ?_)
    all_goals first | exact (show nodupB _ = true from rfl) | exact Or.inr rfl | ((unfold szVs; simp [*]))
  · have e0 : szVs xs left = szVl xs (left - xs.length) := by unfold szVs; rw [if_neg hc]
    refine g_loop_id ?_
    refine loopK [0,4] [] (fun y : Int × Int => 0 ≤ y.1 ∧ y.1 ≤ xs.length ∧ 0 ≤ y.2 ∧ y.2 ≤ 1048576 ∧ szVl (xs.drop y.1.toNat) y.2 = szVs xs left) (fun y => [(5,.one (int y.1)),(1,.one (int y.2))]) (fun _ => []) (fun y => (xs.length - y.1).toNat) ((0 : Int),left - xs.length) [] (hI := ?_) (hr := ?_)
    · exact ⟨by simp,by simp,by dsimp only; omega,by dsimp only; omega,by rw [e0]; rfl⟩
    · rintro ⟨i,l⟩ ⟨k1,k2,k3,k4,k5⟩
      dsimp only [List.cons_append,List.nil_append] at *
      skip
      repeat' first|(apply p3;(first|exact pu1|exact puN|exact puC|exact a_add rfl rfl (by omega) (by omega)|exact puI);exact rfl)|refine cd ?_|(apply c4 0;exact callK1 (θ := []) (hD := (szVerdict_ok _ _ preD6 preD6 preD6));exact rfl;exact rfl;exact rfl;refine dM ?_)|((refine g_cond rfl (fun hc => ?_) (fun hc => ?_)) <;> (try simp only [dcB] at hc) <;> (try first|contradiction|(exfalso;omega)))|fail
      · rw [szVl_step k1 (by omega),if_pos hc] at k5
        repeat refine cr ?_
        refine ends_id ?_
        refine endK [] (h2 := ?_) (h3 := ?_) (nd := ?_)
        all_goals (repeat' first|exact ce0|refine ce ?_|refine ce2 ?_ ?_|exact SVLe.refl|refine ceb ?_)
        all_goals first | exact (show nodupB _ = true from rfl) | exact Or.inr rfl | (exact k5)
      · rw [szVl_step k1 (by omega),if_neg hc] at k5
        have := szV_le (v := xs[i.toNat]'(by omega)) k4
        refine q_again (i + 1,_) [] (by exact stk) ?_ ?_
        · exact ⟨by dsimp only; omega,by dsimp only; omega,by dsimp only; omega,by dsimp only; omega,k5⟩
        · dsimp only; omega
      · rw [List.drop_eq_nil_of_le (by omega)] at k5
        unfold szVl at k5
        repeat refine cr ?_
        refine ends_id ?_
        refine endK [] (h2 := ?_) (h3 := ?_) (nd := ?_)
        all_goals (repeat' first|exact ce0|refine ce ?_|refine ce2 ?_ ?_|exact SVLe.refl|refine ceb ?_)
        all_goals first | exact (show nodupB _ = true from rfl) | exact Or.inr rfl | (exact k5)
structure BgsOk (l : List Verd) : Prop where
  n : (l.length : Int) ≤ 1048576
  a : ∀ v ∈ l,BigOk v
theorem bgs_at {l : List Verd} (g : BgsOk l) {i : Nat} (h : i < l.length) : BigOk l[i] := g.a _ (List.getElem_mem h)
theorem szVl_ge : ∀ {xs : List Verd} {l : Int},0 ≤ l → l ≤ 1048576 → ¬ szVl xs l < 0 → ∀ x ∈ xs,BigOk x
  | [],l,_,_,_,x,hx => by cases hx
  | y :: xs,l,h0,hl,h,x,hx => by
    unfold szVl at h
    split at h
    · omega
    · rename_i h1
      rcases List.mem_cons.1 hx with rfl | hx
      · obtain ⟨g1,g2,g3,g4⟩ := szV_ge h0 hl h1
        exact ⟨g1,g2,g3,g4⟩
      · exact szVl_ge (by omega) (szV_le hl) h x hx
theorem szVs_ge {xs : List Verd} (h : ¬ szVs xs 1048576 < 0) : BgsOk xs := by
  unfold szVs at h
  split at h
  · omega
  · rename_i h1
    exact ⟨by omega,szVl_ge (by omega) (by omega) h⟩
theorem bgs_ls {l : List Verd} (g : BgsOk l) : LsGd l := ⟨by have := g.n; omega,fun v hv => big_gd (g.a v hv)⟩
theorem verds_len {l : List Verd} (h : l.length ≤ maxLen ∧ ∀ x ∈ l,VerdOk x) : LnsOk l := ⟨by have := h.1; unfold maxLen at this; omega,fun v hv => verd_len (h.2 v hv)⟩
abbrev eVo : Enc (Option Verd) := ⟨6,fun o => match o with | none => [.sc (.int .i64 0),.sc (.int .i64 0),.sc (.slice none 0 0),.sc (.int .i64 0),.sc (.slice none 0 0),.sc (.slice none 0 0)] | some v => [.sc (.int .i64 v.m.sy),.sc (.int .i64 v.m.st),.sl false 3 (rows eR v.m.ru),.sc (.int .i64 v.p.k),.sl false 1 (rows eI v.p.nu),.sl false 1 (rows eW v.p.wo)],fun o => by cases o <;> rfl,by decide⟩
theorem rows_vo (l : List Verd) : rows eVo (l.map some) = rows eV l := by
  induction l with
  | nil => rfl
  | cons a l ih => simp only [List.map_cons,rows] at *; simp_all
abbrev roV (l : List Verd) : GB := .row 6 (rows eV l)
theorem preD6_2 {p : Prop} (h : p := by first | with_reducible assumption | omega | (simp only [List.length_append,List.length_cons,List.length_nil,List.length_set,List.length_replicate,List.length_take,List.length_drop,List.length_tail,List.length_dropLast,List.length_reverse] at *; omega) | exact mem_len (by assumption) (by omega) | (with_reducible refine Int.le_trans (Int.ofNat_le.2 (trimR_len _)) ?_; simp only [List.length_cons,List.length_tail]; omega) | (exact (ruAt_ok (by assumption) (by assumption) (by assumption)).2.1) | (exact (ruAt_ok (by assumption) (by assumption) (by assumption)).2.1) | (have := vMach_bd (by assumption); omega) | (simp only [List.length_append,List.length_cons,List.length_nil,repW_len,seN_len] at *; omega) | (simp only [mC_ch,mC_tu]; omega) | (have := vTag_bd (by assumption); omega) | (have := (‹Gd _ _›).le; omega) | (exact tgHalts_no (by assumption)) | (exact tgHead (by assumption) (by assumption) (by assumption)) | (exact Int.le_trans (tgStep_gd (by assumption) (by assumption) (by assumption) (by assumption)).le (by decide)) | (exact vTag_r (by assumption)) | (with_reducible refine Int.le_trans (Int.ofNat_le.2 (pushL_len _ _)) ?_; simp only [List.length_dropLast]; omega) | exact ls_at (by assumption) (by omega) | exact pt_gd (by assumption) | exact lv_at (by assumption) (by omega) | exact pt_gd (lv_at (by assumption) (by omega)) | exact (ask_ok (by assumption)).1 | exact (ask_ok (by assumption)).2.1 | exact (ask_ok (by assumption)).2.2.1 | exact (ask_ok (by assumption)).2.2.2 | (simp only [marks_len]; omega) | (simp only [marksR_len]; omega) | exact lns_at (by assumption) (by omega) | exact bgs_at (by assumption) (by omega) | trivial) : p := h
theorem eqV_iff {a b : Verd} : eqV a b = true ↔ a = b := by
  obtain ⟨⟨a1,a2,a3⟩,⟨a4,a5,a6⟩⟩ := a
  obtain ⟨⟨b1,b2,b3⟩,⟨b4,b5,b6⟩⟩ := b
  unfold eqV eqM eqP
  simp only [Bool.and_eq_true,decide_eq_true_eq,Verd.mk.injEq,Mach.mk.injEq,Prf.mk.injEq]
theorem eqVerdictSs_ok (xs : List Verd) (g : BgsOk xs) : Does Tryz.prog 19 [.one (shV xs),.one (shV xs)] [] (.one (boo true)) [] := by
  have hx := g.n
  have hq : ∀ v : Verd,¬ eqV v v = false := fun v h => by rw [eqV_iff.2 rfl] at h; cases h
  refine does_of (k := 0) Tryz.func19 rfl Tryz.ntmps19 rfl rfl fun w F0 S0 ρ0 => ?_
  dsimp only [argT,argH]
  repeat' first|(apply p3;(first|exact pu1|exact puN|exact a_ne rfl rfl);exact rfl)|refine cd ?_|((refine g_cond rfl (fun hc => ?_) (fun hc => ?_)) <;> (try simp only [dcB] at hc) <;> (try first|contradiction|(exfalso;omega)))|fail
  refine g_loop_id ?_
  refine loopK [0,1,4] [] (fun i : Int => 0 ≤ i ∧ i ≤ xs.length) (fun i => [(5,.one (int i))]) (fun _ => []) (fun i => (xs.length - i).toNat) (0 : Int) [] (hI := ?_) (hr := ?_)
  · exact ⟨by simp,by simp⟩
  · rintro i ⟨h0,h1⟩
    dsimp only [List.cons_append,List.nil_append] at *
    skip
    repeat' first|(apply p3;(first|exact pu1|exact puN|exact puC);exact rfl)|refine cdn ?_|refine g_reg (id := 4) ?_|refine g_reg (id := 8) ?_|((refine g_cond rfl (fun hc => ?_) (fun hc => ?_)) <;> (try simp only [dcB] at hc) <;> (try first|contradiction|(exfalso;omega)))|fail
    · have hq2 := hq (xs[i.toNat]'(by omega))
      repeat' first|(apply p3;(first|exact pu1|exact a_add rfl rfl (by omega) (by omega));exact rfl)|refine cd ?_|(apply g_drN (id := 6) okM [[],[],[0,1],[0,1,2],[],[],[4,5],[4,5,6],[0,1,2,3,4,5,6,7],[0,1,2,3,4,5,6,7,8]] [([],[]),([],[]),([],[]),([],[]),([],[]),([],[]),([],[]),([],[]),([],[]),([],[])] 0;(focus (refine dp 0 0 [18,21,22,23,24] [] pu1 ?_;refine dp 1 0 [17,21,22,23,24] [] pu1 ?_;refine dp 2 3 [21,22,23,24] [] puI ?_;refine dp 3 7 [21,22,23,24] [] (by exact puL) ?_;refine dp 4 0 [17,18,19,20,22] [] pu1 ?_;refine dp 5 0 [17,18,19,20,21] [] pu1 ?_;refine dp 6 3 [17,18,19,20] [] puI ?_;refine dp 7 7 [17,18,19,20] [] (by exact puL) ?_;refine dp 8 255 [] [] (callD1 (n := _) 0 (θ := []) (hD := (eqVerdict_ok _ _ preD6_2 preD6_2))) ?_;refine dp 9 511 [] [] (a_pure (sv := .one _) rfl) ?_;(refine d_nil ?_;refine dN ?_)));any_goals kernel_rfl)|((refine g_cond rfl (fun hc => ?_) (fun hc => ?_)) <;> (try simp only [dcB] at hc) <;> (try first|contradiction|(exfalso;omega)))|fail
      refine q_again (i + 1) [] (by exact stk) ?_ ?_
      · exact ⟨by omega,by omega⟩
      · omega
    · skip
      repeat refine cr ?_
      refine ends_id ?_
      refine endK [] (h2 := ?_) (h3 := ?_) (nd := ?_)
      all_goals (repeat' first|exact ce0|refine ce ?_|refine ce2 ?_ ?_|exact SVLe.refl|refine ceb ?_)
      all_goals first | exact (show nodupB _ = true from rfl) | exact Or.inr rfl | (rfl)
end Go.Proofs.YtnkeamihfiobdaaGreatDoor
end
section
set_option linter.unusedVariables false
set_option linter.unusedSimpArgs false
set_option maxRecDepth 100000
set_option maxHeartbeats 4000000
namespace Go.Proofs.YtnkeamihfiobdaaGreatDoor
open Go Foot
@[irreducible] def marks (k : Int) (n : Nat) : List Int := (List.range n).map fun (i : Nat) => k + (i : Int)
theorem marks_len (k : Int) (n : Nat) : (marks k n).length = n := by unfold marks; simp
theorem marks_get (k : Int) (n i : Nat) (h : i < n) : (marks k n)[i]? = some (k + i) := by unfold marks; simp [h]
theorem mark_end {k : Int} {xs l : List Int} (h1 : l.length = xs.length) (h2 : ∀ j (h : j < xs.length),l[j]? = some (k + j)) : l = marks k xs.length := by
  apply List.ext_getElem?
  intro j
  by_cases hj : j < xs.length
  · rw [marks_get k _ j hj,h2 j hj]
  · rw [List.getElem?_eq_none (by omega),List.getElem?_eq_none (by rw [marks_len]; omega)]
theorem markInt64S_ok (xs : List Int) (k : Int) (h1 : 0 ≤ k) (h2 : k ≤ 4611686018427387904) (hx : (xs.length : Int) ≤ 4611686018427) : Does Tryz.prog 75 [.one (.gv 0),.one (int k)] [roI xs] (.one (int (k + xs.length))) [roI (marks k xs.length)] := by
  refine does_of (k := 1) Tryz.func75 rfl Tryz.ntmps75 rfl rfl fun w F0 S0 ρ0 => ?_
  dsimp only [argT,argH]
  repeat' first|(apply p3;(exact pu1);exact rfl)|refine cd ?_|fail
  refine g_loop_id ?_
  refine loopK [0,4] [0] (fun y : Int × List Int => 0 ≤ y.1 ∧ y.1 ≤ xs.length ∧ y.2.length = xs.length ∧ ∀ (j : Nat),(j : Int) < y.1 → y.2[j]? = some (k + j)) (fun y => [(5,.one (int y.1)),(1,.one (int (k + y.1)))]) (fun y => [(0,roI y.2)]) (fun y => (xs.length - y.1).toNat) ((0 : Int),xs) [0] (hI := ?_) (hr := ?_)
  · exact ⟨by simp,by simp,rfl,fun j h' => by simp at h'; omega⟩
  · rintro ⟨i,l⟩ ⟨k1,k2,k3,k4⟩
    dsimp only [List.cons_append,List.nil_append] at *
    skip
    repeat' first|(apply p3;(first|exact pu1|exact puN|exact puC|exact a_add rfl rfl (by omega) (by omega)|exact puI);exact rfl)|refine cd ?_|(apply w3;(exact a_st_rowI rfl rfl rfl rfl (fN rfl rfl) bnd);exact rfl;refine dS ?_)|((refine g_cond rfl (fun hc => ?_) (fun hc => ?_)) <;> (try simp only [dcB] at hc) <;> (try first|contradiction|(exfalso;omega)))|fail
    · refine q_again (i + 1,l.set i.toNat (k + i)) [0] (by exact stk) ?_ ?_
      · refine ⟨by dsimp only; omega,by dsimp only; omega,by simp [k3],fun j h => ?_⟩
        dsimp only at h ⊢
        rw [List.getElem?_set]
        split
        · rename_i e
          subst e
          rw [if_pos (by omega)]
          congr 1
          omega
        · exact k4 j (by omega)
      · dsimp only; omega
    · have hi : i = xs.length := by omega
      subst hi
      have hl := mark_end (k := k) k3 fun j hj => k4 j (by omega)
      repeat refine cr ?_
      refine ends_id ?_
      refine endK [] (h2 := ?_) (h3 := ?_) (nd := ?_)
      all_goals (repeat' first|exact ce0|refine ce ?_|refine ce2 ?_ ?_|(refine Or.inr (bx_eq rfl rfl ?_);(try dsimp only [C.ren,C.ren.all]);(try exact rfl))|exact SVLe.refl|refine ceb ?_)
      all_goals first | exact (show nodupB _ = true from rfl) | exact Or.inr rfl | (exact hl)
@[irreducible] def held (k : Int) (xs : List Int) : Int := if xs = marks k xs.length then k + xs.length else -1
theorem held_marks (k : Int) (n : Nat) : held k (marks k n) = k + n := by unfold held; rw [marks_len,if_pos rfl]
theorem heldInt64S_ok (xs : List Int) (k : Int) (h1 : 0 ≤ k) (h2 : k ≤ 4611686018427387904) (hx : (xs.length : Int) ≤ 4611686018427) : Does Tryz.prog 78 [.one (shI xs),.one (int k)] [] (.one (int (held k xs))) [] := by
  refine does_of (k := 0) Tryz.func78 rfl Tryz.ntmps78 rfl rfl fun w F0 S0 ρ0 => ?_
  dsimp only [argT,argH]
  repeat' first|(apply p3;(exact pu1);exact rfl)|refine cd ?_|fail
  refine g_loop_id ?_
  refine loopK [0,4] [] (fun i : Int => 0 ≤ i ∧ i ≤ xs.length ∧ ∀ (j : Nat),(j : Int) < i → xs[j]? = some (k + j)) (fun i => [(5,.one (int i)),(1,.one (int (k + i)))]) (fun _ => []) (fun i => (xs.length - i).toNat) (0 : Int) [] (hI := ?_) (hr := ?_)
  · exact ⟨by simp,by simp,fun j h' => by omega⟩
  · rintro i ⟨k1,k2,k4⟩
    dsimp only [List.cons_append,List.nil_append] at *
    skip
    repeat' first|(apply p3;(first|exact pu1|exact puN|exact puC|exact a_ne rfl rfl|exact a_add rfl rfl (by omega) (by omega)|exact puI);exact rfl)|refine cd ?_|((refine g_cond rfl (fun hc => ?_) (fun hc => ?_)) <;> (try simp only [dcB] at hc) <;> (try first|contradiction|(exfalso;omega)))|fail
    · repeat refine cr ?_
      refine ends_id ?_
      refine endK [] (h2 := ?_) (h3 := ?_) (nd := ?_)
      all_goals (repeat' first|exact ce0|refine ce ?_|refine ce2 ?_ ?_|exact SVLe.refl|refine ceb ?_)
      all_goals first | exact (show nodupB _ = true from rfl) | exact Or.inr rfl | ((unfold held; rw [if_neg]; intro e; have e1 := marks_get k xs.length i.toNat (by omega); rw [← e,List.getElem?_eq_getElem (by omega)] at e1; simp only [Option.some.injEq] at e1; omega))
    · refine q_again (i + 1) [] (by exact stk) ?_ ?_
      · refine ⟨by omega,by omega,fun j h => ?_⟩
        by_cases hj : (j : Int) < i
        · exact k4 j hj
        · have : j = i.toNat := by omega
          subst this
          rw [List.getElem?_eq_getElem (by omega),hc]
          congr 1
          omega
      · omega
    · have hi : i = xs.length := by omega
      subst hi
      have hl := mark_end (k := k) (xs := xs) rfl fun j hj => k4 j (by omega)
      repeat refine cr ?_
      refine ends_id ?_
      refine endK [] (h2 := ?_) (h3 := ?_) (nd := ?_)
      all_goals (repeat' first|exact ce0|refine ce ?_|refine ce2 ?_ ?_|exact SVLe.refl|refine ceb ?_)
      all_goals first | exact (show nodupB _ = true from rfl) | exact Or.inr rfl | ((unfold held; rw [if_pos hl]))
end Go.Proofs.YtnkeamihfiobdaaGreatDoor
end
section
set_option linter.unusedVariables false
set_option linter.unusedSimpArgs false
set_option maxRecDepth 100000
set_option maxHeartbeats 4000000
namespace Go.Proofs.YtnkeamihfiobdaaGreatDoor
open Go Foot
abbrev eWn : Enc (List Int) := ⟨1,fun l => [.sl true 1 (rows eI l)],fun _ => rfl,by decide⟩
abbrev roWn (l : List (List Int)) : GB := .row 1 (rows eWn l)
def totL {α : Type} (sz : α → Int) : List α → Int
  | [] => 0
  | x :: xs => sz x + totL sz xs
def mkL {α : Type} (sz : α → Int) (mk : Int → α → α) : Int → List α → List α
  | _,[] => []
  | k,x :: xs => mk k x :: mkL sz mk (k + sz x) xs
theorem totL_app {α : Type} (sz : α → Int) : ∀ (xs ys : List α),totL sz (xs ++ ys) = totL sz xs + totL sz ys
  | [],ys => by simp [totL]
  | x :: xs,ys => by simp [totL,totL_app sz xs ys]; omega
theorem mkL_app {α : Type} (sz : α → Int) (mk : Int → α → α) : ∀ (k : Int) (xs ys : List α),mkL sz mk k (xs ++ ys) = mkL sz mk k xs ++ mkL sz mk (k + totL sz xs) ys
  | k,[],ys => by simp [mkL,totL]
  | k,x :: xs,ys => by simp [mkL,totL,mkL_app sz mk _ xs ys,Int.add_assoc]
theorem mkL_len {α : Type} (sz : α → Int) (mk : Int → α → α) : ∀ (k : Int) (xs : List α),(mkL sz mk k xs).length = xs.length
  | k,[] => rfl
  | k,x :: xs => by simp [mkL,mkL_len sz mk _ xs]
theorem totL_next {α : Type} (sz : α → Int) {xs : List α} {i : Int} (h0 : 0 ≤ i) (h : i.toNat < xs.length) : totL sz (xs.take (i + 1).toNat) = totL sz (xs.take i.toNat) + sz (xs[i.toNat]) := by
  rw [show (i + 1).toNat = i.toNat + 1 by omega,List.take_succ_eq_append_getElem h,totL_app]
  simp [totL]
theorem totL_bd {α : Type} (sz : α → Int) (b : Int) : ∀ {xs : List α},(∀ x ∈ xs,0 ≤ sz x ∧ sz x ≤ b) → 0 ≤ totL sz xs ∧ totL sz xs ≤ xs.length * b
  | [],_ => by simp [totL]
  | x :: xs,h => by
    have h1 := totL_bd sz b (xs := xs) (fun y hy => h y (by simp [hy]))
    have h2 := h x (by simp)
    simp only [totL,List.length_cons,Int.natCast_add,Int.add_mul,Int.natCast_one,Int.one_mul]
    omega
def mkT {α : Type} (sz : α → Int) (mk : Int → α → α) (k : Int) (xs : List α) (i : Nat) : List α := mkL sz mk k (xs.take i) ++ xs.drop i
theorem mkT_len {α : Type} (sz : α → Int) (mk : Int → α → α) (k : Int) (xs : List α) (i : Nat) (h : i ≤ xs.length) : (mkT sz mk k xs i).length = xs.length := by
  unfold mkT; rw [List.length_append,mkL_len,List.length_take,List.length_drop]; omega
theorem mkT_get {α : Type} (sz : α → Int) (mk : Int → α → α) (k : Int) (xs : List α) (i : Nat) (h : i < xs.length) (h' : i < (mkT sz mk k xs i).length) : (mkT sz mk k xs i)[i]'h' = xs[i] := by
  have e : (mkL sz mk k (xs.take i)).length = i := by rw [mkL_len,List.length_take]; omega
  have e2 : (mkT sz mk k xs i)[i]? = some xs[i] := by
    unfold mkT
    rw [List.getElem?_append_right (by omega),e,Nat.sub_self,List.getElem?_drop,Nat.add_zero,List.getElem?_eq_getElem h]
  rw [List.getElem?_eq_getElem h'] at e2
  exact Option.some.inj e2
theorem mkT_0 {α : Type} (sz : α → Int) (mk : Int → α → α) (k : Int) (xs : List α) : mkT sz mk k xs 0 = xs := by unfold mkT; simp [mkL]
theorem mkT_next {α : Type} (sz : α → Int) (mk : Int → α → α) (k : Int) (xs : List α) (i : Nat) (h : i < xs.length) : (mkT sz mk k xs i).set i (mk (k + totL sz (xs.take i)) xs[i]) = mkT sz mk k xs (i + 1) := by
  have e : (mkL sz mk k (xs.take i)).length = i := by rw [mkL_len,List.length_take]; omega
  unfold mkT
  rw [List.set_append_right _ _ (by omega),e,Nat.sub_self,List.drop_eq_getElem_cons h,List.set_cons_zero,List.take_succ_eq_append_getElem h,mkL_app]
  simp [mkL]
theorem mkT_end {α : Type} (sz : α → Int) (mk : Int → α → α) (k : Int) (xs : List α) : mkT sz mk k xs xs.length = mkL sz mk k xs := by unfold mkT; simp
abbrev szw (x : List Int) : Int := x.length
abbrev mkw (k : Int) (x : List Int) : List Int := marks k x.length
@[irreducible] def totW (xs : List (List Int)) : Int := totL szw xs
@[irreducible] def mksW (k : Int) (xs : List (List Int)) : List (List Int) := mkL szw mkw k xs
theorem preD7 {p : Prop} (h : p := by first | with_reducible assumption | omega | (simp only [List.length_append,List.length_cons,List.length_nil,List.length_set,List.length_replicate,List.length_take,List.length_drop,List.length_tail,List.length_dropLast,List.length_reverse] at *; omega) | exact mem_len (by assumption) (by omega) | (with_reducible refine Int.le_trans (Int.ofNat_le.2 (trimR_len _)) ?_; simp only [List.length_cons,List.length_tail]; omega) | (exact (ruAt_ok (by assumption) (by assumption) (by assumption)).2.1) | (exact (ruAt_ok (by assumption) (by assumption) (by assumption)).2.1) | (have := vMach_bd (by assumption); omega) | (simp only [List.length_append,List.length_cons,List.length_nil,repW_len,seN_len] at *; omega) | (simp only [mC_ch,mC_tu]; omega) | (have := vTag_bd (by assumption); omega) | (have := (‹Gd _ _›).le; omega) | (exact tgHalts_no (by assumption)) | (exact tgHead (by assumption) (by assumption) (by assumption)) | (exact Int.le_trans (tgStep_gd (by assumption) (by assumption) (by assumption) (by assumption)).le (by decide)) | (exact vTag_r (by assumption)) | (with_reducible refine Int.le_trans (Int.ofNat_le.2 (pushL_len _ _)) ?_; simp only [List.length_dropLast]; omega) | exact ls_at (by assumption) (by omega) | exact pt_gd (by assumption) | exact lv_at (by assumption) (by omega) | exact pt_gd (lv_at (by assumption) (by omega)) | exact (ask_ok (by assumption)).1 | exact (ask_ok (by assumption)).2.1 | exact (ask_ok (by assumption)).2.2.1 | exact (ask_ok (by assumption)).2.2.2 | (simp only [marks_len]; omega) | (simp only [marksR_len]; omega) | exact lns_at (by assumption) (by omega) | exact bgs_at (by assumption) (by omega) | trivial) : p := h
theorem toInt64SSn_ok (xs : List (List Int)) (hx : (xs.length : Int) ≤ 1048576) (hxs : ∀ x ∈ xs,(x.length : Int) ≤ 1048576) : Does Tryz.prog 207 [.one (shW xs)] [] (.one (.gv 0)) [roWn xs] := by
  refine does_of (k := 0) Tryz.func207 rfl Tryz.ntmps207 rfl rfl fun w F0 S0 ρ0 => ?_
  dsimp only [argT,argH]
  repeat' first|(apply n3;exact a_make (fE rfl) (fZ rfl) (fP rfl) (by decide) rfl rfl (by omega) rfl (by omega) (by omega) (rows_rep eWo none _);exact rfl;refine dA ?_)|(apply p3;(first|exact pu1|exact puN);exact rfl)|refine cd ?_|fail
  first | refine g_conv (t_nilR (i := 0) (E' := eWn) ([] : List Int) rfl (by repeat (first | exact trivial | exact nilOwn (by decide) | exact (fun _ _ _ _ h => h) | refine And.intro ?_ ?_))) ?_ | refine o_conv (t_nilR (i := 0) (E' := eWn) ([] : List Int) rfl (by repeat (first | exact trivial | exact nilOwn (by decide) | exact (fun _ _ _ _ h => h) | refine And.intro ?_ ?_))) ?_
  refine g_loop_id ?_
  refine loopK [0,2,3] [0] (fun x : Int × List (List Int) => 0 ≤ x.1 ∧ x.1 ≤ xs.length ∧ x.2.length = xs.length ∧ ∀ k (h : k < xs.length),k < x.1 → x.2[k]? = some xs[k]) (fun x => [(4,.one (int x.1))]) (fun x => [(0,.row 1 (rows eWn x.2))]) (fun x => (xs.length - x.1).toNat) ((0 : Int),List.replicate xs.length ([] : List Int)) [0] (hI := ?_) (hr := ?_)
  · exact ⟨by simp,by simp,by simp,by intro k h h'; simp at h'; omega⟩
  · rintro ⟨i,l⟩ ⟨h0,h1,h2,h3⟩
    dsimp only [List.cons_append,List.nil_append] at *
    skip
    repeat' first|(apply p3;(first|exact pu1|exact puN|exact puC);exact rfl)|refine cdn ?_|refine g_reg (id := 3) ?_|refine g_reg (id := 6) ?_|((refine g_cond rfl (fun hc => ?_) (fun hc => ?_)) <;> (try simp only [dcB] at hc) <;> (try first|contradiction|(exfalso;omega)))|fail
    · first | refine g_conv (t_qE (i := 0) (i.toNat) bnd rfl) ?_ | refine o_conv (t_qE (i := 0) (i.toNat) bnd rfl) ?_
      try dsimp only [List.map_cons,List.map_nil,List.set_cons_zero,List.set_cons_succ,List.length_cons,List.length_nil,List.cons_append,List.nil_append,Nat.reduceAdd,setRow]
      repeat' first|(apply p3;(first|exact pu1|exact puX|exact puI);exact rfl)|refine cdn ?_|refine g_reg (id := 5) ?_|(apply w3;(exact a_stQE 0 rfl rfl rfl rfl (fN rfl rfl) (Nat.le_of_ble_eq_true rfl) (Nat.le_of_ble_eq_true rfl) rfl bnd bnd);exact rfl;refine dS ?_)|(apply c4 1;exact callK1 (θ := []) (hD := (toInt64S_ok _ preD7));exact rfl;exact rfl;exact rfl;refine dM ?_)|fail
      first | refine g_conv (t_close1 (i := 0) (j := 1) (k := 0) (m := 0) rfl rfl rfl rfl rfl) ?_ | refine o_conv (t_close1 (i := 0) (j := 1) (k := 0) (m := 0) rfl rfl rfl rfl rfl) ?_
      try dsimp only [List.map_cons,List.map_nil,List.set_cons_zero,List.set_cons_succ,List.length_cons,List.length_nil,List.cons_append,List.nil_append,Nat.reduceAdd,setRow]
      first | refine g_conv (t_uE (i := 0) (xs[i.toNat]'(by omega)) bnd rfl rfl) ?_ | refine o_conv (t_uE (i := 0) (xs[i.toNat]'(by omega)) bnd rfl rfl) ?_
      repeat' first|(apply p3;(first|exact pu1|exact a_add rfl rfl (by omega) (by omega));exact rfl)|refine cd ?_|fail
      refine q_again (i + 1,l.set i.toNat (xs[i.toNat]'(by omega))) [0] (by exact stk) ?_ ?_
      · refine ⟨by dsimp only; omega,by dsimp only; omega,by simp [h2],fun k h h' => ?_⟩
        dsimp only at h' ⊢
        rw [List.getElem?_set]
        split
        · rename_i e
          subst e
          rw [if_pos (by omega)]
        · exact h3 k h (by omega)
      · dsimp only; omega
    · have hl : l = xs := by
        apply List.ext_getElem?
        intro k
        by_cases hk : k < xs.length
        · rw [h3 k hk (by omega),List.getElem?_eq_getElem hk]
        · rw [List.getElem?_eq_none (by omega),List.getElem?_eq_none (by omega)]
      subst hl
      skip
      repeat refine cr ?_
      refine ends_id ?_
      refine endK [?_] (h2 := ?_) (h3 := ?_) (nd := ?_)
      rotate_left 1
      all_goals (repeat' first|exact ce0|refine ce ?_|refine ce2 ?_ ?_|exact SVLe.refl|refine ceb ?_)
      all_goals first | exact (show nodupB _ = true from rfl) | exact Or.inr rfl | (rfl)
theorem markInt64SSn_ok (xs : List (List Int)) (k : Int) (h1 : 0 ≤ k) (h2 : k + totW xs ≤ 4611686018427387904) (hx : (xs.length : Int) ≤ 4611686018427) (hxs : ∀ x ∈ xs,(x.length : Int) ≤ 4611686018427) : Does Tryz.prog 76 [.one (.gv 0),.one (int k)] [roWn xs] (.one (int (k + totW xs))) [roWn (mksW k xs)] := by
  refine does_of (k := 1) Tryz.func76 rfl Tryz.ntmps76 rfl rfl fun w F0 S0 ρ0 => ?_
  dsimp only [argT,argH]
  repeat' first|(apply p3;(exact pu1);exact rfl)|refine cd ?_|fail
  refine g_loop_id ?_
  refine loopK [0,4] [0] (fun y : Int × Int × List (List Int) => 0 ≤ y.1 ∧ y.1 ≤ xs.length ∧ y.2.1 = k + totL szw (xs.take y.1.toNat) ∧ y.2.2 = mkT szw mkw k xs y.1.toNat) (fun y => [(5,.one (int y.1)),(1,.one (int y.2.1))]) (fun y => [(0,roWn y.2.2)]) (fun y => (xs.length - y.1).toNat) ((0 : Int),k,xs) [0] (hI := ?_) (hr := ?_)
  · exact ⟨by simp,by simp,by simp [totL],(mkT_0 _ _ _ _).symm⟩
  · rintro ⟨i,k',l⟩ ⟨k1,k2,k3,k4⟩
    dsimp only [List.cons_append,List.nil_append] at *
    skip
    repeat' first|(apply p3;(first|exact pu1|exact puN|exact puC);exact rfl)|refine cdn ?_|refine g_reg (id := 2) ?_|refine g_reg (id := 5) ?_|((refine g_cond rfl (fun hc => ?_) (fun hc => ?_)) <;> (try simp only [dcB] at hc) <;> (try first|contradiction|(exfalso;omega)))|fail
    · have hl := mkT_len szw mkw k xs i.toNat (by omega)
      rw [← k4] at hl
      have hi : i.toNat < xs.length := by omega
      have hg : l[i.toNat]'(by omega) = xs[i.toNat] := by subst k4; exact mkT_get _ _ _ _ _ hi _
      have hb := totL_bd szw 4611686018427 (xs := xs.take i.toNat) (fun x hx => ⟨by unfold szw; omega,hxs x (List.mem_of_mem_take hx)⟩)
      have hx2 := hxs _ (List.getElem_mem hi)
      have hn := totL_next szw k1 (xs := xs) hi
      have ht := totL_app szw (xs.take (i + 1).toNat) (xs.drop (i + 1).toNat)
      have hd := totL_bd szw 4611686018427 (xs := xs.drop (i + 1).toNat) (fun x hx => ⟨by unfold szw; omega,hxs x (List.mem_of_mem_drop hx)⟩)
      rw [List.take_append_drop] at ht
      unfold totW at h2
      have hs : szw xs[i.toNat] = (xs[i.toNat].length : Int) := rfl
      first | refine g_conv (t_qE (i := 0) (i.toNat) bnd rfl) ?_ | refine o_conv (t_qE (i := 0) (i.toNat) bnd rfl) ?_
      try dsimp only [List.map_cons,List.map_nil,List.set_cons_zero,List.set_cons_succ,List.length_cons,List.length_nil,List.cons_append,List.nil_append,Nat.reduceAdd,setRow]
      first | refine g_conv (t_open1 (i := 0) (k := 0) rfl rfl rfl) ?_ | refine o_conv (t_open1 (i := 0) (k := 0) rfl rfl rfl) ?_
      try dsimp only [List.map_cons,List.map_nil,List.set_cons_zero,List.set_cons_succ,List.length_cons,List.length_nil,List.cons_append,List.nil_append,Nat.reduceAdd,setRow]
      simp only [hg]
      repeat' first|(apply p3;(first|exact pu1|exact puX|exact puQ);exact rfl)|refine cdn ?_|refine g_reg (id := 4) ?_|(apply c4 0;exact callK1 (θ := [_]) (hD := (markInt64S_ok _ _ preD7 preD7 preD7));exact rfl;exact rfl;exact rfl;refine dM ?_)|fail
      first | refine g_conv (t_close1 (i := 0) (j := 1) (k := 0) (m := 0) rfl rfl rfl rfl rfl) ?_ | refine o_conv (t_close1 (i := 0) (j := 1) (k := 0) (m := 0) rfl rfl rfl rfl rfl) ?_
      try dsimp only [List.map_cons,List.map_nil,List.set_cons_zero,List.set_cons_succ,List.length_cons,List.length_nil,List.cons_append,List.nil_append,Nat.reduceAdd,setRow]
      first | refine g_conv (t_uE (i := 0) (marks k' xs[i.toNat].length) bnd rfl rfl) ?_ | refine o_conv (t_uE (i := 0) (marks k' xs[i.toNat].length) bnd rfl rfl) ?_
      repeat' first|(apply p3;(first|exact pu1|exact a_add rfl rfl (by omega) (by omega));exact rfl)|refine cd ?_|fail
      refine q_again (i + 1,k' + xs[i.toNat].length,l.set i.toNat (marks k' xs[i.toNat].length)) [0] (by exact stk) ?_ ?_
      · refine ⟨by dsimp only; omega,by dsimp only; omega,by dsimp only; omega,?_⟩
        dsimp only
        rw [show (i + 1).toNat = i.toNat + 1 by omega,← mkT_next szw mkw k xs i.toNat hi,← k3,← k4]
      · dsimp only; omega
    · have hl := mkT_len szw mkw k xs i.toNat (by omega)
      rw [← k4] at hl
      have hi : i.toNat = xs.length := by omega
      rw [hi,mkT_end] at k4
      rw [hi,List.take_length] at k3
      have e1 : totW xs = totL szw xs := by unfold totW; rfl
      have e2 : mksW k xs = mkL szw mkw k xs := by unfold mksW; rfl
      rw [e1,e2,← k3,← k4]
      skip
      repeat refine cr ?_
      refine ends_id ?_
      refine endK [] (h2 := ?_) (h3 := ?_) (nd := ?_)
      all_goals (repeat' first|exact ce0|refine ce ?_|refine ce2 ?_ ?_|(refine Or.inr (bx_eq rfl rfl ?_);(try dsimp only [C.ren,C.ren.all]);(try exact rfl))|exact SVLe.refl|refine ceb ?_)
      all_goals first | exact (show nodupB _ = true from rfl) | exact Or.inr rfl | (rfl)
end Go.Proofs.YtnkeamihfiobdaaGreatDoor
end
section
set_option linter.unusedVariables false
set_option linter.unusedSimpArgs false
set_option maxRecDepth 100000
set_option maxHeartbeats 4000000
namespace Go.Proofs.YtnkeamihfiobdaaGreatDoor
open Go Foot
@[irreducible] def marksR (k : Int) (n : Nat) : List Rule' := (List.range n).map fun (i : Nat) => ⟨k + 3 * (i : Int),k + 3 * (i : Int) + 1,k + 3 * (i : Int) + 2⟩
theorem marksR_len (k : Int) (n : Nat) : (marksR k n).length = n := by unfold marksR; simp
theorem marksR_get (k : Int) (n i : Nat) (h : i < n) : (marksR k n)[i]? = some ⟨k + 3 * i,k + 3 * i + 1,k + 3 * i + 2⟩ := by unfold marksR; simp [h]
theorem markR_end {k : Int} {xs l : List Rule'} (h1 : l.length = xs.length) (h2 : ∀ j (h : j < xs.length),l[j]? = some ⟨k + 3 * j,k + 3 * j + 1,k + 3 * j + 2⟩) : l = marksR k xs.length := by
  apply List.ext_getElem?
  intro j
  by_cases hj : j < xs.length
  · rw [marksR_get k _ j hj,h2 j hj]
  · rw [List.getElem?_eq_none (by omega),List.getElem?_eq_none (by rw [marksR_len]; omega)]
theorem markRuleS_ok (m : Mach) (k : Int) (h1 : 0 ≤ k) (h2 : k ≤ 4611686018427387904) (hx : (m.ru.length : Int) ≤ 4611686018427) : Does Tryz.prog 74 [.one (.gv 0),.one (int k)] [.row 3 (rows eR m.ru)] (.one (int (k + 3 * m.ru.length))) [.row 3 (rows eR (marksR k m.ru.length))] := by
  refine does_of (k := 1) Tryz.func74 rfl Tryz.ntmps74 rfl rfl fun w F0 S0 ρ0 => ?_
  dsimp only [argT,argH]
  repeat' first|(apply p3;(exact pu1);exact rfl)|refine cd ?_|fail
  refine g_loop_id ?_
  refine loopK [0,4] [0] (fun y : Int × List Rule' => 0 ≤ y.1 ∧ y.1 ≤ m.ru.length ∧ y.2.length = m.ru.length ∧ ∀ (j : Nat),(j : Int) < y.1 → y.2[j]? = some ⟨k + 3 * j,k + 3 * j + 1,k + 3 * j + 2⟩) (fun y => [(5,.one (int y.1)),(1,.one (int (k + 3 * y.1)))]) (fun y => [(0,.row 3 (rows eR y.2))]) (fun y => (m.ru.length - y.1).toNat) ((0 : Int),m.ru) [0] (hI := ?_) (hr := ?_)
  · exact ⟨by simp,by simp,rfl,fun j h' => by simp at h'; omega⟩
  · rintro ⟨i,l⟩ ⟨k1,k2,k3,k4⟩
    dsimp only [List.cons_append,List.nil_append] at *
    skip
    repeat' first|(apply p3;(first|exact pu1|exact puN|exact puC|exact a_add rfl rfl (by omega) (by omega)|exact puI);exact rfl)|refine cd ?_|(apply w3;(exact a_stF (E := eR) ⟨_,_,_⟩ rfl rfl rfl rfl (fN rfl rfl) (Nat.le_of_ble_eq_true rfl) (Nat.le_of_ble_eq_true rfl) (by first|exact List.getElem?_set_self bnd|exact List.getElem?_eq_getElem bnd) (by (try dsimp only [setRow,List.set_cons_succ,List.set_cons_zero]);first|done|exact rfl) rfl);exact rfl;refine dS ?_)|((refine g_cond rfl (fun hc => ?_) (fun hc => ?_)) <;> (try simp only [dcB] at hc) <;> (try first|contradiction|(exfalso;omega)))|fail
    · refine q_again (i + 1,_) [0] (by exact stk) ?_ ?_
      · refine ⟨by dsimp only; omega,by dsimp only; omega,by simp [k3],fun j h => ?_⟩
        dsimp only at h ⊢
        simp only [List.set_set]
        rw [List.getElem?_set]
        split
        · rename_i e
          subst e
          rw [if_pos (by omega),show ((i.toNat : Nat) : Int) = i by omega,show k + 3 * i + 1 + 1 = k + 3 * i + 2 by omega]
        · exact k4 j (by omega)
      · dsimp only; omega
    · have hi : i = m.ru.length := by omega
      subst hi
      have hl := markR_end (k := k) k3 fun j hj => k4 j (by omega)
      rw [← hl]
      repeat refine cr ?_
      refine ends_id ?_
      refine endK [] (h2 := ?_) (h3 := ?_) (nd := ?_)
      all_goals (repeat' first|exact ce0|refine ce ?_|refine ce2 ?_ ?_|(refine Or.inr (bx_eq rfl rfl ?_);(try dsimp only [C.ren,C.ren.all]);(try exact rfl))|exact SVLe.refl|refine ceb ?_)
      all_goals first | exact (show nodupB _ = true from rfl) | exact Or.inr rfl | (rfl)
end Go.Proofs.YtnkeamihfiobdaaGreatDoor
end
section
set_option linter.unusedVariables false
set_option linter.unusedSimpArgs false
set_option maxRecDepth 100000
set_option maxHeartbeats 4000000
namespace Go.Proofs.YtnkeamihfiobdaaGreatDoor
open Go Foot
abbrev eVn : Enc Verd := ⟨6,fun v => [.sc (.int .i64 v.m.sy),.sc (.int .i64 v.m.st),.sl true 3 (rows eR v.m.ru),.sc (.int .i64 v.p.k),.sl true 1 (rows eI v.p.nu),.sl true 1 (rows eWn v.p.wo)],fun _ => rfl,by decide⟩
abbrev roVn (l : List Verd) : GB := .row 6 (rows eVn l)
abbrev verd0 : Verd := ⟨⟨0,0,[]⟩,⟨0,[],[]⟩⟩
theorem preD8 {p : Prop} (h : p := by first | with_reducible assumption | omega | (simp only [List.length_append,List.length_cons,List.length_nil,List.length_set,List.length_replicate,List.length_take,List.length_drop,List.length_tail,List.length_dropLast,List.length_reverse] at *; omega) | exact mem_len (by assumption) (by omega) | (with_reducible refine Int.le_trans (Int.ofNat_le.2 (trimR_len _)) ?_; simp only [List.length_cons,List.length_tail]; omega) | (exact (ruAt_ok (by assumption) (by assumption) (by assumption)).2.1) | (exact (ruAt_ok (by assumption) (by assumption) (by assumption)).2.1) | (have := vMach_bd (by assumption); omega) | (simp only [List.length_append,List.length_cons,List.length_nil,repW_len,seN_len] at *; omega) | (simp only [mC_ch,mC_tu]; omega) | (have := vTag_bd (by assumption); omega) | (have := (‹Gd _ _›).le; omega) | (exact tgHalts_no (by assumption)) | (exact tgHead (by assumption) (by assumption) (by assumption)) | (exact Int.le_trans (tgStep_gd (by assumption) (by assumption) (by assumption) (by assumption)).le (by decide)) | (exact vTag_r (by assumption)) | (with_reducible refine Int.le_trans (Int.ofNat_le.2 (pushL_len _ _)) ?_; simp only [List.length_dropLast]; omega) | exact ls_at (by assumption) (by omega) | exact pt_gd (by assumption) | exact lv_at (by assumption) (by omega) | exact pt_gd (lv_at (by assumption) (by omega)) | exact (ask_ok (by assumption)).1 | exact (ask_ok (by assumption)).2.1 | exact (ask_ok (by assumption)).2.2.1 | exact (ask_ok (by assumption)).2.2.2 | (simp only [marks_len]; omega) | (simp only [marksR_len]; omega) | exact lns_at (by assumption) (by omega) | exact bgs_at (by assumption) (by omega) | trivial) : p := h
theorem toProofn_ok (p : Prf) (hx : (p.nu.length : Int) ≤ 1048576) (hy : (p.wo.length : Int) ≤ 1048576) (hys : ∀ x ∈ p.wo,(x.length : Int) ≤ 1048576) : Does Tryz.prog 136 [.agg (prC p)] [] (.agg [int p.k,.gv 0,.gv 1]) [roI p.nu,roWn p.wo] := by
  refine does_of (k := 0) Tryz.func136 rfl Tryz.ntmps136 rfl rfl fun w F0 S0 ρ0 => ?_
  dsimp only [argT,argH]
  repeat' first|(apply n3;exact a_new (gb := .bx _) rfl;exact rfl;refine dA ?_)|(apply p3;exact puL;exact rfl)|refine cd ?_|(apply w3;(exact a_st_bx rfl rfl rfl rfl (fN rfl rfl) (Nat.le_of_ble_eq_true rfl) rfl);exact rfl;refine dS ?_)|(apply c4 1;exact callK1 (θ := []) (hD := (toInt64S_ok _ preD8));exact rfl;exact rfl;exact rfl;refine dM ?_)|(apply c4 1;exact callK1 (θ := []) (hD := (toInt64SSn_ok _ preD8 preD8));exact rfl;exact rfl;exact rfl;refine dM ?_)|fail
  repeat refine cr ?_
  refine ends_id ?_
  refine endK [?_,?_] (h2 := ?_) (h3 := ?_) (nd := ?_)
  rotate_left 2
  all_goals (repeat' first|exact ce0|refine ce ?_|refine ce2 ?_ ?_|exact SVLe.refl|refine ceb ?_)
  all_goals first | exact (show nodupB _ = true from rfl) | exact Or.inr rfl | (rfl)
theorem toVerdictn_ok (v : Verd) (g : BigOk v) : Does Tryz.prog 64 [.agg (veC v)] [] (.agg [int v.m.sy,int v.m.st,.gv 0,int v.p.k,.gv 1,.gv 2]) [.row 3 (rows eR v.m.ru),roI v.p.nu,roWn v.p.wo] := by
  obtain ⟨g1,g2,g3,g4⟩ := g
  refine does_of (k := 0) Tryz.func64 rfl Tryz.ntmps64 rfl rfl fun w F0 S0 ρ0 => ?_
  dsimp only [argT,argH]
  repeat' first|(apply n3;exact a_new (gb := .bx _) rfl;exact rfl;refine dA ?_)|(apply p3;(exact puL);exact rfl)|refine cd ?_|(apply w3;(exact a_st_bx rfl rfl rfl rfl (fN rfl rfl) (Nat.le_of_ble_eq_true rfl) rfl);exact rfl;refine dS ?_)|(apply c4 1;exact callK1 (θ := []) (hD := (toMachine_ok _ preD8));exact rfl;exact rfl;exact rfl;refine dM ?_)|(apply c4 2;exact callK1 (θ := []) (hD := (toProofn_ok _ preD8 preD8 preD8));exact rfl;exact rfl;exact rfl;refine dM ?_)|fail
  repeat refine cr ?_
  refine ends_id ?_
  refine endK [?_,?_,?_] (h2 := ?_) (h3 := ?_) (nd := ?_)
  rotate_left 3
  all_goals (repeat' first|exact ce0|refine ce ?_|refine ce2 ?_ ?_|(refine Or.inr (bx_eq rfl rfl ?_);(try dsimp only [C.ren,C.ren.all]);(try exact rfl))|exact SVLe.refl|refine ceb ?_)
  all_goals first | exact (show nodupB _ = true from rfl) | exact Or.inr rfl | (rfl)
theorem toVerdictSn_ok (xs : List Verd) (g : BgsOk xs) : Does Tryz.prog 17 [.one (shV xs)] [] (.one (.gv 0)) [roVn xs] := by
  have hx := g.n
  refine does_of (k := 0) Tryz.func17 rfl Tryz.ntmps17 rfl rfl fun w F0 S0 ρ0 => ?_
  dsimp only [argT,argH]
  repeat' first|(apply n3;exact a_make (fE rfl) (fZ rfl) (fP rfl) (by decide) rfl rfl (by omega) rfl (by omega) (by omega) (rows_rep eVo none _);exact rfl;refine dA ?_)|(apply p3;(first|exact pu1|exact puN);exact rfl)|refine cd ?_|fail
  first | refine g_conv (t_nilR (i := 0) (E' := eVn) verd0 rfl (by repeat (first | exact trivial | exact nilOwn (by decide) | exact (fun _ _ _ _ h => h) | refine And.intro ?_ ?_))) ?_ | refine o_conv (t_nilR (i := 0) (E' := eVn) verd0 rfl (by repeat (first | exact trivial | exact nilOwn (by decide) | exact (fun _ _ _ _ h => h) | refine And.intro ?_ ?_))) ?_
  refine g_loop_id ?_
  refine loopK [0,2,3] [0] (fun x : Int × List Verd => 0 ≤ x.1 ∧ x.1 ≤ xs.length ∧ x.2.length = xs.length ∧ ∀ k (h : k < xs.length),k < x.1 → x.2[k]? = some xs[k]) (fun x => [(4,.one (int x.1))]) (fun x => [(0,roVn x.2)]) (fun x => (xs.length - x.1).toNat) ((0 : Int),List.replicate xs.length verd0) [0] (hI := ?_) (hr := ?_)
  · exact ⟨by simp,by simp,by simp,by intro k h h'; simp at h'; omega⟩
  · rintro ⟨i,l⟩ ⟨h0,h1,h2,h3⟩
    dsimp only [List.cons_append,List.nil_append] at *
    skip
    repeat' first|(apply p3;(first|exact pu1|exact puN|exact puC);exact rfl)|refine cdn ?_|refine g_reg (id := 3) ?_|refine g_reg (id := 6) ?_|((refine g_cond rfl (fun hc => ?_) (fun hc => ?_)) <;> (try simp only [dcB] at hc) <;> (try first|contradiction|(exfalso;omega)))|fail
    · first | refine g_conv (t_qE (i := 0) (i.toNat) bnd rfl) ?_ | refine o_conv (t_qE (i := 0) (i.toNat) bnd rfl) ?_
      try dsimp only [List.map_cons,List.map_nil,List.set_cons_zero,List.set_cons_succ,List.length_cons,List.length_nil,List.cons_append,List.nil_append,Nat.reduceAdd,setRow]
      repeat' first|(apply p3;(first|exact pu1|exact puX|exact puI);exact rfl)|refine cdn ?_|refine g_reg (id := 5) ?_|(apply w3;(exact a_stQE 0 rfl rfl rfl rfl (fN rfl rfl) (Nat.le_of_ble_eq_true rfl) (Nat.le_of_ble_eq_true rfl) rfl bnd bnd);exact rfl;refine dS ?_)|(apply c4 3;exact callK1 (θ := []) (hD := (toVerdictn_ok _ preD8));exact rfl;exact rfl;exact rfl;refine dM ?_)|fail
      first | refine g_conv (t_close1 (i := 0) (j := 1) (k := 2) (m := 0) rfl rfl rfl rfl rfl) ?_ | refine o_conv (t_close1 (i := 0) (j := 1) (k := 2) (m := 0) rfl rfl rfl rfl rfl) ?_
      try dsimp only [List.map_cons,List.map_nil,List.set_cons_zero,List.set_cons_succ,List.length_cons,List.length_nil,List.cons_append,List.nil_append,Nat.reduceAdd,setRow]
      first | refine g_conv (t_close1 (i := 0) (j := 2) (k := 4) (m := 1) rfl rfl rfl rfl rfl) ?_ | refine o_conv (t_close1 (i := 0) (j := 2) (k := 4) (m := 1) rfl rfl rfl rfl rfl) ?_
      try dsimp only [List.map_cons,List.map_nil,List.set_cons_zero,List.set_cons_succ,List.length_cons,List.length_nil,List.cons_append,List.nil_append,Nat.reduceAdd,setRow]
      first | refine g_conv (t_close1 (i := 0) (j := 3) (k := 5) (m := 2) rfl rfl rfl rfl rfl) ?_ | refine o_conv (t_close1 (i := 0) (j := 3) (k := 5) (m := 2) rfl rfl rfl rfl rfl) ?_
      try dsimp only [List.map_cons,List.map_nil,List.set_cons_zero,List.set_cons_succ,List.length_cons,List.length_nil,List.cons_append,List.nil_append,Nat.reduceAdd,setRow]
      first | refine g_conv (t_uE (i := 0) (xs[i.toNat]'(by omega)) bnd rfl rfl) ?_ | refine o_conv (t_uE (i := 0) (xs[i.toNat]'(by omega)) bnd rfl rfl) ?_
      repeat' first|(apply p3;(first|exact pu1|exact a_add rfl rfl (by omega) (by omega));exact rfl)|refine cd ?_|fail
      refine q_again (i + 1,l.set i.toNat (xs[i.toNat]'(by omega))) [0] (by exact stk) ?_ ?_
      · refine ⟨by dsimp only; omega,by dsimp only; omega,by simp [h2],fun k h h' => ?_⟩
        dsimp only at h' ⊢
        rw [List.getElem?_set]
        split
        · rename_i e
          subst e
          rw [if_pos (by omega)]
        · exact h3 k h (by omega)
      · dsimp only; omega
    · have hl : l = xs := by
        apply List.ext_getElem?
        intro k
        by_cases hk : k < xs.length
        · rw [h3 k hk (by omega),List.getElem?_eq_getElem hk]
        · rw [List.getElem?_eq_none (by omega),List.getElem?_eq_none (by omega)]
      subst hl
      skip
      repeat refine cr ?_
      refine ends_id ?_
      refine endK [?_] (h2 := ?_) (h3 := ?_) (nd := ?_)
      rotate_left 1
      all_goals (repeat' first|exact ce0|refine ce ?_|refine ce2 ?_ ?_|exact SVLe.refl|refine ceb ?_)
      all_goals first | exact (show nodupB _ = true from rfl) | exact Or.inr rfl | (rfl)
@[irreducible] def szv (v : Verd) : Int := 3 + 3 * v.m.ru.length + v.p.nu.length + totW v.p.wo
@[irreducible] def mkv (k : Int) (v : Verd) : Verd := ⟨⟨k,k + 1,marksR (k + 1 + 1) v.m.ru.length⟩,⟨k + 1 + 1 + 3 * v.m.ru.length,marks (k + 1 + 1 + 3 * v.m.ru.length + 1) v.p.nu.length,mksW (k + 1 + 1 + 3 * v.m.ru.length + 1 + v.p.nu.length) v.p.wo⟩⟩
@[irreducible] def totV (xs : List Verd) : Int := totL szv xs
@[irreducible] def mksV (k : Int) (xs : List Verd) : List Verd := mkL szv mkv k xs
theorem totW_bd {xs : List (List Int)} (b : Int) (h : ∀ x ∈ xs,(x.length : Int) ≤ b) : 0 ≤ totW xs ∧ totW xs ≤ xs.length * b := by
  unfold totW
  exact totL_bd szw b fun x hx => ⟨by unfold szw; omega,h x hx⟩
theorem szv_bd {v : Verd} (g : BigOk v) : 0 ≤ szv v ∧ szv v ≤ 1099517000000 := by
  obtain ⟨g1,g2,g3,g4⟩ := g
  have h := totW_bd 1048576 g4
  unfold szv
  omega
theorem totV_bd {xs : List Verd} (g : ∀ v ∈ xs,BigOk v) : 0 ≤ totL szv xs ∧ totL szv xs ≤ xs.length * 1099517000000 := totL_bd szv _ fun v hv => szv_bd (g v hv)
theorem markVerdictSn_ok (xs : List Verd) (k : Int) (g : BgsOk xs) (h1 : 0 ≤ k) (h2 : k ≤ 1152921504606846976) : Does Tryz.prog 20 [.one (.gv 0),.one (int k)] [roVn xs] (.one (int (k + totV xs))) [roVn (mksV k xs)] := by
  have hx := g.n
  refine does_of (k := 1) Tryz.func20 rfl Tryz.ntmps20 rfl rfl fun w F0 S0 ρ0 => ?_
  dsimp only [argT,argH]
  repeat' first|(apply p3;(exact pu1);exact rfl)|refine cd ?_|fail
  refine g_loop_id ?_
  refine loopK [0,4] [0] (fun y : Int × Int × List Verd => 0 ≤ y.1 ∧ y.1 ≤ xs.length ∧ y.2.1 = k + totL szv (xs.take y.1.toNat) ∧ y.2.2 = mkT szv mkv k xs y.1.toNat) (fun y => [(5,.one (int y.1)),(1,.one (int y.2.1))]) (fun y => [(0,roVn y.2.2)]) (fun y => (xs.length - y.1).toNat) ((0 : Int),k,xs) [0] (hI := ?_) (hr := ?_)
  · exact ⟨by simp,by simp,by simp [totL],(mkT_0 _ _ _ _).symm⟩
  · rintro ⟨i,k',l⟩ ⟨k1,k2,k3,k4⟩
    dsimp only [List.cons_append,List.nil_append] at *
    skip
    repeat' first|(apply p3;(first|exact pu1|exact puN|exact puC);exact rfl)|refine cdn ?_|refine g_reg (id := 2) ?_|refine g_reg (id := 13) ?_|((refine g_cond rfl (fun hc => ?_) (fun hc => ?_)) <;> (try simp only [dcB] at hc) <;> (try first|contradiction|(exfalso;omega)))|fail
    · have hl := mkT_len szv mkv k xs i.toNat (by omega)
      rw [← k4] at hl
      have hi : i.toNat < xs.length := by omega
      have hg : l[i.toNat]'(by omega) = xs[i.toNat] := by subst k4; exact mkT_get _ _ _ _ _ hi _
      have hb := totV_bd (xs := xs.take i.toNat) (fun x hx => g.a x (List.mem_of_mem_take hx))
      have hv := bgs_at g hi
      obtain ⟨v1,v2,v3,v4⟩ := hv
      have hw := totW_bd 1048576 v4
      have v5 : ∀ x ∈ xs[i.toNat].p.wo,(x.length : Int) ≤ 4611686018427 := fun x hx => by have := v4 x hx; omega
      have hn := totL_next szv k1 (xs := xs) hi
      have hs : szv xs[i.toNat] = 3 + 3 * xs[i.toNat].m.ru.length + xs[i.toNat].p.nu.length + totW xs[i.toNat].p.wo := by unfold szv; rfl
      have hlt : (xs.take i.toNat).length ≤ 1048576 := by rw [List.length_take]; omega
      first | refine g_conv (t_qE (i := 0) (i.toNat) bnd rfl) ?_ | refine o_conv (t_qE (i := 0) (i.toNat) bnd rfl) ?_
      try dsimp only [List.map_cons,List.map_nil,List.set_cons_zero,List.set_cons_succ,List.length_cons,List.length_nil,List.cons_append,List.nil_append,Nat.reduceAdd,setRow]
      first | refine g_conv (t_open1 (i := 0) (k := 2) rfl rfl rfl) ?_ | refine o_conv (t_open1 (i := 0) (k := 2) rfl rfl rfl) ?_
      try dsimp only [List.map_cons,List.map_nil,List.set_cons_zero,List.set_cons_succ,List.length_cons,List.length_nil,List.cons_append,List.nil_append,Nat.reduceAdd,setRow]
      first | refine g_conv (t_open1 (i := 0) (k := 4) rfl rfl rfl) ?_ | refine o_conv (t_open1 (i := 0) (k := 4) rfl rfl rfl) ?_
      try dsimp only [List.map_cons,List.map_nil,List.set_cons_zero,List.set_cons_succ,List.length_cons,List.length_nil,List.cons_append,List.nil_append,Nat.reduceAdd,setRow]
      first | refine g_conv (t_open1 (i := 0) (k := 5) rfl rfl rfl) ?_ | refine o_conv (t_open1 (i := 0) (k := 5) rfl rfl rfl) ?_
      try dsimp only [List.map_cons,List.map_nil,List.set_cons_zero,List.set_cons_succ,List.length_cons,List.length_nil,List.cons_append,List.nil_append,Nat.reduceAdd,setRow]
      simp only [hg]
      generalize hxv : xs[i.toNat] = v at *
      have hmk : mkv k' v = ⟨⟨k',k' + 1,marksR (k' + 1 + 1) v.m.ru.length⟩,⟨k' + 1 + 1 + 3 * v.m.ru.length,marks (k' + 1 + 1 + 3 * v.m.ru.length + 1) v.p.nu.length,mksW (k' + 1 + 1 + 3 * v.m.ru.length + 1 + v.p.nu.length) v.p.wo⟩⟩ := by unfold mkv; rfl
      repeat' first|(apply p3;(first|exact pu1|exact puX|exact a_add rfl rfl (by omega) (by omega)|exact puQ);exact rfl)|refine cdn ?_|refine g_reg (id := 4) ?_|refine g_reg (id := 5) ?_|refine g_reg (id := 6) ?_|refine g_reg (id := 7) ?_|refine g_reg (id := 8) ?_|refine g_reg (id := 9) ?_|refine g_reg (id := 10) ?_|refine g_reg (id := 11) ?_|refine g_reg (id := 12) ?_|(apply w3;(first|exact a_stQE 0 rfl rfl rfl rfl (fN rfl rfl) (Nat.le_of_ble_eq_true rfl) (Nat.le_of_ble_eq_true rfl) rfl bnd bnd|exact a_stQE 1 rfl rfl rfl rfl (fN rfl rfl) (Nat.le_of_ble_eq_true rfl) (Nat.le_of_ble_eq_true rfl) rfl bnd bnd|exact a_stQE 3 rfl rfl rfl rfl (fN rfl rfl) (Nat.le_of_ble_eq_true rfl) (Nat.le_of_ble_eq_true rfl) rfl bnd bnd);exact rfl;refine dS ?_)|(apply c4 0;exact callK1 (θ := [_]) (hD := (markRuleS_ok _ _ preD8 preD8 preD8));exact rfl;exact rfl;exact rfl;refine dM ?_)|(apply c4 0;exact callK1 (θ := [_]) (hD := (markInt64S_ok _ _ preD8 preD8 preD8));exact rfl;exact rfl;exact rfl;refine dM ?_)|(apply c4 0;exact callK1 (θ := [_]) (hD := (markInt64SSn_ok _ _ preD8 preD8 preD8 preD8));exact rfl;exact rfl;exact rfl;refine dM ?_)|fail
      first | refine g_conv (t_close1 (i := 0) (j := 1) (k := 2) (m := 0) rfl rfl rfl rfl rfl) ?_ | refine o_conv (t_close1 (i := 0) (j := 1) (k := 2) (m := 0) rfl rfl rfl rfl rfl) ?_
      try dsimp only [List.map_cons,List.map_nil,List.set_cons_zero,List.set_cons_succ,List.length_cons,List.length_nil,List.cons_append,List.nil_append,Nat.reduceAdd,setRow]
      first | refine g_conv (t_close1 (i := 0) (j := 2) (k := 4) (m := 1) rfl rfl rfl rfl rfl) ?_ | refine o_conv (t_close1 (i := 0) (j := 2) (k := 4) (m := 1) rfl rfl rfl rfl rfl) ?_
      try dsimp only [List.map_cons,List.map_nil,List.set_cons_zero,List.set_cons_succ,List.length_cons,List.length_nil,List.cons_append,List.nil_append,Nat.reduceAdd,setRow]
      first | refine g_conv (t_close1 (i := 0) (j := 3) (k := 5) (m := 2) rfl rfl rfl rfl rfl) ?_ | refine o_conv (t_close1 (i := 0) (j := 3) (k := 5) (m := 2) rfl rfl rfl rfl rfl) ?_
      try dsimp only [List.map_cons,List.map_nil,List.set_cons_zero,List.set_cons_succ,List.length_cons,List.length_nil,List.cons_append,List.nil_append,Nat.reduceAdd,setRow]
      first | refine g_conv (t_uE (i := 0) (⟨⟨k',k' + 1,marksR (k' + 1 + 1) v.m.ru.length⟩,⟨k' + 1 + 1 + 3 * v.m.ru.length,marks (k' + 1 + 1 + 3 * v.m.ru.length + 1) v.p.nu.length,mksW (k' + 1 + 1 + 3 * v.m.ru.length + 1 + v.p.nu.length) v.p.wo⟩⟩ : Verd) bnd rfl rfl) ?_ | refine o_conv (t_uE (i := 0) (⟨⟨k',k' + 1,marksR (k' + 1 + 1) v.m.ru.length⟩,⟨k' + 1 + 1 + 3 * v.m.ru.length,marks (k' + 1 + 1 + 3 * v.m.ru.length + 1) v.p.nu.length,mksW (k' + 1 + 1 + 3 * v.m.ru.length + 1 + v.p.nu.length) v.p.wo⟩⟩ : Verd) bnd rfl rfl) ?_
      repeat' first|(apply p3;(first|exact pu1|exact a_add rfl rfl (by omega) (by omega));exact rfl)|refine cd ?_|fail
      refine q_again (i + 1,_,l.set i.toNat _) [0] (by exact stk) ?_ ?_
      · refine ⟨by dsimp only; omega,by dsimp only; omega,by dsimp only; omega,?_⟩
        dsimp only
        rw [show (i + 1).toNat = i.toNat + 1 by omega,← mkT_next szv mkv k xs i.toNat hi,← k3,← k4,hxv,hmk]
      · dsimp only; omega
    · have hl := mkT_len szv mkv k xs i.toNat (by omega)
      rw [← k4] at hl
      have hi : i.toNat = xs.length := by omega
      rw [hi,mkT_end] at k4
      rw [hi,List.take_length] at k3
      have e1 : totV xs = totL szv xs := by unfold totV; rfl
      have e2 : mksV k xs = mkL szv mkv k xs := by unfold mksV; rfl
      rw [e1,e2,← k3,← k4]
      skip
      repeat refine cr ?_
      refine ends_id ?_
      refine endK [] (h2 := ?_) (h3 := ?_) (nd := ?_)
      all_goals (repeat' first|exact ce0|refine ce ?_|refine ce2 ?_ ?_|(refine Or.inr (bx_eq rfl rfl ?_);(try dsimp only [C.ren,C.ren.all]);(try exact rfl))|exact SVLe.refl|refine ceb ?_)
      all_goals first | exact (show nodupB _ = true from rfl) | exact Or.inr rfl | (rfl)
end Go.Proofs.YtnkeamihfiobdaaGreatDoor
end
section
set_option linter.unusedVariables false
namespace Go.Proofs.YtnkeamihfiobdaaGreatDoor
open Go Foot
theorem bndQ {p : Prop} (h : p := by first | omega | (simp only [cnt,rows_len,List.length_cons,List.length_nil,Nat.mul_one,Nat.div_one]; omega)) : p := h
end Go.Proofs.YtnkeamihfiobdaaGreatDoor
end
section
set_option linter.unusedVariables false
set_option linter.unusedSimpArgs false
namespace Go.Proofs.YtnkeamihfiobdaaGreatDoor
open Go Foot
abbrev ltB (a b : Bs) : Bool := Op.bytesLess a b
section
variable {P : Program} {g : Gh} {st : St}
variable {dst : Option Tmp} {ty : TypeId} {pos : String} {after : Array Edge} {guard : Option (Nat × Bool)} {x y : Operand} {T U e : TypeId} {a b : Bs}
theorem a_ltT (e1 : opd st x = .one (str a)) (e2 : opd st y = .one (str b)) : Acts P g ⟨dst,.binOp .lss T x y U,ty,pos,after,guard⟩ st (.one (boo (ltB a b))) [] [] := by
  have := a_bin (P := P) (g := g) (dst := dst) (T := T) (U := U) (ty := ty) (pos := pos) (after := after) (guard := guard) (op := .lss) e1 e2 rfl trivial
  rwa [toL,toL] at this
theorem a_gtT (e1 : opd st x = .one (str a)) (e2 : opd st y = .one (str b)) : Acts P g ⟨dst,.binOp .gtr T x y U,ty,pos,after,guard⟩ st (.one (boo (!(ltB a b || decide (a = b))))) [] [] := by
  have := a_bin (P := P) (g := g) (dst := dst) (T := T) (U := U) (ty := ty) (pos := pos) (after := after) (guard := guard) (op := .gtr) e1 e2 rfl trivial
  rw [toL,toL] at this
  rwa [beq_dec] at this
end
theorem lt_irr : ∀ a : Bs,ltB a a = false
  | [] => rfl
  | x :: a => by
    have := lt_irr a
    simp only [ltB] at this
    simp [ltB,Op.bytesLess,this]
theorem lt_tri : ∀ a b : Bs,ltB a b = false → a ≠ b → ltB b a = true
  | [],[],_,h => absurd rfl h
  | [],y :: b,h,_ => by simp [ltB,Op.bytesLess] at h
  | x :: a,[],_,_ => rfl
  | x :: a,y :: b,h,hn => by
    have ih := lt_tri a b
    simp only [ltB,Op.bytesLess,Bool.or_eq_false_iff,Bool.and_eq_false_iff,decide_eq_false_iff_not,beq_eq_false_iff_ne,Bool.or_eq_true,Bool.and_eq_true,decide_eq_true_eq,beq_iff_eq] at *
    obtain ⟨h1,h2⟩ := h
    by_cases e : x = y
    · subst e
      exact .inr ⟨rfl,ih (h2.resolve_left (fun q => q rfl)) (fun q => hn (by rw [q]))⟩
    · refine .inl ?_
      have h3 : ¬ x.toNat < y.toNat := fun q => h1 (UInt8.lt_iff_toNat_lt.2 q)
      have h4 : x.toNat ≠ y.toNat := fun q => e (UInt8.toNat_inj.1 q)
      exact UInt8.lt_iff_toNat_lt.2 (by omega)
theorem lt_trans : ∀ a b c : Bs,ltB a b = true → ltB b c = true → ltB a c = true
  | _,[],_,h,_ => by cases ‹Bs› <;> simp [ltB,Op.bytesLess] at h
  | _,_ :: _,[],_,h => by simp [ltB,Op.bytesLess] at h
  | [],y :: b,z :: c,_,_ => rfl
  | x :: a,y :: b,z :: c,h1,h2 => by
    have ih := lt_trans a b c
    simp only [ltB,Op.bytesLess,Bool.or_eq_true,Bool.and_eq_true,decide_eq_true_eq,beq_iff_eq,UInt8.lt_iff_toNat_lt] at *
    rcases h1 with h1 | ⟨rfl,h1⟩
    · rcases h2 with h2 | ⟨rfl,h2⟩
      · exact .inl (by omega)
      · exact .inl h1
    · rcases h2 with h2 | ⟨rfl,h2⟩
      · exact .inl h2
      · exact .inr ⟨rfl,ih h1 h2⟩
end Go.Proofs.YtnkeamihfiobdaaGreatDoor
end
section
set_option linter.unusedVariables false
set_option linter.unusedSimpArgs false
set_option maxRecDepth 100000
set_option maxHeartbeats 4000000
namespace Go.Proofs.YtnkeamihfiobdaaGreatDoor
open Go Foot
theorem copyLists_ok (xs : List (List Int)) (hx : (xs.length : Int) ≤ 16777216) (hy : ∀ x ∈ xs,(x.length : Int) ≤ 16777216) : Does Tryz.prog 144 [.one (shW xs)] [] (.one (.gv 0)) [roWn xs] := by
  refine does_of (k := 0) Tryz.func144 rfl Tryz.ntmps144 rfl rfl fun w F0 S0 ρ0 => ?_
  dsimp only [argT,argH]
  repeat' first|(apply n3;exact a_nilO eWn rfl;exact rfl)|(apply n3;(exact a_litE eW [] rfl rfl rfl rfl rfl rfl rfl rfl);exact rfl;refine dA ?_)|(apply p3;(first|exact pu1|exact puN);exact rfl)|refine cd ?_|fail
  refine g_loop_id ?_
  refine loopK [2,7,8] [1] (fun y : Int × List (List Int) => 0 ≤ y.1 ∧ y.1 ≤ xs.length ∧ y.2 = xs.take y.1.toNat) (fun y => [(9,.one (int y.1)),(3,.one (.gv 1))]) (fun y => [(1,roWn y.2)]) (fun y => (xs.length - y.1).toNat) ((0 : Int),([] : List (List Int))) [0,1] (hI := ?_) (hr := ?_)
  · exact ⟨by simp,by simp,by simp⟩
  · rintro ⟨i,l⟩ ⟨h0,h1,h2⟩
    dsimp only [List.cons_append,List.nil_append] at *
    skip
    repeat' first|(apply p3;(first|exact pu1|exact puC|exact puI);exact rfl)|refine cdn ?_|refine g_reg (id := 3) ?_|refine g_reg (id := 4) ?_|refine g_reg (id := 7) ?_|((refine g_cond rfl (fun hc => ?_) (fun hc => ?_)) <;> (try simp only [dcB] at hc) <;> (try first|contradiction|(exfalso;omega)))|fail
    · have hi : i.toNat < xs.length := by omega
      have hc1 := hy _ (List.getElem_mem hi)
      have hll : l.length ≤ xs.length := by rw [h2,List.length_take]; omega
      repeat' first|(apply n3;exact (by exact a_litQ (fP rfl) (by decide) rfl (by decide) rfl rfl rfl);exact rfl;refine dA ?_)|(apply p3;(exact pu1);exact rfl)|refine cdn ?_|refine g_reg (id := 5) ?_|(apply s3;exact a_appQ (fP rfl) rfl rfl rfl rfl qno bndQ bndQ (by decide);exact rfl;exact rfl)|(apply c4 1;exact callK1 (θ := []) (hD := (clone_ok (xs[i.toNat]'hi) hc1));exact rfl;exact rfl;exact rfl;refine dM ?_)|fail
      first | refine g_conv (t_close1 (i := 4) (j := 2) (k := 0) (m := 0) rfl rfl rfl rfl rfl) ?_ | refine o_conv (t_close1 (i := 4) (j := 2) (k := 0) (m := 0) rfl rfl rfl rfl rfl) ?_
      try dsimp only [List.map_cons,List.map_nil,List.set_cons_zero,List.set_cons_succ,List.length_cons,List.length_nil,List.cons_append,List.nil_append,Nat.reduceAdd,setRow]
      first | refine g_conv (t_uA (i := 4) [xs[i.toNat]'hi] rfl rfl) ?_ | refine o_conv (t_uA (i := 4) [xs[i.toNat]'hi] rfl rfl) ?_
      repeat' first|(apply p3;(first|exact pu1|exact a_add rfl rfl (by omega) (by omega));exact rfl)|refine cd ?_|fail
      refine q_again (i + 1,l ++ [xs[i.toNat]'hi]) [0,4] (by exact stk) ?_ ?_
      · refine ⟨by dsimp only; omega,by dsimp only; omega,?_⟩
        dsimp only
        rw [h2,show (i + 1).toNat = i.toNat + 1 by omega,List.take_succ_eq_append_getElem hi]
      · dsimp only; omega
    · have e : l = xs := by rw [h2,List.take_of_length_le (by omega)]
      rw [← e]
      repeat refine cr ?_
      refine ends_id ?_
      refine endK [?_] (h2 := ?_) (h3 := ?_) (nd := ?_)
      rotate_left 1
      all_goals (repeat' first|exact ce0|refine ce ?_|refine ce2 ?_ ?_|exact SVLe.refl|refine ceb ?_)
      all_goals first | exact (show nodupB _ = true from rfl) | exact Or.inr rfl | (rfl)
theorem copyVerdict_ok (v : Verd) (g : VeGd v) : Does Tryz.prog 68 [.agg (veC v)] [] (.agg [int v.m.sy,int v.m.st,.gv 0,int v.p.k,.gv 1,.gv 2]) [.row 3 (rows eR v.m.ru),roI v.p.nu,roWn v.p.wo] := by
  obtain ⟨g1,g2,g3,g4⟩ := g
  refine does_of (k := 0) Tryz.func68 rfl Tryz.ntmps68 rfl rfl fun w F0 S0 ρ0 => ?_
  dsimp only [argT,argH]
  repeat' first|(apply n3;exact a_new (gb := .bx _) rfl;exact rfl;refine dA ?_)|refine cdn ?_|refine g_reg (id := 0) ?_|(apply g_drN (id := 1) okM [[],[0],[0,1],[],[3],[3,4],[3,4,5],[0,1,2,3,4,5,6],[],[0,1,2,3,4,5,6,7,8]] [([],[]),([],[]),([],[]),([],[]),([],[]),([],[]),([0],[]),([],[]),([1],[]),([],[3])] 2;(focus (refine dp 0 0 [7,8,9,10,3] [(true,0),(true,1)] (by exact a_pure (sv := .one _) rfl) ?_;refine dp 1 1 [7,8,9,10,3] [(true,0),(true,1)] (a_pure (sv := .one _) rfl) ?_;refine dp 2 3 [7,8,9,10,3] [(true,0),(true,1)] puL ?_;refine dp 3 0 [4,5,6,3] [(true,1)] (by exact a_pure (sv := .one _) rfl) ?_;refine dp 4 1 [4,5,6,3] [(true,1)] (a_pure (sv := .one _) rfl) ?_;refine dp 5 3 [4,5,6,3] [(true,1)] puL ?_;refine duN 6 7 [4,5,6,3] [(true,1)] (callD1 (n := _) 0 (θ := []) (hD := (clone_ok v.p.nu g2))) (by exact rfl) (by exact rfl) ?_;refine dp 7 127 [3] [(true,1)] (a_pure (sv := .agg _) rfl) ?_;refine duE 8 0 [4,5,6,7,8,9,10,11] [(true,0)] (atN 1 (fun _ => a_new (gb := .bx _) rfl)) (by exact rfl) (by exact rfl) ?_;refine duE 9 511 [] [] (a_st_bx rfl rfl rfl rfl (fN rfl rfl) (Nat.le_of_ble_eq_true rfl) rfl) (by exact rfl) (by exact rfl) ?_;(refine d_nil ?_;refine dN ?_)));any_goals kernel_rfl)|fail
  simp only [setRow,List.map_cons,List.map_nil,scC,List.set_cons_zero,List.set_cons_succ,Nat.zero_add,List.getElem?_cons_zero,List.getElem?_cons_succ,List.take_succ_cons,List.take_zero,List.drop_zero]
  refine g_conv (t_nilB (i := 3) (k := 2) (z := 1) rfl rfl rfl (by decide)) ?_
  try dsimp only [setRow,List.map_cons,List.map_nil,scC,List.set_cons_zero,List.set_cons_succ,Nat.reduceAdd]
  repeat' first|(apply p3;(first|exact puN|exact puC|exact puL);exact rfl)|refine cd ?_|fail
  refine cutK [1,2,3] [4] (fun y : List (List Int) => y = v.p.wo) (fun _ => []) (fun y => [(4,roWn y)]) (hc := ?_) (hk := ?_)
  · repeat' first|(apply p3;(exact puL);exact rfl)|refine cd ?_|(apply w3;exact a_st_bx rfl rfl rfl rfl (fN rfl rfl) (Nat.le_of_ble_eq_true rfl) rfl;exact rfl;refine dS ?_)|(apply c4 1;exact callK1 (θ := []) (hD := (copyLists_ok v.p.wo g3 g4));exact rfl;exact rfl;exact rfl;refine dM ?_)|((refine g_cond rfl (fun hc => ?_) (fun hc => ?_)) <;> (try simp only [dcB] at hc) <;> (try first|contradiction|(exfalso;omega)))|fail
    · refine q_here v.p.wo [0,1,2,3,5] (by exact stk) ?_
      rfl
    · refine q_here [] [0,1,2,3,4] (by exact stk) ?_
      exact (List.eq_nil_of_length_eq_zero (by omega)).symm
  rintro _ rfl
  dsimp only [List.cons_append,List.nil_append] at *
  skip
  repeat' first|refine cd ?_|(apply g_drN (id := 4) okM [[],[0],[0,1],[],[0,1,2,3],[0,1,2,3,4]] [([],[]),([],[]),([0],[]),([],[]),([],[]),([],[1])] 1;(focus (refine dp 0 0 [25] [] (by exact a_pure (sv := .one _) rfl) ?_;refine dp 1 1 [25] [] puL ?_;refine duN 2 3 [25] [] (callD1 (n := _) 0 (θ := []) (hD := (copyMachine_ok v.m g1))) (by exact rfl) (by exact rfl) ?_;refine dp 3 0 [22,23,24] [(true,0)] puL ?_;refine dp 4 15 [] [] (a_pure (sv := .agg _) rfl) ?_;refine duE 5 31 [] [] (by exact a_st_bx rfl rfl rfl rfl (fN rfl rfl) (Nat.le_of_ble_eq_true rfl) rfl) (by exact rfl) (by exact rfl) ?_;(refine d_nil ?_;refine dN ?_)));any_goals kernel_rfl)|fail
  repeat refine cr ?_
  refine ends_id ?_
  refine endK [?_,?_,?_] (h2 := ?_) (h3 := ?_) (nd := ?_)
  rotate_left 3
  all_goals (repeat' first|exact ce0|refine ce ?_|refine ce2 ?_ ?_|(refine Or.inr (bx_eq rfl rfl ?_);(try dsimp only [C.ren,C.ren.all]);(try exact rfl))|exact SVLe.refl|refine ceb ?_)
  all_goals first | exact (show nodupB _ = true from rfl) | exact Or.inr rfl | (rfl)
theorem isNaNS_ok (s : Bs) : Does Tryz.prog 148 [.one (str s)] [] (.one (boo false)) [] := by
  refine does_of (k := 0) Tryz.func148 rfl Tryz.ntmps148 rfl rfl fun w F0 S0 ρ0 => ?_
  dsimp only [argT,argH]
  repeat' first|(apply p3;(first|exact pu1|exact a_neT rfl rfl);exact rfl)|refine cd ?_|fail
  repeat refine cr ?_
  refine ends_id ?_
  refine endK [] (h2 := ?_) (h3 := ?_) (nd := ?_)
  all_goals (repeat' first|exact ce0|refine ce ?_|refine ce2 ?_ ?_|exact SVLe.refl|refine ceb ?_)
  all_goals first | exact (show nodupB _ = true from rfl) | exact Or.inr rfl | ((simp))
@[irreducible] def cmpS (a b : Bs) : Int := if ltB a b = true then -1 else if a = b then 0 else 1
theorem CompareS_ok (a b : Bs) : Does Tryz.prog 72 [.one (str a),.one (str b)] [] (.one (int (cmpS a b))) [] := by
  refine does_of (k := 0) Tryz.func72 rfl Tryz.ntmps72 rfl rfl fun w F0 S0 ρ0 => ?_
  dsimp only [argT,argH]
  repeat' first|(apply p3;(first|exact pu1|exact a_ltT rfl rfl|exact a_gtT rfl rfl);exact rfl)|refine cd ?_|(apply c4 0;exact callK1 (θ := []) (hD := (isNaNS_ok a));exact rfl;exact rfl;exact rfl;refine dM ?_)|(apply c4 0;exact callK1 (θ := []) (hD := (isNaNS_ok b));exact rfl;exact rfl;exact rfl;refine dM ?_)|((refine g_cond rfl (fun hc => ?_) (fun hc => ?_)) <;> (try simp only [dcB] at hc) <;> (try first|contradiction|(exfalso;omega)))|fail
  · repeat refine cr ?_
    refine ends_id ?_
    refine endK [] (h2 := ?_) (h3 := ?_) (nd := ?_)
    all_goals (repeat' first|exact ce0|refine ce ?_|refine ce2 ?_ ?_|exact SVLe.refl|refine ceb ?_)
    all_goals first | exact (show nodupB _ = true from rfl) | exact Or.inr rfl | ((unfold cmpS; simp [hc]))
  · repeat refine cr ?_
    refine ends_id ?_
    refine endK [] (h2 := ?_) (h3 := ?_) (nd := ?_)
    all_goals (repeat' first|exact ce0|refine ce ?_|refine ce2 ?_ ?_|exact SVLe.refl|refine ceb ?_)
    all_goals first | exact (show nodupB _ = true from rfl) | exact Or.inr rfl | ((unfold cmpS; simp [hc]))
  · repeat refine cr ?_
    refine ends_id ?_
    refine endK [] (h2 := ?_) (h3 := ?_) (nd := ?_)
    all_goals (repeat' first|exact ce0|refine ce ?_|refine ce2 ?_ ?_|exact SVLe.refl|refine ceb ?_)
    all_goals first | exact (show nodupB _ = true from rfl) | exact Or.inr rfl | ((unfold cmpS; simp_all))
end Go.Proofs.YtnkeamihfiobdaaGreatDoor
end
section
set_option linter.unusedVariables false
set_option linter.unusedSimpArgs false
set_option maxRecDepth 100000
set_option maxHeartbeats 4000000
namespace Go.Proofs.YtnkeamihfiobdaaGreatDoor
open Go Foot
theorem join_cons2 (a b : Bs) (l : List Bs) (sep : Bs) : joinT (a :: b :: l) sep = a ++ (sep ++ joinT (b :: l) sep) := by
  unfold joinT
  simp [Lib.join]
theorem join_one (a sep : Bs) : joinT [a] sep = a := by
  unfold joinT
  simp [Lib.join]
end Go.Proofs.YtnkeamihfiobdaaGreatDoor
end
section
set_option linter.unusedVariables false
set_option linter.unusedSimpArgs false
set_option maxRecDepth 100000
set_option maxHeartbeats 4000000
namespace Go.Proofs.YtnkeamihfiobdaaGreatDoor
open Go Foot Go.RowKit
theorem join_injQ {c : UInt8} : ∀ {l m : List Bs},l ≠ [] → m ≠ [] → (∀ p ∈ l,c ∉ p) → (∀ p ∈ m,c ∉ p) → joinT l [c] = joinT m [c] → l = m
  | [],_,h,_,_,_,_ => absurd rfl h
  | _,[],_,h,_,_,_ => absurd rfl h
  | [a],[b],_,_,_,_,h => by rw [join_one,join_one] at h; rw [h]
  | [a],b :: b2 :: m,_,_,ha,_,h => by
    rw [join_one,join_cons2] at h
    exact absurd (by rw [h]; simp) (ha a (by simp))
  | a :: a2 :: l,[b],_,_,_,hb,h => by
    rw [join_one,join_cons2] at h
    exact absurd (by rw [← h]; simp) (hb b (by simp))
  | a :: a2 :: l,b :: b2 :: m,_,_,ha,hb,h => by
    rw [join_cons2,join_cons2,List.singleton_append,List.singleton_append] at h
    obtain ⟨e1,e2⟩ := split_at h (ha a (by simp)) (hb b (by simp))
    rw [e1,join_injQ (l := a2 :: l) (m := b2 :: m) (by simp) (by simp) (fun p hp => ha p (by simp at hp ⊢; exact .inr hp)) (fun p hp => hb p (by simp at hp ⊢; exact .inr hp)) e2]
theorem join_memQ {c x : UInt8} : ∀ {l : List Bs},x ∈ joinT l [c] → x = c ∨ ∃ p ∈ l,x ∈ p
  | [],h => by unfold joinT at h; simp [Lib.join] at h
  | [a],h => by rw [join_one] at h; exact .inr ⟨a,by simp,h⟩
  | a :: b :: l,h => by
    rw [join_cons2,List.mem_append,List.mem_append] at h
    rcases h with h | h | h
    · exact .inr ⟨a,by simp,h⟩
    · exact .inl (by simpa using h)
    · rcases join_memQ h with h | ⟨p,hp,h⟩
      · exact .inl h
      · exact .inr ⟨p,by simp only [List.mem_cons] at hp ⊢; exact .inr hp,h⟩
theorem chs_flatQ {α : Type} {n : Nat} (hn : n ≠ 0) : ∀ (k : Nat) (l : List α),l.length ≤ k → (chs n l).flatten = l
  | 0,l,h => by
    have : l = [] := List.length_eq_zero_iff.1 (by omega)
    subst this
    rw [chs_0 n rfl]; rfl
  | k + 1,l,h => by
    by_cases h0 : l.length = 0
    · have : l = [] := List.length_eq_zero_iff.1 h0
      subst this
      rw [chs_0 n rfl]; rfl
    · rw [chs_s hn h0,List.flatten_cons,chs_flatQ hn k (l.drop n) (by rw [List.length_drop]; omega),List.take_append_drop]
theorem chs_lenQ {α : Type} {n : Nat} (hn : n ≠ 0) : ∀ (k : Nat) (l : List α),l.length = n * k → (chs n l).length = k ∧ ∀ x ∈ chs n l,x.length = n
  | 0,l,h => by
    rw [chs_0 n (by simpa using h)]
    exact ⟨rfl,by simp⟩
  | k + 1,l,h => by
    have hz : n * (k + 1) = n * k + n := Nat.mul_succ n k
    rw [chs_s hn (by omega)]
    obtain ⟨i1,i2⟩ := chs_lenQ hn k (l.drop n) (by rw [List.length_drop]; omega)
    refine ⟨by rw [List.length_cons,i1],fun x hx => ?_⟩
    rcases List.mem_cons.1 hx with rfl | hx
    · rw [List.length_take]; omega
    · exact i2 x hx
theorem rule_way {r : Rule'} {sy st : Int} (h : okRule sy st r = true) : r = ⟨0,0,-1⟩ ∨ (0 ≤ r.w ∧ 0 ≤ r.n ∧ (r.m = 1 ∨ r.m = -1)) := by
  unfold okRule at h
  rw [decide_eq_true_eq] at h
  rcases h with h | ⟨hw,hm,hn⟩
  · exact .inl h
  · exact .inr ⟨by omega,by omega,by omega⟩
theorem rul_texts {r : Rule'} (hr : r = ⟨0,0,-1⟩ ∨ (0 ≤ r.w ∧ 0 ≤ r.n ∧ (r.m = 1 ∨ r.m = -1))) : (r = ⟨0,0,-1⟩ ∧ rulT r = [45,45,45]) ∨ (0 ≤ r.w ∧ 0 ≤ r.n ∧ ((r.m = 1 ∧ rulT r = decT r.w ++ 82 :: decT r.n) ∨ (r.m = -1 ∧ rulT r = decT r.w ++ 76 :: decT r.n))) := by
  by_cases h0 : r = ⟨0,0,-1⟩
  · exact .inl ⟨h0,by unfold rulT; rw [if_pos h0]⟩
  · obtain ⟨h1,h2,h3⟩ := hr.resolve_left h0
    refine .inr ⟨h1,h2,?_⟩
    rcases h3 with h3 | h3
    · exact .inl ⟨h3,by unfold rulT; rw [if_neg h0,if_neg (by omega)]; simp⟩
    · exact .inr ⟨h3,by unfold rulT; rw [if_neg h0,if_pos (by omega)]; simp⟩
theorem dg_notQ {x : UInt8} (h : isDg x) (h1 : x = 45 ∨ x = 76 ∨ x = 82 ∨ x = 44 ∨ x = 59) : False := by
  unfold isDg at h
  rcases h1 with rfl | rfl | rfl | rfl | rfl <;> revert h <;> decide
theorem dec_noQ {n : Int} (h : 0 ≤ n) {x : UInt8} (h1 : x = 45 ∨ x = 76 ∨ x = 82 ∨ x = 44 ∨ x = 59) : x ∉ decT n := fun hx => dg_notQ (decT_dg h x hx) h1
theorem rul_injQ {r q : Rule'} (hr : r = ⟨0,0,-1⟩ ∨ (0 ≤ r.w ∧ 0 ≤ r.n ∧ (r.m = 1 ∨ r.m = -1))) (hq : q = ⟨0,0,-1⟩ ∨ (0 ≤ q.w ∧ 0 ≤ q.n ∧ (q.m = 1 ∨ q.m = -1))) (h : rulT r = rulT q) : r = q := by
  have mem : ∀ {a b : Int} {c x : UInt8} {t : Bs},0 ≤ a → 0 ≤ b → decT a ++ c :: decT b = t → x ∈ t → isDg x ∨ x = c := by
    intro a b c x t ha hb e hx
    rw [← e,List.mem_append,List.mem_cons] at hx
    rcases hx with hx | hx | hx
    · exact .inl (decT_dg ha x hx)
    · exact .inr hx
    · exact .inl (decT_dg hb x hx)
  rcases rul_texts hr with ⟨e1,t1⟩ | ⟨r1,r2,r3⟩ <;> rcases rul_texts hq with ⟨e2,t2⟩ | ⟨q1,q2,q3⟩
  · rw [e1,e2]
  · rw [t1] at h
    rcases q3 with ⟨_,t2⟩ | ⟨_,t2⟩ <;> rw [t2] at h <;> rcases mem (x := 45) q1 q2 h.symm (by simp) with k | k <;> first | exact (dg_notQ k (.inl rfl)).elim | exact absurd k (by decide)
  · rw [t2] at h
    rcases r3 with ⟨_,t1⟩ | ⟨_,t1⟩ <;> rw [t1] at h <;> rcases mem (x := 45) r1 r2 h (by simp) with k | k <;> first | exact (dg_notQ k (.inl rfl)).elim | exact absurd k (by decide)
  · rcases r3 with ⟨m1,t1⟩ | ⟨m1,t1⟩ <;> rcases q3 with ⟨m2,t2⟩ | ⟨m2,t2⟩ <;> rw [t1,t2] at h
    · obtain ⟨a1,a2⟩ := split_at h (dec_noQ r1 (by simp)) (dec_noQ q1 (by simp))
      have b1 := decT_inj r1 q1 a1
      have b2 := decT_inj r2 q2 a2
      cases r; cases q; simp only at b1 b2 m1 m2; rw [b1,b2,m1,m2]
    · rcases mem (x := 76) r1 r2 h (by simp) with k | k
      · exact (dg_notQ k (by simp)).elim
      · exact absurd k (by decide)
    · rcases mem (x := 82) r1 r2 h (by simp) with k | k
      · exact (dg_notQ k (by simp)).elim
      · exact absurd k (by decide)
    · obtain ⟨a1,a2⟩ := split_at h (dec_noQ r1 (by simp)) (dec_noQ q1 (by simp))
      have b1 := decT_inj r1 q1 a1
      have b2 := decT_inj r2 q2 a2
      cases r; cases q; simp only at b1 b2 m1 m2; rw [b1,b2,m1,m2]
theorem rul_sepQ {r : Rule'} (hr : r = ⟨0,0,-1⟩ ∨ (0 ≤ r.w ∧ 0 ≤ r.n ∧ (r.m = 1 ∨ r.m = -1))) {x : UInt8} (hx : x = 44 ∨ x = 59) : x ∉ rulT r := by
  intro h
  rcases rul_texts hr with ⟨e1,t1⟩ | ⟨r1,r2,⟨_,t1⟩ | ⟨_,t1⟩⟩ <;> rw [t1] at h
  · rcases hx with rfl | rfl <;> revert h <;> decide
  all_goals
    rw [List.mem_append,List.mem_cons] at h
    rcases h with h | h | h
    · exact dec_noQ r1 (by rcases hx with rfl | rfl <;> simp) h
    · rcases hx with rfl | rfl <;> revert h <;> decide
    · exact dec_noQ r2 (by rcases hx with rfl | rfl <;> simp) h
theorem map_injQ {α β : Type} {f : α → β} : ∀ {l m : List α},(∀ x ∈ l,∀ y ∈ m,f x = f y → x = y) → l.map f = m.map f → l = m
  | [],[],_,_ => rfl
  | [],_ :: _,_,h => by cases h
  | _ :: _,[],_,h => by cases h
  | x :: l,y :: m,hf,h => by
    simp only [List.map_cons,List.cons.injEq] at h
    rw [hf x (by simp) y (by simp) h.1,map_injQ (fun a ha b hb => hf a (by simp [ha]) b (by simp [hb])) h.2]
theorem mac_inj {a b : Mach} (ha : vMach a = true) (hb : vMach b = true) (h : macT a = macT b) : a = b := by
  have parts : ∀ {M : Mach},vMach M = true → 2 ≤ M.sy ∧ (chs M.sy.toNat M.ru).flatten = M.ru ∧ ((chs M.sy.toNat M.ru).length : Int) = M.st ∧ 1 ≤ M.st ∧ (∀ x ∈ chs M.sy.toNat M.ru,(x.length : Int) = M.sy) ∧ ∀ x ∈ chs M.sy.toNat M.ru,∀ r ∈ x,r = ⟨0,0,-1⟩ ∨ (0 ≤ r.w ∧ 0 ≤ r.n ∧ (r.m = 1 ∨ r.m = -1)) := by
    intro M hv
    have hbd := vMach_bd hv
    have hr : ∀ r ∈ M.ru,okRule M.sy M.st r = true := by
      have h := hv
      unfold vMach at h
      simp only [Bool.and_eq_true,List.all_eq_true] at h
      exact h.2
    have hn : M.sy.toNat ≠ 0 := by omega
    have hlen : M.ru.length = M.sy.toNat * M.st.toNat := by
      have e : ((M.sy.toNat * M.st.toNat : Nat) : Int) = M.sy * M.st := by
        rw [Int.natCast_mul,Int.toNat_of_nonneg (by omega),Int.toNat_of_nonneg (by omega)]
      omega
    obtain ⟨c1,c2⟩ := chs_lenQ hn M.st.toNat M.ru hlen
    have c3 := chs_flatQ hn M.ru.length M.ru (Nat.le_refl _)
    refine ⟨by omega,c3,by omega,by omega,fun x hx => by have := c2 x hx; omega,fun x hx r hrx => rule_way (hr r ?_)⟩
    rw [← c3]
    exact List.mem_flatten.2 ⟨x,hx,hrx⟩
  obtain ⟨a1,a2,a3,a4,a5,a6⟩ := parts ha
  obtain ⟨b1,b2,b3,b4,b5,b6⟩ := parts hb
  rw [macT_eq (by omega),macT_eq (by omega)] at h
  obtain ⟨L,eL⟩ : ∃ L,L = chs a.sy.toNat a.ru := ⟨_,rfl⟩
  obtain ⟨K,eK⟩ : ∃ K,K = chs b.sy.toNat b.ru := ⟨_,rfl⟩
  rw [← eL] at h a2 a3 a5 a6
  rw [← eK] at h b2 b3 b5 b6
  have hL0 : L ≠ [] := fun e => by rw [e] at a3; simp at a3; omega
  have hK0 : K ≠ [] := fun e => by rw [e] at b3; simp at b3; omega
  have sep : ∀ {x : List Rule'},(∀ r ∈ x,r = ⟨0,0,-1⟩ ∨ (0 ≤ r.w ∧ 0 ≤ r.n ∧ (r.m = 1 ∨ r.m = -1))) → (59 : UInt8) ∉ chT x := by
    intro x hx h
    unfold chT at h
    rcases join_memQ h with h | ⟨p,hp,h⟩
    · revert h; decide
    · obtain ⟨r,hr,rfl⟩ := List.mem_map.1 hp
      exact rul_sepQ (hx r hr) (.inr rfl) h
  have hm := join_injQ (by simpa using hL0) (by simpa using hK0) (fun p hp => by obtain ⟨x,hx,rfl⟩ := List.mem_map.1 hp; exact sep (a6 x hx)) (fun p hp => by obtain ⟨x,hx,rfl⟩ := List.mem_map.1 hp; exact sep (b6 x hx)) h
  have e : L = K := map_injQ (fun x hx y hy hxy => by
    have hx0 : x ≠ [] := fun e => by have := a5 x hx; rw [e] at this; simp at this; omega
    have hy0 : y ≠ [] := fun e => by have := b5 y hy; rw [e] at this; simp at this; omega
    unfold chT at hxy
    refine map_injQ (fun r hr q hq hrq => rul_injQ (a6 x hx r hr) (b6 y hy q hq) hrq) (join_injQ (by simpa using hx0) (by simpa using hy0) ?_ ?_ hxy)
    · intro p hp
      obtain ⟨r,hr,rfl⟩ := List.mem_map.1 hp
      exact rul_sepQ (a6 x hx r hr) (.inl rfl)
    · intro p hp
      obtain ⟨r,hr,rfl⟩ := List.mem_map.1 hp
      exact rul_sepQ (b6 y hy r hr) (.inl rfl)) hm
  subst e
  have e1 : a.ru = b.ru := by rw [← a2,b2]
  have e2 : a.st = b.st := by omega
  have e3 : a.sy = b.sy := by
    cases L with
    | nil => exact absurd rfl hL0
    | cons x L =>
      have h1 := a5 x (by simp)
      have h2 := b5 x (by simp)
      omega
  cases a; cases b
  simp only at e1 e2 e3
  rw [e1,e2,e3]
end Go.Proofs.YtnkeamihfiobdaaGreatDoor
end
section
set_option linter.unusedVariables false
set_option linter.unusedSimpArgs false
set_option maxRecDepth 100000
set_option maxHeartbeats 4000000
namespace Go.Proofs.YtnkeamihfiobdaaGreatDoor
open Go Foot Go.RowKit
abbrev kT (v : Verd) : Bs := macT v.m
def addI : List Verd → Verd → List Verd
  | [],v => [v]
  | x :: l,v => if kT x = kT v then (if isZ x.p = true ∧ isZ v.p = false then v :: l else x :: l) else x :: addI l v
def insV : List Verd → Verd → List Verd
  | [],v => [v]
  | x :: l,v => if kT x = kT v then (if isZ x.p = true then v :: l else x :: l) else if ltB (kT v) (kT x) = true then v :: x :: l else x :: insV l v
abbrev DisV (l : List Verd) : Prop := l.Pairwise fun a b => kT a ≠ kT b
abbrev SrtV (l : List Verd) : Prop := l.Pairwise fun a b => ltB (kT a) (kT b) = true
theorem lt_ne {a b : Bs} (h : ltB a b = true) : a ≠ b := fun e => by rw [e,lt_irr] at h; cases h
theorem srt_dis {l : List Verd} (h : SrtV l) : DisV l := h.imp lt_ne
theorem addI_key {l : List Verd} {v w : Verd} (h : w ∈ addI l v) : w = v ∨ w ∈ l := by
  induction l with
  | nil => exact .inl (by simpa [addI] using h)
  | cons x l ih =>
    rw [addI] at h
    split at h
    · split at h
      · simp only [List.mem_cons] at h ⊢; exact h.imp id .inr
      · exact .inr h
    · simp only [List.mem_cons] at h ⊢
      rcases h with h | h
      · exact .inr (.inl h)
      · exact (ih h).imp id .inr
theorem insV_key {l : List Verd} {v w : Verd} (h : w ∈ insV l v) : w = v ∨ w ∈ l := by
  induction l with
  | nil => exact .inl (by simpa [insV] using h)
  | cons x l ih =>
    rw [insV] at h
    split at h
    · split at h
      · simp only [List.mem_cons] at h ⊢; exact h.imp id .inr
      · exact .inr h
    · split at h
      · simp only [List.mem_cons] at h ⊢; exact h
      · simp only [List.mem_cons] at h ⊢
        rcases h with h | h
        · exact .inr (.inl h)
        · exact (ih h).imp id .inr
theorem addI_dis {l : List Verd} {v : Verd} (h : DisV l) : DisV (addI l v) := by
  induction l with
  | nil => simp [addI]
  | cons x l ih =>
    obtain ⟨h1,h2⟩ := List.pairwise_cons.1 h
    rw [addI]
    split
    · next e =>
      split
      · exact List.pairwise_cons.2 ⟨fun y hy => by rw [← e]; exact h1 y hy,h2⟩
      · exact h
    · next e =>
      refine List.pairwise_cons.2 ⟨fun y hy => ?_,ih h2⟩
      rcases addI_key hy with rfl | hy
      · exact e
      · exact h1 y hy
theorem insV_srt {l : List Verd} {v : Verd} (h : SrtV l) : SrtV (insV l v) := by
  induction l with
  | nil => simp [insV]
  | cons x l ih =>
    obtain ⟨h1,h2⟩ := List.pairwise_cons.1 h
    rw [insV]
    split
    · next e =>
      split
      · exact List.pairwise_cons.2 ⟨fun y hy => by rw [← e]; exact h1 y hy,h2⟩
      · exact h
    · next e =>
      split
      · next q =>
        refine List.pairwise_cons.2 ⟨fun y hy => ?_,h⟩
        rw [List.mem_cons] at hy
        rcases hy with rfl | hy
        · exact q
        · exact lt_trans _ _ _ q (h1 y hy)
      · next q =>
        refine List.pairwise_cons.2 ⟨fun y hy => ?_,ih h2⟩
        rcases insV_key hy with rfl | hy
        · exact lt_tri _ _ (by simpa using q) (fun e2 => e e2.symm)
        · exact h1 y hy
theorem addI_mem {l : List Verd} {v w : Verd} (h : DisV l) : w ∈ addI l v ↔ (w ∈ l ∧ kT w ≠ kT v) ∨ (∃ x ∈ l,kT x = kT v ∧ w = if isZ x.p = true ∧ isZ v.p = false then v else x) ∨ ((∀ x ∈ l,kT x ≠ kT v) ∧ w = v) := by
  induction l with
  | nil => simp [addI]
  | cons x l ih =>
    obtain ⟨h1,h2⟩ := List.pairwise_cons.1 h
    have ih := ih h2
    rw [addI]
    by_cases e : kT x = kT v
    · rw [if_pos e]
      have hk : ∀ y ∈ l,kT y ≠ kT v := fun y hy e2 => h1 y hy (e.trans e2.symm)
      constructor
      · intro q
        split at q
        · next z =>
          rw [List.mem_cons] at q
          rcases q with rfl | q
          · exact .inr (.inl ⟨x,by simp,e,by rw [if_pos z]⟩)
          · exact .inl ⟨by simp [q],hk _ q⟩
        · next z =>
          rw [List.mem_cons] at q
          rcases q with rfl | q
          · exact .inr (.inl ⟨w,by simp,e,by rw [if_neg z]⟩)
          · exact .inl ⟨by simp [q],hk _ q⟩
      · intro q
        rcases q with ⟨q,n⟩ | ⟨y,hy,e2,q⟩ | ⟨q,_⟩
        · rw [List.mem_cons] at q
          rcases q with rfl | q
          · exact absurd e n
          · split <;> simp [q]
        · rw [List.mem_cons] at hy
          rcases hy with rfl | hy
          · split
            · next z => rw [if_pos z] at q; simp [q]
            · next z => rw [if_neg z] at q; simp [q]
          · exact absurd e2 (hk y hy)
        · exact absurd e (q x (by simp))
    · rw [if_neg e,List.mem_cons,ih]
      constructor
      · intro q
        rcases q with rfl | ⟨q,n⟩ | ⟨y,hy,e2,q⟩ | ⟨q,n⟩
        · exact .inl ⟨by simp,e⟩
        · exact .inl ⟨by simp [q],n⟩
        · exact .inr (.inl ⟨y,by simp [hy],e2,q⟩)
        · exact .inr (.inr ⟨fun y hy => by rw [List.mem_cons] at hy; rcases hy with rfl | hy; exact e; exact q y hy,n⟩)
      · intro q
        rcases q with ⟨q,n⟩ | ⟨y,hy,e2,q⟩ | ⟨q,n⟩
        · rw [List.mem_cons] at q
          rcases q with rfl | q
          · exact .inl rfl
          · exact .inr (.inl ⟨q,n⟩)
        · rw [List.mem_cons] at hy
          rcases hy with rfl | hy
          · exact absurd e2 e
          · exact .inr (.inr (.inl ⟨y,hy,e2,q⟩))
        · exact .inr (.inr (.inr ⟨fun y hy => q y (by simp [hy]),n⟩))
theorem insV_mem {l : List Verd} {v w : Verd} (h : SrtV l) : w ∈ insV l v ↔ (w ∈ l ∧ kT w ≠ kT v) ∨ (∃ x ∈ l,kT x = kT v ∧ w = if isZ x.p = true then v else x) ∨ ((∀ x ∈ l,kT x ≠ kT v) ∧ w = v) := by
  induction l with
  | nil => simp [insV]
  | cons x l ih =>
    obtain ⟨h1,h2⟩ := List.pairwise_cons.1 h
    have ih := ih h2
    rw [insV]
    by_cases e : kT x = kT v
    · rw [if_pos e]
      have hk : ∀ y ∈ l,kT y ≠ kT v := fun y hy e2 => lt_ne (h1 y hy) (e.trans e2.symm)
      constructor
      · intro q
        split at q
        · next z =>
          rw [List.mem_cons] at q
          rcases q with rfl | q
          · exact .inr (.inl ⟨x,by simp,e,by rw [if_pos z]⟩)
          · exact .inl ⟨by simp [q],hk _ q⟩
        · next z =>
          rw [List.mem_cons] at q
          rcases q with rfl | q
          · exact .inr (.inl ⟨w,by simp,e,by rw [if_neg z]⟩)
          · exact .inl ⟨by simp [q],hk _ q⟩
      · intro q
        rcases q with ⟨q,n⟩ | ⟨y,hy,e2,q⟩ | ⟨q,_⟩
        · rw [List.mem_cons] at q
          rcases q with rfl | q
          · exact absurd e n
          · split <;> simp [q]
        · rw [List.mem_cons] at hy
          rcases hy with rfl | hy
          · split
            · next z => rw [if_pos z] at q; simp [q]
            · next z => rw [if_neg z] at q; simp [q]
          · exact absurd e2 (hk y hy)
        · exact absurd e (q x (by simp))
    · rw [if_neg e]
      by_cases z : ltB (kT v) (kT x) = true
      · rw [if_pos z]
        have hk : ∀ y ∈ x :: l,kT y ≠ kT v := fun y hy e2 => by
          rw [List.mem_cons] at hy
          rcases hy with rfl | hy
          · exact e e2
          · exact lt_ne (lt_trans _ _ _ z (h1 y hy)) e2.symm
        constructor
        · intro q
          rw [List.mem_cons] at q
          rcases q with rfl | q
          · exact .inr (.inr ⟨hk,rfl⟩)
          · exact .inl ⟨q,hk _ q⟩
        · intro q
          rw [List.mem_cons]
          rcases q with ⟨q,_⟩ | ⟨y,hy,e2,_⟩ | ⟨_,q⟩
          · exact .inr q
          · exact absurd e2 (hk y hy)
          · exact .inl q
      · rw [if_neg z,List.mem_cons,ih]
        constructor
        · intro q
          rcases q with rfl | ⟨q,n⟩ | ⟨y,hy,e2,q⟩ | ⟨q,n⟩
          · exact .inl ⟨by simp,e⟩
          · exact .inl ⟨by simp [q],n⟩
          · exact .inr (.inl ⟨y,by simp [hy],e2,q⟩)
          · exact .inr (.inr ⟨fun y hy => by rw [List.mem_cons] at hy; rcases hy with rfl | hy; exact e; exact q y hy,n⟩)
        · intro q
          rcases q with ⟨q,n⟩ | ⟨y,hy,e2,q⟩ | ⟨q,n⟩
          · rw [List.mem_cons] at q
            rcases q with rfl | q
            · exact .inl rfl
            · exact .inr (.inl ⟨q,n⟩)
          · rw [List.mem_cons] at hy
            rcases hy with rfl | hy
            · exact absurd e2 e
            · exact .inr (.inr (.inl ⟨y,hy,e2,q⟩))
          · exact .inr (.inr (.inr ⟨fun y hy => q y (by simp [hy]),n⟩))
theorem isZ_eq {p q : Prf} (h1 : isZ p = true) (h2 : isZ q = true) : p = q := by
  unfold isZ at h1 h2
  rw [decide_eq_true_eq] at h1 h2
  obtain ⟨a,b,c⟩ := p
  obtain ⟨a',b',c'⟩ := q
  dsimp only at h1 h2
  have e1 : b = [] := List.eq_nil_of_length_eq_zero (by omega)
  have e2 : c = [] := List.eq_nil_of_length_eq_zero (by omega)
  have e3 : b' = [] := List.eq_nil_of_length_eq_zero (by omega)
  have e4 : c' = [] := List.eq_nil_of_length_eq_zero (by omega)
  rw [e1,e2,e3,e4,h1.1,h2.1]
theorem okV_m {v : Verd} (h : okV v = true) : vMach v.m = true := by
  unfold okV at h
  simp only [Bool.and_eq_true] at h
  exact h.1.1
theorem res_eq {x v : Verd} (hx : okV x = true) (hv : okV v = true) (e : kT x = kT v) : (if isZ x.p = true ∧ isZ v.p = false then v else x) = if isZ x.p = true then v else x := by
  by_cases z : isZ x.p = true
  · rw [if_pos z]
    cases z2 : isZ v.p with
    | false => rw [if_pos ⟨z,rfl⟩]
    | true =>
      rw [if_neg (by simp)]
      have e1 := mac_inj (okV_m hx) (okV_m hv) e
      have e2 := isZ_eq z z2
      cases x; cases v
      simp only at e1 e2
      rw [e1,e2]
  · rw [if_neg z,if_neg (fun q => z q.1)]
theorem dis_nodup {l : List Verd} (h : DisV l) : l.Nodup := h.imp fun n e => n (by rw [e])
theorem step_perm {l l' : List Verd} {v : Verd} (hp : l.Perm l') (hd : DisV l) (hs : SrtV l') (hok : ∀ x ∈ l,okV x = true) (hv : okV v = true) : (addI l v).Perm (insV l' v) := by
  rw [List.perm_ext_iff_of_nodup (dis_nodup (addI_dis hd)) (dis_nodup (srt_dis (insV_srt hs)))]
  intro w
  rw [addI_mem hd,insV_mem hs]
  constructor
  · intro q
    rcases q with ⟨q,n⟩ | ⟨x,hx,e,q⟩ | ⟨q,n⟩
    · exact .inl ⟨hp.mem_iff.1 q,n⟩
    · exact .inr (.inl ⟨x,hp.mem_iff.1 hx,e,by rw [q,res_eq (hok x hx) hv e]⟩)
    · exact .inr (.inr ⟨fun x hx => q x (hp.mem_iff.2 hx),n⟩)
  · intro q
    rcases q with ⟨q,n⟩ | ⟨x,hx,e,q⟩ | ⟨q,n⟩
    · exact .inl ⟨hp.mem_iff.2 q,n⟩
    · exact .inr (.inl ⟨x,hp.mem_iff.2 hx,e,by rw [q,res_eq (hok x (hp.mem_iff.2 hx)) hv e]⟩)
    · exact .inr (.inr ⟨fun x hx => q x (hp.mem_iff.1 hx),n⟩)
theorem fold_perm : ∀ (xs l l' : List Verd),l.Perm l' → DisV l → SrtV l' → (∀ x ∈ l,okV x = true) → (∀ x ∈ xs,okV x = true) → (xs.foldl addI l).Perm (xs.foldl insV l') ∧ DisV (xs.foldl addI l) ∧ SrtV (xs.foldl insV l') ∧ ∀ x ∈ xs.foldl addI l,okV x = true
  | [],l,l',hp,hd,hs,hok,_ => ⟨hp,hd,hs,hok⟩
  | v :: xs,l,l',hp,hd,hs,hok,hx => by
    have hv := hx v (by simp)
    exact fold_perm xs _ _ (step_perm hp hd hs hok hv) (addI_dis hd) (insV_srt hs) (fun w hw => by rcases addI_key hw with rfl | hw; exact hv; exact hok w hw) fun w hw => hx w (by simp [hw])
end Go.Proofs.YtnkeamihfiobdaaGreatDoor
end
section
set_option linter.unusedVariables false
set_option linter.unusedSimpArgs false
set_option maxRecDepth 100000
set_option maxHeartbeats 4000000
namespace Go.Proofs.YtnkeamihfiobdaaGreatDoor
open Go Foot Go.RowKit
def posV (t : Bs) : List Verd → Nat
  | [] => 0
  | x :: l => if ltB t (kT x) = true then 0 else posV t l + 1
theorem posV_le (t : Bs) : ∀ l,posV t l ≤ l.length
  | [] => Nat.le_refl _
  | x :: l => by
    rw [posV]
    split
    · omega
    · have := posV_le t l
      simp only [List.length_cons]
      omega
theorem posV_lt {t : Bs} : ∀ {l : List Verd} {i : Nat} (h : i < l.length),i < posV t l → ltB t (kT l[i]) = false
  | x :: l,i,h,hi => by
    rw [posV] at hi
    split at hi
    · omega
    · next q =>
      cases i with
      | zero => simpa using q
      | succ i =>
        have h' : i < l.length := by simpa using h
        exact posV_lt (l := l) (i := i) h' (by omega)
theorem posV_ge {t : Bs} : ∀ {l : List Verd} {i : Nat},SrtV l → (h : i < l.length) → posV t l ≤ i → ltB t (kT l[i]) = true
  | x :: l,i,hs,h,hi => by
    obtain ⟨h1,h2⟩ := List.pairwise_cons.1 hs
    rw [posV] at hi
    split at hi
    · next q =>
      cases i with
      | zero => exact q
      | succ i => exact lt_trans _ _ _ q (h1 _ (List.getElem_mem (by simpa using h)))
    · next q =>
      cases i with
      | zero => omega
      | succ i =>
        have h' : i < l.length := by simpa using h
        exact posV_ge (l := l) (i := i) h2 h' (by omega)
theorem insV_pos : ∀ {l : List Verd} {v : Verd},SrtV l → insV l v = if h : 0 < posV (kT v) l ∧ ∃ hl : posV (kT v) l - 1 < l.length,kT (l[posV (kT v) l - 1]) = kT v then (if isZ (l[posV (kT v) l - 1]'h.2.1).p = true then l.set (posV (kT v) l - 1) v else l) else l.take (posV (kT v) l) ++ v :: l.drop (posV (kT v) l)
  | [],v,_ => by simp [insV,posV]
  | x :: l,v,hs => by
    obtain ⟨h1,h2⟩ := List.pairwise_cons.1 hs
    have ih := insV_pos (l := l) (v := v) h2
    have hle := posV_le (kT v) l
    rw [insV]
    by_cases e : kT x = kT v
    · rw [if_pos e]
      have q : ¬ ltB (kT v) (kT x) = true := by rw [e,lt_irr]; decide
      have hp : posV (kT v) l = 0 := by
        cases l with
        | nil => rfl
        | cons y l =>
          have := h1 y (by simp)
          rw [e] at this
          rw [posV,if_pos this]
      have hpx : posV (kT v) (x :: l) = 1 := by rw [posV,if_neg q,hp]
      simp only [hpx]
      rw [dif_pos ⟨by omega,by simp,by simpa using e⟩]
      simp
    · rw [if_neg e]
      by_cases q : ltB (kT v) (kT x) = true
      · rw [if_pos q]
        have hpx : posV (kT v) (x :: l) = 0 := by rw [posV,if_pos q]
        simp only [hpx]
        rw [dif_neg (fun z => by omega)]
        simp
      · rw [if_neg q,ih]
        have hpx : posV (kT v) (x :: l) = posV (kT v) l + 1 := by rw [posV,if_neg q]
        simp only [hpx]
        by_cases z : 0 < posV (kT v) l ∧ ∃ hl : posV (kT v) l - 1 < l.length,kT (l[posV (kT v) l - 1]) = kT v
        · obtain ⟨k,hk⟩ : ∃ k,posV (kT v) l = k + 1 := ⟨posV (kT v) l - 1,by omega⟩
          simp only [hk,Nat.add_sub_cancel] at z ⊢
          rw [dif_pos z,dif_pos ⟨by omega,by simpa using z.2.1,by simpa using z.2.2⟩]
          simp only [List.getElem_cons_succ,List.set_cons_succ]
          split <;> rfl
        · rw [dif_neg z,dif_neg ?_]
          · simp
          · rintro ⟨_,hl,hk⟩
            by_cases p0 : posV (kT v) l = 0
            · simp only [p0,Nat.zero_add,Nat.sub_self,List.getElem_cons_zero] at hk
              exact e hk
            · obtain ⟨k,hk2⟩ : ∃ k,posV (kT v) l = k + 1 := ⟨posV (kT v) l - 1,by omega⟩
              simp only [hk2,Nat.add_sub_cancel,List.getElem_cons_succ] at hk z
              exact z ⟨by omega,by omega,hk⟩
end Go.Proofs.YtnkeamihfiobdaaGreatDoor
end
