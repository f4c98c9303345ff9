/- Parts of the proof (19 of 19). -/
import Derived.Carry
import Derived.ChangeOld
import Derived.Deep.Fields
import Derived.Deep.Slices
import Derived.OpenShut
import Derived.ProofKit
import Derived.ShutString
import Derived.Test.YtegpggobfdcafaaGreatQ18
section
set_option linter.unusedVariables false
set_option linter.unusedSimpArgs false
set_option maxRecDepth 100000
namespace Go.Proofs.YtegpggobfdcafaaGreat
open Go Foot Go.ChangeShapes Go.WideShapes Go.ChangeAt Go.RowKit Go.Deep
def allW (w : World) : Foot := fun b _ => b < w.heap.size
def Opens {α : Type} (P : Program) (t : TypeId) (z : Nat) (E : α → List D) (Q : α → Prop) : Prop :=
  (∀ a,(E a).length = z) ∧
  ∀ {H : Type} (enc : TypeId × Value → H) (w : World) (base : Nat) (held : Bool) (fuel : Nat) (cs : List Value) (x : DataW H × List MemPlace),
    DataW.trod enc P w base (fun _ => true) held fuel t cs = some x → ∃ a,Reps w (allW w) (E a) cs no ∧ Q a
theorem reps_one {w : World} {S : Foot} {c : D} {v : Value} (h : Rep w S c v no) : Reps w S [c] [v] no :=
  ⟨v,[],no,no,rfl,le_refl _,le_refl _,no_dis _,h,rfl⟩
theorem opens_u8 {P : Program} {t : TypeId} (ht : P.underlying t = some (.int .u8)) : Opens P t 1 (fun n : Int => [.sc (.int .u8 n)]) (fun n => 0 ≤ n ∧ n < 256) := by
  refine ⟨fun _ => rfl,fun enc w base held fuel cs x h => ?_⟩
  obtain ⟨n,rfl,_,hw⟩ := DataW.trod_int ht h
  refine ⟨n,reps_one ⟨rfl,rfl⟩,?_⟩
  simp [Lit.wf,IntKind.min,IntKind.max,IntKind.signed,IntKind.bits] at hw
  omega
theorem addr_plain {w : World} {a : Addr} {i : Nat} {v : Value} (h : w.cell? (a.add i) = some v) (hi : i = 0) : a.spot = none := by
  subst hi
  simp only [Addr.add,if_true] at h
  unfold World.cell? at h
  split at h
  · split at h
    · cases h
    · rename_i hs; simpa using hs
  · cases h
theorem reps_rows {α : Type} {E : Enc α} {w : World} {S : Foot} : ∀ (l : List α) (vs : List (List Value)),l.length = vs.length → (∀ i (h : i < l.length) (h' : i < vs.length),Reps w S (E.enc l[i]) vs[i] no) → Reps w S (rows E l) vs.flatten no
  | [],[],_,_ => rfl
  | [],_ :: _,h,_ => by simp at h
  | _ :: _,[],h,_ => by simp at h
  | a :: l,v :: vs,h,hr => by
    show Reps w S (E.enc a ++ rows E l) (v ++ vs.flatten) no
    exact Reps.append (hr 0 (by simp) (by simp)) (reps_rows l vs (by simpa using h) fun i h1 h2 => hr (i + 1) (by simpa using h1) (by simpa using h2)) (no_dis _) (le_refl _) (le_refl _)
theorem flat_get {α : Type} {z : Nat} (hz : 0 < z) : ∀ (l : List (List α)),(∀ x ∈ l,x.length = z) → ∀ (i j : Nat),j < z → l.flatten[i * z + j]? = (l[i]?).bind (·[j]?)
  | [],_,i,j,_ => by simp
  | x :: l,h,0,j,hj => by
    have := h x (by simp)
    simp only [List.flatten_cons,Nat.zero_mul,Nat.zero_add]
    rw [List.getElem?_append_left (by omega)]
    rfl
  | x :: l,h,i + 1,j,hj => by
    have hx := h x (by simp)
    simp only [List.flatten_cons]
    rw [List.getElem?_append_right (by rw [hx,Nat.add_mul]; omega),hx,show (i + 1) * z + j - z = i * z + j by rw [Nat.add_mul]; omega,flat_get hz l (fun y hy => h y (by simp [hy])) i j hj]
    simp
theorem opens_slice {α : Type} {P : Program} {t e : TypeId} {E : Enc α} {Q : α → Prop} (ht : P.underlying t = some (.slice e)) (hs : P.cellsOf e = E.z) (he : Opens P e E.z E.enc Q) :
    Opens P t 1 (fun l : List α => [.sl false E.z (rows E l)]) (fun l => l.length ≤ maxLen ∧ ∀ x ∈ l,Q x) := by
  refine ⟨fun _ => rfl,fun enc w base held fuel cs x h => ?_⟩
  rcases open_slice ht h with ⟨rfl,_⟩ | ⟨a,len,cap,m,n,DD,Pl,rfl,hb,hl,hm,hmm,hx,hi⟩
  · refine ⟨[],reps_one ?_,by simp [maxLen],by simp⟩
    simp only [Rep]
    exact ⟨none,0,0,rfl,by simp [rows],E.pos,Nat.le_refl _,.inl ⟨rfl,fun h => by cases h⟩⟩
  · have hlm : len ≤ m := by rw [hmm]; split <;> omega
    have key : ∀ i,i < len → ∃ y cs,Reps w (allW w) (E.enc y) cs no ∧ Q y ∧ cs.length = E.z ∧ ∀ j,j < E.z → w.cell? (a.add (i * E.z + j)) = cs[j]? := by
      intro i hil
      obtain ⟨cs',hc,htr⟩ := hi i (by omega)
      obtain ⟨_,hcl,hat⟩ := World.cells?_some hc
      obtain ⟨y,hy,hq⟩ := he.2 enc w base held n cs' _ htr
      refine ⟨y,cs',hy,hq,by rw [hcl,hs],fun j hj => ?_⟩
      rw [hs] at hat
      rw [← Go.Deep.add_add]
      exact hat j hj
    obtain ⟨L,hL,V,hV,hk⟩ : ∃ L : List α,L.length = len ∧ ∃ V : List (List Value),V.length = len ∧ ∀ i (h1 : i < L.length) (h2 : i < V.length),Reps w (allW w) (E.enc L[i]) V[i] no ∧ Q L[i] ∧ V[i].length = E.z ∧ ∀ j,j < E.z → w.cell? (a.add (i * E.z + j)) = V[i][j]? := by
      refine ⟨List.ofFn fun i : Fin len => (key i.1 i.2).choose,by simp,List.ofFn fun i : Fin len => (key i.1 i.2).choose_spec.choose,by simp,fun i h1 h2 => ?_⟩
      simp only [List.getElem_ofFn]
      simp only [List.length_ofFn] at h1
      exact (key i h1).choose_spec.choose_spec
    have hrep := reps_rows (E := E) (w := w) (S := allW w) L V (by omega) fun i h1 h2 => (hk i h1 h2).1
    have hQ : ∀ x ∈ L,Q x := by
      intro x hx
      obtain ⟨i,h1,rfl⟩ := List.mem_iff_getElem.1 hx
      exact (hk i h1 (by omega)).2.1
    refine ⟨L,reps_one ?_,by rw [hL]; exact Nat.le_trans hl hm,hQ⟩
    simp only [Rep,Bool.false_eq_true,if_false]
    refine ⟨some a,len,cap,rfl,by rw [rows_len,hL],E.pos,hl,?_⟩
    by_cases hc0 : cap = 0
    · exact .inl ⟨hc0,fun h => by cases h⟩
    have hpos := E.pos
    have hsp : a.spot = none := by
      obtain ⟨cs',hc,_⟩ := hi 0 (by rw [hmm]; simp only [if_true]; omega)
      obtain ⟨_,hcl,hat⟩ := World.cells?_some hc
      have h1 := hat 0 (by omega)
      rw [List.getElem?_eq_getElem (by omega)] at h1
      simp only [Nat.zero_mul,Addr.add,if_true] at h1
      exact addr_plain (w := w) (a := a) (i := 0) (by simpa [Addr.add] using h1) rfl
    obtain ⟨b,off,sp⟩ := a
    simp only at hsp
    subst hsp
    have hadd : ∀ k,(Addr.mk b off none).add k = ⟨b,off + k,none⟩ := by intro k; unfold Addr.add; split <;> simp_all
    by_cases h0 : len = 0
    · refine .inr ⟨b,off,[],no,rfl,fun i v hv => by simp at hv,?_,?_,rfl⟩
      · have : L = [] := List.eq_nil_of_length_eq_zero (by omega)
        subst this
        rfl
      · rintro b' o' ⟨_,e1,e2⟩
        rw [rows_len,hL,h0] at e2
        omega
    · refine .inr ?_
      have hVl : ∀ x ∈ V,x.length = E.z := by
        intro x hx
        obtain ⟨i,h1,rfl⟩ := List.mem_iff_getElem.1 hx
        exact (hk i (by omega) h1).2.2.1
      refine ⟨b,off,V.flatten,no,rfl,fun i v hv => ?_,hrep,fun b' o' ⟨e1,e2,e3⟩ => ?_,rfl⟩
      · have hz : i = i / E.z * E.z + i % E.z := by rw [Nat.mul_comm]; exact (Nat.div_add_mod i E.z).symm
        have hj : i % E.z < E.z := Nat.mod_lt _ hpos
        rw [hz,flat_get hpos V hVl _ _ hj] at hv
        obtain ⟨x,h1,h2⟩ := Option.bind_eq_some_iff.1 hv
        obtain ⟨h3,rfl⟩ := List.getElem?_eq_some_iff.1 h1
        have := (hk (i / E.z) (by omega) h3).2.2.2 (i % E.z) hj
        rw [hadd,← hz,h2] at this
        exact this
      · have h1 := (hk 0 (by omega) (by omega)).2.2.2 0 hpos
        have h2 := (hk 0 (by omega) (by omega)).2.2.1
        rw [List.getElem?_eq_getElem (by omega)] at h1
        have := World.block_lt_of_cell? w _ h1
        rw [hadd] at this
        show b' < _
        rw [e1]
        exact this
section
variable {H : Type} {enc : TypeId × Value → H} {P : Program} {w : World} {base : Nat} {held : Bool} {t : TypeId} {v : Value} {d : DataW H} {p : List MemPlace} {ρ : Env}
theorem arg_one {α : Type} {E : α → D} {Q : α → Prop} (hv : v.cells = #[v]) (h : DataW.Trod enc P w base (fun _ => true) held t v d p) (ho : Opens P t 1 (fun a => [E a]) Q) :
    ∃ a,RepS w (allW w) ρ (.one (.d (E a))) v ∧ Q a := by
  obtain ⟨fuel,hf⟩ := h
  obtain ⟨a,ha,hq⟩ := ho.2 enc w base held fuel _ _ hf
  rw [hv] at ha
  simp only [Reps] at ha
  obtain ⟨v',us,F1,F2,e,_,_,_,h1,rfl⟩ := ha
  cases e
  exact ⟨a,h1.mono (by assumption),hq⟩
end
theorem does_calls {P : Program} {f : Nat} {args : List SV} {vs : Array Value} {w : World} (hd : Does P f args [] (.one (boo true)) []) (ht : Tabs w (allW w)) (ha : RepA w (allW w) (fun _ => none) args vs.toList) :
    Calls P f vs w fun e w' => e = .returned (.bool true) ∧ Below w.heap.size w w' := by
  have := hd vs.toList w (allW w) (fun _ => none) (fun _ => no) ha ⟨fun i gb h => by simp at h,fun _ _ => rfl,fun i j h => by simp at h,fun i h => by simp at h,fun i h => by simp at h,fun b o h => h,ht⟩
  rw [show vs.toList.toArray = vs from rfl] at this
  refine this.mono fun e w' hx => ?_
  obtain ⟨v,S1,ρ',F',he,hr,hv⟩ := hx
  obtain ⟨rfl,_⟩ := hv
  refine ⟨he,hr.keeps.os,hr.keeps.tape,hr.keeps.output,hr.keeps.size,fun k hk => hr.keeps.block k hk fun o ⟨i,hi,_⟩ => by simp at hi⟩
end Go.Proofs.YtegpggobfdcafaaGreat
end
section
set_option linter.unusedVariables false
set_option linter.unusedSimpArgs false
set_option maxRecDepth 100000
namespace Go.Proofs.YtegpggobfdcafaaGreat
open Go Foot
theorem opens_Y : Opens Tryz.prog 41 1 (fun l : List Int => [.sl false 1 (rows eY l)]) (fun l => l.length ≤ maxLen ∧ ∀ x ∈ l,0 ≤ x ∧ x < 256) := opens_slice (E := eY) Tryz.underlying41 (by kernel_rfl) (opens_u8 Tryz.underlying5)
end Go.Proofs.YtegpggobfdcafaaGreat
end
section
set_option linter.unusedVariables false
set_option linter.unusedSimpArgs false
set_option maxRecDepth 100000
namespace Go.Proofs.YtegpggobfdcafaaGreat
open Go Foot Go.ChangeShapes Go.WideShapes Go.ChangeAt Go.RowKit Go.Deep
theorem own : ownKnob Tryz.prog.godebug = none := by kernel_rfl
theorem laidOut : laidOutB Tryz.prog = true := by kernel_rfl
end Go.Proofs.YtegpggobfdcafaaGreat
end
