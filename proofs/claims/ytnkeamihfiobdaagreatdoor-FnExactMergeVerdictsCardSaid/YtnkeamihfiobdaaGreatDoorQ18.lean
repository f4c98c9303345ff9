/- Parts of the proof (18 of 23). -/
import Derived.Lib.AppendZerosOnto
import Derived.Test.YtnkeamihfiobdaaGreatDoorQ17
section
set_option linter.unusedVariables false
set_option linter.unusedSimpArgs false
set_option maxRecDepth 100000
namespace Go.Proofs.YtnkeamihfiobdaaGreatDoor
open Go Foot
section
variable {P : Program} {g : Gh} {st : St} {dst : Option Tmp} {ty : TypeId} {pos : String} {after : Array Edge} {guard : Option (Nat × Bool)} {x y : Operand}
theorem a_cap0 {T e : Nat} (hx : opd st x = .one nilC) (hu : P.underlying T = some (.slice e)) : Acts P g ⟨dst,.call { callee := .builtin .cap,args := #[x],argTypes := #[T] },ty,pos,after,guard⟩ st (.one (int 0)) [] [] := by
  refine acts_of fun a w S ρ F h => ⟨.int .i64 0,?_,⟨rfl,rfl⟩⟩
  have e := opd_sc h hx
  simp only [execOp,resolve,invoke,builtin]
  simp [e,builtin,Builtin.cap_,run_underlying hu,goInt]
theorem a_sl0 {T zz : Nat} {hi : Operand} (hx : opd st x = .one nilC) (hh : opd st hi = .one (int 0)) (hT : sliceB P T zz = true) : Acts P g ⟨dst,.slice T x none (some hi) none,ty,pos,after,guard⟩ st (.one nilC) [] [] := by
  refine acts_of fun a w S ρ F h => ⟨.slice none 0 0,?_,⟨rfl,rfl⟩⟩
  show (do pure (.value (← Instr.sliceAt T (a.eval x) ((none : Option Operand).map a.eval) ((some hi).map a.eval) ((none : Option Operand).map a.eval))) : Sem Next).run P w = _
  rw [opd_sc h hx]
  have := run_slice (P := P) (w := w) (T := T) (z := zz) (len := 0) (cap := 0) (l := 0) (u := 0) (ad := none) (lo := none) (hi := some (a.eval hi)) hT (.inl ⟨rfl,rfl⟩) (.inr ⟨.i64,by rw [opd_sc h hh]; rfl⟩) (Nat.le_refl _) (Nat.le_refl _) (Nat.le_refl _)
  simp at this
  simp [this]
theorem a_appZ {T Tn e zz bytes n i : Nat} {vs : List Value} {row : List D} {k1 kn : IntKind} {m : Int} (hu : P.underlying T = some (.slice e)) (hun : P.underlying Tn = some (.int kn)) (hT : zeroC P e = some vs) (hT2 : appB P T zz bytes = true) (hz0 : 0 < zz)
    (hx : opd st x = .one nilC) (hy : opd st y = .one (.d (.sc (.int k1 m)))) (hm : 0 < m) (hmn : m.toNat = n) (hn : m < 9223372036854775808) (hb : n * bytes ≤ 281474976710656) (hrow : repRow (vs.map scD) n = row) :
    Acts P g ⟨dst,.call { callee := .builtin .append,args := #[x,y],argTypes := #[T,Tn] },ty,pos,after,guard⟩ st (.one (.gv i)) [] [(i,.row zz row)] := by
  subst hrow
  have hmn' : m = (n : Int) := by omega
  subst hmn'
  refine ⟨fun a w S ρ F h hfr K Q hK => ?_⟩
  have hfr' : ρ i = none := by simpa using hfr _ (List.mem_singleton.2 rfl)
  clear hfr
  obtain ⟨inf,zv,hi,hz,rfl,hall⟩ := zeroC_spec hT
  unfold appB at hT2
  rw [hu] at hT2
  simp only [hi,hz,Bool.and_eq_true] at hT2
  obtain ⟨⟨hz1,hb1⟩,hz3⟩ := hT2
  have hz1 := Nat.eq_of_beq_eq_true hz1
  have hb1 := Nat.eq_of_beq_eq_true hb1
  have hz3 := Nat.eq_of_beq_eq_true hz3
  subst hz1 hb1
  have hnp : 0 < n := by omega
  have hnc : Builtin.nextslicecap (0 + n) 0 = n := by unfold Builtin.nextslicecap; rw [if_pos (by omega)]; omega
  have hrun := Lib.run_append_grow_zeros (P := P) w T Tn ty e inf zv k1 kn hu hun hi hz none 0 0 [] (by simp [Builtin.firstCells]) n hnp hz0 (by omega) (by omega) hb (by rw [hnc]; exact hb)
  have hge := grownCap_ge w (0 + n) 0 e
  have hrun2 : (execOp a.eval ⟨dst,.call { callee := .builtin .append,args := #[x,y],argTypes := #[T,Tn] },ty,pos,after,guard⟩).run P w = .ok (.value (.slice (some ⟨w.heap.size,0,none⟩) (0 + n) (grownCap w (0 + n) 0 e))) (w.drew.alloc (.cells ((#[] : Array Value) ++ Builtin.zeroCells zv.cells n ++ Builtin.zeroCells zv.cells (grownCap w (0 + n) 0 e - (0 + n))) e)) := by
    simp only [execOp,resolve,invoke,builtin]
    simp [opd_sc h hx,opd_sc h hy,builtin]
    simp at hrun
    rw [hrun]
    rfl
  refine oper_in (fun _ h => nomatch h) ?_
  rw [hrun2,Oper.uponIn_value]
  rw [Nat.zero_add] at hge ⊢
  generalize grownCap w n 0 e = c at *
  have hzr : (Builtin.zeroCells zv.cells n).toList = repRow zv.cells.toList n := by unfold Builtin.zeroCells; exact zero_row zv.cells n
  have hzs : zv.cells.toList.length = inf.size := by simpa using hz3
  have hallr : (repRow zv.cells.toList n).all Value.oneCell' = true := by
    rw [List.all_eq_true] at hall ⊢
    intro u hu
    simp only [repRow,List.mem_flatten,List.mem_replicate] at hu
    obtain ⟨l,⟨_,rfl⟩,hu⟩ := hu
    exact hall u hu
  have hrs := reps_sc (w := w) (S := S) hallr
  rw [repRow_map] at hrs
  have hk : Keeps no w (w.drew.alloc (.cells ((#[] : Array Value) ++ Builtin.zeroCells zv.cells n ++ Builtin.zeroCells zv.cells (c - n)) e)) := keeps_drew.trans (keeps_alloc _) (no_le _)
  have hcells : (w.drew.alloc (.cells ((#[] : Array Value) ++ Builtin.zeroCells zv.cells n ++ Builtin.zeroCells zv.cells (c - n)) e)).heap[w.heap.size]? = some (.cells ((#[] : Array Value) ++ Builtin.zeroCells zv.cells n ++ Builtin.zeroCells zv.cells (c - n)) e) := by
    rw [heap_alloc]
    exact Array.getElem?_push_size
  have hsz : (w.drew.alloc (.cells ((#[] : Array Value) ++ Builtin.zeroCells zv.cells n ++ Builtin.zeroCells zv.cells (c - n)) e)).heap.size = w.heap.size + 1 := by rw [heap_alloc,Array.size_push]; rfl
  have hfull : ((#[] : Array Value) ++ Builtin.zeroCells zv.cells n ++ Builtin.zeroCells zv.cells (c - n)).size = c * inf.size := by
    have hz4 : zv.cells.size = inf.size := hz3
    simp only [Array.size_append,size_zeroCells,hz4,Array.size_empty,Nat.zero_add,← Nat.add_mul]
    congr 1
    omega
  generalize w.drew.alloc (.cells ((#[] : Array Value) ++ Builtin.zeroCells zv.cells n ++ Builtin.zeroCells zv.cells (c - n)) e) = W at *
  have hrep : Rep W S (.sl true inf.size (repRow (zv.cells.toList.map scD) n)) (.slice (some ⟨w.heap.size,0,none⟩) n c) (rng w.heap.size 0 (c * inf.size)) := by
    simp only [Rep,if_true]
    refine ⟨_,n,c,rfl,by rw [repRow_len,List.length_map,hzs],hz0,hge,.inr ⟨w.heap.size,0,repRow zv.cells.toList n,no,rfl,?_,hrs.keep Agree.no (hk.agree h.exS (dis_no _)) (le_refl _) (le_refl _),le_refl _,no_le _,dis_no _,?_⟩⟩
    · intro k u hk'
      have hkl : k < (repRow zv.cells.toList n).length := (List.getElem?_eq_some_iff.1 hk').1
      rw [← hzr] at hkl hk'
      simp only [World.cell?,hcells]
      simp only [Nat.zero_add,Option.isSome_none,Bool.false_eq_true,if_false]
      rw [Array.getElem?_append_left (by simpa using hkl)]
      simpa using hk'
    · intro k hk'
      have : k < ((#[] : Array Value) ++ Builtin.zeroCells zv.cells n ++ Builtin.zeroCells zv.cells (c - n)).size := by rw [hfull]; exact hk'
      simp only [World.cell?,World.frozen?,hcells,Nat.zero_add]
      simp only [Option.isSome_none,Bool.false_eq_true,if_false]
      rw [Array.getElem?_eq_getElem this]
      simp
  refine hK _ _ no _ _ (Done.new (S1 := no) hk hfr' (fun ρ' hl _ => hrep) ?_) ⟨by simp,rfl⟩
  rintro b o ⟨rfl,_,_⟩
  exact ⟨Nat.le_refl _,by omega⟩
end
end Go.Proofs.YtnkeamihfiobdaaGreatDoor
end
section
set_option linter.unusedVariables false
set_option linter.unusedSimpArgs false
set_option maxRecDepth 100000
set_option maxHeartbeats 4000000
namespace Go.Proofs.YtnkeamihfiobdaaGreatDoor
open Go Foot
end Go.Proofs.YtnkeamihfiobdaaGreatDoor
end
section
set_option linter.unusedVariables false
set_option linter.unusedSimpArgs false
set_option maxRecDepth 100000
set_option maxHeartbeats 4000000
namespace Go.Proofs.YtnkeamihfiobdaaGreatDoor
open Go Foot
end Go.Proofs.YtnkeamihfiobdaaGreatDoor
end
section
set_option linter.unusedVariables false
set_option linter.unusedSimpArgs false
set_option maxRecDepth 100000
set_option maxHeartbeats 4000000
namespace Go.Proofs.YtnkeamihfiobdaaGreatDoor
open Go Foot
structure PtOk (m : Mach) (x : Part) : Prop where
  s : 0 ≤ x.st ∧ x.st ≤ m.st - 1
  a : 0 ≤ x.pl ∧ x.pl < x.ce.length
  l : (x.ce.length : Int) ≤ 60
  c : ∀ v ∈ x.ce,0 ≤ v ∧ v ≤ m.sy - 1
theorem pt_gd {m : Mach} {x : Part} (g : PtOk m x) : PtGd x := ⟨g.a.1,g.a.2,by have := g.l; omega⟩
end Go.Proofs.YtnkeamihfiobdaaGreatDoor
end
section
set_option linter.unusedVariables false
set_option linter.unusedSimpArgs false
set_option maxRecDepth 100000
set_option maxHeartbeats 4000000
namespace Go.Proofs.YtnkeamihfiobdaaGreatDoor
open Go Foot
structure LvOk (m : Mach) (l : List Part) : Prop where
  n : (l.length : Int) ≤ 6000
  a : ∀ x ∈ l,PtOk m x
theorem lv_at {m : Mach} {l : List Part} (g : LvOk m l) {i : Nat} (h : i < l.length) : PtOk m l[i] := g.a _ (List.getElem_mem h)
end Go.Proofs.YtnkeamihfiobdaaGreatDoor
end
section
set_option linter.unusedVariables false
set_option linter.unusedSimpArgs false
set_option maxRecDepth 100000
set_option maxHeartbeats 4000000
namespace Go.Proofs.YtnkeamihfiobdaaGreatDoor
open Go Foot
end Go.Proofs.YtnkeamihfiobdaaGreatDoor
end
section
set_option linter.unusedVariables false
set_option linter.unusedSimpArgs false
set_option maxRecDepth 100000
set_option maxHeartbeats 4000000
namespace Go.Proofs.YtnkeamihfiobdaaGreatDoor
open Go Foot
end Go.Proofs.YtnkeamihfiobdaaGreatDoor
end
section
set_option linter.unusedVariables false
set_option linter.unusedSimpArgs false
set_option maxRecDepth 100000
set_option maxHeartbeats 4000000
namespace Go.Proofs.YtnkeamihfiobdaaGreatDoor
open Go Foot
end Go.Proofs.YtnkeamihfiobdaaGreatDoor
end
section
set_option linter.unusedVariables false
set_option linter.unusedSimpArgs false
set_option maxRecDepth 100000
set_option maxHeartbeats 4000000
namespace Go.Proofs.YtnkeamihfiobdaaGreatDoor
open Go Foot
end Go.Proofs.YtnkeamihfiobdaaGreatDoor
end
section
set_option linter.unusedVariables false
set_option linter.unusedSimpArgs false
set_option maxRecDepth 100000
set_option maxHeartbeats 4000000
namespace Go.Proofs.YtnkeamihfiobdaaGreatDoor
open Go Foot
def isDg (c : UInt8) : Prop := 48 ≤ c.toNat ∧ c.toNat ≤ 57
def valD (l : Bs) : Nat := l.foldl (fun a c => 10 * a + (c.toNat - 48)) 0
theorem valD_snoc (l : Bs) (c : UInt8) : valD (l ++ [c]) = 10 * valD l + (c.toNat - 48) := by unfold valD; rw [List.foldl_append]; rfl
theorem dg_nat {d : Nat} (h : d < 10) : isDg (UInt8.ofNat (48 + d)) ∧ (UInt8.ofNat (48 + d)).toNat - 48 = d := by
  have : (UInt8.ofNat (48 + d)).toNat = 48 + d := by rw [UInt8.toNat_ofNat']; omega
  unfold isDg
  omega
theorem dec_val : ∀ (u : Nat),valD (Lib.decDigits u) = u ∧ (∀ c ∈ Lib.decDigits u,isDg c) ∧ Lib.decDigits u ≠ [] := by
  intro u
  induction u using Nat.strongRecOn with
  | _ u ih =>
    rw [Lib.decDigits]
    by_cases h : u < 10
    · rw [dif_pos h]
      obtain ⟨d1,d2⟩ := dg_nat h
      refine ⟨?_,fun c hc => by rw [List.mem_singleton.1 hc]; exact d1,by simp⟩
      have := valD_snoc [] (UInt8.ofNat (48 + u))
      rw [List.nil_append,d2] at this
      rw [this]
      simp [valD]
    · rw [dif_neg h]
      obtain ⟨i1,i2,i3⟩ := ih (u / 10) (by omega)
      obtain ⟨d1,d2⟩ := dg_nat (show u % 10 < 10 by omega)
      refine ⟨by rw [valD_snoc,i1,d2]; omega,fun c hc => ?_,by simp⟩
      rcases List.mem_append.1 hc with hc | hc
      · exact i2 c hc
      · rw [List.mem_singleton.1 hc]; exact d1
theorem split_at {α : Type} {s : α} : ∀ {a a' b b' : List α},a ++ s :: b = a' ++ s :: b' → s ∉ a → s ∉ a' → a = a' ∧ b = b'
  | [],[],b,b',h,_,_ => ⟨rfl,by simpa using h⟩
  | [],y :: a',b,b',h,_,h2 => by
    simp only [List.nil_append,List.cons_append,List.cons.injEq] at h
    exact absurd (by simp [h.1]) h2
  | x :: a,[],b,b',h,h1,_ => by
    simp only [List.nil_append,List.cons_append,List.cons.injEq] at h
    exact absurd (by simp [h.1]) h1
  | x :: a,y :: a',b,b',h,h1,h2 => by
    simp only [List.cons_append,List.cons.injEq] at h
    obtain ⟨q1,q2⟩ := split_at h.2 (fun q => h1 (by simp [q])) (fun q => h2 (by simp [q]))
    exact ⟨by rw [h.1,q1],q2⟩
theorem decT_nat {n : Int} (h : 0 ≤ n) : decT n = Lib.decDigits n.toNat := by
  unfold decT Lib.itoa
  rw [if_neg (by omega)]
theorem decT_dg {n : Int} (h : 0 ≤ n) : ∀ c ∈ decT n,isDg c := by rw [decT_nat h]; exact (dec_val _).2.1
theorem decT_inj {a b : Int} (ha : 0 ≤ a) (hb : 0 ≤ b) (h : decT a = decT b) : a = b := by
  rw [decT_nat ha,decT_nat hb] at h
  have := congrArg valD h
  rw [(dec_val _).1,(dec_val _).1] at this
  omega
end Go.Proofs.YtnkeamihfiobdaaGreatDoor
end
section
set_option linter.unusedVariables false
set_option linter.unusedSimpArgs false
set_option maxRecDepth 100000
set_option maxHeartbeats 4000000
namespace Go.Proofs.YtnkeamihfiobdaaGreatDoor
open Go Foot
@[irreducible] def root (sy st : Int) : Mach := ⟨sy,st,List.replicate (st * sy).toNat noR⟩
end Go.Proofs.YtnkeamihfiobdaaGreatDoor
end
section
set_option linter.unusedVariables false
set_option linter.unusedSimpArgs false
set_option maxRecDepth 100000
set_option maxHeartbeats 4000000
namespace Go.Proofs.YtnkeamihfiobdaaGreatDoor
open Go Foot
end Go.Proofs.YtnkeamihfiobdaaGreatDoor
end
section
set_option linter.unusedVariables false
set_option linter.unusedSimpArgs false
set_option maxRecDepth 100000
set_option maxHeartbeats 4000000
namespace Go.Proofs.YtnkeamihfiobdaaGreatDoor
open Go Foot
end Go.Proofs.YtnkeamihfiobdaaGreatDoor
end
section
set_option linter.unusedVariables false
set_option linter.unusedSimpArgs false
set_option maxRecDepth 100000
set_option maxHeartbeats 4000000
namespace Go.Proofs.YtnkeamihfiobdaaGreatDoor
open Go Foot
@[irreducible] def nmAt (l : List Int) (k : Int) : Int := (l.idxOf k : Nat)
@[irreducible] def nmIn (l : List Int) (k : Int) : List Int := if k ∈ l then l else l ++ [k]
structure Nm where
  ru : List Rule'
  ks : List Int
  ys : List Int
  fi : Int
@[irreducible] def nmF (x : Nm) (u : Rule') : Int := if x.fi = 0 then u.m else x.fi
@[irreducible] def nmS (m : Mach) (c : Conf) (hd : Int) (u : Rule') (x : Nm) : Nm :=
  { ru := x.ru.set (nmAt x.ks c.st * m.sy + nmAt x.ys (c.ri.headD 0)).toNat ⟨nmAt (nmIn x.ys (c.ri.headD 0)) u.w,u.m * nmF x u,nmAt (nmIn x.ks c.st) u.n⟩,ks := nmIn (nmIn x.ks c.st) u.n,ys := nmIn (nmIn x.ys (c.ri.headD 0)) u.w,fi := nmF x u }
structure NmOk (m : Mach) (c : Conf) (x : Nm) : Prop where
  h_ru : x.ru.length = m.ru.length
  h_fi : x.fi = 0 ∨ x.fi = 1 ∨ x.fi = -1
  h_ks : x.ks.Nodup ∧ ∀ k ∈ x.ks,0 ≤ k ∧ k ≤ m.st - 1
  h_ys : x.ys.Nodup ∧ ∀ k ∈ x.ys,0 ≤ k ∧ k ≤ m.sy - 1
  h_c : c.st ∈ x.ks
  h_0 : 0 ∈ x.ys
  h_t : (∀ k ∈ c.le,k ∈ x.ys) ∧ ∀ k ∈ c.ri,k ∈ x.ys
theorem pigeonN : ∀ (n : Nat) (l : List Int),l.Nodup → (∀ k ∈ l,0 ≤ k ∧ k < n) → l.length ≤ n
  | 0,l,_,h2 => by
    cases l with
    | nil => simp
    | cons a l => have := h2 a (by simp); omega
  | n + 1,l,h1,h2 => by
    by_cases hn : (n : Int) ∈ l
    · have h3 := pigeonN n (l.erase (n : Int)) (h1.erase _) fun k hk => by
        rw [h1.mem_erase_iff] at hk
        have := h2 k hk.2
        have := hk.1
        omega
      rw [List.length_erase_of_mem hn] at h3
      omega
    · have h3 := pigeonN n l h1 fun k hk => by
        have := h2 k hk
        have : k ≠ (n : Int) := fun e => hn (e ▸ hk)
        omega
      omega
theorem pigeon {l : List Int} {n : Int} (h0 : 0 ≤ n) (h1 : l.Nodup) (h2 : ∀ k ∈ l,0 ≤ k ∧ k ≤ n - 1) : (l.length : Int) ≤ n := by
  have := pigeonN n.toNat l h1 fun k hk => by have := h2 k hk; omega
  omega
theorem nmAt_lt {l : List Int} {k : Int} (h : k ∈ l) : 0 ≤ nmAt l k ∧ nmAt l k < l.length := by
  unfold nmAt
  have := List.idxOf_lt_length_of_mem h
  omega
theorem nmIn_mem {l : List Int} {k x : Int} : x ∈ nmIn l k ↔ x ∈ l ∨ x = k := by
  unfold nmIn
  split
  · rename_i h
    constructor
    · exact .inl
    · rintro (h1 | rfl)
      · exact h1
      · exact h
  · simp
theorem nmIn_nodup {l : List Int} {k : Int} (h : l.Nodup) : (nmIn l k).Nodup := by
  unfold nmIn
  split
  · exact h
  · rename_i hn
    rw [List.nodup_append]
    exact ⟨h,by simp,by simp; intro a ha e; subst e; exact hn ha⟩
theorem nm_at {m : Mach} {c : Conf} {x : Nm} (hm : vMach m = true) (hc : vConf m c = true) (h : NmOk m c x) : 0 ≤ nmAt x.ks c.st ∧ nmAt x.ks c.st ≤ 1000 ∧ 0 ≤ nmAt x.ys (c.ri.headD 0) ∧ nmAt x.ys (c.ri.headD 0) ≤ 6 ∧ nmAt x.ks c.st * m.sy + nmAt x.ys (c.ri.headD 0) < x.ru.length ∧ (x.ks.length : Int) ≤ 1000 ∧ (x.ys.length : Int) ≤ 6 ∧ c.ri.headD 0 ∈ x.ys := by
  have hv := vMach_bd hm
  have hy : c.ri.headD 0 ∈ x.ys := by
    cases hr : c.ri with
    | nil => exact h.h_0
    | cons a l => exact h.h_t.2 a (by rw [hr]; simp)
  have h1 := nmAt_lt h.h_c
  have h2 := nmAt_lt hy
  have h3 := pigeon (by omega) h.h_ks.1 h.h_ks.2
  have h4 := pigeon (by omega) h.h_ys.1 h.h_ys.2
  have h5 : nmAt x.ks c.st * m.sy ≤ (m.st - 1) * m.sy := Int.mul_le_mul_of_nonneg_right (by omega) (by omega)
  have h6 : (m.st - 1) * m.sy = m.sy * m.st - m.sy := by rw [Int.sub_mul,Int.mul_comm]; omega
  rw [h.h_ru]
  exact ⟨h1.1,by omega,h2.1,by omega,by omega,by omega,by omega,hy⟩
theorem NmOk.step {m : Mach} {c : Conf} {x : Nm} (hm : vMach m = true) (hc : vConf m c = true) (hn : ruAt m c ≠ noR) (h : NmOk m c x) (hd : Int) : NmOk m (stepS (ruAt m c) c) (nmS m c hd (ruAt m c) x) := by
  obtain ⟨hw,hmv,hst⟩ := ruAt_ok hm hc hn
  have ha := nm_at hm hc h
  have hcb := (vConf_bd hc).1
  have hfi : nmF x (ruAt m c) = 1 ∨ nmF x (ruAt m c) = -1 := by
    unfold nmF
    split
    · exact hmv
    · have := h.h_fi; omega
  have hy : c.ri.headD 0 ∈ x.ys := ha.2.2.2.2.2.2.2
  have hyi : nmIn x.ys (c.ri.headD 0) = x.ys := by unfold nmIn; rw [if_pos hy]
  have hki : nmIn x.ks c.st = x.ks := by unfold nmIn; rw [if_pos h.h_c]
  unfold nmS
  rw [hyi,hki]
  refine ⟨by dsimp only; rw [List.length_set]; exact h.h_ru,by dsimp only; omega,⟨nmIn_nodup h.h_ks.1,fun k hk => ?_⟩,⟨nmIn_nodup h.h_ys.1,fun k hk => ?_⟩,?_,?_,?_⟩
  · rcases nmIn_mem.1 hk with hk | rfl
    · exact h.h_ks.2 k hk
    · exact hst
  · rcases nmIn_mem.1 hk with hk | rfl
    · exact h.h_ys.2 k hk
    · exact hw
  · rw [stepS_n]; exact nmIn_mem.2 (.inr rfl)
  · exact nmIn_mem.2 (.inl h.h_0)
  · dsimp only
    have hold : ∀ k,k ∈ c.le ∨ k ∈ c.ri → k ∈ nmIn x.ys (ruAt m c).w := fun k hk => nmIn_mem.2 (.inl (hk.elim (h.h_t.1 k) (h.h_t.2 k)))
    have hnew : (ruAt m c).w ∈ nmIn x.ys (ruAt m c).w := nmIn_mem.2 (.inr rfl)
    unfold stepS
    split
    · refine ⟨fun k hk => ?_,fun k hk => hold k (.inr (List.mem_of_mem_tail hk))⟩
      rcases List.mem_cons.1 (trimR_mem hk) with rfl | hk
      · exact hnew
      · exact hold k (.inl hk)
    · refine ⟨fun k hk => hold k (.inl (List.mem_of_mem_tail hk)),fun k hk => ?_⟩
      rcases List.mem_cons.1 (trimR_mem hk) with rfl | hk
      · cases hl : c.le with
        | nil => exact nmIn_mem.2 (.inl h.h_0)
        | cons a l => exact hold a (.inl (by rw [hl]; simp))
      · rcases List.mem_cons.1 (trimR_mem hk) with rfl | hk
        · exact hnew
        · exact hold k (.inr (List.mem_of_mem_tail hk))
end Go.Proofs.YtnkeamihfiobdaaGreatDoor
end
section
set_option linter.unusedVariables false
set_option linter.unusedSimpArgs false
set_option maxRecDepth 100000
set_option maxHeartbeats 4000000
namespace Go.Proofs.YtnkeamihfiobdaaGreatDoor
open Go Foot
abbrev c0 : Conf := ⟨0,[],[]⟩
end Go.Proofs.YtnkeamihfiobdaaGreatDoor
end
section
set_option linter.unusedVariables false
set_option linter.unusedSimpArgs false
set_option maxRecDepth 100000
set_option maxHeartbeats 4000000
namespace Go.Proofs.YtnkeamihfiobdaaGreatDoor
open Go Foot
end Go.Proofs.YtnkeamihfiobdaaGreatDoor
end
section
set_option linter.unusedVariables false
set_option linter.unusedSimpArgs false
set_option maxRecDepth 100000
set_option maxHeartbeats 4000000
namespace Go.Proofs.YtnkeamihfiobdaaGreatDoor
open Go Foot
end Go.Proofs.YtnkeamihfiobdaaGreatDoor
end
section
set_option linter.unusedVariables false
set_option linter.unusedSimpArgs false
set_option maxRecDepth 100000
set_option maxHeartbeats 4000000
namespace Go.Proofs.YtnkeamihfiobdaaGreatDoor
open Go Foot
theorem preB93 {p : Prop} (h : p := by first | with_reducible assumption | omega | (simp only [List.length_append,List.length_cons,List.length_nil,List.length_set,List.length_replicate,List.length_take,List.length_drop,List.length_tail,List.length_dropLast,List.length_reverse] at *; omega) | exact mem_len (by assumption) (by omega) | (with_reducible refine Int.le_trans (Int.ofNat_le.2 (trimR_len _)) ?_; simp only [List.length_cons,List.length_tail]; omega) | (exact (ruAt_ok (by assumption) (by assumption) (by assumption)).2.1) | (exact (ruAt_ok (by assumption) (by assumption) (by assumption)).2.1) | (have := vMach_bd (by assumption); omega) | (simp only [mC_ch,mC_tu]; omega) | (have := vTag_bd (by assumption); omega) | (have := (‹Gd _ _›).le; omega) | (exact tgHalts_no (by assumption)) | (exact tgHead (by assumption) (by assumption) (by assumption)) | (exact Int.le_trans (tgStep_gd (by assumption) (by assumption) (by assumption) (by assumption)).le (by decide)) | (exact vTag_r (by assumption)) | (with_reducible refine Int.le_trans (Int.ofNat_le.2 (pushL_len _ _)) ?_; simp only [List.length_dropLast]; omega) | exact ls_at (by assumption) (by omega) | exact pt_gd (by assumption) | exact lv_at (by assumption) (by omega) | exact pt_gd (lv_at (by assumption) (by omega)) | exact (ask_ok (by assumption)).1 | exact (ask_ok (by assumption)).2.1 | exact (ask_ok (by assumption)).2.2.1 | exact (ask_ok (by assumption)).2.2.2 | trivial) : p := h
theorem cloneR_ok (xs : List Rule') (hx : (xs.length : Int) ≤ 16777216) : Does Tryz.prog 211 [.one (shR xs)] [] (.one (.gv 0)) [.row 3 (rows eR xs)] := by
  refine does_of (k := 0) Tryz.func211 rfl Tryz.ntmps211 rfl rfl fun w F0 S0 ρ0 => ?_
  dsimp only [argT,argH]
  repeat' first|(apply n3;exact a_nilO eR rfl;exact rfl)|(apply n3;(exact a_litE eR [] rfl rfl rfl rfl rfl rfl rfl rfl);exact rfl;refine dA ?_)|(apply p3;(exact pu1);exact rfl)|refine cd ?_|(apply s3;exact a_appE (fP rfl) rfl rfl rfl rfl nowR (by (simp <;> omega)) (by decide) (by decide) (by exact rfl);exact rfl;exact rfl)|(apply o_isnil;exact rfl;exact rfl;exact (fE rfl);exact rfl;exact rfl;intro b hnil)|((refine g_cond rfl (fun hc => ?_) (fun hc => ?_)) <;> (try simp only [dcB] at hc) <;> (try first|contradiction|(exfalso;omega)))|fail
  · repeat refine cr ?_
    refine ends_id ?_
    refine endK [?_] (h2 := ?_) (h3 := ?_) (nd := ?_)
    rotate_left 1
    all_goals (repeat' first|exact ce0|refine ce ?_|refine ce2 ?_ ?_|(refine Or.inr (bx_eq rfl rfl ?_);(try dsimp only [C.ren,C.ren.all]);(try exact rfl))|exact SVLe.refl|refine ceb ?_)
    all_goals first | exact (show nodupB _ = true from rfl) | exact Or.inr rfl | (exact (hnil hc).symm)
  · repeat refine cr ?_
    refine ends_id ?_
    refine endK [?_] (h2 := ?_) (h3 := ?_) (nd := ?_)
    rotate_left 1
    all_goals (repeat' first|exact ce0|refine ce ?_|refine ce2 ?_ ?_|(refine Or.inr (bx_eq rfl rfl ?_);(try dsimp only [C.ren,C.ren.all]);(try exact rfl))|exact SVLe.refl|refine ceb ?_)
    all_goals first | exact (show nodupB _ = true from rfl) | exact Or.inr rfl | (rfl)
theorem copyMachine_ok (m : Mach) (hx : (m.ru.length : Int) ≤ 16777216) : Does Tryz.prog 145 [.agg (maC m)] [] (.agg [int m.sy,int m.st,.gv 0]) [.row 3 (rows eR m.ru)] := by
  refine does_of (k := 0) Tryz.func145 rfl Tryz.ntmps145 rfl rfl fun w F0 S0 ρ0 => ?_
  dsimp only [argT,argH]
  repeat' first|(apply n3;exact a_new (gb := .bx _) rfl;exact rfl;refine dA ?_)|(apply p3;exact puL;exact rfl)|refine cd ?_|(apply w3;(exact a_st_bx rfl rfl rfl rfl (fN rfl rfl) (Nat.le_of_ble_eq_true rfl) rfl);exact rfl;refine dS ?_)|(apply c4 1;exact callK1 (θ := []) (hD := (cloneR_ok _ preB93));exact rfl;exact rfl;exact rfl;refine dM ?_)|fail
  repeat refine cr ?_
  refine ends_id ?_
  refine endK [?_] (h2 := ?_) (h3 := ?_) (nd := ?_)
  rotate_left 1
  all_goals (repeat' first|exact ce0|refine ce ?_|refine ce2 ?_ ?_|(refine Or.inr (bx_eq rfl rfl ?_);(try dsimp only [C.ren,C.ren.all]);(try exact rfl))|exact SVLe.refl|refine ceb ?_)
  all_goals first | exact (show nodupB _ = true from rfl) | exact Or.inr rfl | (rfl)
theorem l05Own_ok (m : Mach) (hx : (m.ru.length : Int) ≤ 16777216) : Does Tryz.prog 202 [.one (maB m)] [] (.agg [int m.sy,int m.st,.gv 0]) [.row 3 (rows eR m.ru)] := by
  refine does_of (k := 0) Tryz.func202 rfl Tryz.ntmps202 rfl rfl fun w F0 S0 ρ0 => ?_
  dsimp only [argT,argH]
  repeat' first|(apply n3;exact a_new (gb := .bx _) rfl;exact rfl;refine dA ?_)|refine cd ?_|(apply g_drN (id := 1) okM [[],[0],[0,1],[0,1,2],[],[4],[4,5],[4,5,6],[],[],[9],[9,10],[9,10,11],[8,9,10,11,12],[0,1,2,3,4,5,6,7,8,9,10,11,12,13],[0,1,2,3,4,5,6,7,8,9,10,11,12,13,14]] [([],[]),([],[]),([],[]),([],[]),([],[]),([],[]),([],[]),([],[]),([0],[]),([],[]),([],[]),([],[]),([],[]),([1],[1]),([],[]),([],[0])] 2;(focus (refine dp 0 0 [7,8,9,10,11,12,13,14,15,16] [(true,0),(true,1),(false,1)] pu1 ?_;refine dp 1 1 [7,8,9,10,11,12,13,14,15,16] [(true,0),(true,1),(false,1)] (a_pure (sv := .one _) rfl) ?_;refine dp 2 3 [7,8,9,10,11,12,13,14,15,16] [(true,0),(true,1),(false,1)] (a_pure (sv := .one _) rfl) ?_;refine dp 3 7 [7,8,9,10,11,12,13,14,15,16] [(true,0),(true,1),(false,1)] puL ?_;refine dp 4 0 [3,4,5,6,11,12,13,14,15,16] [(true,0),(true,1),(false,1)] pu1 ?_;refine dp 5 1 [3,4,5,6,11,12,13,14,15,16] [(true,0),(true,1),(false,1)] (a_pure (sv := .one _) rfl) ?_;refine dp 6 3 [3,4,5,6,11,12,13,14,15,16] [(true,0),(true,1),(false,1)] (a_pure (sv := .one _) rfl) ?_;refine dp 7 7 [3,4,5,6,11,12,13,14,15,16] [(true,0),(true,1),(false,1)] puL ?_;refine duE 8 0 [3,4,5,6,7,8,9,10,12,13,14,15] [] (atN 0 (fun _ => a_litE eR [] rfl rfl rfl rfl rfl rfl rfl rfl)) (by exact rfl) (by exact rfl) ?_;refine dp 9 0 [3,4,5,6,7,8,9,10,11] [(true,0)] pu1 ?_;refine dp 10 1 [3,4,5,6,7,8,9,10,11] [(true,0)] (a_pure (sv := .one _) rfl) ?_;refine dp 11 3 [3,4,5,6,7,8,9,10,11] [(true,0)] (a_pure (sv := .one _) rfl) ?_;refine dp 12 7 [3,4,5,6,7,8,9,10,11] [(true,0)] puL ?_;refine duE 13 31 [3,4,5,6,7,8,9,10] [] (atS 1 (fun _ hj => a_appE (fP rfl) rfl rfl rfl rfl nowR (by (simp <;> omega)) (by decide) hj (by exact rfl)) (by decide)) (by exact rfl) (by exact rfl) ?_;refine dp 14 16383 [] [] (a_pure (sv := .agg _) rfl) ?_;refine duE 15 32767 [] [] (by exact a_st_bx rfl rfl rfl rfl (fN rfl rfl) (Nat.le_of_ble_eq_true rfl) rfl) (by exact rfl) (by exact rfl) ?_;(refine d_nil ?_;refine dN ?_)));any_goals kernel_rfl)|fail
  repeat refine cr ?_
  refine ends_id ?_
  refine endK [?_] (h2 := ?_) (h3 := ?_) (nd := ?_)
  rotate_left 1
  all_goals (repeat' first|exact ce0|refine ce ?_|refine ce2 ?_ ?_|(refine Or.inr (bx_eq rfl rfl ?_);(try dsimp only [C.ren,C.ren.all]);(try exact rfl))|exact SVLe.refl|refine ceb ?_)
  all_goals first | exact (show nodupB _ = true from rfl) | exact Or.inr rfl | (rfl)
end Go.Proofs.YtnkeamihfiobdaaGreatDoor
end
