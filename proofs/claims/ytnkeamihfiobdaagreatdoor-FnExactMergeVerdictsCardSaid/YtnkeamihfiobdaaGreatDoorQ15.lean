/- Parts of the proof (15 of 23). -/
import Derived.Lib.AppendIntMem
import Derived.Test.YtnkeamihfiobdaaGreatDoorQ14
section
set_option linter.unusedVariables false
set_option linter.unusedSimpArgs false
set_option maxRecDepth 100000
namespace Go.Proofs.YtnkeamihfiobdaaGreatDoor
open Go Foot Go.Shelf Go.RowKit
abbrev c32 (n : Int) : C := .d (.sc (.int .i32 n))
abbrev nlC : C := .d (.sc .nilIface)
abbrev bldr (l : Bs) : GB := .bld 134 5 l
theorem cells_byt (l : Bs) (n : Int) (h0 : 0 ≤ n) (h1 : n ≤ 127) : Lib.byteCells l ++ [.int .u8 n] = Lib.byteCells (l ++ byt [n]) := by
  unfold Lib.byteCells byt
  simp only [List.map_append,List.map_cons,List.map_nil]
  rw [UInt8.toNat_ofNat_of_lt' (by show n.toNat < 256; omega),show ((n.toNat : Nat) : Int) = n by omega]
theorem repA_1 {w : World} {S : Foot} {ρ : Env} {v : Value} {vs : List Value} (h : RepA w S ρ [.one (.d (.sc v))] vs) : vs = [v] := by
  simp only [RepA,RepS,RepC,Rep] at h
  obtain ⟨_,_,rfl,⟨rfl,_⟩,rfl⟩ := h
  rfl
theorem repA_2 {w : World} {S : Foot} {ρ : Env} {v u : Value} {vs : List Value} (h : RepA w S ρ [.one (.d (.sc v)),.one (.d (.sc u))] vs) : vs = [v,u] := by
  simp only [RepA,RepS,RepC,Rep] at h
  obtain ⟨_,_,rfl,⟨rfl,_⟩,_,_,rfl,⟨rfl,_⟩,rfl⟩ := h
  rfl
theorem does_ext {P : Program} {f : Nat} {ags : List SV} {av : List Value} {res : SV} {rv : Value} (ha : ∀ w S ρ vs,RepA w S ρ ags vs → vs = av) (hr : ∀ w S ρ,RepS w S ρ res rv)
    (hc : ∀ (w : World) (S : Foot),Tabs w S → Calls P f av.toArray w fun en w' => en = .returned rv ∧ Below w.heap.size w w') : Does P f ags [] res [] := by
  intro vs w S ρ F hA hG
  have := ha _ _ _ _ hA
  subst this
  refine (hc w S hG.tab).mono ?_
  rintro en w' ⟨rfl,hb⟩
  refine ⟨rv,no,ρ,F,rfl,?_,hr _ _ _⟩
  refine ⟨⟨hb.os,hb.tape,hb.output,hb.size,fun k hk _ => hb.block k hk,fun k o hk _ => ?_⟩,no_le _,fun _ _ h => h.elim,by simp,fun i u _ h => h,hG.new,fun i gb hi => by simp at hi,fun i j hi => by simp at hi,fun i hi => by simp at hi,fun i hi => by simp at hi,fun i hi => by simp at hi⟩
  have e := hb.block k hk
  simp [World.cell?,World.frozen?,mapAt,e]
theorem byte_lt (b : UInt8) : ((b.toNat : Nat) : Int) < 256 := by have := b.toNat_lt; omega
theorem a_allocB {P : Program} {g : Gh} {st : St} {dst : Option Tmp} {ty : TypeId} {pos : String} {after : Array Edge} {guard : Option (Nat × Bool)} {T e i : Nat} (hT : zeroC P T = some [.pointer none,.slice none 0 0]) : Acts P g ⟨dst,.alloc T,ty,pos,after,guard⟩ st (.one (.gv i)) [] [(i,.bld T e [])] := by
  refine ⟨fun a w S ρ F h hn K Q hK => ?_⟩
  have hn' : ρ i = none := by simpa using hn (i,.bld T e []) (by simp)
  clear hn
  unfold zeroC at hT
  split at hT
  case h_2 => cases hT
  rename_i inf hi
  split at hT
  case h_2 => cases hT
  rename_i zv hz
  cases hb : zv.cells.toList.all Value.oneCell' with
  | false => rw [hb] at hT; cases hT
  | true =>
    rw [hb] at hT
    simp only [cond_true,Option.some.injEq] at hT
    have hrun : (execOp a.eval ⟨dst,.alloc T,ty,pos,after,guard⟩).run P w = .ok (.value (.pointer (some ⟨w.heap.size,0,none⟩))) (w.alloc (.cells zv.cells.toList.toArray T)) := by
      simp [execOp,Instr.alloc,zeroValue,typeInfo,hi,hz,run_newRow,go_sem]
    rw [hT] at hrun
    refine oper_in (fun _ h => nomatch h) ?_
    rw [hrun,Oper.uponIn_value]
    refine hK _ _ no _ _ (Done.new (S1 := no) (u := .pointer (some ⟨w.heap.size,0,none⟩)) (G := fun b _ => b = w.heap.size) (keeps_alloc _) hn' (fun ρ' hl _ => ?_) (by rintro b o rfl; simp)) ⟨by simp,rfl⟩
    exact ⟨w.heap.size,rfl,.pointer none,.slice none 0 0,.inl rfl,by simp [heap_alloc],World.ownsRowF_nil _ _ _ _,by simp [Value.ownBlock],fun _ => rfl,fun g hg => by simp [Value.ownBlock] at hg⟩
section
variable {g : Gh} {st : St} {dst : Option Tmp} {ty : TypeId} {pos : String} {after : Array Edge} {guard : Option (Nat × Bool)} {i : Nat}
theorem a_newB : Acts Tryz.prog g ⟨dst,.alloc 134,ty,pos,after,guard⟩ st (.one (.gv i)) [] [(i,bldr [])] := a_allocB (by kernel_rfl)
end
end Go.Proofs.YtnkeamihfiobdaaGreatDoor
end
