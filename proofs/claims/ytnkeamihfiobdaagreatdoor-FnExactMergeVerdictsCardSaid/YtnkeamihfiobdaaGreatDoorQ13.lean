/- Parts of the proof (13 of 23). -/
import Derived.Maps.RangeRun
import Derived.Test.YtnkeamihfiobdaaGreatDoorQ12
section
set_option linter.unusedVariables false
set_option linter.unusedSimpArgs false
set_option maxRecDepth 100000
namespace Go.Proofs.YtnkeamihfiobdaaGreatDoor
open Go Foot MapKept
section
variable {P : Program} {g : Gh} {t : List (Nat × SV)} {h : List (Nat × GB)} {n : Nat} {Q : Exit → St → Prop} {ops : Array Oper} {l : List Oper}
variable {ty : TypeId} {pos : String} {after : Array Edge} {x : Operand} {T kt et : TypeId} {α β : Type}
variable {st : St} {dst : Option Tmp} {guard : Option (Nat × Bool)}
end
end Go.Proofs.YtnkeamihfiobdaaGreatDoor
end
section
set_option linter.unusedVariables false
set_option linter.unusedSimpArgs false
set_option maxRecDepth 100000
set_option maxHeartbeats 4000000
namespace Go.Proofs.YtnkeamihfiobdaaGreatDoor
open Go Foot
end Go.Proofs.YtnkeamihfiobdaaGreatDoor
end
section
set_option linter.unusedVariables false
set_option linter.unusedSimpArgs false
set_option maxRecDepth 100000
namespace Go.Proofs.YtnkeamihfiobdaaGreatDoor
open Go Foot Go.Shelf Go.RowKit
theorem bd_size : (Tryz.prog.info? 134).map (·.size) = some 2 := by kernel_rfl
theorem bd_lies : liesAt Tryz.prog Tryz.prog.depth 134 (2 / Tryz.prog.cellsOf 134) 0 134 1 = true := by kernel_rfl
theorem by_info : (Tryz.prog.info? 5).map (fun i => (i.zero,i.size,i.bytes)) = some (some (.int .u8 0),1,1) := by kernel_rfl
set_option maxHeartbeats 2000000 in
theorem bs_check {b e : Nat} {p v : Value} {xs : List Value} {w : World} (h : Bl w 134 e b p v xs) :
    Calls Tryz.prog 162 #[self b] w fun en w' => en = .returned (.tuple #[]) ∧ w'.heap.size = w.heap.size ∧ Bl w' 134 e b (self b) v xs ∧ Fr b none w w' := by
  obtain ⟨j,hj,hjs⟩ := Option.map_eq_some_iff.1 bd_size
  rcases h.adr with hp | hp
  · subst hp
    have h0 : w.cell? ⟨b,0,none⟩ = some (.pointer none) := by rw [Lib.cell_of_heap h.at_]; rfl
    have hfz : w.frozen? ⟨b,0,none⟩ = false := Lib.frozen_of_heap h.at_ 0
    have hsh : w.shape? b = some (134,2) := by simp [World.shape?,h.at_]
    have fin : Bl (w.setCell ⟨b,0,none⟩ (self b)) 134 e b (self b) v xs := by
      refine ⟨.inr rfl,?_,?_,h.ne⟩
      · simp [World.setCell,Array.getElem?_modify,h.at_]
      · exact h.own.kept (row := some b) ⟨rfl,rfl,rfl,by simp [World.setCell],fun k _ hk => Below.heap_setCell _ _ _ _ (fun e => hk (by simp [e]))⟩ (Or.inr h.ne)
    clear h
    refine Calls.mono (R := fun en w' => en = .returned (.tuple #[]) ∧ w' = w.setCell ⟨b,0,none⟩ (self b)) ?_ ?_
    · go_enter Tryz.func162,Tryz.ntmps162
      go_wp2
      rw [Lib.run_to_unsafe w ⟨b,0,none⟩ Tryz.underlying132 Tryz.underlying268 hj (by rw [hjs]; decide) hsh (Nat.zero_lt_succ 1)]
      simp only [Result.andThen]
      rw [Oper.upon_value]
      go_wp2
      rw [run_callFunc_extern Tryz.func232 (by kernel_rfl) (by kernel_rfl) (by kernel_rfl) (e := Extern.AbiNoEscape.same) (by kernel_rfl)]
      rw [Lib.run_noEscape]
      simp only [Result.andThen]
      rw [Oper.upon_value]
      go_wp2
      rw [Lib.run_from_unsafe w ⟨b,0,none⟩ Tryz.underlying268 Tryz.underlying132 hj hsh bd_lies]
      simp only [Result.andThen]
      rw [Oper.upon_value]
      go_wp2
      go_end0
      exact ⟨rfl,rfl⟩
    · rintro en w' ⟨rfl,rfl⟩
      exact ⟨rfl,by simp [World.setCell],fin,Fr.set _ _ _ _ _⟩
  · subst hp
    have h0 : w.cell? ⟨b,0,none⟩ = some (.pointer (some ⟨b,0,none⟩)) := by rw [Lib.cell_of_heap h.at_]; rfl
    have fin := h
    clear h
    refine Calls.mono (R := fun en w' => en = .returned (.tuple #[]) ∧ w' = w) ?_ ?_
    · go_enter Tryz.func162,Tryz.ntmps162
      go_wp2
      rw [Lib.run_neq_ptr_same w _ Tryz.underlying132 hj]
      go_wp2
      go_end0
      exact ⟨rfl,rfl⟩
    · rintro en w' ⟨rfl,rfl⟩
      exact ⟨rfl,rfl,fin,Fr.refl _ _ _⟩
set_option maxHeartbeats 4000000 in
theorem bs_AppendRune {v : Value} {n : Nat} {xs : List Value} {r : Int} (hr0 : 0 ≤ r) (hr1 : r ≤ 127) {w : World} (hown : w.ownsRowF 0 5 1 v n xs) (hlen : n + 1 ≤ 140737488355328) :
    Calls Tryz.prog 240 #[v,.int .i32 r] w fun e w' => ∃ v',e = .returned v' ∧ w'.ownsRowF 0 5 1 v' (n + 1) (xs ++ [.int .u8 r]) ∧ OldNew w v.ownBlock v'.ownBlock ∧ ∃ o,(w.alloc o).grownBy w' v.ownBlock := by
  obtain ⟨i0,hi,hz0,hz1,hz2⟩ := info_parts by_info
  go_enter Tryz.func240,Tryz.ntmps240
  go_wp2_with (at_builtin; refine wpl_byte rfl _ _ 22 rfl 5 i0 Tryz.underlying22 hi hz0 hz1 hz2 _ _ _ rfl (hown.alloc _) ⟨w.heap.size,0,none⟩ 1 (.int .u8 r) rfl ?c1 rfl ?c4 ?_)
  all_goals first
    | (intro v' w2 hown' hgrow hon
       go_wp2
       go_ret
       refine ⟨_,rfl,hown',?_,_,hgrow⟩
       rcases hon with e | e | ⟨g,e,hg⟩
       · exact .inl e
       · exact .inr (.inl e)
       · exact .inr (.inr ⟨g,e,by simp at hg; omega⟩))
    | omega
    | (simp; omega)
    | simp
    | rfl
set_option maxHeartbeats 4000000 in
theorem bs_WriteRune {b : Nat} {p v : Value} {xs : List Value} {w : World} (h : Bl w 134 5 b p v xs) {r : Int} (hr0 : 0 ≤ r) (hr1 : r ≤ 127) (hlen : xs.length + 1 ≤ 140737488355328) :
    Calls Tryz.prog 183 #[self b,.int .i32 r] w fun e w' => e = .returned (.tuple #[.int .i64 1,.nilIface]) ∧ BlTo w w' 134 5 b v (xs ++ [.int .u8 r]) := by
  have e240 : ∀ args w,(callFunc 162 args).run Tryz.prog w = .ok (.enter 162 args) w := enters_of Tryz.func162 (by kernel_rfl) rfl
  have e242 : ∀ args w,(callFunc 240 args).run Tryz.prog w = .ok (.enter 240 args) w := enters_of Tryz.func240 (by kernel_rfl) rfl
  go_enter Tryz.func183,Tryz.ntmps183
  go_wp2_with (go_at_fn 162; refine (bs_check h).mono ?_)
  rintro e w1 ⟨rfl,-,h1,hf1⟩
  have hbk := h1.at_
  have hne := h1.ne
  have hown := h1.own
  clear h h1
  obtain ⟨ao,cap,rfl⟩ : ∃ ao cap,v = .slice ao xs.length cap := by
    rcases hown.2 with ⟨hv,h0⟩ | ⟨g,cap,cur,fz,hv,_⟩
    · exact ⟨none,0,by rw [hv,h0]⟩
    · exact ⟨_,_,hv⟩
  have c0 : w1.cell? ⟨b,0,none⟩ = some (self b) := by rw [Lib.cell_of_heap hbk]; rfl
  have c1 : w1.cell? ⟨b,1,none⟩ = some (.slice ao xs.length cap) := by rw [Lib.cell_of_heap hbk]; rfl
  go_wp2_with (go_at_fn 240; refine (bs_AppendRune hr0 hr1 hown hlen).mono ?_)
  rintro e w2 ⟨v',rfl,hown',hon,o,hgrow⟩
  have hlt : b < w1.heap.size := heap_lt hbk
  have hb2 : w2.heap[b]? = some (.cells #[self b,.slice ao xs.length cap] 134 (0,0)) := by
    rw [hgrow.block b (by simp; omega) (fun e => hne e.symm),Lib.alloc_old w1 _ b hlt]
    exact hbk
  have d0 : w2.cell? ⟨b,0,none⟩ = some (self b) := by rw [Lib.cell_of_heap hb2]; rfl
  have d1 : w2.cell? ⟨b,1,none⟩ = some (.slice ao xs.length cap) := by rw [Lib.cell_of_heap hb2]; rfl
  have f1 : w2.frozen? ⟨b,1,none⟩ = false := Lib.frozen_of_heap hb2 1
  obtain ⟨g,cap',rfl⟩ : ∃ g cap',v' = .slice (some ⟨g,0,none⟩) (xs.length + 1) cap' := by
    rcases hown'.2 with ⟨_,h0⟩ | ⟨g,cap',cur,fz,hv,_⟩
    · omega
    · exact ⟨g,cap',hv⟩
  go_wp2
  go_ret2
  obtain ⟨_,v2,k1,k2,k3⟩ := Lib.BuilderAtF.put (T := 134) (e := 5) (B := 0) (Nat.zero_le b) hb2 (bs' := xs ++ [.int .u8 r]) (by simpa using hown') (by decide)
  have hv2 : v2 = .slice (some ⟨g,0,none⟩) (xs.length + 1) cap' := by
    have : (w2.setCell ⟨b,1,none⟩ (.slice (some ⟨g,0,none⟩) (xs.length + 1) cap')).cell? ⟨b,1,none⟩ = some v2 := by rw [Lib.cell_of_heap k1]; rfl
    rw [cell_set_same d1] at this
    exact (Option.some.inj this).symm
  subst hv2
  refine ⟨?_,_,_,⟨.inr rfl,k1,k2,k3⟩,?_,((hf1.mono).trans (Fr.alloc _ none _ _) (by simp)).trans ((Fr.of hgrow).trans (Fr.set _ _ none _ _) (by simp)) (fun k _ e => e)⟩
  · have e : ((xs.length : Int) + 1 - (xs.length : Int)) = 1 := by omega
    simp [e]
  rcases hon with e | e | ⟨g,e,hg⟩
  · exact .inl e
  · exact .inr (.inl e)
  · exact .inr (.inr ⟨g,e,by have := hf1.size; omega⟩)
end Go.Proofs.YtnkeamihfiobdaaGreatDoor
end
