/- Parts of the proof (12 of 22). -/
import Derived.Shelf.Strings.BuilderK
import Derived.Test.YtnkeamihfiobdaaGreatDoorQ11
section
set_option linter.unusedVariables false
set_option linter.unusedSimpArgs false
set_option maxRecDepth 100000
namespace Go.Proofs.YtnkeamihfiobdaaGreatDoor
open Go Foot Go.Shelf Go.RowKit
structure Fr (b : Nat) (q : Option Nat) (w w' : World) : Prop where
  os : w'.os = w.os
  tape : w'.tape = w.tape
  output : w'.output = w.output
  size : w.heap.size ≤ w'.heap.size
  block : ∀ k,k < w.heap.size → k ≠ b → some k ≠ q → w'.heap[k]? = w.heap[k]?
theorem Fr.refl (b : Nat) (q : Option Nat) (w : World) : Fr b q w w := ⟨rfl,rfl,rfl,Nat.le_refl _,fun _ _ _ _ => rfl⟩
theorem Fr.trans {b : Nat} {q q' : Option Nat} {w w1 w2 : World} (h : Fr b q w w1) (h' : Fr b q' w1 w2) (hq : ∀ k,k < w.heap.size → some k = q' → some k = q) : Fr b q w w2 :=
  ⟨h'.os.trans h.os,h'.tape.trans h.tape,h'.output.trans h.output,Nat.le_trans h.size h'.size,fun k hk hb hn => (h'.block k (Nat.lt_of_lt_of_le hk h.size) hb (fun e => hn (hq k hk e))).trans (h.block k hk hb hn)⟩
theorem Fr.mono {b : Nat} {q : Option Nat} {w w' : World} (h : Fr b none w w') : Fr b q w w' := ⟨h.os,h.tape,h.output,h.size,fun k hk hb _ => h.block k hk hb (by simp)⟩
theorem Fr.set (b o : Nat) (q : Option Nat) (w : World) (v : Value) : Fr b q w (w.setCell ⟨b,o,none⟩ v) := ⟨rfl,rfl,rfl,by simp [World.setCell],fun k _ hb _ => by simp [World.setCell,Array.getElem?_modify,Ne.symm hb]⟩
theorem Fr.alloc (b : Nat) (q : Option Nat) (w : World) (o : Obj) : Fr b q w (w.alloc o) := ⟨rfl,rfl,rfl,by simp,fun k hk _ _ => Lib.alloc_old w o k hk⟩
theorem Fr.of {b : Nat} {q : Option Nat} {w w' : World} (h : w.grownBy w' q) : Fr b q w w' := ⟨h.os,h.tape,h.output,h.size,fun k hk _ hq => h.block k hk hq⟩
def OldNew (w : World) (q q' : Option Nat) : Prop := q' = q ∨ q' = none ∨ ∃ g,q' = some g ∧ w.heap.size ≤ g
section
variable {P : Program} {w : World}
theorem app_string (t u ty e : TypeId) (i : TypeInfo) (ht : P.underlying t = some (.slice e)) (hu : P.underlying u = some .string) (hi : P.info? e = some i) (hz : i.zero = some (.int .u8 0)) (hsize : i.size = 1) (hby : i.bytes = 1)
    (v : Value) (n : Nat) (xs : List Value) (hown : w.ownsRowF 0 e 1 v n xs) (s : ByteArray) (hb : n + s.size ≤ 140737488355328) :
    ∃ v' w',(Builtin.append_ #[t,u] ty #[v,.string s]).run P w = .ok v' w' ∧ w'.ownsRowF 0 e 1 v' (n + s.size) (xs ++ Lib.strCells s) ∧ w.grownBy w' v.ownBlock ∧ OldNew w v.ownBlock v'.ownBlock := by
  have h63 : n + s.size ≤ maxLen := by unfold maxLen; omega
  obtain ⟨v',w',r1,r2,r3,r4⟩ := Lib.run_append_own_stringF (P := P) w 0 t u ty e i ht hu hi hz hsize hby v n xs hown s h63 hb (Nat.zero_le _)
  refine ⟨v',w',r1,r2,r3,?_⟩
  rcases hown.2 with ⟨rfl,rfl⟩ | ⟨g,cap,cur,fz,rfl,hbg,hg,hfz,hnc,hcm,hcs,htake⟩
  · by_cases h0 : s.size = 0
    · rw [r4.2 ⟨rfl,h0⟩]; exact .inl rfl
    · have hr := run_append_nil_string (P := P) w t u ty e i (.int .u8 0) ht hu hi hz s (by omega) (by omega) (by rw [hby]; omega)
      rw [hr] at r1
      injection r1 with e1 e2
      subst e1
      exact .inr (.inr ⟨_,rfl,Nat.le_refl _⟩)
  · have hcs' : cur.size = cap := by simpa using hcs
    by_cases hroom : n + s.size ≤ cap
    · have hr := Lib.run_append_room_stringF (P := P) w t u ty e i ht hu hi hsize g n cap cur fz hg (by simpa using hfz) s hroom (by omega)
      rw [hr] at r1
      injection r1 with e1 e2
      subst e1
      exact .inl rfl
    · have hr := Lib.run_append_grow_string (P := P) w t u ty e i (.int .u8 0) ht hu hi hz ⟨g,0,none⟩ n cap xs (by rw [hsize]; simpa using hown.1) (hown.cells (g := g) rfl) s (by omega) (by omega) (by rw [hby]; exact growslice_fits (by omega) (by omega))
      rw [hr] at r1
      injection r1 with e1 e2
      subst e1
      exact .inr (.inr ⟨_,rfl,Nat.le_refl _⟩)
theorem wpl_string {ops : Array Oper} {rest : List Oper} {o : Oper} {a : Act} {Q : Exit → Act → World → Prop} (hgd : o.guard = none) (sl x : Operand) (t u : TypeId)
    (ho : o.op = .call { callee := .builtin .append,args := #[sl,x],argTypes := #[t,u] })
    (e : TypeId) (i : TypeInfo) (ht : P.underlying t = some (.slice e)) (hu : P.underlying u = some .string) (hi : P.info? e = some i) (hz : i.zero = some (.int .u8 0)) (hsize : i.size = 1) (hby : i.bytes = 1)
    (v : Value) (n : Nat) (xs : List Value) (hs : a.eval sl = v) (hown : w.ownsRowF 0 e 1 v n xs) (s : ByteArray) (hx : a.eval x = .string s) (hb : n + s.size ≤ 140737488355328)
    (h : ∀ v' w',w'.ownsRowF 0 e 1 v' (n + s.size) (xs ++ Lib.strCells s) → w.grownBy w' v.ownBlock → OldNew w v.ownBlock v'.ownBlock → wpList P ops Q rest (a.put o.dst v') w') : wpList P ops Q (o :: rest) a w := by
  refine wpList_plain hgd fun K hK => ?_
  obtain ⟨v',w',hr,h2,h3,h4⟩ := app_string (P := P) (w := w) t u o.type e i ht hu hi hz hsize hby v n xs hown s hb
  unfold Oper.wp execOp
  simp only [ho,resolve,invoke,builtin,Sem.run_bind,Sem.run_pure,Result.andThen_ok,List.map_toArray,List.map_cons,List.map_nil,hs,hx,hr]
  exact hK _ _ (h v' w' h2 h3 h4)
end
section
variable {P : Program} {ρ : Ren}
abbrev self (b : Nat) : Value := .pointer (some ⟨b,0,none⟩)
structure Bl (w : World) (T e b : Nat) (p v : Value) (xs : List Value) : Prop where
  adr : p = .pointer none ∨ p = self b
  at_ : w.heap[b]? = some (.cells #[p,v] T (0,0))
  own : w.ownsRowF 0 e 1 v xs.length xs
  ne : v.ownBlock ≠ some b
def BlTo (w w' : World) (T e b : Nat) (v : Value) (xs : List Value) : Prop := ∃ p' v',Bl w' T e b p' v' xs ∧ OldNew w v.ownBlock v'.ownBlock ∧ Fr b v.ownBlock w w'
theorem heap_lt {w : World} {b : Nat} {o : Obj} (h : w.heap[b]? = some o) : b < w.heap.size := (Array.getElem?_eq_some_iff.1 h).1
theorem Fr.drew (b : Nat) (q : Option Nat) (w : World) : Fr b q w w.drew := ⟨rfl,rfl,rfl,Nat.le_refl _,fun _ _ _ _ => rfl⟩
theorem Fr.freeze (b g n : Nat) (w : World) : Fr b (some g) w (w.freeze ⟨g,0,none⟩ n) := by
  unfold World.freeze
  split
  · exact Fr.refl _ _ _
  · exact ⟨rfl,rfl,rfl,by simp,fun k _ _ hk => by simp only [Array.getElem?_modify]; rw [if_neg (fun e => hk (by rw [e]))]⟩
theorem Bl.drew {w : World} {T e b : Nat} {p v : Value} {xs : List Value} (h : Bl w T e b p v xs) : Bl w.drew T e b p v xs := ⟨h.adr,h.at_,h.own,h.ne⟩
set_option maxHeartbeats 2000000 in
theorem bl_String1 (L : Lays.n169 P ρ) (X : Builder.Extra P ρ) {b : Nat} {p v : Value} {l : List UInt8} {w : World} (h : Bl w (ρ.t 72) (ρ.t 5) b p v (Lib.byteCells l)) (h0 : l ≠ []) :
    Calls P (ρ.f 169) #[self b] w fun e w' => e = .returned (.string ⟨l.toArray⟩) ∧ BlTo w w' (ρ.t 72) (ρ.t 5) b v (Lib.byteCells l) := by
  obtain ⟨hp,hbk,hown,hne⟩ := h
  have hl0 : l.length ≠ 0 := by simpa using h0
  rw [Lib.byteCells_length] at hown
  obtain ⟨g,cap,cur,fz,rfl,hbg,hg,hfz,hnc,hcm,hcs,htake⟩ : ∃ g cap cur fz,v = .slice (some ⟨g,0,none⟩) l.length cap ∧ 0 ≤ g ∧ w.heap[g]? = some (.cells cur (ρ.t 5) fz) ∧ fz.2 ≤ l.length * 1 ∧ l.length ≤ cap ∧ cap ≤ maxLen ∧ cur.size = cap * 1 ∧ cur.toList.take (l.length * 1) = Lib.byteCells l := by
    rcases hown.2 with ⟨_,hz⟩ | ⟨g,cap,cur,fz,hv,r⟩
    · exact absurd hz hl0
    · exact ⟨g,cap,cur,fz,hv,r⟩
  have c1 : w.drew.cell? ⟨b,1,none⟩ = some (.slice (some ⟨g,0,none⟩) l.length cap) := by
    have : w.drew.heap[b]? = some (.cells #[p,.slice (some ⟨g,0,none⟩) l.length cap] (ρ.t 72) (0,0)) := hbk
    rw [Lib.cell_of_heap this]; rfl
  have hSD : (Builtin.unsafeSliceData_ #[(ρ.t 37)] (ρ.t 127) #[.slice (some ⟨g,0,none⟩) l.length cap]).run P w.drew = .ok (.pointer (some ⟨g,0,none⟩)) w.drew :=
    Lib.run_unsafeSliceData_row _ _ _ _ _ _ (by omega)
  have hUS : (Builtin.unsafeString_ #[(ρ.t 127),(ρ.t 3)] (ρ.t 9) #[.pointer (some ⟨g,0,none⟩),.int .i64 l.length]).run P w.drew = .ok (.string ⟨l.toArray⟩) (w.drew.freeze ⟨g,0,none⟩ l.length) := by
    refine Lib.run_unsafeString_row w.drew (ρ.t 127) (ρ.t 3) (ρ.t 9) (ρ.t 5) L.t127 X.cellsByte g cur.size (by have hg' : w.drew.heap[g]? = some (.cells cur (ρ.t 5) fz) := hg; simp [World.shape?,hg']) l h0 (by omega) (by unfold maxLen at hcm; omega) ?_
    intro j x hx
    have := hown.cells (g := g) rfl j (.int .u8 x.toNat) (by simp [Lib.byteCells,hx])
    exact this
  have hA : Lib.BuilderAtF (ρ.t 72) (ρ.t 5) 0 b p (Lib.byteCells l) w.drew := ⟨Nat.zero_le _,_,hbk,by rw [Lib.byteCells_length]; exact hown,hne⟩
  have hF := hA.froze (g := g) (cap := cap) (by rw [Lib.byteCells_length]; exact c1)
  rw [Lib.byteCells_length] at hF
  have hBl : BlTo w (w.drew.freeze ⟨g,0,none⟩ l.length) (ρ.t 72) (ρ.t 5) b (.slice (some ⟨g,0,none⟩) l.length cap) (Lib.byteCells l) := by
    obtain ⟨_,v2,k1,k2,k3⟩ := hF
    have hgb : g ≠ b := fun e => hne (by simp [Value.ownBlock,e])
    have : v2 = .slice (some ⟨g,0,none⟩) l.length cap := by
      have e := (Fr.freeze g g l.length w.drew).block b (heap_lt hbk) (Ne.symm hgb) (fun e => hgb (Option.some.inj e).symm)
      rw [k1] at e
      have e2 : w.drew.heap[b]? = some (.cells #[p,.slice (some ⟨g,0,none⟩) l.length cap] (ρ.t 72) (0,0)) := hbk
      rw [e2] at e
      simpa using e
    subst this
    exact ⟨_,_,⟨hp,k1,k2,k3⟩,.inl rfl,(Fr.drew b (some g) w).trans (Fr.freeze b g _ _) (fun _ _ e => e)⟩
  have mixed := L.mixed
  have t72 := L.t72; have a72 := L.a72; have z72 := L.z72; have v72 := L.v72; have u72 := run_underlying L.t72
  have t70 := L.t70; have a70 := L.a70; have z70 := L.z70; have v70 := L.v70; have u70 := run_underlying L.t70
  have t37 := L.t37; have a37 := L.a37; have z37 := L.z37; have v37 := L.v37; have u37 := run_underlying L.t37
  have t127 := L.t127; have a127 := L.a127; have z127 := L.z127; have v127 := L.v127; have u127 := run_underlying L.t127
  have t3 := L.t3; have a3 := L.a3; have z3 := L.z3; have v3 := L.v3; have u3 := run_underlying L.t3
  have t9 := L.t9; have a9 := L.a9; have z9 := L.z9; have v9 := L.v9; have u9 := run_underlying L.t9
  have t5 := X.t5; have a5 := X.a5; have z5 := X.z5; have v5 := X.v5; have u5 := run_underlying X.t5
  go_enter L.f169,Body.n169_ntmps ρ
  go_wp2
  go_region_o
  all_goals (go_wp2; go_ret; exact ⟨rfl,hBl⟩)
set_option maxHeartbeats 2000000 in
theorem bl_String2 (L : Lays.n169 P ρ) (X : Builder.Extra P ρ) {b : Nat} {p : Value} {w : World} (h : Bl w (ρ.t 72) (ρ.t 5) b p (.slice none 0 0) []) :
    Calls P (ρ.f 169) #[self b] w fun e w' => e = .returned (.string ⟨#[]⟩) ∧ BlTo w w' (ρ.t 72) (ρ.t 5) b (.slice none 0 0) [] := by
  have hUS := Any.unsafeString_none L X
  have hbk := h.at_
  have c1 : w.drew.cell? ⟨b,1,none⟩ = some (.slice none 0 0) := by
    have : w.drew.heap[b]? = some (.cells #[p,.slice none 0 0] (ρ.t 72) (0,0)) := hbk
    rw [Lib.cell_of_heap this]; rfl
  have hSD : (Builtin.unsafeSliceData_ #[(ρ.t 37)] (ρ.t 127) #[.slice none 0 0]).run P w.drew = .ok (.pointer none) w.drew := rfl
  have hBl : BlTo w w.drew (ρ.t 72) (ρ.t 5) b (.slice none 0 0) [] := ⟨_,_,h.drew,.inl rfl,Fr.drew _ _ _⟩
  clear h
  have mixed := L.mixed
  have t72 := L.t72; have a72 := L.a72; have z72 := L.z72; have v72 := L.v72; have u72 := run_underlying L.t72
  have t70 := L.t70; have a70 := L.a70; have z70 := L.z70; have v70 := L.v70; have u70 := run_underlying L.t70
  have t37 := L.t37; have a37 := L.a37; have z37 := L.z37; have v37 := L.v37; have u37 := run_underlying L.t37
  have t127 := L.t127; have a127 := L.a127; have z127 := L.z127; have v127 := L.v127; have u127 := run_underlying L.t127
  have t3 := L.t3; have a3 := L.a3; have z3 := L.z3; have v3 := L.v3; have u3 := run_underlying L.t3
  have t9 := L.t9; have a9 := L.a9; have z9 := L.z9; have v9 := L.v9; have u9 := run_underlying L.t9
  have t5 := X.t5; have a5 := X.a5; have z5 := X.z5; have v5 := X.v5; have u5 := run_underlying X.t5
  go_enter L.f169,Body.n169_ntmps ρ
  go_wp2
  go_region_o
  all_goals (go_wp2; go_ret; exact ⟨rfl,hBl⟩)
set_option maxHeartbeats 2000000 in
theorem bl_String3 (L : Lays.n169 P ρ) (X : Builder.Extra P ρ) {b g : Nat} {p : Value} {cur : Array Value} {fz : Nat × Nat} {w : World} (hg : w.heap[g]? = some (.cells cur (ρ.t 5) fz)) (h : Bl w (ρ.t 72) (ρ.t 5) b p (.slice (some ⟨g,0,none⟩) 0 0) []) :
    Calls P (ρ.f 169) #[self b] w fun e w' => e = .returned (.string ⟨#[]⟩) ∧ BlTo w w' (ρ.t 72) (ρ.t 5) b (.slice (some ⟨g,0,none⟩) 0 0) [] := by
  have hUS := Any.unsafeString_none L X
  have hbk := h.at_
  have hlt : b < w.heap.size := heap_lt hbk
  have hBl : BlTo w (w.drew.alloc (.view ⟨g,0,none⟩ (ρ.t 5))) (ρ.t 72) (ρ.t 5) b (.slice (some ⟨g,0,none⟩) 0 0) [] :=
    ⟨_,_,⟨h.adr,(Lib.alloc_old w.drew _ b hlt).trans hbk,h.drew.own.alloc _,h.ne⟩,.inl rfl,(Fr.drew b _ w).trans (Fr.alloc b _ _ _) (fun _ _ e => e)⟩
  have hBl' : BlTo w (w.alloc (.view ⟨g,0,none⟩ (ρ.t 5))).drew (ρ.t 72) (ρ.t 5) b (.slice (some ⟨g,0,none⟩) 0 0) [] := hBl
  have c1 : w.drew.cell? ⟨b,1,none⟩ = some (.slice (some ⟨g,0,none⟩) 0 0) := by
    have : w.drew.heap[b]? = some (.cells #[p,.slice (some ⟨g,0,none⟩) 0 0] (ρ.t 72) (0,0)) := hbk
    rw [Lib.cell_of_heap this]; rfl
  have hSD : (Builtin.unsafeSliceData_ #[(ρ.t 37)] (ρ.t 127) #[.slice (some ⟨g,0,none⟩) 0 0]).run P w.drew = .ok (.pointer (some ⟨w.drew.heap.size,0,none⟩)) (w.drew.alloc (.view ⟨g,0,none⟩ (ρ.t 5))) :=
    Lib.run_unsafeSliceData_zero w.drew _ _ (ρ.t 5) L.t127 ⟨g,0,none⟩ 0 ((ρ.t 5),cur.size) (by have hg' : w.drew.heap[g]? = some (.cells cur (ρ.t 5) fz) := hg; simp [World.shape?,hg'])
  have c2 : (w.drew.alloc (.view ⟨g,0,none⟩ (ρ.t 5))).cell? ⟨b,1,none⟩ = some (.slice (some ⟨g,0,none⟩) 0 0) := by
    have : (w.drew.alloc (.view ⟨g,0,none⟩ (ρ.t 5))).heap[b]? = _ := (Lib.alloc_old w.drew _ b hlt).trans hbk
    rw [Lib.cell_of_heap this]; rfl
  have c3 : (w.alloc (.view ⟨g,0,none⟩ (ρ.t 5))).drew.cell? ⟨b,1,none⟩ = some (.slice (some ⟨g,0,none⟩) 0 0) := c2
  have c0 : w.cell? ⟨b,1,none⟩ = some (.slice (some ⟨g,0,none⟩) 0 0) := c1
  clear h
  have mixed := L.mixed
  have t72 := L.t72; have a72 := L.a72; have z72 := L.z72; have v72 := L.v72; have u72 := run_underlying L.t72
  have t70 := L.t70; have a70 := L.a70; have z70 := L.z70; have v70 := L.v70; have u70 := run_underlying L.t70
  have t37 := L.t37; have a37 := L.a37; have z37 := L.z37; have v37 := L.v37; have u37 := run_underlying L.t37
  have t127 := L.t127; have a127 := L.a127; have z127 := L.z127; have v127 := L.v127; have u127 := run_underlying L.t127
  have t3 := L.t3; have a3 := L.a3; have z3 := L.z3; have v3 := L.v3; have u3 := run_underlying L.t3
  have t9 := L.t9; have a9 := L.a9; have z9 := L.z9; have v9 := L.v9; have u9 := run_underlying L.t9
  have t5 := X.t5; have a5 := X.a5; have z5 := X.z5; have v5 := X.v5; have u5 := run_underlying X.t5
  go_enter L.f169,Body.n169_ntmps ρ
  go_wp2
  go_region_o
  all_goals (go_wp2; go_ret; exact ⟨rfl,by first | exact hBl | exact hBl'⟩)
set_option maxHeartbeats 2000000 in
theorem bl_String4 (L : Lays.n169 P ρ) (X : Builder.Extra P ρ) {b g cap : Nat} {p : Value} {w : World} (hc0 : cap ≠ 0) (h : Bl w (ρ.t 72) (ρ.t 5) b p (.slice (some ⟨g,0,none⟩) 0 cap) []) :
    Calls P (ρ.f 169) #[self b] w fun e w' => e = .returned (.string ⟨#[]⟩) ∧ BlTo w w' (ρ.t 72) (ρ.t 5) b (.slice (some ⟨g,0,none⟩) 0 cap) [] := by
  have hUS := Any.unsafeString_none L X
  have hbk := h.at_
  have c1 : w.drew.cell? ⟨b,1,none⟩ = some (.slice (some ⟨g,0,none⟩) 0 cap) := by
    have : w.drew.heap[b]? = some (.cells #[p,.slice (some ⟨g,0,none⟩) 0 cap] (ρ.t 72) (0,0)) := hbk
    rw [Lib.cell_of_heap this]; rfl
  have hSD : (Builtin.unsafeSliceData_ #[(ρ.t 37)] (ρ.t 127) #[.slice (some ⟨g,0,none⟩) 0 cap]).run P w.drew = .ok (.pointer (some ⟨g,0,none⟩)) w.drew :=
    Lib.run_unsafeSliceData_row _ _ _ _ _ _ hc0
  have hUS := Any.unsafeString_none L X
  have hBl : BlTo w w.drew (ρ.t 72) (ρ.t 5) b (.slice (some ⟨g,0,none⟩) 0 cap) [] := ⟨_,_,h.drew,.inl rfl,Fr.drew _ _ _⟩
  clear hc0 h
  have mixed := L.mixed
  have t72 := L.t72; have a72 := L.a72; have z72 := L.z72; have v72 := L.v72; have u72 := run_underlying L.t72
  have t70 := L.t70; have a70 := L.a70; have z70 := L.z70; have v70 := L.v70; have u70 := run_underlying L.t70
  have t37 := L.t37; have a37 := L.a37; have z37 := L.z37; have v37 := L.v37; have u37 := run_underlying L.t37
  have t127 := L.t127; have a127 := L.a127; have z127 := L.z127; have v127 := L.v127; have u127 := run_underlying L.t127
  have t3 := L.t3; have a3 := L.a3; have z3 := L.z3; have v3 := L.v3; have u3 := run_underlying L.t3
  have t9 := L.t9; have a9 := L.a9; have z9 := L.z9; have v9 := L.v9; have u9 := run_underlying L.t9
  have t5 := X.t5; have a5 := X.a5; have z5 := X.z5; have v5 := X.v5; have u5 := run_underlying X.t5
  go_enter L.f169,Body.n169_ntmps ρ
  go_wp2
  go_region_o
  all_goals (go_wp2; go_ret; exact ⟨rfl,hBl⟩)
theorem bl_String (L : Lays.n169 P ρ) (X : Builder.Extra P ρ) {b : Nat} {p v : Value} {l : List UInt8} {w : World} (h : Bl w (ρ.t 72) (ρ.t 5) b p v (Lib.byteCells l)) :
    Calls P (ρ.f 169) #[self b] w fun e w' => e = .returned (.string ⟨l.toArray⟩) ∧ BlTo w w' (ρ.t 72) (ρ.t 5) b v (Lib.byteCells l) := by
  cases l with
  | cons x r => exact bl_String1 L X h (by simp)
  | nil =>
    have h' : Bl w (ρ.t 72) (ρ.t 5) b p v [] := h
    rcases h.own.2 with ⟨rfl,_⟩ | ⟨g,cap,cur,fz,rfl,hbg,hg,_⟩
    · exact bl_String2 L X h'
    · by_cases hc0 : cap = 0
      · subst hc0
        exact bl_String3 L X hg h'
      · exact bl_String4 L X hc0 h'
end
theorem does_bld {P : Program} {f : Nat} {T e : Nat} {l l' : List UInt8} {ags : List SV} {av : List Value} {res : SV} {rv : Value} (ha : ∀ w S ρ vs,RepA w S ρ ags vs → vs = av) (hr : ∀ w S ρ,RepS w S ρ res rv)
    (hc : ∀ (w : World) (b : Nat) (p v : Value),Bl w T e b p v (Lib.byteCells l) → Calls P f (self b :: av).toArray w fun en w' => en = .returned rv ∧ BlTo w w' T e b v (Lib.byteCells l')) :
    Does P f (.one (.gv 0) :: ags) [.bld T e l] res [.bld T e l'] := by
  intro vs w S ρ F hA hG
  simp only [RepA] at hA
  obtain ⟨v0,us,rfl,h0,hA⟩ := hA
  have := ha _ _ _ _ hA
  subst this
  obtain ⟨v,hv,hg⟩ := (hG.roots 0 (.bld T e l) rfl).resolve_left (by simp)
  simp only [RepG] at hg
  obtain ⟨b,rfl,p,q,hp,hat,hown,hne,hFb,hFq⟩ := hg
  have h0' := h0.1
  rw [hv] at h0'
  cases h0'
  refine (hc w b p q ⟨hp,hat,by rwa [Lib.byteCells_length],hne⟩).mono ?_
  rintro en w' ⟨rfl,p',v',hB,hon,hfr⟩
  have hFb' : ∀ o,upTo F 1 b o := fun o => ⟨0,by omega,hFb o⟩
  have hbl : ∀ k,k < w.heap.size → (∃ o,¬ upTo F 1 k o) → w'.heap[k]? = w.heap[k]? := fun k hk ⟨o,ho⟩ => hfr.block k hk (fun e => by subst e; exact ho (hFb' o)) (fun e => ho ⟨0,by omega,hFq k e.symm o⟩)
  have hl' : (Lib.byteCells l').length = l'.length := Lib.byteCells_length l'
  refine ⟨rv,no,ρ,fun i => if i = 0 then (fun b o => F 0 b o ∨ w.heap.size ≤ b ∧ b < w'.heap.size) else no,rfl,?_,hr _ _ _⟩
  refine ⟨⟨hfr.os,hfr.tape,hfr.output,hfr.size,fun k hk hn => hbl k hk ⟨0,hn 0⟩,fun k o hk hn => ?_⟩,no_le _,fun _ _ h => h.elim,by simp,fun i u _ h => h,hG.new,?_,fun i j hi hj hij => ?_,fun i _ => by rintro b o _ h; exact h.elim,fun i hi => ?_,fun i hi b o hb => ?_⟩
  · have e := hbl k hk ⟨o,hn⟩
    simp [World.cell?,World.frozen?,mapAt,e]
  · intro i gb hi
    match i,hi with
    | 0,hi =>
      simp at hi
      subst hi
      refine .inr ⟨_,hv,b,rfl,p',v',hB.adr,hB.at_,hl' ▸ hB.own,hB.ne,fun o => .inl (hFb o),fun g hg o => ?_⟩
      rcases hon with e | e | ⟨g',e,hg'⟩
      · rw [e] at hg; exact .inl (hFq g hg o)
      · rw [e] at hg; cases hg
      · rw [e] at hg
        cases hg
        exact .inr ⟨hg',(hB.own.lt g e).2⟩
    | i + 1,hi => simp at hi
  · simp at hi hj; omega
  · have : i = 0 := by simpa using hi
    subst this
    rintro b' o' hb
    simp only [if_true] at hb
    rcases hb with hb | ⟨hb,_⟩
    · exact .inl ⟨0,by simp,hb⟩
    · exact .inr hb
  · have : i = 0 := by simpa using hi
    subst this
    simp only [if_true] at hb
    rcases hb with hb | ⟨_,hb⟩
    · have := hG.ex 0 (by simp) b o hb
      have := hfr.size
      omega
    · exact hb
end Go.Proofs.YtnkeamihfiobdaaGreatDoor
end
section
set_option linter.unusedVariables false
set_option linter.unusedSimpArgs false
set_option maxRecDepth 100000
namespace Go.Proofs.YtnkeamihfiobdaaGreatDoor
open Go Foot
section
variable {P : Program} {g : Gh} {st : St} {sv : SV} {dst : Option Tmp} {ty : TypeId} {pos : String} {after : Array Edge} {guard : Option (Nat × Bool)} {x : Operand}
end
section
variable {g : Gh} {dst : Option Tmp} {ty : TypeId} {pos : String} {after : Array Edge} {guard : Option (Nat × Bool)} {x : Operand} {f Ty i : Nat} {cs : List C} {name : String} {xs : List Operand} {Ts : Array TypeId} {ags : List SV} {H H' : List GB} {res : SV} {θ : List Nat} {t : List (Nat × SV)} {h : List (Nat × GB)} {n : Nat}
end
section
variable {g : Gh} {dst : Option Tmp} {ty : TypeId} {pos : String} {after : Array Edge} {guard : Option (Nat × Bool)} {x : Operand} {f Ty : Nat} {c1 : C} {name : String} {xs : List Operand} {Ts : Array TypeId} {ags : List SV} {H H' : List GB} {res : SV} {θ : List Nat} {t : List (Nat × SV)} {h : List (Nat × GB)} {n : Nat}
end
end Go.Proofs.YtnkeamihfiobdaaGreatDoor
end
section
set_option linter.unusedVariables false
set_option linter.unusedSimpArgs false
set_option maxRecDepth 100000
namespace Go.Proofs.YtnkeamihfiobdaaGreatDoor
open Go Foot MapKept
section
variable {P : Program} {g : Gh} {st : St}
variable {dst : Option Tmp} {ty : TypeId} {pos : String} {after : Array Edge} {guard : Option (Nat × Bool)} {x y z : Operand} {T kt et : TypeId} {α β : Type} [DecidableEq α]
end
end Go.Proofs.YtnkeamihfiobdaaGreatDoor
end
