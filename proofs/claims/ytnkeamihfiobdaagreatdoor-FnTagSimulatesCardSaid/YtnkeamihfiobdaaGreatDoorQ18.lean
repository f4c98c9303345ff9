/- Parts of the proof (18 of 21). -/
import Derived.Test.YtnkeamihfiobdaaGreatDoorQ17
section
set_option linter.unusedVariables false
set_option linter.unusedSimpArgs false
set_option maxRecDepth 100000
set_option maxHeartbeats 1000000
namespace Go.Proofs.YtnkeamihfiobdaaGreatDoor
open Go Foot Go.RowKit
abbrev ltI (q k : Int) : Int := 1 + 30 * q + k
theorem wdN_c {s : Bs} {ns : List Bs} {q k : Int} (h : ¬ s = xN) (e : ixT s nmL = k) : wdN (s :: ns) q = ltI q k :: wdN ns q := by
  have := ltN_i k e q
  unfold wdN
  rw [List.map_cons,if_neg h,this]
theorem tmW_at (m : Mach) (q : Nat) : ∀ S : Nat,q < S → ∃ z,tmW m S = tmW m q ++ (blkN q (rwN (ruN m q 0) 0) (rwN (ruN m q 1) 1) ++ z)
  | 0,h => absurd h (by omega)
  | S + 1,h => by
    by_cases e : q = S
    · subst e
      exact ⟨[],by rw [tmW,List.append_nil]⟩
    · obtain ⟨z,hz⟩ := tmW_at m q S (by omega)
      exact ⟨z ++ blkN S (rwN (ruN m S 0) 0) (rwN (ruN m S 1) 1),by rw [tmW,hz,List.append_assoc,List.append_assoc]⟩
theorem wo_at {m : Mach} {q : Nat} (hq : q < m.st.toNat) {k : Nat} (hk : k < 30) {x : Int} (hx : x = ltI q k) : woA (tmT m) x = (blkN q (rwN (ruN m q 0) 0) (rwN (ruN m q 1) 1)).getD k [] := by
  obtain ⟨z,hz⟩ := tmW_at m q m.st.toNat hq
  have hl := tmW_len m q
  have hb := blkN_len q (rwN (ruN m q 0) 0) (rwN (ruN m q 1) 1)
  show (tmW m m.st.toNat).getD x.toNat [] = _
  rw [hz,hx,show (ltI q k).toNat = (tmW m q).length + k by rw [hl]; unfold ltI; omega]
  rw [List.getD_eq_getElem?_getD,List.getD_eq_getElem?_getD,List.getElem?_append_right (by omega),Nat.add_sub_cancel_left,List.getElem?_append_left (by rw [hb]; exact hk)]
theorem tmH_at (m : Mach) : ∀ (S : Nat) {x : Int},x ∈ tmH m S → ∃ q : Nat,(x = ltI q 8 ∧ ruN m q 1 = noR) ∨ (x = ltI q 9 ∧ ruN m q 0 = noR)
  | 0,x,h => by simp [tmH] at h
  | S + 1,x,h => by
    rw [tmH] at h
    rcases List.mem_append.1 h with h | h
    · exact tmH_at m S h
    · rcases List.mem_append.1 h with h | h
      · split at h
        · rename_i hr
          exact ⟨S,.inl ⟨by simpa using h,hr⟩⟩
        · simp at h
      · split at h
        · rename_i hr
          exact ⟨S,.inr ⟨by simpa using h,hr⟩⟩
        · simp at h
theorem nh_at {m : Mach} {q : Nat} {k : Int} (h0 : 0 ≤ k) (h1 : k < 30) (hk : k ≠ 8 ∧ k ≠ 9) : ltI q k ∉ (tmT m).ha := fun h => by
  obtain ⟨p,hp⟩ := tmH_at m _ h
  unfold ltI at hp
  omega
theorem nh_P1 {m : Mach} {q : Nat} (h : ruN m q 1 ≠ noR) : ltI q 8 ∉ (tmT m).ha := fun hx => by
  obtain ⟨p,hp⟩ := tmH_at m _ hx
  unfold ltI at hp
  have : p = q := by omega
  subst this
  rcases hp with ⟨_,hp⟩ | ⟨hp,_⟩
  · exact h hp
  · omega
theorem nh_P0 {m : Mach} {q : Nat} (h : ruN m q 0 ≠ noR) : ltI q 9 ∉ (tmT m).ha := fun hx => by
  obtain ⟨p,hp⟩ := tmH_at m _ hx
  unfold ltI at hp
  have : p = q := by omega
  subst this
  rcases hp with ⟨hp,_⟩ | ⟨_,hp⟩
  · omega
  · exact h hp
theorem wo_0 {m : Mach} {q : Nat} (hq : q < m.st.toNat) : woA (tmT m) (ltI q 0) = [ltI q 4,0] := by
  refine (wo_at (x := ltI q 0) hq (k := 0) (by decide) rfl).trans ?_
  show fxN q 0 = _
  rw [fx_0,wdN_c (s := [65,49]) (by decide) (k := 4) (by decide),wdN_x,wdN_nil]
theorem wo_1 {m : Mach} {q : Nat} (hq : q < m.st.toNat) : woA (tmT m) (ltI q 1) = [ltI q 5,0] := by
  refine (wo_at (x := ltI q 1) hq (k := 1) (by decide) rfl).trans ?_
  show fxN q 1 = _
  rw [fx_1,wdN_c (s := [97,49]) (by decide) (k := 5) (by decide),wdN_x,wdN_nil]
theorem wo_2 {m : Mach} {q : Nat} (hq : q < m.st.toNat) : woA (tmT m) (ltI q 2) = [ltI q 6] := by
  refine (wo_at (x := ltI q 2) hq (k := 2) (by decide) rfl).trans ?_
  show fxN q 2 = _
  rw [fx_2,wdN_c (s := [66,49]) (by decide) (k := 6) (by decide),wdN_nil]
theorem wo_3 {m : Mach} {q : Nat} (hq : q < m.st.toNat) : woA (tmT m) (ltI q 3) = [ltI q 7] := by
  refine (wo_at (x := ltI q 3) hq (k := 3) (by decide) rfl).trans ?_
  show fxN q 3 = _
  rw [fx_3,wdN_c (s := [98,49]) (by decide) (k := 7) (by decide),wdN_nil]
theorem wo_4 {m : Mach} {q : Nat} (hq : q < m.st.toNat) : woA (tmT m) (ltI q 4) = [ltI q 8,ltI q 9] := by
  refine (wo_at (x := ltI q 4) hq (k := 4) (by decide) rfl).trans ?_
  show fxN q 4 = _
  rw [fx_4,wdN_c (s := [80,49]) (by decide) (k := 8) (by decide),wdN_c (s := [80,48]) (by decide) (k := 9) (by decide),wdN_nil]
theorem wo_5 {m : Mach} {q : Nat} (hq : q < m.st.toNat) : woA (tmT m) (ltI q 5) = [ltI q 10,ltI q 11] := by
  refine (wo_at (x := ltI q 5) hq (k := 5) (by decide) rfl).trans ?_
  show fxN q 5 = _
  rw [fx_5,wdN_c (s := [112,49]) (by decide) (k := 10) (by decide),wdN_c (s := [112,48]) (by decide) (k := 11) (by decide),wdN_nil]
theorem wo_6 {m : Mach} {q : Nat} (hq : q < m.st.toNat) : woA (tmT m) (ltI q 6) = [ltI q 12,ltI q 13] := by
  refine (wo_at (x := ltI q 6) hq (k := 6) (by decide) rfl).trans ?_
  show fxN q 6 = _
  rw [fx_6,wdN_c (s := [81,49]) (by decide) (k := 12) (by decide),wdN_c (s := [81,48]) (by decide) (k := 13) (by decide),wdN_nil]
theorem wo_7 {m : Mach} {q : Nat} (hq : q < m.st.toNat) : woA (tmT m) (ltI q 7) = [ltI q 14,ltI q 15] := by
  refine (wo_at (x := ltI q 7) hq (k := 7) (by decide) rfl).trans ?_
  show fxN q 7 = _
  rw [fx_7,wdN_c (s := [114,49]) (by decide) (k := 14) (by decide),wdN_c (s := [114,48]) (by decide) (k := 15) (by decide),wdN_nil]
theorem wo_16 {m : Mach} {q : Nat} (hq : q < m.st.toNat) : woA (tmT m) (ltI q 16) = [ltI q 22,ltI q 23] := by
  refine (wo_at (x := ltI q 16) hq (k := 16) (by decide) rfl).trans ?_
  show fxN q 16 = _
  rw [fx_16,wdN_c (s := [72,49]) (by decide) (k := 22) (by decide),wdN_c (s := [72,48]) (by decide) (k := 23) (by decide),wdN_nil]
theorem wo_17 {m : Mach} {q : Nat} (hq : q < m.st.toNat) : woA (tmT m) (ltI q 17) = [ltI q 24,ltI q 25] := by
  refine (wo_at (x := ltI q 17) hq (k := 17) (by decide) rfl).trans ?_
  show fxN q 17 = _
  rw [fx_17,wdN_c (s := [104,49]) (by decide) (k := 24) (by decide),wdN_c (s := [104,48]) (by decide) (k := 25) (by decide),wdN_nil]
theorem wo_18 {m : Mach} {q : Nat} (hq : q < m.st.toNat) : woA (tmT m) (ltI q 18) = [ltI q 26,ltI q 27,ltI q 28,ltI q 29] := by
  refine (wo_at (x := ltI q 18) hq (k := 18) (by decide) rfl).trans ?_
  show fxN q 18 = _
  rw [fx_18,wdN_c (s := [74,49]) (by decide) (k := 26) (by decide),wdN_c (s := [74,48]) (by decide) (k := 27) (by decide),wdN_c (s := [106,49]) (by decide) (k := 28) (by decide),wdN_c (s := [106,48]) (by decide) (k := 29) (by decide),wdN_nil]
theorem wo_19 {m : Mach} {q : Nat} (hq : q < m.st.toNat) : woA (tmT m) (ltI q 19) = [ltI q 26,ltI q 27] := by
  refine (wo_at (x := ltI q 19) hq (k := 19) (by decide) rfl).trans ?_
  show fxN q 19 = _
  rw [fx_19,wdN_c (s := [74,49]) (by decide) (k := 26) (by decide),wdN_c (s := [74,48]) (by decide) (k := 27) (by decide),wdN_nil]
theorem wo_20 {m : Mach} {q : Nat} (hq : q < m.st.toNat) : woA (tmT m) (ltI q 20) = [ltI q 28,ltI q 29] := by
  refine (wo_at (x := ltI q 20) hq (k := 20) (by decide) rfl).trans ?_
  show fxN q 20 = _
  rw [fx_20,wdN_c (s := [106,49]) (by decide) (k := 28) (by decide),wdN_c (s := [106,48]) (by decide) (k := 29) (by decide),wdN_nil]
theorem wo_21 {m : Mach} {q : Nat} (hq : q < m.st.toNat) : woA (tmT m) (ltI q 21) = [ltI q 28,ltI q 29] := by
  refine (wo_at (x := ltI q 21) hq (k := 21) (by decide) rfl).trans ?_
  show fxN q 21 = _
  rw [fx_21,wdN_c (s := [106,49]) (by decide) (k := 28) (by decide),wdN_c (s := [106,48]) (by decide) (k := 29) (by decide),wdN_nil]
theorem wo_22 {m : Mach} {q : Nat} (hq : q < m.st.toNat) : woA (tmT m) (ltI q 22) = [ltI q 0,0] := by
  refine (wo_at (x := ltI q 22) hq (k := 22) (by decide) rfl).trans ?_
  show fxN q 22 = _
  rw [fx_22,wdN_c (s := [65]) (by decide) (k := 0) (by decide),wdN_x,wdN_nil]
theorem wo_23 {m : Mach} {q : Nat} (hq : q < m.st.toNat) : woA (tmT m) (ltI q 23) = [0,ltI q 0,0] := by
  refine (wo_at (x := ltI q 23) hq (k := 23) (by decide) rfl).trans ?_
  show fxN q 23 = _
  rw [fx_23,wdN_x,wdN_c (s := [65]) (by decide) (k := 0) (by decide),wdN_x,wdN_nil]
theorem wo_24 {m : Mach} {q : Nat} (hq : q < m.st.toNat) : woA (tmT m) (ltI q 24) = [ltI q 1,0] := by
  refine (wo_at (x := ltI q 24) hq (k := 24) (by decide) rfl).trans ?_
  show fxN q 24 = _
  rw [fx_24,wdN_c (s := [97]) (by decide) (k := 1) (by decide),wdN_x,wdN_nil]
theorem wo_25 {m : Mach} {q : Nat} (hq : q < m.st.toNat) : woA (tmT m) (ltI q 25) = [ltI q 1,0] := by
  refine (wo_at (x := ltI q 25) hq (k := 25) (by decide) rfl).trans ?_
  show fxN q 25 = _
  rw [fx_25,wdN_c (s := [97]) (by decide) (k := 1) (by decide),wdN_x,wdN_nil]
theorem wo_26 {m : Mach} {q : Nat} (hq : q < m.st.toNat) : woA (tmT m) (ltI q 26) = [ltI q 2,0] := by
  refine (wo_at (x := ltI q 26) hq (k := 26) (by decide) rfl).trans ?_
  show fxN q 26 = _
  rw [fx_26,wdN_c (s := [66]) (by decide) (k := 2) (by decide),wdN_x,wdN_nil]
theorem wo_27 {m : Mach} {q : Nat} (hq : q < m.st.toNat) : woA (tmT m) (ltI q 27) = [ltI q 2,0] := by
  refine (wo_at (x := ltI q 27) hq (k := 27) (by decide) rfl).trans ?_
  show fxN q 27 = _
  rw [fx_27,wdN_c (s := [66]) (by decide) (k := 2) (by decide),wdN_x,wdN_nil]
theorem wo_28 {m : Mach} {q : Nat} (hq : q < m.st.toNat) : woA (tmT m) (ltI q 28) = [ltI q 3,0] := by
  refine (wo_at (x := ltI q 28) hq (k := 28) (by decide) rfl).trans ?_
  show fxN q 28 = _
  rw [fx_28,wdN_c (s := [98]) (by decide) (k := 3) (by decide),wdN_x,wdN_nil]
theorem wo_29 {m : Mach} {q : Nat} (hq : q < m.st.toNat) : woA (tmT m) (ltI q 29) = [ltI q 3,0] := by
  refine (wo_at (x := ltI q 29) hq (k := 29) (by decide) rfl).trans ?_
  show fxN q 29 = _
  rw [fx_29,wdN_c (s := [98]) (by decide) (k := 3) (by decide),wdN_x,wdN_nil]
theorem wo_r00 {m : Mach} {q : Nat} (hq : q < m.st.toNat) : woA (tmT m) (ltI q 9) = rwN (ruN m q 0) 0 0 := by
  refine (wo_at (x := ltI q 9) hq (k := 9) (by decide) rfl).trans ?_
  rfl
theorem wo_r01 {m : Mach} {q : Nat} (hq : q < m.st.toNat) : woA (tmT m) (ltI q 11) = rwN (ruN m q 0) 0 1 := by
  refine (wo_at (x := ltI q 11) hq (k := 11) (by decide) rfl).trans ?_
  rfl
theorem wo_r02 {m : Mach} {q : Nat} (hq : q < m.st.toNat) : woA (tmT m) (ltI q 13) = rwN (ruN m q 0) 0 2 := by
  refine (wo_at (x := ltI q 13) hq (k := 13) (by decide) rfl).trans ?_
  rfl
theorem wo_r03 {m : Mach} {q : Nat} (hq : q < m.st.toNat) : woA (tmT m) (ltI q 15) = rwN (ruN m q 0) 0 3 := by
  refine (wo_at (x := ltI q 15) hq (k := 15) (by decide) rfl).trans ?_
  rfl
theorem wo_r10 {m : Mach} {q : Nat} (hq : q < m.st.toNat) : woA (tmT m) (ltI q 8) = rwN (ruN m q 1) 1 0 := by
  refine (wo_at (x := ltI q 8) hq (k := 8) (by decide) rfl).trans ?_
  rfl
theorem wo_r11 {m : Mach} {q : Nat} (hq : q < m.st.toNat) : woA (tmT m) (ltI q 10) = rwN (ruN m q 1) 1 1 := by
  refine (wo_at (x := ltI q 10) hq (k := 10) (by decide) rfl).trans ?_
  rfl
theorem wo_r12 {m : Mach} {q : Nat} (hq : q < m.st.toNat) : woA (tmT m) (ltI q 12) = rwN (ruN m q 1) 1 2 := by
  refine (wo_at (x := ltI q 12) hq (k := 12) (by decide) rfl).trans ?_
  rfl
theorem wo_r13 {m : Mach} {q : Nat} (hq : q < m.st.toNat) : woA (tmT m) (ltI q 14) = rwN (ruN m q 1) 1 3 := by
  refine (wo_at (x := ltI q 14) hq (k := 14) (by decide) rfl).trans ?_
  rfl
theorem rw_R00w0 {r : Rule'} (hr : r ≠ noR) (hm : 0 < r.m) (hw : r.w = 0) : rwN r 0 0 = [0,ltI r.n 0,0] := by
  have e : (rlN r 0).getD 0 [] = [xN,[65],xN] := by unfold rlN; rw [if_pos hm]; simp [hw]
  rw [rwN_get hr,e,wdN_x,wdN_c (s := [65]) (by decide) (k := 0) (by decide),wdN_x,wdN_nil]
theorem rw_R00w1 {r : Rule'} (hr : r ≠ noR) (hm : 0 < r.m) (hw : r.w = 1) : rwN r 0 0 = [0,ltI r.n 0,0,ltI r.n 1,0] := by
  have e : (rlN r 0).getD 0 [] = [xN,[65],xN,[97],xN] := by unfold rlN; rw [if_pos hm]; simp [hw]
  rw [rwN_get hr,e,wdN_x,wdN_c (s := [65]) (by decide) (k := 0) (by decide),wdN_x,wdN_c (s := [97]) (by decide) (k := 1) (by decide),wdN_x,wdN_nil]
theorem rw_R01 {r : Rule'} (hr : r ≠ noR) (hm : 0 < r.m) : rwN r 0 1 = [ltI r.n 1,0,ltI r.n 1,0] := by
  have e : (rlN r 0).getD 1 [] = [[97],xN,[97],xN] := by unfold rlN; rw [if_pos hm]; simp
  rw [rwN_get hr,e,wdN_c (s := [97]) (by decide) (k := 1) (by decide),wdN_x,wdN_c (s := [97]) (by decide) (k := 1) (by decide),wdN_x,wdN_nil]
theorem rw_R02 {r : Rule'} (hr : r ≠ noR) (hm : 0 < r.m) : rwN r 0 2 = [ltI r.n 2,0] := by
  have e : (rlN r 0).getD 2 [] = [[66],xN] := by unfold rlN; rw [if_pos hm]; simp
  rw [rwN_get hr,e,wdN_c (s := [66]) (by decide) (k := 2) (by decide),wdN_x,wdN_nil]
theorem rw_R03 {r : Rule'} (hr : r ≠ noR) (hm : 0 < r.m) : rwN r 0 3 = [ltI r.n 3,0] := by
  have e : (rlN r 0).getD 3 [] = [[98],xN] := by unfold rlN; rw [if_pos hm]; simp
  rw [rwN_get hr,e,wdN_c (s := [98]) (by decide) (k := 3) (by decide),wdN_x,wdN_nil]
theorem rw_R10w0 {r : Rule'} (hr : r ≠ noR) (hm : 0 < r.m) (hw : r.w = 0) : rwN r 1 0 = [ltI r.n 0,0] := by
  have e : (rlN r 1).getD 0 [] = [[65],xN] := by unfold rlN; rw [if_pos hm]; simp [hw]
  rw [rwN_get hr,e,wdN_c (s := [65]) (by decide) (k := 0) (by decide),wdN_x,wdN_nil]
theorem rw_R10w1 {r : Rule'} (hr : r ≠ noR) (hm : 0 < r.m) (hw : r.w = 1) : rwN r 1 0 = [ltI r.n 0,0,ltI r.n 1,0] := by
  have e : (rlN r 1).getD 0 [] = [[65],xN,[97],xN] := by unfold rlN; rw [if_pos hm]; simp [hw]
  rw [rwN_get hr,e,wdN_c (s := [65]) (by decide) (k := 0) (by decide),wdN_x,wdN_c (s := [97]) (by decide) (k := 1) (by decide),wdN_x,wdN_nil]
theorem rw_R11 {r : Rule'} (hr : r ≠ noR) (hm : 0 < r.m) : rwN r 1 1 = [ltI r.n 1,0,ltI r.n 1,0] := by
  have e : (rlN r 1).getD 1 [] = [[97],xN,[97],xN] := by unfold rlN; rw [if_pos hm]; simp
  rw [rwN_get hr,e,wdN_c (s := [97]) (by decide) (k := 1) (by decide),wdN_x,wdN_c (s := [97]) (by decide) (k := 1) (by decide),wdN_x,wdN_nil]
theorem rw_R12 {r : Rule'} (hr : r ≠ noR) (hm : 0 < r.m) : rwN r 1 2 = [ltI r.n 2,0] := by
  have e : (rlN r 1).getD 2 [] = [[66],xN] := by unfold rlN; rw [if_pos hm]; simp
  rw [rwN_get hr,e,wdN_c (s := [66]) (by decide) (k := 2) (by decide),wdN_x,wdN_nil]
theorem rw_R13 {r : Rule'} (hr : r ≠ noR) (hm : 0 < r.m) : rwN r 1 3 = [ltI r.n 3,0] := by
  have e : (rlN r 1).getD 3 [] = [[98],xN] := by unfold rlN; rw [if_pos hm]; simp
  rw [rwN_get hr,e,wdN_c (s := [98]) (by decide) (k := 3) (by decide),wdN_x,wdN_nil]
theorem rw_L00 {r : Rule'} (hr : r ≠ noR) (hm : ¬ 0 < r.m) : rwN r 0 0 = [0,ltI r.n 16] := by
  have e : (rlN r 0).getD 0 [] = [xN,[69]] := by unfold rlN; rw [if_neg hm]; simp
  rw [rwN_get hr,e,wdN_x,wdN_c (s := [69]) (by decide) (k := 16) (by decide),wdN_nil]
theorem rw_L01 {r : Rule'} (hr : r ≠ noR) (hm : ¬ 0 < r.m) : rwN r 0 1 = [ltI r.n 17] := by
  have e : (rlN r 0).getD 1 [] = [[101]] := by unfold rlN; rw [if_neg hm]; simp
  rw [rwN_get hr,e,wdN_c (s := [101]) (by decide) (k := 17) (by decide),wdN_nil]
theorem rw_L02w0 {r : Rule'} (hr : r ≠ noR) (hm : ¬ 0 < r.m) (hw : r.w = 0) : rwN r 0 2 = [ltI r.n 18,ltI r.n 19] := by
  have e : (rlN r 0).getD 2 [] = [[70,49],[70,48]] := by unfold rlN; rw [if_neg hm]; simp [hw]
  rw [rwN_get hr,e,wdN_c (s := [70,49]) (by decide) (k := 18) (by decide),wdN_c (s := [70,48]) (by decide) (k := 19) (by decide),wdN_nil]
theorem rw_L02w1 {r : Rule'} (hr : r ≠ noR) (hm : ¬ 0 < r.m) (hw : r.w = 1) : rwN r 0 2 = [ltI r.n 18,ltI r.n 19,ltI r.n 20,ltI r.n 21,ltI r.n 20,ltI r.n 21] := by
  have e : (rlN r 0).getD 2 [] = [[70,49],[70,48],[102,49],[102,48],[102,49],[102,48]] := by unfold rlN; rw [if_neg hm]; simp [hw]
  rw [rwN_get hr,e,wdN_c (s := [70,49]) (by decide) (k := 18) (by decide),wdN_c (s := [70,48]) (by decide) (k := 19) (by decide),wdN_c (s := [102,49]) (by decide) (k := 20) (by decide),wdN_c (s := [102,48]) (by decide) (k := 21) (by decide),wdN_c (s := [102,49]) (by decide) (k := 20) (by decide),wdN_c (s := [102,48]) (by decide) (k := 21) (by decide),wdN_nil]
theorem rw_L03 {r : Rule'} (hr : r ≠ noR) (hm : ¬ 0 < r.m) : rwN r 0 3 = [ltI r.n 20,ltI r.n 21,ltI r.n 20,ltI r.n 21,ltI r.n 20,ltI r.n 21,ltI r.n 20,ltI r.n 21] := by
  have e : (rlN r 0).getD 3 [] = [[102,49],[102,48],[102,49],[102,48],[102,49],[102,48],[102,49],[102,48]] := by unfold rlN; rw [if_neg hm]; simp
  rw [rwN_get hr,e,wdN_c (s := [102,49]) (by decide) (k := 20) (by decide),wdN_c (s := [102,48]) (by decide) (k := 21) (by decide),wdN_c (s := [102,49]) (by decide) (k := 20) (by decide),wdN_c (s := [102,48]) (by decide) (k := 21) (by decide),wdN_c (s := [102,49]) (by decide) (k := 20) (by decide),wdN_c (s := [102,48]) (by decide) (k := 21) (by decide),wdN_c (s := [102,49]) (by decide) (k := 20) (by decide),wdN_c (s := [102,48]) (by decide) (k := 21) (by decide),wdN_nil]
theorem rw_L10 {r : Rule'} (hr : r ≠ noR) (hm : ¬ 0 < r.m) : rwN r 1 0 = [ltI r.n 16] := by
  have e : (rlN r 1).getD 0 [] = [[69]] := by unfold rlN; rw [if_neg hm]; simp
  rw [rwN_get hr,e,wdN_c (s := [69]) (by decide) (k := 16) (by decide),wdN_nil]
theorem rw_L11 {r : Rule'} (hr : r ≠ noR) (hm : ¬ 0 < r.m) : rwN r 1 1 = [ltI r.n 17] := by
  have e : (rlN r 1).getD 1 [] = [[101]] := by unfold rlN; rw [if_neg hm]; simp
  rw [rwN_get hr,e,wdN_c (s := [101]) (by decide) (k := 17) (by decide),wdN_nil]
theorem rw_L12w0 {r : Rule'} (hr : r ≠ noR) (hm : ¬ 0 < r.m) (hw : r.w = 0) : rwN r 1 2 = [ltI r.n 18,ltI r.n 19] := by
  have e : (rlN r 1).getD 2 [] = [[70,49],[70,48]] := by unfold rlN; rw [if_neg hm]; simp [hw]
  rw [rwN_get hr,e,wdN_c (s := [70,49]) (by decide) (k := 18) (by decide),wdN_c (s := [70,48]) (by decide) (k := 19) (by decide),wdN_nil]
theorem rw_L12w1 {r : Rule'} (hr : r ≠ noR) (hm : ¬ 0 < r.m) (hw : r.w = 1) : rwN r 1 2 = [ltI r.n 18,ltI r.n 19,ltI r.n 20,ltI r.n 21,ltI r.n 20,ltI r.n 21] := by
  have e : (rlN r 1).getD 2 [] = [[70,49],[70,48],[102,49],[102,48],[102,49],[102,48]] := by unfold rlN; rw [if_neg hm]; simp [hw]
  rw [rwN_get hr,e,wdN_c (s := [70,49]) (by decide) (k := 18) (by decide),wdN_c (s := [70,48]) (by decide) (k := 19) (by decide),wdN_c (s := [102,49]) (by decide) (k := 20) (by decide),wdN_c (s := [102,48]) (by decide) (k := 21) (by decide),wdN_c (s := [102,49]) (by decide) (k := 20) (by decide),wdN_c (s := [102,48]) (by decide) (k := 21) (by decide),wdN_nil]
theorem rw_L13 {r : Rule'} (hr : r ≠ noR) (hm : ¬ 0 < r.m) : rwN r 1 3 = [ltI r.n 20,ltI r.n 21,ltI r.n 20,ltI r.n 21,ltI r.n 20,ltI r.n 21,ltI r.n 20,ltI r.n 21] := by
  have e : (rlN r 1).getD 3 [] = [[102,49],[102,48],[102,49],[102,48],[102,49],[102,48],[102,49],[102,48]] := by unfold rlN; rw [if_neg hm]; simp
  rw [rwN_get hr,e,wdN_c (s := [102,49]) (by decide) (k := 20) (by decide),wdN_c (s := [102,48]) (by decide) (k := 21) (by decide),wdN_c (s := [102,49]) (by decide) (k := 20) (by decide),wdN_c (s := [102,48]) (by decide) (k := 21) (by decide),wdN_c (s := [102,49]) (by decide) (k := 20) (by decide),wdN_c (s := [102,48]) (by decide) (k := 21) (by decide),wdN_c (s := [102,49]) (by decide) (k := 20) (by decide),wdN_c (s := [102,48]) (by decide) (k := 21) (by decide),wdN_nil]
end Go.Proofs.YtnkeamihfiobdaaGreatDoor
end
section
set_option linter.unusedVariables false
set_option linter.unusedSimpArgs false
set_option maxRecDepth 100000
set_option maxHeartbeats 1000000
namespace Go.Proofs.YtnkeamihfiobdaaGreatDoor
open Go Foot Go.RowKit
def badH (x : Int) : Prop := (x - 1) % 30 ≠ 0 ∧ (x - 1) % 30 ≠ 8 ∧ (x - 1) % 30 ≠ 9
theorem badH_lt {q k : Int} (h0 : 0 ≤ k) (h1 : k < 30) (h : k ≠ 0 ∧ k ≠ 8 ∧ k ≠ 9) : badH (ltI q k) := by
  unfold badH ltI
  omega
theorem dcI_bad {m : Mach} {w : List Int} (h : badH (w.headD 0)) : dcI m w = none := by
  unfold badH at h
  unfold dcI
  by_cases h0 : (w.length : Int) = 0 ∨ w.headD 0 = 0
  · rw [if_pos h0]
  · rw [if_neg h0]
    generalize (w.headD 0 - 1) / 30 = q
    have nA : ∀ a b,¬ w = shA q a b := fun a b e => by
      rw [e,shA_hd] at h
      omega
    have nB : ∀ v a b,¬ w = shB q v a b := fun v a b e => by
      rw [e,shB_hd] at h
      split at h <;> omega
    rw [if_neg (nA _ _),if_neg (fun e => nB _ _ _ e.2),if_neg (fun e => nB _ _ _ e.2)]
abbrev noC (m : Mach) (w : List Int) : Prop := dcI m w = none
def ouS (t : Tg) : List (Int × Int) → List Int
  | [] => []
  | p :: l => woA t p.2 ++ ouS t l
theorem ouS_app (t : Tg) : ∀ (a b : List (Int × Int)),ouS t (a ++ b) = ouS t a ++ ouS t b
  | [],b => rfl
  | p :: a,b => by rw [List.cons_append,ouS,ouS,ouS_app t a b,List.append_assoc]
theorem flP_rep (a b : Int) : ∀ n,flP (List.replicate n (a,b)) = repW [a,b] n
  | 0 => rfl
  | n + 1 => by rw [List.replicate_succ,flP,flP_rep a b n]; rfl
theorem ouP_rep (t : Tg) (a b : Int) : ∀ n,ouP t (List.replicate n (a,b)) = repW (woA t a) n
  | 0 => rfl
  | n + 1 => by rw [List.replicate_succ,ouP,ouP_rep t a b n]; rfl
theorem ouS_rep (t : Tg) (a b : Int) : ∀ n,ouS t (List.replicate n (a,b)) = repW (woA t b) n
  | 0 => rfl
  | n + 1 => by rw [List.replicate_succ,ouS,ouS_rep t a b n]; rfl
theorem mem_rep {p q : Int × Int} {n : Nat} (h : q ∈ List.replicate n p) : q = p := (List.mem_replicate.1 h).2
theorem seg_even {m : Mach} (p : Int × Int) (l : List (Int × Int)) (u : List Int) (hp : p.1 ∉ (tmT m).ha) (h : ∀ q ∈ l,q.1 ∉ (tmT m).ha ∧ badH q.1) (hl : 2 * l.length + 2 + u.length + (ouP (tmT m) (p :: l)).length ≤ 1000) : Seg (tmT m) (noC m) (l.length + 1) (flP (p :: l) ++ u) (u ++ ouP (tmT m) (p :: l)) := by
  refine Seg.pass rfl (p :: l) u (fun q hq => ?_) (by rw [List.length_cons]; omega) (fun a b ha hb hab => ?_)
  · rcases List.mem_cons.1 hq with e | e
    · rw [e]; exact hp
    · exact (h q e).1
  · cases a with
    | nil => exact absurd rfl ha
    | cons a0 a =>
      cases b with
      | nil => exact absurd rfl hb
      | cons b0 b =>
        rw [List.cons_append] at hab
        injection hab with e1 e2
        have hb0 := (h b0 (by rw [← e2]; simp)).2
        exact dcI_bad (by rw [flP]; exact hb0)
theorem seg_odd {m : Mach} : ∀ (l : List (Int × Int)) (y : Int) (u : List Int),y ∉ (tmT m).ha → (∀ q ∈ l,q.2 ∉ (tmT m).ha ∧ badH q.2) → (u ≠ [] ∨ (l ≠ [] ∧ woA (tmT m) y ≠ [])) → 2 * l.length + 3 + u.length + (woA (tmT m) y).length + (ouS (tmT m) l).length ≤ 1000 → Seg (tmT m) (noC m) (l.length + 1) (y :: (flP l ++ u)) ((u ++ (woA (tmT m) y ++ ouS (tmT m) l)).tail)
  | [],y,u,hy,h,hn,hl => by
    cases u with
    | nil => rcases hn with hn | hn; exact absurd rfl hn; exact absurd rfl hn.1
    | cons x u =>
      rw [ouS,List.append_nil]
      exact Seg.one rfl hy (by rw [List.length_cons] at hl; omega)
  | (z,y1) :: l,y,u,hy,h,hn,hl => by
    have h1 := h (z,y1) (by simp)
    have hfl := flP_len l
    rw [ouS,List.length_append,List.length_cons] at hl
    have s1 : Seg (tmT m) (noC m) 1 (y :: (flP ((z,y1) :: l) ++ u)) (y1 :: (flP l ++ (u ++ woA (tmT m) y))) := by
      have := Seg.one (t := tmT m) (P := noC m) rfl (a := y) (b := z) (u := y1 :: (flP l ++ u)) hy (by rw [List.length_cons,List.length_append]; dsimp only at hl; omega)
      rw [List.cons_append,List.append_assoc] at this
      exact this
    have hn2 : u ++ woA (tmT m) y ≠ [] := by
      rcases hn with hn | hn
      · exact fun e => hn (List.append_eq_nil_iff.1 e).1
      · exact fun e => hn.2 (List.append_eq_nil_iff.1 e).2
    have s2 := seg_odd (m := m) l y1 (u ++ woA (tmT m) y) h1.1 (fun q hq => h q (by simp [hq])) (.inl hn2) (by rw [List.length_append]; dsimp only at hl; omega)
    have := s1.trans s2 (dcI_bad h1.2)
    rw [Nat.add_comm 1 (l.length + 1)] at this
    rw [List.length_cons,ouS]
    rw [List.append_assoc] at this
    exact this
theorem shA_it (q : Int) (a b : Nat) : shA q a b = ltI q 0 :: 0 :: (repW [ltI q 1,0] a ++ (ltI q 2 :: 0 :: repW [ltI q 3,0] b)) := by
  obtain ⟨e1,e2,e3,e4⟩ := w2_A q
  unfold shA shF ltI
  rw [e1,e2,e3,e4]
  simp only [List.append_assoc,List.cons_append,List.nil_append]
  rw [show 1 + 30 * q + 0 = 1 + 30 * q by omega,show 1 + 30 * q + 1 = 2 + 30 * q by omega,show 1 + 30 * q + 2 = 3 + 30 * q by omega,show 1 + 30 * q + 3 = 4 + 30 * q by omega]
theorem shB_it (q : Int) (v a b : Nat) : shB q v a b = (if v = 1 then [ltI q 8,ltI q 9] else [ltI q 9]) ++ (repW [ltI q 10,ltI q 11] a ++ (ltI q 12 :: ltI q 13 :: repW [ltI q 14,ltI q 15] b)) := by
  obtain ⟨e1,e2,e3,e4,e5⟩ := w2_B q
  unfold shB shF ltI
  rw [e3,e4,e5,show 1 + 30 * q + 8 = 9 + 30 * q by omega,show 1 + 30 * q + 9 = 10 + 30 * q by omega,show 1 + 30 * q + 10 = 11 + 30 * q by omega,show 1 + 30 * q + 11 = 12 + 30 * q by omega,show 1 + 30 * q + 12 = 13 + 30 * q by omega,show 1 + 30 * q + 13 = 14 + 30 * q by omega,show 1 + 30 * q + 14 = 15 + 30 * q by omega,show 1 + 30 * q + 15 = 16 + 30 * q by omega]
  by_cases h : v = 1
  · rw [if_pos h,if_pos h,e1]; simp only [List.append_assoc,List.cons_append,List.nil_append]
  · rw [if_neg h,if_neg h,e2]; simp only [List.append_assoc,List.cons_append,List.nil_append]
theorem dcI_shA (m : Mach) (q : Nat) (a b : Nat) : dcI m (shA q a b) = some ⟨q,btS a,btS b⟩ := by
  have hh := shA_hd (q := (q : Int)) (a := a) (b := b)
  have hl := shA_len q a b
  have hn : ¬ (((shA (q : Int) a b).length : Int) = 0 ∨ (shA (q : Int) a b).headD 0 = 0) := by omega
  have hc := shA_ca (q := (q : Int)) (by omega) (a := a) (b := b)
  rw [dcI_at hn (q := q) (by omega),hc.1,hc.2,if_pos rfl]
theorem shB_pos (q : Int) (v a b : Nat) : 2 ≤ (shB q v a b).length := by
  rw [shB_it]
  simp only [List.length_append,List.length_cons,repW_len]
  split <;> simp <;> omega
theorem dcI_shB {m : Mach} {q v : Nat} (hv : v < 2) (hr : ruN m q v ≠ noR) (a b : Nat) : dcI m (shB q v a b) = none := by
  have hh := shB_hd (q := (q : Int)) (v := v) (a := a) (b := b)
  have hp := shB_pos q v a b
  have h9 : (shB (q : Int) v a b).headD 0 = 9 + 30 * q ∨ (shB (q : Int) v a b).headD 0 = 10 + 30 * q := by
    rw [hh]; split <;> simp
  have hn : ¬ (((shB (q : Int) v a b).length : Int) = 0 ∨ (shB (q : Int) v a b).headD 0 = 0) := by omega
  rw [dcI_at hn (q := q) (by omega)]
  have nA : ∀ x y,¬ shB (q : Int) v a b = shA q x y := fun x y e => by
    have := congrArg (fun l => l.headD 0) e
    rw [shA_hd] at this
    omega
  have nB : ∀ (u x y : Nat),u < 2 → ruN m q u = noR → ¬ shB (q : Int) v a b = shB q u x y := fun u x y hu h e => by
    have := congrArg (fun l => l.headD 0) e
    rw [hh,shB_hd] at this
    have : v = u := by
      by_cases e1 : v = 1
      · by_cases e2 : u = 1
        · omega
        · rw [if_pos e1,if_neg e2] at this; omega
      · by_cases e2 : u = 1
        · rw [if_neg e1,if_pos e2] at this; omega
        · omega
    subst this
    exact hr h
  rw [if_neg (nA _ _),if_neg (fun e => nB 0 _ _ (by omega) e.1 e.2),if_neg (fun e => nB 1 _ _ (by omega) e.1 e.2)]
end Go.Proofs.YtnkeamihfiobdaaGreatDoor
end
section
set_option linter.unusedVariables false
set_option linter.unusedSimpArgs false
set_option maxRecDepth 100000
set_option maxHeartbeats 1000000
namespace Go.Proofs.YtnkeamihfiobdaaGreatDoor
open Go Foot Go.RowKit
abbrev SegC (m : Mach) (k : Nat) (w z : List Int) : Prop := Seg (tmT m) (noC m) k w z
theorem segC_eq {m : Mach} {k j : Nat} {w z y x : List Int} (h : SegC m k w z) (hk : k = j) (hw : w = x) (hz : z = y) : SegC m j x y := by subst hk hw hz; exact h
theorem seg_1 {m : Mach} {q : Nat} (hq : q < m.st.toNat) {L R : Nat} (hL : L ≤ 40) (hR : R ≤ 40) : SegC m (L + R + 2) (shA q L R) (ltI q 4 :: 0 :: (repW [ltI q 5,0] L ++ (ltI q 6 :: repW [ltI q 7] R))) := by
  have w0 := wo_0 hq
  have w1 := wo_1 hq
  have w2 := wo_2 hq
  have w3 := wo_3 hq
  have s := seg_even (m := m) (ltI q 0,0) (List.replicate L (ltI q 1,0) ++ (ltI q 2,0) :: List.replicate R (ltI q 3,0)) [] (nh_at (by decide) (by decide) (by decide)) (fun x hx => by
    rcases List.mem_append.1 hx with hx | hx
    · rw [mem_rep hx]; exact ⟨nh_at (by decide) (by decide) (by decide),badH_lt (by decide) (by decide) (by decide)⟩
    · rcases List.mem_cons.1 hx with hx | hx
      · rw [hx]; exact ⟨nh_at (by decide) (by decide) (by decide),badH_lt (by decide) (by decide) (by decide)⟩
      · rw [mem_rep hx]; exact ⟨nh_at (by decide) (by decide) (by decide),badH_lt (by decide) (by decide) (by decide)⟩) (by
    simp only [ouP,ouP_app,ouP_rep,w0,w1,w2,w3,List.length_append,List.length_cons,List.length_nil,List.length_replicate,repW_len]
    omega)
  refine segC_eq s (by simp only [List.length_append,List.length_cons,List.length_replicate]; omega) ?_ ?_
  · rw [shA_it]
    simp only [flP,flP_app,flP_rep,List.append_nil]
  · simp only [ouP,ouP_app,ouP_rep,w0,w1,w2,w3,List.nil_append,List.cons_append]
theorem seg_2 {m : Mach} {q : Nat} (hq : q < m.st.toNat) {L R : Nat} (hL : L ≤ 40) (hR : R ≤ 40) : SegC m (L + 2 + R / 2) (ltI q 4 :: 0 :: (repW [ltI q 5,0] L ++ (ltI q 6 :: repW [ltI q 7] R))) (shB q (R % 2) L (R / 2)) := by
  have w4 := wo_4 hq
  have w5 := wo_5 hq
  have w6 := wo_6 hq
  have w7 := wo_7 hq
  have nb : ∀ k : Int,4 ≤ k → k ≤ 7 → ltI q k ∉ (tmT m).ha ∧ badH (ltI q k) := fun k h1 h2 => ⟨nh_at (by omega) (by omega) (by omega),badH_lt (by omega) (by omega) (by omega)⟩
  have s := seg_even (m := m) (ltI q 4,0) (List.replicate L (ltI q 5,0)) (ltI q 6 :: repW [ltI q 7] R) (nb 4 (by decide) (by decide)).1 (fun x hx => by
    rw [mem_rep hx]; exact nb 5 (by decide) (by decide)) (by
    simp only [ouP,ouP_app,ouP_rep,w4,w5,List.length_append,List.length_cons,List.length_nil,List.length_replicate,repW_len]
    omega)
  simp only [flP,flP_rep,ouP,ouP_rep,w4,w5,List.length_replicate] at s
  have hmid : noC m ((ltI q 6 :: repW [ltI q 7] R) ++ ([ltI q 8,ltI q 9] ++ repW [ltI q 10,ltI q 11] L)) := dcI_bad (nb 6 (by decide) (by decide)).2
  have r2 : ∀ k,repW [ltI q 7] (2 * k) = repW [ltI q 7,ltI q 7] k := fun k => by
    induction k with
    | zero => rfl
    | succ k ih => rw [show 2 * (k + 1) = 2 * k + 1 + 1 by omega,repW,repW,ih]; rfl
  rcases Nat.mod_two_eq_zero_or_one R with h | h
  · obtain ⟨k,hk⟩ : ∃ k,R = 2 * k := ⟨R / 2,by omega⟩
    subst hk
    have s2 := seg_odd (m := m) (List.replicate k (ltI q 7,ltI q 7)) (ltI q 6) ([ltI q 8,ltI q 9] ++ repW [ltI q 10,ltI q 11] L) (nb 6 (by decide) (by decide)).1 (fun x hx => by
      rw [mem_rep hx]; exact nb 7 (by decide) (by decide)) (.inl (by simp)) (by
      simp only [ouS_rep,w6,w7,List.length_append,List.length_cons,List.length_nil,List.length_replicate,repW_len]
      omega)
    rw [r2] at s hmid ⊢
    simp only [flP_rep,List.length_replicate] at s2
    have s3 := Seg.trans s (segC_eq s2 rfl (by simp only [List.cons_append]) rfl) hmid
    refine segC_eq s3 (by omega) (by simp only [List.append_assoc,List.cons_append]) ?_
    rw [h,shB_it,if_neg (by decide),Nat.mul_div_cancel_left k (by decide)]
    simp only [ouS_rep,w6,w7,List.cons_append,List.nil_append,List.tail_cons,List.append_assoc]
  · obtain ⟨k,hk⟩ : ∃ k,R = 2 * k + 1 := ⟨R / 2,by omega⟩
    subst hk
    have s2 := seg_even (m := m) (ltI q 6,ltI q 7) (List.replicate k (ltI q 7,ltI q 7)) ([ltI q 8,ltI q 9] ++ repW [ltI q 10,ltI q 11] L) (nb 6 (by decide) (by decide)).1 (fun x hx => by
      rw [mem_rep hx]; exact nb 7 (by decide) (by decide)) (by
      simp only [ouP,ouP_rep,w6,w7,List.length_append,List.length_cons,List.length_nil,List.length_replicate,repW_len]
      omega)
    have r3 : repW [ltI q 7] (2 * k + 1) = ltI q 7 :: repW [ltI q 7,ltI q 7] k := by rw [repW,r2]; rfl
    rw [r3] at s hmid ⊢
    simp only [flP,flP_rep,List.length_replicate] at s2
    have s3 := Seg.trans s (segC_eq s2 rfl (by simp only [List.cons_append]) rfl) hmid
    refine segC_eq s3 (by omega) (by simp only [List.append_assoc,List.cons_append]) ?_
    rw [h,shB_it,if_pos rfl,show (2 * k + 1) / 2 = k by omega]
    simp only [ouP,ouP_rep,w6,w7,List.cons_append,List.nil_append,List.append_assoc]
end Go.Proofs.YtnkeamihfiobdaaGreatDoor
end
section
set_option linter.unusedVariables false
set_option linter.unusedSimpArgs false
set_option maxRecDepth 100000
set_option maxHeartbeats 1000000
namespace Go.Proofs.YtnkeamihfiobdaaGreatDoor
open Go Foot Go.RowKit
theorem repW_2 (x : List Int) : ∀ n,repW (x ++ x) n = repW x (2 * n)
  | 0 => rfl
  | n + 1 => by rw [show 2 * (n + 1) = 2 * n + 1 + 1 by omega,repW,repW,repW,repW_2 x n,List.append_assoc]
theorem ruM_cases {m : Mach} (g : TmOk m) {q v : Nat} (hq : q < m.st.toNat) (hv : v < 2) (hr : ruN m q v ≠ noR) : ((ruN m q v).w = 0 ∨ (ruN m q v).w = 1) ∧ ((ruN m q v).m = 1 ∨ (ruN m q v).m = -1) ∧ ∃ p : Nat,(ruN m q v).n = p ∧ p < m.st.toNat := by
  have hb := vMach_bd g.v
  have h := (tm_ru g hq hv).resolve_left hr
  exact ⟨h.1,h.2.1,(ruN m q v).n.toNat,by omega,by omega⟩
def miW (m : Mach) (q v L k : Nat) : List Int := (rwN (ruN m q v) v 0 ++ (repW (rwN (ruN m q v) v 1) L ++ (rwN (ruN m q v) v 2 ++ repW (rwN (ruN m q v) v 3) k))).drop (1 - v)
theorem seg_mid {m : Mach} {q v : Nat} (hq : q < m.st.toNat) (hv : v < 2) (hr : ruN m q v ≠ noR) {L k : Nat} (hL : L ≤ 40) (hk : k ≤ 40) (h0 : (rwN (ruN m q v) v 0) ≠ []) (hl : ∀ i,(rwN (ruN m q v) v i).length ≤ 8) : SegC m (L + 2 + k) (shB q v L k) (miW m q v L k) := by
  have nb : ∀ j : Int,10 ≤ j → j ≤ 15 → ltI q j ∉ (tmT m).ha ∧ badH (ltI q j) := fun j h1 h2 => ⟨nh_at (by omega) (by omega) (by omega),badH_lt (by omega) (by omega) (by omega)⟩
  have l0 := hl 0
  have l1 := hl 1
  have l2 := hl 2
  have l3 := hl 3
  have m1 : L * (rwN (ruN m q v) v 1).length ≤ 40 * 8 := Nat.mul_le_mul hL l1
  have m3 : k * (rwN (ruN m q v) v 3).length ≤ 40 * 8 := Nat.mul_le_mul hk l3
  have h01 : v = 0 ∨ v = 1 := by omega
  rcases h01 with h | h
  · subst h
    simp only [Int.natCast_zero] at l0 l1 l2 l3 m1 m3 h0
    have w0 := wo_r00 hq
    have w1 := wo_r01 hq
    have w2 := wo_r02 hq
    have w3 := wo_r03 hq
    have s := seg_odd (m := m) (List.replicate L (ltI q 10,ltI q 11) ++ (ltI q 12,ltI q 13) :: List.replicate k (ltI q 14,ltI q 15)) (ltI q 9) [] (nh_P0 hr) (fun x hx => by
      rcases List.mem_append.1 hx with hx | hx
      · rw [mem_rep hx]; exact nb 11 (by decide) (by decide)
      · rcases List.mem_cons.1 hx with hx | hx
        · rw [hx]; exact nb 13 (by decide) (by decide)
        · rw [mem_rep hx]; exact nb 15 (by decide) (by decide)) (.inr ⟨by simp,by rw [w0]; exact h0⟩) (by
      simp only [ouS,ouS_app,ouS_rep,w0,w1,w2,w3,List.length_append,List.length_cons,List.length_nil,List.length_replicate,repW_len]
      omega)
    refine segC_eq s (by simp only [List.length_append,List.length_cons,List.length_replicate]; omega) ?_ ?_
    · rw [shB_it,if_neg (by decide)]
      simp only [flP,flP_app,flP_rep,List.append_nil,List.cons_append,List.nil_append]
    · unfold miW
      simp only [ouS,ouS_app,ouS_rep,w0,w1,w2,w3,List.nil_append,Nat.sub_zero,List.tail_drop,List.drop_one,Int.natCast_zero]
  · subst h
    simp only [Int.natCast_one] at l0 l1 l2 l3 m1 m3 h0
    have w0 := wo_r10 hq
    have w1 := wo_r11 hq
    have w2 := wo_r12 hq
    have w3 := wo_r13 hq
    have s := seg_even (m := m) (ltI q 8,ltI q 9) (List.replicate L (ltI q 10,ltI q 11) ++ (ltI q 12,ltI q 13) :: List.replicate k (ltI q 14,ltI q 15)) [] (nh_P1 hr) (fun x hx => by
      rcases List.mem_append.1 hx with hx | hx
      · rw [mem_rep hx]; exact nb 10 (by decide) (by decide)
      · rcases List.mem_cons.1 hx with hx | hx
        · rw [hx]; exact nb 12 (by decide) (by decide)
        · rw [mem_rep hx]; exact nb 14 (by decide) (by decide)) (by
      simp only [ouP,ouP_app,ouP_rep,w0,w1,w2,w3,List.length_append,List.length_cons,List.length_nil,List.length_replicate,repW_len]
      omega)
    refine segC_eq s (by simp only [List.length_append,List.length_cons,List.length_replicate]; omega) ?_ ?_
    · rw [shB_it,if_pos rfl]
      simp only [flP,flP_app,flP_rep,List.append_nil,List.cons_append,List.nil_append]
    · unfold miW
      simp only [ouP,ouP_app,ouP_rep,w0,w1,w2,w3,List.nil_append,Nat.sub_self,List.drop_zero,Int.natCast_one]
theorem miW_R {m : Mach} {q v : Nat} (hv : v < 2) (hr : ruN m q v ≠ noR) (hm : 0 < (ruN m q v).m) {w : Nat} (hw2 : w < 2) (hw : (ruN m q v).w = w) (L k : Nat) : miW m q v L k = shA (ruN m q v).n (2 * L + w) k := by
  have h01 : v = 0 ∨ v = 1 := by omega
  have w01 : w = 0 ∨ w = 1 := by omega
  have r2 : ∀ a : Int,repW [a,0,a,0] L = repW [a,0] (2 * L) := fun a => repW_2 [a,0] L
  unfold miW
  rw [shA_it]
  rcases h01 with h | h <;> subst h <;> rcases w01 with h | h <;> subst h
  · simp only [Int.natCast_zero]
    rw [rw_R00w0 hr hm hw,rw_R01 hr hm,rw_R02 hr hm,rw_R03 hr hm,r2]
    simp only [List.cons_append,List.nil_append,Nat.sub_zero,List.drop_one,List.tail_cons,Nat.add_zero]
  · simp only [Int.natCast_zero]
    rw [rw_R00w1 hr hm hw,rw_R01 hr hm,rw_R02 hr hm,rw_R03 hr hm,r2]
    simp only [List.cons_append,List.nil_append,Nat.sub_zero,List.drop_one,List.tail_cons,repW]
  · simp only [Int.natCast_one]
    rw [rw_R10w0 hr hm hw,rw_R11 hr hm,rw_R12 hr hm,rw_R13 hr hm,r2]
    simp only [List.cons_append,List.nil_append,Nat.sub_self,List.drop_zero,Nat.add_zero]
  · simp only [Int.natCast_one]
    rw [rw_R10w1 hr hm hw,rw_R11 hr hm,rw_R12 hr hm,rw_R13 hr hm,r2]
    simp only [List.cons_append,List.nil_append,Nat.sub_self,List.drop_zero,repW]
def lfW (n : Int) (L K : Nat) : List Int := ltI n 16 :: (repW [ltI n 17] L ++ (ltI n 18 :: ltI n 19 :: repW [ltI n 20,ltI n 21] K))
theorem miW_L {m : Mach} {q v : Nat} (hv : v < 2) (hr : ruN m q v ≠ noR) (hm : ¬ 0 < (ruN m q v).m) {w : Nat} (hw2 : w < 2) (hw : (ruN m q v).w = w) (L k : Nat) : miW m q v L k = lfW (ruN m q v).n L (2 * w + 4 * k) := by
  have h01 : v = 0 ∨ v = 1 := by omega
  have w01 : w = 0 ∨ w = 1 := by omega
  have r4 : ∀ a b : Int,repW [a,b,a,b,a,b,a,b] k = repW [a,b] (4 * k) := fun a b => by
    rw [show 4 * k = 2 * (2 * k) by omega,← repW_2 [a,b] (2 * k),← repW_2 ([a,b] ++ [a,b]) k]
    rfl
  unfold miW lfW
  rcases h01 with h | h <;> subst h <;> rcases w01 with h | h <;> subst h
  · simp only [Int.natCast_zero]
    rw [rw_L00 hr hm,rw_L01 hr hm,rw_L02w0 hr hm hw,rw_L03 hr hm,r4]
    simp only [List.cons_append,List.nil_append,Nat.sub_zero,List.drop_one,List.tail_cons,Nat.mul_zero,Nat.zero_add]
  · simp only [Int.natCast_zero]
    rw [rw_L00 hr hm,rw_L01 hr hm,rw_L02w1 hr hm hw,rw_L03 hr hm,r4,show 2 * 1 + 4 * k = 4 * k + 1 + 1 by omega]
    simp only [List.cons_append,List.nil_append,Nat.sub_zero,List.drop_one,List.tail_cons,repW]
  · simp only [Int.natCast_one]
    rw [rw_L10 hr hm,rw_L11 hr hm,rw_L12w0 hr hm hw,rw_L13 hr hm,r4]
    simp only [List.cons_append,List.nil_append,Nat.sub_self,List.drop_zero,Nat.mul_zero,Nat.zero_add]
  · simp only [Int.natCast_one]
    rw [rw_L10 hr hm,rw_L11 hr hm,rw_L12w1 hr hm hw,rw_L13 hr hm,r4,show 2 * 1 + 4 * k = 4 * k + 1 + 1 by omega]
    simp only [List.cons_append,List.nil_append,Nat.sub_self,List.drop_zero,repW]
end Go.Proofs.YtnkeamihfiobdaaGreatDoor
end
section
set_option linter.unusedVariables false
set_option linter.unusedSimpArgs false
set_option maxRecDepth 100000
set_option maxHeartbeats 1000000
namespace Go.Proofs.YtnkeamihfiobdaaGreatDoor
open Go Foot Go.RowKit
def hfW (n : Int) (o j K : Nat) : List Int := (if o = 1 then [ltI n 22,ltI n 23] else [ltI n 23]) ++ (repW [ltI n 24,ltI n 25] j ++ (ltI n 26 :: ltI n 27 :: repW [ltI n 28,ltI n 29] K))
theorem rep_dbl (x : Int) : ∀ k,repW [x] (2 * k) = repW [x,x] k
  | 0 => rfl
  | k + 1 => by rw [show 2 * (k + 1) = 2 * k + 1 + 1 by omega,repW,repW,rep_dbl x k]; rfl
theorem seg_3 {m : Mach} {n : Nat} (hn : n < m.st.toNat) {L K : Nat} (hL : L ≤ 40) (hK : K ≤ 170) : SegC m (2 + L / 2 + K) (lfW n L K) (hfW n (L % 2) (L / 2) (K + L % 2)) := by
  have w16 := wo_16 hn
  have w17 := wo_17 hn
  have w18 := wo_18 hn
  have w19 := wo_19 hn
  have w20 := wo_20 hn
  have w21 := wo_21 hn
  have nb : ∀ k : Int,16 ≤ k → k ≤ 21 → ltI n k ∉ (tmT m).ha ∧ badH (ltI n k) := fun k h1 h2 => ⟨nh_at (by omega) (by omega) (by omega),badH_lt (by omega) (by omega) (by omega)⟩
  rcases Nat.mod_two_eq_zero_or_one L with h | h
  · obtain ⟨j,hj⟩ : ∃ j,L = 2 * j := ⟨L / 2,by omega⟩
    subst hj
    have s := seg_odd (m := m) (List.replicate j (ltI n 17,ltI n 17) ++ (ltI n 18,ltI n 19) :: List.replicate K (ltI n 20,ltI n 21)) (ltI n 16) [] (nb 16 (by decide) (by decide)).1 (fun x hx => by
      rcases List.mem_append.1 hx with hx | hx
      · rw [mem_rep hx]; exact nb 17 (by decide) (by decide)
      · rcases List.mem_cons.1 hx with hx | hx
        · rw [hx]; exact nb 19 (by decide) (by decide)
        · rw [mem_rep hx]; exact nb 21 (by decide) (by decide)) (.inr ⟨by simp,by rw [w16]; simp⟩) (by
      simp only [ouS,ouS_app,ouS_rep,w16,w17,w19,w21,List.length_append,List.length_cons,List.length_nil,List.length_replicate,repW_len]
      omega)
    refine segC_eq s (by simp only [List.length_append,List.length_cons,List.length_replicate]; omega) ?_ ?_
    · unfold lfW
      rw [rep_dbl]
      simp only [flP,flP_app,flP_rep,List.append_nil,List.cons_append,List.nil_append]
    · rw [h,Nat.mul_div_cancel_left j (by decide)]
      unfold hfW
      rw [if_neg (by decide)]
      simp only [ouS,ouS_app,ouS_rep,w16,w17,w19,w21,List.nil_append,List.cons_append,List.tail_cons,Nat.add_zero]
  · obtain ⟨j,hj⟩ : ∃ j,L = 2 * j + 1 := ⟨L / 2,by omega⟩
    subst hj
    have s := seg_even (m := m) (ltI n 16,ltI n 17) (List.replicate j (ltI n 17,ltI n 17) ++ (ltI n 18,ltI n 19) :: List.replicate K (ltI n 20,ltI n 21)) [] (nb 16 (by decide) (by decide)).1 (fun x hx => by
      rcases List.mem_append.1 hx with hx | hx
      · rw [mem_rep hx]; exact nb 17 (by decide) (by decide)
      · rcases List.mem_cons.1 hx with hx | hx
        · rw [hx]; exact nb 18 (by decide) (by decide)
        · rw [mem_rep hx]; exact nb 20 (by decide) (by decide)) (by
      simp only [ouP,ouP_app,ouP_rep,w16,w17,w18,w20,List.length_append,List.length_cons,List.length_nil,List.length_replicate,repW_len]
      omega)
    refine segC_eq s (by simp only [List.length_append,List.length_cons,List.length_replicate]; omega) ?_ ?_
    · unfold lfW
      rw [repW,rep_dbl]
      simp only [flP,flP_app,flP_rep,List.append_nil,List.cons_append,List.nil_append]
    · rw [h,show (2 * j + 1) / 2 = j by omega]
      unfold hfW
      rw [if_pos rfl]
      simp only [ouP,ouP_app,ouP_rep,w16,w17,w18,w20,List.nil_append,List.cons_append,repW]
theorem seg_4 {m : Mach} {n : Nat} (hn : n < m.st.toNat) {o j K : Nat} (ho : o < 2) (hj : j ≤ 40) (hK : K ≤ 180) : SegC m (2 + j + K) (hfW n o j K) (shA n j K) := by
  have w22 := wo_22 hn
  have w23 := wo_23 hn
  have w24 := wo_24 hn
  have w25 := wo_25 hn
  have w26 := wo_26 hn
  have w27 := wo_27 hn
  have w28 := wo_28 hn
  have w29 := wo_29 hn
  have nb : ∀ k : Int,22 ≤ k → k ≤ 29 → ltI n k ∉ (tmT m).ha ∧ badH (ltI n k) := fun k h1 h2 => ⟨nh_at (by omega) (by omega) (by omega),badH_lt (by omega) (by omega) (by omega)⟩
  have h01 : o = 0 ∨ o = 1 := by omega
  rcases h01 with h | h
  · subst h
    have s := seg_odd (m := m) (List.replicate j (ltI n 24,ltI n 25) ++ (ltI n 26,ltI n 27) :: List.replicate K (ltI n 28,ltI n 29)) (ltI n 23) [] (nb 23 (by decide) (by decide)).1 (fun x hx => by
      rcases List.mem_append.1 hx with hx | hx
      · rw [mem_rep hx]; exact nb 25 (by decide) (by decide)
      · rcases List.mem_cons.1 hx with hx | hx
        · rw [hx]; exact nb 27 (by decide) (by decide)
        · rw [mem_rep hx]; exact nb 29 (by decide) (by decide)) (.inr ⟨by simp,by rw [w23]; simp⟩) (by
      simp only [ouS,ouS_app,ouS_rep,w23,w25,w27,w29,List.length_append,List.length_cons,List.length_nil,List.length_replicate,repW_len]
      omega)
    refine segC_eq s (by simp only [List.length_append,List.length_cons,List.length_replicate]; omega) ?_ ?_
    · unfold hfW
      rw [if_neg (by decide)]
      simp only [flP,flP_app,flP_rep,List.append_nil,List.cons_append,List.nil_append]
    · rw [shA_it]
      simp only [ouS,ouS_app,ouS_rep,w23,w25,w27,w29,List.nil_append,List.cons_append,List.tail_cons]
  · subst h
    have s := seg_even (m := m) (ltI n 22,ltI n 23) (List.replicate j (ltI n 24,ltI n 25) ++ (ltI n 26,ltI n 27) :: List.replicate K (ltI n 28,ltI n 29)) [] (nb 22 (by decide) (by decide)).1 (fun x hx => by
      rcases List.mem_append.1 hx with hx | hx
      · rw [mem_rep hx]; exact nb 24 (by decide) (by decide)
      · rcases List.mem_cons.1 hx with hx | hx
        · rw [hx]; exact nb 26 (by decide) (by decide)
        · rw [mem_rep hx]; exact nb 28 (by decide) (by decide)) (by
      simp only [ouP,ouP_app,ouP_rep,w22,w24,w26,w28,List.length_append,List.length_cons,List.length_nil,List.length_replicate,repW_len]
      omega)
    refine segC_eq s (by simp only [List.length_append,List.length_cons,List.length_replicate]; omega) ?_ ?_
    · unfold hfW
      rw [if_pos rfl]
      simp only [flP,flP_app,flP_rep,List.append_nil,List.cons_append,List.nil_append]
    · rw [shA_it]
      simp only [ouP,ouP_app,ouP_rep,w22,w24,w26,w28,List.nil_append,List.cons_append]
theorem hfW_bad {m : Mach} {n : Nat} {o j K : Nat} : noC m (hfW n o j K) := by
  refine dcI_bad ?_
  unfold hfW
  by_cases h : o = 1
  · rw [if_pos h]; exact badH_lt (by decide) (by decide) (by decide)
  · rw [if_neg h]; exact badH_lt (by decide) (by decide) (by decide)
theorem rwN_ne {m : Mach} (g : TmOk m) {q v : Nat} (hq : q < m.st.toNat) (hv : v < 2) (hr : ruN m q v ≠ noR) : rwN (ruN m q v) v 0 ≠ [] := by
  obtain ⟨h1,h2,_⟩ := ruM_cases g hq hv hr
  have h01 : v = 0 ∨ v = 1 := by omega
  rcases h01 with h | h <;> subst h <;> simp only [Int.natCast_zero,Int.natCast_one] <;> rcases h2 with h2 | h2
  · rcases h1 with h1 | h1
    · rw [rw_R00w0 hr (by omega) h1]; simp
    · rw [rw_R00w1 hr (by omega) h1]; simp
  · rw [rw_L00 hr (by omega)]; simp
  · rcases h1 with h1 | h1
    · rw [rw_R10w0 hr (by omega) h1]; simp
    · rw [rw_R10w1 hr (by omega) h1]; simp
  · rw [rw_L10 hr (by omega)]; simp
def coN (r : Rule') (L R : Nat) : Nat := L + R + 2 + 2 * (L + 2 + R / 2) + (if 0 < r.m then 0 else 2 * (2 + L / 2 + 4 * (R / 2) + 2 * r.w.toNat) + L % 2)
def nxL (r : Rule') (L : Nat) : Nat := if 0 < r.m then 2 * L + r.w.toNat else L / 2
def nxR (r : Rule') (L R : Nat) : Nat := if 0 < r.m then R / 2 else 2 * r.w.toNat + 4 * (R / 2) + L % 2
theorem seg_step {m : Mach} (g : TmOk m) {q L R : Nat} (hq : q < m.st.toNat) (hL : L ≤ 40) (hR : R ≤ 40) (hr : ruN m q (R % 2) ≠ noR) : SegC m (coN (ruN m q (R % 2)) L R) (shA q L R) (shA (ruN m q (R % 2)).n (nxL (ruN m q (R % 2)) L) (nxR (ruN m q (R % 2)) L R)) := by
  have hv : R % 2 < 2 := by omega
  obtain ⟨h1,h2,p,hp,hps⟩ := ruM_cases g hq hv hr
  have hrn : ruN m q (R % 2) = noR ∨ 0 ≤ (ruN m q (R % 2)).n := .inr (by omega)
  have s1 := seg_1 hq hL hR
  have s2 := seg_2 hq hL hR
  have s3 := seg_mid hq hv hr hL (k := R / 2) (by omega) (rwN_ne g hq hv hr) (fun i => (rwN_gd hrn i).1)
  have s12 := Seg.trans s1 s2 (dcI_bad (badH_lt (by decide) (by decide) (by decide)))
  have s123 := Seg.trans s12 s3 (dcI_shB hv hr L (R / 2))
  obtain ⟨w,hw,hw2⟩ : ∃ w : Nat,(ruN m q (R % 2)).w = w ∧ w < 2 := ⟨(ruN m q (R % 2)).w.toNat,by omega,by omega⟩
  unfold coN nxL nxR
  by_cases hm : 0 < (ruN m q (R % 2)).m
  · rw [miW_R hv hr hm hw2 hw] at s123
    rw [if_pos hm,if_pos hm,if_pos hm,hw,Int.toNat_natCast]
    exact segC_eq s123 (by omega) rfl rfl
  · rw [miW_L hv hr hm hw2 hw,hp] at s123
    rw [if_neg hm,if_neg hm,if_neg hm,hw,Int.toNat_natCast,hp]
    have s4 := seg_3 hps hL (K := 2 * w + 4 * (R / 2)) (by omega)
    have s5 := seg_4 hps (o := L % 2) (j := L / 2) (K := 2 * w + 4 * (R / 2) + L % 2) (by omega) (by omega) (by omega)
    have s45 := Seg.trans s4 s5 hfW_bad
    have hx : noC m (lfW p L (2 * w + 4 * (R / 2))) := dcI_bad (badH_lt (by decide) (by decide) (by decide))
    exact segC_eq (Seg.trans s123 s45 hx) (by omega) rfl rfl
end Go.Proofs.YtnkeamihfiobdaaGreatDoor
end
section
set_option linter.unusedVariables false
set_option linter.unusedSimpArgs false
set_option maxRecDepth 100000
set_option maxHeartbeats 1000000
namespace Go.Proofs.YtnkeamihfiobdaaGreatDoor
open Go Foot Go.RowKit
abbrev cfN (q L R : Nat) : Conf := ⟨q,btS L,btS R⟩
theorem btS_nil {n : Int} : btS n = [] ↔ n ≤ 0 := by
  by_cases h : 0 < n
  · rw [btS_s h]; simp; omega
  · rw [btS_n h]; simp; omega
theorem btF_norm : ∀ (k : Nat) (n : Int),n.toNat ≤ k → (btF k n).getLastD 1 ≠ 0
  | 0,n,_ => by rw [btF]; decide
  | k + 1,n,hk => by
    rw [btF]
    by_cases h : 0 < n
    · rw [if_pos h]
      have ih := btF_norm k (n / 2) (by omega)
      by_cases h1 : n = 1
      · subst h1
        have : btF k (1 / 2) = [] := by
          cases k with
          | zero => rfl
          | succ k => rw [btF,if_neg (by decide)]
        rw [this]
        decide
      · have hne : btF k (n / 2) ≠ [] := by
          cases k with
          | zero => omega
          | succ k => rw [btF,if_pos (by omega)]; simp
        rw [List.getLastD_cons,List.getLastD_eq_getLast?]
        rw [List.getLastD_eq_getLast?] at ih
        cases hl : (btF k (n / 2)).getLast? with
        | none => exact absurd (List.getLast?_eq_none_iff.1 hl) hne
        | some y => rw [hl] at ih; exact ih
    · rw [if_neg h]; decide
theorem btS_norm (n : Int) : (btS n).getLastD 1 ≠ 0 := by unfold btS; exact btF_norm _ _ (Nat.le_refl _)
theorem btS_hd (n : Nat) : (btS (n : Int)).headD 0 = ((n % 2 : Nat) : Int) := by
  by_cases h : (0 : Int) < n
  · rw [btS_s h]
    show (n : Int) % 2 = _
    omega
  · rw [btS_n h]
    show (0 : Int) = _
    omega
theorem btS_tl (n : Nat) : (btS (n : Int)).tail = btS ((n / 2 : Nat) : Int) := by
  by_cases h : (0 : Int) < n
  · rw [btS_s h,List.tail_cons,show ((n : Int)) / 2 = ((n / 2 : Nat) : Int) by omega]
  · rw [btS_n h,btS_n (by omega)]
    rfl
theorem trim_bt {x n : Nat} (hx : x < 2) : trimR ((x : Int) :: btS n) = btS ((2 * n + x : Nat) : Int) := by
  rw [trimR_cons (btS_norm n)]
  by_cases h : (x : Int) = 0 ∧ btS (n : Int) = []
  · rw [if_pos h,btS_n (by have := btS_nil.1 h.2; omega)]
  · rw [if_neg h]
    have hp : (0 : Int) < ((2 * n + x : Nat) : Int) := by
      by_cases hn : 0 < n
      · omega
      · have : n = 0 := by omega
        subst this
        by_cases h0 : x = 0
        · subst h0; exact absurd ⟨rfl,btS_n (by decide)⟩ h
        · omega
    rw [btS_s hp,show ((2 * n + x : Nat) : Int) % 2 = x by omega,show ((2 * n + x : Nat) : Int) / 2 = n by omega]
theorem vConf_cf {m : Mach} (hy : m.sy = 2) {q L R : Nat} (hq : q < m.st.toNat) (hL : L ≤ 200) (hR : R ≤ 200) : vConf m (cfN q L R) = true := by
  refine vConf_mk ⟨⟨by dsimp only; omega,by dsimp only; omega⟩,?_,?_⟩
  · have := btS_len (L : Int)
    exact vSide_mk (by dsimp only; omega) (fun x hx => by have := btS_bit hx; omega) (btS_norm _)
  · have := btS_len (R : Int)
    exact vSide_mk (by dsimp only; omega) (fun x hx => by have := btS_bit hx; omega) (btS_norm _)
theorem ruAt_cf {m : Mach} (hy : m.sy = 2) (q L R : Nat) : ruAt m (cfN q L R) = ruN m q (R % 2) := by
  unfold ruAt ruN
  rw [hy,btS_hd]
  congr 1
  dsimp only
  omega
theorem stepS_cf {m : Mach} (g : TmOk m) {q L R : Nat} (hq : q < m.st.toNat) (hr : ruN m q (R % 2) ≠ noR) : ∃ p : Nat,(ruN m q (R % 2)).n = p ∧ p < m.st.toNat ∧ stepS (ruN m q (R % 2)) (cfN q L R) = cfN p (nxL (ruN m q (R % 2)) L) (nxR (ruN m q (R % 2)) L R) := by
  obtain ⟨h1,h2,p,hp,hps⟩ := ruM_cases g hq (by omega) hr
  refine ⟨p,hp,hps,?_⟩
  obtain ⟨w,hw,hw2⟩ : ∃ w : Nat,(ruN m q (R % 2)).w = w ∧ w < 2 := ⟨(ruN m q (R % 2)).w.toNat,by omega,by omega⟩
  unfold stepS nxL nxR
  by_cases hm : 0 < (ruN m q (R % 2)).m
  · rw [if_pos hm,if_pos hm,if_pos hm,hp,hw,Int.toNat_natCast,trim_bt hw2,btS_tl]
  · rw [if_neg hm,if_neg hm,if_neg hm,hp,hw,Int.toNat_natCast,btS_tl,btS_tl,btS_hd,trim_bt hw2,trim_bt (by omega)]
    congr 2
    congr 1
    omega
theorem nmF_bt : ∀ (k n : Nat),n ≤ k → n ≤ 1000000 → nmO (btF k n) = some (n : Int)
  | 0,n,h,_ => by
    have : n = 0 := by omega
    subst this
    rfl
  | k + 1,n,h,hb => by
    rw [btF]
    by_cases h0 : (0 : Int) < n
    · rw [if_pos h0,nmO,show ((n : Int)) / 2 = ((n / 2 : Nat) : Int) by omega,nmF_bt k (n / 2) (by omega) (by omega)]
      dsimp only
      rw [if_neg (by omega)]
      congr 1
      omega
    · rw [if_neg h0,nmO]
      congr 1
      omega
theorem nmO_bt {n : Nat} (h : n ≤ 1000000) : nmO (btS (n : Int)) = some (n : Int) := by
  unfold btS
  rw [Int.toNat_natCast]
  exact nmF_bt n n (Nat.le_refl _) h
theorem enO_cf {m : Mach} (g : TmOk m) {q L R : Nat} (hL : L ≤ 200) (hR : R ≤ 200) : enO m (cfN q L R) = some (shA q L R) := by
  have h1 := nmO_bt (n := L) (by omega)
  have h2 := nmO_bt (n := R) (by omega)
  unfold enO
  rw [if_pos g.s,nmB_some h1,nmB_some h2,nmV_some h1,nmV_some h2,Bool.and_self,cond_true,if_pos (by omega),Int.toNat_natCast,Int.toNat_natCast]
theorem tgX_shA (m : Mach) (q L R : Nat) : tgX m (shA q L R) = coT (cfN q L R) := tgX_some (dcI_shA m q L R)
end Go.Proofs.YtnkeamihfiobdaaGreatDoor
end
section
set_option linter.unusedVariables false
set_option linter.unusedSimpArgs false
set_option maxRecDepth 100000
set_option maxHeartbeats 1000000
namespace Go.Proofs.YtnkeamihfiobdaaGreatDoor
open Go Foot Go.RowKit
theorem preB223 {p : Prop} (h : p := by first | with_reducible assumption | omega | (simp only [List.length_append,List.length_cons,List.length_nil,List.length_set,List.length_replicate,List.length_take,List.length_drop,List.length_tail,List.length_dropLast,List.length_reverse] at *; omega) | exact mem_len (by assumption) (by omega) | (with_reducible refine Int.le_trans (Int.ofNat_le.2 (trimR_len _)) ?_; simp only [List.length_cons,List.length_tail]; omega) | (exact (ruAt_ok (by assumption) (by assumption) (by assumption)).2.1) | (exact (ruAt_ok (by assumption) (by assumption) (by assumption)).2.1) | (have := vMach_bd (by assumption); omega) | (simp only [List.length_append,List.length_cons,List.length_nil,repW_len,seN_len] at *; omega) | (simp only [mC_ch,mC_tu]; omega) | (have := vTag_bd (by assumption); omega) | (have := (‹Gd _ _›).le; omega) | (exact tgHalts_no (by assumption)) | (exact tgHead (by assumption) (by assumption) (by assumption)) | (exact Int.le_trans (tgStep_gd (by assumption) (by assumption) (by assumption) (by assumption)).le (by decide)) | (exact vTag_r (by assumption)) | (with_reducible refine Int.le_trans (Int.ofNat_le.2 (pushL_len _ _)) ?_; simp only [List.length_dropLast]; omega) | exact ls_at (by assumption) (by omega) | exact pt_gd (by assumption) | exact lv_at (by assumption) (by omega) | exact pt_gd (lv_at (by assumption) (by omega)) | exact (ask_ok (by assumption)).1 | exact (ask_ok (by assumption)).2.1 | exact (ask_ok (by assumption)).2.2.1 | exact (ask_ok (by assumption)).2.2.2 | trivial) : p := h
theorem stepMI_ok (m : Mach) (c : Conf) (hm : vMach m = true) (hc : vConf m c = true) (h1 : ¬ ruAt m c = noR) (h2 : roomS (stepS (ruAt m c) c) = true) : Does Tryz.prog 10 [.agg (maC m),.agg (coC c)] [] (.tup [(true,coC (stepS (ruAt m c) c)),(false,[int 0])]) [] := by
  have hbd := at_bd hm hc
  have hcb := vConf_bd hc
  have hmb := vMach_bd hm
  have hr := ruAt_ok hm hc
  have hvc : (vMach m && vConf m c) = true := by rw [hm,hc]; rfl
  have hd : decide (ruAt m c = noR) = false := decide_eq_false h1
  have hk := stepS_ok hm hc h1 h2
  have hkb := at_bd hm hk
  refine does_of (k := 0) Tryz.func10 rfl Tryz.ntmps10 rfl rfl fun w F0 S0 ρ0 => ?_
  dsimp only [argT,argH]
  repeat' first|(apply n3;exact a_new (gb := .bx _) rfl;exact rfl;refine dA ?_)|(apply p3;exact puL;exact rfl)|refine cd ?_|(apply c4 0;exact callK1 (θ := []) (hD := (ValidConfig_ok _ _ preB223 preB223 preB223));exact rfl;exact rfl;exact rfl;refine dM ?_)|fail
  simp only [hvc,Bool.not_true]
  repeat' first|(apply p3;(exact pu1);exact rfl)|refine cd ?_|(apply w3;(exact a_st_bx rfl rfl rfl rfl (fN rfl rfl) (Nat.le_of_ble_eq_true rfl) rfl);exact rfl;refine dS ?_)|(apply c4 3;exact callK0 (θ := []) (hD := (runnerOf_ok _ _ preB223 preB223));exact rfl;exact rfl;exact rfl;refine dM ?_)|(apply c4 0;exact callK1 (θ := []) (hD := (haltsC_ok _ _ preB223 preB223));exact rfl;exact rfl;exact rfl;refine dM ?_)|(apply c4 2;exact callK0 (θ := [_,_,_]) (hD := (stepC_ok _ _ preB223 preB223));exact rfl;exact rfl;exact rfl;refine dM ?_)|(apply c4 0;exact callF (hD := (configC_ok _ _ preB223 preB223));exact rfl;exact rfl;exact rfl;refine dM ?_)|((refine g_cond rfl (fun hc => ?_) (fun hc => ?_)) <;> (try simp only [dcB] at hc) <;> (try first|contradiction|(exfalso;omega)))|fail
  · have h : roomS (stepS (ruAt m c) c) = false := by assumption
    exfalso; rw [h] at h2; cases h2
  · repeat refine cr ?_
    refine ends_id ?_
    refine endK [] (h2 := ?_) (h3 := ?_) (nd := ?_)
    all_goals (repeat' first|exact ce0|refine ce ?_|refine ce2 ?_ ?_|exact SVLe.refl|refine ceb ?_)
    all_goals first | exact (show nodupB _ = true from rfl) | exact Or.inr rfl | (rfl)
theorem TagCost_ok (m : Mach) (q L R : Nat) (g : TmOk m) (hq : q < m.st.toNat) (hL : L ≤ 40) (hR : R ≤ 40) (hr : ruN m q (R % 2) ≠ noR) : Does Tryz.prog 9 [.agg (maC m),.agg (coC (cfN q L R))] [] (.tup [(false,[int (coN (ruN m q (R % 2)) L R)]),(false,[int 0])]) [] := by
  have hv := g.v
  have hsy := g.y
  have hc := vConf_cf hsy hq (L := L) (R := R) (by omega) (by omega)
  have hmb := vMach_bd hv
  rw [hsy] at hmb
  have hen := enO_cf g (q := q) (L := L) (R := R) (by omega) (by omega)
  have f1 := nmO_bt (n := L) (by omega)
  have f2 := nmO_bt (n := R) (by omega)
  have g1 := nmB_some f1
  have g2 := nmB_some f2
  have g3 := nmV_some f1
  have g4 := nmV_some f2
  have l1 := btS_len (L : Int)
  have l2 := btS_len (R : Int)
  have hq2 : 2 * q + R % 2 < m.ru.length := by omega
  have hru : ruN m q (R % 2) = m.ru[2 * q + R % 2]'hq2 := by unfold ruN; rw [List.getD_eq_getElem?_getD,List.getElem?_eq_getElem hq2]; rfl
  have hx : coN (ruN m q (R % 2)) L R = L + R + 2 + 2 * (L + 2 + R / 2) + (if 0 < (ruN m q (R % 2)).m then 0 else 2 * (2 + L / 2 + 4 * (R / 2) + 2 * (ruN m q (R % 2)).w.toNat) + L % 2) := by unfold coN; rfl
  have hrc := (tm_ru g hq (s := R % 2) (by omega)).resolve_left hr
  generalize ruN m q (R % 2) = r at *
  have e1 : (cfN q L R).st = q := rfl
  have e2 : (cfN q L R).le = btS L := rfl
  have e3 : (cfN q L R).ri = btS R := rfl
  generalize cfN q L R = c at *
  rw [← e2] at g1 g3 l1
  rw [← e3] at g2 g4 l2
  have hvc : (vMach m && vConf m c) = true := by rw [hv,hc]; rfl
  obtain ⟨b1,b2,b3,b4,b5,b6⟩ := vConf_bits hsy hc
  have hgg : (nmB c.le && nmB c.ri) = true := by rw [g1,g2]; rfl
  refine does_of (k := 0) Tryz.func9 rfl Tryz.ntmps9 rfl rfl fun w F0 S0 ρ0 => ?_
  dsimp only [argT,argH]
  repeat' first|(apply n3;exact a_new (gb := .bx _) rfl;exact rfl;refine dA ?_)|(apply p3;exact a_pure (sv := .one _) rfl;exact rfl)|refine cdn ?_|refine g_reg (id := 0) ?_|(apply g_drN (id := 1) okM [[],[],[],[1,2],[0,1,2,3],[0,1,2,3,4]] [([],[]),([],[]),([],[]),([],[]),([],[]),([],[])] 0;(focus (refine dp 0 0 [15,16,17] [] (by exact puL) ?_;refine dp 1 0 [14,16] [] (by exact puL) ?_;refine dp 2 0 [14,15] [] (by exact puL) ?_;refine dp 3 3 [14] [] (callD1 (n := _) 0 (θ := []) (hD := (ValidConfig_ok _ _ preB223 preB223 preB223))) ?_;refine dp 4 15 [] [] (callD1 (n := _) 0 (θ := []) (hD := (binaryCode_ok _ _))) ?_;refine dp 5 31 [] [] pu1 ?_;(refine d_nil ?_;refine dN ?_)));any_goals kernel_rfl)|fail
  simp only [hvc,cond_true,if_pos hsy]
  repeat' first|(apply p3;(first|exact pu1|exact a_ne rfl rfl);exact rfl)|refine cdn ?_|refine g_reg (id := 2) ?_|refine g_reg (id := 4) ?_|(apply c4 1;exact callK1 (θ := []) (hD := (tagWordOf_ok _ _ preB223 preB223 preB223));exact rfl;exact rfl;exact rfl;refine dM ?_)|fail
  simp only [hen,Option.isSome_some,cond_true]
  repeat' first|(apply p3;(first|exact pu1|exact a_ne rfl rfl);exact rfl)|refine cdn ?_|refine g_reg (id := 5) ?_|refine g_reg (id := 7) ?_|(apply c4 0;exact callK1 (θ := []) (hD := (numbersOf_ok _ preB223 preB223 preB223 preB223));exact rfl;exact rfl;exact rfl;refine dM ?_)|fail
  simp only [hgg,cond_true,g3,g4]
  repeat' first|(apply n3;exact a_new (gb := .bx _) rfl;exact rfl;refine dA ?_)|(apply p3;(first|exact pu1|exact a_mulB rfl rfl (by omega) (by omega) (by omega) (by omega)|exact a_rem rfl rfl (by omega) (by omega) (by omega)|exact a_add rfl rfl (by omega) (by omega)|exact puI);exact rfl)|refine cdn ?_|refine g_reg (id := 8) ?_|(apply w3;(exact a_st_bx rfl rfl rfl rfl (fN rfl rfl) (Nat.le_of_ble_eq_true rfl) rfl);exact rfl;refine dS ?_)|fail
  have hj : (2 * c.st + (R : Int) % 2).toNat < m.ru.length := by omega
  have er : m.ru[(2 * c.st + (R : Int) % 2).toNat]'hj = r := by
    rw [hru]
    congr 1
    omega
  rw [er]
  have hr2 : decide (r = (⟨0,0,-1⟩ : Rule')) = false := decide_eq_false hr
  try simp only [setRow,List.map_cons,List.map_nil,scC,List.set_cons_zero,List.set_cons_succ,Nat.zero_add,List.getElem?_cons_zero,List.getElem?_cons_succ,List.take_succ_cons,List.take_zero,List.drop_zero]
  repeat' first|(apply p3;(exact pu1);exact rfl)|refine cd ?_|(apply c4 0;exact callK1 (θ := []) (hD := (isRule_ok r));exact rfl;exact rfl;exact rfl;refine dM ?_)|fail
  rw [hr2]
  repeat' first|(apply p3;(first|exact pu1|exact a_mulB rfl rfl (by omega) (by omega) (by omega) (by omega)|exact a_rem rfl rfl (by omega) (by omega) (by omega)|exact a_add rfl rfl (by omega) (by omega)|exact a_quo rfl rfl (by omega) (by omega) (by omega)|exact puC);exact rfl)|refine cd ?_|((refine g_cond rfl (fun hc => ?_) (fun hc => ?_)) <;> (try simp only [dcB] at hc) <;> (try first|contradiction|(exfalso;omega)))|fail
  · have h : r.m < 0 := by assumption
    rw [hx,if_neg (by omega)]
    repeat refine cr ?_
    refine ends_id ?_
    refine endK [] (h2 := ?_) (h3 := ?_) (nd := ?_)
    all_goals (repeat' first|exact ce0|refine ce ?_|refine ce2 ?_ ?_|exact SVLe.refl|refine ceb ?_)
    all_goals first | exact (show nodupB _ = true from rfl) | exact Or.inr rfl | (omega)
  · have h : ¬ r.m < 0 := by assumption
    rw [hx,if_pos (by omega)]
    repeat refine cr ?_
    refine ends_id ?_
    refine endK [] (h2 := ?_) (h3 := ?_) (nd := ?_)
    all_goals (repeat' first|exact ce0|refine ce ?_|refine ce2 ?_ ?_|exact SVLe.refl|refine ceb ?_)
    all_goals first | exact (show nodupB _ = true from rfl) | exact Or.inr rfl | (omega)
theorem machineTexts1_ok (c : Conf) (g : CfOk c) : Does Tryz.prog 43 [.agg (coC c)] [] (.one (str (coT c))) [] := by
  refine does_of (k := 0) Tryz.func43 rfl Tryz.ntmps43 rfl rfl fun w F0 S0 ρ0 => ?_
  dsimp only [argT,argH]
  repeat' first|(apply n3;exact a_new (gb := .bx _) rfl;exact rfl;refine dA ?_)|(apply p3;(exact pu1);exact rfl)|refine cd ?_|(apply c4 0;exact callK1 (θ := []) (hD := (configText_ok c 0 (fun _ => g)));exact rfl;exact rfl;exact rfl;refine dM ?_)|fail
  repeat refine cr ?_
  refine ends_id ?_
  refine endK [] (h2 := ?_) (h3 := ?_) (nd := ?_)
  all_goals (repeat' first|exact ce0|refine ce ?_|refine ce2 ?_ ?_|exact SVLe.refl|refine ceb ?_)
  all_goals first | exact (show nodupB _ = true from rfl) | exact Or.inr rfl | (rfl)
theorem r8SameZ_ok (xs ys : List Int) (hx : (xs.length : Int) ≤ 1048576) (hy : (ys.length : Int) ≤ 1048576) : Does Tryz.prog 14 [.one (shI xs),.one (shI ys)] [] (.one (boo (eqI xs ys))) [] := by
  refine does_of (k := 0) Tryz.func14 rfl Tryz.ntmps14 rfl rfl fun w F0 S0 ρ0 => ?_
  dsimp only [argT,argH]
  repeat' first|(apply p3;(first|exact pu1|exact puN|exact a_ne rfl rfl);exact rfl)|refine cd ?_|((refine g_cond rfl (fun hc => ?_) (fun hc => ?_)) <;> (try simp only [dcB] at hc) <;> (try first|contradiction|(exfalso;omega)))|fail
  · repeat refine cr ?_
    refine ends_id ?_
    refine endK [] (h2 := ?_) (h3 := ?_) (nd := ?_)
    all_goals (repeat' first|exact ce0|refine ce ?_|refine ce2 ?_ ?_|exact SVLe.refl|refine ceb ?_)
    all_goals first | exact (show nodupB _ = true from rfl) | exact Or.inr rfl | ((symm; unfold eqI; rw [decide_eq_false_iff_not]; rintro rfl; omega))
  refine g_loop_id ?_
  refine loopK [0,1,4] [] (fun i : Int => 0 ≤ i ∧ i ≤ xs.length ∧ xs.take i.toNat = ys.take i.toNat) (fun i => [(5,.one (int i))]) (fun _ => []) (fun i => (xs.length - i).toNat) (0 : Int) [] (hI := ?_) (hr := ?_)
  · exact ⟨by simp,by simp,by simp⟩
  · rintro i ⟨h0,h1,h2⟩
    dsimp only [List.cons_append,List.nil_append] at *
    skip
    repeat' first|(apply p3;(first|exact pu1|exact puN|exact puC|exact a_add rfl rfl (by omega) (by omega));exact rfl)|refine cd ?_|(apply g_drN (id := 6) okM [[],[],[0,1],[0,1,2],[],[],[4,5],[4,5,6],[0,1,2,3,4,5,6,7]] [([],[]),([],[]),([],[]),([],[]),([],[]),([],[]),([],[]),([],[]),([],[])] 0;(focus (refine dp 0 0 [18,21,22,23,24] [] pu1 ?_;refine dp 1 0 [17,21,22,23,24] [] pu1 ?_;refine dp 2 3 [21,22,23,24] [] puI ?_;refine dp 3 7 [21,22,23,24] [] puL ?_;refine dp 4 0 [17,18,19,20,22] [] pu1 ?_;refine dp 5 0 [17,18,19,20,21] [] pu1 ?_;refine dp 6 3 [17,18,19,20] [] puI ?_;refine dp 7 7 [17,18,19,20] [] puL ?_;refine dp 8 255 [] [] (by exact a_ne rfl rfl) ?_;(refine d_nil ?_;refine dN ?_)));any_goals kernel_rfl)|((refine g_cond rfl (fun hc => ?_) (fun hc => ?_)) <;> (try simp only [dcB] at hc) <;> (try first|contradiction|(exfalso;omega)))|fail
    · repeat refine cr ?_
      refine ends_id ?_
      refine endK [] (h2 := ?_) (h3 := ?_) (nd := ?_)
      all_goals (repeat' first|exact ce0|refine ce ?_|refine ce2 ?_ ?_|exact SVLe.refl|refine ceb ?_)
      all_goals first | exact (show nodupB _ = true from rfl) | exact Or.inr rfl | ((symm; unfold eqI; rw [decide_eq_false_iff_not]; rintro rfl; simp_all))
    · refine q_again (i + 1) [] (by exact stk) ?_ ?_
      · exact ⟨by omega,by omega,take_next h0 (by omega) (by omega) h2 (by simp_all)⟩
      · omega
    · have hl := take_end (by omega) (by omega) h2
      repeat refine cr ?_
      refine ends_id ?_
      refine endK [] (h2 := ?_) (h3 := ?_) (nd := ?_)
      all_goals (repeat' first|exact ce0|refine ce ?_|refine ce2 ?_ ?_|exact SVLe.refl|refine ceb ?_)
      all_goals first | exact (show nodupB _ = true from rfl) | exact Or.inr rfl | ((symm; unfold eqI; rw [decide_eq_true_eq]; exact hl))
end Go.Proofs.YtnkeamihfiobdaaGreatDoor
end
section
set_option linter.unusedVariables false
set_option linter.unusedSimpArgs false
set_option maxRecDepth 100000
set_option maxHeartbeats 1000000
namespace Go.Proofs.YtnkeamihfiobdaaGreatDoor
open Go Foot Go.RowKit
def RoomK (m : Mach) : Nat → Conf → Prop
  | 0,_ => True
  | k + 1,c => ruAt m c ≠ noR → roomS (stepS (ruAt m c) c) = true ∧ RoomK m k (stepS (ruAt m c) c)
def cfR (m : Mach) : Nat → Conf → List Conf
  | 0,c => [c]
  | k + 1,c => if ruAt m c = noR then [c] else c :: cfR m k (stepS (ruAt m c) c)
theorem cfR_n {m : Mach} {c : Conf} (h : ruAt m c = noR) : ∀ k,cfR m k c = [c]
  | 0 => rfl
  | k + 1 => by rw [cfR,if_pos h]
theorem cfR_s {m : Mach} {c : Conf} {k : Nat} (h : ¬ ruAt m c = noR) : cfR m (k + 1) c = c :: cfR m k (stepS (ruAt m c) c) := by rw [cfR,if_neg h]
def bdTx (x : List Bs) (a : Conf × Int × Bool) : List Bs × Option Code := (x ++ [coT a.1],none)
theorem itTx (m : Mach) : ∀ (k : Nat) (n : Int) (c : Conf) (x : List Bs),RoomK m k c → (itSteps m bdTx k n c x).x = x ++ (cfR m k c).map coT ∧ (itSteps m bdTx k n c x).j = none
  | 0,n,c,x,h => by
    have e : (itSteps m bdTx 0 n c x) = ⟨x ++ [coT c],none,c⟩ := by
      unfold itSteps
      rw [if_neg (by simp [bdTx])]
      split <;> rfl
    rw [e]
    exact ⟨rfl,rfl⟩
  | k + 1,n,c,x,h => by
    by_cases hr : ruAt m c = noR
    · have e : (itSteps m bdTx (k + 1) n c x) = ⟨x ++ [coT c],none,c⟩ := by
        unfold itSteps
        rw [if_neg (by simp [bdTx]),if_pos hr]
        rfl
      rw [e,cfR_n hr]
      exact ⟨rfl,rfl⟩
    · obtain ⟨h1,h2⟩ := h hr
      have e : (itSteps m bdTx (k + 1) n c x) = itSteps m bdTx k (n + 1) (stepS (ruAt m c) c) (x ++ [coT c]) := by
        conv => lhs; unfold itSteps
        rw [if_neg (by simp [bdTx]),if_neg hr]
        simp only [h1,if_true]
        rfl
      obtain ⟨i1,i2⟩ := itTx m k (n + 1) (stepS (ruAt m c) c) (x ++ [coT c]) h2
      rw [e,cfR_s hr]
      exact ⟨by rw [i1,List.map_cons,List.append_assoc]; rfl,i2⟩
theorem vConf_cfOk {m : Mach} {c : Conf} (hv : vMach m = true) (hs : m.sy = 2) (hc : vConf m c = true) : CfOk c := by
  obtain ⟨b1,b2,b3,b4,b5,b6⟩ := vConf_bits hs hc
  have hb := vMach_bd hv
  exact ⟨b1,b2,by omega,by omega,b5,by omega⟩
structure TxPre (m : Mach) (b : Int) (x : List Bs) (a : Conf × Int × Bool) : Prop where
  r : a.2.2 = true
  v : vConf m a.1 = true
  k : RoomK m (b - a.2.1).toNat a.1
  l : (x.length : Int) ≤ a.2.1
  h : a.2.1 ≤ b ∨ a.2.1 = 0
theorem preB224 {p : Prop} (h : p := by first | with_reducible assumption | omega | (simp only [List.length_append,List.length_cons,List.length_nil,List.length_set,List.length_replicate,List.length_take,List.length_drop,List.length_tail,List.length_dropLast,List.length_reverse] at *; omega) | exact mem_len (by assumption) (by omega) | (with_reducible refine Int.le_trans (Int.ofNat_le.2 (trimR_len _)) ?_; simp only [List.length_cons,List.length_tail]; omega) | (exact (ruAt_ok (by assumption) (by assumption) (by assumption)).2.1) | (exact (ruAt_ok (by assumption) (by assumption) (by assumption)).2.1) | (have := vMach_bd (by assumption); omega) | (simp only [List.length_append,List.length_cons,List.length_nil,repW_len,seN_len] at *; omega) | (simp only [mC_ch,mC_tu]; omega) | (have := vTag_bd (by assumption); omega) | (have := (‹Gd _ _›).le; omega) | (exact tgHalts_no (by assumption)) | (exact tgHead (by assumption) (by assumption) (by assumption)) | (exact Int.le_trans (tgStep_gd (by assumption) (by assumption) (by assumption) (by assumption)).le (by decide)) | (exact vTag_r (by assumption)) | (with_reducible refine Int.le_trans (Int.ofNat_le.2 (pushL_len _ _)) ?_; simp only [List.length_dropLast]; omega) | exact ls_at (by assumption) (by omega) | exact pt_gd (by assumption) | exact lv_at (by assumption) (by omega) | exact pt_gd (lv_at (by assumption) (by omega)) | exact (ask_ok (by assumption)).1 | exact (ask_ok (by assumption)).2.1 | exact (ask_ok (by assumption)).2.2.1 | exact (ask_ok (by assumption)).2.2.2 | trivial) : p := h
theorem runTextsM_ok (m : Mach) (c : Conf) (b : Int) (hm : vMach m = true) (hs : m.sy = 2) (hc : vConf m c = true) (h0 : 0 ≤ b) (hb : b ≤ 599) (hr : RoomK m b.toNat c) : Does Tryz.prog 42 [.agg (maC m),.agg (coC c),.one (int b),.one (.d (.fn (.func 43) []))] [] (.tup [(false,[.gv 0]),(false,[int 0])]) [.row 1 (rows eS ((cfR m b.toNat c).map coT))] := by
  obtain ⟨it1,it2⟩ := itTx m b.toNat 0 c [] hr
  rw [List.nil_append] at it1
  have hcb := at_bd hm hc
  refine does_of (k := 0) Tryz.func42 rfl Tryz.ntmps42 rfl rfl fun w F0 S0 ρ0 => ?_
  dsimp only [argT,argH]
  repeat' first|(apply n3;(first|exact a_new (gb := .bx _) rfl|exact a_litE eS [] rfl rfl rfl rfl rfl rfl rfl rfl);exact rfl;refine dA ?_)|(apply p3;(exact pu1);exact rfl)|refine cd ?_|(apply w3;(exact a_st_bx rfl rfl rfl rfl (fN rfl rfl) (Nat.le_of_ble_eq_true rfl) rfl);exact rfl;refine dS ?_)|(apply c4 3;exact callK0 (θ := []) (hD := (runnerOf_ok _ _ preB224 preB224));exact rfl;exact rfl;exact rfl;refine dM ?_)|(apply c4 2;exact callK0 (θ := [_,_,_]) (hD := (steps_ok _ _ _));exact rfl;exact rfl;exact rfl;refine dM ?_)|fail
  refine g_conv (t_mvB (i := 8) (j := 10) (k := 0) rfl rfl rfl rfl rfl rfl) ?_
  try dsimp only [setRow,List.map_cons,List.map_nil,scC,List.set_cons_zero,List.set_cons_succ]
  refine g_conv (t_mvB (i := 13) (j := 10) (k := 0) rfl rfl rfl rfl rfl rfl) ?_
  try dsimp only [setRow,List.map_cons,List.map_nil,scC,List.set_cons_zero,List.set_cons_succ]
  refine g_conv (t_mvB (i := 14) (j := 10) (k := 0) rfl rfl rfl rfl rfl rfl) ?_
  try dsimp only [setRow,List.map_cons,List.map_nil,scC,List.set_cons_zero,List.set_cons_succ]
  have hst : ∀ (x : List Bs) (c : Conf) (n : Int),TxPre m b x (c,n,true) → vConf m c = true → (bdTx x (c,n,true)).2 = none → ruAt m c ≠ noR → n < b → TxPre m b (bdTx x (c,n,true)).1 (stepS (ruAt m c) c,n + 1,roomS (stepS (ruAt m c) c)) := by
    rintro x c n ⟨p1,p2,p3,p4,p5⟩ hc2 hn hr2 hlt
    dsimp only at p3 p4 p5
    rw [show (b - n).toNat = (b - (n + 1)).toNat + 1 by omega] at p3
    obtain ⟨r1,r2⟩ := p3 hr2
    refine ⟨r1,stepS_ok hm hc2 hr2 r1,r2,?_,by dsimp only; omega⟩
    unfold bdTx
    rw [List.length_append]
    show ((x.length + 1 : Nat) : Int) ≤ n + 1
    omega
  have hp0 : TxPre m b [] (c,0,true) := ⟨rfl,hc,by rw [Int.sub_zero]; exact hr,by simp,by dsimp only; omega⟩
  refine rangeK [7,8,9,10,11,20] [10,13,14,15] (fun x : List Bs => [(15,.row 1 (rows eS x)),(10,.bx [.gv 15])]) [0,1,2,3,4,5,6,7,8,9,10,11,12,900,901,15] 13 15 [12,11,5,6,7] [5] [13,14] [3] [1] (fun a : Conf × Int × Bool => [.one (int a.2.1),.one (boo a.2.2)]) (fun a => [ruBx m a.1.st 2 3,roI a.1.le.reverse,roI a.1.ri.reverse]) bdTx (TxPre m b) ([] : List Bs) (n1 := 16) (hD := fun l R hY => stepsIt_ok m c b l R bdTx (TxPre m b) _ hm hc hp0 (by omega) hst (fun x c n room h => hY x (c,n,room) h)) (hr := ?_) (hn := ?_) (hs := ?_)
  · rintro x ⟨c,n,room⟩ ⟨q1,q2,q3,q4,q5⟩ lp0 w0 F0 S0 ρ0 rc0
    dsimp only [parT,upOf,deadR,thN,List.map_cons,List.map_nil,SV.ren,List.cons_append,List.nil_append,GB.ren,C.ren,C.ren.all,Nat.reduceAdd] at *
    repeat' first|refine g_reg ?_|(apply p3;(exact a_pure (sv := .one _) rfl);exact rfl)|refine o_nil ?_|refine qAsg.go rfl ?_|fail
    dsimp only
    repeat' first|(apply p3;exact pu1;exact rfl)|refine cdn ?_|refine g_reg (id := 4) ?_|refine g_reg (id := 5) ?_|(apply w3;(exact a_st_bx rfl rfl rfl rfl (fN rfl rfl) (Nat.le_of_ble_eq_true rfl) rfl);exact rfl;refine dS ?_)|((refine g_cond rfl (fun hc => ?_) (fun hc => ?_)) <;> (try simp only [dcB] at hc) <;> (try first|contradiction|(exfalso;omega)))|fail
    · exfalso; rw [q1] at hc; cases hc
    · have hok := vConf_cfOk hm hs q2
      have hcb2 := at_bd hm q2
      repeat' first|refine cd ?_|(apply g_drN (id := 6) okM [[],[],[],[2],[1,2,3],[1,2,3,4],[0,1,2,3,4,5],[0,1,2,3,4,5,6]] [([],[]),([],[]),([],[]),([],[]),([],[]),([0],[]),([1],[15]),([],[10])] 2;(focus (refine dp 0 0 [26,27,28,29,30] [(true,0)] puL ?_;refine dp 1 0 [25,27,28] [] puL ?_;refine dp 2 0 [25,26] [] puL ?_;refine dp 3 1 [25,26] [] (callFD 0 (hD := (configC_ok _ _ preB224 preB224))) ?_;refine dp 4 7 [25] [] (callD1 (n := _) 0 (θ := []) (hD := (machineTexts1_ok c hok))) ?_;refine duE 5 15 [25] [] (atN 0 (fun _ => a_litE eS [_] rfl rfl rfl rfl rfl rfl rfl rfl)) (by exact rfl) (by exact rfl) ?_;refine duE 6 63 [] [] (atS 1 (fun _ hj => a_appE (fP rfl) rfl rfl rfl rfl nowR (by (simp <;> omega)) (by decide) hj (by exact rfl)) (by decide)) (by exact rfl) (by exact rfl) ?_;refine duE 7 127 [] [] (by exact a_st_bx rfl rfl rfl rfl (fN rfl rfl) (Nat.le_of_ble_eq_true rfl) rfl) (by exact rfl) (by exact rfl) ?_;(refine d_nil ?_;refine dN ?_)));any_goals kernel_rfl)|fail
      refine q_next (x ++ [coT c]) [0,1,2,3,4,5,6,7,8,9,10,11,12,13,14,18,16] (by exact stk) ?_
      rfl
  · rintro hj
    dsimp only [upOf,deadR,calF,List.cons_append,List.nil_append,GB.ren,C.ren,C.ren.all,List.length_cons,List.length_nil,Nat.reduceAdd,Nat.reduceSub] at *
    skip
    repeat' first|(apply p3;exact puL;exact rfl)|refine cd ?_|(apply w3;(exact a_st_bx rfl rfl rfl rfl (fN rfl rfl) (Nat.le_of_ble_eq_true rfl) rfl);exact rfl;refine dS ?_)|fail
    skip
    rw [it1]
    repeat refine cr ?_
    refine ends_id ?_
    refine endK [?_] (h2 := ?_) (h3 := ?_) (nd := ?_)
    rotate_left 1
    all_goals (repeat' first|exact ce0|refine ce ?_|refine ce2 ?_ ?_|(refine Or.inr (bx_eq rfl rfl ?_);(try dsimp only [C.ren,C.ren.all]);(try exact rfl))|exact SVLe.refl|refine ceb ?_)
    all_goals first | exact (show nodupB _ = true from rfl) | exact Or.inr rfl | (rfl)
  · intro c2 hj
    rw [it2] at hj
    cases hj
theorem MachineTexts_ok (m : Mach) (c : Conf) (b : Int) (hm : vMach m = true) (hs : m.sy = 2) (hc : vConf m c = true) (h0 : 0 ≤ b) (hb : b ≤ 599) (hr : RoomK m b.toNat c) : Does Tryz.prog 8 [.agg (maC m),.agg (coC c),.one (int b)] [] (.tup [(false,[.gv 0]),(false,[int 0])]) [.row 1 (rows eS ((cfR m b.toNat c).map coT))] := by
  have hvc : (vMach m && vConf m c) = true := by rw [hm,hc]; rfl
  have hin : (if 0 ≤ b ∧ b ≤ 599 then (0 : Int) else 2) = 0 := if_pos ⟨h0,hb⟩
  have hcb := at_bd hm hc
  refine does_of (k := 0) Tryz.func8 rfl Tryz.ntmps8 rfl rfl fun w F0 S0 ρ0 => ?_
  dsimp only [argT,argH]
  repeat' first|(apply n3;exact a_nilO eS rfl;exact rfl)|(apply n3;exact a_new (gb := .bx _) rfl;exact rfl;refine dA ?_)|(apply p3;(exact pu1);exact rfl)|refine cdn ?_|refine g_reg (id := 0) ?_|refine g_reg (id := 1) ?_|(apply c4 0;exact callK1 (θ := []) (hD := (ValidConfig_ok _ _ preB224 preB224 preB224));exact rfl;exact rfl;exact rfl;refine dM ?_)|(apply c4 0;exact callK1 (θ := []) (hD := (textsCodeM_ok _ _));exact rfl;exact rfl;exact rfl;refine dM ?_)|fail
  simp only [hvc,cond_true,hin]
  repeat' first|(apply p3;(first|exact pu1|exact a_ne rfl rfl);exact rfl)|refine cd ?_|(apply c4 1;exact callK1 (θ := []) (hD := (runTextsM_ok m c b hm hs hc h0 hb hr));exact rfl;exact rfl;exact rfl;refine dM ?_)|fail
  repeat refine cr ?_
  refine ends_id ?_
  refine endK [?_] (h2 := ?_) (h3 := ?_) (nd := ?_)
  rotate_left 1
  all_goals (repeat' first|exact ce0|refine ce ?_|refine ce2 ?_ ?_|(refine Or.inr (bx_eq rfl rfl ?_);(try dsimp only [C.ren,C.ren.all]);(try exact rfl))|exact SVLe.refl|refine ceb ?_)
  all_goals first | exact (show nodupB _ = true from rfl) | exact Or.inr rfl | (rfl)
end Go.Proofs.YtnkeamihfiobdaaGreatDoor
end
section
set_option linter.unusedVariables false
set_option linter.unusedSimpArgs false
set_option maxRecDepth 100000
namespace Go.Proofs.YtnkeamihfiobdaaGreatDoor
open Go Foot
@[irreducible] def mulW (a b : Int) : Int := IntKind.u64.wrap (a * b)
@[irreducible] def addW (a b : Int) : Int := IntKind.u64.wrap (a + b)
@[irreducible] def cnvW (a : Int) : Int := IntKind.u64.wrap a
@[irreducible] def shrW (a b : Int) : Int := a.fdiv (2 ^ min b.toNat IntKind.u64.bits)
@[irreducible] def andW (a b : Int) : Int := IntKind.u64.wrap ((BitVec.ofInt IntKind.u64.bits a &&& BitVec.ofInt IntKind.u64.bits b).toNat : Nat)
theorem andW_le (a : Int) : 0 ≤ andW a 255 ∧ andW a 255 ≤ 255 := by
  have h : (BitVec.ofInt IntKind.u64.bits a &&& BitVec.ofInt IntKind.u64.bits 255).toNat ≤ 255 := by
    show (BitVec.ofInt 64 a &&& BitVec.ofInt 64 255).toNat ≤ 255
    rw [BitVec.toNat_and]
    have h5 : (BitVec.ofInt 64 255).toNat = 255 := by decide
    rw [h5]
    exact Nat.and_le_right
  unfold andW
  rw [wrapU (by omega) (by omega)]
  omega
section
variable {P : Program} {g : Gh} {st : St}
variable {dst : Option Tmp} {ty : TypeId} {pos : String} {after : Array Edge} {guard : Option (Nat × Bool)} {x y : Operand} {T U : TypeId} {a b : Int}
theorem w_mul (e1 : opd st x = .one (u64 a)) (e2 : opd st y = .one (u64 b)) : Acts P g ⟨dst,.binOp .mul T x y U,ty,pos,after,guard⟩ st (.one (u64 (mulW a b))) [] [] := by
  unfold mulW
  exact a_bin (op := .mul) e1 e2 rfl trivial
theorem w_add (e1 : opd st x = .one (u64 a)) (e2 : opd st y = .one (u64 b)) : Acts P g ⟨dst,.binOp .add T x y U,ty,pos,after,guard⟩ st (.one (u64 (addW a b))) [] [] := by
  unfold addW
  exact a_bin (op := .add) e1 e2 rfl trivial
theorem w_and (e1 : opd st x = .one (u64 a)) (e2 : opd st y = .one (u64 b)) : Acts P g ⟨dst,.binOp .and T x y U,ty,pos,after,guard⟩ st (.one (u64 (andW a b))) [] [] := by
  unfold andW
  exact a_bin (op := .and) e1 e2 rfl trivial
theorem w_shr (e1 : opd st x = .one (u64 a)) (e2 : opd st y = .one (u64 b)) (h : 0 ≤ b) : Acts P g ⟨dst,.binOp .shr T x y U,ty,pos,after,guard⟩ st (.one (u64 (shrW a b))) [] [] := by
  unfold shrW
  exact a_bin (op := .shr) e1 e2 rfl h
theorem w_cnv (e1 : opd st x = .one (int a)) (hT : P.underlying T = some (.int .i64)) (hU : P.underlying U = some (.int .u64)) : Acts P g ⟨dst,.convert T U x,ty,pos,after,guard⟩ st (.one (u64 (cnvW a))) [] [] := by
  unfold cnvW
  exact a_conv e1 (by rw [hT]; rfl) hU
end
end Go.Proofs.YtnkeamihfiobdaaGreatDoor
end
section
set_option linter.unusedVariables false
set_option linter.unusedSimpArgs false
set_option maxRecDepth 100000
set_option maxHeartbeats 4000000
namespace Go.Proofs.YtnkeamihfiobdaaGreatDoor
open Go Foot
abbrev shY (l : List Int) : C := .d (.sl false 1 (rows eY l))
structure Src where
  co : List Int
  pl : Int
  sd : Int
abbrev srB (s : Src) : GB := .bx [shY s.co,int s.pl,u64 s.sd]
structure SrOk (s : Src) : Prop where
  n : (s.co.length : Int) ≤ 9223372036854775807
  p : 0 ≤ s.pl ∧ s.pl ≤ 1000000000000000000
  b : ∀ x ∈ s.co,0 ≤ x ∧ x ≤ 255
@[irreducible] def nxB (s : Src) : Int := if s.pl < s.co.length then s.co.getD s.pl.toNat 0 else 0
@[irreducible] def nxS (s : Src) : Src := ⟨s.co,s.pl + 1,addW (addW (mulW s.sd 6364136223846793005) (cnvW (nxB s))) 1442695040888963407⟩
@[irreducible] def nxV (s : Src) : Int := if s.pl + 1 ≤ s.co.length then nxB s else andW (shrW (nxS s).sd 40) 255
theorem nxB_bd {s : Src} (g : SrOk s) : 0 ≤ nxB s ∧ nxB s ≤ 255 := by
  unfold nxB
  split
  · rename_i h
    have := g.p
    rw [List.getD_eq_getElem?_getD,List.getElem?_eq_getElem (by omega)]
    exact g.b _ (List.getElem_mem _)
  · omega
theorem nxV_bd {s : Src} (g : SrOk s) : 0 ≤ nxV s ∧ nxV s ≤ 255 := by
  unfold nxV
  split
  · exact nxB_bd g
  · exact andW_le _
theorem preB76 {p : Prop} (h : p := by first | with_reducible assumption | omega | (simp only [List.length_append,List.length_cons,List.length_nil,List.length_set,List.length_replicate,List.length_take,List.length_drop,List.length_tail,List.length_dropLast,List.length_reverse] at *; omega) | exact mem_len (by assumption) (by omega) | (with_reducible refine Int.le_trans (Int.ofNat_le.2 (trimR_len _)) ?_; simp only [List.length_cons,List.length_tail]; omega) | (exact (ruAt_ok (by assumption) (by assumption) (by assumption)).2.1) | (exact (ruAt_ok (by assumption) (by assumption) (by assumption)).2.1) | (have := vMach_bd (by assumption); omega) | (simp only [mC_ch,mC_tu]; omega) | (have := vTag_bd (by assumption); omega) | (have := (‹Gd _ _›).le; omega) | (exact tgHalts_no (by assumption)) | (exact tgHead (by assumption) (by assumption) (by assumption)) | (exact Int.le_trans (tgStep_gd (by assumption) (by assumption) (by assumption) (by assumption)).le (by decide)) | (exact vTag_r (by assumption)) | (with_reducible refine Int.le_trans (Int.ofNat_le.2 (pushL_len _ _)) ?_; simp only [List.length_dropLast]; omega) | exact ls_at (by assumption) (by omega) | exact pt_gd (by assumption) | exact lv_at (by assumption) (by omega) | exact pt_gd (lv_at (by assumption) (by omega)) | exact (ask_ok (by assumption)).1 | exact (ask_ok (by assumption)).2.1 | exact (ask_ok (by assumption)).2.2.1 | exact (ask_ok (by assumption)).2.2.2 | trivial) : p := h
theorem srcFrom_ok (l : List Int) : Does Tryz.prog 34 [.one (shY l)] [] (.one (.gv 0)) [srB ⟨l,0,0⟩] := by
  refine does_of (k := 0) Tryz.func34 rfl Tryz.ntmps34 rfl rfl fun w F0 S0 ρ0 => ?_
  dsimp only [argT,argH]
  repeat' first|(apply n3;exact a_new (gb := .bx _) rfl;exact rfl;refine dA ?_)|(apply p3;exact pu1;exact rfl)|refine cd ?_|fail
  repeat refine cr ?_
  refine ends_id ?_
  refine endK [?_] (h2 := ?_) (h3 := ?_) (nd := ?_)
  rotate_left 1
  all_goals (repeat' first|exact ce0|refine ce ?_|refine ce2 ?_ ?_|(refine Or.inr (bx_eq rfl rfl ?_);(try dsimp only [C.ren,C.ren.all]);(try exact rfl))|exact SVLe.refl|refine ceb ?_)
  all_goals first | exact (show nodupB _ = true from rfl) | exact Or.inr rfl | (rfl)
theorem nxS_eq {s : Src} {b : Int} (h : nxB s = b) : nxS s = ⟨s.co,s.pl + 1,addW (addW (mulW s.sd 6364136223846793005) (cnvW b)) 1442695040888963407⟩ := by unfold nxS; rw [h]
theorem srcNext_ok (s : Src) (g : SrOk s) : Does Tryz.prog 99 [.one (.gv 0)] [srB s] (.one (int (nxV s))) [srB (nxS s)] := by
  have hp := g.p
  have hn := g.n
  by_cases hl : s.pl < s.co.length
  · have hg := g.b _ (List.getElem_mem (show s.pl.toNat < s.co.length by omega))
    have hb : nxB s = s.co[s.pl.toNat]'(by omega) := by
      unfold nxB
      rw [if_pos hl,List.getD_eq_getElem?_getD,List.getElem?_eq_getElem (by omega)]
      rfl
    have hv : nxV s = s.co[s.pl.toNat]'(by omega) := by unfold nxV; rw [if_pos (by omega),hb]
    rw [hv,nxS_eq hb]
    refine does_of (k := 1) Tryz.func99 rfl Tryz.ntmps99 rfl rfl fun w F0 S0 ρ0 => ?_
    dsimp only [argT,argH]
    repeat' first|(apply p3;(first|exact pu1|exact a_add rfl rfl (by omega) (by omega)|exact w_mul rfl rfl|exact w_cnv rfl Tryz.underlying3 Tryz.underlying144|exact w_add rfl rfl);exact rfl)|refine cd ?_|(apply w3;(exact a_st_bx rfl rfl rfl rfl (fN rfl rfl) (Nat.le_of_ble_eq_true rfl) rfl);exact rfl;refine dS ?_)|(apply g_drN (id := 2) okM [[],[0],[0,1],[0,1,2],[],[4],[4,5],[4,5,6],[4,5,6,7],[0,1,2,3,4,5,6,7,8]] [([],[]),([],[]),([],[]),([],[]),([],[]),([],[]),([],[]),([],[]),([],[]),([],[])] 0;(focus (refine dp 0 0 [8,9,10,11,12] [] pu1 ?_;refine dp 1 1 [8,9,10,11,12] [] (a_pure (sv := .one _) rfl) ?_;refine dp 2 3 [8,9,10,11,12] [] (a_pure (sv := .one _) rfl) ?_;refine dp 3 7 [8,9,10,11,12] [] puL ?_;refine dp 4 0 [4,5,6,7] [] pu1 ?_;refine dp 5 1 [4,5,6,7] [] (a_pure (sv := .one _) rfl) ?_;refine dp 6 3 [4,5,6,7] [] (a_pure (sv := .one _) rfl) ?_;refine dp 7 7 [4,5,6,7] [] puL ?_;refine dp 8 15 [4,5,6,7] [] (by exact puN) ?_;refine dp 9 511 [] [] puC ?_;(refine d_nil ?_;refine dN ?_)));any_goals kernel_rfl)|(apply g_drN (id := 3) okM [[],[0],[0,1],[0,1,2],[],[4],[4,5],[4,5,6],[0,1,2,3,4,5,6,7],[0,1,2,3,4,5,6,7,8],[0,1,2,3,4,5,6,7,8,9],[0,1,2,3,4,5,6,7,8,9,10]] [([],[]),([],[]),([],[]),([],[]),([],[]),([],[]),([],[]),([],[]),([],[]),([],[]),([],[]),([],[])] 0;(focus (refine dp 0 0 [18,19,20,21] [] pu1 ?_;refine dp 1 1 [18,19,20,21] [] (a_pure (sv := .one _) rfl) ?_;refine dp 2 3 [18,19,20,21] [] (a_pure (sv := .one _) rfl) ?_;refine dp 3 7 [18,19,20,21] [] puL ?_;refine dp 4 0 [14,15,16,17] [] pu1 ?_;refine dp 5 1 [14,15,16,17] [] (a_pure (sv := .one _) rfl) ?_;refine dp 6 3 [14,15,16,17] [] (a_pure (sv := .one _) rfl) ?_;refine dp 7 7 [14,15,16,17] [] puL ?_;refine dp 8 255 [] [] puI ?_;refine dp 9 511 [] [] (by exact a_pure (sv := .one _) rfl) ?_;refine dp 10 1023 [] [] (a_of8 rfl Tryz.underlying5 Tryz.underlying3 (by omega) (by omega)) ?_;refine dp 11 2047 [] [] pu1 ?_;(refine d_nil ?_;refine dN ?_)));any_goals kernel_rfl)|(apply g_drN (id := 6) okM [[],[0],[0,1],[0,1,2],[],[4],[4,5],[4,5,6],[4,5,6,7],[0,1,2,3,4,5,6,7,8]] [([],[]),([],[]),([],[]),([],[]),([],[]),([],[]),([],[]),([],[]),([],[]),([],[])] 0;(focus (refine dp 0 0 [48,49,50,51,52] [] pu1 ?_;refine dp 1 1 [48,49,50,51,52] [] (a_pure (sv := .one _) rfl) ?_;refine dp 2 3 [48,49,50,51,52] [] (a_pure (sv := .one _) rfl) ?_;refine dp 3 7 [48,49,50,51,52] [] puL ?_;refine dp 4 0 [44,45,46,47] [] pu1 ?_;refine dp 5 1 [44,45,46,47] [] (a_pure (sv := .one _) rfl) ?_;refine dp 6 3 [44,45,46,47] [] (a_pure (sv := .one _) rfl) ?_;refine dp 7 7 [44,45,46,47] [] puL ?_;refine dp 8 15 [44,45,46,47] [] (by exact puN) ?_;refine dp 9 511 [] [] puC ?_;(refine d_nil ?_;refine dN ?_)));any_goals kernel_rfl)|((refine g_cond rfl (fun hc => ?_) (fun hc => ?_)) <;> (try simp only [dcB] at hc) <;> (try first|contradiction|(exfalso;omega)))|fail
    repeat refine cr ?_
    refine ends_id ?_
    refine endK [] (h2 := ?_) (h3 := ?_) (nd := ?_)
    all_goals (repeat' first|exact ce0|refine ce ?_|refine ce2 ?_ ?_|(refine Or.inr (bx_eq rfl rfl ?_);(try dsimp only [C.ren,C.ren.all]);(try exact rfl))|exact SVLe.refl|refine ceb ?_)
    all_goals first | exact (show nodupB _ = true from rfl) | exact Or.inr rfl | (rfl)
  · have hb : nxB s = 0 := by unfold nxB; rw [if_neg hl]
    have hv : nxV s = andW (shrW (nxS s).sd 40) 255 := by unfold nxV; rw [if_neg (by omega)]
    rw [nxS_eq hb] at hv ⊢
    rw [hv]
    have h9 := andW_le (shrW (addW (addW (mulW s.sd 6364136223846793005) (cnvW 0)) 1442695040888963407) 40)
    refine does_of (k := 1) Tryz.func99 rfl Tryz.ntmps99 rfl rfl fun w F0 S0 ρ0 => ?_
    dsimp only [argT,argH]
    repeat' first|(apply p3;(first|exact pu1|exact a_add rfl rfl (by omega) (by omega)|exact w_mul rfl rfl|exact w_cnv rfl Tryz.underlying3 Tryz.underlying144|exact w_add rfl rfl|exact w_shr rfl rfl (by decide)|exact w_and rfl rfl|exact u_vnoc rfl Tryz.underlying144 Tryz.underlying2 bnd bnd);exact rfl)|refine cd ?_|(apply w3;(exact a_st_bx rfl rfl rfl rfl (fN rfl rfl) (Nat.le_of_ble_eq_true rfl) rfl);exact rfl;refine dS ?_)|(apply g_drN (id := 2) okM [[],[0],[0,1],[0,1,2],[],[4],[4,5],[4,5,6],[4,5,6,7],[0,1,2,3,4,5,6,7,8]] [([],[]),([],[]),([],[]),([],[]),([],[]),([],[]),([],[]),([],[]),([],[]),([],[])] 0;(focus (refine dp 0 0 [8,9,10,11,12] [] pu1 ?_;refine dp 1 1 [8,9,10,11,12] [] (a_pure (sv := .one _) rfl) ?_;refine dp 2 3 [8,9,10,11,12] [] (a_pure (sv := .one _) rfl) ?_;refine dp 3 7 [8,9,10,11,12] [] puL ?_;refine dp 4 0 [4,5,6,7] [] pu1 ?_;refine dp 5 1 [4,5,6,7] [] (a_pure (sv := .one _) rfl) ?_;refine dp 6 3 [4,5,6,7] [] (a_pure (sv := .one _) rfl) ?_;refine dp 7 7 [4,5,6,7] [] puL ?_;refine dp 8 15 [4,5,6,7] [] (by exact puN) ?_;refine dp 9 511 [] [] puC ?_;(refine d_nil ?_;refine dN ?_)));any_goals kernel_rfl)|(apply g_drN (id := 6) okM [[],[0],[0,1],[0,1,2],[],[4],[4,5],[4,5,6],[4,5,6,7],[0,1,2,3,4,5,6,7,8]] [([],[]),([],[]),([],[]),([],[]),([],[]),([],[]),([],[]),([],[]),([],[]),([],[])] 0;(focus (refine dp 0 0 [48,49,50,51,52] [] pu1 ?_;refine dp 1 1 [48,49,50,51,52] [] (a_pure (sv := .one _) rfl) ?_;refine dp 2 3 [48,49,50,51,52] [] (a_pure (sv := .one _) rfl) ?_;refine dp 3 7 [48,49,50,51,52] [] puL ?_;refine dp 4 0 [44,45,46,47] [] pu1 ?_;refine dp 5 1 [44,45,46,47] [] (a_pure (sv := .one _) rfl) ?_;refine dp 6 3 [44,45,46,47] [] (a_pure (sv := .one _) rfl) ?_;refine dp 7 7 [44,45,46,47] [] puL ?_;refine dp 8 15 [44,45,46,47] [] (by exact puN) ?_;refine dp 9 511 [] [] puC ?_;(refine d_nil ?_;refine dN ?_)));any_goals kernel_rfl)|((refine g_cond rfl (fun hc => ?_) (fun hc => ?_)) <;> (try simp only [dcB] at hc) <;> (try first|contradiction|(exfalso;omega)))|fail
    repeat refine cr ?_
    refine ends_id ?_
    refine endK [] (h2 := ?_) (h3 := ?_) (nd := ?_)
    all_goals (repeat' first|exact ce0|refine ce ?_|refine ce2 ?_ ?_|(refine Or.inr (bx_eq rfl rfl ?_);(try dsimp only [C.ren,C.ren.all]);(try exact rfl))|exact SVLe.refl|refine ceb ?_)
    all_goals first | exact (show nodupB _ = true from rfl) | exact Or.inr rfl | (rfl)
@[irreducible] def pkS (s : Src) (n : Int) : Src := if n ≤ 1 then s else if 200 < n then nxS (nxS s) else nxS s
@[irreducible] def pkV (s : Src) (n : Int) : Int := if n ≤ 1 then 0 else if 200 < n then (nxV s * 256 + nxV (nxS s)) % n else nxV s % n
theorem sr_next {s : Src} (g : SrOk s) (h : s.pl ≤ 999999999999999999) : SrOk (nxS s) := by
  unfold nxS
  exact ⟨g.n,⟨by have := g.p; dsimp only; omega,by dsimp only; omega⟩,g.b⟩
theorem nxS_pl (s : Src) : (nxS s).pl = s.pl + 1 := by unfold nxS; rfl
theorem pkS_pl (s : Src) (n : Int) : s.pl ≤ (pkS s n).pl ∧ (pkS s n).pl ≤ s.pl + 2 := by
  unfold pkS
  split
  · omega
  · split
    · rw [nxS_pl,nxS_pl]; omega
    · rw [nxS_pl]; omega
theorem sr_pick {s : Src} {n : Int} (g : SrOk s) (h : s.pl ≤ 999999999999999998) : SrOk (pkS s n) := by
  unfold pkS
  split
  · exact g
  · split
    · exact sr_next (sr_next g (by omega)) (by rw [nxS_pl]; omega)
    · exact sr_next g (by omega)
theorem pkV_bd {s : Src} {n : Int} (g : SrOk s) (h : 1 ≤ n) : 0 ≤ pkV s n ∧ pkV s n < n := by
  unfold pkV
  split
  · omega
  · split
    · exact ⟨Int.emod_nonneg _ (by omega),Int.emod_lt_of_pos _ (by omega)⟩
    · exact ⟨Int.emod_nonneg _ (by omega),Int.emod_lt_of_pos _ (by omega)⟩
theorem srcPick_ok (s : Src) (n : Int) (g : SrOk s) (h : s.pl ≤ 999999999999999998) (h1 : n ≤ 1000000) : Does Tryz.prog 36 [.one (.gv 0),.one (int n)] [srB s] (.one (int (pkV s n))) [srB (pkS s n)] := by
  have g2 := sr_next g (by omega)
  have hb := nxV_bd g
  have hb2 := nxV_bd g2
  by_cases hn : n ≤ 1
  · rw [show pkV s n = 0 by unfold pkV; rw [if_pos hn],show pkS s n = s by unfold pkS; rw [if_pos hn]]
    refine does_of (k := 1) Tryz.func36 rfl Tryz.ntmps36 rfl rfl fun w F0 S0 ρ0 => ?_
    dsimp only [argT,argH]
    repeat' first|(apply p3;(first|exact pu1|exact puC);exact rfl)|refine cd ?_|((refine g_cond rfl (fun hc => ?_) (fun hc => ?_)) <;> (try simp only [dcB] at hc) <;> (try first|contradiction|(exfalso;omega)))|fail
    repeat refine cr ?_
    refine ends_id ?_
    refine endK [] (h2 := ?_) (h3 := ?_) (nd := ?_)
    all_goals (repeat' first|exact ce0|refine ce ?_|refine ce2 ?_ ?_|(refine Or.inr (bx_eq rfl rfl ?_);(try dsimp only [C.ren,C.ren.all]);(try exact rfl))|exact SVLe.refl|refine ceb ?_)
    all_goals first | exact (show nodupB _ = true from rfl) | exact Or.inr rfl | (rfl)
  · by_cases hn2 : 200 < n
    · rw [show pkV s n = (nxV s * 256 + nxV (nxS s)) % n by unfold pkV; rw [if_neg hn,if_pos hn2],show pkS s n = nxS (nxS s) by unfold pkS; rw [if_neg hn,if_pos hn2]]
      refine does_of (k := 1) Tryz.func36 rfl Tryz.ntmps36 rfl rfl fun w F0 S0 ρ0 => ?_
      dsimp only [argT,argH]
      repeat' first|(apply p3;(first|exact pu1|exact puC|exact a_mulB rfl rfl (by omega) (by omega) (by omega) (by omega)|exact a_add rfl rfl (by omega) (by omega)|exact a_rem rfl rfl (by omega) (by omega) (by omega));exact rfl)|refine cd ?_|(apply c4 0;exact callK0 (θ := [_]) (hD := (srcNext_ok _ preB76));exact rfl;exact rfl;exact rfl;refine dM ?_)|((refine g_cond rfl (fun hc => ?_) (fun hc => ?_)) <;> (try simp only [dcB] at hc) <;> (try first|contradiction|(exfalso;omega)))|fail
      repeat refine cr ?_
      refine ends_id ?_
      refine endK [] (h2 := ?_) (h3 := ?_) (nd := ?_)
      all_goals (repeat' first|exact ce0|refine ce ?_|refine ce2 ?_ ?_|(refine Or.inr (bx_eq rfl rfl ?_);(try dsimp only [C.ren,C.ren.all]);(try exact rfl))|exact SVLe.refl|refine ceb ?_)
      all_goals first | exact (show nodupB _ = true from rfl) | exact Or.inr rfl | (rfl)
    · rw [show pkV s n = nxV s % n by unfold pkV; rw [if_neg hn,if_neg hn2],show pkS s n = nxS s by unfold pkS; rw [if_neg hn,if_neg hn2]]
      refine does_of (k := 1) Tryz.func36 rfl Tryz.ntmps36 rfl rfl fun w F0 S0 ρ0 => ?_
      dsimp only [argT,argH]
      repeat' first|(apply p3;(first|exact pu1|exact puC|exact a_rem rfl rfl (by omega) (by omega) (by omega));exact rfl)|refine cd ?_|(apply c4 0;exact callK0 (θ := [_]) (hD := (srcNext_ok _ preB76));exact rfl;exact rfl;exact rfl;refine dM ?_)|((refine g_cond rfl (fun hc => ?_) (fun hc => ?_)) <;> (try simp only [dcB] at hc) <;> (try first|contradiction|(exfalso;omega)))|fail
      repeat refine cr ?_
      refine ends_id ?_
      refine endK [] (h2 := ?_) (h3 := ?_) (nd := ?_)
      all_goals (repeat' first|exact ce0|refine ce ?_|refine ce2 ?_ ?_|(refine Or.inr (bx_eq rfl rfl ?_);(try dsimp only [C.ren,C.ren.all]);(try exact rfl))|exact SVLe.refl|refine ceb ?_)
      all_goals first | exact (show nodupB _ = true from rfl) | exact Or.inr rfl | (rfl)
theorem srcOne_ok (s : Src) (n : Int) (g : SrOk s) (h : s.pl ≤ 999999999999999998) (h1 : n ≤ 1000000) : Does Tryz.prog 37 [.one (.gv 0),.one (int n)] [srB s] (.one (boo (decide (pkV s n = 0)))) [srB (pkS s n)] := by
  refine does_of (k := 1) Tryz.func37 rfl Tryz.ntmps37 rfl rfl fun w F0 S0 ρ0 => ?_
  dsimp only [argT,argH]
  repeat' first|(apply p3;(first|exact pu1|exact puC);exact rfl)|refine cd ?_|(apply c4 0;exact callK0 (θ := [_]) (hD := (srcPick_ok _ _ preB76 preB76 preB76));exact rfl;exact rfl;exact rfl;refine dM ?_)|fail
  repeat refine cr ?_
  refine ends_id ?_
  refine endK [] (h2 := ?_) (h3 := ?_) (nd := ?_)
  all_goals (repeat' first|exact ce0|refine ce ?_|refine ce2 ?_ ?_|(refine Or.inr (bx_eq rfl rfl ?_);(try dsimp only [C.ren,C.ren.all]);(try exact rfl))|exact SVLe.refl|refine ceb ?_)
  all_goals first | exact (show nodupB _ = true from rfl) | exact Or.inr rfl | (rfl)
end Go.Proofs.YtnkeamihfiobdaaGreatDoor
end
section
set_option linter.unusedVariables false
set_option linter.unusedSimpArgs false
set_option maxRecDepth 100000
set_option maxHeartbeats 4000000
namespace Go.Proofs.YtnkeamihfiobdaaGreatDoor
open Go Foot
@[irreducible] def dsR (s : Src) (sy st : Int) : Rule' := if pkV (pkS (pkS (pkS s sy) 2) st) 7 = 0 then noR else ⟨pkV s sy,2 * pkV (pkS s sy) 2 - 1,pkV (pkS (pkS s sy) 2) st⟩
@[irreducible] def dsS (s : Src) (sy st : Int) : Src := pkS (pkS (pkS (pkS s sy) 2) st) 7
def dsF (sy st : Int) : Nat → Src → List Rule' → List Rule' × Src
  | 0,s,r => (r,s)
  | n + 1,s,r => dsF sy st n (dsS s sy st) (r ++ [dsR s sy st])
@[irreducible] def dsO (s : Src) (sy st : Int) : List Rule' × Src := dsF sy st (sy * st).toNat s []
theorem dsS_pl (s : Src) (sy st : Int) : s.pl ≤ (dsS s sy st).pl ∧ (dsS s sy st).pl ≤ s.pl + 8 := by
  unfold dsS
  have h1 := pkS_pl s sy
  have h2 := pkS_pl (pkS s sy) 2
  have h3 := pkS_pl (pkS (pkS s sy) 2) st
  have h4 := pkS_pl (pkS (pkS (pkS s sy) 2) st) 7
  omega
theorem dsS_ok {s : Src} {sy st : Int} (g : SrOk s) (h : s.pl ≤ 999999999999999900) : SrOk (dsS s sy st) := by
  have h1 := pkS_pl s sy
  have h2 := pkS_pl (pkS s sy) 2
  have h3 := pkS_pl (pkS (pkS s sy) 2) st
  unfold dsS
  exact sr_pick (sr_pick (sr_pick (sr_pick g (by omega)) (by omega)) (by omega)) (by omega)
theorem dsR_ok {s : Src} {sy st : Int} (g : SrOk s) (h : s.pl ≤ 999999999999999900) (h1 : 1 ≤ sy) (h2 : 1 ≤ st) : okRule sy st (dsR s sy st) = true := by
  have k1 := pkS_pl s sy
  have k2 := pkS_pl (pkS s sy) 2
  have g1 := sr_pick (n := sy) g (by omega)
  have g2 := sr_pick (n := 2) g1 (by omega)
  have b1 := pkV_bd (n := sy) g h1
  have b2 := pkV_bd (n := 2) g1 (by omega)
  have b3 := pkV_bd (n := st) g2 h2
  unfold okRule dsR
  rw [decide_eq_true_eq]
  split
  · exact .inl rfl
  · exact .inr ⟨⟨b1.1,by dsimp only; omega⟩,by dsimp only; omega,b3.1,by dsimp only; omega⟩
theorem dsF_len (sy st : Int) : ∀ (n : Nat) (s : Src) (r : List Rule'),(dsF sy st n s r).1.length = r.length + n
  | 0,s,r => rfl
  | n + 1,s,r => by rw [dsF,dsF_len sy st n]; simp; omega
theorem dsF_pl (sy st : Int) : ∀ (n : Nat) (s : Src) (r : List Rule'),s.pl ≤ (dsF sy st n s r).2.pl ∧ (dsF sy st n s r).2.pl ≤ s.pl + 8 * n
  | 0,s,r => by simp [dsF]
  | n + 1,s,r => by
    have h1 := dsF_pl sy st n (dsS s sy st) (r ++ [dsR s sy st])
    have h2 := dsS_pl s sy st
    rw [dsF]
    omega
theorem dsF_ok {sy st : Int} (h1 : 1 ≤ sy) (h2 : 1 ≤ st) : ∀ (n : Nat) (s : Src) (r : List Rule'),SrOk s → s.pl + 8 * n ≤ 999999999999999900 → (∀ x ∈ r,okRule sy st x = true) → SrOk (dsF sy st n s r).2 ∧ ∀ x ∈ (dsF sy st n s r).1,okRule sy st x = true
  | 0,s,r,g,_,h => ⟨g,h⟩
  | n + 1,s,r,g,hp,h => by
    have k := dsS_pl s sy st
    rw [dsF]
    refine dsF_ok h1 h2 n _ _ (dsS_ok g (by omega)) (by omega) fun x hx => ?_
    rcases List.mem_append.1 hx with hx | hx
    · exact h x hx
    · rw [List.mem_singleton.1 hx]; exact dsR_ok g (by omega) h1 h2
theorem preB77 {p : Prop} (h : p := by first | with_reducible assumption | omega | (simp only [List.length_append,List.length_cons,List.length_nil,List.length_set,List.length_replicate,List.length_take,List.length_drop,List.length_tail,List.length_dropLast,List.length_reverse] at *; omega) | exact mem_len (by assumption) (by omega) | (with_reducible refine Int.le_trans (Int.ofNat_le.2 (trimR_len _)) ?_; simp only [List.length_cons,List.length_tail]; omega) | (exact (ruAt_ok (by assumption) (by assumption) (by assumption)).2.1) | (exact (ruAt_ok (by assumption) (by assumption) (by assumption)).2.1) | (have := vMach_bd (by assumption); omega) | (simp only [mC_ch,mC_tu]; omega) | (have := vTag_bd (by assumption); omega) | (have := (‹Gd _ _›).le; omega) | (exact tgHalts_no (by assumption)) | (exact tgHead (by assumption) (by assumption) (by assumption)) | (exact Int.le_trans (tgStep_gd (by assumption) (by assumption) (by assumption) (by assumption)).le (by decide)) | (exact vTag_r (by assumption)) | (with_reducible refine Int.le_trans (Int.ofNat_le.2 (pushL_len _ _)) ?_; simp only [List.length_dropLast]; omega) | exact ls_at (by assumption) (by omega) | exact pt_gd (by assumption) | exact lv_at (by assumption) (by omega) | exact pt_gd (lv_at (by assumption) (by omega)) | exact (ask_ok (by assumption)).1 | exact (ask_ok (by assumption)).2.1 | exact (ask_ok (by assumption)).2.2.1 | exact (ask_ok (by assumption)).2.2.2 | trivial) : p := h
theorem drawSize_ok (s : Src) (sy st : Int) (g : SrOk s) (h : s.pl ≤ 100000000000000000) (h1 : 1 ≤ sy) (h2 : sy ≤ 6) (h3 : 1 ≤ st) (h4 : st ≤ 6) (hN : 0 ≤ sy * st) (hN2 : sy * st ≤ 36) : Does Tryz.prog 35 [.one (.gv 0),.one (int sy),.one (int st)] [srB s] (.agg [int sy,int st,.gv 1]) [srB (dsO s sy st).2,.row 3 (rows eR (dsO s sy st).1)] := by
  have e0 : dsF sy st (sy * st).toNat s [] = dsO s sy st := by unfold dsO; rfl
  refine does_of (k := 1) Tryz.func35 rfl Tryz.ntmps35 rfl rfl fun w F0 S0 ρ0 => ?_
  dsimp only [argT,argH]
  repeat' first|(apply n3;(exact a_new (gb := .bx _) rfl);exact rfl;refine dA ?_)|(apply p3;(first|exact pu1|exact a_mulB rfl rfl (by omega) (by omega) (by omega) (by omega));exact rfl)|refine cd ?_|(apply w3;(exact a_st_bx rfl rfl rfl rfl (fN rfl rfl) (Nat.le_of_ble_eq_true rfl) rfl);exact rfl;refine dS ?_)|fail
  refine g_conv (t_nilB (i := 2) (k := 2) (z := 3) rfl rfl rfl (by decide)) ?_
  try dsimp only [setRow,List.map_cons,List.map_nil,scC,List.set_cons_zero,List.set_cons_succ,Nat.reduceAdd]
  refine g_loop_id ?_
  refine loopK [0,1,2,6,7] [0,2,3] (fun y : Int × Src × List Rule' => 0 ≤ y.1 ∧ y.1 ≤ sy * st ∧ SrOk y.2.1 ∧ y.2.1.pl ≤ s.pl + 8 * (sy * st - y.1) ∧ (y.2.2.length : Int) ≤ sy * st - y.1 ∧ dsF sy st y.1.toNat y.2.1 y.2.2 = dsO s sy st) (fun y => [(8,.one (int y.1))]) (fun y => [(0,srB y.2.1),(2,.bx [int sy,int st,.gv 3]),(3,.row 3 (rows eR y.2.2))]) (fun y => y.1.toNat) (sy * st,s,([] : List Rule')) [0,1,2,3] (hI := ?_) (hr := ?_)
  · exact ⟨hN,by simp,g,by simp,by simp,e0⟩
  · rintro ⟨n,u,r⟩ ⟨k0,k1,k2,k3,k4,k5⟩
    dsimp only [List.cons_append,List.nil_append] at *
    skip
    repeat' first|(apply p3;(first|exact pu1|exact puC);exact rfl)|refine cdn ?_|refine g_reg (id := 3) ?_|((refine g_cond rfl (fun hc => ?_) (fun hc => ?_)) <;> (try simp only [dcB] at hc) <;> (try first|contradiction|(exfalso;omega)))|fail
    · have z1 := pkS_pl u sy
      have z2 := pkS_pl (pkS u sy) 2
      have z3 := pkS_pl (pkS (pkS u sy) 2) st
      have g1 := sr_pick (n := sy) k2 (by omega)
      have g2 := sr_pick (n := 2) g1 (by omega)
      have g3 := sr_pick (n := st) g2 (by omega)
      have b1 := pkV_bd (n := sy) k2 h1
      have b2 := pkV_bd (n := 2) g1 (by omega)
      have b3 := pkV_bd (n := st) g2 h3
      have q0 := dsS_pl u sy st
      have q1 := dsS_ok (st := st) (sy := sy) k2 (by omega)
      have q2 : dsF sy st (n - 1).toNat (dsS u sy st) (r ++ [dsR u sy st]) = dsO s sy st := by
        rw [← k5,show n.toNat = (n - 1).toNat + 1 by omega,dsF]
      unfold dsS dsR at q2
      unfold dsS at q0 q1
      repeat' first|(apply n3;(first|exact a_new (gb := .bx _) rfl|exact a_litE eR [⟨_,_,_⟩] rfl rfl rfl rfl rfl rfl rfl rfl);exact rfl;refine dA ?_)|(apply p3;(first|exact pu1|exact a_mulB rfl rfl (by omega) (by omega) (by omega) (by omega)|exact a_sub rfl rfl (by omega) (by omega));exact rfl)|refine cd ?_|(apply s3;exact a_appE (fP rfl) rfl rfl rfl rfl nowR (by (simp <;> omega)) (by decide) (by decide) (by exact rfl);exact rfl;exact rfl)|(apply w3;(exact a_st_bx rfl rfl rfl rfl (fN rfl rfl) (Nat.le_of_ble_eq_true rfl) rfl);exact rfl;refine dS ?_)|(apply c4 0;exact callK0 (θ := [_]) (hD := (srcPick_ok _ _ preB77 preB77 preB77));exact rfl;exact rfl;exact rfl;refine dM ?_)|(apply c4 0;exact callK0 (θ := [_]) (hD := (srcOne_ok _ _ preB77 preB77 preB77));exact rfl;exact rfl;exact rfl;refine dM ?_)|(apply c4 0;exact callK1 (θ := []) (hD := l05None_ok);exact rfl;exact rfl;exact rfl;refine dM ?_)|((refine g_cond rfl (fun hc => ?_) (fun hc => ?_)) <;> (try simp only [dcB] at hc) <;> (try first|contradiction|(exfalso;omega)))|fail
      · rename_i hc
        rw [if_pos hc] at q2
        refine q_again (n - 1,pkS (pkS (pkS (pkS u sy) 2) st) 7,r ++ [noR]) [0,1,2,6] (by exact stk) ?_ ?_
        · exact ⟨by omega,by omega,q1,by dsimp only; omega,by simp; omega,q2⟩
        · omega
      · rename_i hc
        rw [if_neg hc] at q2
        refine q_again (n - 1,pkS (pkS (pkS (pkS u sy) 2) st) 7,r ++ [⟨pkV u sy,2 * pkV (pkS u sy) 2 - 1,pkV (pkS (pkS u sy) 2) st⟩]) [0,1,2,6] (by exact stk) ?_ ?_
        · exact ⟨by omega,by omega,q1,by dsimp only; omega,by simp; omega,q2⟩
        · omega
    · have q0 : n.toNat = 0 := by omega
      rw [q0,dsF] at k5
      have q1 := congrArg Prod.fst k5
      have q2 := congrArg Prod.snd k5
      dsimp only at q1 q2
      rw [← q1,← q2]
      repeat' first|(apply p3;(exact pu1);exact rfl)|refine cd ?_|(apply w3;(exact a_st_bx rfl rfl rfl rfl (fN rfl rfl) (Nat.le_of_ble_eq_true rfl) rfl);exact rfl;refine dS ?_)|fail
      repeat refine cr ?_
      refine ends_id ?_
      refine endK [?_] (h2 := ?_) (h3 := ?_) (nd := ?_)
      rotate_left 1
      all_goals (repeat' first|exact ce0|refine ce ?_|refine ce2 ?_ ?_|(refine Or.inr (bx_eq rfl rfl ?_);(try dsimp only [C.ren,C.ren.all]);(try exact rfl))|exact SVLe.refl|refine ceb ?_)
      all_goals first | exact (show nodupB _ = true from rfl) | exact Or.inr rfl | (rfl)
end Go.Proofs.YtnkeamihfiobdaaGreatDoor
end
section
set_option linter.unusedVariables false
set_option linter.unusedSimpArgs false
set_option maxRecDepth 100000
set_option maxHeartbeats 4000000
namespace Go.Proofs.YtnkeamihfiobdaaGreatDoor
open Go Foot
section
variable {P : Program} {g : Gh} {st : St} {dst : Option Tmp} {ty : TypeId} {pos : String} {after : Array Edge} {guard : Option (Nat × Bool)} {x y z : Operand} {T U : TypeId} {a b : Int}
theorem a_cmp8 {op : BinOp} {p : Prop} [Decidable p] {v : Value} (e1 : opd st x = .one (u8 a)) (e2 : opd st y = .one (u8 b)) (hv : binV op (.int .u8 a) (.int .u8 b) = some v) (ho : binOb op (.int .u8 a) (.int .u8 b)) (hb : v = .bool (decide p)) : Acts P g ⟨dst,.binOp op T x y U,ty,pos,after,guard⟩ st (.one (boo (decide p))) [] [] := by
  subst hb
  exact a_bin e1 e2 hv ho
theorem a_sub8 (e1 : opd st x = .one (u8 a)) (e2 : opd st y = .one (u8 b)) (h0 : 0 ≤ a - b) (h1 : a - b < 256) : Acts P g ⟨dst,.binOp .sub T x y U,ty,pos,after,guard⟩ st (.one (u8 (a - b))) [] [] := by
  have := a_bin (P := P) (g := g) (dst := dst) (T := T) (U := U) (ty := ty) (pos := pos) (after := after) (guard := guard) (op := .sub) e1 e2 rfl trivial
  rwa [wrap8 h0 h1] at this
theorem a_ne8 (e1 : opd st x = .one (u8 a)) (e2 : opd st y = .one (u8 b)) : Acts P g ⟨dst,.binOp .neq T x y U,ty,pos,after,guard⟩ st (.one (boo (!decide (a = b)))) [] [] := a_bin e1 e2 rfl trivial
end
end Go.Proofs.YtnkeamihfiobdaaGreatDoor
end
