/- Parts of the proof (20 of 22). -/
import Derived.Deep.RegionWith
import Derived.Handy
import Derived.Laws.RangeAny
import Derived.Lib.OthersKept
import Derived.WalkMore
import Derived.Test.YtighjcjmacajoaaGreatDoorQ19
section
set_option linter.unusedVariables false
set_option linter.unusedSimpArgs false
set_option maxRecDepth 1000000
namespace Go.Proofs.YtighjcjmacajoaaGreatDoor
open Go Foot Go.Shelf Go.RowKit
def lrB : ByteArray := ⟨#[76,82]⟩
theorem two_bytes {E : ByteArray} (h : E.size = 2) : ∃ x y,E = ⟨#[x,y]⟩ := by
  rcases E with ⟨⟨l⟩⟩
  match l,h with
  | [x,y],_ => exact ⟨x,y,rfl⟩
set_option maxHeartbeats 8000000 in
theorem bs_IndexRuneHi {c : Int} {w : World} (h0 : 128 ≤ c) (h1 : c ≤ 1114111) (hne : c ≠ 65533) (hva : c < 55296 ∨ 57343 < c) :
    Calls Tryz.prog 269 #[.string lrB,.int .i32 c] w fun e w' => e = .returned (.int .i64 (-1)) ∧ Below w.heap.size w w' := by
  have mixed : Tryz.prog.follows .mixedOrders = true := by kernel_rfl
  have hne2 : ¬ c = 65533 := hne
  have hv : Utf8.valid c = true := by
    unfold Utf8.valid
    simp
    omega
  obtain ⟨f1,f2,f3⟩ := encode_facts c hv h0
  have hcv : ∀ w,(convert 21 9 (.int .i32 c)).run Tryz.prog w = .ok (.string (Utf8.encode c)) w := fun w => run_convert_int_string w _ _ _ _ (by kernel_rfl) Tryz.underlying9
  generalize Utf8.encode c = E at *
  have hls : lrB.size = 2 := rfl
  clear hv
  generalize hL : lrB = L at *
  have e301 : ∀ args w,(callFunc 301 args).run Tryz.prog w = .ok (.enter 301 args) w := enters_of Tryz.func301 (by kernel_rfl) rfl
  have e164 : ∀ args w,(callFunc 164 args).run Tryz.prog w = .ok (.enter 164 args) w := enters_of Tryz.func164 (by kernel_rfl) rfl
  go_enter Tryz.func269,Tryz.ntmps269
  go_wp2_with (go_at_fn 301; refine (Tryz.utf8_ValidRune _ _).mono ?_)
  rintro e w' ⟨rfl,rfl⟩
  rw [show Lib.validRune c = true by unfold Lib.validRune; simp; omega]
  rcases (show E.size = 2 ∨ 3 ≤ E.size by omega) with hE | hE
  · obtain ⟨x,y,rfl⟩ := two_bytes hE
    have hy : 128 ≤ y.toNat := f3 (by show 2 - 1 < 2; omega)
    clear f3
    subst hL
    have hyb : (82 : UInt8) ≠ y := fun e => by subst e; revert hy; decide
    have hyi : ((82 : Int) == ((y.toNat : Nat) : Int)) = false := beq_eq_false_iff_ne.2 (by omega)
    go_wp2
    go_step3
    go_wp2
    go_rounds 1
    go_step3
    go_wp2
    have hb : (((((lrB[1]'(by decide)).toNat : Nat) : Int) != ((((ByteArray.mk #[x,y])[1]'(by show 1 < 2; omega)).toNat : Nat) : Int))) = true := by
      show ((82 : Int) != ((y.toNat : Nat) : Int)) = true
      rw [bne_iff_ne]
      omega
    go_region
    go_wp2
    go_region_with (go_at_fn 164; refine (Tryz.strings_IndexByte _ _ _).mono ?_; rintro e w2 ⟨rfl,rfl⟩)
    all_goals
      have hm : ∀ c,Lib.indexByte [] c = -1 := fun _ => rfl
      simp only [hm]
      go_wp2
      rw [Exit.noGoto_ret]
      go_wp2
      rw [Exit.noGoto_ret]
      go_ret
      exact ⟨rfl,⟨rfl,rfl,rfl,Nat.le_refl _,fun _ _ => rfl⟩⟩
  · have hE1 : ¬ ((E.size : Int) - 1) < (L.size : Int) := by omega
    go_wp2
    go_step3
    go_wp2
    go_rounds 1
    rw [Exit.noGoto_ret]
    go_ret
    exact ⟨rfl,Below.refl _ _⟩
theorem below_iter (w : World) (s : ByteArray) (p : Nat) : Below w.heap.size w (w.iter s p) := by
  unfold World.iter
  exact ⟨rfl,rfl,rfl,by simp,fun k hk => Lib.alloc_old w _ k hk⟩
set_option maxHeartbeats 8000000 in
theorem bs_IndexRuneErr {w : World} :
    Calls Tryz.prog 269 #[.string lrB,.int .i32 65533] w fun e w' => e = .returned (.int .i64 (-1)) ∧ Below w.heap.size w w' := by
  have mixed : Tryz.prog.follows .mixedOrders = true := by kernel_rfl
  have n0 := fun ty => run_next_ascii (P := Tryz.prog) w lrB 0 ty (by decide) (by decide)
  have n1 := fun ty => run_next_ascii (P := Tryz.prog) w lrB 1 ty (by decide) (by decide)
  have n2 := fun ty => run_next_end (P := Tryz.prog) w lrB 2 ty (by decide)
  go_enter Tryz.func269,Tryz.ntmps269
  go_wp2
  go_rounds 3
  go_ret
  exact ⟨rfl,below_iter _ _ _⟩
theorem get_byte (s : ByteArray) (k : Nat) (h : k < s.size) : (s.get! k).toNat = (s.data.toList[k]'(by rw [← Lib.size_eq]; exact h)).toNat := by
  congr 1
  show s.get! k = _
  simp [ByteArray.get!,getElem!_pos,h]
theorem dec_hi (s : ByteArray) (pos : Nat) (h : pos < s.size) (ha : 128 ≤ (s[pos]'h).toNat) :
    128 ≤ (Utf8.decode s pos).1 ∧ (Utf8.decode s pos).1 ≤ 1114111 ∧ ((Utf8.decode s pos).1 ≠ 65533 → (Utf8.decode s pos).1 < 55296 ∨ 57343 < (Utf8.decode s pos).1) ∧ 1 ≤ (Utf8.decode s pos).2 ∧ pos + (Utf8.decode s pos).2 ≤ s.size ∧
    ∀ j b,pos ≤ j → j < pos + (Utf8.decode s pos).2 → s.data.toList[j]? = some b → 128 ≤ b.toNat := by
  have hb0 : (s.get! pos).toNat = (s[pos]'h).toNat := by rw [get_byte s pos h]; rfl
  have hb : ∀ k,(s.get! (pos + k)).toNat < 256 := fun k => (s.get! (pos + k)).toNat_lt
  have g1 := hb 1; have g2 := hb 2; have g3 := hb 3
  have hat : ∀ j b,s.data.toList[j]? = some b → (s.get! j).toNat = b.toNat := fun j b hj => by
    obtain ⟨hl,e⟩ := List.getElem?_eq_some_iff.1 hj
    rw [get_byte s j (by rw [Lib.size_eq]; exact hl),e]
  have hn : ¬ (s.get! (pos + 0)).toNat < 128 := by rw [Nat.add_zero,hb0]; omega
  have key : ∀ c k,Utf8.decode s pos = (c,k) → 128 ≤ c ∧ c ≤ 1114111 ∧ (c ≠ 65533 → c < 55296 ∨ 57343 < c) ∧ 1 ≤ k ∧ pos + k ≤ s.size ∧ ∀ i,i < k → 128 ≤ (s.get! (pos + i)).toNat := by
    intro c k e
    simp only [Utf8.decode] at e
    rw [if_neg hn] at e
    simp only [Nat.add_zero] at e hn
    repeat' split at e
    all_goals
      simp only [Prod.mk.injEq,Bool.and_eq_true,decide_eq_true_eq,beq_iff_eq,Utf8.runeError,Utf8.valid,Bool.or_eq_true,ge_iff_le] at *
      obtain ⟨e1,e2⟩ := e
      subst e1 e2
      refine ⟨by omega,by omega,by omega,by omega,by omega,fun i hi => ?_⟩
      have hi4 : i = 0 ∨ i = 1 ∨ i = 2 ∨ i = 3 := by omega
      rcases hi4 with rfl | rfl | rfl | rfl <;> first | omega | (rw [Nat.add_zero]; omega)
  obtain ⟨c,k,e⟩ : ∃ c k,Utf8.decode s pos = (c,k) := ⟨_,_,rfl⟩
  obtain ⟨k1,k2,k3,k4,k5,k6⟩ := key c k e
  rw [e]
  dsimp only
  refine ⟨k1,k2,k3,k4,k5,fun j b h1 h2 hj => ?_⟩
  have := k6 (j - pos) (by omega)
  rw [show pos + (j - pos) = j by omega,hat j b hj] at this
  exact this
theorem lr_hi {b : UInt8} (h : 128 ≤ b.toNat) : ([76,82] : List UInt8).contains b = false := by
  rw [Bool.eq_false_iff]
  intro q
  rw [List.contains_iff_mem] at q
  simp only [List.mem_cons,List.not_mem_nil,or_false] at q
  rcases q with rfl | rfl <;> (revert h; decide)
theorem noany_add {l ch : List UInt8} {i k : Nat} (h : Lib.NoAny l ch i) (h2 : ∀ j b,i ≤ j → j < i + k → l[j]? = some b → ch.contains b = false) : Lib.NoAny l ch (i + k) := fun j b hj hb => by
  by_cases q : j < i
  · exact h j b q hb
  · exact h2 j b (by omega) hj hb
set_option maxHeartbeats 8000000 in
theorem bs_IndexAnyLR {s : ByteArray} {w : World} (h8 : s.size ≤ 8) :
    Calls Tryz.prog 220 #[.string s,.string lrB] w fun e w' => e = .returned (.int .i64 (Lib.indexAny s.data.toList [76,82])) ∧ Below w.heap.size w w' := by
  have mixed : Tryz.prog.follows .mixedOrders = true := by kernel_rfl
  have h8z : decide ((8 : Int) < (s.size : Int)) = false := decide_eq_false (by omega)
  have e269 : ∀ args w,(callFunc 269 args).run Tryz.prog w = .ok (.enter 269 args) w := enters_of Tryz.func269 (by kernel_rfl) rfl
  have e270 : ∀ args w,(callFunc 270 args).run Tryz.prog w = .ok (.enter 270 args) w := enters_of Tryz.func270 (by kernel_rfl) rfl
  obtain ⟨L,hL⟩ : ∃ L,L = lrB := ⟨_,rfl⟩
  have hHi : ∀ {c : Int} {w : World},128 ≤ c → c ≤ 1114111 → c ≠ 65533 → (c < 55296 ∨ 57343 < c) → Calls Tryz.prog 269 #[.string L,.int .i32 c] w fun e w' => e = .returned (.int .i64 (-1)) ∧ Below w.heap.size w w' := by
    intro c w a b d e
    rw [hL]
    exact bs_IndexRuneHi a b d e
  have hErr : ∀ {w : World},Calls Tryz.prog 269 #[.string L,.int .i32 65533] w fun e w' => e = .returned (.int .i64 (-1)) ∧ Below w.heap.size w w' := by
    intro w
    rw [hL]
    exact bs_IndexRuneErr
  have hLd : L.data.toList = [76,82] := by rw [hL]; rfl
  have hemp : L.toList.isEmpty = false := by rw [Lib.toList_data,hLd]; rfl
  have hn1 : (((L.size : Nat) : Int) == 1) = false := by rw [hL]; rfl
  rw [← hL]
  clear hL
  go_enter Tryz.func220,Tryz.ntmps220
  go_wp2_with (go_at_fn 270; refine (Tryz.strings_shouldUseASCIISet _ _).mono ?_; rintro e w' ⟨rfl,hw⟩; rw [hw,h8z])
  go_loopg [9,10] s.size (fun g _ _ wx => ∃ i : Nat,i + g = s.size ∧ wx.heap[w.heap.size]? = some (.stringIter s i) ∧ Below w.heap.size w wx ∧ Lib.NoAny s.data.toList [76,82] i)
  case atStart => exact ⟨0,by omega,World.iter_heap _ _ _,below_iter _ _ _,Lib.NoAny.zero _ _⟩
  case round =>
    obtain ⟨i,hig,hit,hbw,hno⟩ := hrel
    have HN : Aside (Lib.NoAny s.data.toList [76,82] i) := hno
    clear hno
    by_cases hi : i < s.size
    · obtain ⟨x,hx⟩ : ∃ x : UInt8,s[i]'hi = x := ⟨_,rfl⟩
      have hxl : s.data.toList[i]? = some x := by rw [← hx]; exact Lib.data_getElem? s i hi
      have Hx : Aside (s.data.toList[i]? = some x) := hxl
      by_cases hxa : x.toNat < 128
      · have hnx := fun ty => Lib.run_next_ascii_at (P := Tryz.prog) wr w.heap.size s i ty hit hi (by rw [hx]; exact hxa)
        rw [hx] at hnx
        have hit2 := Lib.iterAt_heap wr w.heap.size s i (i + 1) hit
        have hbw2 := Lib.below_iterAt hbw (k := w.heap.size) (Nat.le_refl _) s (i + 1)
        generalize wr.iterAt w.heap.size s (i + 1) = W1 at *
        have hcon := Lib.contains_iff_indexByte ([76,82] : List UInt8) x
        have hback : ((x.toNat : Int)).toNat.toUInt8 = x := by simp
        clear hxl hit hbw hx
        cases hin : ([76,82] : List UInt8).contains x
        · rw [hin] at hcon
          have hlt : ¬ ((0 : Int) ≤ Lib.indexByte [76,82] x) := of_decide_eq_false hcon.symm
          clear hcon
          go_wp2_with (go_at_fn 269; refine (Tryz.strings_IndexRune_ascii _ _ _ (by omega) (by omega)).mono ?_; rintro e w' ⟨rfl,hw⟩; rw [hw,hback,hLd])
          go_roundg (gk - 1)
          case measure => omega
          case rel => exact ⟨i + 1,by omega,hit2,hbw2,HN.out.succ Hx.out hin⟩
        · rw [hin] at hcon
          have hge : (0 : Int) ≤ Lib.indexByte [76,82] x := of_decide_eq_true hcon.symm
          clear hcon
          go_wp2_with (go_at_fn 269; refine (Tryz.strings_IndexRune_ascii _ _ _ (by omega) (by omega)).mono ?_; rintro e w' ⟨rfl,hw⟩; rw [hw,hback,hLd])
          go_ret
          exact ⟨by rw [Lib.indexAny_hit HN.out Hx.out hin]; rfl,hbw2⟩
      · have hd := dec_hi s i hi (by rw [hx]; omega)
        have hnx := fun ty => Lib.run_next_any_at (P := Tryz.prog) wr w.heap.size s i ty hit hi
        obtain ⟨c,k,e⟩ : ∃ c k,Utf8.decode s i = (c,k) := ⟨_,_,rfl⟩
        rw [e] at hd hnx
        dsimp only at hd hnx
        obtain ⟨d1,d2,d3,d4,d5,d6⟩ := hd
        have hit2 := Lib.iterAt_heap wr w.heap.size s i (i + k) hit
        have hbw2 := Lib.below_iterAt hbw (k := w.heap.size) (Nat.le_refl _) s (i + k)
        generalize wr.iterAt w.heap.size s (i + k) = W1 at *
        have HN2 : Aside (Lib.NoAny s.data.toList [76,82] (i + k)) := noany_add HN.out fun j b h1 h2 hj => lr_hi (d6 j b h1 h2 hj)
        clear hxl hit hbw hx d6 e
        by_cases h3 : c = 65533
        · subst h3
          go_wp2_with (go_at_fn 269; refine hErr.mono ?_; rintro e w' ⟨rfl,hw⟩)
          go_roundg (gk - k)
          case measure => omega
          case rel => exact ⟨i + k,by omega,(hw.block _ (heap_lt hit2)).trans hit2,hbw2.trans (hw.mono (Nat.le_of_lt (heap_lt hit2))),HN2.out⟩
        · go_wp2_with (go_at_fn 269; refine (hHi (c := (c : Int)) (by omega) (by omega) (by omega) (by omega)).mono ?_; rintro e w' ⟨rfl,hw⟩)
          go_roundg (gk - k)
          case measure => omega
          case rel => exact ⟨i + k,by omega,(hw.block _ (heap_lt hit2)).trans hit2,hbw2.trans (hw.mono (Nat.le_of_lt (heap_lt hit2))),HN2.out⟩
    · obtain rfl : i = s.size := by omega
      have hnx := fun ty => Lib.run_next_end_at (P := Tryz.prog) wr w.heap.size s s.size ty hit (by omega)
      go_wp2
      go_ret
      exact ⟨by rw [Lib.indexAny_none (by rw [← Lib.size_eq]; exact HN.out)]; rfl,hbw⟩
end Go.Proofs.YtighjcjmacajoaaGreatDoor
end
section
set_option linter.unusedVariables false
set_option linter.unusedSimpArgs false
set_option maxRecDepth 100000
set_option maxHeartbeats 4000000
namespace Go.Proofs.YtighjcjmacajoaaGreatDoor
open Go Foot Go.RowKit
theorem preB128 {p : Prop} (h : p := by first | with_reducible assumption | omega | (simp only [List.length_append,List.length_cons,List.length_nil,List.length_set,List.length_replicate,List.length_take,List.length_drop,List.length_tail,List.length_dropLast,List.length_reverse] at *; omega) | exact mem_len (by assumption) (by omega) | (with_reducible refine Int.le_trans (Int.ofNat_le.2 (trimR_len _)) ?_; simp only [List.length_cons,List.length_tail]; omega) | (exact (ruAt_ok (by assumption) (by assumption) (by assumption)).2.1) | (exact (ruAt_ok (by assumption) (by assumption) (by assumption)).2.1) | (have := vMach_bd (by assumption); omega) | (simp only [mC_ch,mC_tu]; omega) | (have := vTag_bd (by assumption); omega) | (have := (‹Gd _ _›).le; omega) | (exact tgHalts_no (by assumption)) | (exact tgHead (by assumption) (by assumption) (by assumption)) | (exact Int.le_trans (tgStep_gd (by assumption) (by assumption) (by assumption) (by assumption)).le (by decide)) | (exact vTag_r (by assumption)) | (with_reducible refine Int.le_trans (Int.ofNat_le.2 (pushL_len _ _)) ?_; simp only [List.length_dropLast]; omega) | exact ls_at (by assumption) (by omega) | exact pt_gd (by assumption) | exact lv_at (by assumption) (by omega) | exact pt_gd (lv_at (by assumption) (by omega)) | exact (ask_ok (by assumption)).1 | exact (ask_ok (by assumption)).2.1 | exact (ask_ok (by assumption)).2.2.1 | exact (ask_ok (by assumption)).2.2.2 | trivial) : p := h
theorem IndexAnyLR_ok (s : Bs) (hs : (s.length : Int) ≤ 1048576) : Does Tryz.prog 220 [.one (str s),.one (str [76,82])] [] (.one (int (Lib.indexAny s [76,82]))) [] :=
  does_ext (av := [sv s,sv [76,82]]) (rv := .int .i64 (Lib.indexAny s [76,82])) (fun w S ρ vs => repA_2) (fun w S ρ => ⟨rfl,rfl⟩) fun w S _ => by
    by_cases h8 : (⟨s.toArray⟩ : ByteArray).size ≤ 8
    · exact bs_IndexAnyLR h8
    · refine (Tryz.strings_IndexAny_long (zero_of_info (n := 256) (by kernel_rfl)).1 ⟨s.toArray⟩ ⟨[76,82].toArray⟩ w (by decide) (by omega) (by rw [sz_str]; omega) (by decide) ?_).mono ?_
      · intro j b hj
        match j,hj with
        | 0,hj => simp at hj; subst hj; decide
        | 1,hj => simp at hj; subst hj; decide
        | j + 2,hj => simp at hj
      · rintro en w' ⟨rfl,rfl⟩
        exact ⟨rfl,(Below.alloc (Below.refl _ w) (Nat.le_refl _) _).alloc (by simp) _⟩
theorem any_lt : ∀ {s : Bs},0 ≤ Lib.indexAny s [76,82] → Lib.indexAny s [76,82] < s.length
  | [],h => by simp [Lib.indexAny] at h
  | b :: l,h => by
    rw [Lib.indexAny] at h ⊢
    by_cases q : ([76,82] : List UInt8).contains b = true
    · rw [if_pos q]; simp only [List.length_cons]; omega
    · rw [if_neg q] at h ⊢
      by_cases q2 : (Lib.indexAny l [76,82] == -1) = true
      · rw [if_pos q2] at h; omega
      · rw [if_neg q2] at h ⊢
        have hge := Lib.indexAny_ge [76,82] l
        have hne : Lib.indexAny l [76,82] ≠ -1 := fun e => q2 (by rw [e]; rfl)
        have := any_lt (s := l) (by omega)
        simp only [List.length_cons]
        omega
@[irreducible] def rdR (s : Bs) : Rule' := if Lib.indexAny s [76,82] < 0 then ⟨0,0,-1⟩ else ⟨(numS (s.take (Lib.indexAny s [76,82]).toNat)).getD 0,if (((s.getD (Lib.indexAny s [76,82]).toNat 0).toNat : Nat) : Int) = 76 then -1 else 1,(numS (s.drop (Lib.indexAny s [76,82] + 1).toNat)).getD 0⟩
theorem readRule_ok (s : Bs) (hs : (s.length : Int) ≤ 1048576) : Does Tryz.prog 153 [.one (str s)] [] (.agg (ruC (rdR s))) [] := by
  have hge := Lib.indexAny_ge [76,82] s
  by_cases hk : Lib.indexAny s [76,82] < 0
  · have e : rdR s = ⟨0,0,-1⟩ := by unfold rdR; rw [if_pos hk]
    rw [e]
    refine does_of (k := 0) Tryz.func153 rfl Tryz.ntmps153 rfl rfl fun w F0 S0 ρ0 => ?_
    dsimp only [argT,argH]
    repeat' first|(apply n3;exact a_new (gb := .bx _) rfl;exact rfl;refine dA ?_)|(apply p3;(first|exact pu1|exact puC);exact rfl)|refine cd ?_|(apply w3;(exact a_st_bx rfl rfl rfl rfl (fN rfl rfl) (Nat.le_of_ble_eq_true rfl) rfl);exact rfl;refine dS ?_)|(apply c4 0;exact callK1 (θ := []) (hD := (IndexAnyLR_ok _ preB128));exact rfl;exact rfl;exact rfl;refine dM ?_)|(apply c4 0;exact callK1 (θ := []) (hD := noRule_ok);exact rfl;exact rfl;exact rfl;refine dM ?_)|((refine g_cond rfl (fun hc => ?_) (fun hc => ?_)) <;> (try simp only [dcB] at hc) <;> (try first|contradiction|(exfalso;omega)))
    repeat refine cr ?_
    refine ends_id ?_
    refine endK [] (h2 := ?_) (h3 := ?_) (nd := ?_)
    all_goals (repeat' first|exact ce0|refine ce ?_|refine ce2 ?_ ?_|exact SVLe.refl|refine ceb ?_)
    all_goals first | exact (show nodupB _ = true from rfl) | exact Or.inr rfl | (rfl)
  have hlt := any_lt (s := s) (by omega)
  have h1 : ((s.take (Lib.indexAny s [76,82]).toNat).length : Int) ≤ 1048576 := by rw [List.length_take]; omega
  have h2 : ((s.drop (Lib.indexAny s [76,82] + 1).toNat).length : Int) ≤ 1048576 := by rw [List.length_drop]; omega
  by_cases h76 : (((s.getD (Lib.indexAny s [76,82]).toNat 0).toNat : Nat) : Int) = 76
  · have e : rdR s = ⟨(numS (s.take (Lib.indexAny s [76,82]).toNat)).getD 0,-1,(numS (s.drop (Lib.indexAny s [76,82] + 1).toNat)).getD 0⟩ := by unfold rdR; rw [if_neg hk,if_pos h76]
    rw [e]
    refine does_of (k := 0) Tryz.func153 rfl Tryz.ntmps153 rfl rfl fun w F0 S0 ρ0 => ?_
    dsimp only [argT,argH]
    repeat' first|(apply n3;exact a_new (gb := .bx _) rfl;exact rfl;refine dA ?_)|(apply p3;(first|exact pu1|exact puC|exact a_idxS rfl rfl (fT rfl) (by omega) bnd|exact a_cmp8 rfl rfl rfl trivial rfl|exact a_slSh rfl rfl (fT rfl) (by omega) bnd|exact a_add rfl rfl (by omega) (by omega)|exact a_slSl rfl rfl (fT rfl) (by omega) bnd);exact rfl)|refine cd ?_|(apply w3;(exact a_st_bx rfl rfl rfl rfl (fN rfl rfl) (Nat.le_of_ble_eq_true rfl) rfl);exact rfl;refine dS ?_)|(apply c4 0;exact callK1 (θ := []) (hD := (IndexAnyLR_ok _ preB128));exact rfl;exact rfl;exact rfl;refine dM ?_)|(apply c4 0;exact callK1 (θ := []) (hD := (ReadDecimalG_ok _ h1));exact rfl;exact rfl;exact rfl;refine dM ?_)|(apply c4 0;exact callK1 (θ := []) (hD := (ReadDecimalG_ok _ h2));exact rfl;exact rfl;exact rfl;refine dM ?_)|((refine g_cond rfl (fun hc => ?_) (fun hc => ?_)) <;> (try simp only [dcB] at hc) <;> (try first|contradiction|(exfalso;omega)))
    repeat refine cr ?_
    refine ends_id ?_
    refine endK [] (h2 := ?_) (h3 := ?_) (nd := ?_)
    all_goals (repeat' first|exact ce0|refine ce ?_|refine ce2 ?_ ?_|exact SVLe.refl|refine ceb ?_)
    all_goals first | exact (show nodupB _ = true from rfl) | exact Or.inr rfl | (rfl)
  · have e : rdR s = ⟨(numS (s.take (Lib.indexAny s [76,82]).toNat)).getD 0,1,(numS (s.drop (Lib.indexAny s [76,82] + 1).toNat)).getD 0⟩ := by unfold rdR; rw [if_neg hk,if_neg h76]
    rw [e]
    refine does_of (k := 0) Tryz.func153 rfl Tryz.ntmps153 rfl rfl fun w F0 S0 ρ0 => ?_
    dsimp only [argT,argH]
    repeat' first|(apply n3;exact a_new (gb := .bx _) rfl;exact rfl;refine dA ?_)|(apply p3;(first|exact pu1|exact puC|exact a_idxS rfl rfl (fT rfl) (by omega) bnd|exact a_cmp8 rfl rfl rfl trivial rfl|exact a_slSh rfl rfl (fT rfl) (by omega) bnd|exact a_add rfl rfl (by omega) (by omega)|exact a_slSl rfl rfl (fT rfl) (by omega) bnd);exact rfl)|refine cd ?_|(apply w3;(exact a_st_bx rfl rfl rfl rfl (fN rfl rfl) (Nat.le_of_ble_eq_true rfl) rfl);exact rfl;refine dS ?_)|(apply c4 0;exact callK1 (θ := []) (hD := (IndexAnyLR_ok _ preB128));exact rfl;exact rfl;exact rfl;refine dM ?_)|(apply c4 0;exact callK1 (θ := []) (hD := (ReadDecimalG_ok _ h1));exact rfl;exact rfl;exact rfl;refine dM ?_)|(apply c4 0;exact callK1 (θ := []) (hD := (ReadDecimalG_ok _ h2));exact rfl;exact rfl;exact rfl;refine dM ?_)|((refine g_cond rfl (fun hc => ?_) (fun hc => ?_)) <;> (try simp only [dcB] at hc) <;> (try first|contradiction|(exfalso;omega)))
    repeat refine cr ?_
    refine ends_id ?_
    refine endK [] (h2 := ?_) (h3 := ?_) (nd := ?_)
    all_goals (repeat' first|exact ce0|refine ce ?_|refine ce2 ?_ ?_|exact SVLe.refl|refine ceb ?_)
    all_goals first | exact (show nodupB _ = true from rfl) | exact Or.inr rfl | (rfl)
section
variable {P : Program} {g : Gh} {st : St} {dst : Option Tmp} {ty : TypeId} {pos : String} {after : Array Edge} {guard : Option (Nat × Bool)} {x y : Operand} {T U : TypeId} {a b : Int}
theorem a_ne8 (e1 : opd st x = .one (u8 a)) (e2 : opd st y = .one (u8 b)) : Acts P g ⟨dst,.binOp .neq T x y U,ty,pos,after,guard⟩ st (.one (boo (!decide (a = b)))) [] [] := a_bin e1 e2 rfl trivial
end
@[irreducible] def rdX (s : Bs) : Rule' × Bool := if s = [45,45,45] then (⟨0,0,-1⟩,true) else if (s.length : Int) < 3 ∨ isDgB (((s.getD 0 0).toNat : Nat) : Int) = false ∨ ¬ ((((s.getD 1 0).toNat : Nat) : Int) = 76 ∨ (((s.getD 1 0).toNat : Nat) : Int) = 82) then (⟨0,0,0⟩,false)
  else (⟨(((s.getD 0 0).toNat : Nat) : Int) - 48,if (((s.getD 1 0).toNat : Nat) : Int) = 76 then -1 else 1,(numS (s.drop 2)).getD 0⟩,(numS (s.drop 2)).isSome && decide (0 ≤ (numS (s.drop 2)).getD 0))
theorem l05ReadRule_ok (s : Bs) (hs : (s.length : Int) ≤ 1048576) : Does Tryz.prog 212 [.one (str s)] [] (.tup [(true,ruC (rdX s).1),(false,[boo (rdX s).2])]) [] := by
  by_cases h3 : s = [45,45,45]
  · have e : rdX s = (⟨0,0,-1⟩,true) := by unfold rdX; rw [if_pos h3]
    rw [e]
    refine does_of (k := 0) Tryz.func212 rfl Tryz.ntmps212 rfl rfl fun w F0 S0 ρ0 => ?_
    dsimp only [argT,argH]
    repeat' first|(apply n3;exact a_new (gb := .bx _) rfl;exact rfl;refine dA ?_)|(apply p3;(first|exact pu1|exact a_eqT rfl rfl);exact rfl)|refine cd ?_|(apply w3;(exact a_st_bx rfl rfl rfl rfl (fN rfl rfl) (Nat.le_of_ble_eq_true rfl) rfl);exact rfl;refine dS ?_)|(apply c4 0;exact callK1 (θ := []) (hD := l05None_ok);exact rfl;exact rfl;exact rfl;refine dM ?_)|((refine g_cond rfl (fun hc => ?_) (fun hc => ?_)) <;> (try simp only [dcB] at hc) <;> (try first|contradiction|(exfalso;omega)))
    repeat refine cr ?_
    refine ends_id ?_
    refine endK [] (h2 := ?_) (h3 := ?_) (nd := ?_)
    all_goals (repeat' first|exact ce0|refine ce ?_|refine ce2 ?_ ?_|exact SVLe.refl|refine ceb ?_)
    all_goals first | exact (show nodupB _ = true from rfl) | exact Or.inr rfl | (rfl)
  by_cases hl : (s.length : Int) < 3
  · have e : rdX s = (⟨0,0,0⟩,false) := by unfold rdX; rw [if_neg h3,if_pos (.inl hl)]
    rw [e]
    refine does_of (k := 0) Tryz.func212 rfl Tryz.ntmps212 rfl rfl fun w F0 S0 ρ0 => ?_
    dsimp only [argT,argH]
    repeat' first|(apply n3;exact a_new (gb := .bx _) rfl;exact rfl;refine dA ?_)|(apply p3;(first|exact pu1|exact a_eqT rfl rfl|exact a_lenT rfl (fT rfl)|exact puC);exact rfl)|refine cd ?_|(apply w3;(exact a_st_bx rfl rfl rfl rfl (fN rfl rfl) (Nat.le_of_ble_eq_true rfl) rfl);exact rfl;refine dS ?_)|refine o_no rfl rfl rfl rfl ?_|((first|refine o_gs rfl rfl (fun hc => ?_) (fun hc => ?_)|refine g_cond rfl (fun hc => ?_) (fun hc => ?_)) <;> (try simp only [dcB] at hc) <;> (try first|contradiction|(exfalso;omega)))
    repeat refine cr ?_
    refine ends_id ?_
    refine endK [] (h2 := ?_) (h3 := ?_) (nd := ?_)
    all_goals (repeat' first|exact ce0|refine ce ?_|refine ce2 ?_ ?_|exact SVLe.refl|refine ceb ?_)
    all_goals first | exact (show nodupB _ = true from rfl) | exact Or.inr rfl | (rfl)
  cases hd : isDgB (((s.getD (0 : Int).toNat 0).toNat : Nat) : Int) with
  | false =>
    have e : rdX s = (⟨0,0,0⟩,false) := by unfold rdX; rw [if_neg h3,if_pos (.inr (.inl hd))]
    rw [e]
    have hdn : ¬ isDgB (((s.getD (0 : Int).toNat 0).toNat : Nat) : Int) = true := by rw [hd]; decide
    refine does_of (k := 0) Tryz.func212 rfl Tryz.ntmps212 rfl rfl fun w F0 S0 ρ0 => ?_
    dsimp only [argT,argH]
    repeat' first|(apply n3;exact a_new (gb := .bx _) rfl;exact rfl;refine dA ?_)|(apply p3;(first|exact pu1|exact a_eqT rfl rfl|exact a_lenT rfl (fT rfl)|exact puC);exact rfl)|refine cd ?_|(apply w3;(exact a_st_bx rfl rfl rfl rfl (fN rfl rfl) (Nat.le_of_ble_eq_true rfl) rfl);exact rfl;refine dS ?_)|refine o_no rfl rfl rfl rfl ?_|(apply py3;exact rfl;exact rfl;(first|exact pu1|exact a_idxS rfl rfl (fT rfl) (by omega) bnd);exact rfl;exact rfl)|(apply cy4 0;exact rfl;exact rfl;exact callK1 (θ := []) (hD := (l01Digit_ok _));exact rfl;exact rfl;exact rfl;exact rfl;refine dM ?_)|((first|refine o_gs rfl rfl (fun hc => ?_) (fun hc => ?_)|refine g_cond rfl (fun hc => ?_) (fun hc => ?_)) <;> (try simp only [dcB] at hc) <;> (try first|contradiction|(exfalso;omega)))
    repeat refine cr ?_
    refine ends_id ?_
    refine endK [] (h2 := ?_) (h3 := ?_) (nd := ?_)
    all_goals (repeat' first|exact ce0|refine ce ?_|refine ce2 ?_ ?_|exact SVLe.refl|refine ceb ?_)
    all_goals first | exact (show nodupB _ = true from rfl) | exact Or.inr rfl | (rfl)
  | true =>
    have hdn : ¬ isDgB (((s.getD (0 : Int).toNat 0).toNat : Nat) : Int) = false := by rw [hd]; decide
    have hdu := (isDgB_iff _).1 hd
    unfold isDg at hdu
    have h2 : ((s.drop (2 : Int).toNat).length : Int) ≤ 1048576 := by rw [List.length_drop]; omega
    by_cases h76 : (((s.getD (1 : Int).toNat 0).toNat : Nat) : Int) = 76
    · cases hq : numS (s.drop (2 : Int).toNat) with
      | none =>
        have e : rdX s = (⟨(((s.getD 0 0).toNat : Nat) : Int) - 48,-1,0⟩,false) := by
          unfold rdX
          rw [if_neg h3,if_neg (by rintro (q | q | q); exact hl q; exact hdn q; exact q (.inl h76)),if_pos (show (((s.getD 1 0).toNat : Nat) : Int) = 76 from h76),show numS (s.drop 2) = none from hq]
          rfl
        rw [e]
        refine does_of (k := 0) Tryz.func212 rfl Tryz.ntmps212 rfl rfl fun w F0 S0 ρ0 => ?_
        dsimp only [argT,argH]
        repeat' first|(apply n3;exact a_new (gb := .bx _) rfl;exact rfl;refine dA ?_)|(apply p3;(first|exact pu1|exact a_eqT rfl rfl|exact a_lenT rfl (fT rfl)|exact puC|exact a_idxS rfl rfl (fT rfl) (by omega) bnd|exact a_slSl rfl rfl (fT rfl) (by omega) bnd|exact a_sub8 rfl rfl (by omega) (by omega)|exact a_of8 rfl Tryz.underlying5 Tryz.underlying2 (by omega) (by first|omega|exact byte_lt _)|exact a_cmp8 rfl rfl rfl trivial rfl);exact rfl)|refine cdn ?_|refine g_reg (id := 0) ?_|refine g_reg (id := 1) ?_|refine g_reg (id := 3) ?_|refine g_reg (id := 5) ?_|refine g_reg (id := 6) ?_|refine g_reg (id := 7) ?_|refine g_reg (id := 8) ?_|(apply w3;(exact a_st_bx rfl rfl rfl rfl (fN rfl rfl) (Nat.le_of_ble_eq_true rfl) rfl);exact rfl;refine dS ?_)|(apply c4 0;exact callK1 (θ := []) (hD := (l01Number_ok _ h2));exact rfl;exact rfl;exact rfl;refine dM ?_)|refine o_no rfl rfl rfl rfl ?_|(apply py3;exact rfl;exact rfl;(first|exact pu1|exact a_idxS rfl rfl (fT rfl) (by omega) bnd|exact a_ne8 rfl rfl);exact rfl;exact rfl)|(apply cy4 0;exact rfl;exact rfl;exact callK1 (θ := []) (hD := (l01Digit_ok _));exact rfl;exact rfl;exact rfl;exact rfl;refine dM ?_)|((first|refine o_gs rfl rfl (fun hc => ?_) (fun hc => ?_)|refine g_cond rfl (fun hc => ?_) (fun hc => ?_)) <;> (try simp only [dcB] at hc) <;> (try first|contradiction|(exfalso;omega)))
        simp only [hq,Option.isSome_none,Option.getD_none]
        repeat' first|(apply p3;(exact pu1);exact rfl)|refine cd ?_|(apply w3;(exact a_st_bx rfl rfl rfl rfl (fN rfl rfl) (Nat.le_of_ble_eq_true rfl) rfl);exact rfl;refine dS ?_)|refine o_no rfl rfl rfl rfl ?_
        repeat refine cr ?_
        refine ends_id ?_
        refine endK [] (h2 := ?_) (h3 := ?_) (nd := ?_)
        all_goals (repeat' first|exact ce0|refine ce ?_|refine ce2 ?_ ?_|exact SVLe.refl|refine ceb ?_)
        all_goals first | exact (show nodupB _ = true from rfl) | exact Or.inr rfl | (rfl)
      | some n =>
        have e : rdX s = (⟨(((s.getD 0 0).toNat : Nat) : Int) - 48,-1,n⟩,decide (0 ≤ n)) := by
          unfold rdX
          rw [if_neg h3,if_neg (by rintro (q | q | q); exact hl q; exact hdn q; exact q (.inl h76)),if_pos (show (((s.getD 1 0).toNat : Nat) : Int) = 76 from h76),show numS (s.drop 2) = some n from hq]
          simp
        rw [e]
        refine does_of (k := 0) Tryz.func212 rfl Tryz.ntmps212 rfl rfl fun w F0 S0 ρ0 => ?_
        dsimp only [argT,argH]
        repeat' first|(apply n3;exact a_new (gb := .bx _) rfl;exact rfl;refine dA ?_)|(apply p3;(first|exact pu1|exact a_eqT rfl rfl|exact a_lenT rfl (fT rfl)|exact puC|exact a_idxS rfl rfl (fT rfl) (by omega) bnd|exact a_slSl rfl rfl (fT rfl) (by omega) bnd|exact a_sub8 rfl rfl (by omega) (by omega)|exact a_of8 rfl Tryz.underlying5 Tryz.underlying2 (by omega) (by first|omega|exact byte_lt _)|exact a_cmp8 rfl rfl rfl trivial rfl);exact rfl)|refine cdn ?_|refine g_reg (id := 0) ?_|refine g_reg (id := 1) ?_|refine g_reg (id := 3) ?_|refine g_reg (id := 5) ?_|refine g_reg (id := 6) ?_|refine g_reg (id := 7) ?_|refine g_reg (id := 8) ?_|(apply w3;(exact a_st_bx rfl rfl rfl rfl (fN rfl rfl) (Nat.le_of_ble_eq_true rfl) rfl);exact rfl;refine dS ?_)|(apply c4 0;exact callK1 (θ := []) (hD := (l01Number_ok _ h2));exact rfl;exact rfl;exact rfl;refine dM ?_)|refine o_no rfl rfl rfl rfl ?_|(apply py3;exact rfl;exact rfl;(first|exact pu1|exact a_idxS rfl rfl (fT rfl) (by omega) bnd|exact a_ne8 rfl rfl);exact rfl;exact rfl)|(apply cy4 0;exact rfl;exact rfl;exact callK1 (θ := []) (hD := (l01Digit_ok _));exact rfl;exact rfl;exact rfl;exact rfl;refine dM ?_)|((first|refine o_gs rfl rfl (fun hc => ?_) (fun hc => ?_)|refine g_cond rfl (fun hc => ?_) (fun hc => ?_)) <;> (try simp only [dcB] at hc) <;> (try first|contradiction|(exfalso;omega)))
        simp only [hq,Option.isSome_some,Option.getD_some]
        repeat' first|(apply p3;(exact pu1);exact rfl)|refine cd ?_|(apply w3;(exact a_st_bx rfl rfl rfl rfl (fN rfl rfl) (Nat.le_of_ble_eq_true rfl) rfl);exact rfl;refine dS ?_)|(apply py3;exact rfl;exact rfl;(first|exact pu1|exact puC);exact rfl;exact rfl)
        repeat refine cr ?_
        refine ends_id ?_
        refine endK [] (h2 := ?_) (h3 := ?_) (nd := ?_)
        all_goals (repeat' first|exact ce0|refine ce ?_|refine ce2 ?_ ?_|exact SVLe.refl|refine ceb ?_)
        all_goals first | exact (show nodupB _ = true from rfl) | exact Or.inr rfl | (rfl)
    by_cases h82 : (((s.getD (1 : Int).toNat 0).toNat : Nat) : Int) = 82
    · cases hq : numS (s.drop (2 : Int).toNat) with
      | none =>
        have e : rdX s = (⟨(((s.getD 0 0).toNat : Nat) : Int) - 48,1,0⟩,false) := by
          unfold rdX
          rw [if_neg h3,if_neg (by rintro (q | q | q); exact hl q; exact hdn q; exact q (.inr h82)),if_neg (show ¬ (((s.getD 1 0).toNat : Nat) : Int) = 76 from h76),show numS (s.drop 2) = none from hq]
          rfl
        rw [e]
        refine does_of (k := 0) Tryz.func212 rfl Tryz.ntmps212 rfl rfl fun w F0 S0 ρ0 => ?_
        dsimp only [argT,argH]
        repeat' first|(apply n3;exact a_new (gb := .bx _) rfl;exact rfl;refine dA ?_)|(apply p3;(first|exact pu1|exact a_eqT rfl rfl|exact a_lenT rfl (fT rfl)|exact puC|exact a_idxS rfl rfl (fT rfl) (by omega) bnd|exact a_slSl rfl rfl (fT rfl) (by omega) bnd|exact a_sub8 rfl rfl (by omega) (by omega)|exact a_of8 rfl Tryz.underlying5 Tryz.underlying2 (by omega) (by first|omega|exact byte_lt _)|exact a_cmp8 rfl rfl rfl trivial rfl);exact rfl)|refine cdn ?_|refine g_reg (id := 0) ?_|refine g_reg (id := 1) ?_|refine g_reg (id := 3) ?_|refine g_reg (id := 5) ?_|refine g_reg (id := 6) ?_|refine g_reg (id := 7) ?_|(apply w3;(exact a_st_bx rfl rfl rfl rfl (fN rfl rfl) (Nat.le_of_ble_eq_true rfl) rfl);exact rfl;refine dS ?_)|(apply c4 0;exact callK1 (θ := []) (hD := (l01Number_ok _ h2));exact rfl;exact rfl;exact rfl;refine dM ?_)|(apply py3;exact rfl;exact rfl;(first|exact pu1|exact a_idxS rfl rfl (fT rfl) (by omega) bnd|exact a_ne8 rfl rfl);exact rfl;exact rfl)|(apply cy4 0;exact rfl;exact rfl;exact callK1 (θ := []) (hD := (l01Digit_ok _));exact rfl;exact rfl;exact rfl;exact rfl;refine dM ?_)|((first|refine o_gs rfl rfl (fun hc => ?_) (fun hc => ?_)|refine g_cond rfl (fun hc => ?_) (fun hc => ?_)) <;> (try simp only [dcB] at hc) <;> (try first|contradiction|(exfalso;omega)))
        simp only [hq,Option.isSome_none,Option.getD_none]
        repeat' first|(apply p3;(exact pu1);exact rfl)|refine cd ?_|(apply w3;(exact a_st_bx rfl rfl rfl rfl (fN rfl rfl) (Nat.le_of_ble_eq_true rfl) rfl);exact rfl;refine dS ?_)|refine o_no rfl rfl rfl rfl ?_
        repeat refine cr ?_
        refine ends_id ?_
        refine endK [] (h2 := ?_) (h3 := ?_) (nd := ?_)
        all_goals (repeat' first|exact ce0|refine ce ?_|refine ce2 ?_ ?_|exact SVLe.refl|refine ceb ?_)
        all_goals first | exact (show nodupB _ = true from rfl) | exact Or.inr rfl | (rfl)
      | some n =>
        have e : rdX s = (⟨(((s.getD 0 0).toNat : Nat) : Int) - 48,1,n⟩,decide (0 ≤ n)) := by
          unfold rdX
          rw [if_neg h3,if_neg (by rintro (q | q | q); exact hl q; exact hdn q; exact q (.inr h82)),if_neg (show ¬ (((s.getD 1 0).toNat : Nat) : Int) = 76 from h76),show numS (s.drop 2) = some n from hq]
          simp
        rw [e]
        refine does_of (k := 0) Tryz.func212 rfl Tryz.ntmps212 rfl rfl fun w F0 S0 ρ0 => ?_
        dsimp only [argT,argH]
        repeat' first|(apply n3;exact a_new (gb := .bx _) rfl;exact rfl;refine dA ?_)|(apply p3;(first|exact pu1|exact a_eqT rfl rfl|exact a_lenT rfl (fT rfl)|exact puC|exact a_idxS rfl rfl (fT rfl) (by omega) bnd|exact a_slSl rfl rfl (fT rfl) (by omega) bnd|exact a_sub8 rfl rfl (by omega) (by omega)|exact a_of8 rfl Tryz.underlying5 Tryz.underlying2 (by omega) (by first|omega|exact byte_lt _)|exact a_cmp8 rfl rfl rfl trivial rfl);exact rfl)|refine cdn ?_|refine g_reg (id := 0) ?_|refine g_reg (id := 1) ?_|refine g_reg (id := 3) ?_|refine g_reg (id := 5) ?_|refine g_reg (id := 6) ?_|refine g_reg (id := 7) ?_|(apply w3;(exact a_st_bx rfl rfl rfl rfl (fN rfl rfl) (Nat.le_of_ble_eq_true rfl) rfl);exact rfl;refine dS ?_)|(apply c4 0;exact callK1 (θ := []) (hD := (l01Number_ok _ h2));exact rfl;exact rfl;exact rfl;refine dM ?_)|(apply py3;exact rfl;exact rfl;(first|exact pu1|exact a_idxS rfl rfl (fT rfl) (by omega) bnd|exact a_ne8 rfl rfl);exact rfl;exact rfl)|(apply cy4 0;exact rfl;exact rfl;exact callK1 (θ := []) (hD := (l01Digit_ok _));exact rfl;exact rfl;exact rfl;exact rfl;refine dM ?_)|((first|refine o_gs rfl rfl (fun hc => ?_) (fun hc => ?_)|refine g_cond rfl (fun hc => ?_) (fun hc => ?_)) <;> (try simp only [dcB] at hc) <;> (try first|contradiction|(exfalso;omega)))
        simp only [hq,Option.isSome_some,Option.getD_some]
        repeat' first|(apply p3;(exact pu1);exact rfl)|refine cd ?_|(apply w3;(exact a_st_bx rfl rfl rfl rfl (fN rfl rfl) (Nat.le_of_ble_eq_true rfl) rfl);exact rfl;refine dS ?_)|(apply py3;exact rfl;exact rfl;(first|exact pu1|exact puC);exact rfl;exact rfl)
        repeat refine cr ?_
        refine ends_id ?_
        refine endK [] (h2 := ?_) (h3 := ?_) (nd := ?_)
        all_goals (repeat' first|exact ce0|refine ce ?_|refine ce2 ?_ ?_|exact SVLe.refl|refine ceb ?_)
        all_goals first | exact (show nodupB _ = true from rfl) | exact Or.inr rfl | (rfl)
    · have e : rdX s = (⟨0,0,0⟩,false) := by unfold rdX; rw [if_neg h3,if_pos (.inr (.inr (fun q => q.elim h76 h82)))]
      rw [e]
      refine does_of (k := 0) Tryz.func212 rfl Tryz.ntmps212 rfl rfl fun w F0 S0 ρ0 => ?_
      dsimp only [argT,argH]
      repeat' first|(apply n3;exact a_new (gb := .bx _) rfl;exact rfl;refine dA ?_)|(apply p3;(first|exact pu1|exact a_eqT rfl rfl|exact a_lenT rfl (fT rfl)|exact puC);exact rfl)|refine cd ?_|(apply w3;(exact a_st_bx rfl rfl rfl rfl (fN rfl rfl) (Nat.le_of_ble_eq_true rfl) rfl);exact rfl;refine dS ?_)|(apply py3;exact rfl;exact rfl;(first|exact pu1|exact a_idxS rfl rfl (fT rfl) (by omega) bnd|exact a_ne8 rfl rfl);exact rfl;exact rfl)|(apply cy4 0;exact rfl;exact rfl;exact callK1 (θ := []) (hD := (l01Digit_ok _));exact rfl;exact rfl;exact rfl;exact rfl;refine dM ?_)|((first|refine o_gs rfl rfl (fun hc => ?_) (fun hc => ?_)|refine g_cond rfl (fun hc => ?_) (fun hc => ?_)) <;> (try simp only [dcB] at hc) <;> (try first|contradiction|(exfalso;omega)))
      repeat refine cr ?_
      refine ends_id ?_
      refine endK [] (h2 := ?_) (h3 := ?_) (nd := ?_)
      all_goals (repeat' first|exact ce0|refine ce ?_|refine ce2 ?_ ?_|exact SVLe.refl|refine ceb ?_)
      all_goals first | exact (show nodupB _ = true from rfl) | exact Or.inr rfl | (rfl)
end Go.Proofs.YtighjcjmacajoaaGreatDoor
end
section
set_option linter.unusedVariables false
set_option linter.unusedSimpArgs false
set_option maxRecDepth 100000
set_option maxHeartbeats 4000000
namespace Go.Proofs.YtighjcjmacajoaaGreatDoor
open Go Foot Go.RowKit
theorem preB129 {p : Prop} (h : p := by first | with_reducible assumption | omega | (simp only [List.length_append,List.length_cons,List.length_nil,List.length_set,List.length_replicate,List.length_take,List.length_drop,List.length_tail,List.length_dropLast,List.length_reverse] at *; omega) | exact mem_len (by assumption) (by omega) | (with_reducible refine Int.le_trans (Int.ofNat_le.2 (trimR_len _)) ?_; simp only [List.length_cons,List.length_tail]; omega) | (exact (ruAt_ok (by assumption) (by assumption) (by assumption)).2.1) | (exact (ruAt_ok (by assumption) (by assumption) (by assumption)).2.1) | (have := vMach_bd (by assumption); omega) | (simp only [mC_ch,mC_tu]; omega) | (have := vTag_bd (by assumption); omega) | (have := (‹Gd _ _›).le; omega) | (exact tgHalts_no (by assumption)) | (exact tgHead (by assumption) (by assumption) (by assumption)) | (exact Int.le_trans (tgStep_gd (by assumption) (by assumption) (by assumption) (by assumption)).le (by decide)) | (exact vTag_r (by assumption)) | (with_reducible refine Int.le_trans (Int.ofNat_le.2 (pushL_len _ _)) ?_; simp only [List.length_dropLast]; omega) | exact ls_at (by assumption) (by omega) | exact pt_gd (by assumption) | exact lv_at (by assumption) (by omega) | exact pt_gd (lv_at (by assumption) (by omega)) | exact (ask_ok (by assumption)).1 | exact (ask_ok (by assumption)).2.1 | exact (ask_ok (by assumption)).2.2.1 | exact (ask_ok (by assumption)).2.2.2 | trivial) : p := h
theorem sizeS_ok (l : List Bs) (hl : (l.length : Int) ≤ 16777216) : Does Tryz.prog 152 [.one (shS l)] [] (.one (int l.length)) [] := by
  refine does_of (k := 0) Tryz.func152 rfl Tryz.ntmps152 rfl rfl fun w F0 S0 ρ0 => ?_
  dsimp only [argT,argH]
  repeat' first|(apply p3;(first|exact pu1|exact puN);exact rfl)|refine cd ?_
  repeat refine cr ?_
  refine ends_id ?_
  refine endK [] (h2 := ?_) (h3 := ?_) (nd := ?_)
  all_goals (repeat' first|exact ce0|refine ce ?_|refine ce2 ?_ ?_|exact SVLe.refl|refine ceb ?_)
  all_goals first | exact (show nodupB _ = true from rfl) | exact Or.inr rfl | (rfl)
def rwR (rows : List Bs) : List Rule' := rows.flatMap fun r => (spl 44 r).map rdR
def lstN (rows : List Bs) : Int := match rows.getLast? with
  | none => 0
  | some r => (spl 44 r).length
@[irreducible] def mrI (s : Bs) : Mach := ⟨lstN (spl 59 s),(spl 59 s).length,rwR (spl 59 s)⟩
theorem rwR_snoc (rows : List Bs) (r : Bs) : rwR (rows ++ [r]) = rwR rows ++ (spl 44 r).map rdR := by unfold rwR; rw [List.flatMap_append,List.flatMap_singleton]
theorem lstN_snoc (rows : List Bs) (r : Bs) : lstN (rows ++ [r]) = (spl 44 r).length := by unfold lstN; rw [List.getLast?_concat]
theorem spl_tot (c : UInt8) : ∀ s : Bs,((spl c s).map List.length).sum + (spl c s).length = s.length + 1
  | [] => by simp [spl]
  | x :: s => by
    have ih := spl_tot c s
    rw [spl]
    split
    · simp only [List.map_cons,List.sum_cons,List.length_cons,List.length_nil]; omega
    · split
      · next e => exact absurd e (spl_ne c s)
      · next p r e =>
        rw [e] at ih
        simp only [List.map_cons,List.sum_cons,List.length_cons] at ih ⊢
        omega
theorem rwR_len : ∀ (rows : List Bs),(rwR rows).length ≤ (rows.map List.length).sum + rows.length
  | [] => by simp [rwR]
  | r :: rows => by
    have ih := rwR_len rows
    have h1 := spl_len 44 r
    unfold rwR at ih ⊢
    rw [List.flatMap_cons,List.length_append,List.length_map,List.map_cons,List.sum_cons,List.length_cons]
    omega
theorem rwR_le (s : Bs) : (rwR (spl 59 s)).length ≤ s.length + 1 := by
  have h1 := rwR_len (spl 59 s)
  have h2 := spl_tot 59 s
  omega
theorem rwR_take (rows : List Bs) (i : Nat) : (rwR (rows.take i)).length ≤ (rwR rows).length := by
  conv => rhs; rw [← List.take_append_drop i rows]
  unfold rwR
  rw [List.flatMap_append,List.length_append]
  omega
theorem ReadMachineI_ok (s : Bs) (hs : (s.length : Int) ≤ 1048576) (b : Bool) (hb : b = (vMach (mrI s) && decide (macT (mrI s) = s))) : Does Tryz.prog 88 [.one (str s)] [] (.tup [(true,[int (if b = true then (mrI s).sy else 0),int (if b = true then (mrI s).st else 0),.gv 0]),(false,[boo b])]) [.row 3 (rows eR (if b = true then (mrI s).ru else []))] := by
  obtain ⟨ps,eps⟩ : ∃ ps,ps = spl 59 s := ⟨_,rfl⟩
  have hpl := spl_len 59 s
  have hpe := spl_el 59 s
  have hrl := rwR_le s
  have em : mrI s = ⟨lstN ps,ps.length,rwR ps⟩ := by unfold mrI; rw [eps]
  rw [← eps] at hpl hpe hrl
  refine does_of (k := 0) Tryz.func88 rfl Tryz.ntmps88 rfl rfl fun w F0 S0 ρ0 => ?_
  dsimp only [argT,argH]
  repeat' first|(apply n3;exact a_new (gb := .bx _) rfl;exact rfl;refine dA ?_)|(apply p3;exact pu1;exact rfl)|refine cdn ?_|refine g_reg (id := 0) ?_|refine g_reg (id := 1) ?_|(apply c4 1;exact callK1 (θ := []) (hD := (Split_ok s 59 hs));exact rfl;exact rfl;exact rfl;refine dM ?_)
  rw [← eps]
  refine g_conv (t_nilB (i := 0) (k := 2) (z := 3) rfl rfl rfl (by decide)) ?_
  try dsimp only [setRow,List.map_cons,List.map_nil,scC,List.set_cons_zero,List.set_cons_succ,Nat.reduceAdd]
  repeat' first|(apply n3;exact a_new (gb := .bx _) rfl;exact rfl;refine dA ?_)|(apply p3;(first|exact pu1|exact puN);exact rfl)|refine cd ?_|(apply w3;(exact a_st_bx rfl rfl rfl rfl (fN rfl rfl) (Nat.le_of_ble_eq_true rfl) rfl);exact rfl;refine dS ?_)|(apply c4 0;exact callK1 (θ := []) (hD := (sizeS_ok _ preB129));exact rfl;exact rfl;exact rfl;refine dM ?_)
  try simp only [setRow,List.map_cons,List.map_nil,scC,List.set_cons_zero,List.set_cons_succ,Nat.zero_add,List.getElem?_cons_zero,List.getElem?_cons_succ,List.take_succ_cons,List.take_zero,List.drop_zero]
  refine g_conv (t_nilB (i := 3) (k := 2) (z := 3) rfl rfl rfl (by decide)) ?_
  try dsimp only [setRow,List.map_cons,List.map_nil,scC,List.set_cons_zero,List.set_cons_succ,Nat.reduceAdd]
  refine g_loop_id ?_
  refine loopK [0,2,3,5,16,17] [3,4] (fun y : Int × Int × List Rule' => 0 ≤ y.1 ∧ y.1 ≤ ps.length ∧ y.2.1 = lstN (ps.take y.1.toNat) ∧ y.2.2 = rwR (ps.take y.1.toNat)) (fun y => [(18,.one (int y.1))]) (fun y => [(3,.bx [int y.2.1,int ps.length,.gv 4]),(4,.row 3 (rows eR y.2.2))]) (fun y => (ps.length - y.1).toNat) ((0 : Int),(0 : Int),([] : List Rule')) [0,1,2,3,4] (hI := ?_) (hr := ?_)
  · exact ⟨by simp,by simp,by simp [lstN],by simp [rwR]⟩
  · rintro ⟨i,sy,l⟩ ⟨h0,h1,h2,h3⟩
    dsimp only [List.cons_append,List.nil_append] at *
    skip
    repeat' first|(apply p3;(first|exact pu1|exact puC|exact a_ld_rowS rfl rfl rfl (fC rfl) bnd|exact puI);exact rfl)|refine cdn ?_|refine g_reg (id := 4) ?_|refine g_reg (id := 5) ?_|refine g_reg (id := 14) ?_|((refine g_cond rfl (fun hc => ?_) (fun hc => ?_)) <;> (try simp only [dcB] at hc) <;> (try first|contradiction|(exfalso;omega)))
    · have hi : i.toNat < ps.length := by omega
      have hx := (hpe _ (List.getElem_mem hi)).1
      have hx1 : ((ps[i.toNat]'hi).length : Int) ≤ 1048576 := by omega
      have hcl := spl_len 44 (ps[i.toNat]'hi)
      have hce := spl_el 44 (ps[i.toNat]'hi)
      obtain ⟨cs,ecs⟩ : ∃ cs,cs = spl 44 (ps[i.toNat]'hi) := ⟨_,rfl⟩
      rw [← ecs] at hcl hce
      have hnext : rwR (ps.take (i + 1).toNat) = l ++ cs.map rdR := by
        rw [show (i + 1).toNat = i.toNat + 1 by omega,List.take_succ_eq_append_getElem hi,rwR_snoc,← h3,ecs]
      have hnlst : lstN (ps.take (i + 1).toNat) = cs.length := by
        rw [show (i + 1).toNat = i.toNat + 1 by omega,List.take_succ_eq_append_getElem hi,lstN_snoc,ecs]
      have hll := rwR_take ps (i + 1).toNat
      rw [hnext,List.length_append,List.length_map] at hll
      simp only [Nat.mul_one]
      repeat' first|(apply p3;(exact pu1);exact rfl)|refine cdn ?_|refine g_reg (id := 6) ?_|(apply c4 1;exact callK1 (θ := []) (hD := (Split_ok (ps[i.toNat]'hi) 44 hx1));exact rfl;exact rfl;exact rfl;refine dM ?_)
      rw [← ecs]
      repeat' first|(apply p3;(first|exact pu1|exact puN);exact rfl)|refine cd ?_|(apply w3;(exact a_st_bx rfl rfl rfl rfl (fN rfl rfl) (Nat.le_of_ble_eq_true rfl) rfl);exact rfl;refine dS ?_)|(apply c4 0;exact callK1 (θ := []) (hD := (sizeS_ok _ preB129));exact rfl;exact rfl;exact rfl;refine dM ?_)
      try simp only [setRow,List.map_cons,List.map_nil,scC,List.set_cons_zero,List.set_cons_succ,Nat.zero_add,List.getElem?_cons_zero,List.getElem?_cons_succ,List.take_succ_cons,List.take_zero,List.drop_zero]
      refine g_loop_id ?_
      refine loopK [0,2,3,5,7,8,16,17,18,19,20,21,22,23,24,25,26,27,28] [3,4] (fun z : Int × List Rule' => 0 ≤ z.1 ∧ z.1 ≤ cs.length ∧ z.2 = l ++ (cs.take z.1.toNat).map rdR) (fun z => [(29,.one (int z.1))]) (fun z => [(3,.bx [int cs.length,int ps.length,.gv 4]),(4,.row 3 (rows eR z.2))]) (fun z => (cs.length - z.1).toNat) ((0 : Int),l) [0,1,2,3,4,5] (hI := ?_) (hr := ?_)
      · exact ⟨by simp,by simp,by simp⟩
      · rintro ⟨j,u⟩ ⟨j0,j1,j2⟩
        dsimp only [List.cons_append,List.nil_append] at *
        skip
        repeat' first|(apply p3;(first|exact pu1|exact puC|exact a_ld_rowS rfl rfl rfl (fC rfl) bnd|exact a_add rfl rfl (by omega) (by omega)|exact puI);exact rfl)|refine cdn ?_|refine g_reg (id := 9) ?_|refine g_reg (id := 10) ?_|refine g_reg (id := 13) ?_|((refine g_cond rfl (fun hc => ?_) (fun hc => ?_)) <;> (try simp only [dcB] at hc) <;> (try first|contradiction|(exfalso;omega)))
        · have hj : j.toNat < cs.length := by omega
          have hy := (hce _ (List.getElem_mem hj)).1
          have hy1 : ((cs[j.toNat]'hj).length : Int) ≤ 1048576 := by omega
          have hul : (u.length : Int) ≤ 16777216 := by rw [j2,List.length_append,List.length_map,List.length_take]; omega
          simp only [Nat.mul_one]
          repeat' first|(apply p3;(first|exact pu1|exact a_add rfl rfl (by omega) (by omega));exact rfl)|refine cd ?_|(apply g_drN (id := 11) okM [[],[0],[],[2],[2,3],[0,1,2,3,4],[0,1,2,3,4,5],[0,1,2,3,4,5,6]] [([],[]),([],[]),([],[]),([],[]),([0],[]),([1],[4]),([],[]),([],[3])] 2;(focus (refine dp 0 0 [35,36,37] [(true,0)] (a_pure (sv := .one _) rfl) ?_;refine dp 1 1 [35,36,37] [(true,0)] puL ?_;refine dp 2 0 [33,34] [] pu1 ?_;refine dp 3 1 [33,34] [] (callD1 (n := _) 0 (θ := []) (hD := (readRule_ok (cs[j.toNat]'hj) hy1))) ?_;refine duE 4 3 [33,34] [] (atN 0 (fun _ => a_litE eR [⟨_,_,_⟩] rfl rfl rfl rfl rfl rfl rfl rfl)) (by exact rfl) (by exact rfl) ?_;refine duE 5 31 [] [] (atS 1 (fun _ hj => a_appE (fP rfl) rfl rfl rfl rfl nowR (by (simp;omega)) (by decide) hj (by exact rfl)) (by decide)) (by exact rfl) (by exact rfl) ?_;refine dp 6 63 [] [] (a_pure (sv := .one _) rfl) ?_;refine duE 7 127 [] [] (a_st_bx rfl rfl rfl rfl (fN rfl rfl) (Nat.le_of_ble_eq_true rfl) rfl) (by exact rfl) (by exact rfl) ?_;(refine d_nil ?_;refine dN ?_)));any_goals kernel_rfl)
          try simp only [setRow,List.map_cons,List.map_nil,scC,List.set_cons_zero,List.set_cons_succ,Nat.zero_add,List.getElem?_cons_zero,List.getElem?_cons_succ,List.take_succ_cons,List.take_zero,List.drop_zero]
          refine q_again (j + 1,u ++ [rdR (cs[j.toNat]'hj)]) [0,1,2,3,7,5] (by exact stk) ?_ ?_
          · refine ⟨by dsimp only; omega,by dsimp only; omega,?_⟩
            dsimp only
            rw [j2,show (j + 1).toNat = j.toNat + 1 by omega,List.take_succ_eq_append_getElem hj,List.map_append,List.append_assoc]
            rfl
          · dsimp only; omega
        · have hju : u = l ++ cs.map rdR := by rw [j2,List.take_of_length_le (by omega)]
          subst hju
          refine q_again (i + 1,cs.length,l ++ cs.map rdR) [0,1,2,3,4] (by exact stk) ?_ ?_
          · exact ⟨by dsimp only; omega,by dsimp only; omega,hnlst.symm,hnext.symm⟩
          · dsimp only; omega
    · have hin : i = ps.length := by omega
      rw [List.take_of_length_le (by omega)] at h2 h3
      subst h2 h3
      have hM : ((rwR ps).length : Int) ≤ 16777216 := by omega
      try simp only [setRow,List.map_cons,List.map_nil,scC,List.set_cons_zero,List.set_cons_succ,Nat.zero_add,List.getElem?_cons_zero,List.getElem?_cons_succ,List.take_succ_cons,List.take_zero,List.drop_zero]
      rw [em] at hb ⊢
      cases hv : vMach ⟨lstN ps,(ps.length : Int),rwR ps⟩ with
      | false =>
        have hvn : ¬ vMach ⟨lstN ps,(ps.length : Int),rwR ps⟩ = true := by rw [hv]; decide
        rw [hv,Bool.false_and] at hb
        subst hb
        simp only [Bool.false_eq_true,if_false]
        repeat' first|(apply p3;(exact pu1);exact rfl)|refine cd ?_|(apply w3;(exact a_st_bx rfl rfl rfl rfl (fN rfl rfl) (Nat.le_of_ble_eq_true rfl) rfl);exact rfl;refine dS ?_)|(apply c4 0;exact callK1 (θ := []) (hD := (ValidMachine_ok ⟨lstN ps,(ps.length : Int),rwR ps⟩ hM));exact rfl;exact rfl;exact rfl;refine dM ?_)|refine o_no rfl rfl rfl rfl ?_|((refine o_gs rfl rfl (fun hc => ?_) (fun hc => ?_)) <;> (try simp only [dcB] at hc) <;> (try first|contradiction|(exfalso;omega)))
        refine g_conv (t_nilB (i := 0) (k := 2) (z := 3) rfl rfl rfl (by decide)) ?_
        try dsimp only [setRow,List.map_cons,List.map_nil,scC,List.set_cons_zero,List.set_cons_succ,Nat.reduceAdd]
        repeat refine cr ?_
        refine ends_id ?_
        refine endK [?_] (h2 := ?_) (h3 := ?_) (nd := ?_)
        rotate_left 1
        all_goals (repeat' first|exact ce0|refine ce ?_|refine ce2 ?_ ?_|(refine Or.inr (bx_eq rfl rfl ?_);(try dsimp only [C.ren,C.ren.all]);(try exact rfl))|exact SVLe.refl|refine ceb ?_)
        all_goals first | exact (show nodupB _ = true from rfl) | exact Or.inr rfl | (rfl)
      | true =>
        have hvn : ¬ vMach ⟨lstN ps,(ps.length : Int),rwR ps⟩ = false := by rw [hv]; decide
        rw [hv,Bool.true_and] at hb
        by_cases ht : macT ⟨lstN ps,(ps.length : Int),rwR ps⟩ = s
        · rw [decide_eq_true ht] at hb
          subst hb
          simp only [if_true]
          repeat' first|(apply p3;(exact pu1);exact rfl)|refine cd ?_|(apply w3;(exact a_st_bx rfl rfl rfl rfl (fN rfl rfl) (Nat.le_of_ble_eq_true rfl) rfl);exact rfl;refine dS ?_)|(apply c4 0;exact callK1 (θ := []) (hD := (ValidMachine_ok ⟨lstN ps,(ps.length : Int),rwR ps⟩ hM));exact rfl;exact rfl;exact rfl;refine dM ?_)|(apply py3;exact rfl;exact rfl;(first|exact pu1|exact a_neT rfl rfl);exact rfl;exact rfl)|(apply cy4 0;exact rfl;exact rfl;exact callK1 (θ := []) (hD := (MachineText_ok ⟨lstN ps,(ps.length : Int),rwR ps⟩ hv));exact rfl;exact rfl;exact rfl;exact rfl;refine dM ?_)|((first|refine o_gs rfl rfl (fun hc => ?_) (fun hc => ?_)|refine g_cond rfl (fun hc => ?_) (fun hc => ?_)) <;> (try simp only [dcB] at hc) <;> (try first|contradiction|(exfalso;omega)))
          repeat refine cr ?_
          refine ends_id ?_
          refine endK [?_] (h2 := ?_) (h3 := ?_) (nd := ?_)
          rotate_left 1
          all_goals (repeat' first|exact ce0|refine ce ?_|refine ce2 ?_ ?_|(refine Or.inr (bx_eq rfl rfl ?_);(try dsimp only [C.ren,C.ren.all]);(try exact rfl))|exact SVLe.refl|refine ceb ?_)
          all_goals first | exact (show nodupB _ = true from rfl) | exact Or.inr rfl | (rfl)
        · rw [decide_eq_false ht] at hb
          subst hb
          simp only [Bool.false_eq_true,if_false]
          repeat' first|(apply p3;(exact pu1);exact rfl)|refine cd ?_|(apply w3;(exact a_st_bx rfl rfl rfl rfl (fN rfl rfl) (Nat.le_of_ble_eq_true rfl) rfl);exact rfl;refine dS ?_)|(apply c4 0;exact callK1 (θ := []) (hD := (ValidMachine_ok ⟨lstN ps,(ps.length : Int),rwR ps⟩ hM));exact rfl;exact rfl;exact rfl;refine dM ?_)|(apply py3;exact rfl;exact rfl;(first|exact pu1|exact a_neT rfl rfl);exact rfl;exact rfl)|(apply cy4 0;exact rfl;exact rfl;exact callK1 (θ := []) (hD := (MachineText_ok ⟨lstN ps,(ps.length : Int),rwR ps⟩ hv));exact rfl;exact rfl;exact rfl;exact rfl;refine dM ?_)|((first|refine o_gs rfl rfl (fun hc => ?_) (fun hc => ?_)|refine g_cond rfl (fun hc => ?_) (fun hc => ?_)) <;> (try simp only [dcB] at hc) <;> (try first|contradiction|(exfalso;omega)))
          refine g_conv (t_nilB (i := 0) (k := 2) (z := 3) rfl rfl rfl (by decide)) ?_
          try dsimp only [setRow,List.map_cons,List.map_nil,scC,List.set_cons_zero,List.set_cons_succ,Nat.reduceAdd]
          repeat refine cr ?_
          refine ends_id ?_
          refine endK [?_] (h2 := ?_) (h3 := ?_) (nd := ?_)
          rotate_left 1
          all_goals (repeat' first|exact ce0|refine ce ?_|refine ce2 ?_ ?_|(refine Or.inr (bx_eq rfl rfl ?_);(try dsimp only [C.ren,C.ren.all]);(try exact rfl))|exact SVLe.refl|refine ceb ?_)
          all_goals first | exact (show nodupB _ = true from rfl) | exact Or.inr rfl | (rfl)
end Go.Proofs.YtighjcjmacajoaaGreatDoor
end
section
set_option linter.unusedVariables false
set_option linter.unusedSimpArgs false
set_option maxRecDepth 100000
set_option maxHeartbeats 4000000
namespace Go.Proofs.YtighjcjmacajoaaGreatDoor
open Go Foot Go.RowKit
@[irreducible] def gdRow (sy : Int) (r : Bs) : Bool := decide (((spl 44 r).length : Int) = sy) && (spl 44 r).all fun c => (rdX c).2
def rwX (rows : List Bs) : List Rule' := rows.flatMap fun r => (spl 44 r).map fun c => (rdX c).1
def fstN (rows : List Bs) : Int := match rows with
  | [] => 0
  | r :: _ => (spl 44 r).length
@[irreducible] def mrX (s : Bs) : Mach := ⟨fstN (spl 59 s),(spl 59 s).length,rwX (spl 59 s)⟩
@[irreducible] def mkX (s : Bs) : Bool := decide (((spl 59 s).length : Int) ≤ 1000) && ((spl 59 s).all (gdRow (fstN (spl 59 s))) && vMach (mrX s))
theorem rwX_snoc (rows : List Bs) (r : Bs) : rwX (rows ++ [r]) = rwX rows ++ (spl 44 r).map fun c => (rdX c).1 := by unfold rwX; rw [List.flatMap_append,List.flatMap_singleton]
theorem rwX_len (rows : List Bs) : (rwX rows).length = (rwR rows).length := by
  unfold rwX rwR
  induction rows with
  | nil => rfl
  | cons r rows ih => rw [List.flatMap_cons,List.flatMap_cons,List.length_append,List.length_append,ih,List.length_map,List.length_map]
theorem all_take_snoc {α : Type} {p : α → Bool} {l : List α} {i : Nat} (h : i < l.length) (h1 : (l.take i).all p = true) (h2 : p l[i] = true) : (l.take (i + 1)).all p = true := by
  rw [List.take_succ_eq_append_getElem h,List.all_append,h1]
  simp [h2]
theorem all_bad {α : Type} {p : α → Bool} {l : List α} {i : Nat} (h : i < l.length) (h2 : p l[i] = false) : l.all p = false := by
  rw [Bool.eq_false_iff]
  intro q
  have := List.all_eq_true.1 q _ (List.getElem_mem h)
  rw [h2] at this
  cases this
theorem ReadMachineS_ok (s : Bs) (hs : (s.length : Int) ≤ 1048576) (b : Bool) (hb : b = mkX s) : Does Tryz.prog 148 [.one (str s)] [] (.tup [(true,[int (if b = true then (mrX s).sy else 0),int (if b = true then (mrX s).st else 0),.gv 0]),(false,[boo b])]) [.row 3 (rows eR (if b = true then (mrX s).ru else []))] := by
  obtain ⟨ps,eps⟩ : ∃ ps,ps = spl 59 s := ⟨_,rfl⟩
  have hpl := spl_len 59 s
  have hpe := spl_el 59 s
  have hpn := spl_ne 59 s
  have hrl := rwR_le s
  have em : mrX s = ⟨fstN ps,ps.length,rwX ps⟩ := by unfold mrX; rw [eps]
  unfold mkX at hb
  rw [← eps] at hpl hpe hrl hpn hb
  rw [← rwX_len] at hrl
  have hp0 : 0 < ps.length := List.length_pos_iff.2 hpn
  by_cases h1000 : (ps.length : Int) ≤ 1000
  · rw [decide_eq_true h1000,Bool.true_and] at hb
    have hz0 := (hpe _ (List.getElem_mem hp0)).1
    have hz1 : ((ps[(0 : Int).toNat * 1]'hp0).length : Int) ≤ 1048576 := by show ((ps[0]'hp0).length : Int) ≤ 1048576; omega
    have hf : ((spl 44 (ps[(0 : Int).toNat * 1]'hp0)).length : Int) = fstN ps := by
      show ((spl 44 (ps[0]'hp0)).length : Int) = fstN ps
      cases ps with
      | nil => simp at hp0
      | cons r l => rfl
    refine does_of (k := 0) Tryz.func148 rfl Tryz.ntmps148 rfl rfl fun w F0 S0 ρ0 => ?_
    dsimp only [argT,argH]
    repeat' first|(apply n3;exact a_new (gb := .bx _) rfl;exact rfl;refine dA ?_)|(apply p3;exact pu1;exact rfl)|refine cdn ?_|refine g_reg (id := 0) ?_|refine g_reg (id := 1) ?_|(apply c4 1;exact callK1 (θ := []) (hD := (l01Split_ok s 59 hs));exact rfl;exact rfl;exact rfl;refine dM ?_)
    rw [← eps]
    repeat' first|(apply n3;exact a_new (gb := .bx _) rfl;exact rfl;refine dA ?_)|(apply p3;(first|exact pu1|exact puN|exact puC|exact a_ld_rowS rfl rfl rfl (fC rfl) bnd|exact puI);exact rfl)|refine cdn ?_|refine g_reg (id := 2) ?_|refine g_reg (id := 4) ?_|(apply w3;(exact a_st_bx rfl rfl rfl rfl (fN rfl rfl) (Nat.le_of_ble_eq_true rfl) rfl);exact rfl;refine dS ?_)|(apply c4 1;exact callK1 (θ := []) (hD := (l01Split_ok _ 44 hz1));exact rfl;exact rfl;exact rfl;refine dM ?_)|((refine g_cond rfl (fun hc => ?_) (fun hc => ?_)) <;> (try simp only [dcB] at hc) <;> (try first|contradiction|(exfalso;omega)))
    refine g_conv (t_nilB (i := 3) (k := 2) (z := 3) rfl rfl rfl (by decide)) ?_
    try dsimp only [setRow,List.map_cons,List.map_nil,scC,List.set_cons_zero,List.set_cons_succ,Nat.reduceAdd]
    try simp only [setRow,List.map_cons,List.map_nil,scC,List.set_cons_zero,List.set_cons_succ,Nat.zero_add,List.getElem?_cons_zero,List.getElem?_cons_succ,List.take_succ_cons,List.take_zero,List.drop_zero]
    rw [hf]
    repeat' first|(apply p3;(exact pu1);exact rfl)|refine cd ?_
    refine g_loop_id ?_
    refine loopK [2,3,4,5] [3,4] (fun y : Int × List Rule' => 0 ≤ y.1 ∧ y.1 ≤ ps.length ∧ (ps.take y.1.toNat).all (gdRow (fstN ps)) = true ∧ y.2 = rwX (ps.take y.1.toNat)) (fun y => [(6,.one (int y.1))]) (fun y => [(3,.bx [int (fstN ps),int ps.length,.gv 4]),(4,.row 3 (rows eR y.2))]) (fun y => (ps.length - y.1).toNat) ((0 : Int),([] : List Rule')) [0,1,2,3,4] (hI := ?_) (hr := ?_)
    · exact ⟨by simp,by simp,by simp,by simp [rwX]⟩
    · rintro ⟨i,l⟩ ⟨h0,h1,h2,h3⟩
      dsimp only [List.cons_append,List.nil_append] at *
      skip
      repeat' first|(apply p3;(first|exact pu1|exact puN|exact puC);exact rfl)|refine cdn ?_|refine g_reg (id := 6) ?_|refine g_reg (id := 18) ?_|((refine g_cond rfl (fun hc => ?_) (fun hc => ?_)) <;> (try simp only [dcB] at hc) <;> (try first|contradiction|(exfalso;omega)))
      · have hi : i.toNat < ps.length := by omega
        have hx := (hpe _ (List.getElem_mem hi)).1
        have hi1 : i.toNat * 1 < ps.length := by omega
        have hx2 : ((ps[i.toNat * 1]'hi1).length : Int) ≤ 1048576 := by simp only [Nat.mul_one]; omega
        have hcl := spl_len 44 (ps[i.toNat]'hi)
        have hce := spl_el 44 (ps[i.toNat]'hi)
        obtain ⟨cs,ecs⟩ : ∃ cs,cs = spl 44 (ps[i.toNat]'hi) := ⟨_,rfl⟩
        rw [← ecs] at hcl hce
        have hnext : rwX (ps.take (i + 1).toNat) = l ++ cs.map fun c => (rdX c).1 := by
          rw [show (i + 1).toNat = i.toNat + 1 by omega,List.take_succ_eq_append_getElem hi,rwX_snoc,← h3,ecs]
        have hll := rwR_take ps (i + 1).toNat
        rw [← rwX_len,← rwX_len,hnext,List.length_append,List.length_map] at hll
        have hg : gdRow (fstN ps) (ps[i.toNat]'hi) = (decide ((cs.length : Int) = fstN ps) && cs.all fun c => (rdX c).2) := by unfold gdRow; rw [ecs]
        repeat' first|(apply p3;(first|exact pu1|exact a_ld_rowS rfl rfl rfl (fC rfl) bnd|exact puI);exact rfl)|refine cdn ?_|refine g_reg (id := 8) ?_|(apply c4 1;exact callK1 (θ := []) (hD := (l01Split_ok (ps[i.toNat * 1]'hi1) 44 hx2));exact rfl;exact rfl;exact rfl;refine dM ?_)
        simp only [Nat.mul_one]
        rw [← ecs]
        by_cases hq : (cs.length : Int) = fstN ps
        · by_cases h6 : fstN ps ≤ 6
          · rw [decide_eq_true hq,Bool.true_and] at hg
            repeat' first|(apply p3;(first|exact pu1|exact puN|exact a_ne rfl rfl);exact rfl)|refine cd ?_|(apply py3;exact rfl;exact rfl;(first|exact pu1|exact puC);exact rfl;exact rfl)|((first|refine o_gs rfl rfl (fun hc => ?_) (fun hc => ?_)|refine g_cond rfl (fun hc => ?_) (fun hc => ?_)) <;> (try simp only [dcB] at hc) <;> (try first|contradiction|(exfalso;omega)))
            try simp only [setRow,List.map_cons,List.map_nil,scC,List.set_cons_zero,List.set_cons_succ,Nat.zero_add,List.getElem?_cons_zero,List.getElem?_cons_succ,List.take_succ_cons,List.take_zero,List.drop_zero]
            refine g_loop_id ?_
            refine loopK [2,3,4,5,6,7,25,26,27,28,31,32,33,34,35,36,37,38,39,40,41,42,43,44,45,46] [3,4] (fun z : Int × List Rule' => 0 ≤ z.1 ∧ z.1 ≤ cs.length ∧ (cs.take z.1.toNat).all (fun c => (rdX c).2) = true ∧ z.2 = l ++ (cs.take z.1.toNat).map fun c => (rdX c).1) (fun z => [(8,.one (int z.1))]) (fun z => [(3,.bx [int (fstN ps),int ps.length,.gv 4]),(4,.row 3 (rows eR z.2))]) (fun z => (cs.length - z.1).toNat) ((0 : Int),l) [0,1,2,3,4,5] (hI := ?_) (hr := ?_)
            · exact ⟨by simp,by simp,by simp,by simp⟩
            · rintro ⟨j,u⟩ ⟨j0,j1,j2,j3⟩
              dsimp only [List.cons_append,List.nil_append] at *
              skip
              repeat' first|(apply p3;(first|exact pu1|exact puN|exact puC|exact a_add rfl rfl (by omega) (by omega));exact rfl)|refine cdn ?_|refine g_reg (id := 12) ?_|refine g_reg (id := 7) ?_|((refine g_cond rfl (fun hc => ?_) (fun hc => ?_)) <;> (try simp only [dcB] at hc) <;> (try first|contradiction|(exfalso;omega)))
              · have hj : j.toNat < cs.length := by omega
                have hj2 : j.toNat * 1 < cs.length := by omega
                have hy := (hce _ (List.getElem_mem hj)).1
                have hy2 : ((cs[j.toNat * 1]'hj2).length : Int) ≤ 1048576 := by simp only [Nat.mul_one]; omega
                have hul : (u.length : Int) ≤ 16777216 := by rw [j3,List.length_append,List.length_map,List.length_take]; omega
                repeat' first|(apply n3;exact a_new (gb := .bx _) rfl;exact rfl;refine dA ?_)|(apply p3;(first|exact pu1|exact a_ld_rowS rfl rfl rfl (fC rfl) bnd|exact puI);exact rfl)|refine cdn ?_|refine g_reg (id := 14) ?_|(apply w3;(exact a_st_bx rfl rfl rfl rfl (fN rfl rfl) (Nat.le_of_ble_eq_true rfl) rfl);exact rfl;refine dS ?_)|(apply c4 0;exact callK1 (θ := []) (hD := (l05ReadRule_ok (cs[j.toNat * 1]'hj2) hy2));exact rfl;exact rfl;exact rfl;refine dM ?_)
                simp only [Nat.mul_one]
                cases hr : (rdX (cs[j.toNat]'hj)).2 with
                | false =>
                  have hbf : b = false := by rw [hb,all_bad hi (by rw [hg]; exact all_bad hj hr),Bool.false_and]
                  rw [hbf]
                  simp only [Bool.false_eq_true,if_false]
                  repeat' first|(apply p3;(exact pu1);exact rfl)|refine cd ?_|(apply w3;(exact a_st_bx rfl rfl rfl rfl (fN rfl rfl) (Nat.le_of_ble_eq_true rfl) rfl);exact rfl;refine dS ?_)
                  refine g_conv (t_nilB (i := 0) (k := 2) (z := 3) rfl rfl rfl (by decide)) ?_
                  try dsimp only [setRow,List.map_cons,List.map_nil,scC,List.set_cons_zero,List.set_cons_succ,Nat.reduceAdd]
                  repeat refine cr ?_
                  refine ends_id ?_
                  refine endK [?_] (h2 := ?_) (h3 := ?_) (nd := ?_)
                  rotate_left 1
                  all_goals (repeat' first|exact ce0|refine ce ?_|refine ce2 ?_ ?_|(refine Or.inr (bx_eq rfl rfl ?_);(try dsimp only [C.ren,C.ren.all]);(try exact rfl))|exact SVLe.refl|refine ceb ?_)
                  all_goals first | exact (show nodupB _ = true from rfl) | exact Or.inr rfl | (rfl)
                | true =>
                  repeat' first|(apply n3;(exact a_litE eR [⟨_,_,_⟩] rfl rfl rfl rfl rfl rfl rfl rfl);exact rfl;refine dA ?_)|(apply p3;(first|exact pu1|exact a_add rfl rfl (by omega) (by omega));exact rfl)|refine cd ?_|(apply s3;exact a_appE (fP rfl) rfl rfl rfl rfl nowR (by (simp;omega)) (by decide) (by decide) (by exact rfl);exact rfl;exact rfl)|(apply w3;(exact a_st_bx rfl rfl rfl rfl (fN rfl rfl) (Nat.le_of_ble_eq_true rfl) rfl);exact rfl;refine dS ?_)
                  try simp only [setRow,List.map_cons,List.map_nil,scC,List.set_cons_zero,List.set_cons_succ,Nat.zero_add,List.getElem?_cons_zero,List.getElem?_cons_succ,List.take_succ_cons,List.take_zero,List.drop_zero]
                  refine q_again (j + 1,u ++ [(rdX (cs[j.toNat]'hj)).1]) [0,1,2,3,8,5] (by exact stk) ?_ ?_
                  · refine ⟨by dsimp only; omega,by dsimp only; omega,?_,?_⟩
                    · dsimp only
                      rw [show (j + 1).toNat = j.toNat + 1 by omega]
                      exact all_take_snoc hj j2 hr
                    · dsimp only
                      rw [j3,show (j + 1).toNat = j.toNat + 1 by omega,List.take_succ_eq_append_getElem hj,List.map_append,List.append_assoc]
                      rfl
                  · dsimp only; omega
              · rw [List.take_of_length_le (by omega)] at j2 j3
                subst j3
                refine q_again (i + 1,l ++ cs.map fun c => (rdX c).1) [0,1,2,3,4] (by exact stk) ?_ ?_
                · refine ⟨by dsimp only; omega,by dsimp only; omega,?_,hnext.symm⟩
                  dsimp only
                  rw [show (i + 1).toNat = i.toNat + 1 by omega]
                  exact all_take_snoc hi h2 (by rw [hg]; exact j2)
                · dsimp only; omega
          · have hbf : b = false := by
              cases hv : vMach (mrX s) with
              | false => rw [hb,hv,Bool.and_false]
              | true =>
                have hvb := vMach_bd hv
                rw [em] at hvb
                exact absurd hvb.1.2 h6
            rw [hbf]
            simp only [Bool.false_eq_true,if_false]
            repeat' first|(apply p3;(first|exact pu1|exact puN|exact a_ne rfl rfl);exact rfl)|refine cd ?_|(apply w3;(exact a_st_bx rfl rfl rfl rfl (fN rfl rfl) (Nat.le_of_ble_eq_true rfl) rfl);exact rfl;refine dS ?_)|(apply py3;exact rfl;exact rfl;(first|exact pu1|exact puC);exact rfl;exact rfl)|((first|refine o_gs rfl rfl (fun hc => ?_) (fun hc => ?_)|refine g_cond rfl (fun hc => ?_) (fun hc => ?_)) <;> (try simp only [dcB] at hc) <;> (try first|contradiction|(exfalso;omega)))
            refine g_conv (t_nilB (i := 0) (k := 2) (z := 3) rfl rfl rfl (by decide)) ?_
            try dsimp only [setRow,List.map_cons,List.map_nil,scC,List.set_cons_zero,List.set_cons_succ,Nat.reduceAdd]
            repeat refine cr ?_
            refine ends_id ?_
            refine endK [?_] (h2 := ?_) (h3 := ?_) (nd := ?_)
            rotate_left 1
            all_goals (repeat' first|exact ce0|refine ce ?_|refine ce2 ?_ ?_|(refine Or.inr (bx_eq rfl rfl ?_);(try dsimp only [C.ren,C.ren.all]);(try exact rfl))|exact SVLe.refl|refine ceb ?_)
            all_goals first | exact (show nodupB _ = true from rfl) | exact Or.inr rfl | (rfl)
        · have hbf : b = false := by rw [hb,all_bad hi (by rw [hg,decide_eq_false hq,Bool.false_and]),Bool.false_and]
          rw [hbf]
          simp only [Bool.false_eq_true,if_false]
          repeat' first|(apply p3;(first|exact pu1|exact puN|exact a_ne rfl rfl);exact rfl)|refine cd ?_|(apply w3;(exact a_st_bx rfl rfl rfl rfl (fN rfl rfl) (Nat.le_of_ble_eq_true rfl) rfl);exact rfl;refine dS ?_)|refine o_no rfl rfl rfl rfl ?_|((refine o_gs rfl rfl (fun hc => ?_) (fun hc => ?_)) <;> (try simp only [dcB] at hc) <;> (try first|contradiction|(exfalso;omega)))
          refine g_conv (t_nilB (i := 0) (k := 2) (z := 3) rfl rfl rfl (by decide)) ?_
          try dsimp only [setRow,List.map_cons,List.map_nil,scC,List.set_cons_zero,List.set_cons_succ,Nat.reduceAdd]
          repeat refine cr ?_
          refine ends_id ?_
          refine endK [?_] (h2 := ?_) (h3 := ?_) (nd := ?_)
          rotate_left 1
          all_goals (repeat' first|exact ce0|refine ce ?_|refine ce2 ?_ ?_|(refine Or.inr (bx_eq rfl rfl ?_);(try dsimp only [C.ren,C.ren.all]);(try exact rfl))|exact SVLe.refl|refine ceb ?_)
          all_goals first | exact (show nodupB _ = true from rfl) | exact Or.inr rfl | (rfl)
      · rw [List.take_of_length_le (by omega)] at h2 h3
        subst h3
        rw [h2,Bool.true_and,em] at hb
        have hM : ((rwX ps).length : Int) ≤ 16777216 := by omega
        try simp only [setRow,List.map_cons,List.map_nil,scC,List.set_cons_zero,List.set_cons_succ,Nat.zero_add,List.getElem?_cons_zero,List.getElem?_cons_succ,List.take_succ_cons,List.take_zero,List.drop_zero]
        rw [em]
        cases hv : vMach ⟨fstN ps,(ps.length : Int),rwX ps⟩ with
        | false =>
          have hvn : ¬ vMach ⟨fstN ps,(ps.length : Int),rwX ps⟩ = true := by rw [hv]; decide
          rw [hv] at hb
          subst hb
          simp only [Bool.false_eq_true,if_false]
          repeat' first|(apply p3;(exact pu1);exact rfl)|refine cd ?_|(apply w3;(exact a_st_bx rfl rfl rfl rfl (fN rfl rfl) (Nat.le_of_ble_eq_true rfl) rfl);exact rfl;refine dS ?_)|(apply c4 0;exact callK1 (θ := []) (hD := (l05Is_ok ⟨fstN ps,(ps.length : Int),rwX ps⟩ hM));exact rfl;exact rfl;exact rfl;refine dM ?_)|((refine g_cond rfl (fun hc => ?_) (fun hc => ?_)) <;> (try simp only [dcB] at hc) <;> (try first|contradiction|(exfalso;omega)))
          refine g_conv (t_nilB (i := 0) (k := 2) (z := 3) rfl rfl rfl (by decide)) ?_
          try dsimp only [setRow,List.map_cons,List.map_nil,scC,List.set_cons_zero,List.set_cons_succ,Nat.reduceAdd]
          repeat refine cr ?_
          refine ends_id ?_
          refine endK [?_] (h2 := ?_) (h3 := ?_) (nd := ?_)
          rotate_left 1
          all_goals (repeat' first|exact ce0|refine ce ?_|refine ce2 ?_ ?_|(refine Or.inr (bx_eq rfl rfl ?_);(try dsimp only [C.ren,C.ren.all]);(try exact rfl))|exact SVLe.refl|refine ceb ?_)
          all_goals first | exact (show nodupB _ = true from rfl) | exact Or.inr rfl | (rfl)
        | true =>
          have hvn : ¬ vMach ⟨fstN ps,(ps.length : Int),rwX ps⟩ = false := by rw [hv]; decide
          rw [hv] at hb
          subst hb
          simp only [if_true]
          repeat' first|(apply p3;(exact pu1);exact rfl)|refine cd ?_|(apply w3;(exact a_st_bx rfl rfl rfl rfl (fN rfl rfl) (Nat.le_of_ble_eq_true rfl) rfl);exact rfl;refine dS ?_)|(apply c4 0;exact callK1 (θ := []) (hD := (l05Is_ok ⟨fstN ps,(ps.length : Int),rwX ps⟩ hM));exact rfl;exact rfl;exact rfl;refine dM ?_)|((refine g_cond rfl (fun hc => ?_) (fun hc => ?_)) <;> (try simp only [dcB] at hc) <;> (try first|contradiction|(exfalso;omega)))
          repeat refine cr ?_
          refine ends_id ?_
          refine endK [?_] (h2 := ?_) (h3 := ?_) (nd := ?_)
          rotate_left 1
          all_goals (repeat' first|exact ce0|refine ce ?_|refine ce2 ?_ ?_|(refine Or.inr (bx_eq rfl rfl ?_);(try dsimp only [C.ren,C.ren.all]);(try exact rfl))|exact SVLe.refl|refine ceb ?_)
          all_goals first | exact (show nodupB _ = true from rfl) | exact Or.inr rfl | (rfl)
  · rw [decide_eq_false h1000,Bool.false_and] at hb
    subst hb
    simp only [Bool.false_eq_true,if_false]
    refine does_of (k := 0) Tryz.func148 rfl Tryz.ntmps148 rfl rfl fun w F0 S0 ρ0 => ?_
    dsimp only [argT,argH]
    repeat' first|(apply n3;exact a_new (gb := .bx _) rfl;exact rfl;refine dA ?_)|(apply p3;exact pu1;exact rfl)|refine cdn ?_|refine g_reg (id := 0) ?_|refine g_reg (id := 1) ?_|(apply c4 1;exact callK1 (θ := []) (hD := (l01Split_ok s 59 hs));exact rfl;exact rfl;exact rfl;refine dM ?_)
    rw [← eps]
    repeat' first|(apply p3;(first|exact pu1|exact puN|exact puC);exact rfl)|refine cd ?_|(apply w3;(exact a_st_bx rfl rfl rfl rfl (fN rfl rfl) (Nat.le_of_ble_eq_true rfl) rfl);exact rfl;refine dS ?_)|((refine g_cond rfl (fun hc => ?_) (fun hc => ?_)) <;> (try simp only [dcB] at hc) <;> (try first|contradiction|(exfalso;omega)))
    refine g_conv (t_nilB (i := 0) (k := 2) (z := 3) rfl rfl rfl (by decide)) ?_
    try dsimp only [setRow,List.map_cons,List.map_nil,scC,List.set_cons_zero,List.set_cons_succ,Nat.reduceAdd]
    repeat refine cr ?_
    refine ends_id ?_
    refine endK [?_] (h2 := ?_) (h3 := ?_) (nd := ?_)
    rotate_left 1
    all_goals (repeat' first|exact ce0|refine ce ?_|refine ce2 ?_ ?_|(refine Or.inr (bx_eq rfl rfl ?_);(try dsimp only [C.ren,C.ren.all]);(try exact rfl))|exact SVLe.refl|refine ceb ?_)
    all_goals first | exact (show nodupB _ = true from rfl) | exact Or.inr rfl | (rfl)
end Go.Proofs.YtighjcjmacajoaaGreatDoor
end
section
set_option linter.unusedVariables false
set_option linter.unusedSimpArgs false
set_option maxRecDepth 100000
set_option maxHeartbeats 4000000
namespace Go.Proofs.YtighjcjmacajoaaGreatDoor
open Go Foot Go.RowKit
theorem join_spl (c : UInt8) : ∀ s : Bs,joinT (spl c s) [c] = s
  | [] => by rw [spl,join_one]
  | x :: s => by
    have ih := join_spl c s
    rw [spl]
    split
    · next e =>
      subst e
      cases hs : spl x s with
      | nil => exact absurd hs (spl_ne x s)
      | cons p r => rw [hs] at ih; rw [join_cons2,ih]; rfl
    · split
      · next e => exact absurd e (spl_ne c s)
      · next p r e =>
        rw [e] at ih
        cases r with
        | nil => rw [join_one] at ih ⊢; rw [ih]
        | cons q r => rw [join_cons2] at ih ⊢; rw [List.cons_append,ih]
theorem spl_joinG {c : UInt8} : ∀ {l : List Bs},l ≠ [] → (∀ p ∈ l,c ∉ p) → spl c (joinT l [c]) = l
  | [],h,_ => absurd rfl h
  | [a],_,h => by rw [join_one,spl_no (h a (by simp))]
  | a :: b :: l,_,h => by
    rw [join_cons2,List.singleton_append,spl_app (h a (by simp)),spl_joinG (by simp) (fun p hp => h p (by simp at hp ⊢; exact .inr hp))]
theorem chs_flat {α : Type} {n : Nat} (hn : n ≠ 0) : ∀ (k : Nat) (l : List α),l.length ≤ k → (chs n l).flatten = l
  | 0,l,h => by
    have : l = [] := List.length_eq_zero_iff.1 (by omega)
    subst this
    rw [chs_0 n rfl]; rfl
  | k + 1,l,h => by
    by_cases h0 : l.length = 0
    · have : l = [] := List.length_eq_zero_iff.1 h0
      subst this
      rw [chs_0 n rfl]; rfl
    · rw [chs_s hn h0,List.flatten_cons,chs_flat hn k (l.drop n) (by rw [List.length_drop]; omega),List.take_append_drop]
theorem chs_len {α : Type} {n : Nat} (hn : n ≠ 0) : ∀ (k : Nat) (l : List α),l.length = n * k → (chs n l).length = k ∧ ∀ x ∈ chs n l,x.length = n
  | 0,l,h => by
    rw [chs_0 n (by simpa using h)]
    exact ⟨rfl,by simp⟩
  | k + 1,l,h => by
    have hz : n * (k + 1) = n * k + n := Nat.mul_succ n k
    rw [chs_s hn (by omega)]
    obtain ⟨i1,i2⟩ := chs_len hn k (l.drop n) (by rw [List.length_drop]; omega)
    refine ⟨by rw [List.length_cons,i1],fun x hx => ?_⟩
    rcases List.mem_cons.1 hx with rfl | hx
    · rw [List.length_take]; omega
    · exact i2 x hx
theorem chs_of {α : Type} {n : Nat} (hn : n ≠ 0) : ∀ {L : List (List α)},(∀ x ∈ L,x.length = n) → chs n L.flatten = L
  | [],_ => chs_0 n rfl
  | x :: L,h => by
    have hx := h x (by simp)
    rw [List.flatten_cons,chs_s hn (by rw [List.length_append]; omega),List.take_left' hx,List.drop_left' hx,chs_of hn (fun y hy => h y (by simp [hy]))]
theorem dec_dig {a : UInt8} (h : isDg a) : decT (((a.toNat : Nat) : Int) - 48) = [a] := by
  have hu := h
  unfold isDg at hu
  rw [decT_nat (by omega),show ((((a.toNat : Nat) : Int)) - 48).toNat = a.toNat - 48 by omega,Lib.decDigits,dif_pos (by omega),dig_back h]
theorem dec_bytes {n : Int} {x : UInt8} (h : x ∈ decT n) : isDg x ∨ x = 45 := by
  by_cases h0 : n < 0
  · rw [decT_neg h0] at h
    rcases List.mem_cons.1 h with rfl | h
    · exact .inr rfl
    · exact .inl ((dec_val _).2.1 x h)
  · exact .inl (decT_dg (by omega) x h)
theorem rul_bytes {r : Rule'} {x : UInt8} (h : x ∈ rulT r) : isDg x ∨ x = 45 ∨ x = 76 ∨ x = 82 := by
  unfold rulT at h
  split at h
  · simp at h; exact .inr (.inl h)
  · rcases List.mem_append.1 h with h | h
    · rcases List.mem_append.1 h with h | h
      · rcases dec_bytes h with q | q
        · exact .inl q
        · exact .inr (.inl q)
      · split at h
        · exact .inr (.inr (.inl (List.mem_singleton.1 h)))
        · exact .inr (.inr (.inr (List.mem_singleton.1 h)))
    · rcases dec_bytes h with q | q
      · exact .inl q
      · exact .inr (.inl q)
theorem rul_no {r : Rule'} {x : UInt8} (h1 : ¬ isDg x) (h2 : x ≠ 45) (h3 : x ≠ 76) (h4 : x ≠ 82) : x ∉ rulT r := fun h => by
  rcases rul_bytes h with q | q | q | q
  · exact h1 q
  · exact h2 q
  · exact h3 q
  · exact h4 q
theorem rule_canon {c : Bs} {r : Rule'} (h : rdX c = (r,true)) : rulT r = c ∧ rdR c = r := by
  unfold rdX at h
  split at h
  · next e =>
    cases h
    subst e
    refine ⟨by unfold rulT; rfl,?_⟩
    unfold rdR
    rw [if_pos (by decide)]
  · split at h
    · cases h
    · next e1 e2 =>
      simp only [Prod.mk.injEq,Bool.and_eq_true,decide_eq_true_eq] at h
      obtain ⟨hr,hn1,hn2⟩ := h
      obtain ⟨n,hn⟩ := Option.isSome_iff_exists.1 hn1
      rw [hn] at hr
      match c,e2,hn,hr with
      | [],e2,_,_ => exact absurd (.inl (by simp)) e2
      | [a],e2,_,_ => exact absurd (.inl (by simp)) e2
      | a :: b :: t,e2,hn,hr =>
        simp only [List.getD_cons_zero,List.getD_cons_succ,List.drop_succ_cons,List.drop_zero,Option.getD_some] at e2 hn hr
        have hd : isDg a := (isDgB_iff a).1 (by
          cases q : isDgB ((a.toNat : Nat) : Int) with
          | true => rfl
          | false => exact absurd (.inr (.inl q)) e2)
        have hb : ((b.toNat : Nat) : Int) = 76 ∨ ((b.toNat : Nat) : Int) = 82 := Classical.byContradiction fun q => e2 (.inr (.inr q))
        have hdn := (numS_some.1 hn).1
        have ha76 : ([76,82] : List UInt8).contains a = false := by
          rw [Bool.eq_false_iff]
          intro q
          rw [List.contains_iff_mem] at q
          simp only [List.mem_cons,List.not_mem_nil,or_false] at q
          unfold isDg at hd
          rcases q with rfl | rfl <;> (revert hd; decide)
        rcases hb with hb | hb
        · have hbe : b = 76 := UInt8.toNat_inj.1 (by show b.toNat = 76; omega)
          subst hbe
          rw [if_pos (by rfl)] at hr
          subst hr
          refine ⟨?_,?_⟩
          · unfold rulT
            rw [if_neg (by simp),dec_dig hd,hdn]
            rfl
          · have hix : Lib.indexAny (a :: 76 :: t) [76,82] = 1 := by
              rw [Lib.indexAny,ha76,Lib.indexAny]
              simp
            unfold rdR
            rw [hix,if_neg (by omega),show ((1 : Int)).toNat = 1 by rfl,show ((1 : Int) + 1).toNat = 2 by rfl]
            simp only [List.take_succ_cons,List.take_zero,List.getD_cons_zero,List.getD_cons_succ,List.drop_succ_cons,List.drop_zero,hn,Option.getD_some]
            rw [numS_some.2 ⟨dec_dig hd,by unfold isDg at hd; omega,by unfold isDg at hd; omega⟩]
            rfl
        · have hbe : b = 82 := UInt8.toNat_inj.1 (by show b.toNat = 82; omega)
          subst hbe
          rw [if_neg (by decide)] at hr
          subst hr
          refine ⟨?_,?_⟩
          · unfold rulT
            rw [if_neg (by simp),dec_dig hd,hdn]
            rfl
          · have hix : Lib.indexAny (a :: 82 :: t) [76,82] = 1 := by
              rw [Lib.indexAny,ha76,Lib.indexAny]
              simp
            unfold rdR
            rw [hix,if_neg (by omega),show ((1 : Int)).toNat = 1 by rfl,show ((1 : Int) + 1).toNat = 2 by rfl]
            simp only [List.take_succ_cons,List.take_zero,List.getD_cons_zero,List.getD_cons_succ,List.drop_succ_cons,List.drop_zero,hn,Option.getD_some]
            rw [numS_some.2 ⟨dec_dig hd,by unfold isDg at hd; omega,by unfold isDg at hd; omega⟩]
            rfl
theorem rule_inv {r : Rule'} {sy st : Int} (h : okRule sy st r = true) (h6 : sy ≤ 6) (h1 : st ≤ 1000) : rdX (rulT r) = (r,true) := by
  unfold okRule at h
  rw [decide_eq_true_eq] at h
  rcases h with rfl | ⟨hw,hm,hn⟩
  · have e : rulT ⟨0,0,-1⟩ = [45,45,45] := by unfold rulT; rfl
    rw [e]
    unfold rdX
    rw [if_pos rfl]
  · have hne : ¬ r = ⟨0,0,-1⟩ := fun e => by rw [e] at hm; revert hm; decide
    obtain ⟨a,ha,had,hav⟩ : ∃ a,decT r.w = [a] ∧ isDg a ∧ ((a.toNat : Nat) : Int) - 48 = r.w := by
      obtain ⟨d1,d2⟩ := dg_nat (d := r.w.toNat) (by omega)
      refine ⟨UInt8.ofNat (48 + r.w.toNat),?_,d1,by unfold isDg at d1; omega⟩
      rw [decT_nat (by omega),Lib.decDigits,dif_pos (by omega)]
    have hnum : numS (decT r.n) = some r.n := numS_some.2 ⟨rfl,by omega,by omega⟩
    have hnl : 1 ≤ (decT r.n).length := by
      have := (canon_dec (n := r.n) (by omega) (by omega)).ne
      omega
    obtain ⟨b,hb,hb2,hbm⟩ : ∃ b : UInt8,(if r.m < 0 then [76] else [82] : Bs) = [b] ∧ (((b.toNat : Nat) : Int) = 76 ∨ ((b.toNat : Nat) : Int) = 82) ∧ (if ((b.toNat : Nat) : Int) = 76 then (-1 : Int) else 1) = r.m := by
      rcases hm with hm | hm
      · exact ⟨82,by rw [if_neg (by omega)],.inr rfl,by rw [if_neg (by decide),hm]⟩
      · exact ⟨76,by rw [if_pos (by omega)],.inl rfl,by rw [if_pos (by decide),hm]⟩
    have e : rulT r = a :: b :: decT r.n := by
      unfold rulT
      rw [if_neg hne,ha,hb]
      rfl
    have had2 : isDgB ((a.toNat : Nat) : Int) = true := (isDgB_iff a).2 had
    rw [e]
    unfold rdX
    rw [if_neg (fun q => dg_ne had (List.cons.inj q).1)]
    simp only [List.getD_cons_zero,List.getD_cons_succ,List.drop_succ_cons,List.drop_zero,List.length_cons,hnum,Option.getD_some,Option.isSome_some,Bool.true_and,had2,hbm,hav]
    rw [if_neg (by rintro (q | q | q); omega; cases q; exact q hb2),decide_eq_true hn.1]
theorem join_memG {c x : UInt8} : ∀ {l : List Bs},x ∈ joinT l [c] → x = c ∨ ∃ p ∈ l,x ∈ p
  | [],h => by unfold joinT at h; simp [Lib.join] at h
  | [a],h => by rw [join_one] at h; exact .inr ⟨a,by simp,h⟩
  | a :: b :: l,h => by
    rw [join_cons2,List.mem_append,List.mem_append] at h
    rcases h with h | h | h
    · exact .inr ⟨a,by simp,h⟩
    · exact .inl (by simpa using h)
    · rcases join_memG h with h | ⟨p,hp,h⟩
      · exact .inl h
      · exact .inr ⟨p,by simp only [List.mem_cons] at hp ⊢; exact .inr hp,h⟩
theorem gd_row {sy : Int} {r : Bs} (h : gdRow sy r = true) : ((spl 44 r).length : Int) = sy ∧ ∀ c ∈ spl 44 r,rulT (rdX c).1 = c ∧ rdR c = (rdX c).1 := by
  unfold gdRow at h
  simp only [Bool.and_eq_true,decide_eq_true_eq,List.all_eq_true] at h
  exact ⟨h.1,fun c hc => rule_canon (by rw [← h.2 c hc])⟩
theorem read_canon {s : Bs} (h : mkX s = true) : mrX s = mrI s ∧ vMach (mrI s) = true ∧ macT (mrI s) = s := by
  unfold mkX at h
  simp only [Bool.and_eq_true,decide_eq_true_eq,List.all_eq_true] at h
  obtain ⟨h1,h2,h3⟩ := h
  have hne := spl_ne 59 s
  have e1 : rwR (spl 59 s) = rwX (spl 59 s) := by
    unfold rwR rwX
    rw [List.flatMap_def,List.flatMap_def]
    congr 1
    apply List.map_congr_left
    intro r hr
    apply List.map_congr_left
    intro c hc
    exact ((gd_row (h2 r hr)).2 c hc).2
  have e2 : lstN (spl 59 s) = fstN (spl 59 s) := by
    unfold lstN
    rw [List.getLast?_eq_some_getLast hne]
    exact (gd_row (h2 _ (List.getLast_mem hne))).1
  have e3 : mrX s = mrI s := by unfold mrX mrI; rw [e1,e2]
  have hb := vMach_bd h3
  refine ⟨e3,e3 ▸ h3,?_⟩
  rw [← e3,macT_eq (by omega)]
  have em : mrX s = ⟨fstN (spl 59 s),(spl 59 s).length,rwX (spl 59 s)⟩ := by unfold mrX; rfl
  rw [em] at hb ⊢
  dsimp only at hb ⊢
  have hn : (fstN (spl 59 s)).toNat ≠ 0 := by omega
  have e4 : chs (fstN (spl 59 s)).toNat (rwX (spl 59 s)) = (spl 59 s).map fun r => (spl 44 r).map fun c => (rdX c).1 := by
    unfold rwX
    rw [List.flatMap_def]
    refine chs_of hn fun x hx => ?_
    obtain ⟨r,hr,rfl⟩ := List.mem_map.1 hx
    have := (gd_row (h2 r hr)).1
    rw [List.length_map]
    omega
  rw [e4,List.map_map]
  have e5 : (spl 59 s).map (chT ∘ fun r => (spl 44 r).map fun c => (rdX c).1) = spl 59 s := by
    conv => rhs; rw [← List.map_id (spl 59 s)]
    apply List.map_congr_left
    intro r hr
    have hg := (gd_row (h2 r hr)).2
    show chT ((spl 44 r).map fun c => (rdX c).1) = r
    unfold chT
    rw [List.map_map]
    have e6 : (spl 44 r).map (rulT ∘ fun c => (rdX c).1) = spl 44 r := by
      conv => rhs; rw [← List.map_id (spl 44 r)]
      apply List.map_congr_left
      intro c hc
      exact (hg c hc).1
    rw [e6,join_spl]
  rw [e5,join_spl]
theorem read_text {s : Bs} (hv : vMach (mrI s) = true) (ht : macT (mrI s) = s) : mkX s = true := by
  obtain ⟨M,eM⟩ : ∃ M,M = mrI s := ⟨_,rfl⟩
  rw [← eM] at hv ht
  have hb := vMach_bd hv
  have hr : ∀ r ∈ M.ru,okRule M.sy M.st r = true := by
    have h := hv
    unfold vMach at h
    simp only [Bool.and_eq_true,List.all_eq_true] at h
    exact h.2
  have hn : M.sy.toNat ≠ 0 := by omega
  have hlen : M.ru.length = M.sy.toNat * M.st.toNat := by
    have e : ((M.sy.toNat * M.st.toNat : Nat) : Int) = M.sy * M.st := by
      rw [Int.natCast_mul,Int.toNat_of_nonneg (by omega),Int.toNat_of_nonneg (by omega)]
    omega
  obtain ⟨c1,c2⟩ := chs_len hn M.st.toNat M.ru hlen
  have c3 := chs_flat hn M.ru.length M.ru (Nat.le_refl _)
  obtain ⟨L,eL⟩ : ∃ L,L = chs M.sy.toNat M.ru := ⟨_,rfl⟩
  rw [macT_eq (by omega)] at ht
  rw [← eL] at c1 c2 c3 ht
  have hLr : ∀ x ∈ L,∀ r ∈ x,okRule M.sy M.st r = true := fun x hx r hrx => hr r (by rw [← c3]; exact List.mem_flatten.2 ⟨x,hx,hrx⟩)
  have hLne : ∀ x ∈ L,x ≠ [] := fun x hx e => by
    have := c2 x hx
    rw [e,List.length_nil] at this
    omega
  have g44 : ∀ x ∈ L,spl 44 (chT x) = x.map rulT := fun x hx => by
    unfold chT
    refine spl_joinG (by simpa using hLne x hx) fun p hp => ?_
    obtain ⟨r,_,rfl⟩ := List.mem_map.1 hp
    exact rul_no (by unfold isDg; decide) (by decide) (by decide) (by decide)
  have g59 : spl 59 s = L.map chT := by
    rw [← ht]
    refine spl_joinG ?_ fun p hp hx => ?_
    · intro e
      have := congrArg List.length e
      rw [List.length_map,List.length_nil] at this
      omega
    · obtain ⟨x,hxL,rfl⟩ := List.mem_map.1 hp
      unfold chT at hx
      rcases join_memG hx with q | ⟨q,hq,hx⟩
      · revert q; decide
      · obtain ⟨r,_,rfl⟩ := List.mem_map.1 hq
        exact rul_no (by unfold isDg; decide) (by decide) (by decide) (by decide) hx
  have hrow : ∀ x ∈ L,(x.map rulT).map (fun c => (rdX c).1) = x := fun x hx => by
    rw [List.map_map]
    conv => rhs; rw [← List.map_id x]
    apply List.map_congr_left
    intro r hrx
    show (rdX (rulT r)).1 = r
    rw [rule_inv (hLr x hx r hrx) hb.1.2 hb.2.1.2]
  have hfst : fstN (L.map chT) = M.sy := by
    cases L with
    | nil => simp at c1; omega
    | cons x L =>
      show ((spl 44 (chT x)).length : Int) = M.sy
      rw [g44 x (by simp),List.length_map,c2 x (by simp)]
      omega
  have hrw : rwX (L.map chT) = M.ru := by
    unfold rwX
    rw [List.flatMap_def,List.map_map,← c3]
    congr 1
    conv => rhs; rw [← List.map_id L]
    apply List.map_congr_left
    intro x hx
    show (spl 44 (chT x)).map (fun c => (rdX c).1) = x
    rw [g44 x hx,hrow x hx]
  have hX : mrX s = M := by
    unfold mrX
    rw [g59,hfst,hrw,List.length_map,c1,Int.toNat_of_nonneg (by omega)]
  unfold mkX
  rw [hX,hv,g59,hfst]
  simp only [Bool.and_eq_true,decide_eq_true_eq,List.all_eq_true,Bool.and_true]
  refine ⟨by rw [List.length_map,c1]; omega,fun p hp => ?_⟩
  obtain ⟨x,hx,rfl⟩ := List.mem_map.1 hp
  unfold gdRow
  rw [g44 x hx,List.length_map,c2 x hx]
  simp only [Bool.and_eq_true,decide_eq_true_eq,List.all_eq_true]
  refine ⟨by omega,fun c hc => ?_⟩
  obtain ⟨r,hrx,rfl⟩ := List.mem_map.1 hc
  rw [rule_inv (hLr x hx r hrx) hb.1.2 hb.2.1.2]
theorem read_same (s : Bs) : mkX s = (vMach (mrI s) && decide (macT (mrI s) = s)) := by
  cases h : mkX s with
  | true =>
    obtain ⟨_,h2,h3⟩ := read_canon h
    rw [h2,decide_eq_true h3]
    rfl
  | false =>
    symm
    rw [Bool.eq_false_iff]
    intro q
    simp only [Bool.and_eq_true,decide_eq_true_eq] at q
    rw [read_text q.1 q.2] at h
    cases h
end Go.Proofs.YtighjcjmacajoaaGreatDoor
end
section
set_option linter.unusedVariables false
set_option linter.unusedSimpArgs false
set_option maxRecDepth 100000
set_option maxHeartbeats 4000000
namespace Go.Proofs.YtighjcjmacajoaaGreatDoor
open Go Foot Go.RowKit
@[irreducible] def allDg (s : Bs) : Bool := s.all fun c => isDgB ((c.toNat : Nat) : Int)
theorem allDg_bad {s : Bs} {i : Nat} (h : i < s.length) (h2 : isDgB (((s[i]).toNat : Nat) : Int) = false) : allDg s = false := by unfold allDg; exact all_bad h h2
theorem dgI_snoc {s : Bs} {i : Int} (h0 : 0 ≤ i) (h : i.toNat < s.length) : dgI (s.take i.toNat) ++ [((s.getD i.toNat 0).toNat : Int) - 48] = dgI (s.take (i + 1).toNat) := by
  rw [show (i + 1).toNat = i.toNat + 1 by omega,List.take_succ_eq_append_getElem h,getD_getElem h,dgI,dgI,List.map_append]
  rfl
theorem readDigitsG_ok (s : Bs) (hs : (s.length : Int) ≤ 1048576) : Does Tryz.prog 221 [.one (str s)] [] (.tup [(false,[.gv 0]),(false,[boo (allDg s)])]) [roI (if allDg s = true then dgI s else [])] := by
  refine does_of (k := 0) Tryz.func221 rfl Tryz.ntmps221 rfl rfl fun w F0 S0 ρ0 => ?_
  dsimp only [argT,argH]
  repeat' first|(apply n3;exact a_nilO eI rfl;exact rfl)|(apply n3;(exact a_litE eI [] rfl rfl rfl rfl rfl rfl rfl rfl);exact rfl;refine dA ?_)|(apply p3;(exact pu1);exact rfl)|refine cd ?_
  refine g_loop_id ?_
  refine loopK [0,2,3] [1] (fun y : Int × List Int => 0 ≤ y.1 ∧ y.1 ≤ s.length ∧ (s.take y.1.toNat).all (fun c => isDgB ((c.toNat : Nat) : Int)) = true ∧ y.2 = dgI (s.take y.1.toNat)) (fun y => [(5,.one (int y.1)),(4,.one (.gv 1))]) (fun y => [(1,roI y.2)]) (fun y => (s.length - y.1).toNat) ((0 : Int),([] : List Int)) [0,1] (hI := ?_) (hr := ?_)
  · exact ⟨by simp,by simp,by simp,by simp⟩
  · rintro ⟨i,l⟩ ⟨h0,h1,h2,h3⟩
    dsimp only [List.cons_append,List.nil_append] at *
    skip
    repeat' first|(apply p3;(first|exact pu1|exact a_lenT rfl (fT rfl)|exact puC);exact rfl)|refine cdn ?_|refine g_reg (id := 3) ?_|refine g_reg (id := 8) ?_|((refine g_cond rfl (fun hc => ?_) (fun hc => ?_)) <;> (try simp only [dcB] at hc) <;> (try first|contradiction|(exfalso;omega)))
    · have hi : i.toNat < s.length := by omega
      have hg := getD_getElem hi
      have hl : (l.length : Int) ≤ 1048576 := by rw [h3,dgI,List.length_map,List.length_take]; omega
      cases hd : isDgB (((s.getD i.toNat 0).toNat : Nat) : Int) with
      | false =>
        have hdn : ¬ (48 ≤ (((s.getD i.toNat 0).toNat : Nat) : Int) ∧ (((s.getD i.toNat 0).toNat : Nat) : Int) ≤ 57) := by
          unfold isDgB at hd
          rw [decide_eq_false_iff_not] at hd
          exact hd
        have e : allDg s = false := allDg_bad hi (by rw [← hg]; exact hd)
        rw [e]
        simp only [Bool.false_eq_true,if_false]
        repeat' first|(apply n3;exact a_nilO eI rfl;exact rfl)|(apply p3;(first|exact pu1|exact a_idxS rfl rfl (fT rfl) (by omega) bnd|exact a_cmp8 rfl rfl rfl trivial rfl);exact rfl)|refine cd ?_|refine o_no rfl rfl rfl rfl ?_|(apply py3;exact rfl;exact rfl;(first|exact pu1|exact a_idxS rfl rfl (fT rfl) (by omega) bnd|exact a_cmp8 rfl rfl rfl trivial rfl);exact rfl;exact rfl)|((first|refine o_gs rfl rfl (fun hc => ?_) (fun hc => ?_)|refine g_cond rfl (fun hc => ?_) (fun hc => ?_)) <;> (try simp only [dcB] at hc) <;> (try first|contradiction|(exfalso;omega)))
        · repeat refine cr ?_
          refine ends_id ?_
          refine endK [?_] (h2 := ?_) (h3 := ?_) (nd := ?_)
          rotate_left 1
          all_goals (repeat' first|exact ce0|refine ce ?_|refine ce2 ?_ ?_|(refine Or.inr (bx_eq rfl rfl ?_);(try dsimp only [C.ren,C.ren.all]);(try exact rfl))|exact SVLe.refl|refine ceb ?_)
          all_goals first | exact (show nodupB _ = true from rfl) | exact Or.inr rfl | (rfl)
        · repeat refine cr ?_
          refine ends_id ?_
          refine endK [?_] (h2 := ?_) (h3 := ?_) (nd := ?_)
          rotate_left 1
          all_goals (repeat' first|exact ce0|refine ce ?_|refine ce2 ?_ ?_|(refine Or.inr (bx_eq rfl rfl ?_);(try dsimp only [C.ren,C.ren.all]);(try exact rfl))|exact SVLe.refl|refine ceb ?_)
          all_goals first | exact (show nodupB _ = true from rfl) | exact Or.inr rfl | (rfl)
      | true =>
        have hdd := (isDgB_iff _).1 hd
        unfold isDg at hdd
        have hn := dgI_snoc h0 hi
        repeat' first|(apply n3;(exact a_litE eI [_] rfl rfl rfl rfl rfl rfl rfl rfl);exact rfl;refine dA ?_)|(apply p3;(first|exact pu1|exact a_idxS rfl rfl (fT rfl) (by omega) bnd|exact a_cmp8 rfl rfl rfl trivial rfl|exact a_sub8 rfl rfl (by omega) (by omega)|exact a_of8 rfl Tryz.underlying5 Tryz.underlying2 (by omega) (by first|omega|exact byte_lt _)|exact a_add rfl rfl (by omega) (by omega));exact rfl)|refine cd ?_|(apply s3;exact a_appE (fP rfl) rfl rfl rfl rfl nowR (by (simp;omega)) (by decide) (by decide) (by exact rfl);exact rfl;exact rfl)|(apply py3;exact rfl;exact rfl;(first|exact pu1|exact a_idxS rfl rfl (fT rfl) (by omega) bnd|exact a_cmp8 rfl rfl rfl trivial rfl);exact rfl;exact rfl)|((first|refine o_gs rfl rfl (fun hc => ?_) (fun hc => ?_)|refine g_cond rfl (fun hc => ?_) (fun hc => ?_)) <;> (try simp only [dcB] at hc) <;> (try first|contradiction|(exfalso;omega)))
        refine q_again (i + 1,l ++ [((s.getD i.toNat 0).toNat : Int) - 48]) [0,3] (by exact stk) ?_ ?_
        · refine ⟨by dsimp only; omega,by dsimp only; omega,?_,?_⟩
          · dsimp only
            rw [show (i + 1).toNat = i.toNat + 1 by omega]
            exact all_take_snoc hi h2 (by rw [← hg]; exact hd)
          · dsimp only
            rw [h3,hn]
        · dsimp only; omega
    · rw [List.take_of_length_le (by omega)] at h2 h3
      have e : allDg s = true := by unfold allDg; exact h2
      rw [e,h3]
      simp only [if_true]
      skip
      repeat refine cr ?_
      refine ends_id ?_
      refine endK [?_] (h2 := ?_) (h3 := ?_) (nd := ?_)
      rotate_left 1
      all_goals (repeat' first|exact ce0|refine ce ?_|refine ce2 ?_ ?_|(refine Or.inr (bx_eq rfl rfl ?_);(try dsimp only [C.ren,C.ren.all]);(try exact rfl))|exact SVLe.refl|refine ceb ?_)
      all_goals first | exact (show nodupB _ = true from rfl) | exact Or.inr rfl | (rfl)
@[irreducible] def rdW (s : Bs) : Option (List Int) := if s = [45] then some [] else if allDg s = true ∧ s ≠ [] ∧ (s.length : Int) ≤ 400 then some (dgI s) else none
theorem ReadWord_ok (s : Bs) (hs : (s.length : Int) ≤ 1048576) : Does Tryz.prog 156 [.one (str s)] [] (.tup [(false,[.gv 0]),(false,[boo (rdW s).isSome])]) [roI ((rdW s).getD [])] := by
  by_cases h : s = [45]
  · have e : rdW s = some [] := by unfold rdW; rw [if_pos h]
    rw [e]
    subst h
    refine does_of (k := 0) Tryz.func156 rfl Tryz.ntmps156 rfl rfl fun w F0 S0 ρ0 => ?_
    dsimp only [argT,argH]
    repeat' first|(apply n3;exact a_nilO eI rfl;exact rfl)|(apply n3;exact a_litE eI [] rfl rfl rfl rfl rfl rfl rfl rfl;exact rfl;refine dA ?_)|(apply p3;(first|exact pu1|exact a_eqT rfl rfl);exact rfl)|refine cd ?_
    repeat refine cr ?_
    refine ends_id ?_
    refine endK [?_] (h2 := ?_) (h3 := ?_) (nd := ?_)
    rotate_left 1
    all_goals (repeat' first|exact ce0|refine ce ?_|refine ce2 ?_ ?_|(refine Or.inr (bx_eq rfl rfl ?_);(try dsimp only [C.ren,C.ren.all]);(try exact rfl))|exact SVLe.refl|refine ceb ?_)
    all_goals first | exact (show nodupB _ = true from rfl) | exact Or.inr rfl | (rfl)
  cases hd : allDg s with
  | false =>
    have e : rdW s = none := by unfold rdW; rw [if_neg h,if_neg]; simp [hd]
    rw [e]
    have hdn : ¬ allDg s = true := by rw [hd]; decide
    refine does_of (k := 0) Tryz.func156 rfl Tryz.ntmps156 rfl rfl fun w F0 S0 ρ0 => ?_
    dsimp only [argT,argH]
    repeat' first|(apply n3;exact a_nilO eI rfl;exact rfl)|(apply p3;(first|exact pu1|exact a_eqT rfl rfl);exact rfl)|refine cd ?_|(apply c4 1;exact callK1 (θ := []) (hD := (readDigitsG_ok s hs));exact rfl;exact rfl;exact rfl;refine dM ?_)|refine o_no rfl rfl rfl rfl ?_|((first|refine o_gs rfl rfl (fun hc => ?_) (fun hc => ?_)|refine g_cond rfl (fun hc => ?_) (fun hc => ?_)) <;> (try simp only [dcB] at hc) <;> (try first|contradiction|(exfalso;omega)))
    repeat refine cr ?_
    refine ends_id ?_
    refine endK [?_] (h2 := ?_) (h3 := ?_) (nd := ?_)
    rotate_left 1
    all_goals (repeat' first|exact ce0|refine ce ?_|refine ce2 ?_ ?_|(refine Or.inr (bx_eq rfl rfl ?_);(try dsimp only [C.ren,C.ren.all]);(try exact rfl))|exact SVLe.refl|refine ceb ?_)
    all_goals first | exact (show nodupB _ = true from rfl) | exact Or.inr rfl | (rfl)
  | true =>
    have hdn : ¬ allDg s = false := by rw [hd]; decide
    have hlen : (dgI s).length = s.length := List.length_map _
    by_cases h0 : s = []
    · have e : rdW s = none := by unfold rdW; rw [if_neg h,if_neg]; simp [h0]
      rw [e]
      have hl0 : ((dgI s).length : Int) = 0 := by rw [hlen,h0]; rfl
      refine does_of (k := 0) Tryz.func156 rfl Tryz.ntmps156 rfl rfl fun w F0 S0 ρ0 => ?_
      dsimp only [argT,argH]
      repeat' first|(apply n3;exact a_nilO eI rfl;exact rfl)|(apply p3;(first|exact pu1|exact a_eqT rfl rfl);exact rfl)|refine cdn ?_|refine g_reg (id := 0) ?_|refine g_reg (id := 1) ?_|refine g_reg (id := 3) ?_|(apply c4 1;exact callK1 (θ := []) (hD := (readDigitsG_ok s hs));exact rfl;exact rfl;exact rfl;refine dM ?_)|((refine g_cond rfl (fun hc => ?_) (fun hc => ?_)) <;> (try simp only [dcB] at hc) <;> (try first|contradiction|(exfalso;omega)))
      simp only [hd,if_true]
      repeat' first|(apply n3;exact a_nilO eI rfl;exact rfl)|(apply p3;(exact pu1);exact rfl)|refine cd ?_|refine o_no rfl rfl rfl rfl ?_|(apply py3;exact rfl;exact rfl;(first|exact pu1|exact puN|exact puC);exact rfl;exact rfl)|((refine o_gs rfl rfl (fun hc => ?_) (fun hc => ?_)) <;> (try simp only [dcB] at hc) <;> (try first|contradiction|(exfalso;omega)))
      repeat refine cr ?_
      refine ends_id ?_
      refine endK [?_] (h2 := ?_) (h3 := ?_) (nd := ?_)
      rotate_left 1
      all_goals (repeat' first|exact ce0|refine ce ?_|refine ce2 ?_ ?_|(refine Or.inr (bx_eq rfl rfl ?_);(try dsimp only [C.ren,C.ren.all]);(try exact rfl))|exact SVLe.refl|refine ceb ?_)
      all_goals first | exact (show nodupB _ = true from rfl) | exact Or.inr rfl | (rfl)
    · have hl0 : ¬ ((dgI s).length : Int) = 0 := by rw [hlen]; intro q; exact h0 (List.length_eq_zero_iff.1 (by omega))
      by_cases h4 : (s.length : Int) ≤ 400
      · have e : rdW s = some (dgI s) := by unfold rdW; rw [if_neg h,if_pos ⟨hd,h0,h4⟩]
        rw [e]
        refine does_of (k := 0) Tryz.func156 rfl Tryz.ntmps156 rfl rfl fun w F0 S0 ρ0 => ?_
        dsimp only [argT,argH]
        repeat' first|(apply n3;exact a_nilO eI rfl;exact rfl)|(apply p3;(first|exact pu1|exact a_eqT rfl rfl);exact rfl)|refine cdn ?_|refine g_reg (id := 0) ?_|refine g_reg (id := 1) ?_|refine g_reg (id := 3) ?_|(apply c4 1;exact callK1 (θ := []) (hD := (readDigitsG_ok s hs));exact rfl;exact rfl;exact rfl;refine dM ?_)|((refine g_cond rfl (fun hc => ?_) (fun hc => ?_)) <;> (try simp only [dcB] at hc) <;> (try first|contradiction|(exfalso;omega)))
        simp only [hd,if_true]
        repeat' first|(apply p3;(exact pu1);exact rfl)|refine cd ?_|(apply py3;exact rfl;exact rfl;(first|exact pu1|exact puN|exact puC);exact rfl;exact rfl)|((first|refine o_gs rfl rfl (fun hc => ?_) (fun hc => ?_)|refine g_cond rfl (fun hc => ?_) (fun hc => ?_)) <;> (try simp only [dcB] at hc) <;> (try first|contradiction|(exfalso;omega)))
        repeat refine cr ?_
        refine ends_id ?_
        refine endK [?_] (h2 := ?_) (h3 := ?_) (nd := ?_)
        rotate_left 1
        all_goals (repeat' first|exact ce0|refine ce ?_|refine ce2 ?_ ?_|(refine Or.inr (bx_eq rfl rfl ?_);(try dsimp only [C.ren,C.ren.all]);(try exact rfl))|exact SVLe.refl|refine ceb ?_)
        all_goals first | exact (show nodupB _ = true from rfl) | exact Or.inr rfl | (rfl)
      · have e : rdW s = none := by unfold rdW; rw [if_neg h,if_neg]; simp [h4]
        rw [e]
        refine does_of (k := 0) Tryz.func156 rfl Tryz.ntmps156 rfl rfl fun w F0 S0 ρ0 => ?_
        dsimp only [argT,argH]
        repeat' first|(apply n3;exact a_nilO eI rfl;exact rfl)|(apply p3;(first|exact pu1|exact a_eqT rfl rfl);exact rfl)|refine cdn ?_|refine g_reg (id := 0) ?_|refine g_reg (id := 1) ?_|refine g_reg (id := 3) ?_|(apply c4 1;exact callK1 (θ := []) (hD := (readDigitsG_ok s hs));exact rfl;exact rfl;exact rfl;refine dM ?_)|((refine g_cond rfl (fun hc => ?_) (fun hc => ?_)) <;> (try simp only [dcB] at hc) <;> (try first|contradiction|(exfalso;omega)))
        simp only [hd,if_true]
        repeat' first|(apply n3;exact a_nilO eI rfl;exact rfl)|(apply p3;(exact pu1);exact rfl)|refine cd ?_|(apply py3;exact rfl;exact rfl;(first|exact pu1|exact puN|exact puC);exact rfl;exact rfl)|((first|refine o_gs rfl rfl (fun hc => ?_) (fun hc => ?_)|refine g_cond rfl (fun hc => ?_) (fun hc => ?_)) <;> (try simp only [dcB] at hc) <;> (try first|contradiction|(exfalso;omega)))
        repeat refine cr ?_
        refine ends_id ?_
        refine endK [?_] (h2 := ?_) (h3 := ?_) (nd := ?_)
        rotate_left 1
        all_goals (repeat' first|exact ce0|refine ce ?_|refine ce2 ?_ ?_|(refine Or.inr (bx_eq rfl rfl ?_);(try dsimp only [C.ren,C.ren.all]);(try exact rfl))|exact SVLe.refl|refine ceb ?_)
        all_goals first | exact (show nodupB _ = true from rfl) | exact Or.inr rfl | (rfl)
@[irreducible] def rdV (s : Bs) : List Int := if s = [45] then [] else if allDg s = true then dgI s else []
theorem l03Read_ok (s : Bs) (hs : (s.length : Int) ≤ 1048576) : Does Tryz.prog 264 [.one (str s)] [] (.tup [(false,[.gv 0]),(false,[boo (rdW s).isSome])]) [roI (rdV s)] := by
  by_cases h : s = [45]
  · have e : rdW s = some [] := by unfold rdW; rw [if_pos h]
    have e2 : rdV s = [] := by unfold rdV; rw [if_pos h]
    rw [e,e2]
    subst h
    refine does_of (k := 0) Tryz.func264 rfl Tryz.ntmps264 rfl rfl fun w F0 S0 ρ0 => ?_
    dsimp only [argT,argH]
    repeat' first|(apply n3;exact a_nilO eI rfl;exact rfl)|(apply n3;(exact a_litE eI [] rfl rfl rfl rfl rfl rfl rfl rfl);exact rfl;refine dA ?_)|(apply p3;(first|exact pu1|exact a_eqT rfl rfl);exact rfl)|refine cd ?_
    repeat refine cr ?_
    refine ends_id ?_
    refine endK [?_] (h2 := ?_) (h3 := ?_) (nd := ?_)
    rotate_left 1
    all_goals (repeat' first|exact ce0|refine ce ?_|refine ce2 ?_ ?_|(refine Or.inr (bx_eq rfl rfl ?_);(try dsimp only [C.ren,C.ren.all]);(try exact rfl))|exact SVLe.refl|refine ceb ?_)
    all_goals first | exact (show nodupB _ = true from rfl) | exact Or.inr rfl | (rfl)
  refine does_of (k := 0) Tryz.func264 rfl Tryz.ntmps264 rfl rfl fun w F0 S0 ρ0 => ?_
  dsimp only [argT,argH]
  repeat' first|(apply n3;exact a_nilO eI rfl;exact rfl)|(apply n3;(exact a_litE eI [] rfl rfl rfl rfl rfl rfl rfl rfl);exact rfl;refine dA ?_)|(apply p3;(first|exact pu1|exact a_eqT rfl rfl);exact rfl)|refine cd ?_|((refine g_cond rfl (fun hc => ?_) (fun hc => ?_)) <;> (try simp only [dcB] at hc) <;> (try first|contradiction|(exfalso;omega)))
  refine g_loop_id ?_
  refine loopK [0,2,3] [1] (fun y : Int × List Int => 0 ≤ y.1 ∧ y.1 ≤ s.length ∧ (s.take y.1.toNat).all (fun c => isDgB ((c.toNat : Nat) : Int)) = true ∧ y.2 = dgI (s.take y.1.toNat)) (fun y => [(5,.one (int y.1)),(4,.one (.gv 1))]) (fun y => [(1,roI y.2)]) (fun y => (s.length - y.1).toNat) ((0 : Int),([] : List Int)) [0,1] (hI := ?_) (hr := ?_)
  · exact ⟨by simp,by simp,by simp,by simp⟩
  · rintro ⟨i,l⟩ ⟨h0,h1,h2,h3⟩
    dsimp only [List.cons_append,List.nil_append] at *
    skip
    repeat' first|(apply p3;(first|exact pu1|exact a_lenT rfl (fT rfl)|exact puC|exact puN);exact rfl)|refine cdn ?_|refine g_reg (id := 5) ?_|refine g_reg (id := 10) ?_|refine o_no rfl rfl rfl rfl ?_|(apply py3;exact rfl;exact rfl;(first|exact pu1|exact puC|exact puN);exact rfl;exact rfl)|((first|refine o_gs rfl rfl (fun hc => ?_) (fun hc => ?_)|refine g_cond rfl (fun hc => ?_) (fun hc => ?_)) <;> (try simp only [dcB] at hc) <;> (try first|contradiction|(exfalso;omega)))
    · have hi : i.toNat < s.length := by omega
      have hg := getD_getElem hi
      have hl : (l.length : Int) ≤ 1048576 := by rw [h3,dgI,List.length_map,List.length_take]; omega
      cases hd : isDgB (((s.getD i.toNat 0).toNat : Nat) : Int) with
      | false =>
        have hdn : ¬ isDgB (((s.getD i.toNat 0).toNat : Nat) : Int) = true := by rw [hd]; decide
        have e : allDg s = false := allDg_bad hi (by rw [← hg]; exact hd)
        have e1 : rdW s = none := by unfold rdW; rw [if_neg h,if_neg]; simp [e]
        have e2 : rdV s = [] := by unfold rdV; rw [if_neg h,if_neg]; simp [e]
        rw [e1,e2]
        repeat' first|(apply n3;exact a_nilO eI rfl;exact rfl)|(apply p3;(first|exact pu1|exact a_idxS rfl rfl (fT rfl) (by omega) bnd);exact rfl)|refine cd ?_|(apply c4 0;exact callK1 (θ := []) (hD := (l01Digit_ok _));exact rfl;exact rfl;exact rfl;refine dM ?_)|((refine g_cond rfl (fun hc => ?_) (fun hc => ?_)) <;> (try simp only [dcB] at hc) <;> (try first|contradiction|(exfalso;omega)))
        repeat refine cr ?_
        refine ends_id ?_
        refine endK [?_] (h2 := ?_) (h3 := ?_) (nd := ?_)
        rotate_left 1
        all_goals (repeat' first|exact ce0|refine ce ?_|refine ce2 ?_ ?_|(refine Or.inr (bx_eq rfl rfl ?_);(try dsimp only [C.ren,C.ren.all]);(try exact rfl))|exact SVLe.refl|refine ceb ?_)
        all_goals first | exact (show nodupB _ = true from rfl) | exact Or.inr rfl | (rfl)
      | true =>
        have hdn : ¬ isDgB (((s.getD i.toNat 0).toNat : Nat) : Int) = false := by rw [hd]; decide
        have hdd := (isDgB_iff _).1 hd
        unfold isDg at hdd
        have hn := dgI_snoc h0 hi
        repeat' first|(apply n3;(exact a_litE eI [_] rfl rfl rfl rfl rfl rfl rfl rfl);exact rfl;refine dA ?_)|(apply p3;(first|exact pu1|exact a_idxS rfl rfl (fT rfl) (by omega) bnd|exact a_sub8 rfl rfl (by omega) (by omega)|exact a_of8 rfl Tryz.underlying5 Tryz.underlying2 (by omega) (by first|omega|exact byte_lt _)|exact a_add rfl rfl (by omega) (by omega));exact rfl)|refine cd ?_|(apply s3;exact a_appE (fP rfl) rfl rfl rfl rfl nowR (by (simp;omega)) (by decide) (by decide) (by exact rfl);exact rfl;exact rfl)|(apply c4 0;exact callK1 (θ := []) (hD := (l01Digit_ok _));exact rfl;exact rfl;exact rfl;refine dM ?_)|((refine g_cond rfl (fun hc => ?_) (fun hc => ?_)) <;> (try simp only [dcB] at hc) <;> (try first|contradiction|(exfalso;omega)))
        refine q_again (i + 1,l ++ [((s.getD i.toNat 0).toNat : Int) - 48]) [0,3] (by exact stk) ?_ ?_
        · refine ⟨by dsimp only; omega,by dsimp only; omega,?_,?_⟩
          · dsimp only
            rw [show (i + 1).toNat = i.toNat + 1 by omega]
            exact all_take_snoc hi h2 (by rw [← hg]; exact hd)
          · dsimp only
            rw [h3,hn]
        · dsimp only; omega
    · rw [List.take_of_length_le (by omega)] at h2 h3
      have e : allDg s = true := by unfold allDg; exact h2
      have e2 : rdV s = dgI s := by unfold rdV; rw [if_neg h,if_pos e]
      have hlen : (dgI s).length = s.length := List.length_map _
      rw [e2]
      subst h3
      have h0 : s ≠ [] := fun q => by rw [q] at hc; simp at hc
      have e1 : (rdW s).isSome = decide (((dgI s).length : Int) ≤ 400) := by
        unfold rdW
        rw [if_neg h,hlen]
        by_cases h4 : (s.length : Int) ≤ 400
        · rw [if_pos ⟨e,h0,h4⟩,decide_eq_true h4]; rfl
        · rw [if_neg (fun q => h4 q.2.2),decide_eq_false h4]; rfl
      rw [e1]
      repeat refine cr ?_
      refine ends_id ?_
      refine endK [?_] (h2 := ?_) (h3 := ?_) (nd := ?_)
      rotate_left 1
      all_goals (repeat' first|exact ce0|refine ce ?_|refine ce2 ?_ ?_|(refine Or.inr (bx_eq rfl rfl ?_);(try dsimp only [C.ren,C.ren.all]);(try exact rfl))|exact SVLe.refl|refine ceb ?_)
      all_goals first | exact (show nodupB _ = true from rfl) | exact Or.inr rfl | (rfl)
    · rw [List.take_of_length_le (by omega)] at h2 h3
      have e : allDg s = true := by unfold allDg; exact h2
      have e2 : rdV s = dgI s := by unfold rdV; rw [if_neg h,if_pos e]
      have hlen : (dgI s).length = s.length := List.length_map _
      rw [e2]
      subst h3
      have h0 : s = [] := List.length_eq_zero_iff.1 (by omega)
      have e1 : rdW s = none := by unfold rdW; rw [if_neg h,if_neg]; simp [h0]
      rw [e1]
      repeat refine cr ?_
      refine ends_id ?_
      refine endK [?_] (h2 := ?_) (h3 := ?_) (nd := ?_)
      rotate_left 1
      all_goals (repeat' first|exact ce0|refine ce ?_|refine ce2 ?_ ?_|(refine Or.inr (bx_eq rfl rfl ?_);(try dsimp only [C.ren,C.ren.all]);(try exact rfl))|exact SVLe.refl|refine ceb ?_)
      all_goals first | exact (show nodupB _ = true from rfl) | exact Or.inr rfl | (rfl)
end Go.Proofs.YtighjcjmacajoaaGreatDoor
end
section
set_option linter.unusedVariables false
set_option linter.unusedSimpArgs false
set_option maxRecDepth 100000
set_option maxHeartbeats 4000000
namespace Go.Proofs.YtighjcjmacajoaaGreatDoor
open Go Foot Go.RowKit
def ixS (x : Bs) : List Bs → Int
  | [] => -1
  | y :: l => if x = y then 0 else if ixS x l < 0 then -1 else ixS x l + 1
theorem ixS_app {x : Bs} : ∀ {a b : List Bs},x ∉ a → ixS x (a ++ b) = if ixS x b < 0 then -1 else a.length + ixS x b
  | [],b,_ => by
    rw [List.nil_append]
    split
    · next h =>
      have : ∀ l,-1 ≤ ixS x l := by
        intro l
        induction l with
        | nil => simp [ixS]
        | cons y l ih => rw [ixS]; split; omega; split <;> omega
      have := this b
      omega
    · simp
  | y :: a,b,h => by
    have ih := ixS_app (x := x) (a := a) (b := b) (fun q => h (by simp [q]))
    have hne : ¬ x = y := fun e => h (by simp [e])
    rw [List.cons_append,ixS,if_neg hne,ih]
    by_cases q : ixS x b < 0
    · rw [if_pos q,if_pos q,if_pos (by omega)]
    · rw [if_neg q,if_neg q,if_neg (by omega)]
      simp only [List.length_cons]
      omega
theorem ixS_no {x : Bs} {l : List Bs} (h : x ∉ l) : ixS x l = -1 := by
  have := ixS_app (x := x) (a := l) (b := []) h
  rw [List.append_nil] at this
  rw [this]
  rfl
theorem ixS_at {x : Bs} {l : List Bs} {i : Nat} (h : i < l.length) (h1 : x ∉ l.take i) (h2 : x = l[i]) : ixS x l = i := by
  have e := List.take_append_drop i l
  rw [List.drop_eq_getElem_cons h] at e
  rw [← e,ixS_app h1]
  have : ixS x (l[i] :: l.drop (i + 1)) = 0 := by rw [ixS,if_pos h2]
  rw [this,List.length_take]
  omega
theorem IndexS_ok (l : List Bs) (x : Bs) (hl : (l.length : Int) ≤ 16777216) : Does Tryz.prog 154 [.one (shS l),.one (str x)] [] (.one (int (ixS x l))) [] := by
  refine does_of (k := 0) Tryz.func154 rfl Tryz.ntmps154 rfl rfl fun w F0 S0 ρ0 => ?_
  dsimp only [argT,argH]
  repeat' first|(apply p3;(first|exact pu1|exact puN);exact rfl)|refine cd ?_
  refine g_loop_id ?_
  refine loopK [0,1,4,7] [] (fun i : Int => 0 ≤ i ∧ i ≤ l.length ∧ x ∉ l.take i.toNat) (fun i => [(8,.one (int i))]) (fun _ => []) (fun i => (l.length - i).toNat) (0 : Int) [] (hI := ?_) (hr := ?_)
  · exact ⟨by simp,by simp,by simp⟩
  · rintro i ⟨h0,h1,h2⟩
    dsimp only [List.cons_append,List.nil_append] at *
    skip
    repeat' first|(apply p3;(first|exact pu1|exact puC|exact a_eqT rfl rfl|exact a_add rfl rfl (by omega) (by omega)|exact puI);exact rfl)|refine cd ?_|((refine g_cond rfl (fun hc => ?_) (fun hc => ?_)) <;> (try simp only [dcB] at hc) <;> (try first|contradiction|(exfalso;omega)))
    · have e : ixS x l = i := by
        rw [ixS_at (i := i.toNat) (by omega) h2 hc]
        omega
      rw [e]
      repeat refine cr ?_
      refine ends_id ?_
      refine endK [] (h2 := ?_) (h3 := ?_) (nd := ?_)
      all_goals (repeat' first|exact ce0|refine ce ?_|refine ce2 ?_ ?_|exact SVLe.refl|refine ceb ?_)
      all_goals first | exact (show nodupB _ = true from rfl) | exact Or.inr rfl | (rfl)
    · refine q_again (i + 1) [] (by exact stk) ?_ ?_
      · refine ⟨by omega,by omega,?_⟩
        rw [show (i + 1).toNat = i.toNat + 1 by omega,List.take_succ_eq_append_getElem (by omega)]
        intro q
        rcases List.mem_append.1 q with q | q
        · exact h2 q
        · exact hc (List.mem_singleton.1 q)
      · omega
    · have e : ixS x l = -1 := ixS_no (by rw [List.take_of_length_le (by omega)] at h2; exact h2)
      rw [e]
      repeat refine cr ?_
      refine ends_id ?_
      refine endK [] (h2 := ?_) (h3 := ?_) (nd := ?_)
      all_goals (repeat' first|exact ce0|refine ce ?_|refine ce2 ?_ ?_|exact SVLe.refl|refine ceb ?_)
      all_goals first | exact (show nodupB _ = true from rfl) | exact Or.inr rfl | (rfl)
@[irreducible] def nuX (s : Bs) : Option (List Int) := if s = [45] then some [] else if ((spl 44 s).length : Int) ≤ 300 then numL (spl 44 s) else none
theorem l25Numbers_ok (s : Bs) (hs : (s.length : Int) ≤ 1048576) : Does Tryz.prog 214 [.one (str s)] [] (.tup [(false,[.gv 0]),(false,[boo (nuX s).isSome])]) [roI ((nuX s).getD [])] := by
  by_cases h : s = [45]
  · have e : nuX s = some [] := by unfold nuX; rw [if_pos h]
    rw [e]
    subst h
    refine does_of (k := 0) Tryz.func214 rfl Tryz.ntmps214 rfl rfl fun w F0 S0 ρ0 => ?_
    dsimp only [argT,argH]
    repeat' first|(apply n3;exact a_nilO eI rfl;exact rfl)|(apply n3;(exact a_litE eI [] rfl rfl rfl rfl rfl rfl rfl rfl);exact rfl;refine dA ?_)|(apply p3;(first|exact pu1|exact a_eqT rfl rfl);exact rfl)|refine cd ?_
    repeat refine cr ?_
    refine ends_id ?_
    refine endK [?_] (h2 := ?_) (h3 := ?_) (nd := ?_)
    rotate_left 1
    all_goals (repeat' first|exact ce0|refine ce ?_|refine ce2 ?_ ?_|(refine Or.inr (bx_eq rfl rfl ?_);(try dsimp only [C.ren,C.ren.all]);(try exact rfl))|exact SVLe.refl|refine ceb ?_)
    all_goals first | exact (show nodupB _ = true from rfl) | exact Or.inr rfl | (rfl)
  have hpl := spl_len 44 s
  have hpe := spl_el 44 s
  have e : nuX s = if ((spl 44 s).length : Int) ≤ 300 then numL (spl 44 s) else none := by unfold nuX; rw [if_neg h]
  rw [e]
  refine does_of (k := 0) Tryz.func214 rfl Tryz.ntmps214 rfl rfl fun w F0 S0 ρ0 => ?_
  dsimp only [argT,argH]
  repeat' first|(apply n3;exact a_nilO eI rfl;exact rfl)|(apply n3;exact a_litE eI [] rfl rfl rfl rfl rfl rfl rfl rfl;exact rfl;refine dA ?_)|(apply p3;(first|exact pu1|exact a_eqT rfl rfl);exact rfl)|refine cdn ?_|refine g_reg (id := 0) ?_|refine g_reg (id := 1) ?_|refine g_reg (id := 2) ?_|refine g_reg (id := 4) ?_|(apply c4 1;exact callK1 (θ := []) (hD := (l01Split_ok s 44 hs));exact rfl;exact rfl;exact rfl;refine dM ?_)|((refine g_cond rfl (fun hc => ?_) (fun hc => ?_)) <;> (try simp only [dcB] at hc) <;> (try first|contradiction|(exfalso;omega)))
  generalize spl 44 s = ps at *
  by_cases h3 : (ps.length : Int) ≤ 300
  · rw [if_pos h3]
    repeat' first|(apply p3;(first|exact pu1|exact puN|exact puC);exact rfl)|refine cd ?_|((refine g_cond rfl (fun hc => ?_) (fun hc => ?_)) <;> (try simp only [dcB] at hc) <;> (try first|contradiction|(exfalso;omega)))
    refine g_loop_id ?_
    refine loopK [2,3,5] [1] (fun y : Int × List Int => 0 ≤ y.1 ∧ y.1 ≤ ps.length ∧ numL (ps.take y.1.toNat) = some y.2) (fun y => [(6,.one (int y.1)),(4,.one (.gv 1))]) (fun y => [(1,roI y.2)]) (fun y => (ps.length - y.1).toNat) ((0 : Int),([] : List Int)) [0,1,2] (hI := ?_) (hr := ?_)
    · exact ⟨by simp,by simp,by simp [numL]⟩
    · rintro ⟨i,l⟩ ⟨h0,h1,h2⟩
      dsimp only [List.cons_append,List.nil_append] at *
      skip
      repeat' first|(apply p3;(first|exact pu1|exact puN|exact puC);exact rfl)|refine cdn ?_|refine g_reg (id := 8) ?_|refine g_reg (id := 14) ?_|((refine g_cond rfl (fun hc => ?_) (fun hc => ?_)) <;> (try simp only [dcB] at hc) <;> (try first|contradiction|(exfalso;omega)))
      · have hi : i.toNat < ps.length := by omega
        have hx := (hpe _ (List.getElem_mem hi)).1
        have hi1 : i.toNat * 1 < ps.length := by omega
        have hx2 : ((ps[i.toNat * 1]'hi1).length : Int) ≤ 1048576 := by simp only [Nat.mul_one]; omega
        have hll := numL_len h2
        rw [List.length_take] at hll
        have hsn := numL_snoc (ps.take i.toNat) (ps[i.toNat]'hi)
        rw [← List.take_succ_eq_append_getElem hi,h2,Option.bind_some] at hsn
        repeat' first|(apply p3;(first|exact pu1|exact a_ld_rowS rfl rfl rfl (fC rfl) bnd|exact puI);exact rfl)|refine cdn ?_|refine g_reg (id := 10) ?_|(apply c4 0;exact callK1 (θ := []) (hD := (l01Number_ok (ps[i.toNat * 1]'hi1) hx2));exact rfl;exact rfl;exact rfl;refine dM ?_)
        simp only [Nat.mul_one]
        cases hn : numS (ps[i.toNat]'hi) with
        | none =>
          rw [numL_none hi hn]
          simp only [Option.isSome_none,Option.getD_none]
          repeat' first|(apply n3;exact a_nilO eI rfl;exact rfl)|(apply p3;(exact pu1);exact rfl)|refine cd ?_
          repeat refine cr ?_
          refine ends_id ?_
          refine endK [?_] (h2 := ?_) (h3 := ?_) (nd := ?_)
          rotate_left 1
          all_goals (repeat' first|exact ce0|refine ce ?_|refine ce2 ?_ ?_|(refine Or.inr (bx_eq rfl rfl ?_);(try dsimp only [C.ren,C.ren.all]);(try exact rfl))|exact SVLe.refl|refine ceb ?_)
          all_goals first | exact (show nodupB _ = true from rfl) | exact Or.inr rfl | (rfl)
        | some n =>
          rw [hn,Option.map_some] at hsn
          simp only [Option.isSome_some,Option.getD_some]
          repeat' first|(apply n3;(exact a_litE eI [_] rfl rfl rfl rfl rfl rfl rfl rfl);exact rfl;refine dA ?_)|(apply p3;(first|exact pu1|exact a_add rfl rfl (by omega) (by omega));exact rfl)|refine cd ?_|(apply s3;exact a_appE (fP rfl) rfl rfl rfl rfl nowR (by (simp;omega)) (by decide) (by decide) (by exact rfl);exact rfl;exact rfl)
          refine q_again (i + 1,l ++ [n]) [0,4,2] (by exact stk) ?_ ?_
          · exact ⟨by dsimp only; omega,by dsimp only; omega,by dsimp only; rw [show (i + 1).toNat = i.toNat + 1 by omega,hsn]⟩
          · omega
      · rw [List.take_of_length_le (by omega)] at h2
        rw [h2]
        repeat refine cr ?_
        refine ends_id ?_
        refine endK [?_] (h2 := ?_) (h3 := ?_) (nd := ?_)
        rotate_left 1
        all_goals (repeat' first|exact ce0|refine ce ?_|refine ce2 ?_ ?_|(refine Or.inr (bx_eq rfl rfl ?_);(try dsimp only [C.ren,C.ren.all]);(try exact rfl))|exact SVLe.refl|refine ceb ?_)
        all_goals first | exact (show nodupB _ = true from rfl) | exact Or.inr rfl | (rfl)
  · rw [if_neg h3]
    repeat' first|(apply n3;exact a_nilO eI rfl;exact rfl)|(apply p3;(first|exact pu1|exact puN|exact puC);exact rfl)|refine cd ?_|((refine g_cond rfl (fun hc => ?_) (fun hc => ?_)) <;> (try simp only [dcB] at hc) <;> (try first|contradiction|(exfalso;omega)))
    repeat refine cr ?_
    refine ends_id ?_
    refine endK [?_] (h2 := ?_) (h3 := ?_) (nd := ?_)
    rotate_left 1
    all_goals (repeat' first|exact ce0|refine ce ?_|refine ce2 ?_ ?_|(refine Or.inr (bx_eq rfl rfl ?_);(try dsimp only [C.ren,C.ren.all]);(try exact rfl))|exact SVLe.refl|refine ceb ?_)
    all_goals first | exact (show nodupB _ = true from rfl) | exact Or.inr rfl | (rfl)
def woL : List Bs → Option (List (List Int))
  | [] => some []
  | p :: r => (rdW p).bind fun n => (woL r).map (n :: ·)
theorem woL_len : ∀ {l : List Bs} {w : List (List Int)},woL l = some w → w.length = l.length
  | [],w,h => by cases h; rfl
  | p :: r,w,h => by
    unfold woL at h
    cases hp : rdW p with
    | none => rw [hp] at h; cases h
    | some n =>
      rw [hp,Option.bind_some] at h
      cases hr : woL r with
      | none => rw [hr] at h; cases h
      | some v =>
        rw [hr] at h
        simp only [Option.map_some,Option.some.injEq] at h
        subst h
        simp [woL_len hr]
theorem woL_snoc : ∀ (l : List Bs) (p : Bs),woL (l ++ [p]) = (woL l).bind fun w => (rdW p).map (w ++ [·])
  | [],p => by
    simp only [List.nil_append,woL]
    cases rdW p <;> rfl
  | q :: r,p => by
    rw [List.cons_append,woL,woL_snoc r p,woL]
    cases rdW q with
    | none => rfl
    | some n =>
      cases woL r with
      | none => rfl
      | some w => cases rdW p <;> rfl
theorem woL_none {l : List Bs} : ∀ {i : Nat} (h : i < l.length),rdW (l[i]) = none → woL l = none := by
  induction l with
  | nil => intro i h; simp at h
  | cons p r ih =>
    intro i h e
    unfold woL
    cases i with
    | zero => rw [List.getElem_cons_zero] at e; rw [e]; rfl
    | succ i =>
      rw [List.getElem_cons_succ] at e
      rw [ih (by simpa using h) e]
      cases rdW p <;> rfl
theorem rdV_some {s : Bs} {w : List Int} (h : rdW s = some w) : rdV s = w := by
  unfold rdW at h
  unfold rdV
  split at h
  · next e => cases h; rw [if_pos e]
  · next e =>
    split at h
    · next q => cases h; rw [if_neg e,if_pos q.1]
    · cases h
@[irreducible] def woX (s : Bs) : Option (List (List Int)) := if s = [] then some [] else if ((spl 44 s).length : Int) ≤ 300 then woL (spl 44 s) else none
theorem l25Words_ok (s : Bs) (hs : (s.length : Int) ≤ 1048576) : Does Tryz.prog 215 [.one (str s)] [] (.tup [(false,[.gv 0]),(false,[boo (woX s).isSome])]) [roW ((woX s).getD [])] := by
  by_cases h : s = []
  · have e : woX s = some [] := by unfold woX; rw [if_pos h]
    rw [e]
    subst h
    refine does_of (k := 0) Tryz.func215 rfl Tryz.ntmps215 rfl rfl fun w F0 S0 ρ0 => ?_
    dsimp only [argT,argH]
    repeat' first|(apply n3;exact a_nilO eW rfl;exact rfl)|(apply n3;(exact a_litE eW [] rfl rfl rfl rfl rfl rfl rfl rfl);exact rfl;refine dA ?_)|(apply p3;(first|exact pu1|exact a_eqT rfl rfl);exact rfl)|refine cd ?_
    repeat refine cr ?_
    refine ends_id ?_
    refine endK [?_] (h2 := ?_) (h3 := ?_) (nd := ?_)
    rotate_left 1
    all_goals (repeat' first|exact ce0|refine ce ?_|refine ce2 ?_ ?_|(refine Or.inr (bx_eq rfl rfl ?_);(try dsimp only [C.ren,C.ren.all]);(try exact rfl))|exact SVLe.refl|refine ceb ?_)
    all_goals first | exact (show nodupB _ = true from rfl) | exact Or.inr rfl | (rfl)
  have hpl := spl_len 44 s
  have hpe := spl_el 44 s
  have e : woX s = if ((spl 44 s).length : Int) ≤ 300 then woL (spl 44 s) else none := by unfold woX; rw [if_neg h]
  rw [e]
  refine does_of (k := 0) Tryz.func215 rfl Tryz.ntmps215 rfl rfl fun w F0 S0 ρ0 => ?_
  dsimp only [argT,argH]
  repeat' first|(apply n3;exact a_nilO eW rfl;exact rfl)|(apply n3;exact a_litE eW [] rfl rfl rfl rfl rfl rfl rfl rfl;exact rfl;refine dA ?_)|(apply p3;(first|exact pu1|exact a_eqT rfl rfl);exact rfl)|refine cdn ?_|refine g_reg (id := 0) ?_|refine g_reg (id := 1) ?_|refine g_reg (id := 2) ?_|refine g_reg (id := 4) ?_|(apply c4 1;exact callK1 (θ := []) (hD := (l01Split_ok s 44 hs));exact rfl;exact rfl;exact rfl;refine dM ?_)|((refine g_cond rfl (fun hc => ?_) (fun hc => ?_)) <;> (try simp only [dcB] at hc) <;> (try first|contradiction|(exfalso;omega)))
  generalize spl 44 s = ps at *
  by_cases h3 : (ps.length : Int) ≤ 300
  · rw [if_pos h3]
    repeat' first|(apply p3;(first|exact pu1|exact puN|exact puC);exact rfl)|refine cd ?_|((refine g_cond rfl (fun hc => ?_) (fun hc => ?_)) <;> (try simp only [dcB] at hc) <;> (try first|contradiction|(exfalso;omega)))
    refine g_loop_id ?_
    refine loopK [2,3,5] [1] (fun y : Int × List (List Int) => 0 ≤ y.1 ∧ y.1 ≤ ps.length ∧ woL (ps.take y.1.toNat) = some y.2) (fun y => [(6,.one (int y.1)),(4,.one (.gv 1))]) (fun y => [(1,roW y.2)]) (fun y => (ps.length - y.1).toNat) ((0 : Int),([] : List (List Int))) [0,1,2] (hI := ?_) (hr := ?_)
    · exact ⟨by simp,by simp,by simp [woL]⟩
    · rintro ⟨i,l⟩ ⟨h0,h1,h2⟩
      dsimp only [List.cons_append,List.nil_append] at *
      skip
      repeat' first|(apply p3;(first|exact pu1|exact puN|exact puC);exact rfl)|refine cdn ?_|refine g_reg (id := 8) ?_|refine g_reg (id := 14) ?_|((refine g_cond rfl (fun hc => ?_) (fun hc => ?_)) <;> (try simp only [dcB] at hc) <;> (try first|contradiction|(exfalso;omega)))
      · have hi : i.toNat < ps.length := by omega
        have hx := (hpe _ (List.getElem_mem hi)).1
        have hi1 : i.toNat * 1 < ps.length := by omega
        have hx2 : ((ps[i.toNat * 1]'hi1).length : Int) ≤ 1048576 := by simp only [Nat.mul_one]; omega
        have hll := woL_len h2
        rw [List.length_take] at hll
        have hsn := woL_snoc (ps.take i.toNat) (ps[i.toNat]'hi)
        rw [← List.take_succ_eq_append_getElem hi,h2,Option.bind_some] at hsn
        repeat' first|(apply p3;(first|exact pu1|exact a_ld_rowS rfl rfl rfl (fC rfl) bnd|exact puI);exact rfl)|refine cdn ?_|refine g_reg (id := 10) ?_|(apply c4 0;exact callF (hD := (l03Read_ok (ps[i.toNat * 1]'hi1) hx2));exact rfl;exact rfl;exact rfl;refine dM ?_)
        simp only [Nat.mul_one]
        cases hn : rdW (ps[i.toNat]'hi) with
        | none =>
          rw [woL_none hi hn]
          simp only [Option.isSome_none,Option.getD_none]
          repeat' first|(apply n3;exact a_nilO eW rfl;exact rfl)|(apply p3;(exact pu1);exact rfl)|refine cd ?_
          repeat refine cr ?_
          refine ends_id ?_
          refine endK [?_] (h2 := ?_) (h3 := ?_) (nd := ?_)
          rotate_left 1
          all_goals (repeat' first|exact ce0|refine ce ?_|refine ce2 ?_ ?_|(refine Or.inr (bx_eq rfl rfl ?_);(try dsimp only [C.ren,C.ren.all]);(try exact rfl))|exact SVLe.refl|refine ceb ?_)
          all_goals first | exact (show nodupB _ = true from rfl) | exact Or.inr rfl | (rfl)
        | some n =>
          rw [hn,Option.map_some] at hsn
          rw [rdV_some hn]
          simp only [Option.isSome_some,Option.getD_some]
          repeat' first|(apply n3;(exact a_litE eW [_] rfl rfl rfl rfl rfl rfl rfl rfl);exact rfl;refine dA ?_)|(apply p3;(first|exact pu1|exact a_add rfl rfl (by omega) (by omega));exact rfl)|refine cd ?_|(apply s3;exact a_appE (fP rfl) rfl rfl rfl rfl nowR (by (simp;omega)) (by decide) (by decide) (by exact rfl);exact rfl;exact rfl)
          refine q_again (i + 1,l ++ [n]) [0,4,2] (by exact stk) ?_ ?_
          · exact ⟨by dsimp only; omega,by dsimp only; omega,by dsimp only; rw [show (i + 1).toNat = i.toNat + 1 by omega,hsn]⟩
          · omega
      · rw [List.take_of_length_le (by omega)] at h2
        rw [h2]
        repeat refine cr ?_
        refine ends_id ?_
        refine endK [?_] (h2 := ?_) (h3 := ?_) (nd := ?_)
        rotate_left 1
        all_goals (repeat' first|exact ce0|refine ce ?_|refine ce2 ?_ ?_|(refine Or.inr (bx_eq rfl rfl ?_);(try dsimp only [C.ren,C.ren.all]);(try exact rfl))|exact SVLe.refl|refine ceb ?_)
        all_goals first | exact (show nodupB _ = true from rfl) | exact Or.inr rfl | (rfl)
  · rw [if_neg h3]
    repeat' first|(apply n3;exact a_nilO eW rfl;exact rfl)|(apply p3;(first|exact pu1|exact puN|exact puC);exact rfl)|refine cd ?_|((refine g_cond rfl (fun hc => ?_) (fun hc => ?_)) <;> (try simp only [dcB] at hc) <;> (try first|contradiction|(exfalso;omega)))
    repeat refine cr ?_
    refine ends_id ?_
    refine endK [?_] (h2 := ?_) (h3 := ?_) (nd := ?_)
    rotate_left 1
    all_goals (repeat' first|exact ce0|refine ce ?_|refine ce2 ?_ ?_|(refine Or.inr (bx_eq rfl rfl ?_);(try dsimp only [C.ren,C.ren.all]);(try exact rfl))|exact SVLe.refl|refine ceb ?_)
    all_goals first | exact (show nodupB _ = true from rfl) | exact Or.inr rfl | (rfl)
end Go.Proofs.YtighjcjmacajoaaGreatDoor
end
section
set_option linter.unusedVariables false
set_option linter.unusedSimpArgs false
set_option maxRecDepth 100000
set_option maxHeartbeats 4000000
namespace Go.Proofs.YtighjcjmacajoaaGreatDoor
open Go Foot
@[irreducible] def marks (k : Int) (n : Nat) : List Int := (List.range n).map fun (i : Nat) => k + (i : Int)
theorem marks_len (k : Int) (n : Nat) : (marks k n).length = n := by unfold marks; simp
theorem marks_get (k : Int) (n i : Nat) (h : i < n) : (marks k n)[i]? = some (k + i) := by unfold marks; simp [h]
theorem mark_end {k : Int} {xs l : List Int} (h1 : l.length = xs.length) (h2 : ∀ j (h : j < xs.length),l[j]? = some (k + j)) : l = marks k xs.length := by
  apply List.ext_getElem?
  intro j
  by_cases hj : j < xs.length
  · rw [marks_get k _ j hj,h2 j hj]
  · rw [List.getElem?_eq_none (by omega),List.getElem?_eq_none (by rw [marks_len]; omega)]
theorem markInt64S_ok (xs : List Int) (k : Int) (h1 : 0 ≤ k) (h2 : k ≤ 4611686018427387904) (hx : (xs.length : Int) ≤ 4611686018427) : Does Tryz.prog 81 [.one (.gv 0),.one (int k)] [roI xs] (.one (int (k + xs.length))) [roI (marks k xs.length)] := by
  refine does_of (k := 1) Tryz.func81 rfl Tryz.ntmps81 rfl rfl fun w F0 S0 ρ0 => ?_
  dsimp only [argT,argH]
  repeat' first|(apply p3;(exact pu1);exact rfl)|refine cd ?_
  refine g_loop_id ?_
  refine loopK [0,4] [0] (fun y : Int × List Int => 0 ≤ y.1 ∧ y.1 ≤ xs.length ∧ y.2.length = xs.length ∧ ∀ (j : Nat),(j : Int) < y.1 → y.2[j]? = some (k + j)) (fun y => [(5,.one (int y.1)),(1,.one (int (k + y.1)))]) (fun y => [(0,roI y.2)]) (fun y => (xs.length - y.1).toNat) ((0 : Int),xs) [0] (hI := ?_) (hr := ?_)
  · exact ⟨by simp,by simp,rfl,fun j h' => by simp at h'; omega⟩
  · rintro ⟨i,l⟩ ⟨k1,k2,k3,k4⟩
    dsimp only [List.cons_append,List.nil_append] at *
    skip
    repeat' first|(apply p3;(first|exact pu1|exact puN|exact puC|exact a_add rfl rfl (by omega) (by omega)|exact puI);exact rfl)|refine cd ?_|(apply w3;(exact a_st_rowI rfl rfl rfl rfl (fN rfl rfl) bnd);exact rfl;refine dS ?_)|((refine g_cond rfl (fun hc => ?_) (fun hc => ?_)) <;> (try simp only [dcB] at hc) <;> (try first|contradiction|(exfalso;omega)))
    · refine q_again (i + 1,l.set i.toNat (k + i)) [0] (by exact stk) ?_ ?_
      · refine ⟨by dsimp only; omega,by dsimp only; omega,by simp [k3],fun j h => ?_⟩
        dsimp only at h ⊢
        rw [List.getElem?_set]
        split
        · rename_i e
          subst e
          rw [if_pos (by omega)]
          congr 1
          omega
        · exact k4 j (by omega)
      · dsimp only; omega
    · have hi : i = xs.length := by omega
      subst hi
      have hl := mark_end (k := k) k3 fun j hj => k4 j (by omega)
      repeat refine cr ?_
      refine ends_id ?_
      refine endK [] (h2 := ?_) (h3 := ?_) (nd := ?_)
      all_goals (repeat' first|exact ce0|refine ce ?_|refine ce2 ?_ ?_|(refine Or.inr (bx_eq rfl rfl ?_);(try dsimp only [C.ren,C.ren.all]);(try exact rfl))|exact SVLe.refl|refine ceb ?_)
      all_goals first | exact (show nodupB _ = true from rfl) | exact Or.inr rfl | (exact hl)
@[irreducible] def held (k : Int) (xs : List Int) : Int := if xs = marks k xs.length then k + xs.length else -1
theorem held_marks (k : Int) (n : Nat) : held k (marks k n) = k + n := by unfold held; rw [marks_len,if_pos rfl]
theorem heldInt64S_ok (xs : List Int) (k : Int) (h1 : 0 ≤ k) (h2 : k ≤ 4611686018427387904) (hx : (xs.length : Int) ≤ 4611686018427) : Does Tryz.prog 84 [.one (shI xs),.one (int k)] [] (.one (int (held k xs))) [] := by
  refine does_of (k := 0) Tryz.func84 rfl Tryz.ntmps84 rfl rfl fun w F0 S0 ρ0 => ?_
  dsimp only [argT,argH]
  repeat' first|(apply p3;(exact pu1);exact rfl)|refine cd ?_
  refine g_loop_id ?_
  refine loopK [0,4] [] (fun i : Int => 0 ≤ i ∧ i ≤ xs.length ∧ ∀ (j : Nat),(j : Int) < i → xs[j]? = some (k + j)) (fun i => [(5,.one (int i)),(1,.one (int (k + i)))]) (fun _ => []) (fun i => (xs.length - i).toNat) (0 : Int) [] (hI := ?_) (hr := ?_)
  · exact ⟨by simp,by simp,fun j h' => by omega⟩
  · rintro i ⟨k1,k2,k4⟩
    dsimp only [List.cons_append,List.nil_append] at *
    skip
    repeat' first|(apply p3;(first|exact pu1|exact puN|exact puC|exact a_ne rfl rfl|exact a_add rfl rfl (by omega) (by omega)|exact puI);exact rfl)|refine cd ?_|((refine g_cond rfl (fun hc => ?_) (fun hc => ?_)) <;> (try simp only [dcB] at hc) <;> (try first|contradiction|(exfalso;omega)))
    · repeat refine cr ?_
      refine ends_id ?_
      refine endK [] (h2 := ?_) (h3 := ?_) (nd := ?_)
      all_goals (repeat' first|exact ce0|refine ce ?_|refine ce2 ?_ ?_|exact SVLe.refl|refine ceb ?_)
      all_goals first | exact (show nodupB _ = true from rfl) | exact Or.inr rfl | ((unfold held; rw [if_neg]; intro e; have e1 := marks_get k xs.length i.toNat (by omega); rw [← e,List.getElem?_eq_getElem (by omega)] at e1; simp only [Option.some.injEq] at e1; omega))
    · refine q_again (i + 1) [] (by exact stk) ?_ ?_
      · refine ⟨by omega,by omega,fun j h => ?_⟩
        by_cases hj : (j : Int) < i
        · exact k4 j hj
        · have : j = i.toNat := by omega
          subst this
          rw [List.getElem?_eq_getElem (by omega),hc]
          congr 1
          omega
      · omega
    · have hi : i = xs.length := by omega
      subst hi
      have hl := mark_end (k := k) (xs := xs) rfl fun j hj => k4 j (by omega)
      repeat refine cr ?_
      refine ends_id ?_
      refine endK [] (h2 := ?_) (h3 := ?_) (nd := ?_)
      all_goals (repeat' first|exact ce0|refine ce ?_|refine ce2 ?_ ?_|exact SVLe.refl|refine ceb ?_)
      all_goals first | exact (show nodupB _ = true from rfl) | exact Or.inr rfl | ((unfold held; rw [if_pos hl]))
end Go.Proofs.YtighjcjmacajoaaGreatDoor
end
section
set_option linter.unusedVariables false
set_option linter.unusedSimpArgs false
set_option maxRecDepth 100000
set_option maxHeartbeats 4000000
namespace Go.Proofs.YtighjcjmacajoaaGreatDoor
open Go Foot
abbrev eWn : Enc (List Int) := ⟨1,fun l => [.sl true 1 (rows eI l)],fun _ => rfl,by decide⟩
abbrev roWn (l : List (List Int)) : GB := .row 1 (rows eWn l)
def totL {α : Type} (sz : α → Int) : List α → Int
  | [] => 0
  | x :: xs => sz x + totL sz xs
def mkL {α : Type} (sz : α → Int) (mk : Int → α → α) : Int → List α → List α
  | _,[] => []
  | k,x :: xs => mk k x :: mkL sz mk (k + sz x) xs
theorem totL_app {α : Type} (sz : α → Int) : ∀ (xs ys : List α),totL sz (xs ++ ys) = totL sz xs + totL sz ys
  | [],ys => by simp [totL]
  | x :: xs,ys => by simp [totL,totL_app sz xs ys]; omega
theorem mkL_app {α : Type} (sz : α → Int) (mk : Int → α → α) : ∀ (k : Int) (xs ys : List α),mkL sz mk k (xs ++ ys) = mkL sz mk k xs ++ mkL sz mk (k + totL sz xs) ys
  | k,[],ys => by simp [mkL,totL]
  | k,x :: xs,ys => by simp [mkL,totL,mkL_app sz mk _ xs ys,Int.add_assoc]
theorem mkL_len {α : Type} (sz : α → Int) (mk : Int → α → α) : ∀ (k : Int) (xs : List α),(mkL sz mk k xs).length = xs.length
  | k,[] => rfl
  | k,x :: xs => by simp [mkL,mkL_len sz mk _ xs]
theorem totL_next {α : Type} (sz : α → Int) {xs : List α} {i : Int} (h0 : 0 ≤ i) (h : i.toNat < xs.length) : totL sz (xs.take (i + 1).toNat) = totL sz (xs.take i.toNat) + sz (xs[i.toNat]) := by
  rw [show (i + 1).toNat = i.toNat + 1 by omega,List.take_succ_eq_append_getElem h,totL_app]
  simp [totL]
theorem totL_bd {α : Type} (sz : α → Int) (b : Int) : ∀ {xs : List α},(∀ x ∈ xs,0 ≤ sz x ∧ sz x ≤ b) → 0 ≤ totL sz xs ∧ totL sz xs ≤ xs.length * b
  | [],_ => by simp [totL]
  | x :: xs,h => by
    have h1 := totL_bd sz b (xs := xs) (fun y hy => h y (by simp [hy]))
    have h2 := h x (by simp)
    simp only [totL,List.length_cons,Int.natCast_add,Int.add_mul,Int.natCast_one,Int.one_mul]
    omega
def mkT {α : Type} (sz : α → Int) (mk : Int → α → α) (k : Int) (xs : List α) (i : Nat) : List α := mkL sz mk k (xs.take i) ++ xs.drop i
theorem mkT_len {α : Type} (sz : α → Int) (mk : Int → α → α) (k : Int) (xs : List α) (i : Nat) (h : i ≤ xs.length) : (mkT sz mk k xs i).length = xs.length := by
  unfold mkT; rw [List.length_append,mkL_len,List.length_take,List.length_drop]; omega
theorem mkT_get {α : Type} (sz : α → Int) (mk : Int → α → α) (k : Int) (xs : List α) (i : Nat) (h : i < xs.length) (h' : i < (mkT sz mk k xs i).length) : (mkT sz mk k xs i)[i]'h' = xs[i] := by
  have e : (mkL sz mk k (xs.take i)).length = i := by rw [mkL_len,List.length_take]; omega
  have e2 : (mkT sz mk k xs i)[i]? = some xs[i] := by
    unfold mkT
    rw [List.getElem?_append_right (by omega),e,Nat.sub_self,List.getElem?_drop,Nat.add_zero,List.getElem?_eq_getElem h]
  rw [List.getElem?_eq_getElem h'] at e2
  exact Option.some.inj e2
theorem mkT_0 {α : Type} (sz : α → Int) (mk : Int → α → α) (k : Int) (xs : List α) : mkT sz mk k xs 0 = xs := by unfold mkT; simp [mkL]
theorem mkT_next {α : Type} (sz : α → Int) (mk : Int → α → α) (k : Int) (xs : List α) (i : Nat) (h : i < xs.length) : (mkT sz mk k xs i).set i (mk (k + totL sz (xs.take i)) xs[i]) = mkT sz mk k xs (i + 1) := by
  have e : (mkL sz mk k (xs.take i)).length = i := by rw [mkL_len,List.length_take]; omega
  unfold mkT
  rw [List.set_append_right _ _ (by omega),e,Nat.sub_self,List.drop_eq_getElem_cons h,List.set_cons_zero,List.take_succ_eq_append_getElem h,mkL_app]
  simp [mkL]
theorem mkT_end {α : Type} (sz : α → Int) (mk : Int → α → α) (k : Int) (xs : List α) : mkT sz mk k xs xs.length = mkL sz mk k xs := by unfold mkT; simp
abbrev szw (x : List Int) : Int := x.length
abbrev mkw (k : Int) (x : List Int) : List Int := marks k x.length
@[irreducible] def totW (xs : List (List Int)) : Int := totL szw xs
@[irreducible] def mksW (k : Int) (xs : List (List Int)) : List (List Int) := mkL szw mkw k xs
theorem preD7 {p : Prop} (h : p := by first | with_reducible assumption | omega | (simp only [List.length_append,List.length_cons,List.length_nil,List.length_set,List.length_replicate,List.length_take,List.length_drop,List.length_tail,List.length_dropLast,List.length_reverse] at *; omega) | exact mem_len (by assumption) (by omega) | (with_reducible refine Int.le_trans (Int.ofNat_le.2 (trimR_len _)) ?_; simp only [List.length_cons,List.length_tail]; omega) | (exact (ruAt_ok (by assumption) (by assumption) (by assumption)).2.1) | (exact (ruAt_ok (by assumption) (by assumption) (by assumption)).2.1) | (have := vMach_bd (by assumption); omega) | (simp only [mC_ch,mC_tu]; omega) | (have := vTag_bd (by assumption); omega) | (have := (‹Gd _ _›).le; omega) | (exact tgHalts_no (by assumption)) | (exact tgHead (by assumption) (by assumption) (by assumption)) | (exact Int.le_trans (tgStep_gd (by assumption) (by assumption) (by assumption) (by assumption)).le (by decide)) | (exact vTag_r (by assumption)) | (with_reducible refine Int.le_trans (Int.ofNat_le.2 (pushL_len _ _)) ?_; simp only [List.length_dropLast]; omega) | exact ls_at (by assumption) (by omega) | exact pt_gd (by assumption) | exact lv_at (by assumption) (by omega) | exact pt_gd (lv_at (by assumption) (by omega)) | exact (ask_ok (by assumption)).1 | exact (ask_ok (by assumption)).2.1 | exact (ask_ok (by assumption)).2.2.1 | exact (ask_ok (by assumption)).2.2.2 | (simp only [marks_len]; omega) | (simp only [marksR_len]; omega) | exact lns_at (by assumption) (by omega) | exact bgs_at (by assumption) (by omega) | trivial) : p := h
theorem markInt64SSn_ok (xs : List (List Int)) (k : Int) (h1 : 0 ≤ k) (h2 : k + totW xs ≤ 4611686018427387904) (hx : (xs.length : Int) ≤ 4611686018427) (hxs : ∀ x ∈ xs,(x.length : Int) ≤ 4611686018427) : Does Tryz.prog 82 [.one (.gv 0),.one (int k)] [roWn xs] (.one (int (k + totW xs))) [roWn (mksW k xs)] := by
  refine does_of (k := 1) Tryz.func82 rfl Tryz.ntmps82 rfl rfl fun w F0 S0 ρ0 => ?_
  dsimp only [argT,argH]
  repeat' first|(apply p3;(exact pu1);exact rfl)|refine cd ?_
  refine g_loop_id ?_
  refine loopK [0,4] [0] (fun y : Int × Int × List (List Int) => 0 ≤ y.1 ∧ y.1 ≤ xs.length ∧ y.2.1 = k + totL szw (xs.take y.1.toNat) ∧ y.2.2 = mkT szw mkw k xs y.1.toNat) (fun y => [(5,.one (int y.1)),(1,.one (int y.2.1))]) (fun y => [(0,roWn y.2.2)]) (fun y => (xs.length - y.1).toNat) ((0 : Int),k,xs) [0] (hI := ?_) (hr := ?_)
  · exact ⟨by simp,by simp,by simp [totL],(mkT_0 _ _ _ _).symm⟩
  · rintro ⟨i,k',l⟩ ⟨k1,k2,k3,k4⟩
    dsimp only [List.cons_append,List.nil_append] at *
    skip
    repeat' first|(apply p3;(first|exact pu1|exact puN|exact puC);exact rfl)|refine cdn ?_|refine g_reg (id := 2) ?_|refine g_reg (id := 5) ?_|((refine g_cond rfl (fun hc => ?_) (fun hc => ?_)) <;> (try simp only [dcB] at hc) <;> (try first|contradiction|(exfalso;omega)))
    · have hl := mkT_len szw mkw k xs i.toNat (by omega)
      rw [← k4] at hl
      have hi : i.toNat < xs.length := by omega
      have hg : l[i.toNat]'(by omega) = xs[i.toNat] := by subst k4; exact mkT_get _ _ _ _ _ hi _
      have hb := totL_bd szw 4611686018427 (xs := xs.take i.toNat) (fun x hx => ⟨by unfold szw; omega,hxs x (List.mem_of_mem_take hx)⟩)
      have hx2 := hxs _ (List.getElem_mem hi)
      have hn := totL_next szw k1 (xs := xs) hi
      have ht := totL_app szw (xs.take (i + 1).toNat) (xs.drop (i + 1).toNat)
      have hd := totL_bd szw 4611686018427 (xs := xs.drop (i + 1).toNat) (fun x hx => ⟨by unfold szw; omega,hxs x (List.mem_of_mem_drop hx)⟩)
      rw [List.take_append_drop] at ht
      unfold totW at h2
      have hs : szw xs[i.toNat] = (xs[i.toNat].length : Int) := rfl
      first | refine g_conv (t_qE (i := 0) (i.toNat) bnd rfl) ?_ | refine o_conv (t_qE (i := 0) (i.toNat) bnd rfl) ?_
      try dsimp only [List.map_cons,List.map_nil,List.set_cons_zero,List.set_cons_succ,List.length_cons,List.length_nil,List.cons_append,List.nil_append,Nat.reduceAdd,setRow]
      first | refine g_conv (t_open1 (i := 0) (k := 0) rfl rfl rfl) ?_ | refine o_conv (t_open1 (i := 0) (k := 0) rfl rfl rfl) ?_
      try dsimp only [List.map_cons,List.map_nil,List.set_cons_zero,List.set_cons_succ,List.length_cons,List.length_nil,List.cons_append,List.nil_append,Nat.reduceAdd,setRow]
      simp only [hg]
      repeat' first|(apply p3;(first|exact pu1|exact puX|exact puQ);exact rfl)|refine cdn ?_|refine g_reg (id := 4) ?_|(apply c4 0;exact callK1 (θ := [_]) (hD := (markInt64S_ok _ _ preD7 preD7 preD7));exact rfl;exact rfl;exact rfl;refine dM ?_)
      first | refine g_conv (t_close1 (i := 0) (j := 1) (k := 0) (m := 0) rfl rfl rfl rfl rfl) ?_ | refine o_conv (t_close1 (i := 0) (j := 1) (k := 0) (m := 0) rfl rfl rfl rfl rfl) ?_
      try dsimp only [List.map_cons,List.map_nil,List.set_cons_zero,List.set_cons_succ,List.length_cons,List.length_nil,List.cons_append,List.nil_append,Nat.reduceAdd,setRow]
      first | refine g_conv (t_uE (i := 0) (marks k' xs[i.toNat].length) bnd rfl rfl) ?_ | refine o_conv (t_uE (i := 0) (marks k' xs[i.toNat].length) bnd rfl rfl) ?_
      repeat' first|(apply p3;(first|exact pu1|exact a_add rfl rfl (by omega) (by omega));exact rfl)|refine cd ?_
      refine q_again (i + 1,k' + xs[i.toNat].length,l.set i.toNat (marks k' xs[i.toNat].length)) [0] (by exact stk) ?_ ?_
      · refine ⟨by dsimp only; omega,by dsimp only; omega,by dsimp only; omega,?_⟩
        dsimp only
        rw [show (i + 1).toNat = i.toNat + 1 by omega,← mkT_next szw mkw k xs i.toNat hi,← k3,← k4]
      · dsimp only; omega
    · have hl := mkT_len szw mkw k xs i.toNat (by omega)
      rw [← k4] at hl
      have hi : i.toNat = xs.length := by omega
      rw [hi,mkT_end] at k4
      rw [hi,List.take_length] at k3
      have e1 : totW xs = totL szw xs := by unfold totW; rfl
      have e2 : mksW k xs = mkL szw mkw k xs := by unfold mksW; rfl
      rw [e1,e2,← k3,← k4]
      skip
      repeat refine cr ?_
      refine ends_id ?_
      refine endK [] (h2 := ?_) (h3 := ?_) (nd := ?_)
      all_goals (repeat' first|exact ce0|refine ce ?_|refine ce2 ?_ ?_|(refine Or.inr (bx_eq rfl rfl ?_);(try dsimp only [C.ren,C.ren.all]);(try exact rfl))|exact SVLe.refl|refine ceb ?_)
      all_goals first | exact (show nodupB _ = true from rfl) | exact Or.inr rfl | (rfl)
end Go.Proofs.YtighjcjmacajoaaGreatDoor
end
section
set_option linter.unusedVariables false
namespace Go.Proofs.YtighjcjmacajoaaGreatDoor
open Go Foot
theorem bndQ {p : Prop} (h : p := by first | omega | (simp only [cnt,rows_len,List.length_cons,List.length_nil,Nat.mul_one,Nat.div_one]; omega)) : p := h
def qCv (g : Gh) (Q : Exit → St → Prop) : Exit → St → Prop := fun e st => ∃ st',Conv g st st' ∧ Q e st'
theorem g_cv {P : Program} {g : Gh} {c : Code} {st : St} {Q : Exit → St → Prop} (h : GWp P g c st (qCv g Q)) : GWp P g c st Q := ⟨fun a w S ρ F hr hf =>
  wpIn_mono (h.run a w S ρ F hr hf) fun e a w ⟨st,S,ρ,F,h1,h2,st',hc,h3⟩ => let ⟨S',ρ',F',k1,k2⟩ := hc a w S ρ F h1 h2; ⟨st',S',ρ',F',k1,k2,h3⟩⟩
theorem q_cv {g : Gh} {Q : Exit → St → Prop} {e : Exit} {st st' : St} (h : Conv g st st') (hk : qCv g Q e st') : qCv g Q e st :=
  let ⟨st2,h2,h3⟩ := hk
  ⟨st2,fun a w S ρ F hr hf => let ⟨S',ρ',F',k1,k2⟩ := h a w S ρ F hr hf; h2 a w S' ρ' F' k1 k2,h3⟩
theorem q_cv0 {g : Gh} {Q : Exit → St → Prop} {e : Exit} {st : St} (h : Q e st) : qCv g Q e st := ⟨st,fun _ _ S ρ F hr hf => ⟨S,ρ,F,hr,hf⟩,h⟩
end Go.Proofs.YtighjcjmacajoaaGreatDoor
end
section
set_option linter.unusedVariables false
set_option linter.unusedSimpArgs false
set_option maxRecDepth 100000
set_option maxHeartbeats 4000000
namespace Go.Proofs.YtighjcjmacajoaaGreatDoor
open Go Foot Go.RowKit
def wrI (p : Bs) : List Int := (rdW p).getD []
theorem wrI_le (p : Bs) : ((wrI p).length : Int) ≤ 400 := by
  unfold wrI
  cases h : rdW p with
  | none => simp
  | some w =>
    unfold rdW at h
    split at h
    · cases h; simp
    · split at h
      · next q =>
        cases h
        show ((dgI p).length : Int) ≤ 400
        rw [dgI,List.length_map]
        exact q.2.2
      · cases h
def nuI (p : Bs) : List Int := if p = [45] then [] else (numL (spl 44 p)).getD []
def woI (p : Bs) : List (List Int) := if p = [] then [] else (spl 44 p).map wrI
theorem nuI_le (p : Bs) : (nuI p).length ≤ p.length + 1 := by
  unfold nuI
  split
  · simp
  · cases h : numL (spl 44 p) with
    | none => simp
    | some w =>
      have := numL_len h
      have := spl_len 44 p
      rw [Option.getD_some]
      omega
theorem woI_le (p : Bs) : (woI p).length ≤ p.length + 1 := by
  unfold woI
  split
  · simp
  · rw [List.length_map]; exact spl_len 44 p
theorem woI_mem {p : Bs} {x : List Int} (h : x ∈ woI p) : (x.length : Int) ≤ 400 := by
  unfold woI at h
  split at h
  · cases h
  · obtain ⟨u,_,e⟩ := List.mem_map.1 h
    rw [← e]
    exact wrI_le u
@[irreducible] def prI (a b c : Bs) : Prf := ⟨ixS a pnams + 1,nuI b,woI c⟩
theorem ixS_bd (x : Bs) : ∀ l : List Bs,-1 ≤ ixS x l ∧ ixS x l < l.length
  | [] => by simp [ixS]
  | y :: l => by
    have ih := ixS_bd x l
    rw [ixS]
    simp only [List.length_cons]
    split
    · omega
    · split <;> omega
@[irreducible] def bI (s : Bs) : Bool := decide (((spl 58 s).length : Int) = 3) && (validP (prI ((spl 58 s).getD 0 []) ((spl 58 s).getD 1 []) ((spl 58 s).getD 2 [])) && decide (proT (prI ((spl 58 s).getD 0 []) ((spl 58 s).getD 1 []) ((spl 58 s).getD 2 [])) = s))
@[irreducible] def pI (s : Bs) : Prf := if bI s = true then prI ((spl 58 s).getD 0 []) ((spl 58 s).getD 1 []) ((spl 58 s).getD 2 []) else ⟨0,[],[]⟩
theorem pI_f {s : Bs} (h : bI s = false) : pI s = ⟨0,[],[]⟩ := by unfold pI; rw [h]; simp
theorem preB134 {p : Prop} (h : p := by first | with_reducible assumption | omega | (simp only [List.length_append,List.length_cons,List.length_nil,List.length_set,List.length_replicate,List.length_take,List.length_drop,List.length_tail,List.length_dropLast,List.length_reverse] at *; omega) | exact mem_len (by assumption) (by omega) | (with_reducible refine Int.le_trans (Int.ofNat_le.2 (trimR_len _)) ?_; simp only [List.length_cons,List.length_tail]; omega) | (exact (ruAt_ok (by assumption) (by assumption) (by assumption)).2.1) | (exact (ruAt_ok (by assumption) (by assumption) (by assumption)).2.1) | (have := vMach_bd (by assumption); omega) | (simp only [mC_ch,mC_tu]; omega) | (have := vTag_bd (by assumption); omega) | (have := (‹Gd _ _›).le; omega) | (exact tgHalts_no (by assumption)) | (exact tgHead (by assumption) (by assumption) (by assumption)) | (exact Int.le_trans (tgStep_gd (by assumption) (by assumption) (by assumption) (by assumption)).le (by decide)) | (exact vTag_r (by assumption)) | (with_reducible refine Int.le_trans (Int.ofNat_le.2 (pushL_len _ _)) ?_; simp only [List.length_dropLast]; omega) | exact ls_at (by assumption) (by omega) | exact pt_gd (by assumption) | exact lv_at (by assumption) (by omega) | exact pt_gd (lv_at (by assumption) (by omega)) | exact (ask_ok (by assumption)).1 | exact (ask_ok (by assumption)).2.1 | exact (ask_ok (by assumption)).2.2.1 | exact (ask_ok (by assumption)).2.2.2 | trivial) : p := h
theorem ReadProofI_ok (s : Bs) (hs : (s.length : Int) ≤ 1048576) : Does Tryz.prog 89 [.one (str s)] [] (.tup [(true,[int (pI s).k,.gv 0,.gv 1]),(false,[boo (bI s)])]) [roI (pI s).nu,roWn (pI s).wo] := by
  have hpn : (pnams.length : Int) ≤ 16777216 := by decide
  obtain ⟨ps,eps⟩ : ∃ ps,ps = spl 58 s := ⟨_,rfl⟩
  have hpe := spl_el 58 s
  have hpl := spl_len 58 s
  rw [← eps] at hpe hpl
  have ebI : bI s = (decide ((ps.length : Int) = 3) && (validP (prI (ps.getD 0 []) (ps.getD 1 []) (ps.getD 2 [])) && decide (proT (prI (ps.getD 0 []) (ps.getD 1 []) (ps.getD 2 [])) = s))) := by unfold bI; rw [← eps]
  by_cases h3 : (ps.length : Int) = 3
  · have l0 : (0 : Int).toNat * 1 < ps.length := by show 0 < ps.length; omega
    have l1 : (1 : Int).toNat * 1 < ps.length := by show 1 < ps.length; omega
    have l2 : (2 : Int).toNat * 1 < ps.length := by show 2 < ps.length; omega
    obtain ⟨p0,e0⟩ : ∃ p,ps[(0 : Int).toNat * 1]'l0 = p := ⟨_,rfl⟩
    obtain ⟨p1,e1⟩ : ∃ p,ps[(1 : Int).toNat * 1]'l1 = p := ⟨_,rfl⟩
    obtain ⟨p2,e2⟩ : ∃ p,ps[(2 : Int).toNat * 1]'l2 = p := ⟨_,rfl⟩
    have f0 : ps.getD 0 [] = p0 := by rw [List.getD_eq_getElem?_getD,List.getElem?_eq_getElem (show 0 < ps.length by omega)]; exact e0
    have f1 : ps.getD 1 [] = p1 := by rw [List.getD_eq_getElem?_getD,List.getElem?_eq_getElem (show 1 < ps.length by omega)]; exact e1
    have f2 : ps.getD 2 [] = p2 := by rw [List.getD_eq_getElem?_getD,List.getElem?_eq_getElem (show 2 < ps.length by omega)]; exact e2
    have g1 : p1.length ≤ s.length := by rw [← e1]; exact (hpe _ (List.getElem_mem l1)).1
    have g2 : p2.length ≤ s.length := by rw [← e2]; exact (hpe _ (List.getElem_mem l2)).1
    have hx := ixS_bd (ps[(0 : Int).toNat * 1]'l0) pnams
    have hpl8 : pnams.length = 8 := by decide
    rw [hpl8] at hx
    refine does_of (k := 0) Tryz.func89 rfl Tryz.ntmps89 rfl rfl fun w F0 S0 ρ0 => ?_
    dsimp only [argT,argH]
    repeat' first|(apply n3;exact a_new (gb := .bx _) rfl;exact rfl;refine dA ?_)|(apply p3;exact pu1;exact rfl)|refine cdn ?_|refine g_reg (id := 0) ?_|refine g_reg (id := 1) ?_|(apply c4 1;exact callK1 (θ := []) (hD := (Split_ok s 58 hs));exact rfl;exact rfl;exact rfl;refine dM ?_)|((first|refine o_gs rfl rfl (fun hc => ?_) (fun hc => ?_)|refine g_cond rfl (fun hc => ?_) (fun hc => ?_)) <;> (try simp only [dcB] at hc) <;> (try first|contradiction|(exfalso;omega)))
    rw [← eps]
    repeat' first|(apply n3;exact a_new (gb := .bx _) rfl;exact rfl;refine dA ?_)|(apply p3;(first|exact pu1|exact puN|exact a_len_str rfl (fT rfl)|exact a_ne rfl rfl|exact a_neS rfl rfl rfl);exact rfl)|refine cdn ?_|refine g_reg (id := 0) ?_|refine g_reg (id := 1) ?_|refine g_reg (id := 2) ?_|refine g_reg (id := 3) ?_|(apply w3;exact a_st_bx rfl rfl rfl rfl (fN rfl rfl) (Nat.le_of_ble_eq_true rfl) rfl;exact rfl;refine dS ?_)|(apply c4 1;exact callK1 (θ := []) (hD := (Split_ok s 58 hs));exact rfl;exact rfl;exact rfl;refine dM ?_)|((first|refine o_gs rfl rfl (fun hc => ?_) (fun hc => ?_)|refine g_cond rfl (fun hc => ?_) (fun hc => ?_)) <;> (try simp only [dcB] at hc) <;> (try first|contradiction|(exfalso;omega)))
    repeat' first|(apply n3;exact a_new (gb := .bx _) rfl;exact rfl;refine dA ?_)|(apply p3;(first|exact pu1|exact puN|exact a_len_str rfl (fT rfl)|exact a_ne rfl rfl|exact a_neS rfl rfl rfl);exact rfl)|refine cdn ?_|refine g_reg (id := 0) ?_|refine g_reg (id := 1) ?_|refine g_reg (id := 2) ?_|refine g_reg (id := 3) ?_|(apply w3;exact a_st_bx rfl rfl rfl rfl (fN rfl rfl) (Nat.le_of_ble_eq_true rfl) rfl;exact rfl;refine dS ?_)|(apply c4 1;exact callK1 (θ := []) (hD := (Split_ok s 58 hs));exact rfl;exact rfl;exact rfl;refine dM ?_)|(apply g_drN (id := 4) okM [[],[],[1],[1,2],[0,1,2,3],[0,1,2,3,4],[0,1,2,3,4,5],[],[0,1,2,3,4,5,6,7]] [([],[]),([],[]),([],[]),([],[]),([],[]),([],[]),([],[]),([0],[]),([],[2])] 1;(focus (refine dp 0 0 [17,18,19,5] [(true,0)] (callFD 0 (hD := proofNames_ok)) ?_;refine dp 1 0 [16,5] [(true,0)] pu1 ?_;refine dp 2 1 [16,5] [(true,0)] puI ?_;refine dp 3 3 [16,5] [(true,0)] (by first|exact a_pure (sv := .one _) rfl|exact a_ld_rowS rfl rfl rfl (fC rfl) bnd) ?_;refine dp 4 15 [5] [(true,0)] (callD1 (n := _) 0 (θ := []) (hD := (IndexS_ok pnams (ps[(0 : Int).toNat * 1]'l0) hpn))) ?_;refine dp 5 31 [5] [(true,0)] (a_add rfl rfl (by omega) (by omega)) ?_;refine dp 6 63 [5] [(true,0)] (a_pure (sv := .agg _) rfl) ?_;refine duE 7 0 [16,17,18,19,20,21,22] [] (atN 0 (fun _ => a_new (gb := .bx _) rfl)) (by exact rfl) (by exact rfl) ?_;refine duE 8 255 [] [] (a_st_bx rfl rfl rfl rfl (fN rfl rfl) (Nat.le_of_ble_eq_true rfl) rfl) (by exact rfl) (by exact rfl) ?_;(refine d_nil ?_;refine dN ?_)));any_goals kernel_rfl)|((first|refine o_gs rfl rfl (fun hc => ?_) (fun hc => ?_)|refine g_cond rfl (fun hc => ?_) (fun hc => ?_)) <;> (try simp only [dcB] at hc) <;> (try first|contradiction|(exfalso;omega)))
    simp only [setRow,List.map_cons,List.map_nil,scC,List.set_cons_zero,List.set_cons_succ,Nat.zero_add,List.getElem?_cons_zero,List.getElem?_cons_succ,List.take_succ_cons,List.take_zero,List.drop_zero]
    rw [e0]
    refine g_conv (t_nilB (i := 2) (k := 1) (z := 1) rfl rfl rfl (by decide)) ?_
    try dsimp only [setRow,List.map_cons,List.map_nil,scC,List.set_cons_zero,List.set_cons_succ,Nat.reduceAdd]
    refine g_conv (t_nilB (i := 2) (k := 2) (z := 1) rfl rfl rfl (by decide)) ?_
    try dsimp only [setRow,List.map_cons,List.map_nil,scC,List.set_cons_zero,List.set_cons_succ,Nat.reduceAdd]
    repeat' first|(apply n3;exact a_new (gb := .bx _) rfl;exact rfl;refine dA ?_)|(apply p3;(first|exact pu1|exact puN|exact a_len_str rfl (fT rfl)|exact a_ne rfl rfl|exact a_neS rfl rfl rfl|exact a_ld_rowS rfl rfl rfl (fC rfl) bnd|exact a_neT rfl rfl|exact puI);exact rfl)|refine cd ?_|(apply w3;exact a_st_bx rfl rfl rfl rfl (fN rfl rfl) (Nat.le_of_ble_eq_true rfl) rfl;exact rfl;refine dS ?_)|(apply c4 1;exact callK1 (θ := []) (hD := (Split_ok s 58 hs));exact rfl;exact rfl;exact rfl;refine dM ?_)|(apply g_drN (id := 4) okM [[],[],[1],[1,2],[0,1,2,3],[0,1,2,3,4],[0,1,2,3,4,5],[],[0,1,2,3,4,5,6,7]] [([],[]),([],[]),([],[]),([],[]),([],[]),([],[]),([],[]),([0],[]),([],[2])] 1;(focus (refine dp 0 0 [17,18,19,5] [(true,0)] (callFD 0 (hD := proofNames_ok)) ?_;refine dp 1 0 [16,5] [(true,0)] pu1 ?_;refine dp 2 1 [16,5] [(true,0)] puI ?_;refine dp 3 3 [16,5] [(true,0)] (by first|exact a_pure (sv := .one _) rfl|exact a_ld_rowS rfl rfl rfl (fC rfl) bnd) ?_;refine dp 4 15 [5] [(true,0)] (callD1 (n := _) 0 (θ := []) (hD := (IndexS_ok pnams (ps[(0 : Int).toNat * 1]'l0) hpn))) ?_;refine dp 5 31 [5] [(true,0)] (a_add rfl rfl (by omega) (by omega)) ?_;refine dp 6 63 [5] [(true,0)] (a_pure (sv := .agg _) rfl) ?_;refine duE 7 0 [16,17,18,19,20,21,22] [] (atN 0 (fun _ => a_new (gb := .bx _) rfl)) (by exact rfl) (by exact rfl) ?_;refine duE 8 255 [] [] (a_st_bx rfl rfl rfl rfl (fN rfl rfl) (Nat.le_of_ble_eq_true rfl) rfl) (by exact rfl) (by exact rfl) ?_;(refine d_nil ?_;refine dN ?_)));any_goals kernel_rfl)|(refine o_gs rfl rfl (fun hc => ?_) (fun hc => ?_) <;> (try simp only [dcB] at hc) <;> (try first|contradiction|(exfalso;omega)))|(refine g_cond (c := .tmp 14) rfl (fun hc => ?_) (fun hc => ?_) <;> (try simp only [dcB] at hc) <;> (try (first|contradiction|(exfalso;omega))))|(refine g_cond (c := .tmp 38) rfl (fun hc => ?_) (fun hc => ?_) <;> (try simp only [dcB] at hc) <;> (try (first|contradiction|(exfalso;omega))))|(refine g_cond (c := .tmp 45) rfl (fun hc => ?_) (fun hc => ?_) <;> (try simp only [dcB] at hc) <;> (try (first|contradiction|(exfalso;omega))))|(refine g_cond (c := .tmp 68) rfl (fun hc => ?_) (fun hc => ?_) <;> (try simp only [dcB] at hc) <;> (try (first|contradiction|(exfalso;omega))))
    simp only [e1]
    refine cutK [0,2,3,4,5] [3] (fun y : List Int => y = nuI p1) (fun _ => []) (fun y => [(3,roI y)]) (hc := ?_) (hk := ?_)
    · repeat' first|(apply p3;(first|exact pu1|exact a_ld_rowS rfl rfl rfl (fC rfl) bnd|exact puI);exact rfl)|refine cd ?_|(apply w3;(first|exact a_st_bx rfl rfl rfl rfl (fN rfl rfl) (Nat.le_of_ble_eq_true rfl) rfl|exact a_stE (E := eW) _ rfl rfl rfl rfl (fN rfl rfl) bnd (by exact rfl));exact rfl;refine dS ?_)|(apply c4 1;exact callK1 (θ := []) (hD := (ReadDecsG_ok (ps[(1 : Int).toNat * 1]'l1) (by rw [e1];omega)));exact rfl;exact rfl;exact rfl;refine dM ?_)|((first|refine o_gs rfl rfl (fun hc => ?_) (fun hc => ?_)|refine g_cond rfl (fun hc => ?_) (fun hc => ?_)) <;> (try simp only [dcB] at hc) <;> (try first|contradiction|(exfalso;omega)))
      · rw [e1]
        refine q_here ((numL (spl 44 p1)).getD []) [0,1,2,5,4] (by exact stk) ?_
        unfold nuI; rw [if_neg (by assumption)]
      · refine q_here [] [0,1,2,3,4] (by exact stk) ?_
        unfold nuI; rw [if_pos (by assumption)]
    rintro _ rfl
    dsimp only [List.cons_append,List.nil_append] at *
    skip
    repeat' first|(apply p3;(first|exact pu1|exact a_ld_rowS rfl rfl rfl (fC rfl) bnd|exact a_neT rfl rfl|exact puI);exact rfl)|refine cd ?_|(refine o_gs rfl rfl (fun hc => ?_) (fun hc => ?_) <;> (try simp only [dcB] at hc) <;> (try first|contradiction|(exfalso;omega)))|(refine g_cond (c := .tmp 14) rfl (fun hc => ?_) (fun hc => ?_) <;> (try simp only [dcB] at hc) <;> (try (first|contradiction|(exfalso;omega))))|(refine g_cond (c := .tmp 26) rfl (fun hc => ?_) (fun hc => ?_) <;> (try simp only [dcB] at hc) <;> (try (first|contradiction|(exfalso;omega))))|(refine g_cond (c := .tmp 45) rfl (fun hc => ?_) (fun hc => ?_) <;> (try simp only [dcB] at hc) <;> (try (first|contradiction|(exfalso;omega))))|(refine g_cond (c := .tmp 68) rfl (fun hc => ?_) (fun hc => ?_) <;> (try simp only [dcB] at hc) <;> (try (first|contradiction|(exfalso;omega))))
    simp only [e2]
    have hq2 := spl_len 44 p2
    have hqe := spl_el 44 p2
    refine cutK [0,2,3,5] [4] (fun y : List (List Int) => y = woI p2) (fun _ => []) (fun y => [(4,roWn y)]) (hc := ?_) (hk := ?_)
    · repeat' first|(apply n3;(first|exact a_litE eW [_] rfl rfl rfl rfl rfl rfl rfl rfl|exact a_appN (fP rfl) rfl rfl rfl nowR (by first|omega|(simp;omega)) (by decide) (by exact rfl));exact rfl;refine dA ?_)|(apply p3;(first|exact pu1|exact puL|exact a_ld_rowS rfl rfl rfl (fC rfl) bnd|exact puN|exact a_len_str rfl (fT rfl)|exact puC|exact a_add rfl rfl (by omega) (by omega)|exact puI);exact rfl)|refine cd ?_|(apply s3;exact a_appE (fP rfl) rfl rfl rfl rfl nowR (by first|omega|(simp;omega)) (by decide) (by decide) (by exact rfl);exact rfl;exact rfl)|(apply w3;exact a_st_bx rfl rfl rfl rfl (fN rfl rfl) (Nat.le_of_ble_eq_true rfl) rfl;exact rfl;refine dS ?_)|(apply c4 1;exact callK1 (θ := []) (hD := (Split_ok s 58 hs));exact rfl;exact rfl;exact rfl;refine dM ?_)|(apply c4 1;exact callK1 (θ := []) (hD := (Split_ok (ps[(2 : Int).toNat * 1]'l2) 44 (by rw [e2];omega)));exact rfl;exact rfl;exact rfl;refine dM ?_)|(apply c4 1;exact callK1 (θ := []) (hD := (ReadWord_ok _ preB134));exact rfl;exact rfl;exact rfl;refine dM ?_)|((first|refine o_gs rfl rfl (fun hc => ?_) (fun hc => ?_)|refine g_cond rfl (fun hc => ?_) (fun hc => ?_)) <;> (try simp only [dcB] at hc) <;> (try first|contradiction|(exfalso;omega)))
      · simp only [e2]
        obtain ⟨cs,ecs⟩ : ∃ cs,cs = spl 44 p2 := ⟨_,rfl⟩
        have ew : woI p2 = cs.map wrI := by unfold woI; rw [if_neg (by assumption),ecs]
        rw [← ecs] at hq2 hqe
        rw [← ecs]
        refine g_loop_id ?_
        refine loopK [0,2,3,5,42,43] [4] (fun y : Int × List (List Int) => 0 ≤ y.1 ∧ y.1 ≤ cs.length ∧ y.2 = (cs.take y.1.toNat).map wrI) (fun y => [(44,.one (int y.1))]) (fun y => [(4,roWn y.2)]) (fun y => (cs.length - y.1).toNat) ((0 : Int),([] : List (List Int))) [0,1,2,3,4,5] (hI := ?_) (hr := ?_)
        · exact ⟨by simp,by simp,by simp⟩
        · rintro ⟨i,l⟩ ⟨h0,h1,h2⟩
          dsimp only [List.cons_append,List.nil_append] at *
          skip
          repeat' first|(apply p3;(first|exact pu1|exact puL|exact puC|exact a_ld_rowS rfl rfl rfl (fC rfl) bnd|exact a_neT rfl rfl|exact puI);exact rfl)|refine cdn ?_|refine g_reg (id := 9) ?_|refine g_reg (id := 10) ?_|refine g_reg (id := 14) ?_|refine g_reg (id := 15) ?_|refine g_reg (id := 16) ?_|(apply w3;exact a_st_bx rfl rfl rfl rfl (fN rfl rfl) (Nat.le_of_ble_eq_true rfl) rfl;exact rfl;refine dS ?_)|(apply c4 0;exact callK1 (θ := []) (hD := (ValidProof_ok _ preB134 preB134 preB134));exact rfl;exact rfl;exact rfl;refine dM ?_)|(apply c4 0;exact callK1 (θ := []) (hD := (ProofText_ok _ preB134));exact rfl;exact rfl;exact rfl;refine dM ?_)|refine o_no rfl rfl rfl rfl ?_|refine o_noN rfl rfl rfl ?_|(apply py3;exact rfl;exact rfl;(first|exact pu1|exact puL|exact puC|exact a_ld_rowS rfl rfl rfl (fC rfl) bnd|exact a_neT rfl rfl|exact puI);exact rfl;exact rfl)|(apply cy4 0;exact rfl;exact rfl;exact callK1 (θ := []) (hD := (ValidProof_ok _ preB134 preB134 preB134));exact rfl;exact rfl;exact rfl;exact rfl;refine dM ?_)|(apply cy4 0;exact rfl;exact rfl;exact callK1 (θ := []) (hD := (ProofText_ok _ preB134));exact rfl;exact rfl;exact rfl;exact rfl;refine dM ?_)|((first|refine o_gs rfl rfl (fun hc => ?_) (fun hc => ?_)|refine g_cond rfl (fun hc => ?_) (fun hc => ?_)) <;> (try simp only [dcB] at hc) <;> (try first|contradiction|(exfalso;omega)))
          · have hi : i.toNat < cs.length := by omega
            have hi1 : i.toNat * 1 < cs.length := by omega
            have hy := (hqe _ (List.getElem_mem hi)).1
            have hy1 : ((cs[i.toNat * 1]'hi1).length : Int) ≤ 1048576 := by simp only [Nat.mul_one]; omega
            have hll : l.length ≤ cs.length := by rw [h2,List.length_map,List.length_take]; omega
            have hsn : (cs.take (i + 1).toNat).map wrI = l ++ [(rdW (cs[i.toNat * 1]'hi1)).getD []] := by
              rw [show (i + 1).toNat = i.toNat + 1 by omega,List.take_succ_eq_append_getElem hi,List.map_append,← h2]
              simp only [Nat.mul_one]
              rfl
            repeat' first|(apply p3;(first|exact pu1|exact puL|exact puC|exact a_ld_rowS rfl rfl rfl (fC rfl) bnd|exact a_neT rfl rfl|exact puI);exact rfl)|refine cdn ?_|refine g_reg (id := 9) ?_|refine g_reg (id := 10) ?_|refine g_reg (id := 11) ?_|refine g_reg (id := 14) ?_|refine g_reg (id := 15) ?_|refine g_reg (id := 16) ?_|(apply w3;exact a_st_bx rfl rfl rfl rfl (fN rfl rfl) (Nat.le_of_ble_eq_true rfl) rfl;exact rfl;refine dS ?_)|(apply c4 1;exact callK1 (θ := []) (hD := (ReadWord_ok (cs[i.toNat * 1]'hi1) hy1));exact rfl;exact rfl;exact rfl;refine dM ?_)|(apply c4 0;exact callK1 (θ := []) (hD := (ValidProof_ok _ preB134 preB134 preB134));exact rfl;exact rfl;exact rfl;refine dM ?_)|(apply c4 0;exact callK1 (θ := []) (hD := (ProofText_ok _ preB134));exact rfl;exact rfl;exact rfl;refine dM ?_)|refine o_no rfl rfl rfl rfl ?_|refine o_noN rfl rfl rfl ?_|(apply py3;exact rfl;exact rfl;(first|exact pu1|exact puL|exact puC|exact a_ld_rowS rfl rfl rfl (fC rfl) bnd|exact a_neT rfl rfl|exact puI);exact rfl;exact rfl)|(apply cy4 1;exact rfl;exact rfl;exact callK1 (θ := []) (hD := (ReadWord_ok (cs[i.toNat * 1]'hi1) hy1));exact rfl;exact rfl;exact rfl;exact rfl;refine dM ?_)|(apply cy4 0;exact rfl;exact rfl;exact callK1 (θ := []) (hD := (ValidProof_ok _ preB134 preB134 preB134));exact rfl;exact rfl;exact rfl;exact rfl;refine dM ?_)|(apply cy4 0;exact rfl;exact rfl;exact callK1 (θ := []) (hD := (ProofText_ok _ preB134));exact rfl;exact rfl;exact rfl;exact rfl;refine dM ?_)|((first|refine o_gs rfl rfl (fun hc => ?_) (fun hc => ?_)|refine g_cond rfl (fun hc => ?_) (fun hc => ?_)) <;> (try simp only [dcB] at hc) <;> (try first|contradiction|(exfalso;omega)))
            repeat' first|(apply n3;exact (by exact a_litQ (fP rfl) (by decide) rfl (by decide) rfl rfl rfl);exact rfl;refine dA ?_)|(apply p3;(first|exact pu1|exact puL|exact puC|exact a_ld_rowS rfl rfl rfl (fC rfl) bnd|exact a_neT rfl rfl|exact puI);exact rfl)|refine cdn ?_|refine g_reg (id := 9) ?_|refine g_reg (id := 10) ?_|refine g_reg (id := 11) ?_|refine g_reg (id := 12) ?_|refine g_reg (id := 14) ?_|refine g_reg (id := 15) ?_|refine g_reg (id := 16) ?_|(apply s3;exact a_appQ (fP rfl) rfl rfl rfl rfl qno bndQ bndQ (by decide);exact rfl;exact rfl)|(apply w3;exact a_st_bx rfl rfl rfl rfl (fN rfl rfl) (Nat.le_of_ble_eq_true rfl) rfl;exact rfl;refine dS ?_)|(apply c4 1;exact callK1 (θ := []) (hD := (ReadWord_ok (cs[i.toNat * 1]'hi1) hy1));exact rfl;exact rfl;exact rfl;refine dM ?_)|(apply c4 0;exact callK1 (θ := []) (hD := (ValidProof_ok _ preB134 preB134 preB134));exact rfl;exact rfl;exact rfl;refine dM ?_)|(apply c4 0;exact callK1 (θ := []) (hD := (ProofText_ok _ preB134));exact rfl;exact rfl;exact rfl;refine dM ?_)|refine o_no rfl rfl rfl rfl ?_|refine o_noN rfl rfl rfl ?_|(apply py3;exact rfl;exact rfl;(first|exact pu1|exact puL|exact puC|exact a_ld_rowS rfl rfl rfl (fC rfl) bnd|exact a_neT rfl rfl|exact puI);exact rfl;exact rfl)|(apply ny3;exact rfl;exact rfl;exact (by exact a_litQ (fP rfl) (by decide) rfl (by decide) rfl rfl rfl);exact rfl;exact rfl)|(apply cy4 1;exact rfl;exact rfl;exact callK1 (θ := []) (hD := (ReadWord_ok (cs[i.toNat * 1]'hi1) hy1));exact rfl;exact rfl;exact rfl;exact rfl;refine dM ?_)|(apply cy4 0;exact rfl;exact rfl;exact callK1 (θ := []) (hD := (ValidProof_ok _ preB134 preB134 preB134));exact rfl;exact rfl;exact rfl;exact rfl;refine dM ?_)|(apply cy4 0;exact rfl;exact rfl;exact callK1 (θ := []) (hD := (ProofText_ok _ preB134));exact rfl;exact rfl;exact rfl;exact rfl;refine dM ?_)|((first|refine o_gs rfl rfl (fun hc => ?_) (fun hc => ?_)|refine g_cond rfl (fun hc => ?_) (fun hc => ?_)) <;> (try simp only [dcB] at hc) <;> (try first|contradiction|(exfalso;omega)))
            first | refine g_conv (t_close1 (i := 8) (j := 6) (k := 0) (m := 0) rfl rfl rfl rfl rfl) ?_ | refine o_conv (t_close1 (i := 8) (j := 6) (k := 0) (m := 0) rfl rfl rfl rfl rfl) ?_
            try dsimp only [List.map_cons,List.map_nil,List.set_cons_zero,List.set_cons_succ,List.length_cons,List.length_nil,List.cons_append,List.nil_append,Nat.reduceAdd,setRow]
            first | refine g_conv (t_uA (i := 8) [(rdW (cs[i.toNat * 1]'hi1)).getD []] rfl rfl) ?_ | refine o_conv (t_uA (i := 8) [(rdW (cs[i.toNat * 1]'hi1)).getD []] rfl rfl) ?_
            repeat' first|(apply n3;(first|exact a_litE eW [_] rfl rfl rfl rfl rfl rfl rfl rfl|exact a_appN (fP rfl) rfl rfl rfl nowR (by first|omega|(simp;omega)) (by decide) (by exact rfl));exact rfl;refine dA ?_)|(apply p3;(first|exact pu1|exact puL|exact puC|exact a_ld_rowS rfl rfl rfl (fC rfl) bnd|exact a_add rfl rfl (by omega) (by omega)|exact a_neT rfl rfl|exact puI);exact rfl)|refine cd ?_|(apply s3;exact a_appE (fP rfl) rfl rfl rfl rfl nowR (by first|omega|(simp;omega)) (by decide) (by decide) (by exact rfl);exact rfl;exact rfl)|(apply w3;exact a_st_bx rfl rfl rfl rfl (fN rfl rfl) (Nat.le_of_ble_eq_true rfl) rfl;exact rfl;refine dS ?_)|(apply c4 1;exact callK1 (θ := []) (hD := (ReadWord_ok (cs[i.toNat * 1]'hi1) hy1));exact rfl;exact rfl;exact rfl;refine dM ?_)|(apply c4 0;exact callK1 (θ := []) (hD := (ValidProof_ok _ preB134 preB134 preB134));exact rfl;exact rfl;exact rfl;refine dM ?_)|(apply c4 0;exact callK1 (θ := []) (hD := (ProofText_ok _ preB134));exact rfl;exact rfl;exact rfl;refine dM ?_)|refine o_no rfl rfl rfl rfl ?_|refine o_noN rfl rfl rfl ?_|(apply py3;exact rfl;exact rfl;(first|exact pu1|exact puL|exact puC|exact a_ld_rowS rfl rfl rfl (fC rfl) bnd|exact a_add rfl rfl (by omega) (by omega)|exact a_neT rfl rfl|exact puI);exact rfl;exact rfl)|(apply ny3;exact rfl;exact rfl;(first|exact a_litE eW [_] rfl rfl rfl rfl rfl rfl rfl rfl|exact a_appN (fP rfl) rfl rfl rfl nowR (by first|omega|(simp;omega)) (by decide) (by exact rfl));exact rfl;exact rfl)|(apply cy4 1;exact rfl;exact rfl;exact callK1 (θ := []) (hD := (ReadWord_ok (cs[i.toNat * 1]'hi1) hy1));exact rfl;exact rfl;exact rfl;exact rfl;refine dM ?_)|(apply cy4 0;exact rfl;exact rfl;exact callK1 (θ := []) (hD := (ValidProof_ok _ preB134 preB134 preB134));exact rfl;exact rfl;exact rfl;exact rfl;refine dM ?_)|(apply cy4 0;exact rfl;exact rfl;exact callK1 (θ := []) (hD := (ProofText_ok _ preB134));exact rfl;exact rfl;exact rfl;exact rfl;refine dM ?_)|((first|refine o_gs rfl rfl (fun hc => ?_) (fun hc => ?_)|refine g_cond rfl (fun hc => ?_) (fun hc => ?_)) <;> (try simp only [dcB] at hc) <;> (try first|contradiction|(exfalso;omega)))
            refine q_again (i + 1,l ++ [(rdW (cs[i.toNat * 1]'hi1)).getD []]) [0,1,2,3,8,5] (by exact stk) ?_ ?_
            · exact ⟨by dsimp only; omega,by dsimp only; omega,hsn.symm⟩
            · dsimp only; omega
          · refine q_here l [0,1,2,3,4] (by exact stk) ?_
            rw [h2,List.take_of_length_le (by omega),ew]
      · refine q_here [] [0,1,2,3,4] (by exact stk) ?_
        unfold woI; rw [if_pos (by assumption)]
    rintro _ rfl
    dsimp only [List.cons_append,List.nil_append] at *
    skip
    repeat' first|refine cdn ?_|((first|refine o_gs rfl rfl (fun hc => ?_) (fun hc => ?_)|refine g_cond rfl (fun hc => ?_) (fun hc => ?_)) <;> (try simp only [dcB] at hc) <;> (try first|contradiction|(exfalso;omega)))
    have epr : prI (ps.getD 0 []) (ps.getD 1 []) (ps.getD 2 []) = ⟨ixS p0 pnams + 1,nuI p1,woI p2⟩ := by rw [f0,f1,f2]; unfold prI; rfl
    rw [epr] at ebI
    have d1 := nuI_le p1
    have d2 := woI_le p2
    have d3 : ∀ x ∈ woI p2,(x.length : Int) ≤ 16777216 := by
      intro x hx
      have := woI_mem hx
      omega
    have d4 : ((nuI p1).length : Int) ≤ 16777216 := by omega
    have d5 : ((woI p2).length : Int) ≤ 16777216 := by omega
    have hpi : pI s = if bI s = true then ⟨ixS p0 pnams + 1,nuI p1,woI p2⟩ else ⟨0,[],[]⟩ := by unfold pI; rw [← eps,epr]
    obtain ⟨b,hb⟩ : ∃ b,bI s = b := ⟨_,rfl⟩
    rw [hpi,hb]
    rw [ebI,decide_eq_true h3,Bool.true_and] at hb
    cases hv : validP ⟨ixS p0 pnams + 1,nuI p1,woI p2⟩ with
    | false =>
      rw [hv,Bool.false_and] at hb
      subst hb
      have hvn : ¬ validP ⟨ixS p0 pnams + 1,nuI p1,woI p2⟩ = true := by rw [hv]; decide
      simp only [Bool.false_eq_true,if_false]
      repeat' first|(apply p3;(first|exact pu1|exact puL|exact a_neT rfl rfl);exact rfl)|refine cd ?_|(apply w3;exact a_st_bx rfl rfl rfl rfl (fN rfl rfl) (Nat.le_of_ble_eq_true rfl) rfl;exact rfl;refine dS ?_)|(apply c4 0;exact callK1 (θ := []) (hD := (ValidProof_ok ⟨ixS p0 pnams + 1,nuI p1,woI p2⟩ d4 d5 d3));exact rfl;exact rfl;exact rfl;refine dM ?_)|(apply c4 0;exact callK1 (θ := []) (hD := (ProofText_ok _ preB134));exact rfl;exact rfl;exact rfl;refine dM ?_)|refine o_no rfl rfl rfl rfl ?_|refine o_noN rfl rfl rfl ?_|(apply py3;exact rfl;exact rfl;(first|exact pu1|exact puL|exact a_neT rfl rfl);exact rfl;exact rfl)|(apply cy4 0;exact rfl;exact rfl;exact callK1 (θ := []) (hD := (ValidProof_ok ⟨ixS p0 pnams + 1,nuI p1,woI p2⟩ d4 d5 d3));exact rfl;exact rfl;exact rfl;exact rfl;refine dM ?_)|(apply cy4 0;exact rfl;exact rfl;exact callK1 (θ := []) (hD := (ProofText_ok _ preB134));exact rfl;exact rfl;exact rfl;exact rfl;refine dM ?_)|((first|refine o_gs rfl rfl (fun hc => ?_) (fun hc => ?_)|refine g_cond rfl (fun hc => ?_) (fun hc => ?_)) <;> (try simp only [dcB] at hc) <;> (try first|contradiction|(exfalso;omega)))
      refine g_conv (t_nilB (i := 0) (k := 1) (z := 1) rfl rfl rfl (by decide)) ?_
      try dsimp only [setRow,List.map_cons,List.map_nil,scC,List.set_cons_zero,List.set_cons_succ,Nat.reduceAdd]
      refine g_conv (t_nilB (i := 0) (k := 2) (z := 1) rfl rfl rfl (by decide)) ?_
      try dsimp only [setRow,List.map_cons,List.map_nil,scC,List.set_cons_zero,List.set_cons_succ,Nat.reduceAdd]
      repeat refine cr ?_
      refine ends_id ?_
      refine endK [?_,?_] (h2 := ?_) (h3 := ?_) (nd := ?_)
      rotate_left 2
      all_goals (repeat' first|exact ce0|refine ce ?_|refine ce2 ?_ ?_|(refine Or.inr (bx_eq rfl rfl ?_);(try dsimp only [C.ren,C.ren.all]);(try exact rfl))|exact SVLe.refl|refine ceb ?_)
      all_goals first | exact (show nodupB _ = true from rfl) | exact Or.inr rfl | (rfl)
    | true =>
      rw [hv,Bool.true_and] at hb
      have hvn : ¬ validP ⟨ixS p0 pnams + 1,nuI p1,woI p2⟩ = false := by rw [hv]; decide
      by_cases ht : proT ⟨ixS p0 pnams + 1,nuI p1,woI p2⟩ = s
      · rw [decide_eq_true ht] at hb
        subst hb
        simp only [if_true]
        repeat' first|(apply p3;(first|exact pu1|exact puL|exact a_neT rfl rfl);exact rfl)|refine cd ?_|(apply w3;exact a_st_bx rfl rfl rfl rfl (fN rfl rfl) (Nat.le_of_ble_eq_true rfl) rfl;exact rfl;refine dS ?_)|(apply c4 0;exact callK1 (θ := []) (hD := (ValidProof_ok ⟨ixS p0 pnams + 1,nuI p1,woI p2⟩ d4 d5 d3));exact rfl;exact rfl;exact rfl;refine dM ?_)|(apply c4 0;exact callK1 (θ := []) (hD := (ProofText_ok ⟨ixS p0 pnams + 1,nuI p1,woI p2⟩ hv));exact rfl;exact rfl;exact rfl;refine dM ?_)|refine o_no rfl rfl rfl rfl ?_|refine o_noN rfl rfl rfl ?_|(apply py3;exact rfl;exact rfl;(first|exact pu1|exact puL|exact a_neT rfl rfl);exact rfl;exact rfl)|(apply cy4 0;exact rfl;exact rfl;exact callK1 (θ := []) (hD := (ValidProof_ok ⟨ixS p0 pnams + 1,nuI p1,woI p2⟩ d4 d5 d3));exact rfl;exact rfl;exact rfl;exact rfl;refine dM ?_)|(apply cy4 0;exact rfl;exact rfl;exact callK1 (θ := []) (hD := (ProofText_ok ⟨ixS p0 pnams + 1,nuI p1,woI p2⟩ hv));exact rfl;exact rfl;exact rfl;exact rfl;refine dM ?_)|((first|refine o_gs rfl rfl (fun hc => ?_) (fun hc => ?_)|refine g_cond rfl (fun hc => ?_) (fun hc => ?_)) <;> (try simp only [dcB] at hc) <;> (try first|contradiction|(exfalso;omega)))
        repeat refine cr ?_
        refine ends_id ?_
        refine endK [?_,?_] (h2 := ?_) (h3 := ?_) (nd := ?_)
        rotate_left 2
        all_goals (repeat' first|exact ce0|refine ce ?_|refine ce2 ?_ ?_|(refine Or.inr (bx_eq rfl rfl ?_);(try dsimp only [C.ren,C.ren.all]);(try exact rfl))|exact SVLe.refl|refine ceb ?_)
        all_goals first | exact (show nodupB _ = true from rfl) | exact Or.inr rfl | (rfl)
      · rw [decide_eq_false ht] at hb
        subst hb
        simp only [Bool.false_eq_true,if_false]
        repeat' first|(apply p3;(first|exact pu1|exact puL|exact a_neT rfl rfl);exact rfl)|refine cd ?_|(apply w3;exact a_st_bx rfl rfl rfl rfl (fN rfl rfl) (Nat.le_of_ble_eq_true rfl) rfl;exact rfl;refine dS ?_)|(apply c4 0;exact callK1 (θ := []) (hD := (ValidProof_ok ⟨ixS p0 pnams + 1,nuI p1,woI p2⟩ d4 d5 d3));exact rfl;exact rfl;exact rfl;refine dM ?_)|(apply c4 0;exact callK1 (θ := []) (hD := (ProofText_ok ⟨ixS p0 pnams + 1,nuI p1,woI p2⟩ hv));exact rfl;exact rfl;exact rfl;refine dM ?_)|refine o_no rfl rfl rfl rfl ?_|refine o_noN rfl rfl rfl ?_|(apply py3;exact rfl;exact rfl;(first|exact pu1|exact puL|exact a_neT rfl rfl);exact rfl;exact rfl)|(apply cy4 0;exact rfl;exact rfl;exact callK1 (θ := []) (hD := (ValidProof_ok ⟨ixS p0 pnams + 1,nuI p1,woI p2⟩ d4 d5 d3));exact rfl;exact rfl;exact rfl;exact rfl;refine dM ?_)|(apply cy4 0;exact rfl;exact rfl;exact callK1 (θ := []) (hD := (ProofText_ok ⟨ixS p0 pnams + 1,nuI p1,woI p2⟩ hv));exact rfl;exact rfl;exact rfl;exact rfl;refine dM ?_)|((first|refine o_gs rfl rfl (fun hc => ?_) (fun hc => ?_)|refine g_cond rfl (fun hc => ?_) (fun hc => ?_)) <;> (try simp only [dcB] at hc) <;> (try first|contradiction|(exfalso;omega)))
        refine g_conv (t_nilB (i := 0) (k := 1) (z := 1) rfl rfl rfl (by decide)) ?_
        try dsimp only [setRow,List.map_cons,List.map_nil,scC,List.set_cons_zero,List.set_cons_succ,Nat.reduceAdd]
        refine g_conv (t_nilB (i := 0) (k := 2) (z := 1) rfl rfl rfl (by decide)) ?_
        try dsimp only [setRow,List.map_cons,List.map_nil,scC,List.set_cons_zero,List.set_cons_succ,Nat.reduceAdd]
        repeat refine cr ?_
        refine ends_id ?_
        refine endK [?_,?_] (h2 := ?_) (h3 := ?_) (nd := ?_)
        rotate_left 2
        all_goals (repeat' first|exact ce0|refine ce ?_|refine ce2 ?_ ?_|(refine Or.inr (bx_eq rfl rfl ?_);(try dsimp only [C.ren,C.ren.all]);(try exact rfl))|exact SVLe.refl|refine ceb ?_)
        all_goals first | exact (show nodupB _ = true from rfl) | exact Or.inr rfl | (rfl)
  · have eb : bI s = false := by rw [ebI,decide_eq_false h3,Bool.false_and]
    rw [eb,pI_f eb]
    refine does_of (k := 0) Tryz.func89 rfl Tryz.ntmps89 rfl rfl fun w F0 S0 ρ0 => ?_
    dsimp only [argT,argH]
    repeat' first|(apply n3;exact a_new (gb := .bx _) rfl;exact rfl;refine dA ?_)|(apply p3;exact pu1;exact rfl)|refine cdn ?_|refine g_reg (id := 0) ?_|refine g_reg (id := 1) ?_|(apply c4 1;exact callK1 (θ := []) (hD := (Split_ok s 58 hs));exact rfl;exact rfl;exact rfl;refine dM ?_)|(apply c4 1;exact callK1 (θ := []) (hD := (Split_ok (ps[(2 : Int).toNat * 1]'l2) 44 (by rw [e2];omega)));exact rfl;exact rfl;exact rfl;refine dM ?_)|((first|refine o_gs rfl rfl (fun hc => ?_) (fun hc => ?_)|refine g_cond rfl (fun hc => ?_) (fun hc => ?_)) <;> (try simp only [dcB] at hc) <;> (try first|contradiction|(exfalso;omega)))
    rw [← eps]
    repeat' first|(apply n3;(first|exact a_new (gb := .bx _) rfl|exact a_litE eW [_] rfl rfl rfl rfl rfl rfl rfl rfl|exact a_appN (fP rfl) rfl rfl rfl nowR (by first|omega|(simp;omega)) (by decide) (by exact rfl));exact rfl;refine dA ?_)|(apply p3;(first|exact pu1|exact puL|exact puN|exact a_len_str rfl (fT rfl)|exact a_ne rfl rfl|exact a_neS rfl rfl rfl|exact a_ld_rowS rfl rfl rfl (fC rfl) bnd|exact a_neT rfl rfl|exact puC|exact a_add rfl rfl (by omega) (by omega)|exact puI);exact rfl)|refine cd ?_|(apply s3;exact a_appE (fP rfl) rfl rfl rfl rfl nowR (by first|omega|(simp;omega)) (by decide) (by decide) (by exact rfl);exact rfl;exact rfl)|(apply w3;(first|exact a_st_bx rfl rfl rfl rfl (fN rfl rfl) (Nat.le_of_ble_eq_true rfl) rfl|exact a_stE (E := eW) _ rfl rfl rfl rfl (fN rfl rfl) bnd (by exact rfl));exact rfl;refine dS ?_)|(apply c4 1;exact callK1 (θ := []) (hD := (Split_ok s 58 hs));exact rfl;exact rfl;exact rfl;refine dM ?_)|(apply c4 1;exact callK1 (θ := []) (hD := (Split_ok (ps[(2 : Int).toNat * 1]'l2) 44 (by rw [e2];omega)));exact rfl;exact rfl;exact rfl;refine dM ?_)|(apply c4 1;exact callK1 (θ := []) (hD := (ReadDecsG_ok (ps[(1 : Int).toNat * 1]'l1) (by rw [e1];omega)));exact rfl;exact rfl;exact rfl;refine dM ?_)|(apply c4 1;exact callK1 (θ := []) (hD := (Split_ok s 58 hs));exact rfl;exact rfl;exact rfl;refine dM ?_)|(apply c4 1;exact callK1 (θ := []) (hD := (Split_ok (ps[(2 : Int).toNat * 1]'l2) 44 (by rw [e2];omega)));exact rfl;exact rfl;exact rfl;refine dM ?_)|(apply c4 1;exact callK1 (θ := []) (hD := (ReadWord_ok (cs[i.toNat * 1]'hi1) hy1));exact rfl;exact rfl;exact rfl;refine dM ?_)|(apply c4 0;exact callK1 (θ := []) (hD := (ValidProof_ok ⟨ixS p0 pnams + 1,nuI p1,woI p2⟩ d4 d5 d3));exact rfl;exact rfl;exact rfl;refine dM ?_)|(apply c4 0;exact callK1 (θ := []) (hD := (ProofText_ok ⟨ixS p0 pnams + 1,nuI p1,woI p2⟩ hv));exact rfl;exact rfl;exact rfl;refine dM ?_)|refine o_no rfl rfl rfl rfl ?_|refine o_noN rfl rfl rfl ?_|(apply py3;exact rfl;exact rfl;(first|exact pu1|exact puL|exact puN|exact a_len_str rfl (fT rfl)|exact a_ne rfl rfl|exact a_neS rfl rfl rfl|exact a_ld_rowS rfl rfl rfl (fC rfl) bnd|exact a_neT rfl rfl|exact puC|exact a_add rfl rfl (by omega) (by omega)|exact puI);exact rfl;exact rfl)|(apply ny3;exact rfl;exact rfl;(first|exact a_new (gb := .bx _) rfl|exact a_litE eW [_] rfl rfl rfl rfl rfl rfl rfl rfl|exact a_appN (fP rfl) rfl rfl rfl nowR (by first|omega|(simp;omega)) (by decide) (by exact rfl));exact rfl;exact rfl)|(apply cy4 1;exact rfl;exact rfl;exact callK1 (θ := []) (hD := (Split_ok s 58 hs));exact rfl;exact rfl;exact rfl;exact rfl;refine dM ?_)|(apply cy4 1;exact rfl;exact rfl;exact callK1 (θ := []) (hD := (Split_ok (ps[(2 : Int).toNat * 1]'l2) 44 (by rw [e2];omega)));exact rfl;exact rfl;exact rfl;exact rfl;refine dM ?_)|(apply cy4 1;exact rfl;exact rfl;exact callK1 (θ := []) (hD := (ReadDecsG_ok (ps[(1 : Int).toNat * 1]'l1) (by rw [e1];omega)));exact rfl;exact rfl;exact rfl;exact rfl;refine dM ?_)|(apply cy4 1;exact rfl;exact rfl;exact callK1 (θ := []) (hD := (Split_ok s 58 hs));exact rfl;exact rfl;exact rfl;exact rfl;refine dM ?_)|(apply cy4 1;exact rfl;exact rfl;exact callK1 (θ := []) (hD := (Split_ok (ps[(2 : Int).toNat * 1]'l2) 44 (by rw [e2];omega)));exact rfl;exact rfl;exact rfl;exact rfl;refine dM ?_)|(apply cy4 1;exact rfl;exact rfl;exact callK1 (θ := []) (hD := (ReadWord_ok (cs[i.toNat * 1]'hi1) hy1));exact rfl;exact rfl;exact rfl;exact rfl;refine dM ?_)|(apply cy4 0;exact rfl;exact rfl;exact callK1 (θ := []) (hD := (ValidProof_ok ⟨ixS p0 pnams + 1,nuI p1,woI p2⟩ d4 d5 d3));exact rfl;exact rfl;exact rfl;exact rfl;refine dM ?_)|(apply cy4 0;exact rfl;exact rfl;exact callK1 (θ := []) (hD := (ProofText_ok ⟨ixS p0 pnams + 1,nuI p1,woI p2⟩ hv));exact rfl;exact rfl;exact rfl;exact rfl;refine dM ?_)|(apply g_drN (id := 4) okM [[],[],[1],[1,2],[0,1,2,3],[0,1,2,3,4],[0,1,2,3,4,5],[],[0,1,2,3,4,5,6,7]] [([],[]),([],[]),([],[]),([],[]),([],[]),([],[]),([],[]),([0],[]),([],[2])] 1;(focus (refine dp 0 0 [17,18,19,5] [(true,0)] (callFD 0 (hD := proofNames_ok)) ?_;refine dp 1 0 [16,5] [(true,0)] pu1 ?_;refine dp 2 1 [16,5] [(true,0)] puI ?_;refine dp 3 3 [16,5] [(true,0)] (by first|exact a_pure (sv := .one _) rfl|exact a_ld_rowS rfl rfl rfl (fC rfl) bnd) ?_;refine dp 4 15 [5] [(true,0)] (callD1 (n := _) 0 (θ := []) (hD := (IndexS_ok pnams (ps[(0 : Int).toNat * 1]'l0) hpn))) ?_;refine dp 5 31 [5] [(true,0)] (a_add rfl rfl (by omega) (by omega)) ?_;refine dp 6 63 [5] [(true,0)] (a_pure (sv := .agg _) rfl) ?_;refine duE 7 0 [16,17,18,19,20,21,22] [] (atN 0 (fun _ => a_new (gb := .bx _) rfl)) (by exact rfl) (by exact rfl) ?_;refine duE 8 255 [] [] (a_st_bx rfl rfl rfl rfl (fN rfl rfl) (Nat.le_of_ble_eq_true rfl) rfl) (by exact rfl) (by exact rfl) ?_;(refine d_nil ?_;refine dN ?_)));any_goals kernel_rfl)|((first|refine o_gs rfl rfl (fun hc => ?_) (fun hc => ?_)|refine g_cond rfl (fun hc => ?_) (fun hc => ?_)) <;> (try simp only [dcB] at hc) <;> (try first|contradiction|(exfalso;omega)))
    refine g_conv (t_nilB (i := 0) (k := 1) (z := 1) rfl rfl rfl (by decide)) ?_
    try dsimp only [setRow,List.map_cons,List.map_nil,scC,List.set_cons_zero,List.set_cons_succ,Nat.reduceAdd]
    refine g_conv (t_nilB (i := 0) (k := 2) (z := 1) rfl rfl rfl (by decide)) ?_
    try dsimp only [setRow,List.map_cons,List.map_nil,scC,List.set_cons_zero,List.set_cons_succ,Nat.reduceAdd]
    repeat refine cr ?_
    refine ends_id ?_
    refine endK [?_,?_] (h2 := ?_) (h3 := ?_) (nd := ?_)
    rotate_left 2
    all_goals (repeat' first|exact ce0|refine ce ?_|refine ce2 ?_ ?_|(refine Or.inr (bx_eq rfl rfl ?_);(try dsimp only [C.ren,C.ren.all]);(try exact rfl))|exact SVLe.refl|refine ceb ?_)
    all_goals first | exact (show nodupB _ = true from rfl) | exact Or.inr rfl | (rfl)
end Go.Proofs.YtighjcjmacajoaaGreatDoor
end
section
set_option linter.unusedVariables false
set_option linter.unusedSimpArgs false
set_option maxRecDepth 100000
set_option maxHeartbeats 4000000
namespace Go.Proofs.YtighjcjmacajoaaGreatDoor
open Go Foot Go.RowKit
theorem pnams_nodup : pnams.Nodup := by decide
theorem ixS_take {x : Bs} {l : List Bs} (hn : l.Nodup) {k : Nat} (hk : k < l.length) : ixS x (l.take (k + 1)) = if l[k] = x then (k : Int) else ixS x (l.take k) := by
  have e : l.take (k + 1) = l.take k ++ [l[k]] := List.take_succ_eq_append_getElem hk
  have hd : l[k] ∉ l.take k := by
    have hn2 := hn
    rw [← List.take_append_drop (k + 1) l,e] at hn2
    have h3 := (List.nodup_append.1 (List.nodup_append.1 hn2).1).2.2
    intro q
    exact h3 _ q _ (by simp) rfl
  rw [e]
  split
  · next q =>
    subst q
    rw [ixS_app hd]
    have e0 : ixS l[k] [l[k]] = 0 := by simp [ixS]
    rw [e0,List.length_take]
    simp only [show ¬ (0 : Int) < 0 by omega,if_false]
    omega
  · next q =>
    by_cases m : x ∈ l.take k
    · obtain ⟨i,hi,ei⟩ := List.mem_iff_getElem.1 m
      have key : ∀ {a b : List Bs},x ∈ a → ixS x (a ++ b) = ixS x a := by
        intro a b
        induction a with
        | nil => intro h; cases h
        | cons y a ih =>
          intro h
          rw [List.cons_append,ixS,ixS]
          split
          · rfl
          · next n =>
            rw [ih (by cases h; exact absurd rfl n; assumption)]
      exact key m
    · rw [ixS_app m,ixS_no m]
      have e0 : ixS x [l[k]] = -1 := ixS_no (by simp; exact fun h => q h.symm)
      rw [e0]
      rfl
theorem woL_le : ∀ {l : List Bs} {w : List (List Int)},woL l = some w → ∀ x ∈ w,(x.length : Int) ≤ 400
  | [],w,h => by cases h; intro x hx; cases hx
  | p :: r,w,h => by
    unfold woL at h
    have h9 := wrI_le p
    unfold wrI at h9
    cases hp : rdW p with
    | none => rw [hp] at h; cases h
    | some n =>
      rw [hp,Option.bind_some] at h
      rw [hp,Option.getD_some] at h9
      cases hr : woL r with
      | none => rw [hr] at h; cases h
      | some v =>
        rw [hr] at h
        simp only [Option.map_some,Option.some.injEq] at h
        subst h
        intro x hx
        cases hx with
        | head => exact h9
        | tail _ q => exact woL_le hr x q
theorem nuX_le (p : Bs) : (((nuX p).getD []).length : Int) ≤ 300 := by
  unfold nuX
  split
  · simp
  · split
    · next h =>
      cases e : numL (spl 44 p) with
      | none => simp
      | some w => rw [Option.getD_some,numL_len e]; exact h
    · simp
theorem woX_le (p : Bs) : (((woX p).getD []).length : Int) ≤ 300 := by
  unfold woX
  split
  · simp
  · split
    · next h =>
      cases e : woL (spl 44 p) with
      | none => simp
      | some w => rw [Option.getD_some,woL_len e]; exact h
    · simp
theorem woX_mem {p : Bs} {x : List Int} (h : x ∈ (woX p).getD []) : (x.length : Int) ≤ 400 := by
  unfold woX at h
  split at h
  · cases h
  · split at h
    · cases e : woL (spl 44 p) with
      | none => rw [e] at h; cases h
      | some w => rw [e,Option.getD_some] at h; exact woL_le e x h
    · cases h
@[irreducible] def prX (a b c : Bs) : Prf := ⟨ixS a pnams + 1,(nuX b).getD [],(woX c).getD []⟩
@[irreducible] def bX (s : Bs) : Bool := decide (((spl 58 s).length : Int) = 3) && ((nuX ((spl 58 s).getD 1 [])).isSome && ((woX ((spl 58 s).getD 2 [])).isSome && validP (prX ((spl 58 s).getD 0 []) ((spl 58 s).getD 1 []) ((spl 58 s).getD 2 []))))
@[irreducible] def pX (s : Bs) : Prf := if bX s = true then prX ((spl 58 s).getD 0 []) ((spl 58 s).getD 1 []) ((spl 58 s).getD 2 []) else ⟨0,[],[]⟩
theorem pX_f {s : Bs} (h : bX s = false) : pX s = ⟨0,[],[]⟩ := by unfold pX; rw [h]; simp
theorem ReadProofX_ok (s : Bs) (hs : (s.length : Int) ≤ 1048576) : Does Tryz.prog 149 [.one (str s)] [] (.tup [(true,[int (pX s).k,.gv 0,.gv 1]),(false,[boo (bX s)])]) [roI (pX s).nu,roW (pX s).wo] := by
  obtain ⟨ps,eps⟩ : ∃ ps,ps = spl 58 s := ⟨_,rfl⟩
  have hpe := spl_el 58 s
  have hpl := spl_len 58 s
  rw [← eps] at hpe hpl
  have ebX : bX s = (decide ((ps.length : Int) = 3) && ((nuX (ps.getD 1 [])).isSome && ((woX (ps.getD 2 [])).isSome && validP (prX (ps.getD 0 []) (ps.getD 1 []) (ps.getD 2 []))))) := by unfold bX; rw [← eps]
  by_cases h3 : (ps.length : Int) = 3
  · have l0 : (0 : Int).toNat * 1 < ps.length := by show 0 < ps.length; omega
    have l1 : (1 : Int).toNat * 1 < ps.length := by show 1 < ps.length; omega
    have l2 : (2 : Int).toNat * 1 < ps.length := by show 2 < ps.length; omega
    obtain ⟨p0,e0⟩ : ∃ p,ps[(0 : Int).toNat * 1]'l0 = p := ⟨_,rfl⟩
    obtain ⟨p1,e1⟩ : ∃ p,ps[(1 : Int).toNat * 1]'l1 = p := ⟨_,rfl⟩
    obtain ⟨p2,e2⟩ : ∃ p,ps[(2 : Int).toNat * 1]'l2 = p := ⟨_,rfl⟩
    have f0 : ps.getD 0 [] = p0 := by rw [List.getD_eq_getElem?_getD,List.getElem?_eq_getElem (show 0 < ps.length by omega)]; exact e0
    have f1 : ps.getD 1 [] = p1 := by rw [List.getD_eq_getElem?_getD,List.getElem?_eq_getElem (show 1 < ps.length by omega)]; exact e1
    have f2 : ps.getD 2 [] = p2 := by rw [List.getD_eq_getElem?_getD,List.getElem?_eq_getElem (show 2 < ps.length by omega)]; exact e2
    have g1 : p1.length ≤ s.length := by rw [← e1]; exact (hpe _ (List.getElem_mem l1)).1
    have g2 : p2.length ≤ s.length := by rw [← e2]; exact (hpe _ (List.getElem_mem l2)).1
    have hpl8 : pnams.length = 8 := by decide
    have hnl9 : nams.length = 9 := by decide
    refine does_of (k := 0) Tryz.func149 rfl Tryz.ntmps149 rfl rfl fun w F0 S0 ρ0 => ?_
    dsimp only [argT,argH]
    repeat' first|(apply n3;exact a_new (gb := .bx _) rfl;exact rfl;refine dA ?_)|(apply p3;exact pu1;exact rfl)|refine cdn ?_|refine g_reg (id := 0) ?_|refine g_reg (id := 1) ?_|(apply c4 1;exact callK1 (θ := []) (hD := (l01Split_ok s 58 hs));exact rfl;exact rfl;exact rfl;refine dM ?_)
    rw [← eps]
    repeat' first|(apply n3;exact a_new (gb := .bx _) rfl;exact rfl;refine dA ?_)|(apply p3;(first|exact pu1|exact puN|exact a_ne rfl rfl);exact rfl)|refine cdn ?_|refine g_reg (id := 2) ?_|refine g_reg (id := 4) ?_|refine g_reg (id := 5) ?_|(apply w3;exact a_st_bx rfl rfl rfl rfl (fN rfl rfl) (Nat.le_of_ble_eq_true rfl) rfl;exact rfl;refine dS ?_)|(apply c4 0;exact callF (hD := l25Names_ok);exact rfl;exact rfl;exact rfl;refine dM ?_)|((refine g_cond rfl (fun hc => ?_) (fun hc => ?_)) <;> (try simp only [dcB] at hc) <;> (try first|contradiction|(exfalso;omega)))
    simp only [setRow,List.map_cons,List.map_nil,scC,List.set_cons_zero,List.set_cons_succ,Nat.zero_add,List.getElem?_cons_zero,List.getElem?_cons_succ,List.take_succ_cons,List.take_zero,List.drop_zero]
    refine g_conv (t_nilB (i := 2) (k := 1) (z := 1) rfl rfl rfl (by decide)) ?_
    try dsimp only [setRow,List.map_cons,List.map_nil,scC,List.set_cons_zero,List.set_cons_succ,Nat.reduceAdd]
    refine g_conv (t_nilB (i := 2) (k := 2) (z := 1) rfl rfl rfl (by decide)) ?_
    try dsimp only [setRow,List.map_cons,List.map_nil,scC,List.set_cons_zero,List.set_cons_succ,Nat.reduceAdd]
    repeat' first|(apply p3;(exact pu1);exact rfl)|refine cd ?_
    refine g_loop_id ?_
    refine loopK [2,3,4,5,6] [2] (fun y : Int × Int => 1 ≤ y.1 ∧ y.1 ≤ 9 ∧ y.2 = ixS p0 (pnams.take (y.1 - 1).toNat) + 1) (fun y => [(7,.one (int y.1))]) (fun y => [(2,.bx [int y.2,.gv 3,.gv 4])]) (fun y => (9 - y.1).toNat) ((1 : Int),(0 : Int)) [0,1,2,3,4] (hI := ?_) (hr := ?_)
    · exact ⟨by simp,by simp,by simp [ixS]⟩
    · have hnl : (nams.length : Int) ≤ 16777216 := by omega
      rintro ⟨k,kd⟩ ⟨h0,h1,h2⟩
      dsimp only [List.cons_append,List.nil_append] at *
      skip
      repeat' first|(apply p3;(first|exact pu1|exact puN|exact puC|exact a_ld_rowS rfl rfl rfl (fC rfl) bnd|exact puI);exact rfl)|refine cd ?_|(apply g_drN (id := 9) okM [[],[],[0,1],[0,1,2],[],[4],[4,5],[0,1,2,3,4,5,6]] [([],[]),([],[]),([],[]),([],[]),([],[]),([],[]),([],[]),([],[])] 0;(focus (refine dp 0 0 [27,30,31,32] [] pu1 ?_;refine dp 1 0 [26,30,31,32] [] pu1 ?_;refine dp 2 3 [30,31,32] [] puI ?_;refine dp 3 7 [30,31,32] [] (by exact a_pure (sv := .one _) rfl) ?_;refine dp 4 0 [26,27,28,29] [] pu1 ?_;refine dp 5 1 [26,27,28,29] [] puI ?_;refine dp 6 3 [26,27,28,29] [] (by exact a_ld_rowS rfl rfl rfl (fC rfl) bnd) ?_;refine dp 7 127 [] [] (a_eqT rfl rfl) ?_;(refine d_nil ?_;refine dN ?_)));any_goals kernel_rfl)|(refine g_cond (c := .tmp 23) rfl (fun hc => ?_) (fun hc => ?_) <;> (try simp only [dcB] at hc) <;> (try (first|contradiction|(exfalso;omega))))
      · have hk1 : (k - 1).toNat < pnams.length := by omega
        have hk2 : k.toNat < nams.length := by omega
        have hk : k.toNat * 1 < nams.length := by omega
        have st := ixS_take (x := p0) pnams_nodup hk1
        have en : nams[k.toNat * 1]'hk = pnams[(k - 1).toNat]'hk1 := by
          rw [pnams_at k (by omega) (by omega) hk1,← namT_at k (by omega) (by omega) hk2]
          simp only [Nat.mul_one]
        rw [show (k - 1).toNat + 1 = (k + 1 - 1).toNat by omega,← en] at st
        simp only [Nat.mul_one] at st
        simp only [e0]
        repeat' first|(apply p3;(first|exact pu1|exact a_add rfl rfl (by omega) (by omega));exact rfl)|refine cd ?_|(apply w3;(exact a_st_bx rfl rfl rfl rfl (fN rfl rfl) (Nat.le_of_ble_eq_true rfl) rfl);exact rfl;refine dS ?_)|((refine g_cond rfl (fun hc => ?_) (fun hc => ?_)) <;> (try simp only [dcB] at hc) <;> (try first|contradiction|(exfalso;omega)))
        · rw [if_pos hc] at st
          refine q_again (k + 1,k) [0,1,2,3,4] (by exact stk) ?_ ?_
          · exact ⟨by dsimp only; omega,by dsimp only; omega,by dsimp only; rw [st]; omega⟩
          · dsimp only; omega
        · rw [if_neg hc] at st
          refine q_again (k + 1,kd) [0,1,2,3,4] (by exact stk) ?_ ?_
          · exact ⟨by dsimp only; omega,by dsimp only; omega,by dsimp only; rw [st]; exact h2⟩
          · dsimp only; omega
      · have hkn : kd = ixS p0 pnams + 1 := by rw [h2,List.take_of_length_le (by omega)]
        subst hkn
        repeat' first|(apply p3;(first|exact pu1|exact a_ld_rowS rfl rfl rfl (fC rfl) bnd|exact puI);exact rfl)|refine cdn ?_|refine g_reg (id := 12) ?_|refine g_reg (id := 13) ?_|refine g_reg (id := 14) ?_|(apply w3;(exact a_st_bx rfl rfl rfl rfl (fN rfl rfl) (Nat.le_of_ble_eq_true rfl) rfl);exact rfl;refine dS ?_)|(apply c4 1;exact callK1 (θ := []) (hD := (l25Numbers_ok (ps[(1 : Int).toNat * 1]'l1) (by rw [e1];omega)));exact rfl;exact rfl;exact rfl;refine dM ?_)|(apply c4 1;exact callK0 (θ := []) (hD := (l25Words_ok (ps[(2 : Int).toNat * 1]'l2) (by rw [e2];omega)));exact rfl;exact rfl;exact rfl;refine dM ?_)
        simp only [e1,e2]
        have epr : prX (ps.getD 0 []) (ps.getD 1 []) (ps.getD 2 []) = ⟨ixS p0 pnams + 1,(nuX p1).getD [],(woX p2).getD []⟩ := by rw [f0,f1,f2]; unfold prX; rfl
        rw [epr,f1,f2] at ebX
        have d1 := nuX_le p1
        have d2 := woX_le p2
        have d3 : ∀ x ∈ (woX p2).getD [],(x.length : Int) ≤ 16777216 := by
          intro x hx
          have := woX_mem hx
          omega
        have d4 : (((nuX p1).getD []).length : Int) ≤ 16777216 := by omega
        have d5 : (((woX p2).getD []).length : Int) ≤ 16777216 := by omega
        have hpi : pX s = if bX s = true then ⟨ixS p0 pnams + 1,(nuX p1).getD [],(woX p2).getD []⟩ else ⟨0,[],[]⟩ := by unfold pX; rw [← eps,epr]
        obtain ⟨b,hb⟩ : ∃ b,bX s = b := ⟨_,rfl⟩
        rw [hpi,hb]
        rw [ebX,decide_eq_true h3,Bool.true_and] at hb
        obtain ⟨v,hv⟩ : ∃ v,validP ⟨ixS p0 pnams + 1,(nuX p1).getD [],(woX p2).getD []⟩ = v := ⟨_,rfl⟩
        obtain ⟨n1,hn1⟩ : ∃ v,(nuX p1).isSome = v := ⟨_,rfl⟩
        obtain ⟨n2,hn2⟩ : ∃ v,(woX p2).isSome = v := ⟨_,rfl⟩
        rw [hn1] at hb
        simp only [hn1]
        cases n1 with
        | false =>
          rw [Bool.false_and] at hb
          subst hb
          simp only [Bool.false_eq_true,if_false]
          repeat' first|(apply p3;(exact pu1);exact rfl)|refine cd ?_|(apply w3;(exact a_st_bx rfl rfl rfl rfl (fN rfl rfl) (Nat.le_of_ble_eq_true rfl) rfl);exact rfl;refine dS ?_)|refine o_no rfl rfl rfl rfl ?_
          refine g_conv (t_nilB (i := 0) (k := 1) (z := 1) rfl rfl rfl (by decide)) ?_
          try dsimp only [setRow,List.map_cons,List.map_nil,scC,List.set_cons_zero,List.set_cons_succ,Nat.reduceAdd]
          refine g_conv (t_nilB (i := 0) (k := 2) (z := 1) rfl rfl rfl (by decide)) ?_
          try dsimp only [setRow,List.map_cons,List.map_nil,scC,List.set_cons_zero,List.set_cons_succ,Nat.reduceAdd]
          repeat refine cr ?_
          refine ends_id ?_
          refine endK [?_,?_] (h2 := ?_) (h3 := ?_) (nd := ?_)
          rotate_left 2
          all_goals (repeat' first|exact ce0|refine ce ?_|refine ce2 ?_ ?_|(refine Or.inr (bx_eq rfl rfl ?_);(try dsimp only [C.ren,C.ren.all]);(try exact rfl))|exact SVLe.refl|refine ceb ?_)
          all_goals first | exact (show nodupB _ = true from rfl) | exact Or.inr rfl | (rfl)
        | true =>
        rw [hn2,Bool.true_and] at hb
        simp only [hn2]
        cases n2 with
        | false =>
          rw [Bool.false_and] at hb
          subst hb
          simp only [Bool.false_eq_true,if_false]
          repeat' first|(apply p3;(exact pu1);exact rfl)|refine cd ?_|(apply w3;(exact a_st_bx rfl rfl rfl rfl (fN rfl rfl) (Nat.le_of_ble_eq_true rfl) rfl);exact rfl;refine dS ?_)|refine o_no rfl rfl rfl rfl ?_|(apply py3;exact rfl;exact rfl;(exact pu1);exact rfl;exact rfl)
          refine g_conv (t_nilB (i := 0) (k := 1) (z := 1) rfl rfl rfl (by decide)) ?_
          try dsimp only [setRow,List.map_cons,List.map_nil,scC,List.set_cons_zero,List.set_cons_succ,Nat.reduceAdd]
          refine g_conv (t_nilB (i := 0) (k := 2) (z := 1) rfl rfl rfl (by decide)) ?_
          try dsimp only [setRow,List.map_cons,List.map_nil,scC,List.set_cons_zero,List.set_cons_succ,Nat.reduceAdd]
          repeat refine cr ?_
          refine ends_id ?_
          refine endK [?_,?_] (h2 := ?_) (h3 := ?_) (nd := ?_)
          rotate_left 2
          all_goals (repeat' first|exact ce0|refine ce ?_|refine ce2 ?_ ?_|(refine Or.inr (bx_eq rfl rfl ?_);(try dsimp only [C.ren,C.ren.all]);(try exact rfl))|exact SVLe.refl|refine ceb ?_)
          all_goals first | exact (show nodupB _ = true from rfl) | exact Or.inr rfl | (rfl)
        | true =>
        rw [hv,Bool.true_and] at hb
        cases v with
        | false =>
          subst hb
          have hvn : ¬ validP ⟨ixS p0 pnams + 1,(nuX p1).getD [],(woX p2).getD []⟩ = true := by rw [hv]; decide
          simp only [Bool.false_eq_true,if_false]
          repeat' first|(apply p3;(exact pu1);exact rfl)|refine cd ?_|(apply w3;(exact a_st_bx rfl rfl rfl rfl (fN rfl rfl) (Nat.le_of_ble_eq_true rfl) rfl);exact rfl;refine dS ?_)|(apply py3;exact rfl;exact rfl;(exact pu1);exact rfl;exact rfl)|(apply cy4 0;exact rfl;exact rfl;exact callK1 (θ := []) (hD := (l25Is_ok ⟨ixS p0 pnams + 1,(nuX p1).getD [],(woX p2).getD []⟩ d4 d5 d3));exact rfl;exact rfl;exact rfl;exact rfl;refine dM ?_)|((refine g_cond rfl (fun hc => ?_) (fun hc => ?_)) <;> (try simp only [dcB] at hc) <;> (try first|contradiction|(exfalso;omega)))
          refine g_conv (t_nilB (i := 0) (k := 1) (z := 1) rfl rfl rfl (by decide)) ?_
          try dsimp only [setRow,List.map_cons,List.map_nil,scC,List.set_cons_zero,List.set_cons_succ,Nat.reduceAdd]
          refine g_conv (t_nilB (i := 0) (k := 2) (z := 1) rfl rfl rfl (by decide)) ?_
          try dsimp only [setRow,List.map_cons,List.map_nil,scC,List.set_cons_zero,List.set_cons_succ,Nat.reduceAdd]
          repeat refine cr ?_
          refine ends_id ?_
          refine endK [?_,?_] (h2 := ?_) (h3 := ?_) (nd := ?_)
          rotate_left 2
          all_goals (repeat' first|exact ce0|refine ce ?_|refine ce2 ?_ ?_|(refine Or.inr (bx_eq rfl rfl ?_);(try dsimp only [C.ren,C.ren.all]);(try exact rfl))|exact SVLe.refl|refine ceb ?_)
          all_goals first | exact (show nodupB _ = true from rfl) | exact Or.inr rfl | (rfl)
        | true =>
          subst hb
          have hvn : ¬ validP ⟨ixS p0 pnams + 1,(nuX p1).getD [],(woX p2).getD []⟩ = false := by rw [hv]; decide
          simp only [if_true]
          repeat' first|(apply p3;(exact pu1);exact rfl)|refine cd ?_|(apply w3;(exact a_st_bx rfl rfl rfl rfl (fN rfl rfl) (Nat.le_of_ble_eq_true rfl) rfl);exact rfl;refine dS ?_)|(apply py3;exact rfl;exact rfl;(exact pu1);exact rfl;exact rfl)|(apply cy4 0;exact rfl;exact rfl;exact callK1 (θ := []) (hD := (l25Is_ok ⟨ixS p0 pnams + 1,(nuX p1).getD [],(woX p2).getD []⟩ d4 d5 d3));exact rfl;exact rfl;exact rfl;exact rfl;refine dM ?_)|((refine g_cond rfl (fun hc => ?_) (fun hc => ?_)) <;> (try simp only [dcB] at hc) <;> (try first|contradiction|(exfalso;omega)))
          repeat refine cr ?_
          refine ends_id ?_
          refine endK [?_,?_] (h2 := ?_) (h3 := ?_) (nd := ?_)
          rotate_left 2
          all_goals (repeat' first|exact ce0|refine ce ?_|refine ce2 ?_ ?_|(refine Or.inr (bx_eq rfl rfl ?_);(try dsimp only [C.ren,C.ren.all]);(try exact rfl))|exact SVLe.refl|refine ceb ?_)
          all_goals first | exact (show nodupB _ = true from rfl) | exact Or.inr rfl | (rfl)
  · have eb : bX s = false := by rw [ebX,decide_eq_false h3,Bool.false_and]
    rw [eb,pX_f eb]
    refine does_of (k := 0) Tryz.func149 rfl Tryz.ntmps149 rfl rfl fun w F0 S0 ρ0 => ?_
    dsimp only [argT,argH]
    repeat' first|(apply n3;exact a_new (gb := .bx _) rfl;exact rfl;refine dA ?_)|(apply p3;exact pu1;exact rfl)|refine cdn ?_|refine g_reg (id := 0) ?_|refine g_reg (id := 1) ?_|(apply c4 1;exact callK1 (θ := []) (hD := (l01Split_ok s 58 hs));exact rfl;exact rfl;exact rfl;refine dM ?_)
    rw [← eps]
    repeat' first|(apply p3;(first|exact pu1|exact puN|exact a_ne rfl rfl);exact rfl)|refine cd ?_|(apply w3;(exact a_st_bx rfl rfl rfl rfl (fN rfl rfl) (Nat.le_of_ble_eq_true rfl) rfl);exact rfl;refine dS ?_)|((refine g_cond rfl (fun hc => ?_) (fun hc => ?_)) <;> (try simp only [dcB] at hc) <;> (try first|contradiction|(exfalso;omega)))
    refine g_conv (t_nilB (i := 0) (k := 1) (z := 1) rfl rfl rfl (by decide)) ?_
    try dsimp only [setRow,List.map_cons,List.map_nil,scC,List.set_cons_zero,List.set_cons_succ,Nat.reduceAdd]
    refine g_conv (t_nilB (i := 0) (k := 2) (z := 1) rfl rfl rfl (by decide)) ?_
    try dsimp only [setRow,List.map_cons,List.map_nil,scC,List.set_cons_zero,List.set_cons_succ,Nat.reduceAdd]
    repeat refine cr ?_
    refine ends_id ?_
    refine endK [?_,?_] (h2 := ?_) (h3 := ?_) (nd := ?_)
    rotate_left 2
    all_goals (repeat' first|exact ce0|refine ce ?_|refine ce2 ?_ ?_|(refine Or.inr (bx_eq rfl rfl ?_);(try dsimp only [C.ren,C.ren.all]);(try exact rfl))|exact SVLe.refl|refine ceb ?_)
    all_goals first | exact (show nodupB _ = true from rfl) | exact Or.inr rfl | (rfl)
end Go.Proofs.YtighjcjmacajoaaGreatDoor
end
section
set_option linter.unusedVariables false
set_option linter.unusedSimpArgs false
set_option maxRecDepth 100000
set_option maxHeartbeats 4000000
namespace Go.Proofs.YtighjcjmacajoaaGreatDoor
open Go Foot Go.RowKit
theorem digT_dgI {s : Bs} (h : ∀ c ∈ s,isDg c) : digT (dgI s) = s := by
  unfold digT byt dgI
  rw [List.map_map,List.map_map]
  conv => rhs; rw [← List.map_id s]
  apply List.map_congr_left
  intro c hc
  have := h c hc
  unfold isDg at this
  show UInt8.ofNat (48 + (((c.toNat : Nat) : Int) - 48)).toNat = c
  rw [show (48 + (((c.toNat : Nat) : Int) - 48)).toNat = c.toNat by omega]
  simp
theorem dgI_bd {s : Bs} (h : ∀ c ∈ s,isDg c) : ∀ x ∈ dgI s,0 ≤ x ∧ x ≤ 9 := by
  intro x hx
  unfold dgI at hx
  obtain ⟨c,hc,rfl⟩ := List.mem_map.1 hx
  have := h c hc
  unfold isDg at this
  omega
theorem dgI_digT {w : List Int} (h : ∀ x ∈ w,0 ≤ x ∧ x ≤ 9) : dgI (digT w) = w :=
  digT_inj (dgI_bd (digT_dg h)) h (digT_dgI (digT_dg h))
theorem digT_ne {w : List Int} (h : w ≠ []) : digT w ≠ [] := by
  unfold digT byt
  intro e
  exact h (List.map_eq_nil_iff.1 (List.map_eq_nil_iff.1 e))
theorem digT_lenN (w : List Int) : (digT w).length = w.length := by unfold digT byt; simp
theorem dash_dg {s : Bs} (h : ∀ c ∈ s,isDg c) : s ≠ [45] := by
  rintro rfl
  exact dg_ne (h 45 (by simp)) rfl
theorem allDg_iff {s : Bs} : allDg s = true ↔ ∀ c ∈ s,isDg c := by
  unfold allDg
  rw [List.all_eq_true]
  exact ⟨fun h c hc => (isDgB_iff c).1 (h c hc),fun h c hc => (isDgB_iff c).2 (h c hc)⟩
theorem rdW_canon {p : Bs} {w : List Int} (h : rdW p = some w) : wdT w = p := by
  unfold rdW at h
  unfold wdT
  split at h
  · next e => cases h; rw [if_pos rfl,e]
  · split at h
    · next q =>
      cases h
      rw [if_neg (fun e => q.2.1 (by unfold dgI at e; exact List.map_eq_nil_iff.1 e)),digT_dgI (allDg_iff.1 q.1)]
    · cases h
theorem rdW_inv {w : List Int} (h1 : (w.length : Int) ≤ 400) (h2 : ∀ x ∈ w,0 ≤ x ∧ x ≤ 9) : rdW (wdT w) = some w := by
  by_cases e : w = []
  · subst e
    unfold wdT rdW
    rw [if_pos rfl,if_pos rfl]
  · have ew : wdT w = digT w := by unfold wdT; rw [if_neg e]
    have hd := digT_dg h2
    rw [ew]
    unfold rdW
    rw [if_neg (dash_dg hd),if_pos ⟨allDg_iff.2 hd,digT_ne e,by rw [digT_lenN]; exact h1⟩,dgI_digT h2]
theorem wdT_bytes {w : List Int} (h2 : ∀ x ∈ w,0 ≤ x ∧ x ≤ 9) {c : UInt8} (h : c ∈ wdT w) : isDg c ∨ c = 45 := by
  unfold wdT at h
  split at h
  · exact .inr (by simpa using h)
  · exact .inl (digT_dg h2 c h)
theorem woL_canon : ∀ {l : List Bs} {w : List (List Int)},woL l = some w → w.map wdT = l ∧ l.map wrI = w
  | [],w,h => by cases h; exact ⟨rfl,rfl⟩
  | p :: r,w,h => by
    unfold woL at h
    cases hp : rdW p with
    | none => rw [hp] at h; cases h
    | some n =>
      rw [hp,Option.bind_some] at h
      cases hr : woL r with
      | none => rw [hr] at h; cases h
      | some v =>
        rw [hr] at h
        simp only [Option.map_some,Option.some.injEq] at h
        subst h
        obtain ⟨q1,q2⟩ := woL_canon hr
        rw [List.map_cons,List.map_cons,q1,q2,rdW_canon hp]
        refine ⟨rfl,?_⟩
        unfold wrI
        rw [hp]
        rfl
theorem woL_inv : ∀ {w : List (List Int)},(∀ x ∈ w,rdW (wdT x) = some x) → woL (w.map wdT) = some w
  | [],_ => rfl
  | x :: w,h => by
    rw [List.map_cons,woL,h x (by simp),Option.bind_some,woL_inv (fun y hy => h y (by simp [hy]))]
    rfl
theorem numL_canon : ∀ {l : List Bs} {w : List Int},numL l = some w → w.map decT = l
  | [],w,h => by cases h; rfl
  | p :: r,w,h => by
    unfold numL at h
    cases hp : numS p with
    | none => rw [hp] at h; cases h
    | some n =>
      rw [hp,Option.bind_some] at h
      cases hr : numL r with
      | none => rw [hr] at h; cases h
      | some v =>
        rw [hr] at h
        simp only [Option.map_some,Option.some.injEq] at h
        subst h
        rw [List.map_cons,numL_canon hr,(numS_some.1 hp).1]
theorem numL_inv : ∀ {w : List Int},(∀ n ∈ w,-1000000000000000000 < n ∧ n < 1000000000000000000) → numL (w.map decT) = some w
  | [],_ => rfl
  | x :: w,h => by
    rw [List.map_cons,numL,numS_some.2 ⟨rfl,h x (by simp)⟩,Option.bind_some,numL_inv (fun y hy => h y (by simp [hy]))]
    rfl
theorem dec_no {n : Int} {c : UInt8} (h1 : ¬ isDg c) (h2 : c ≠ 45) : c ∉ decT n := fun h => by
  rcases dec_bytes h with q | q
  · exact h1 q
  · exact h2 q
theorem dg44 : ¬ isDg 44 := by unfold isDg; decide
theorem dg58 : ¬ isDg 58 := by unfold isDg; decide
theorem dg32 : ¬ isDg 32 := by unfold isDg; decide
theorem nuX_canon {b : Bs} {nu : List Int} (h : nuX b = some nu) : numT nu = b ∧ nuI b = nu := by
  unfold nuX at h
  unfold numT nuI
  split at h
  · next e => cases h; rw [if_pos rfl,if_pos e]; exact ⟨e.symm,rfl⟩
  · next e =>
    split at h
    · rw [if_neg e,h]
      have hl := numL_len h
      have hn := spl_ne 44 b
      rw [if_neg (fun q => by subst q; exact hn (List.eq_nil_of_length_eq_zero hl.symm)),numL_canon h,join_spl]
      exact ⟨rfl,rfl⟩
    · cases h
theorem num_spl {nu : List Int} (h : nu ≠ []) : spl 44 (numT nu) = nu.map decT := by
  unfold numT
  rw [if_neg h]
  exact spl_joinG (fun q => h (List.map_eq_nil_iff.1 q)) fun p hp => by
    obtain ⟨n,_,rfl⟩ := List.mem_map.1 hp
    exact dec_no dg44 (by decide)
theorem num_dash {nu : List Int} (h : nu ≠ []) : numT nu ≠ [45] := by
  intro e
  have q := num_spl h
  rw [e] at q
  cases nu with
  | nil => exact h rfl
  | cons n nu =>
    have q1 : spl 44 [45] = [[45]] := by decide
    rw [q1,List.map_cons] at q
    have q2 := (List.cons.inj q).1
    have q3 := valS_dec n
    rw [← q2] at q3
    have q4 : valS [45] = 0 := by decide
    rw [q4] at q3
    subst q3
    exact dg_ne (decT_dg (n := 0) (by omega) 45 (by rw [← q2]; simp)) rfl
theorem nuX_inv {nu : List Int} (h1 : (nu.length : Int) ≤ 300) (h2 : ∀ n ∈ nu,-1000000000000 ≤ n ∧ n ≤ 1000000000000) : nuX (numT nu) = some nu := by
  by_cases e : nu = []
  · subst e
    unfold numT nuX
    rw [if_pos rfl,if_pos rfl]
  · unfold nuX
    rw [if_neg (num_dash e),num_spl e,if_pos (by rw [List.length_map]; exact h1),numL_inv fun n hn => by have := h2 n hn; omega]
theorem woX_canon {c : Bs} {wo : List (List Int)} (h : woX c = some wo) : worT wo = c ∧ woI c = wo := by
  unfold woX at h
  unfold worT woI
  split at h
  · next e => cases h; rw [if_pos e,e]; exact ⟨by unfold joinT; rfl,rfl⟩
  · next e =>
    split at h
    · rw [if_neg e]
      obtain ⟨q1,q2⟩ := woL_canon h
      rw [q1,q2,join_spl]
      exact ⟨rfl,rfl⟩
    · cases h
theorem woX_inv {wo : List (List Int)} (h1 : (wo.length : Int) ≤ 300) (h2 : ∀ w ∈ wo,(w.length : Int) ≤ 400 ∧ ∀ x ∈ w,0 ≤ x ∧ x ≤ 9) : woX (worT wo) = some wo := by
  by_cases e : wo = []
  · subst e
    unfold worT woX
    rw [if_pos (by unfold joinT; rfl)]
  · have hs : spl 44 (worT wo) = wo.map wdT := by
      unfold worT
      exact spl_joinG (fun q => e (List.map_eq_nil_iff.1 q)) fun p hp => by
        obtain ⟨w,hw,rfl⟩ := List.mem_map.1 hp
        intro q
        rcases wdT_bytes (h2 w hw).2 q with q | q
        · exact dg44 q
        · revert q; decide
    have hne : worT wo ≠ [] := by
      intro q
      rw [q] at hs
      cases wo with
      | nil => exact e rfl
      | cons w wo =>
        rw [List.map_cons] at hs
        have q1 := (List.cons.inj hs).1
        have q2 := rdW_inv (h2 w (by simp)).1 (h2 w (by simp)).2
        rw [← q1] at q2
        revert q2
        unfold rdW
        simp
    unfold woX
    rw [if_neg hne,hs,if_pos (by rw [List.length_map]; exact h1),woL_inv fun w hw => rdW_inv (h2 w hw).1 (h2 w hw).2]
theorem ixS_get {x : Bs} : ∀ {l : List Bs},0 ≤ ixS x l → l.getD (ixS x l).toNat [] = x
  | [],h => by simp [ixS] at h
  | y :: l,h => by
    have ih := ixS_get (x := x) (l := l)
    rw [ixS] at h ⊢
    split
    · next e => rw [e]; rfl
    · next e =>
      rw [if_neg e] at h
      split at h
      · omega
      · next q =>
        rw [if_neg q,show (ixS x l + 1).toNat = (ixS x l).toNat + 1 by omega,List.getD_cons_succ]
        exact ih (by omega)
theorem nam_at (x : Bs) (h : 0 ≤ ixS x pnams) : namT (ixS x pnams + 1) = x := by
  unfold namT
  rw [show (ixS x pnams + 1).toNat = (ixS x pnams).toNat + 1 by omega,show nams = [] :: pnams from rfl,List.getD_cons_succ]
  exact ixS_get h
theorem nam_no : ∀ b ∈ nams,(58 : UInt8) ∉ b ∧ (32 : UInt8) ∉ b := by decide
theorem namT_no (k : Int) : (58 : UInt8) ∉ namT k ∧ (32 : UInt8) ∉ namT k := by
  unfold namT
  rw [List.getD_eq_getElem?_getD]
  cases e : nams[k.toNat]? with
  | none => simp
  | some b => exact nam_no b (List.mem_of_getElem? e)
theorem numT_no {nu : List Int} {c : UInt8} (h1 : ¬ isDg c) (h2 : c ≠ 45) (h3 : c ≠ 44) : c ∉ numT nu := by
  unfold numT
  split
  · simp [h2]
  · intro q
    rcases join_memG q with q | ⟨p,hp,q⟩
    · exact h3 q
    · obtain ⟨n,_,rfl⟩ := List.mem_map.1 hp
      exact dec_no h1 h2 q
theorem worT_no {wo : List (List Int)} (h : ∀ w ∈ wo,∀ x ∈ w,0 ≤ x ∧ x ≤ 9) {c : UInt8} (h1 : ¬ isDg c) (h2 : c ≠ 45) (h3 : c ≠ 44) : c ∉ worT wo := by
  unfold worT
  intro q
  rcases join_memG q with q | ⟨p,hp,q⟩
  · exact h3 q
  · obtain ⟨w,hw,rfl⟩ := List.mem_map.1 hp
    rcases wdT_bytes (h w hw) q with q | q
    · exact h1 q
    · exact h2 q
theorem pro_spl {p : Prf} (h : validP p = true) : spl 58 (proT p) = [namT p.k,numT p.nu,worT p.wo] := by
  have g := validP_gd h
  unfold proT
  rw [List.append_assoc,List.append_assoc,List.append_assoc,List.singleton_append,List.singleton_append,spl_app (namT_no _).1,spl_app (numT_no dg58 (by decide) (by decide)),spl_no (worT_no (fun w hw => (g.wb w hw).2) dg58 (by decide) (by decide))]
theorem three {α : Type} {l : List α} (d : α) (h : (l.length : Int) = 3) : l = [l.getD 0 d,l.getD 1 d,l.getD 2 d] := by
  match l,h with
  | [a,b,c],_ => rfl
  | [],h => simp at h
  | [_],h => simp at h
  | [_,_],h => simp at h
  | _ :: _ :: _ :: _ :: _,h => simp at h; omega
theorem proof_same (s : Bs) : bX s = bI s ∧ pX s = pI s ∧ (bI s = true → validP (pI s) = true ∧ proT (pI s) = s) := by
  obtain ⟨ps,eps⟩ : ∃ ps,ps = spl 58 s := ⟨_,rfl⟩
  obtain ⟨a,ea⟩ : ∃ a,ps.getD 0 [] = a := ⟨_,rfl⟩
  obtain ⟨b,eb⟩ : ∃ a,ps.getD 1 [] = a := ⟨_,rfl⟩
  obtain ⟨c,ec⟩ : ∃ a,ps.getD 2 [] = a := ⟨_,rfl⟩
  have ebX : bX s = (decide ((ps.length : Int) = 3) && ((nuX b).isSome && ((woX c).isSome && validP (prX a b c)))) := by unfold bX; rw [← eps,ea,eb,ec]
  have ebI : bI s = (decide ((ps.length : Int) = 3) && (validP (prI a b c) && decide (proT (prI a b c) = s))) := by unfold bI; rw [← eps,ea,eb,ec]
  have epX : pX s = if bX s = true then prX a b c else ⟨0,[],[]⟩ := by unfold pX; rw [← eps,ea,eb,ec]
  have epI : pI s = if bI s = true then prI a b c else ⟨0,[],[]⟩ := by unfold pI; rw [← eps,ea,eb,ec]
  have k1 : bX s = true → bI s = true ∧ prX a b c = prI a b c := by
    intro h
    rw [ebX] at h
    simp only [Bool.and_eq_true,decide_eq_true_eq] at h
    obtain ⟨h3,h4,h5,h6⟩ := h
    obtain ⟨nu,hnu⟩ := Option.isSome_iff_exists.1 h4
    obtain ⟨wo,hwo⟩ := Option.isSome_iff_exists.1 h5
    obtain ⟨n1,n2⟩ := nuX_canon hnu
    obtain ⟨w1,w2⟩ := woX_canon hwo
    have e1 : prX a b c = ⟨ixS a pnams + 1,nu,wo⟩ := by unfold prX; rw [hnu,hwo]; rfl
    have e2 : prI a b c = ⟨ixS a pnams + 1,nu,wo⟩ := by unfold prI; rw [n2,w2]
    have g := validP_gd h6
    rw [e1] at g h6
    have g1 := g.k
    dsimp only at g1
    have e3 : proT ⟨ixS a pnams + 1,nu,wo⟩ = s := by
      unfold proT
      dsimp only
      rw [nam_at a (by omega),n1,w1]
      have q := three [] h3
      rw [ea,eb,ec] at q
      have q2 := join_spl 58 s
      rw [← eps,q,join_cons2,join_cons2,join_one] at q2
      simpa using q2
    refine ⟨?_,by rw [e1,e2]⟩
    rw [ebI,e2,h6,e3]
    simp [h3]
  have k2 : bI s = true → bX s = true ∧ validP (prI a b c) = true ∧ proT (prI a b c) = s := by
    intro h
    rw [ebI] at h
    simp only [Bool.and_eq_true,decide_eq_true_eq] at h
    obtain ⟨h3,h4,h5⟩ := h
    refine ⟨?_,h4,h5⟩
    have g := validP_gd h4
    have hsp := pro_spl h4
    rw [h5,← eps,three [] h3,ea,eb,ec] at hsp
    have q0 := (List.cons.inj hsp).1
    have q1 := (List.cons.inj (List.cons.inj hsp).2).1
    have q2 := (List.cons.inj (List.cons.inj (List.cons.inj hsp).2).2).1
    have x1 := nuX_inv g.nl g.nb
    have x2 := woX_inv g.wl g.wb
    rw [← q1] at x1
    rw [← q2] at x2
    have e1 : prX a b c = prI a b c := by
      have ek : (prI a b c).k = ixS a pnams + 1 := by unfold prI; rfl
      unfold prX
      rw [x1,x2,Option.getD_some,Option.getD_some,← ek]
    rw [ebX,x1,x2,e1,h4]
    simp [h3]
  have hb : bX s = bI s := by
    cases hx : bX s with
    | true => rw [(k1 hx).1]
    | false =>
      cases hi : bI s with
      | false => rfl
      | true => rw [(k2 hi).1] at hx; cases hx
  refine ⟨hb,?_,fun h => ?_⟩
  · rw [epX,epI,hb]
    split
    · next h => exact (k1 (hb.trans h)).2
    · rfl
  · rw [epI,if_pos h]; exact (k2 h).2
end Go.Proofs.YtighjcjmacajoaaGreatDoor
end
