/- Parts of the proof (20 of 22). -/
import Derived.Test.YtcmdfohamphndaaGreatDoorQ19
section
set_option linter.unusedVariables false
set_option linter.unusedSimpArgs false
set_option maxRecDepth 100000
set_option maxHeartbeats 4000000
namespace Go.Proofs.YtcmdfohamphndaaGreatDoor
open Go Foot
abbrev eWn : Enc (List Int) := ⟨1,fun l => [.sl true 1 (rows eI l)],fun _ => rfl,by decide⟩
abbrev roWn (l : List (List Int)) : GB := .row 1 (rows eWn l)
def totL {α : Type} (sz : α → Int) : List α → Int
  | [] => 0
  | x :: xs => sz x + totL sz xs
def mkL {α : Type} (sz : α → Int) (mk : Int → α → α) : Int → List α → List α
  | _,[] => []
  | k,x :: xs => mk k x :: mkL sz mk (k + sz x) xs
theorem totL_app {α : Type} (sz : α → Int) : ∀ (xs ys : List α),totL sz (xs ++ ys) = totL sz xs + totL sz ys
  | [],ys => by simp [totL]
  | x :: xs,ys => by simp [totL,totL_app sz xs ys]; omega
theorem mkL_app {α : Type} (sz : α → Int) (mk : Int → α → α) : ∀ (k : Int) (xs ys : List α),mkL sz mk k (xs ++ ys) = mkL sz mk k xs ++ mkL sz mk (k + totL sz xs) ys
  | k,[],ys => by simp [mkL,totL]
  | k,x :: xs,ys => by simp [mkL,totL,mkL_app sz mk _ xs ys,Int.add_assoc]
theorem mkL_len {α : Type} (sz : α → Int) (mk : Int → α → α) : ∀ (k : Int) (xs : List α),(mkL sz mk k xs).length = xs.length
  | k,[] => rfl
  | k,x :: xs => by simp [mkL,mkL_len sz mk _ xs]
theorem totL_next {α : Type} (sz : α → Int) {xs : List α} {i : Int} (h0 : 0 ≤ i) (h : i.toNat < xs.length) : totL sz (xs.take (i + 1).toNat) = totL sz (xs.take i.toNat) + sz (xs[i.toNat]) := by
  rw [show (i + 1).toNat = i.toNat + 1 by omega,List.take_succ_eq_append_getElem h,totL_app]
  simp [totL]
theorem totL_bd {α : Type} (sz : α → Int) (b : Int) : ∀ {xs : List α},(∀ x ∈ xs,0 ≤ sz x ∧ sz x ≤ b) → 0 ≤ totL sz xs ∧ totL sz xs ≤ xs.length * b
  | [],_ => by simp [totL]
  | x :: xs,h => by
    have h1 := totL_bd sz b (xs := xs) (fun y hy => h y (by simp [hy]))
    have h2 := h x (by simp)
    simp only [totL,List.length_cons,Int.natCast_add,Int.add_mul,Int.natCast_one,Int.one_mul]
    omega
def mkT {α : Type} (sz : α → Int) (mk : Int → α → α) (k : Int) (xs : List α) (i : Nat) : List α := mkL sz mk k (xs.take i) ++ xs.drop i
theorem mkT_len {α : Type} (sz : α → Int) (mk : Int → α → α) (k : Int) (xs : List α) (i : Nat) (h : i ≤ xs.length) : (mkT sz mk k xs i).length = xs.length := by
  unfold mkT; rw [List.length_append,mkL_len,List.length_take,List.length_drop]; omega
theorem mkT_get {α : Type} (sz : α → Int) (mk : Int → α → α) (k : Int) (xs : List α) (i : Nat) (h : i < xs.length) (h' : i < (mkT sz mk k xs i).length) : (mkT sz mk k xs i)[i]'h' = xs[i] := by
  have e : (mkL sz mk k (xs.take i)).length = i := by rw [mkL_len,List.length_take]; omega
  have e2 : (mkT sz mk k xs i)[i]? = some xs[i] := by
    unfold mkT
    rw [List.getElem?_append_right (by omega),e,Nat.sub_self,List.getElem?_drop,Nat.add_zero,List.getElem?_eq_getElem h]
  rw [List.getElem?_eq_getElem h'] at e2
  exact Option.some.inj e2
theorem mkT_0 {α : Type} (sz : α → Int) (mk : Int → α → α) (k : Int) (xs : List α) : mkT sz mk k xs 0 = xs := by unfold mkT; simp [mkL]
theorem mkT_next {α : Type} (sz : α → Int) (mk : Int → α → α) (k : Int) (xs : List α) (i : Nat) (h : i < xs.length) : (mkT sz mk k xs i).set i (mk (k + totL sz (xs.take i)) xs[i]) = mkT sz mk k xs (i + 1) := by
  have e : (mkL sz mk k (xs.take i)).length = i := by rw [mkL_len,List.length_take]; omega
  unfold mkT
  rw [List.set_append_right _ _ (by omega),e,Nat.sub_self,List.drop_eq_getElem_cons h,List.set_cons_zero,List.take_succ_eq_append_getElem h,mkL_app]
  simp [mkL]
theorem mkT_end {α : Type} (sz : α → Int) (mk : Int → α → α) (k : Int) (xs : List α) : mkT sz mk k xs xs.length = mkL sz mk k xs := by unfold mkT; simp
abbrev szw (x : List Int) : Int := x.length
abbrev mkw (k : Int) (x : List Int) : List Int := marks k x.length
@[irreducible] def totW (xs : List (List Int)) : Int := totL szw xs
@[irreducible] def mksW (k : Int) (xs : List (List Int)) : List (List Int) := mkL szw mkw k xs
theorem preD7 {p : Prop} (h : p := by first | with_reducible assumption | omega | (simp only [List.length_append,List.length_cons,List.length_nil,List.length_set,List.length_replicate,List.length_take,List.length_drop,List.length_tail,List.length_dropLast,List.length_reverse] at *; omega) | exact mem_len (by assumption) (by omega) | (with_reducible refine Int.le_trans (Int.ofNat_le.2 (trimR_len _)) ?_; simp only [List.length_cons,List.length_tail]; omega) | (exact (ruAt_ok (by assumption) (by assumption) (by assumption)).2.1) | (exact (ruAt_ok (by assumption) (by assumption) (by assumption)).2.1) | (have := vMach_bd (by assumption); omega) | (simp only [mC_ch,mC_tu]; omega) | (have := vTag_bd (by assumption); omega) | (have := (‹Gd _ _›).le; omega) | (exact tgHalts_no (by assumption)) | (exact tgHead (by assumption) (by assumption) (by assumption)) | (exact Int.le_trans (tgStep_gd (by assumption) (by assumption) (by assumption) (by assumption)).le (by decide)) | (exact vTag_r (by assumption)) | (with_reducible refine Int.le_trans (Int.ofNat_le.2 (pushL_len _ _)) ?_; simp only [List.length_dropLast]; omega) | exact ls_at (by assumption) (by omega) | exact pt_gd (by assumption) | exact lv_at (by assumption) (by omega) | exact pt_gd (lv_at (by assumption) (by omega)) | exact (ask_ok (by assumption)).1 | exact (ask_ok (by assumption)).2.1 | exact (ask_ok (by assumption)).2.2.1 | exact (ask_ok (by assumption)).2.2.2 | (simp only [marks_len]; omega) | (simp only [marksR_len]; omega) | exact lns_at (by assumption) (by omega) | exact bgs_at (by assumption) (by omega) | trivial) : p := h
theorem markInt64SSn_ok (xs : List (List Int)) (k : Int) (h1 : 0 ≤ k) (h2 : k + totW xs ≤ 4611686018427387904) (hx : (xs.length : Int) ≤ 4611686018427) (hxs : ∀ x ∈ xs,(x.length : Int) ≤ 4611686018427) : Does Tryz.prog 29 [.one (.gv 0),.one (int k)] [roWn xs] (.one (int (k + totW xs))) [roWn (mksW k xs)] := by
  refine does_of (k := 1) Tryz.func29 rfl Tryz.ntmps29 rfl rfl fun w F0 S0 ρ0 => ?_
  dsimp only [argT,argH]
  repeat' first|(apply p3;(first|exact pu1|exact puL|exact puN|exact a_len_str rfl (fT rfl)|exact puC|exact a_ldE (E := eW) 0 rfl rfl rfl (fC rfl) rfl rfl (Nat.le_of_ble_eq_true rfl) bnd rfl (by first|exact trivial|exact rfl)|exact a_add rfl rfl (by omega) (by omega)|exact puI);exact rfl)|refine cd ?_|(apply c4 0;exact callK1 (θ := [_]) (hD := (markInt64S_ok _ _ preD7 preD7 preD7));exact rfl;exact rfl;exact rfl;refine dM ?_)|((first|refine o_gs rfl rfl (fun hc => ?_) (fun hc => ?_)|refine g_cond rfl (fun hc => ?_) (fun hc => ?_)) <;> (try simp only [dcB] at hc) <;> (try first|contradiction|(exfalso;omega)))
  refine g_loop_id ?_
  refine loopK [0,4] [0] (fun y : Int × Int × List (List Int) => 0 ≤ y.1 ∧ y.1 ≤ xs.length ∧ y.2.1 = k + totL szw (xs.take y.1.toNat) ∧ y.2.2 = mkT szw mkw k xs y.1.toNat) (fun y => [(5,.one (int y.1)),(1,.one (int y.2.1))]) (fun y => [(0,roWn y.2.2)]) (fun y => (xs.length - y.1).toNat) ((0 : Int),k,xs) [0] (hI := ?_) (hr := ?_)
  · exact ⟨by simp,by simp,by simp [totL],(mkT_0 _ _ _ _).symm⟩
  · rintro ⟨i,k',l⟩ ⟨k1,k2,k3,k4⟩
    dsimp only [List.cons_append,List.nil_append] at *
    skip
    repeat' first|(apply p3;(first|exact pu1|exact puN|exact a_len_str rfl (fT rfl)|exact puC);exact rfl)|refine cdn ?_|refine g_reg (id := 2) ?_|refine g_reg (id := 5) ?_|((first|refine o_gs rfl rfl (fun hc => ?_) (fun hc => ?_)|refine g_cond rfl (fun hc => ?_) (fun hc => ?_)) <;> (try simp only [dcB] at hc) <;> (try first|contradiction|(exfalso;omega)))
    · have hl := mkT_len szw mkw k xs i.toNat (by omega)
      rw [← k4] at hl
      have hi : i.toNat < xs.length := by omega
      have hg : l[i.toNat]'(by omega) = xs[i.toNat] := by subst k4; exact mkT_get _ _ _ _ _ hi _
      have hb := totL_bd szw 4611686018427 (xs := xs.take i.toNat) (fun x hx => ⟨by unfold szw; omega,hxs x (List.mem_of_mem_take hx)⟩)
      have hx2 := hxs _ (List.getElem_mem hi)
      have hn := totL_next szw k1 (xs := xs) hi
      have ht := totL_app szw (xs.take (i + 1).toNat) (xs.drop (i + 1).toNat)
      have hd := totL_bd szw 4611686018427 (xs := xs.drop (i + 1).toNat) (fun x hx => ⟨by unfold szw; omega,hxs x (List.mem_of_mem_drop hx)⟩)
      rw [List.take_append_drop] at ht
      unfold totW at h2
      have hs : szw xs[i.toNat] = (xs[i.toNat].length : Int) := rfl
      first | refine g_conv (t_qE (i := 0) (i.toNat) bnd rfl) ?_ | refine o_conv (t_qE (i := 0) (i.toNat) bnd rfl) ?_
      try dsimp only [List.map_cons,List.map_nil,List.set_cons_zero,List.set_cons_succ,List.length_cons,List.length_nil,List.cons_append,List.nil_append,Nat.reduceAdd,setRow]
      first | refine g_conv (t_open1 (i := 0) (k := 0) rfl rfl rfl) ?_ | refine o_conv (t_open1 (i := 0) (k := 0) rfl rfl rfl) ?_
      try dsimp only [List.map_cons,List.map_nil,List.set_cons_zero,List.set_cons_succ,List.length_cons,List.length_nil,List.cons_append,List.nil_append,Nat.reduceAdd,setRow]
      simp only [hg]
      repeat' first|(apply p3;(first|exact pu1|exact puL|exact puN|exact a_len_str rfl (fT rfl)|exact puC|exact puX|exact puQ|exact puI);exact rfl)|refine cdn ?_|refine g_reg (id := 2) ?_|refine g_reg (id := 4) ?_|refine g_reg (id := 5) ?_|(apply c4 0;exact callK1 (θ := [_]) (hD := (markInt64S_ok _ _ preD7 preD7 preD7));exact rfl;exact rfl;exact rfl;refine dM ?_)|((first|refine o_gs rfl rfl (fun hc => ?_) (fun hc => ?_)|refine g_cond rfl (fun hc => ?_) (fun hc => ?_)) <;> (try simp only [dcB] at hc) <;> (try first|contradiction|(exfalso;omega)))
      first | refine g_conv (t_close1 (i := 0) (j := 1) (k := 0) (m := 0) rfl rfl rfl rfl rfl) ?_ | refine o_conv (t_close1 (i := 0) (j := 1) (k := 0) (m := 0) rfl rfl rfl rfl rfl) ?_
      try dsimp only [List.map_cons,List.map_nil,List.set_cons_zero,List.set_cons_succ,List.length_cons,List.length_nil,List.cons_append,List.nil_append,Nat.reduceAdd,setRow]
      first | refine g_conv (t_uE (i := 0) (marks k' xs[i.toNat].length) bnd rfl rfl) ?_ | refine o_conv (t_uE (i := 0) (marks k' xs[i.toNat].length) bnd rfl rfl) ?_
      repeat' first|(apply p3;(first|exact pu1|exact puL|exact puN|exact a_len_str rfl (fT rfl)|exact puC|exact puX|exact puQ|exact a_add rfl rfl (by omega) (by omega)|exact puI);exact rfl)|refine cd ?_|(apply c4 0;exact callK1 (θ := [_]) (hD := (markInt64S_ok _ _ preD7 preD7 preD7));exact rfl;exact rfl;exact rfl;refine dM ?_)|((first|refine o_gs rfl rfl (fun hc => ?_) (fun hc => ?_)|refine g_cond rfl (fun hc => ?_) (fun hc => ?_)) <;> (try simp only [dcB] at hc) <;> (try first|contradiction|(exfalso;omega)))
      refine q_again (i + 1,k' + xs[i.toNat].length,l.set i.toNat (marks k' xs[i.toNat].length)) [0] (by exact stk) ?_ ?_
      · refine ⟨by dsimp only; omega,by dsimp only; omega,by dsimp only; omega,?_⟩
        dsimp only
        rw [show (i + 1).toNat = i.toNat + 1 by omega,← mkT_next szw mkw k xs i.toNat hi,← k3,← k4]
      · dsimp only; omega
    · have hl := mkT_len szw mkw k xs i.toNat (by omega)
      rw [← k4] at hl
      have hi : i.toNat = xs.length := by omega
      rw [hi,mkT_end] at k4
      rw [hi,List.take_length] at k3
      have e1 : totW xs = totL szw xs := by unfold totW; rfl
      have e2 : mksW k xs = mkL szw mkw k xs := by unfold mksW; rfl
      rw [e1,e2,← k3,← k4]
      repeat' first|(apply p3;(first|exact pu1|exact puL|exact puN|exact a_len_str rfl (fT rfl)|exact puC|exact puX|exact puQ|exact a_add rfl rfl (by omega) (by omega)|exact puI);exact rfl)|refine cd ?_|(apply c4 0;exact callK1 (θ := [_]) (hD := (markInt64S_ok _ _ preD7 preD7 preD7));exact rfl;exact rfl;exact rfl;refine dM ?_)|((first|refine o_gs rfl rfl (fun hc => ?_) (fun hc => ?_)|refine g_cond rfl (fun hc => ?_) (fun hc => ?_)) <;> (try simp only [dcB] at hc) <;> (try first|contradiction|(exfalso;omega)))
      repeat refine cr ?_
      refine ends_id ?_
      refine endK [] (h2 := ?_) (h3 := ?_) (nd := ?_)
      all_goals (repeat' first|exact ce0|refine ce ?_|refine ce2 ?_ ?_|(refine Or.inr (bx_eq rfl rfl ?_);(try dsimp only [C.ren,C.ren.all]);(try exact rfl))|exact SVLe.refl|refine ceb ?_)
      all_goals first | exact (show nodupB _ = true from rfl) | exact Or.inr rfl | (rfl)
end Go.Proofs.YtcmdfohamphndaaGreatDoor
end
section
set_option linter.unusedVariables false
set_option linter.unusedSimpArgs false
set_option maxRecDepth 100000
set_option maxHeartbeats 4000000
namespace Go.Proofs.YtcmdfohamphndaaGreatDoor
open Go Foot
theorem mkL_get {α : Type} (sz : α → Int) (mk : Int → α → α) : ∀ (k : Int) (xs : List α) (i : Nat) (h : i < xs.length),(mkL sz mk k xs)[i]? = some (mk (k + totL sz (xs.take i)) xs[i])
  | k,[],i,h => by simp at h
  | k,x :: xs,0,h => by simp [mkL,totL]
  | k,x :: xs,i + 1,h => by
    have := mkL_get sz mk (k + sz x) xs i (by simpa using h)
    simp only [mkL,List.getElem?_cons_succ,this,List.take_succ_cons,totL,List.getElem_cons_succ,Int.add_assoc]
theorem mksW_len (k : Int) (T : List (List Int)) : (mksW k T).length = T.length := by unfold mksW; rw [mkL_len]
theorem mksW_get (k : Int) (T : List (List Int)) (i : Nat) (h : i < (mksW k T).length) (h' : i < T.length) : (mksW k T)[i]'h = marks (k + totL szw (T.take i)) (T[i]'h').length := by
  have e := mkL_get szw mkw k T i h'
  have e2 : mksW k T = mkL szw mkw k T := by unfold mksW; rfl
  rw [← e2,List.getElem?_eq_getElem h] at e
  exact Option.some.inj e
theorem preD9 {p : Prop} (h : p := by first | with_reducible assumption | omega | (simp only [List.length_append,List.length_cons,List.length_nil,List.length_set,List.length_replicate,List.length_take,List.length_drop,List.length_tail,List.length_dropLast,List.length_reverse] at *; omega) | exact mem_len (by assumption) (by omega) | (with_reducible refine Int.le_trans (Int.ofNat_le.2 (trimR_len _)) ?_; simp only [List.length_cons,List.length_tail]; omega) | (exact (ruAt_ok (by assumption) (by assumption) (by assumption)).2.1) | (exact (ruAt_ok (by assumption) (by assumption) (by assumption)).2.1) | (have := vMach_bd (by assumption); omega) | (simp only [mC_ch,mC_tu]; omega) | (have := vTag_bd (by assumption); omega) | (have := (‹Gd _ _›).le; omega) | (exact tgHalts_no (by assumption)) | (exact tgHead (by assumption) (by assumption) (by assumption)) | (exact Int.le_trans (tgStep_gd (by assumption) (by assumption) (by assumption) (by assumption)).le (by decide)) | (exact vTag_r (by assumption)) | (with_reducible refine Int.le_trans (Int.ofNat_le.2 (pushL_len _ _)) ?_; simp only [List.length_dropLast]; omega) | exact ls_at (by assumption) (by omega) | exact pt_gd (by assumption) | exact lv_at (by assumption) (by omega) | exact pt_gd (lv_at (by assumption) (by omega)) | exact (ask_ok (by assumption)).1 | exact (ask_ok (by assumption)).2.1 | exact (ask_ok (by assumption)).2.2.1 | exact (ask_ok (by assumption)).2.2.2 | (simp only [marks_len]; omega) | (simp only [marksR_len]; omega) | exact lns_at (by assumption) (by omega) | exact bgs_at (by assumption) (by omega) | trivial) : p := h
theorem heldMarksW_ok (T : List (List Int)) (k : Int) (h1 : 0 ≤ k) (h2 : k + totW T ≤ 4611686018427387904) (hx : (T.length : Int) ≤ 4611686018427) (hxs : ∀ x ∈ T,(x.length : Int) ≤ 4611686018427) : Does Tryz.prog 30 [.one (shW (mksW k T)),.one (int k)] [] (.one (int (k + totW T))) [] := by
  have hl := mksW_len k T
  refine does_of (k := 0) Tryz.func30 rfl Tryz.ntmps30 rfl rfl fun w F0 S0 ρ0 => ?_
  dsimp only [argT,argH]
  repeat' first|(apply p3;(first|exact pu1|exact puL|exact puN|exact a_len_str rfl (fT rfl)|exact puC|exact a_ldE (E := eW) 0 rfl rfl rfl (fC rfl) rfl rfl (Nat.le_of_ble_eq_true rfl) bnd rfl (by first|exact trivial|exact rfl)|exact a_add rfl rfl (by omega) (by omega)|exact puI);exact rfl)|refine cd ?_|(apply c4 0;exact callK1 (θ := []) (hD := (heldInt64S_ok _ _ preD9 preD9 preD9));exact rfl;exact rfl;exact rfl;refine dM ?_)|((first|refine o_gs rfl rfl (fun hc => ?_) (fun hc => ?_)|refine g_cond rfl (fun hc => ?_) (fun hc => ?_)) <;> (try simp only [dcB] at hc) <;> (try first|contradiction|(exfalso;omega)))
  refine g_loop_id ?_
  refine loopK [0,4] [] (fun y : Int × Int => 0 ≤ y.1 ∧ y.1 ≤ T.length ∧ y.2 = k + totL szw (T.take y.1.toNat)) (fun y => [(5,.one (int y.1)),(1,.one (int y.2))]) (fun _ => []) (fun y => (T.length - y.1).toNat) ((0 : Int),k) [] (hI := ?_) (hr := ?_)
  · exact ⟨by simp,by simp,by simp [totL]⟩
  · rintro ⟨i,k'⟩ ⟨k1,k2,k3⟩
    dsimp only [List.cons_append,List.nil_append] at *
    skip
    repeat' first|(apply p3;(first|exact pu1|exact puN|exact a_len_str rfl (fT rfl)|exact puC);exact rfl)|refine cdn ?_|refine g_reg (id := 2) ?_|refine g_reg (id := 7) ?_|((first|refine o_gs rfl rfl (fun hc => ?_) (fun hc => ?_)|refine g_cond rfl (fun hc => ?_) (fun hc => ?_)) <;> (try simp only [dcB] at hc) <;> (try first|contradiction|(exfalso;omega)))
    · have hi : i.toNat < T.length := by omega
      have hg := mksW_get k T i.toNat (by omega) hi
      rw [← k3] at hg
      have hh : held k' ((mksW k T)[i.toNat]'(by omega)) = k' + (T[i.toNat]'hi).length := by rw [hg,held_marks]
      have hgl : ((mksW k T)[i.toNat]'(by omega)).length = (T[i.toNat]'hi).length := by rw [hg,marks_len]
      have hb := totL_bd szw 4611686018427 (xs := T.take i.toNat) (fun x hx => ⟨by unfold szw; omega,hxs x (List.mem_of_mem_take hx)⟩)
      have hx2 := hxs _ (List.getElem_mem hi)
      have hn := totL_next szw k1 (xs := T) hi
      have ht := totL_app szw (T.take (i + 1).toNat) (T.drop (i + 1).toNat)
      have hd := totL_bd szw 4611686018427 (xs := T.drop (i + 1).toNat) (fun x hx => ⟨by unfold szw; omega,hxs x (List.mem_of_mem_drop hx)⟩)
      rw [List.take_append_drop] at ht
      unfold totW at h2
      have hs : szw T[i.toNat] = (T[i.toNat].length : Int) := rfl
      repeat' first|(apply p3;(first|exact pu1|exact puL|exact puN|exact a_len_str rfl (fT rfl)|exact puC|exact a_ldE (E := eW) 0 rfl rfl rfl (fC rfl) rfl rfl (Nat.le_of_ble_eq_true rfl) bnd rfl (by first|exact trivial|exact rfl)|exact puI);exact rfl)|refine cdn ?_|refine g_reg (id := 2) ?_|refine g_reg (id := 4) ?_|refine g_reg (id := 7) ?_|(apply c4 0;exact callK1 (θ := []) (hD := (heldInt64S_ok _ _ preD9 preD9 preD9));exact rfl;exact rfl;exact rfl;refine dM ?_)|((first|refine o_gs rfl rfl (fun hc => ?_) (fun hc => ?_)|refine g_cond rfl (fun hc => ?_) (fun hc => ?_)) <;> (try simp only [dcB] at hc) <;> (try first|contradiction|(exfalso;omega)))
      simp only [hh]
      repeat' first|(apply p3;(first|exact pu1|exact puL|exact puN|exact a_len_str rfl (fT rfl)|exact puC|exact a_ldE (E := eW) 0 rfl rfl rfl (fC rfl) rfl rfl (Nat.le_of_ble_eq_true rfl) bnd rfl (by first|exact trivial|exact rfl)|exact a_add rfl rfl (by omega) (by omega)|exact puI);exact rfl)|refine cd ?_|(apply c4 0;exact callK1 (θ := []) (hD := (heldInt64S_ok _ _ preD9 preD9 preD9));exact rfl;exact rfl;exact rfl;refine dM ?_)|((first|refine o_gs rfl rfl (fun hc => ?_) (fun hc => ?_)|refine g_cond rfl (fun hc => ?_) (fun hc => ?_)) <;> (try simp only [dcB] at hc) <;> (try first|contradiction|(exfalso;omega)))
      refine q_again (i + 1,k' + (T[i.toNat]'hi).length) [] (by exact stk) ?_ ?_
      · exact ⟨by dsimp only; omega,by dsimp only; omega,by dsimp only; omega⟩
      · dsimp only; omega
    · have hi : i.toNat = T.length := by omega
      rw [hi,List.take_length] at k3
      have e1 : totW T = totL szw T := by unfold totW; rfl
      rw [e1,← k3]
      repeat' first|(apply p3;(first|exact pu1|exact puL|exact puN|exact a_len_str rfl (fT rfl)|exact puC|exact a_ldE (E := eW) 0 rfl rfl rfl (fC rfl) rfl rfl (Nat.le_of_ble_eq_true rfl) bnd rfl (by first|exact trivial|exact rfl)|exact a_add rfl rfl (by omega) (by omega)|exact puI);exact rfl)|refine cd ?_|(apply c4 0;exact callK1 (θ := []) (hD := (heldInt64S_ok _ _ preD9 preD9 preD9));exact rfl;exact rfl;exact rfl;refine dM ?_)|((first|refine o_gs rfl rfl (fun hc => ?_) (fun hc => ?_)|refine g_cond rfl (fun hc => ?_) (fun hc => ?_)) <;> (try simp only [dcB] at hc) <;> (try first|contradiction|(exfalso;omega)))
      repeat refine cr ?_
      refine ends_id ?_
      refine endK [] (h2 := ?_) (h3 := ?_) (nd := ?_)
      all_goals (repeat' first|exact ce0|refine ce ?_|refine ce2 ?_ ?_|exact SVLe.refl|refine ceb ?_)
      all_goals first | exact (show nodupB _ = true from rfl) | exact Or.inr rfl | (rfl)
end Go.Proofs.YtcmdfohamphndaaGreatDoor
end
section
set_option linter.unusedVariables false
set_option linter.unusedSimpArgs false
set_option maxRecDepth 100000
set_option maxHeartbeats 4000000
namespace Go.Proofs.YtcmdfohamphndaaGreatDoor
open Go Foot
@[irreducible] def marksR (k : Int) (n : Nat) : List Rule' := (List.range n).map fun (i : Nat) => ⟨k + 3 * (i : Int),k + 3 * (i : Int) + 1,k + 3 * (i : Int) + 2⟩
theorem marksR_len (k : Int) (n : Nat) : (marksR k n).length = n := by unfold marksR; simp
end Go.Proofs.YtcmdfohamphndaaGreatDoor
end
