/- Parts of the proof (16 of 18). -/
import Derived.Test.YtjmlbmmbionmcaaDoorQ15
section
set_option linter.unusedVariables false
set_option linter.unusedSimpArgs false
set_option maxRecDepth 100000
set_option maxHeartbeats 4000000
namespace Go.Proofs.YtjmlbmmbionmcaaDoor
open Go Foot
def mkX (k : Nat) (o : Bs) : Bs := if h : k = 0 then o else mkX (k / 10) (UInt8.ofNat (48 + k % 10) :: o)
termination_by k
decreasing_by omega
theorem mkX_0 (o : Bs) : mkX 0 o = o := by rw [mkX,dif_pos rfl]
theorem mkX_s {k : Int} (h : 0 < k) (o : Bs) : mkX k.toNat o = mkX (k / 10).toNat (UInt8.ofNat (48 + (k % 10).toNat) :: o) := by
  rw [mkX,dif_neg (by omega),show (k / 10).toNat = k.toNat / 10 by omega,show (k % 10).toNat = k.toNat % 10 by omega]
@[irreducible] def mkS (k : Int) : Bs := if k ≤ 0 then [109,48] else 109 :: mkX k.toNat []
theorem byt_one (x : Int) : byt [x] = [UInt8.ofNat x.toNat] := by unfold byt; rfl
theorem preD12 {p : Prop} (h : p := by first | with_reducible assumption | omega | (simp only [List.length_append,List.length_cons,List.length_nil,List.length_set,List.length_replicate,List.length_take,List.length_drop,List.length_tail,List.length_dropLast,List.length_reverse] at *; omega) | exact mem_len (by assumption) (by omega) | (with_reducible refine Int.le_trans (Int.ofNat_le.2 (trimR_len _)) ?_; simp only [List.length_cons,List.length_tail]; omega) | (exact (ruAt_ok (by assumption) (by assumption) (by assumption)).2.1) | (exact (ruAt_ok (by assumption) (by assumption) (by assumption)).2.1) | (have := vMach_bd (by assumption); omega) | (simp only [mC_ch,mC_tu]; omega) | (have := vTag_bd (by assumption); omega) | (have := (‹Gd _ _›).le; omega) | (exact tgHalts_no (by assumption)) | (exact tgHead (by assumption) (by assumption) (by assumption)) | (exact Int.le_trans (tgStep_gd (by assumption) (by assumption) (by assumption) (by assumption)).le (by decide)) | (exact vTag_r (by assumption)) | (with_reducible refine Int.le_trans (Int.ofNat_le.2 (pushL_len _ _)) ?_; simp only [List.length_dropLast]; omega) | exact ls_at (by assumption) (by omega) | exact pt_gd (by assumption) | exact lv_at (by assumption) (by omega) | exact pt_gd (lv_at (by assumption) (by omega)) | exact (ask_ok (by assumption)).1 | exact (ask_ok (by assumption)).2.1 | exact (ask_ok (by assumption)).2.2.1 | exact (ask_ok (by assumption)).2.2.2 | (simp only [marks_len]; omega) | (simp only [marksR_len]; omega) | exact lns_at (by assumption) (by omega) | exact bgs_at (by assumption) (by omega) | trivial) : p := h
theorem markText_ok (k : Int) (h1 : 0 ≤ k) (h2 : k ≤ 92233720368547) : Does Tryd.prog 39 [.one (int k)] [] (.one (str (mkS k))) [] := by
  by_cases h : k ≤ 0
  · have e : mkS k = [109,48] := by unfold mkS; rw [if_pos h]
    rw [e]
    refine does_of (k := 0) Tryd.func39 rfl Tryd.ntmps39 rfl rfl fun w F0 S0 ρ0 => ?_
    dsimp only [argT,argH]
    repeat' first|(apply p3;(first|exact pu1|exact puC);exact rfl)|refine cd ?_|((refine g_cond rfl (fun hc => ?_) (fun hc => ?_)) <;> (try simp only [dcB] at hc) <;> (try first|contradiction|(exfalso;omega)))
    repeat refine cr ?_
    refine ends_id ?_
    refine endK [] (h2 := ?_) (h3 := ?_) (nd := ?_)
    all_goals (repeat' first|exact ce0|refine ce ?_|refine ce2 ?_ ?_|exact SVLe.refl|refine ceb ?_)
    all_goals first | exact (show nodupB _ = true from rfl) | exact Or.inr rfl | (rfl)
  · have e : mkS k = 109 :: mkX k.toNat [] := by unfold mkS; rw [if_neg h]
    rw [e]
    refine does_of (k := 0) Tryd.func39 rfl Tryd.ntmps39 rfl rfl fun w F0 S0 ρ0 => ?_
    dsimp only [argT,argH]
    repeat' first|(apply p3;(first|exact pu1|exact puC);exact rfl)|refine cd ?_|((refine g_cond rfl (fun hc => ?_) (fun hc => ?_)) <;> (try simp only [dcB] at hc) <;> (try first|contradiction|(exfalso;omega)))
    refine g_loop_id ?_
    refine loopK [2] [] (fun x : Int × Bs => 0 ≤ x.1 ∧ x.1 ≤ k ∧ (x.2.length : Int) + x.1 ≤ k ∧ mkX x.1.toNat x.2 = mkX k.toNat []) (fun x => [(0,.one (int x.1)),(3,.one (str x.2))]) (fun _ => []) (fun x => x.1.toNat) (k,([] : Bs)) [] (hI := ?_) (hr := ?_)
    · exact ⟨by dsimp only; omega,by dsimp only; omega,by simp,rfl⟩
    · rintro ⟨n,o⟩ ⟨k1,k2,k3,k4⟩
      dsimp only [List.cons_append,List.nil_append] at *
      skip
      repeat' first|(apply n3;exact a_litE eY [_] rfl rfl rfl rfl rfl rfl rfl rfl;exact rfl;refine dA ?_)|(apply p3;(first|exact pu1|exact puC|exact a_rem rfl rfl (by omega) (by omega) (by omega)|exact a_add rfl rfl (by omega) (by omega)|exact a_to8 rfl Tryd.underlying3 Tryd.underlying5 (by omega) (by omega)|exact a_toStr rfl (by exact rfl) Tryd.underlying94 Tryd.underlying5 Tryd.underlying9|exact a_addS rfl rfl (by first|omega|(simp only [List.length_append,List.length_cons,List.length_nil];omega)));exact rfl)|refine cd ?_|((refine g_cond rfl (fun hc => ?_) (fun hc => ?_)) <;> (try simp only [dcB] at hc) <;> (try first|contradiction|(exfalso;omega)))
      · have e1 : byt [48 + n % 10] ++ o = UInt8.ofNat (48 + (n % 10).toNat) :: o := by rw [byt_one,show (48 + n % 10).toNat = 48 + (n % 10).toNat by omega]; rfl
        have e0 : ((byt [48 + n % 10]).length : Int) = 1 := by rw [byt_one]; rfl
        repeat' first|(apply p3;(first|exact pu1|exact a_addS rfl rfl (by first|omega|(simp only [List.length_append,List.length_cons,List.length_nil];omega))|exact a_quo rfl rfl (by omega) (by omega) (by omega));exact rfl)|refine cd ?_
        refine q_again (n / 10,byt [48 + n % 10] ++ o) [] (by exact stk) ?_ ?_
        · dsimp only
          refine ⟨by omega,by omega,?_,?_⟩
          · rw [e1,List.length_cons]; omega
          · rw [e1,← mkX_s hc,k4]
        · dsimp only; omega
      · have e1 : n = 0 := by omega
        subst e1
        have e2 : o = mkX k.toNat [] := by rw [← k4]; exact (mkX_0 o).symm
        rw [← e2]
        repeat refine cr ?_
        refine ends_id ?_
        refine endK [] (h2 := ?_) (h3 := ?_) (nd := ?_)
        all_goals (repeat' first|exact ce0|refine ce ?_|refine ce2 ?_ ?_|exact SVLe.refl|refine ceb ?_)
        all_goals first | exact (show nodupB _ = true from rfl) | exact Or.inr rfl | (rfl)
theorem markS_end {k : Int} {xs l : List Bs} (h1 : l.length = xs.length) (h2 : ∀ j (h : j < xs.length),l[j]? = some (mkS (k + j))) : l = (marks k xs.length).map mkS := by
  apply List.ext_getElem?
  intro j
  rw [List.getElem?_map]
  by_cases hj : j < xs.length
  · rw [marks_get k _ j hj,h2 j hj]; rfl
  · rw [List.getElem?_eq_none (by omega),List.getElem?_eq_none (by rw [marks_len]; omega)]; rfl
theorem markStringS_ok (xs : List Bs) (k : Int) (h1 : 0 ≤ k) (h2 : k ≤ 4611686018427) (hx : (xs.length : Int) ≤ 4611686018427) : Does Tryd.prog 14 [.one (.gv 0),.one (int k)] [.row 1 (rows eS xs)] (.one (int (k + xs.length))) [.row 1 (rows eS ((marks k xs.length).map mkS))] := by
  refine does_of (k := 1) Tryd.func14 rfl Tryd.ntmps14 rfl rfl fun w F0 S0 ρ0 => ?_
  dsimp only [argT,argH]
  repeat' first|(apply p3;(exact pu1);exact rfl)|refine cd ?_
  refine g_loop_id ?_
  refine loopK [0,4] [0] (fun y : Int × List Bs => 0 ≤ y.1 ∧ y.1 ≤ xs.length ∧ y.2.length = xs.length ∧ ∀ (j : Nat),(j : Int) < y.1 → y.2[j]? = some (mkS (k + j))) (fun y => [(5,.one (int y.1)),(1,.one (int (k + y.1)))]) (fun y => [(0,.row 1 (rows eS y.2))]) (fun y => (xs.length - y.1).toNat) ((0 : Int),xs) [0] (hI := ?_) (hr := ?_)
  · exact ⟨by simp,by simp,rfl,fun j h' => by simp at h'; omega⟩
  · rintro ⟨i,l⟩ ⟨k1,k2,k3,k4⟩
    dsimp only [List.cons_append,List.nil_append] at *
    skip
    repeat' first|(apply p3;(first|exact pu1|exact puN|exact puC|exact a_add rfl rfl (by omega) (by omega)|exact puI);exact rfl)|refine cd ?_|(apply w3;(exact a_stE (E := eS) _ rfl rfl rfl rfl (fN rfl rfl) bnd (by exact rfl));exact rfl;refine dS ?_)|(apply c4 0;exact callK1 (θ := []) (hD := (markText_ok _ preD12 preD12));exact rfl;exact rfl;exact rfl;refine dM ?_)|((refine g_cond rfl (fun hc => ?_) (fun hc => ?_)) <;> (try simp only [dcB] at hc) <;> (try first|contradiction|(exfalso;omega)))
    · refine q_again (i + 1,l.set i.toNat (mkS (k + i))) [0] (by exact stk) ?_ ?_
      · refine ⟨by dsimp only; omega,by dsimp only; omega,by simp [k3],fun j h => ?_⟩
        dsimp only at h ⊢
        rw [List.getElem?_set]
        split
        · rename_i e
          subst e
          rw [if_pos (by omega)]
          congr 2
          omega
        · exact k4 j (by omega)
      · dsimp only; omega
    · have hi : i = xs.length := by omega
      subst hi
      have hl := markS_end (k := k) k3 fun j hj => k4 j (by omega)
      repeat refine cr ?_
      refine ends_id ?_
      refine endK [] (h2 := ?_) (h3 := ?_) (nd := ?_)
      all_goals (repeat' first|exact ce0|refine ce ?_|refine ce2 ?_ ?_|(refine Or.inr (bx_eq rfl rfl ?_);(try dsimp only [C.ren,C.ren.all]);(try exact rfl))|exact SVLe.refl|refine ceb ?_)
      all_goals first | exact (show nodupB _ = true from rfl) | exact Or.inr rfl | (exact hl)
theorem heldStringS_ok (n : Nat) (k : Int) (h1 : 0 ≤ k) (h2 : k ≤ 4611686018427) (hx : (n : Int) ≤ 4611686018427) : Does Tryd.prog 15 [.one (shS ((marks k n).map mkS)),.one (int k)] [] (.one (int (k + n))) [] := by
  obtain ⟨L,eL⟩ : ∃ L,L = (marks k n).map mkS := ⟨_,rfl⟩
  have hl : L.length = n := by rw [eL,List.length_map,marks_len]
  have hg : ∀ (i : Nat) (h : i < L.length),L[i] = mkS (k + i) := fun i h => by
    have := marks_get k n i (by omega)
    have h2 : L[i]? = some (mkS (k + i)) := by rw [eL,List.getElem?_map,this]; rfl
    rw [List.getElem?_eq_getElem h] at h2
    exact Option.some.inj h2
  rw [← eL]
  refine does_of (k := 0) Tryd.func15 rfl Tryd.ntmps15 rfl rfl fun w F0 S0 ρ0 => ?_
  dsimp only [argT,argH]
  repeat' first|(apply p3;(exact pu1);exact rfl)|refine cd ?_
  refine g_loop_id ?_
  refine loopK [0,4] [] (fun i : Int => 0 ≤ i ∧ i ≤ L.length) (fun i => [(5,.one (int i)),(1,.one (int (k + i)))]) (fun _ => []) (fun i => (L.length - i).toNat) (0 : Int) [] (hI := ?_) (hr := ?_)
  · exact ⟨by simp,by simp⟩
  · rintro i ⟨k1,k2⟩
    dsimp only [List.cons_append,List.nil_append] at *
    skip
    repeat' first|(apply p3;(first|exact pu1|exact puN|exact puC|exact a_add rfl rfl (by omega) (by omega));exact rfl)|refine cd ?_|(apply g_drN (id := 4) okM [[],[],[0,1],[0,1,2],[],[4],[0,1,2,3,4,5]] [([],[]),([],[]),([],[]),([],[]),([],[]),([],[]),([],[])] 0;(focus (refine dp 0 0 [13,16,17] [] pu1 ?_;refine dp 1 0 [12,16,17] [] pu1 ?_;refine dp 2 3 [16,17] [] puI ?_;refine dp 3 7 [16,17] [] (by exact a_pure (sv := .one _) rfl) ?_;refine dp 4 0 [12,13,14,15] [] pu1 ?_;refine dp 5 1 [12,13,14,15] [] (callD1 (n := _) 0 (θ := []) (hD := (markText_ok _ preD12 preD12))) ?_;refine dp 6 63 [] [] (a_neT rfl rfl) ?_;(refine d_nil ?_;refine dN ?_)));any_goals kernel_rfl)|((refine g_cond rfl (fun hc => ?_) (fun hc => ?_)) <;> (try simp only [dcB] at hc) <;> (try first|contradiction|(exfalso;omega)))
    · have := hg i.toNat (by omega)
      rw [show ((i.toNat : Nat) : Int) = i by omega] at this
      exact absurd this hc
    · refine q_again (i + 1) [] (by exact stk) ?_ ?_
      · exact ⟨by omega,by omega⟩
      · omega
    · repeat refine cr ?_
      refine ends_id ?_
      refine endK [] (h2 := ?_) (h3 := ?_) (nd := ?_)
      all_goals (repeat' first|exact ce0|refine ce ?_|refine ce2 ?_ ?_|exact SVLe.refl|refine ceb ?_)
      all_goals first | exact (show nodupB _ = true from rfl) | exact Or.inr rfl | (omega)
@[irreducible] def eqSs (a b : List Bs) : Bool := decide (a = b)
theorem eqStringS_ok (xs ys : List Bs) (hx : (xs.length : Int) ≤ 1048576) (hy : (ys.length : Int) ≤ 1048576) : Does Tryd.prog 9 [.one (shS xs),.one (shS ys)] [] (.one (boo (eqSs xs ys))) [] := by
  refine does_of (k := 0) Tryd.func9 rfl Tryd.ntmps9 rfl rfl fun w F0 S0 ρ0 => ?_
  dsimp only [argT,argH]
  repeat' first|(apply p3;(first|exact pu1|exact puN|exact a_ne rfl rfl);exact rfl)|refine cd ?_|((refine g_cond rfl (fun hc => ?_) (fun hc => ?_)) <;> (try simp only [dcB] at hc) <;> (try first|contradiction|(exfalso;omega)))
  · repeat refine cr ?_
    refine ends_id ?_
    refine endK [] (h2 := ?_) (h3 := ?_) (nd := ?_)
    all_goals (repeat' first|exact ce0|refine ce ?_|refine ce2 ?_ ?_|exact SVLe.refl|refine ceb ?_)
    all_goals first | exact (show nodupB _ = true from rfl) | exact Or.inr rfl | ((symm; unfold eqSs; rw [decide_eq_false_iff_not]; rintro rfl; omega))
  refine g_loop_id ?_
  refine loopK [0,1,4] [] (fun i : Int => 0 ≤ i ∧ i ≤ xs.length ∧ xs.take i.toNat = ys.take i.toNat) (fun i => [(5,.one (int i))]) (fun _ => []) (fun i => (xs.length - i).toNat) (0 : Int) [] (hI := ?_) (hr := ?_)
  · exact ⟨by simp,by simp,by simp⟩
  · rintro i ⟨h0,h1,h2⟩
    dsimp only [List.cons_append,List.nil_append] at *
    skip
    repeat' first|(apply p3;(first|exact pu1|exact puN|exact puC|exact a_add rfl rfl (by omega) (by omega));exact rfl)|refine cd ?_|(apply g_drN (id := 6) okM [[],[],[0,1],[0,1,2],[],[],[4,5],[4,5,6],[0,1,2,3,4,5,6,7]] [([],[]),([],[]),([],[]),([],[]),([],[]),([],[]),([],[]),([],[]),([],[])] 0;(focus (refine dp 0 0 [18,21,22,23,24] [] pu1 ?_;refine dp 1 0 [17,21,22,23,24] [] pu1 ?_;refine dp 2 3 [21,22,23,24] [] puI ?_;refine dp 3 7 [21,22,23,24] [] (by exact a_pure (sv := .one _) rfl) ?_;refine dp 4 0 [17,18,19,20,22] [] pu1 ?_;refine dp 5 0 [17,18,19,20,21] [] pu1 ?_;refine dp 6 3 [17,18,19,20] [] puI ?_;refine dp 7 7 [17,18,19,20] [] (by exact a_pure (sv := .one _) rfl) ?_;refine dp 8 255 [] [] (a_neT rfl rfl) ?_;(refine d_nil ?_;refine dN ?_)));any_goals kernel_rfl)|((refine g_cond rfl (fun hc => ?_) (fun hc => ?_)) <;> (try simp only [dcB] at hc) <;> (try first|contradiction|(exfalso;omega)))
    · repeat refine cr ?_
      refine ends_id ?_
      refine endK [] (h2 := ?_) (h3 := ?_) (nd := ?_)
      all_goals (repeat' first|exact ce0|refine ce ?_|refine ce2 ?_ ?_|exact SVLe.refl|refine ceb ?_)
      all_goals first | exact (show nodupB _ = true from rfl) | exact Or.inr rfl | ((symm; unfold eqSs; rw [decide_eq_false_iff_not]; rintro rfl; simp_all))
    · refine q_again (i + 1) [] (by exact stk) ?_ ?_
      · exact ⟨by omega,by omega,take_next h0 (by omega) (by omega) h2 (by simp_all)⟩
      · omega
    · have hl := take_end (by omega) (by omega) h2
      repeat refine cr ?_
      refine ends_id ?_
      refine endK [] (h2 := ?_) (h3 := ?_) (nd := ?_)
      all_goals (repeat' first|exact ce0|refine ce ?_|refine ce2 ?_ ?_|exact SVLe.refl|refine ceb ?_)
      all_goals first | exact (show nodupB _ = true from rfl) | exact Or.inr rfl | ((symm; unfold eqSs; rw [decide_eq_true_eq]; exact hl))
end Go.Proofs.YtjmlbmmbionmcaaDoor
end
section
set_option linter.unusedVariables false
set_option linter.unusedSimpArgs false
set_option maxRecDepth 100000
set_option maxHeartbeats 4000000
namespace Go.Proofs.YtjmlbmmbionmcaaDoor
open Go Foot
abbrev eWn : Enc (List Int) := ⟨1,fun l => [.sl true 1 (rows eI l)],fun _ => rfl,by decide⟩
abbrev roWn (l : List (List Int)) : GB := .row 1 (rows eWn l)
def totL {α : Type} (sz : α → Int) : List α → Int
  | [] => 0
  | x :: xs => sz x + totL sz xs
def mkL {α : Type} (sz : α → Int) (mk : Int → α → α) : Int → List α → List α
  | _,[] => []
  | k,x :: xs => mk k x :: mkL sz mk (k + sz x) xs
theorem totL_app {α : Type} (sz : α → Int) : ∀ (xs ys : List α),totL sz (xs ++ ys) = totL sz xs + totL sz ys
  | [],ys => by simp [totL]
  | x :: xs,ys => by simp [totL,totL_app sz xs ys]; omega
theorem mkL_app {α : Type} (sz : α → Int) (mk : Int → α → α) : ∀ (k : Int) (xs ys : List α),mkL sz mk k (xs ++ ys) = mkL sz mk k xs ++ mkL sz mk (k + totL sz xs) ys
  | k,[],ys => by simp [mkL,totL]
  | k,x :: xs,ys => by simp [mkL,totL,mkL_app sz mk _ xs ys,Int.add_assoc]
theorem mkL_len {α : Type} (sz : α → Int) (mk : Int → α → α) : ∀ (k : Int) (xs : List α),(mkL sz mk k xs).length = xs.length
  | k,[] => rfl
  | k,x :: xs => by simp [mkL,mkL_len sz mk _ xs]
theorem totL_next {α : Type} (sz : α → Int) {xs : List α} {i : Int} (h0 : 0 ≤ i) (h : i.toNat < xs.length) : totL sz (xs.take (i + 1).toNat) = totL sz (xs.take i.toNat) + sz (xs[i.toNat]) := by
  rw [show (i + 1).toNat = i.toNat + 1 by omega,List.take_succ_eq_append_getElem h,totL_app]
  simp [totL]
theorem totL_bd {α : Type} (sz : α → Int) (b : Int) : ∀ {xs : List α},(∀ x ∈ xs,0 ≤ sz x ∧ sz x ≤ b) → 0 ≤ totL sz xs ∧ totL sz xs ≤ xs.length * b
  | [],_ => by simp [totL]
  | x :: xs,h => by
    have h1 := totL_bd sz b (xs := xs) (fun y hy => h y (by simp [hy]))
    have h2 := h x (by simp)
    simp only [totL,List.length_cons,Int.natCast_add,Int.add_mul,Int.natCast_one,Int.one_mul]
    omega
def mkT {α : Type} (sz : α → Int) (mk : Int → α → α) (k : Int) (xs : List α) (i : Nat) : List α := mkL sz mk k (xs.take i) ++ xs.drop i
theorem mkT_len {α : Type} (sz : α → Int) (mk : Int → α → α) (k : Int) (xs : List α) (i : Nat) (h : i ≤ xs.length) : (mkT sz mk k xs i).length = xs.length := by
  unfold mkT; rw [List.length_append,mkL_len,List.length_take,List.length_drop]; omega
theorem mkT_get {α : Type} (sz : α → Int) (mk : Int → α → α) (k : Int) (xs : List α) (i : Nat) (h : i < xs.length) (h' : i < (mkT sz mk k xs i).length) : (mkT sz mk k xs i)[i]'h' = xs[i] := by
  have e : (mkL sz mk k (xs.take i)).length = i := by rw [mkL_len,List.length_take]; omega
  have e2 : (mkT sz mk k xs i)[i]? = some xs[i] := by
    unfold mkT
    rw [List.getElem?_append_right (by omega),e,Nat.sub_self,List.getElem?_drop,Nat.add_zero,List.getElem?_eq_getElem h]
  rw [List.getElem?_eq_getElem h'] at e2
  exact Option.some.inj e2
theorem mkT_0 {α : Type} (sz : α → Int) (mk : Int → α → α) (k : Int) (xs : List α) : mkT sz mk k xs 0 = xs := by unfold mkT; simp [mkL]
theorem mkT_next {α : Type} (sz : α → Int) (mk : Int → α → α) (k : Int) (xs : List α) (i : Nat) (h : i < xs.length) : (mkT sz mk k xs i).set i (mk (k + totL sz (xs.take i)) xs[i]) = mkT sz mk k xs (i + 1) := by
  have e : (mkL sz mk k (xs.take i)).length = i := by rw [mkL_len,List.length_take]; omega
  unfold mkT
  rw [List.set_append_right _ _ (by omega),e,Nat.sub_self,List.drop_eq_getElem_cons h,List.set_cons_zero,List.take_succ_eq_append_getElem h,mkL_app]
  simp [mkL]
theorem mkT_end {α : Type} (sz : α → Int) (mk : Int → α → α) (k : Int) (xs : List α) : mkT sz mk k xs xs.length = mkL sz mk k xs := by unfold mkT; simp
abbrev szw (x : List Int) : Int := x.length
abbrev mkw (k : Int) (x : List Int) : List Int := marks k x.length
@[irreducible] def totW (xs : List (List Int)) : Int := totL szw xs
@[irreducible] def mksW (k : Int) (xs : List (List Int)) : List (List Int) := mkL szw mkw k xs
theorem preD7 {p : Prop} (h : p := by first | with_reducible assumption | omega | (simp only [List.length_append,List.length_cons,List.length_nil,List.length_set,List.length_replicate,List.length_take,List.length_drop,List.length_tail,List.length_dropLast,List.length_reverse] at *; omega) | exact mem_len (by assumption) (by omega) | (with_reducible refine Int.le_trans (Int.ofNat_le.2 (trimR_len _)) ?_; simp only [List.length_cons,List.length_tail]; omega) | (exact (ruAt_ok (by assumption) (by assumption) (by assumption)).2.1) | (exact (ruAt_ok (by assumption) (by assumption) (by assumption)).2.1) | (have := vMach_bd (by assumption); omega) | (simp only [mC_ch,mC_tu]; omega) | (have := vTag_bd (by assumption); omega) | (have := (‹Gd _ _›).le; omega) | (exact tgHalts_no (by assumption)) | (exact tgHead (by assumption) (by assumption) (by assumption)) | (exact Int.le_trans (tgStep_gd (by assumption) (by assumption) (by assumption) (by assumption)).le (by decide)) | (exact vTag_r (by assumption)) | (with_reducible refine Int.le_trans (Int.ofNat_le.2 (pushL_len _ _)) ?_; simp only [List.length_dropLast]; omega) | exact ls_at (by assumption) (by omega) | exact pt_gd (by assumption) | exact lv_at (by assumption) (by omega) | exact pt_gd (lv_at (by assumption) (by omega)) | exact (ask_ok (by assumption)).1 | exact (ask_ok (by assumption)).2.1 | exact (ask_ok (by assumption)).2.2.1 | exact (ask_ok (by assumption)).2.2.2 | (simp only [marks_len]; omega) | (simp only [marksR_len]; omega) | exact lns_at (by assumption) (by omega) | exact bgs_at (by assumption) (by omega) | trivial) : p := h
theorem toInt64SSn_ok (xs : List (List Int)) (hx : (xs.length : Int) ≤ 1048576) (hxs : ∀ x ∈ xs,(x.length : Int) ≤ 1048576) : Does Tryd.prog 25 [.one (shW xs)] [] (.one (.gv 0)) [roWn xs] := by
  refine does_of (k := 0) Tryd.func25 rfl Tryd.ntmps25 rfl rfl fun w F0 S0 ρ0 => ?_
  dsimp only [argT,argH]
  repeat' first|(apply n3;exact a_make (fE rfl) (fZ rfl) (fP rfl) (by decide) rfl rfl (by omega) rfl (by omega) (by omega) (rows_rep eWo none _);exact rfl;refine dA ?_)|(apply p3;(first|exact pu1|exact puN);exact rfl)|refine cd ?_
  first | refine g_conv (t_nilR (i := 0) (E' := eWn) ([] : List Int) rfl (by repeat (first | exact trivial | exact nilOwn (by decide) | exact (fun _ _ _ _ h => h) | refine And.intro ?_ ?_))) ?_ | refine o_conv (t_nilR (i := 0) (E' := eWn) ([] : List Int) rfl (by repeat (first | exact trivial | exact nilOwn (by decide) | exact (fun _ _ _ _ h => h) | refine And.intro ?_ ?_))) ?_
  refine g_loop_id ?_
  refine loopK [0,2,3] [0] (fun x : Int × List (List Int) => 0 ≤ x.1 ∧ x.1 ≤ xs.length ∧ x.2.length = xs.length ∧ ∀ k (h : k < xs.length),k < x.1 → x.2[k]? = some xs[k]) (fun x => [(4,.one (int x.1))]) (fun x => [(0,.row 1 (rows eWn x.2))]) (fun x => (xs.length - x.1).toNat) ((0 : Int),List.replicate xs.length ([] : List Int)) [0] (hI := ?_) (hr := ?_)
  · exact ⟨by simp,by simp,by simp,by intro k h h'; simp at h'; omega⟩
  · rintro ⟨i,l⟩ ⟨h0,h1,h2,h3⟩
    dsimp only [List.cons_append,List.nil_append] at *
    skip
    repeat' first|(apply p3;(first|exact pu1|exact puN|exact puC);exact rfl)|refine cdn ?_|refine g_reg (id := 3) ?_|refine g_reg (id := 6) ?_|((refine g_cond rfl (fun hc => ?_) (fun hc => ?_)) <;> (try simp only [dcB] at hc) <;> (try first|contradiction|(exfalso;omega)))
    · first | refine g_conv (t_qE (i := 0) (i.toNat) bnd rfl) ?_ | refine o_conv (t_qE (i := 0) (i.toNat) bnd rfl) ?_
      try dsimp only [List.map_cons,List.map_nil,List.set_cons_zero,List.set_cons_succ,List.length_cons,List.length_nil,List.cons_append,List.nil_append,Nat.reduceAdd,setRow]
      repeat' first|(apply p3;(first|exact pu1|exact puX|exact puI);exact rfl)|refine cdn ?_|refine g_reg (id := 5) ?_|(apply w3;(exact a_stQE 0 rfl rfl rfl rfl (fN rfl rfl) (Nat.le_of_ble_eq_true rfl) (Nat.le_of_ble_eq_true rfl) rfl bnd bnd);exact rfl;refine dS ?_)|(apply c4 1;exact callK1 (θ := []) (hD := (toInt64S_ok _ preD7));exact rfl;exact rfl;exact rfl;refine dM ?_)
      first | refine g_conv (t_close1 (i := 0) (j := 1) (k := 0) (m := 0) rfl rfl rfl rfl rfl) ?_ | refine o_conv (t_close1 (i := 0) (j := 1) (k := 0) (m := 0) rfl rfl rfl rfl rfl) ?_
      try dsimp only [List.map_cons,List.map_nil,List.set_cons_zero,List.set_cons_succ,List.length_cons,List.length_nil,List.cons_append,List.nil_append,Nat.reduceAdd,setRow]
      first | refine g_conv (t_uE (i := 0) (xs[i.toNat]'(by omega)) bnd rfl rfl) ?_ | refine o_conv (t_uE (i := 0) (xs[i.toNat]'(by omega)) bnd rfl rfl) ?_
      repeat' first|(apply p3;(first|exact pu1|exact a_add rfl rfl (by omega) (by omega));exact rfl)|refine cd ?_
      refine q_again (i + 1,l.set i.toNat (xs[i.toNat]'(by omega))) [0] (by exact stk) ?_ ?_
      · refine ⟨by dsimp only; omega,by dsimp only; omega,by simp [h2],fun k h h' => ?_⟩
        dsimp only at h' ⊢
        rw [List.getElem?_set]
        split
        · rename_i e
          subst e
          rw [if_pos (by omega)]
        · exact h3 k h (by omega)
      · dsimp only; omega
    · have hl : l = xs := by
        apply List.ext_getElem?
        intro k
        by_cases hk : k < xs.length
        · rw [h3 k hk (by omega),List.getElem?_eq_getElem hk]
        · rw [List.getElem?_eq_none (by omega),List.getElem?_eq_none (by omega)]
      subst hl
      skip
      repeat refine cr ?_
      refine ends_id ?_
      refine endK [?_] (h2 := ?_) (h3 := ?_) (nd := ?_)
      rotate_left 1
      all_goals (repeat' first|exact ce0|refine ce ?_|refine ce2 ?_ ?_|exact SVLe.refl|refine ceb ?_)
      all_goals first | exact (show nodupB _ = true from rfl) | exact Or.inr rfl | (rfl)
theorem markInt64SSn_ok (xs : List (List Int)) (k : Int) (h1 : 0 ≤ k) (h2 : k + totW xs ≤ 4611686018427387904) (hx : (xs.length : Int) ≤ 4611686018427) (hxs : ∀ x ∈ xs,(x.length : Int) ≤ 4611686018427) : Does Tryd.prog 38 [.one (.gv 0),.one (int k)] [roWn xs] (.one (int (k + totW xs))) [roWn (mksW k xs)] := by
  refine does_of (k := 1) Tryd.func38 rfl Tryd.ntmps38 rfl rfl fun w F0 S0 ρ0 => ?_
  dsimp only [argT,argH]
  repeat' first|(apply p3;(exact pu1);exact rfl)|refine cd ?_
  refine g_loop_id ?_
  refine loopK [0,4] [0] (fun y : Int × Int × List (List Int) => 0 ≤ y.1 ∧ y.1 ≤ xs.length ∧ y.2.1 = k + totL szw (xs.take y.1.toNat) ∧ y.2.2 = mkT szw mkw k xs y.1.toNat) (fun y => [(5,.one (int y.1)),(1,.one (int y.2.1))]) (fun y => [(0,roWn y.2.2)]) (fun y => (xs.length - y.1).toNat) ((0 : Int),k,xs) [0] (hI := ?_) (hr := ?_)
  · exact ⟨by simp,by simp,by simp [totL],(mkT_0 _ _ _ _).symm⟩
  · rintro ⟨i,k',l⟩ ⟨k1,k2,k3,k4⟩
    dsimp only [List.cons_append,List.nil_append] at *
    skip
    repeat' first|(apply p3;(first|exact pu1|exact puN|exact puC);exact rfl)|refine cdn ?_|refine g_reg (id := 2) ?_|refine g_reg (id := 5) ?_|((refine g_cond rfl (fun hc => ?_) (fun hc => ?_)) <;> (try simp only [dcB] at hc) <;> (try first|contradiction|(exfalso;omega)))
    · have hl := mkT_len szw mkw k xs i.toNat (by omega)
      rw [← k4] at hl
      have hi : i.toNat < xs.length := by omega
      have hg : l[i.toNat]'(by omega) = xs[i.toNat] := by subst k4; exact mkT_get _ _ _ _ _ hi _
      have hb := totL_bd szw 4611686018427 (xs := xs.take i.toNat) (fun x hx => ⟨by unfold szw; omega,hxs x (List.mem_of_mem_take hx)⟩)
      have hx2 := hxs _ (List.getElem_mem hi)
      have hn := totL_next szw k1 (xs := xs) hi
      have ht := totL_app szw (xs.take (i + 1).toNat) (xs.drop (i + 1).toNat)
      have hd := totL_bd szw 4611686018427 (xs := xs.drop (i + 1).toNat) (fun x hx => ⟨by unfold szw; omega,hxs x (List.mem_of_mem_drop hx)⟩)
      rw [List.take_append_drop] at ht
      unfold totW at h2
      have hs : szw xs[i.toNat] = (xs[i.toNat].length : Int) := rfl
      first | refine g_conv (t_qE (i := 0) (i.toNat) bnd rfl) ?_ | refine o_conv (t_qE (i := 0) (i.toNat) bnd rfl) ?_
      try dsimp only [List.map_cons,List.map_nil,List.set_cons_zero,List.set_cons_succ,List.length_cons,List.length_nil,List.cons_append,List.nil_append,Nat.reduceAdd,setRow]
      first | refine g_conv (t_open1 (i := 0) (k := 0) rfl rfl rfl) ?_ | refine o_conv (t_open1 (i := 0) (k := 0) rfl rfl rfl) ?_
      try dsimp only [List.map_cons,List.map_nil,List.set_cons_zero,List.set_cons_succ,List.length_cons,List.length_nil,List.cons_append,List.nil_append,Nat.reduceAdd,setRow]
      simp only [hg]
      repeat' first|(apply p3;(first|exact pu1|exact puX|exact puQ);exact rfl)|refine cdn ?_|refine g_reg (id := 4) ?_|(apply c4 0;exact callK1 (θ := [_]) (hD := (markInt64S_ok _ _ preD7 preD7 preD7));exact rfl;exact rfl;exact rfl;refine dM ?_)
      first | refine g_conv (t_close1 (i := 0) (j := 1) (k := 0) (m := 0) rfl rfl rfl rfl rfl) ?_ | refine o_conv (t_close1 (i := 0) (j := 1) (k := 0) (m := 0) rfl rfl rfl rfl rfl) ?_
      try dsimp only [List.map_cons,List.map_nil,List.set_cons_zero,List.set_cons_succ,List.length_cons,List.length_nil,List.cons_append,List.nil_append,Nat.reduceAdd,setRow]
      first | refine g_conv (t_uE (i := 0) (marks k' xs[i.toNat].length) bnd rfl rfl) ?_ | refine o_conv (t_uE (i := 0) (marks k' xs[i.toNat].length) bnd rfl rfl) ?_
      repeat' first|(apply p3;(first|exact pu1|exact a_add rfl rfl (by omega) (by omega));exact rfl)|refine cd ?_
      refine q_again (i + 1,k' + xs[i.toNat].length,l.set i.toNat (marks k' xs[i.toNat].length)) [0] (by exact stk) ?_ ?_
      · refine ⟨by dsimp only; omega,by dsimp only; omega,by dsimp only; omega,?_⟩
        dsimp only
        rw [show (i + 1).toNat = i.toNat + 1 by omega,← mkT_next szw mkw k xs i.toNat hi,← k3,← k4]
      · dsimp only; omega
    · have hl := mkT_len szw mkw k xs i.toNat (by omega)
      rw [← k4] at hl
      have hi : i.toNat = xs.length := by omega
      rw [hi,mkT_end] at k4
      rw [hi,List.take_length] at k3
      have e1 : totW xs = totL szw xs := by unfold totW; rfl
      have e2 : mksW k xs = mkL szw mkw k xs := by unfold mksW; rfl
      rw [e1,e2,← k3,← k4]
      skip
      repeat refine cr ?_
      refine ends_id ?_
      refine endK [] (h2 := ?_) (h3 := ?_) (nd := ?_)
      all_goals (repeat' first|exact ce0|refine ce ?_|refine ce2 ?_ ?_|(refine Or.inr (bx_eq rfl rfl ?_);(try dsimp only [C.ren,C.ren.all]);(try exact rfl))|exact SVLe.refl|refine ceb ?_)
      all_goals first | exact (show nodupB _ = true from rfl) | exact Or.inr rfl | (rfl)
end Go.Proofs.YtjmlbmmbionmcaaDoor
end
section
set_option linter.unusedVariables false
set_option linter.unusedSimpArgs false
set_option maxRecDepth 100000
set_option maxHeartbeats 4000000
namespace Go.Proofs.YtjmlbmmbionmcaaDoor
open Go Foot
theorem preD13 {p : Prop} (h : p := by first | with_reducible assumption | omega | (simp only [List.length_append,List.length_cons,List.length_nil,List.length_set,List.length_replicate,List.length_take,List.length_drop,List.length_tail,List.length_dropLast,List.length_reverse] at *; omega) | exact mem_len (by assumption) (by omega) | (with_reducible refine Int.le_trans (Int.ofNat_le.2 (trimR_len _)) ?_; simp only [List.length_cons,List.length_tail]; omega) | (exact (ruAt_ok (by assumption) (by assumption) (by assumption)).2.1) | (exact (ruAt_ok (by assumption) (by assumption) (by assumption)).2.1) | (have := vMach_bd (by assumption); omega) | (simp only [mC_ch,mC_tu]; omega) | (have := vTag_bd (by assumption); omega) | (have := (‹Gd _ _›).le; omega) | (exact tgHalts_no (by assumption)) | (exact tgHead (by assumption) (by assumption) (by assumption)) | (exact Int.le_trans (tgStep_gd (by assumption) (by assumption) (by assumption) (by assumption)).le (by decide)) | (exact vTag_r (by assumption)) | (with_reducible refine Int.le_trans (Int.ofNat_le.2 (pushL_len _ _)) ?_; simp only [List.length_dropLast]; omega) | exact ls_at (by assumption) (by omega) | exact pt_gd (by assumption) | exact lv_at (by assumption) (by omega) | exact pt_gd (lv_at (by assumption) (by omega)) | exact (ask_ok (by assumption)).1 | exact (ask_ok (by assumption)).2.1 | exact (ask_ok (by assumption)).2.2.1 | exact (ask_ok (by assumption)).2.2.2 | (simp only [marks_len]; omega) | (simp only [marksR_len]; omega) | exact lns_at (by assumption) (by omega) | exact bgs_at (by assumption) (by omega) | trivial) : p := h
theorem toTagN_ok (t : Tg) (hx : (t.ha.length : Int) ≤ 1048576) (hy : (t.wo.length : Int) ≤ 1048576) (hys : ∀ x ∈ t.wo,(x.length : Int) ≤ 1048576) : Does Tryd.prog 6 [.agg (tgC t)] [] (.agg [int t.de,.gv 0,.gv 1]) [roWn t.wo,roI t.ha] := by
  refine does_of (k := 0) Tryd.func6 rfl Tryd.ntmps6 rfl rfl fun w F0 S0 ρ0 => ?_
  dsimp only [argT,argH]
  repeat' first|(apply n3;exact a_new (gb := .bx _) rfl;exact rfl;refine dA ?_)|(apply p3;exact puL;exact rfl)|refine cd ?_|(apply w3;(exact a_st_bx rfl rfl rfl rfl (fN rfl rfl) (Nat.le_of_ble_eq_true rfl) rfl);exact rfl;refine dS ?_)|(apply c4 1;exact callK1 (θ := []) (hD := (toInt64SSn_ok _ preD13 preD13));exact rfl;exact rfl;exact rfl;refine dM ?_)|(apply c4 1;exact callK1 (θ := []) (hD := (toInt64S_ok _ preD13));exact rfl;exact rfl;exact rfl;refine dM ?_)
  repeat refine cr ?_
  refine ends_id ?_
  refine endK [?_,?_] (h2 := ?_) (h3 := ?_) (nd := ?_)
  rotate_left 2
  all_goals (repeat' first|exact ce0|refine ce ?_|refine ce2 ?_ ?_|exact SVLe.refl|refine ceb ?_)
  all_goals first | exact (show nodupB _ = true from rfl) | exact Or.inr rfl | (rfl)
theorem totW_bdd {xs : List (List Int)} (h1 : (xs.length : Int) ≤ 1048576) (h : ∀ x ∈ xs,(x.length : Int) ≤ 1048576) : 0 ≤ totW xs ∧ totW xs ≤ 1099511627776 := by
  have := totL_bd szw 1048576 (xs := xs) fun x hx => ⟨by unfold szw; omega,h x hx⟩
  have e : totW xs = totL szw xs := by unfold totW; rfl
  rw [e]
  omega
theorem markTagN_ok (t : Tg) (k : Int) (h1 : 0 ≤ k) (h2 : k ≤ 1152921504606846976) (hx : (t.ha.length : Int) ≤ 1048576) (hy : (t.wo.length : Int) ≤ 1048576) (hys : ∀ x ∈ t.wo,(x.length : Int) ≤ 1048576) : Does Tryd.prog 12 [.agg [int t.de,.gv 0,.gv 1],.one (int k)] [roWn t.wo,roI t.ha] (.one (int (k + totW t.wo + t.ha.length))) [roWn (mksW k t.wo),roI (marks (k + totW t.wo) t.ha.length)] := by
  have ht := totW_bdd hy hys
  have hys2 : ∀ x ∈ t.wo,(x.length : Int) ≤ 4611686018427 := fun x hx => by have := hys x hx; omega
  refine does_of (k := 2) Tryd.func12 rfl Tryd.ntmps12 rfl rfl fun w F0 S0 ρ0 => ?_
  dsimp only [argT,argH]
  repeat' first|(apply n3;exact a_new (gb := .bx _) rfl;exact rfl;refine dA ?_)|(apply p3;(exact pu1);exact rfl)|refine cd ?_|(apply c4 0;exact callK1 (θ := [_]) (hD := (markInt64SSn_ok t.wo k h1 (by omega) (by omega) hys2));exact rfl;exact rfl;exact rfl;refine dM ?_)|(apply c4 0;exact callK1 (θ := [_]) (hD := (markInt64S_ok t.ha (k + totW t.wo) (by omega) (by omega) (by omega)));exact rfl;exact rfl;exact rfl;refine dM ?_)
  repeat refine cr ?_
  refine ends_id ?_
  refine endK [] (h2 := ?_) (h3 := ?_) (nd := ?_)
  all_goals (repeat' first|exact ce0|refine ce ?_|refine ce2 ?_ ?_|(refine Or.inr (bx_eq rfl rfl ?_);(try dsimp only [C.ren,C.ren.all]);(try exact rfl))|exact SVLe.refl|refine ceb ?_)
  all_goals first | exact (show nodupB _ = true from rfl) | exact Or.inr rfl | (rfl)
end Go.Proofs.YtjmlbmmbionmcaaDoor
end
