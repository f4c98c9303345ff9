/- Parts of the proof (18 of 20). -/
import Derived.Test.YtjmlbmmbionmcaaGreatDoorQ17
section
set_option linter.unusedVariables false
set_option linter.unusedSimpArgs false
set_option maxRecDepth 100000
set_option maxHeartbeats 1000000
namespace Go.Proofs.YtjmlbmmbionmcaaGreatDoor
open Go Foot Go.RowKit
theorem preB205 {p : Prop} (h : p := by first | with_reducible assumption | omega | (simp only [List.length_append,List.length_cons,List.length_nil,List.length_set,List.length_replicate,List.length_take,List.length_drop,List.length_tail,List.length_dropLast,List.length_reverse] at *; omega) | exact mem_len (by assumption) (by omega) | (with_reducible refine Int.le_trans (Int.ofNat_le.2 (trimR_len _)) ?_; simp only [List.length_cons,List.length_tail]; omega) | (exact (ruAt_ok (by assumption) (by assumption) (by assumption)).2.1) | (exact (ruAt_ok (by assumption) (by assumption) (by assumption)).2.1) | (have := vMach_bd (by assumption); omega) | (simp only [List.length_append,List.length_cons,List.length_nil,repW_len,seN_len] at *; omega) | (simp only [mC_ch,mC_tu]; omega) | (have := vTag_bd (by assumption); omega) | (have := (‹Gd _ _›).le; omega) | (exact tgHalts_no (by assumption)) | (exact tgHead (by assumption) (by assumption) (by assumption)) | (exact Int.le_trans (tgStep_gd (by assumption) (by assumption) (by assumption) (by assumption)).le (by decide)) | (exact vTag_r (by assumption)) | (with_reducible refine Int.le_trans (Int.ofNat_le.2 (pushL_len _ _)) ?_; simp only [List.length_dropLast]; omega) | exact ls_at (by assumption) (by omega) | exact pt_gd (by assumption) | exact lv_at (by assumption) (by omega) | exact pt_gd (lv_at (by assumption) (by omega)) | exact (ask_ok (by assumption)).1 | exact (ask_ok (by assumption)).2.1 | exact (ask_ok (by assumption)).2.2.1 | exact (ask_ok (by assumption)).2.2.2 | trivial) : p := h
theorem l03Power_ok (p : List Int) (n : Int) (h0 : 0 ≤ n) (h1 : n ≤ 1000) (hw : p.length = 2) : Does Tryz.prog 133 [.one (shI p),.one (int n)] [] (.one (.gv 0)) [roI (repW p n.toNat)] := by
  refine does_of (k := 0) Tryz.func133 rfl Tryz.ntmps133 rfl rfl fun w F0 S0 ρ0 => ?_
  dsimp only [argT,argH]
  repeat' first|(apply n3;exact a_nilO eI rfl;exact rfl)|(apply n3;(exact a_litE eI [] rfl rfl rfl rfl rfl rfl rfl rfl);exact rfl;refine dA ?_)|(apply p3;(exact pu1);exact rfl)|refine cd ?_|fail
  refine g_loop_id ?_
  refine loopK [0,4] [1] (fun y : Int × List Int => 0 ≤ y.1 ∧ y.1 ≤ n ∧ y.2 = repW p (n - y.1).toNat) (fun y => [(1,.one (int y.1)),(5,.one (.gv 1))]) (fun y => [(1,roI y.2)]) (fun y => y.1.toNat) (n,[]) [0,1] (hI := ?_) (hr := ?_)
  · exact ⟨h0,by simp,by dsimp only; rw [Int.sub_self]; rfl⟩
  · rintro ⟨k,l⟩ ⟨j0,j1,j2⟩
    dsimp only [List.cons_append,List.nil_append] at *
    skip
    have jl : l.length = (n - k).toNat * 2 := by (rw [j2,repW_len,hw])
    repeat' first|(apply p3;(first|exact pu1|exact puC|exact a_sub rfl rfl (by omega) (by omega));exact rfl)|refine cd ?_|(apply s3;exact a_appE (fP rfl) rfl rfl rfl rfl nowR (by omega) (by decide) (by decide) (by exact rfl);exact rfl;exact rfl)|((refine g_cond rfl (fun hc => ?_) (fun hc => ?_)) <;> (try simp only [dcB] at hc) <;> (try first|contradiction|(exfalso;omega)))|fail
    · refine q_again (k - 1,l ++ p) [0,2] (by exact stk) ?_ ?_
      · dsimp only
        exact ⟨by omega,by omega,by rw [j2,repW_snoc,show (n - k).toNat + 1 = (n - (k - 1)).toNat by omega]⟩
      · dsimp only; omega
    · rw [show (n - k).toNat = n.toNat by omega] at j2
      rw [← j2]
      repeat refine cr ?_
      refine ends_id ?_
      refine endK [?_] (h2 := ?_) (h3 := ?_) (nd := ?_)
      rotate_left 1
      all_goals (repeat' first|exact ce0|refine ce ?_|refine ce2 ?_ ?_|(refine Or.inr (bx_eq rfl rfl ?_);(try dsimp only [C.ren,C.ren.all]);(try exact rfl))|exact SVLe.refl|refine ceb ?_)
      all_goals first | exact (show nodupB _ = true from rfl) | exact Or.inr rfl | (rfl)
@[irreducible] def atB (l : List Int) (i : Int) (p : List Int) : Bool := decide ((l.drop i.toNat).take p.length = p)
theorem l03At_ok (l : List Int) (i : Int) (p : List Int) (h0 : 0 ≤ i) (h1 : i ≤ l.length) (hw : (l.length : Int) ≤ 1048576) (hp : (p.length : Int) ≤ 1000) : Does Tryz.prog 135 [.one (shI l),.one (int i),.one (shI p)] [] (.one (boo (atB l i p))) [] := by
  refine does_of (k := 0) Tryz.func135 rfl Tryz.ntmps135 rfl rfl fun w F0 S0 ρ0 => ?_
  dsimp only [argT,argH]
  repeat' first|(apply p3;(first|exact pu1|exact puN|exact a_add rfl rfl (by omega) (by omega)|exact puC);exact rfl)|refine cd ?_|refine o_no rfl rfl rfl rfl ?_|(apply py3;exact rfl;exact rfl;(first|exact pu1|exact puN|exact a_add rfl rfl (by omega) (by omega)|exact a_slM rfl rfl rfl rfl (fS rfl) (by omega) (by omega) (by omega) (by exact rfl));exact rfl;exact rfl)|(apply cy4 0;exact rfl;exact rfl;exact callK1 (θ := []) (hD := (l00Same_ok _ _ preB205 preB205));exact rfl;exact rfl;exact rfl;exact rfl;refine dM ?_)|((refine o_gs rfl rfl (fun hc => ?_) (fun hc => ?_)) <;> (try simp only [dcB] at hc) <;> (try first|contradiction|(exfalso;omega)))|fail
  · have e : atB l i p = eqI (List.take ((i + (p.length : Int)).toNat - i.toNat) (List.drop i.toNat l)) p := by
      unfold atB eqI
      rw [show (i + (p.length : Int)).toNat - i.toNat = p.length by omega]
    rw [e]
    repeat refine cr ?_
    refine ends_id ?_
    refine endK [] (h2 := ?_) (h3 := ?_) (nd := ?_)
    all_goals (repeat' first|exact ce0|refine ce ?_|refine ce2 ?_ ?_|exact SVLe.refl|refine ceb ?_)
    all_goals first | exact (show nodupB _ = true from rfl) | exact Or.inr rfl | (rfl)
  · have e : atB l i p = false := by
      unfold atB
      rw [decide_eq_false_iff_not]
      intro h
      have := congrArg List.length h
      rw [List.length_take,List.length_drop] at this
      omega
    rw [e]
    repeat refine cr ?_
    refine ends_id ?_
    refine endK [] (h2 := ?_) (h3 := ?_) (nd := ?_)
    all_goals (repeat' first|exact ce0|refine ce ?_|refine ce2 ?_ ?_|exact SVLe.refl|refine ceb ?_)
    all_goals first | exact (show nodupB _ = true from rfl) | exact Or.inr rfl | (rfl)
theorem atB_t {l p : List Int} {i : Int} (h : atB l i p = true) : (l.drop i.toNat).take p.length = p := by unfold atB at h; exact of_decide_eq_true h
theorem atB_f {l p : List Int} {i : Int} (h : atB l i p = false) : ¬ (l.drop i.toNat).take p.length = p := by unfold atB at h; exact of_decide_eq_false h
theorem tk_len {l p : List Int} {i k : Nat} (h : (l.drop i).take k = p) (hk : p.length = k) (hi : i ≤ l.length) : i + k ≤ l.length := by
  have := congrArg List.length h
  rw [List.length_take,List.length_drop,hk] at this
  omega
theorem l15Pairs_ok (l : List Int) (i : Int) (p : List Int) (h0 : 0 ≤ i) (h1 : i ≤ l.length) (hw : (l.length : Int) ≤ 1000) (hp : p.length = 2) : Does Tryz.prog 136 [.one (shI l),.one (int i),.one (shI p)] [] (.one (int (pqC p l.length (l.drop i.toNat) : Nat))) [] := by
  refine does_of (k := 0) Tryz.func136 rfl Tryz.ntmps136 rfl rfl fun w F0 S0 ρ0 => ?_
  dsimp only [argT,argH]
  repeat' first|(apply p3;(exact pu1);exact rfl)|refine cd ?_|fail
  refine g_loop_id ?_
  refine loopK [0,2,6] [] (fun y : Int × Int => i ≤ y.1 ∧ y.1 ≤ l.length ∧ y.2 * 2 = y.1 - i ∧ y.2 + (pqC p (l.length - y.2.toNat) (l.drop y.1.toNat) : Nat) = (pqC p l.length (l.drop i.toNat) : Nat)) (fun y => [(1,.one (int y.1)),(7,.one (int y.2))]) (fun _ => []) (fun y => (l.length - y.1).toNat) (i,(0 : Int)) [] (hI := ?_) (hr := ?_)
  · exact ⟨by simp,h1,by simp,by simp⟩
  · rintro ⟨k,n⟩ ⟨j0,j1,j2,j3⟩
    dsimp only [List.cons_append,List.nil_append] at *
    skip
    repeat' first|(apply p3;(first|exact pu1|exact a_add rfl rfl (by omega) (by omega));exact rfl)|refine cd ?_|(apply c4 0;exact callK1 (θ := []) (hD := (l03At_ok _ _ _ preB205 preB205 preB205 preB205));exact rfl;exact rfl;exact rfl;refine dM ?_)|((refine g_cond rfl (fun hc => ?_) (fun hc => ?_)) <;> (try simp only [dcB] at hc) <;> (try first|contradiction|(exfalso;omega)))|fail
    · have ht := atB_t hc
      rw [hp] at ht
      have hk := tk_len ht hp (by omega)
      obtain ⟨f,hf⟩ : ∃ f,l.length - n.toNat = f + 1 := ⟨l.length - n.toNat - 1,by omega⟩
      rw [hf,pqC_s ht,List.drop_drop] at j3
      refine q_again (k + 2,n + 1) [] (by exact stk) ?_ ?_
      · dsimp only
        refine ⟨by omega,by omega,by omega,?_⟩
        rw [show l.length - (n + 1).toNat = f by omega,show (k + 2).toNat = k.toNat + 2 by omega]
        omega
      · dsimp only; omega
    · have ht := atB_f hc
      rw [hp] at ht
      rw [pqC_n ht] at j3
      have e : n = ((pqC p l.length (l.drop i.toNat) : Nat) : Int) := by omega
      rw [← e]
      skip
      repeat refine cr ?_
      refine ends_id ?_
      refine endK [] (h2 := ?_) (h3 := ?_) (nd := ?_)
      all_goals (repeat' first|exact ce0|refine ce ?_|refine ce2 ?_ ?_|exact SVLe.refl|refine ceb ?_)
      all_goals first | exact (show nodupB _ = true from rfl) | exact Or.inr rfl | (rfl)
structure NfOk (ns : List (List Bs)) : Prop where
  n : ns.length = 4
  f : (ns.getD 0 []).length ≤ 2
  p : (ns.getD 1 []).length = 2
  u : (ns.getD 2 []).length = 2
  z : (ns.getD 3 []).length = 2
abbrev frN (ns : List (List Bs)) (q : Int) (l : List Int) : Int × Int × Bool := frF (wdN (ns.getD 0 []) q) (wdN (ns.getD 1 []) q) (wdN (ns.getD 2 []) q) (wdN (ns.getD 3 []) q) l
theorem l15Form_ok (l : List Int) (q : Int) (ns : List (List Bs)) (hl : (l.length : Int) ≤ 1000) (h0 : -1000 ≤ q) (h1 : q ≤ 1000) (g : NfOk ns) : Does Tryz.prog 86 [.one (shI l),.one (int q),.one (shSL ns)] [] (.tup [(false,[int (frN ns q l).1]),(false,[int (frN ns q l).2.1]),(false,[boo (frN ns q l).2.2])]) [] := by
  have gn := g.n
  have gf := g.f
  have gp := g.p
  have gu := g.u
  have gz := g.z
  have i0 : ns[Int.toNat 0]'(by omega) = ns.getD 0 [] := get_getD ns [] 0 (by omega)
  have i1 : ns[Int.toNat 1]'(by omega) = ns.getD 1 [] := get_getD ns [] 1 (by omega)
  have i2 : ns[Int.toNat 2]'(by omega) = ns.getD 2 [] := get_getD ns [] 2 (by omega)
  have i3 : ns[Int.toNat 3]'(by omega) = ns.getD 3 [] := get_getD ns [] 3 (by omega)
  unfold frN
  rw [← i0] at gf ⊢
  rw [← i1] at gp ⊢
  rw [← i2] at gu ⊢
  rw [← i3] at gz ⊢
  have lf := wdN_len (ns[Int.toNat 0]'(by omega)) q
  have lp := wdN_len (ns[Int.toNat 1]'(by omega)) q
  have lu := wdN_len (ns[Int.toNat 2]'(by omega)) q
  have lz := wdN_len (ns[Int.toNat 3]'(by omega)) q
  rw [gp] at lp
  rw [gu] at lu
  rw [gz] at lz
  refine does_of (k := 0) Tryz.func86 rfl Tryz.ntmps86 rfl rfl fun w F0 S0 ρ0 => ?_
  dsimp only [argT,argH]
  repeat' first|(apply p3;(first|exact pu1|exact puI);exact rfl)|refine cdn ?_|refine g_reg (id := 0) ?_|refine g_reg (id := 1) ?_|refine g_reg (id := 2) ?_|(apply c4 1;exact callK1 (θ := []) (hD := (l15Word_ok _ _ preB205 preB205 preB205));exact rfl;exact rfl;exact rfl;refine dM ?_)|(apply c4 0;exact callK1 (θ := []) (hD := (l03At_ok _ _ _ preB205 preB205 preB205 preB205));exact rfl;exact rfl;exact rfl;refine dM ?_)|((refine g_cond rfl (fun hc => ?_) (fun hc => ?_)) <;> (try simp only [dcB] at hc) <;> (try first|contradiction|(exfalso;omega)))|fail
  · have h1' := atB_f hc
    rw [frF_1 (by simpa using h1')]
    repeat' first|(apply p3;(exact pu1);exact rfl)|refine cd ?_|fail
    repeat refine cr ?_
    refine ends_id ?_
    refine endK [] (h2 := ?_) (h3 := ?_) (nd := ?_)
    all_goals (repeat' first|exact ce0|refine ce ?_|refine ce2 ?_ ?_|exact SVLe.refl|refine ceb ?_)
    all_goals first | exact (show nodupB _ = true from rfl) | exact Or.inr rfl | (rfl)
  · have h1' : l.take (wdN (ns[Int.toNat 0]'(by omega)) q).length = (wdN (ns[Int.toNat 0]'(by omega)) q) := by simpa using atB_t hc
    have hl1 := tk_len (i := 0) (l := l) (k := (wdN (ns[Int.toNat 0]'(by omega)) q).length) (p := (wdN (ns[Int.toNat 0]'(by omega)) q)) (by simpa using h1') rfl (by omega)
    have ha := pqC_le (p := (wdN (ns[Int.toNat 1]'(by omega)) q)) lp l.length (l.drop (wdN (ns[Int.toNat 0]'(by omega)) q).length)
    rw [List.length_drop] at ha
    generalize hA : pqC (wdN (ns[Int.toNat 1]'(by omega)) q) l.length (l.drop (wdN (ns[Int.toNat 0]'(by omega)) q).length) = A at *
    repeat' first|(apply p3;(first|exact pu1|exact puN|exact a_add rfl rfl (by omega) (by omega)|exact puI);exact rfl)|refine cdn ?_|refine g_reg (id := 4) ?_|fail
    simp only [Int.zero_add,← lf]
    repeat' first|(apply p3;(first|exact pu1|exact puI);exact rfl)|refine cdn ?_|refine g_reg (id := 5) ?_|(apply c4 1;exact callK1 (θ := []) (hD := (l15Word_ok _ _ preB205 preB205 preB205));exact rfl;exact rfl;exact rfl;refine dM ?_)|(apply c4 0;exact callK1 (θ := []) (hD := (l15Pairs_ok _ _ _ preB205 preB205 preB205 preB205));exact rfl;exact rfl;exact rfl;refine dM ?_)|fail
    simp only [Int.toNat_natCast,hA]
    repeat' first|(apply p3;(first|exact pu1|exact a_add rfl rfl (by omega) (by omega)|exact a_mulB rfl rfl (by omega) (by omega) (by omega) (by omega)|exact puI);exact rfl)|refine cdn ?_|refine g_reg (id := 6) ?_|refine g_reg (id := 7) ?_|(apply c4 1;exact callK1 (θ := []) (hD := (l15Word_ok _ _ preB205 preB205 preB205));exact rfl;exact rfl;exact rfl;refine dM ?_)|(apply c4 0;exact callK1 (θ := []) (hD := (l03At_ok _ _ _ preB205 preB205 preB205 preB205));exact rfl;exact rfl;exact rfl;refine dM ?_)|((refine g_cond rfl (fun hc => ?_) (fun hc => ?_)) <;> (try simp only [dcB] at hc) <;> (try first|contradiction|(exfalso;omega)))|fail
    · have h2' := atB_f hc
      rw [lu,show (((wdN (ns[Int.toNat 0]'(by omega)) q).length : Nat) + 2 * (A : Int)).toNat = (wdN (ns[Int.toNat 0]'(by omega)) q).length + 2 * A by omega] at h2'
      rw [frF_2 h1' (by rw [hA]; exact h2')]
      repeat' first|(apply p3;(exact pu1);exact rfl)|refine cd ?_|fail
      repeat refine cr ?_
      refine ends_id ?_
      refine endK [] (h2 := ?_) (h3 := ?_) (nd := ?_)
      all_goals (repeat' first|exact ce0|refine ce ?_|refine ce2 ?_ ?_|exact SVLe.refl|refine ceb ?_)
      all_goals first | exact (show nodupB _ = true from rfl) | exact Or.inr rfl | (rfl)
    · have h2' := atB_t hc
      have et : (((wdN (ns[Int.toNat 0]'(by omega)) q).length : Nat) + 2 * (A : Int)).toNat = (wdN (ns[Int.toNat 0]'(by omega)) q).length + 2 * A := by omega
      rw [lu,et] at h2'
      have hl2 := tk_len h2' lu (by omega)
      have hz := pqC_le (p := (wdN (ns[Int.toNat 3]'(by omega)) q)) lz l.length (l.drop ((wdN (ns[Int.toNat 0]'(by omega)) q).length + 2 * A + 2))
      rw [List.length_drop] at hz
      rw [frF_3 h1' (by rw [hA]; exact h2'),hA]
      generalize hB : pqC (wdN (ns[Int.toNat 3]'(by omega)) q) l.length (l.drop ((wdN (ns[Int.toNat 0]'(by omega)) q).length + 2 * A + 2)) = B at *
      have et2 : (((wdN (ns[Int.toNat 0]'(by omega)) q).length : Nat) + 2 * (A : Int) + 2).toNat = (wdN (ns[Int.toNat 0]'(by omega)) q).length + 2 * A + 2 := by omega
      repeat' first|(apply p3;(first|exact pu1|exact a_add rfl rfl (by omega) (by omega)|exact puI);exact rfl)|refine cdn ?_|refine g_reg (id := 9) ?_|refine g_reg (id := 10) ?_|(apply c4 1;exact callK1 (θ := []) (hD := (l15Word_ok _ _ preB205 preB205 preB205));exact rfl;exact rfl;exact rfl;refine dM ?_)|(apply c4 0;exact callK1 (θ := []) (hD := (l15Pairs_ok _ _ _ preB205 preB205 preB205 preB205));exact rfl;exact rfl;exact rfl;refine dM ?_)|fail
      simp only [et2,hB]
      rw [show decide ((wdN (ns[Int.toNat 0]'(by omega)) q).length + 2 * A + 2 + 2 * B = l.length) = decide ((((wdN (ns[Int.toNat 0]'(by omega)) q).length : Nat) : Int) + 2 * (A : Int) + 2 + 2 * (B : Int) = (l.length : Nat)) from decide_eq_decide.2 (by omega)]
      repeat' first|(apply p3;(first|exact pu1|exact puN|exact a_add rfl rfl (by omega) (by omega)|exact a_mulB rfl rfl (by omega) (by omega) (by omega) (by omega)|exact puC);exact rfl)|refine cd ?_|fail
      repeat refine cr ?_
      refine ends_id ?_
      refine endK [] (h2 := ?_) (h3 := ?_) (nd := ?_)
      all_goals (repeat' first|exact ce0|refine ce ?_|refine ce2 ?_ ?_|exact SVLe.refl|refine ceb ?_)
      all_goals first | exact (show nodupB _ = true from rfl) | exact Or.inr rfl | (rfl)
theorem NfA : NfOk [[[65],[120]],[[97],[120]],[[66],[120]],[[98],[120]]] := ⟨rfl,by decide,rfl,rfl,rfl⟩
theorem NfB : NfOk [[[80,48]],[[112,49],[112,48]],[[81,49],[81,48]],[[114,49],[114,48]]] := ⟨rfl,by decide,rfl,rfl,rfl⟩
theorem NfC : NfOk [[[80,49],[80,48]],[[112,49],[112,48]],[[81,49],[81,48]],[[114,49],[114,48]]] := ⟨rfl,by decide,rfl,rfl,rfl⟩
theorem frA_bd {q : Int} {l : List Int} (hl : (l.length : Int) ≤ 1000) (h : (frA q l).2.2 = true) : 0 ≤ (frA q l).1 ∧ (frA q l).1 ≤ 1000 ∧ 0 ≤ (frA q l).2.1 ∧ (frA q l).2.1 ≤ 1000 := by
  obtain ⟨a,b,e1,e2⟩ := frA_fw h
  have := congrArg List.length e2
  rw [e1]
  unfold shA shF at this
  simp only [List.length_append,repW_len,wdN_len,List.length_cons,List.length_nil] at this
  dsimp only
  omega
theorem frB_bd {q : Int} {v : Nat} {l : List Int} (hl : (l.length : Int) ≤ 1000) (h : (frB q v l).2.2 = true) : 0 ≤ (frB q v l).1 ∧ (frB q v l).1 ≤ 1000 ∧ 0 ≤ (frB q v l).2.1 ∧ (frB q v l).2.1 ≤ 1000 := by
  obtain ⟨a,b,e1,e2⟩ := frB_fw h
  have := congrArg List.length e2
  rw [e1]
  unfold shB shF at this
  simp only [List.length_append,repW_len,wdN_len,List.length_cons,List.length_nil] at this
  dsimp only
  omega
abbrev cfY (o : Option Conf) : Conf := o.getD ⟨0,[],[]⟩
theorem l15Decode_ok (m : Mach) (l : List Int) (g : TmOk m) (hl : (l.length : Int) ≤ 1000) : Does Tryz.prog 36 [.one (maB m),.one (shI l)] [] (.tup [(true,[int (cfY (dcS m l m.st.toNat 0)).st,.gv 0,.gv 1]),(false,[boo (dcS m l m.st.toNat 0).isSome])]) [roI (cfY (dcS m l m.st.toNat 0)).le,roI (cfY (dcS m l m.st.toNat 0)).ri] := by
  have hb := vMach_bd g.v
  rw [g.y] at hb
  have hs := g.s
  refine does_of (k := 0) Tryz.func36 rfl Tryz.ntmps36 rfl rfl fun w F0 S0 ρ0 => ?_
  dsimp only [argT,argH]
  repeat' first|(apply n3;exact a_new (gb := .bx _) rfl;exact rfl;refine dA ?_)|(apply p3;(exact pu1);exact rfl)|refine cd ?_|fail
  refine g_loop_id ?_
  refine loopK [0,1,4,5] [] (fun q : Int => 0 ≤ q ∧ q ≤ m.st ∧ dcS m l (m.st - q).toNat q.toNat = dcS m l m.st.toNat 0) (fun q => [(6,.one (int q))]) (fun _ => []) (fun q => (m.st - q).toNat) (0 : Int) [0] (hI := ?_) (hr := ?_)
  · exact ⟨by omega,by omega,by rw [Int.sub_zero]; rfl⟩
  · rintro q ⟨j0,j1,j2⟩
    dsimp only [List.cons_append,List.nil_append] at *
    skip
    repeat' first|(apply p3;(first|exact pu1|exact puC);exact rfl)|refine cdn ?_|refine g_reg (id := 2) ?_|refine g_reg (id := 16) ?_|(apply w3;(exact a_st_bx rfl rfl rfl rfl (fN rfl rfl) (Nat.le_of_ble_eq_true rfl) rfl);exact rfl;refine dS ?_)|((refine g_cond rfl (fun hc => ?_) (fun hc => ?_)) <;> (try simp only [dcB] at hc) <;> (try first|contradiction|(exfalso;omega)))|fail
    · obtain ⟨u,hu⟩ : ∃ u : Nat,q = u := ⟨q.toNat,by omega⟩
      subst hu
      have eA : frN [[[65],[120]],[[97],[120]],[[66],[120]],[[98],[120]]] (u : Int) l = frA u l := by unfold frA; rfl
      repeat' first|(apply p3;exact a_litF (dst := some 26) eS [_,_] rfl rfl rfl rfl rfl rfl rfl rfl nowR;exact rfl)|(apply p3;exact a_litF (dst := some 27) eS [_,_] rfl rfl rfl rfl rfl rfl rfl rfl nowR;exact rfl)|(apply p3;exact a_litF (dst := some 28) eS [_,_] rfl rfl rfl rfl rfl rfl rfl rfl nowR;exact rfl)|(apply p3;exact a_litF (dst := some 29) eS [_,_] rfl rfl rfl rfl rfl rfl rfl rfl nowR;exact rfl)|(apply p3;exact a_litF (dst := some 30) eSL [_,_,_,_] rfl rfl rfl rfl rfl rfl rfl rfl nowR;exact rfl)|(apply p3;(exact pu1);exact rfl)|refine cdn ?_|refine g_reg (id := 4) ?_|(apply c4 0;exact callK1 (θ := []) (hD := (l15Form_ok l (u : Int) [[[65],[120]],[[97],[120]],[[66],[120]],[[98],[120]]] hl (by omega) (by omega) NfA));exact rfl;exact rfl;exact rfl;refine dM ?_)|fail
      simp only [eA]
      repeat' first|(apply p3;(exact pu1);exact rfl)|refine cdn ?_|refine g_reg (id := 5) ?_|((refine g_cond rfl (fun hc => ?_) (fun hc => ?_)) <;> (try simp only [dcB] at hc) <;> (try first|contradiction|(exfalso;omega)))|fail
      · have e0 : dcQ m l u = some ⟨u,btS (frA u l).1,btS (frA u l).2.1⟩ := by unfold dcQ; rw [if_pos hc]
        have e1 : dcS m l m.st.toNat 0 = some ⟨u,btS (frA u l).1,btS (frA u l).2.1⟩ := by
          rw [← j2,show (m.st - (u : Int)).toNat = (m.st - (u : Int) - 1).toNat + 1 by omega,Int.toNat_natCast,dcS_c e0]
        have hbd := frA_bd hl hc
        rw [e1]
        simp only [Option.getD_some,Option.isSome_some]
        repeat' first|(apply p3;(exact pu1);exact rfl)|refine cd ?_|(apply w3;(exact a_st_bx rfl rfl rfl rfl (fN rfl rfl) (Nat.le_of_ble_eq_true rfl) rfl);exact rfl;refine dS ?_)|(apply c4 1;exact callK1 (θ := []) (hD := (l15Side_ok _ preB205 preB205));exact rfl;exact rfl;exact rfl;refine dM ?_)|fail
        repeat refine cr ?_
        refine ends_id ?_
        refine endK [?_,?_] (h2 := ?_) (h3 := ?_) (nd := ?_)
        rotate_left 2
        all_goals (repeat' first|exact ce0|refine ce ?_|refine ce2 ?_ ?_|(refine Or.inr (bx_eq rfl rfl ?_);(try dsimp only [C.ren,C.ren.all]);(try exact rfl))|exact SVLe.refl|refine ceb ?_)
        all_goals first | exact (show nodupB _ = true from rfl) | exact Or.inr rfl | (rfl)
      · have hA : ¬ (frA u l).2.2 = true := by rw [hc]; decide
        repeat' first|(apply p3;(exact pu1);exact rfl)|refine cdn ?_|refine g_reg (id := 7) ?_|fail
        refine g_loop_id ?_
        refine loopK [0,1,4,5,6] [] (fun s : Int => 0 ≤ s ∧ s ≤ 2 ∧ (1 ≤ s → ¬ ((frB u 0 l).2.2 = true ∧ ruN m u 0 = noR)) ∧ (2 ≤ s → ¬ ((frB u 1 l).2.2 = true ∧ ruN m u 1 = noR))) (fun s => [(10,.one (int s))]) (fun _ => []) (fun s => (2 - s).toNat) (0 : Int) [0] (hI := ?_) (hr := ?_)
        · exact ⟨by simp,by simp,fun h => absurd h (by simp),fun h => absurd h (by simp)⟩
        · rintro s ⟨z0,z1,z2,z3⟩
          dsimp only [List.cons_append,List.nil_append] at *
          skip
          repeat' first|(apply p3;exact a_litF (dst := some 46) eS [_] rfl rfl rfl rfl rfl rfl rfl rfl nowR;exact rfl)|(apply p3;exact a_litF (dst := some 49) eS [_,_] rfl rfl rfl rfl rfl rfl rfl rfl nowR;exact rfl)|(apply p3;(first|exact pu1|exact puC|exact a_add rfl rfl (by omega) (by omega));exact rfl)|refine cdn ?_|refine g_reg (id := 8) ?_|refine g_reg (id := 10) ?_|refine g_reg (id := 11) ?_|refine g_reg (id := 12) ?_|refine g_reg (id := 3) ?_|((refine g_cond rfl (fun hc => ?_) (fun hc => ?_)) <;> (try simp only [dcB] at hc) <;> (try first|contradiction|(exfalso;omega)))|fail
          · skip
            have ev : s = 1 := by omega
            subst ev
            have eB : frN [[[80,49],[80,48]],[[112,49],[112,48]],[[81,49],[81,48]],[[114,49],[114,48]]] (u : Int) l = frB u 1 l := by unfold frB; rfl
            repeat' first|(apply p3;exact a_litF (dst := some 54) eS [_,_] rfl rfl rfl rfl rfl rfl rfl rfl nowR;exact rfl)|(apply p3;exact a_litF (dst := some 55) eS [_,_] rfl rfl rfl rfl rfl rfl rfl rfl nowR;exact rfl)|(apply p3;exact a_litF (dst := some 56) eS [_,_] rfl rfl rfl rfl rfl rfl rfl rfl nowR;exact rfl)|(apply p3;exact a_litF (dst := some 57) eSL [_,_,_,_] rfl rfl rfl rfl rfl rfl rfl rfl nowR;exact rfl)|(apply p3;(exact pu1);exact rfl)|refine cdn ?_|refine g_reg (id := 13) ?_|(apply c4 0;exact callK1 (θ := []) (hD := (l15Form_ok l (u : Int) [[[80,49],[80,48]],[[112,49],[112,48]],[[81,49],[81,48]],[[114,49],[114,48]]] hl (by omega) (by omega) NfC));exact rfl;exact rfl;exact rfl;refine dM ?_)|fail
            simp only [eB]
            have hR : m.ru[(2 * (u : Int) + 1).toNat]'(by omega) = ruN m u 1 := ruN_get (by omega) (by omega) (by omega)
            repeat' first|refine cdn ?_|(apply g_drN (id := 14) okM [[],[0],[0,1],[0,1,2],[0,1,2,3],[0,1,2,3,4],[0,1],[0,1,6],[0,1],[0,1,6,7,8],[0,1,2,3,4,5,6,7,8,9],[0,1,2,3,4,5,6,7,8,9,10],[0,1],[0,1,2,3,4,5,6,7,8,9,10,11,12],[0,1,2,3,4,5,6,7,8,9,10,11,12,13]] [([],[]),([],[]),([],[]),([],[]),([],[]),([],[]),([],[]),([],[]),([],[]),([],[]),([],[]),([],[]),([],[]),([],[]),([],[])] 0;(focus (all_goals refine dp 0 0 [] [] pu1 ?_;all_goals (refine db 1 1 [] [] pu1 ?_ ?_ <;> (intro hc;first|cases hc|(try simp only [dcB] at hc);first|contradiction|(exfalso;omega)|skip));all_goals (first|refine dn 2 3 [68,69,70,71,74] [] ?_|refine dpy 2 3 [68,69,70,71,74] [] pu1 ?_);all_goals (first|refine dn 3 7 [68,69,70,71,74] [] ?_|refine dpy 3 7 [68,69,70,71,74] [] (a_pure (sv := .one _) rfl) ?_);all_goals (first|refine dn 4 15 [68,69,70,71,74] [] ?_|refine dpy 4 15 [68,69,70,71,74] [] (a_pure (sv := .one _) rfl) ?_);all_goals (first|refine dn 5 31 [68,69,70,71,74] [] ?_|refine dpy 5 31 [68,69,70,71,74] [] (by first|exact a_ldE (E := eR) 0 rfl rfl rfl (fC rfl) rfl rfl (Nat.le_of_ble_eq_true rfl) bnd rfl (by first|exact trivial|exact rfl)|exact a_ldE (E := eR) 1 rfl rfl rfl (fC rfl) rfl rfl (Nat.le_of_ble_eq_true rfl) bnd rfl (by first|exact trivial|exact rfl)|exact a_ldE (E := eR) 2 rfl rfl rfl (fC rfl) rfl rfl (Nat.le_of_ble_eq_true rfl) bnd rfl (by first|exact trivial|exact rfl)|exact puL) ?_);all_goals (first|refine dn 6 48 [64,65,66,67,70,74] [] ?_|refine dpy 6 48 [64,65,66,67,70,74] [] pu1 ?_);all_goals (first|refine dn 7 97 [64,65,66,67,70,74] [] ?_|refine dpy 7 97 [64,65,66,67,70,74] [] (by first|exact a_mulB rfl rfl (by omega) (by omega) (by omega) (by omega)|exact a_mul rfl rfl (by first|omega|assumption) (by first|omega|assumption)) ?_);all_goals (first|refine dn 8 192 [64,65,66,67,68,69,74] [] ?_|refine dpy 8 192 [64,65,66,67,68,69,74] [] pu1 ?_);all_goals (first|refine dn 9 391 [64,65,66,67,74] [] ?_|refine dpy 9 391 [64,65,66,67,74] [] (a_add rfl rfl (by omega) (by omega)) ?_);all_goals (first|refine dn 10 1023 [74] [] ?_|refine dpy 10 1023 [74] [] puI ?_);all_goals (first|refine dn 11 2047 [74] [] ?_|refine dpy 11 2047 [74] [] (by first|exact a_ldE (E := eR) 0 rfl rfl rfl (fC rfl) rfl rfl (Nat.le_of_ble_eq_true rfl) bnd rfl (by first|exact trivial|exact rfl)|exact a_ldsE (E := eR) 0 rfl rfl rfl (fA rfl) rfl rfl (Nat.le_of_ble_eq_true rfl) (Nat.le_of_ble_eq_true rfl) bnd rfl (by repeat (first|exact trivial|exact rfl|refine And.intro ?_ ?_)) rfl|exact puL) ?_);all_goals (first|refine dn 12 3072 [64,65,66,67,68,69,70,71,72,73] [] ?_|refine dpy 12 3072 [64,65,66,67,68,69,70,71,72,73] [] (callD1 (n := _) 0 (θ := []) (hD := l05None_ok)) ?_);all_goals (first|refine dn 13 8191 [] [] ?_|refine dpy 13 8191 [] [] (by first|exact a_eqRule rfl rfl|exact a_eqRule (s := ⟨_,_,_⟩) rfl rfl|exact a_eqRule (r := ⟨_,_,_⟩) rfl rfl|exact a_eqRule (r := ⟨_,_,_⟩) (s := ⟨_,_,_⟩) rfl rfl) ?_);all_goals refine dp 14 16383 [] [] (a_pure (sv := .one _) rfl) ?_;all_goals (refine d_nil ?_;refine dN ?_)));any_goals kernel_rfl)|((refine g_cond rfl (fun hc => ?_) (fun hc => ?_)) <;> (try simp only [dcB] at hc) <;> (try first|contradiction|(exfalso;omega)))|fail
            · have hr0 : ruN m u 1 = noR := by rw [← hR]; assumption
              have hok : (frB (u : Int) 1 l).2.2 = true := by assumption
              have e0 : dcQ m l u = some ⟨u,btS (frB (u : Int) 1 l).1,btS (2 * (frB (u : Int) 1 l).2.1 + 1)⟩ := by unfold dcQ; rw [if_neg hA,if_neg (z2 (by omega)),if_pos ⟨hok,hr0⟩]
              have e1 : dcS m l m.st.toNat 0 = some ⟨u,btS (frB (u : Int) 1 l).1,btS (2 * (frB (u : Int) 1 l).2.1 + 1)⟩ := by
                rw [← j2,show (m.st - (u : Int)).toNat = (m.st - (u : Int) - 1).toNat + 1 by omega,Int.toNat_natCast,dcS_c e0]
              have hbd := frB_bd (v := 1) hl hok
              simp only [Int.natCast_zero,Int.natCast_one] at hbd
              rw [e1]
              simp only [Option.getD_some,Option.isSome_some]
              repeat' first|(apply p3;(first|exact pu1|exact a_mulB rfl rfl (by omega) (by omega) (by omega) (by omega)|exact a_add rfl rfl (by omega) (by omega));exact rfl)|refine cdn ?_|refine g_reg (id := 15) ?_|(apply w3;(exact a_st_bx rfl rfl rfl rfl (fN rfl rfl) (Nat.le_of_ble_eq_true rfl) rfl);exact rfl;refine dS ?_)|(apply c4 1;exact callK1 (θ := []) (hD := (l15Side_ok _ preB205 preB205));exact rfl;exact rfl;exact rfl;refine dM ?_)|fail
              repeat refine cr ?_
              refine ends_id ?_
              refine endK [?_,?_] (h2 := ?_) (h3 := ?_) (nd := ?_)
              rotate_left 2
              all_goals (repeat' first|exact ce0|refine ce ?_|refine ce2 ?_ ?_|(refine Or.inr (bx_eq rfl rfl ?_);(try dsimp only [C.ren,C.ren.all]);(try exact rfl))|exact SVLe.refl|refine ceb ?_)
              all_goals first | exact (show nodupB _ = true from rfl) | exact Or.inr rfl | (rfl)
            · have hr0 : ¬ ruN m u 1 = noR := by rw [← hR]; assumption
              have HH : ¬ ((frB (u : Int) 1 l).2.2 = true ∧ ruN m u 1 = noR) := fun hD => hr0 hD.2
              repeat' first|(apply p3;(first|exact pu1|exact a_add rfl rfl (by omega) (by omega));exact rfl)|refine cdn ?_|refine g_reg (id := 9) ?_|fail
              refine q_again ((1 : Int) + 1) [0] (by exact stk) ?_ ?_
              · exact ⟨by omega,by omega,fun _ => z2 (by omega),fun _ hD => HH hD⟩
              · omega
            · have HH : ¬ ((frB (u : Int) 1 l).2.2 = true ∧ ruN m u 1 = noR) := fun hD => by rw [hc] at hD; cases hD.1
              repeat' first|(apply p3;(first|exact pu1|exact a_add rfl rfl (by omega) (by omega));exact rfl)|refine cdn ?_|refine g_reg (id := 9) ?_|fail
              refine q_again ((1 : Int) + 1) [0] (by exact stk) ?_ ?_
              · exact ⟨by omega,by omega,fun _ => z2 (by omega),fun _ hD => HH hD⟩
              · omega
          · skip
            have ev : s = 0 := by omega
            subst ev
            have eB : frN [[[80,48]],[[112,49],[112,48]],[[81,49],[81,48]],[[114,49],[114,48]]] (u : Int) l = frB u 0 l := by unfold frB; rfl
            repeat' first|(apply p3;exact a_litF (dst := some 54) eS [_,_] rfl rfl rfl rfl rfl rfl rfl rfl nowR;exact rfl)|(apply p3;exact a_litF (dst := some 55) eS [_,_] rfl rfl rfl rfl rfl rfl rfl rfl nowR;exact rfl)|(apply p3;exact a_litF (dst := some 56) eS [_,_] rfl rfl rfl rfl rfl rfl rfl rfl nowR;exact rfl)|(apply p3;exact a_litF (dst := some 57) eSL [_,_,_,_] rfl rfl rfl rfl rfl rfl rfl rfl nowR;exact rfl)|(apply p3;(exact pu1);exact rfl)|refine cdn ?_|refine g_reg (id := 13) ?_|(apply c4 0;exact callK1 (θ := []) (hD := (l15Form_ok l (u : Int) [[[80,48]],[[112,49],[112,48]],[[81,49],[81,48]],[[114,49],[114,48]]] hl (by omega) (by omega) NfB));exact rfl;exact rfl;exact rfl;refine dM ?_)|fail
            simp only [eB]
            have hR : m.ru[(2 * (u : Int) + 0).toNat]'(by omega) = ruN m u 0 := ruN_get (by omega) (by omega) (by omega)
            repeat' first|refine cdn ?_|(apply g_drN (id := 14) okM [[],[0],[0,1],[0,1,2],[0,1,2,3],[0,1,2,3,4],[0,1],[0,1,6],[0,1],[0,1,6,7,8],[0,1,2,3,4,5,6,7,8,9],[0,1,2,3,4,5,6,7,8,9,10],[0,1],[0,1,2,3,4,5,6,7,8,9,10,11,12],[0,1,2,3,4,5,6,7,8,9,10,11,12,13]] [([],[]),([],[]),([],[]),([],[]),([],[]),([],[]),([],[]),([],[]),([],[]),([],[]),([],[]),([],[]),([],[]),([],[]),([],[])] 0;(focus (all_goals refine dp 0 0 [] [] pu1 ?_;all_goals (refine db 1 1 [] [] pu1 ?_ ?_ <;> (intro hc;first|cases hc|(try simp only [dcB] at hc);first|contradiction|(exfalso;omega)|skip));all_goals (first|refine dn 2 3 [68,69,70,71,74] [] ?_|refine dpy 2 3 [68,69,70,71,74] [] pu1 ?_);all_goals (first|refine dn 3 7 [68,69,70,71,74] [] ?_|refine dpy 3 7 [68,69,70,71,74] [] (a_pure (sv := .one _) rfl) ?_);all_goals (first|refine dn 4 15 [68,69,70,71,74] [] ?_|refine dpy 4 15 [68,69,70,71,74] [] (a_pure (sv := .one _) rfl) ?_);all_goals (first|refine dn 5 31 [68,69,70,71,74] [] ?_|refine dpy 5 31 [68,69,70,71,74] [] (by first|exact a_ldE (E := eR) 0 rfl rfl rfl (fC rfl) rfl rfl (Nat.le_of_ble_eq_true rfl) bnd rfl (by first|exact trivial|exact rfl)|exact a_ldE (E := eR) 1 rfl rfl rfl (fC rfl) rfl rfl (Nat.le_of_ble_eq_true rfl) bnd rfl (by first|exact trivial|exact rfl)|exact a_ldE (E := eR) 2 rfl rfl rfl (fC rfl) rfl rfl (Nat.le_of_ble_eq_true rfl) bnd rfl (by first|exact trivial|exact rfl)|exact puL) ?_);all_goals (first|refine dn 6 48 [64,65,66,67,70,74] [] ?_|refine dpy 6 48 [64,65,66,67,70,74] [] pu1 ?_);all_goals (first|refine dn 7 97 [64,65,66,67,70,74] [] ?_|refine dpy 7 97 [64,65,66,67,70,74] [] (by first|exact a_mulB rfl rfl (by omega) (by omega) (by omega) (by omega)|exact a_mul rfl rfl (by first|omega|assumption) (by first|omega|assumption)) ?_);all_goals (first|refine dn 8 192 [64,65,66,67,68,69,74] [] ?_|refine dpy 8 192 [64,65,66,67,68,69,74] [] pu1 ?_);all_goals (first|refine dn 9 391 [64,65,66,67,74] [] ?_|refine dpy 9 391 [64,65,66,67,74] [] (a_add rfl rfl (by omega) (by omega)) ?_);all_goals (first|refine dn 10 1023 [74] [] ?_|refine dpy 10 1023 [74] [] puI ?_);all_goals (first|refine dn 11 2047 [74] [] ?_|refine dpy 11 2047 [74] [] (by first|exact a_ldE (E := eR) 0 rfl rfl rfl (fC rfl) rfl rfl (Nat.le_of_ble_eq_true rfl) bnd rfl (by first|exact trivial|exact rfl)|exact a_ldsE (E := eR) 0 rfl rfl rfl (fA rfl) rfl rfl (Nat.le_of_ble_eq_true rfl) (Nat.le_of_ble_eq_true rfl) bnd rfl (by repeat (first|exact trivial|exact rfl|refine And.intro ?_ ?_)) rfl|exact puL) ?_);all_goals (first|refine dn 12 3072 [64,65,66,67,68,69,70,71,72,73] [] ?_|refine dpy 12 3072 [64,65,66,67,68,69,70,71,72,73] [] (callD1 (n := _) 0 (θ := []) (hD := l05None_ok)) ?_);all_goals (first|refine dn 13 8191 [] [] ?_|refine dpy 13 8191 [] [] (by first|exact a_eqRule rfl rfl|exact a_eqRule (s := ⟨_,_,_⟩) rfl rfl|exact a_eqRule (r := ⟨_,_,_⟩) rfl rfl|exact a_eqRule (r := ⟨_,_,_⟩) (s := ⟨_,_,_⟩) rfl rfl) ?_);all_goals refine dp 14 16383 [] [] (a_pure (sv := .one _) rfl) ?_;all_goals (refine d_nil ?_;refine dN ?_)));any_goals kernel_rfl)|((refine g_cond rfl (fun hc => ?_) (fun hc => ?_)) <;> (try simp only [dcB] at hc) <;> (try first|contradiction|(exfalso;omega)))|fail
            · have hr0 : ruN m u 0 = noR := by rw [← hR]; assumption
              have hok : (frB (u : Int) 0 l).2.2 = true := by assumption
              have e0 : dcQ m l u = some ⟨u,btS (frB (u : Int) 0 l).1,btS (2 * (frB (u : Int) 0 l).2.1 + 0)⟩ := by unfold dcQ; rw [if_neg hA,if_pos ⟨hok,hr0⟩]
              have e1 : dcS m l m.st.toNat 0 = some ⟨u,btS (frB (u : Int) 0 l).1,btS (2 * (frB (u : Int) 0 l).2.1 + 0)⟩ := by
                rw [← j2,show (m.st - (u : Int)).toNat = (m.st - (u : Int) - 1).toNat + 1 by omega,Int.toNat_natCast,dcS_c e0]
              have hbd := frB_bd (v := 0) hl hok
              simp only [Int.natCast_zero,Int.natCast_one] at hbd
              rw [e1]
              simp only [Option.getD_some,Option.isSome_some]
              repeat' first|(apply p3;(first|exact pu1|exact a_mulB rfl rfl (by omega) (by omega) (by omega) (by omega)|exact a_add rfl rfl (by omega) (by omega));exact rfl)|refine cdn ?_|refine g_reg (id := 15) ?_|(apply w3;(exact a_st_bx rfl rfl rfl rfl (fN rfl rfl) (Nat.le_of_ble_eq_true rfl) rfl);exact rfl;refine dS ?_)|(apply c4 1;exact callK1 (θ := []) (hD := (l15Side_ok _ preB205 preB205));exact rfl;exact rfl;exact rfl;refine dM ?_)|fail
              repeat refine cr ?_
              refine ends_id ?_
              refine endK [?_,?_] (h2 := ?_) (h3 := ?_) (nd := ?_)
              rotate_left 2
              all_goals (repeat' first|exact ce0|refine ce ?_|refine ce2 ?_ ?_|(refine Or.inr (bx_eq rfl rfl ?_);(try dsimp only [C.ren,C.ren.all]);(try exact rfl))|exact SVLe.refl|refine ceb ?_)
              all_goals first | exact (show nodupB _ = true from rfl) | exact Or.inr rfl | (rfl)
            · have hr0 : ¬ ruN m u 0 = noR := by rw [← hR]; assumption
              have HH : ¬ ((frB (u : Int) 0 l).2.2 = true ∧ ruN m u 0 = noR) := fun hD => hr0 hD.2
              repeat' first|(apply p3;(first|exact pu1|exact a_add rfl rfl (by omega) (by omega));exact rfl)|refine cdn ?_|refine g_reg (id := 9) ?_|fail
              refine q_again ((0 : Int) + 1) [0] (by exact stk) ?_ ?_
              · exact ⟨by omega,by omega,fun _ hD => HH hD,fun h => absurd h (by omega)⟩
              · omega
            · have HH : ¬ ((frB (u : Int) 0 l).2.2 = true ∧ ruN m u 0 = noR) := fun hD => by rw [hc] at hD; cases hD.1
              repeat' first|(apply p3;(first|exact pu1|exact a_add rfl rfl (by omega) (by omega));exact rfl)|refine cdn ?_|refine g_reg (id := 9) ?_|fail
              refine q_again ((0 : Int) + 1) [0] (by exact stk) ?_ ?_
              · exact ⟨by omega,by omega,fun _ hD => HH hD,fun h => absurd h (by omega)⟩
              · omega
          · have e0 : dcQ m l u = none := by unfold dcQ; rw [if_neg hA,if_neg (z2 (by omega)),if_neg (z3 (by omega))]
            rw [show (m.st - (u : Int)).toNat = (m.st - (u : Int) - 1).toNat + 1 by omega,Int.toNat_natCast,dcS_n e0] at j2
            skip
            refine q_again ((u : Int) + 1) [0] (by exact stk) ?_ ?_
            · exact ⟨by omega,by omega,by rw [← j2,show (m.st - ((u : Int) + 1)).toNat = (m.st - (u : Int) - 1).toNat by omega,show ((u : Int) + 1).toNat = u + 1 by omega]⟩
            · omega
    · rw [show (m.st - q).toNat = 0 by omega,dcS_0] at j2
      rw [← j2]
      skip
      simp only [setRow,scC,List.map_cons,List.map_nil,List.set_cons_zero,List.set_cons_succ,Nat.zero_add,List.getElem?_cons_zero,List.getElem?_cons_succ,List.take_succ_cons,List.take_zero,List.drop_zero,List.cons_append,List.nil_append,List.drop_succ_cons,List.drop_nil,List.append_nil,List.append_eq]
      refine g_conv (t_nilB (i := 0) (k := 1) (z := 1) rfl rfl rfl (by decide)) ?_
      try dsimp only [setRow,List.map_cons,List.map_nil,scC,List.set_cons_zero,List.set_cons_succ,Nat.reduceAdd]
      refine g_conv (t_nilB (i := 0) (k := 2) (z := 1) rfl rfl rfl (by decide)) ?_
      try dsimp only [setRow,List.map_cons,List.map_nil,scC,List.set_cons_zero,List.set_cons_succ,Nat.reduceAdd]
      repeat refine cr ?_
      refine ends_id ?_
      refine endK [?_,?_] (h2 := ?_) (h3 := ?_) (nd := ?_)
      rotate_left 2
      all_goals (repeat' first|exact ce0|refine ce ?_|refine ce2 ?_ ?_|(refine Or.inr (bx_eq rfl rfl ?_);(try dsimp only [C.ren,C.ren.all]);(try exact rfl))|exact SVLe.refl|refine ceb ?_)
      all_goals first | exact (show nodupB _ = true from rfl) | exact Or.inr rfl | (rfl)
end Go.Proofs.YtjmlbmmbionmcaaGreatDoor
end
section
set_option linter.unusedVariables false
set_option linter.unusedSimpArgs false
set_option maxRecDepth 100000
set_option maxHeartbeats 1000000
namespace Go.Proofs.YtjmlbmmbionmcaaGreatDoor
open Go Foot Go.RowKit
@[irreducible] def enO (m : Mach) (c : Conf) : Option (List Int) := if m.st ≤ 6 then (bif nmB c.le && nmB c.ri then (if 4 + 2 * (nmV c.le + nmV c.ri) ≤ 1000 then some (shA c.st (nmV c.le).toNat (nmV c.ri).toNat) else none) else none) else none
@[irreducible] def rwS (q a b : Int) : List Int := if 1000 < a + b then [] else shA q a.toNat b.toNat
theorem preB206 {p : Prop} (h : p := by first | with_reducible assumption | omega | (simp only [List.length_append,List.length_cons,List.length_nil,List.length_set,List.length_replicate,List.length_take,List.length_drop,List.length_tail,List.length_dropLast,List.length_reverse] at *; omega) | exact mem_len (by assumption) (by omega) | (with_reducible refine Int.le_trans (Int.ofNat_le.2 (trimR_len _)) ?_; simp only [List.length_cons,List.length_tail]; omega) | (exact (ruAt_ok (by assumption) (by assumption) (by assumption)).2.1) | (exact (ruAt_ok (by assumption) (by assumption) (by assumption)).2.1) | (have := vMach_bd (by assumption); omega) | (simp only [List.length_append,List.length_cons,List.length_nil,repW_len,seN_len] at *; omega) | (simp only [mC_ch,mC_tu]; omega) | (have := vTag_bd (by assumption); omega) | (have := (‹Gd _ _›).le; omega) | (exact tgHalts_no (by assumption)) | (exact tgHead (by assumption) (by assumption) (by assumption)) | (exact Int.le_trans (tgStep_gd (by assumption) (by assumption) (by assumption) (by assumption)).le (by decide)) | (exact vTag_r (by assumption)) | (with_reducible refine Int.le_trans (Int.ofNat_le.2 (pushL_len _ _)) ?_; simp only [List.length_dropLast]; omega) | exact ls_at (by assumption) (by omega) | exact pt_gd (by assumption) | exact lv_at (by assumption) (by omega) | exact pt_gd (lv_at (by assumption) (by omega)) | exact (ask_ok (by assumption)).1 | exact (ask_ok (by assumption)).2.1 | exact (ask_ok (by assumption)).2.2.1 | exact (ask_ok (by assumption)).2.2.2 | trivial) : p := h
theorem l15Row_ok (q a b : Int) (h0 : 0 ≤ q) (h1 : q ≤ 1000) (ha : 0 ≤ a) (ha2 : a ≤ 1000000000000) (hb : 0 ≤ b) (hb2 : b ≤ 1000000000000) : Does Tryz.prog 82 [.one (int q),.one (int a),.one (int b)] [] (.tup [(false,[.gv 0]),(false,[boo (decide (4 + 2 * (a + b) ≤ 1000))])]) [roI (rwS q a b)] := by
  have e : rwS q a b = if 1000 < a + b then [] else shA q a.toNat b.toNat := by unfold rwS; rfl
  rw [e]
  have lA : (wdN [[65],[120]] q).length = 2 := by rw [wdN_len]; rfl
  have la : (wdN [[97],[120]] q).length = 2 := by rw [wdN_len]; rfl
  have lB : (wdN [[66],[120]] q).length = 2 := by rw [wdN_len]; rfl
  have lb : (wdN [[98],[120]] q).length = 2 := by rw [wdN_len]; rfl
  by_cases h : 1000 < a + b
  · rw [if_pos h,decide_eq_false (by omega)]
    refine does_of (k := 0) Tryz.func82 rfl Tryz.ntmps82 rfl rfl fun w F0 S0 ρ0 => ?_
    dsimp only [argT,argH]
    repeat' first|(apply n3;exact a_nilO eI rfl;exact rfl)|(apply p3;(first|exact pu1|exact a_add rfl rfl (by omega) (by omega)|exact puC);exact rfl)|refine cd ?_|((refine g_cond rfl (fun hc => ?_) (fun hc => ?_)) <;> (try simp only [dcB] at hc) <;> (try first|contradiction|(exfalso;omega)))|fail
    repeat refine cr ?_
    refine ends_id ?_
    refine endK [?_] (h2 := ?_) (h3 := ?_) (nd := ?_)
    rotate_left 1
    all_goals (repeat' first|exact ce0|refine ce ?_|refine ce2 ?_ ?_|(refine Or.inr (bx_eq rfl rfl ?_);(try dsimp only [C.ren,C.ren.all]);(try exact rfl))|exact SVLe.refl|refine ceb ?_)
    all_goals first | exact (show nodupB _ = true from rfl) | exact Or.inr rfl | (rfl)
  · rw [if_neg h]
    have hsA := shA_len q a.toNat b.toNat
    have hf : shA q a.toNat b.toNat = wdN [[65],[120]] q ++ repW (wdN [[97],[120]] q) a.toNat ++ wdN [[66],[120]] q ++ repW (wdN [[98],[120]] q) b.toNat := by unfold shA shF; rfl
    rw [hf] at hsA ⊢
    have r1 := repW_len (wdN [[97],[120]] q) a.toNat
    rw [la] at r1
    have r2 := repW_len (wdN [[98],[120]] q) b.toNat
    rw [lb] at r2
    rw [show decide (4 + 2 * (a + b) ≤ 1000) = decide ((((wdN [[65],[120]] q ++ repW (wdN [[97],[120]] q) a.toNat ++ wdN [[66],[120]] q ++ repW (wdN [[98],[120]] q) b.toNat).length : Nat) : Int) ≤ 1000) from decide_eq_decide.2 (by rw [hsA]; omega)]
    refine does_of (k := 0) Tryz.func82 rfl Tryz.ntmps82 rfl rfl fun w F0 S0 ρ0 => ?_
    dsimp only [argT,argH]
    repeat' first|(apply n3;exact a_nilO eI rfl;exact rfl)|(apply n3;(exact a_litE eS [_,_] rfl rfl rfl rfl rfl rfl rfl rfl);exact rfl;refine dA ?_)|(apply p3;(first|exact pu1|exact a_add rfl rfl (by omega) (by omega)|exact puC|exact puN);exact rfl)|refine cd ?_|(apply s3;exact a_appE (fP rfl) rfl rfl rfl rfl nowR (by first|omega|(simp <;> omega)) (by decide) (by decide) (by exact rfl);exact rfl;exact rfl)|(apply c4 1;exact callK1 (θ := []) (hD := (l15Word_ok _ _ preB206 preB206 preB206));exact rfl;exact rfl;exact rfl;refine dM ?_)|(apply c4 1;exact callK1 (θ := []) (hD := (l03Power_ok _ _ preB206 preB206 preB206));exact rfl;exact rfl;exact rfl;refine dM ?_)|((refine g_cond rfl (fun hc => ?_) (fun hc => ?_)) <;> (try simp only [dcB] at hc) <;> (try first|contradiction|(exfalso;omega)))|fail
    repeat refine cr ?_
    refine ends_id ?_
    refine endK [?_] (h2 := ?_) (h3 := ?_) (nd := ?_)
    rotate_left 1
    all_goals (repeat' first|exact ce0|refine ce ?_|refine ce2 ?_ ?_|(refine Or.inr (bx_eq rfl rfl ?_);(try dsimp only [C.ren,C.ren.all]);(try exact rfl))|exact SVLe.refl|refine ceb ?_)
    all_goals first | exact (show nodupB _ = true from rfl) | exact Or.inr rfl | (rfl)
theorem vConf_bits {m : Mach} {c : Conf} (hy : m.sy = 2) (h : vConf m c = true) : (∀ x ∈ c.le,0 ≤ x ∧ x ≤ 1) ∧ (∀ x ∈ c.ri,0 ≤ x ∧ x ≤ 1) ∧ (c.le.length : Int) ≤ 200 ∧ (c.ri.length : Int) ≤ 200 ∧ 0 ≤ c.st ∧ c.st ≤ m.st - 1 := by
  obtain ⟨h1,h2,h3⟩ := vConf_bd h
  have a := vSide_bd h2
  have b := vSide_bd h3
  exact ⟨fun x hx => by have := a.2.1 x hx; omega,fun x hx => by have := b.2.1 x hx; omega,a.1,b.1,h1.1,h1.2⟩
theorem nmV_bd {l : List Int} (hb : ∀ x ∈ l,0 ≤ x ∧ x ≤ 1) : 0 ≤ nmV l ∧ nmV l ≤ 1000000000000 := by
  cases h : nmO l with
  | none => rw [nmV_none h]; decide
  | some n => rw [nmV_some h]; exact nmO_bd hb h
theorem tagWordOf_ok (m : Mach) (c : Conf) (hv : vMach m = true) (hy : m.sy = 2) (hc : vConf m c = true) : Does Tryz.prog 42 [.agg (maC m),.agg (coC c)] [] (.tup [(false,[.gv 0]),(false,[int (bif (enO m c).isSome then 0 else 5)])]) [roI ((enO m c).getD [])] := by
  obtain ⟨b1,b2,b3,b4,b5,b6⟩ := vConf_bits hy hc
  have v1 := nmV_bd b1
  have v2 := nmV_bd b2
  have hb := vMach_bd hv
  have e : enO m c = if m.st ≤ 6 then (bif nmB c.le && nmB c.ri then (if 4 + 2 * (nmV c.le + nmV c.ri) ≤ 1000 then some (shA c.st (nmV c.le).toNat (nmV c.ri).toNat) else none) else none) else none := by unfold enO; rfl
  by_cases hs : m.st ≤ 6
  · rw [if_pos hs] at e
    cases hn : nmB c.le && nmB c.ri with
    | false =>
      rw [hn,cond_false] at e
      rw [e]
      refine does_of (k := 0) Tryz.func42 rfl Tryz.ntmps42 rfl rfl fun w F0 S0 ρ0 => ?_
      dsimp only [argT,argH]
      repeat' first|(apply n3;exact a_nilO eI rfl;exact rfl)|(apply n3;exact a_new (gb := .bx _) rfl;exact rfl;refine dA ?_)|(apply p3;(exact pu1);exact rfl)|refine cdn ?_|refine g_reg (id := 0) ?_|refine g_reg (id := 1) ?_|(apply w3;exact a_st_bx rfl rfl rfl rfl (fN rfl rfl) (Nat.le_of_ble_eq_true rfl) rfl;exact rfl;refine dS ?_)|(apply c4 2;exact callK0 (θ := []) (hD := (tagOfMachine_ok _ preB206 preB206));exact rfl;exact rfl;exact rfl;refine dM ?_)|fail
      simp only [if_pos hs]
      repeat' first|(apply p3;(first|exact pu1|exact a_ne rfl rfl);exact rfl)|refine cdn ?_|refine g_reg (id := 2) ?_|refine g_reg (id := 4) ?_|(apply c4 0;exact callK1 (θ := []) (hD := (numbersOf_ok _ preB206 preB206 preB206 preB206));exact rfl;exact rfl;exact rfl;refine dM ?_)|fail
      simp only [hn,cond_false,Option.isSome_none,Option.getD_none]
      repeat' first|(apply n3;exact a_nilO eI rfl;exact rfl)|(apply p3;(first|exact pu1|exact a_ne rfl rfl);exact rfl)|refine cd ?_|refine o_no rfl rfl rfl rfl ?_|fail
      repeat refine cr ?_
      refine ends_id ?_
      refine endK [?_] (h2 := ?_) (h3 := ?_) (nd := ?_)
      rotate_left 1
      all_goals (repeat' first|exact ce0|refine ce ?_|refine ce2 ?_ ?_|(refine Or.inr (bx_eq rfl rfl ?_);(try dsimp only [C.ren,C.ren.all]);(try exact rfl))|exact SVLe.refl|refine ceb ?_)
      all_goals first | exact (show nodupB _ = true from rfl) | exact Or.inr rfl | (rfl)
    | true =>
      rw [hn,cond_true] at e
      by_cases hl : 4 + 2 * (nmV c.le + nmV c.ri) ≤ 1000
      · rw [if_pos hl] at e
        rw [e]
        refine does_of (k := 0) Tryz.func42 rfl Tryz.ntmps42 rfl rfl fun w F0 S0 ρ0 => ?_
        dsimp only [argT,argH]
        repeat' first|(apply n3;exact a_nilO eI rfl;exact rfl)|(apply n3;exact a_new (gb := .bx _) rfl;exact rfl;refine dA ?_)|(apply p3;(exact pu1);exact rfl)|refine cdn ?_|refine g_reg (id := 0) ?_|refine g_reg (id := 1) ?_|(apply w3;exact a_st_bx rfl rfl rfl rfl (fN rfl rfl) (Nat.le_of_ble_eq_true rfl) rfl;exact rfl;refine dS ?_)|(apply c4 2;exact callK0 (θ := []) (hD := (tagOfMachine_ok _ preB206 preB206));exact rfl;exact rfl;exact rfl;refine dM ?_)|fail
        simp only [if_pos hs]
        repeat' first|(apply p3;(first|exact pu1|exact a_ne rfl rfl);exact rfl)|refine cdn ?_|refine g_reg (id := 2) ?_|refine g_reg (id := 4) ?_|(apply c4 0;exact callK1 (θ := []) (hD := (numbersOf_ok _ preB206 preB206 preB206 preB206));exact rfl;exact rfl;exact rfl;refine dM ?_)|fail
        simp only [hn,cond_true,Option.isSome_some,Option.getD_some]
        repeat' first|(apply p3;(first|exact pu1|exact a_ne rfl rfl);exact rfl)|refine cd ?_|(apply c4 1;exact callK1 (θ := []) (hD := (shownWord_ok c.st (nmV c.le) (nmV c.ri) (by omega) (by omega) (by omega) (by omega) (by omega) (by omega)));exact rfl;exact rfl;exact rfl;refine dM ?_)|(apply py3;exact rfl;exact rfl;(first|exact pu1|exact a_add rfl rfl (by omega) (by omega)|exact a_mulB rfl rfl (by omega) (by omega) (by omega) (by omega)|exact puC);exact rfl;exact rfl)|((refine g_cond rfl (fun hc => ?_) (fun hc => ?_)) <;> (try simp only [dcB] at hc) <;> (try first|contradiction|(exfalso;omega)))|fail
        repeat refine cr ?_
        refine ends_id ?_
        refine endK [?_] (h2 := ?_) (h3 := ?_) (nd := ?_)
        rotate_left 1
        all_goals (repeat' first|exact ce0|refine ce ?_|refine ce2 ?_ ?_|(refine Or.inr (bx_eq rfl rfl ?_);(try dsimp only [C.ren,C.ren.all]);(try exact rfl))|exact SVLe.refl|refine ceb ?_)
        all_goals first | exact (show nodupB _ = true from rfl) | exact Or.inr rfl | (rfl)
      · rw [if_neg hl] at e
        rw [e]
        refine does_of (k := 0) Tryz.func42 rfl Tryz.ntmps42 rfl rfl fun w F0 S0 ρ0 => ?_
        dsimp only [argT,argH]
        repeat' first|(apply n3;exact a_nilO eI rfl;exact rfl)|(apply n3;exact a_new (gb := .bx _) rfl;exact rfl;refine dA ?_)|(apply p3;(exact pu1);exact rfl)|refine cdn ?_|refine g_reg (id := 0) ?_|refine g_reg (id := 1) ?_|(apply w3;exact a_st_bx rfl rfl rfl rfl (fN rfl rfl) (Nat.le_of_ble_eq_true rfl) rfl;exact rfl;refine dS ?_)|(apply c4 2;exact callK0 (θ := []) (hD := (tagOfMachine_ok _ preB206 preB206));exact rfl;exact rfl;exact rfl;refine dM ?_)|fail
        simp only [if_pos hs]
        repeat' first|(apply p3;(first|exact pu1|exact a_ne rfl rfl);exact rfl)|refine cdn ?_|refine g_reg (id := 2) ?_|refine g_reg (id := 4) ?_|(apply c4 0;exact callK1 (θ := []) (hD := (numbersOf_ok _ preB206 preB206 preB206 preB206));exact rfl;exact rfl;exact rfl;refine dM ?_)|fail
        simp only [hn,cond_true,cond_false,Option.isSome_none,Option.getD_none]
        repeat' first|(apply n3;exact a_nilO eI rfl;exact rfl)|(apply p3;(first|exact pu1|exact a_ne rfl rfl);exact rfl)|refine cd ?_|(apply py3;exact rfl;exact rfl;(first|exact pu1|exact a_add rfl rfl (by omega) (by omega)|exact a_mul rfl rfl (by first|omega|assumption) (by first|omega|assumption)|exact puC);exact rfl;exact rfl)|((refine g_cond rfl (fun hc => ?_) (fun hc => ?_)) <;> (try simp only [dcB] at hc) <;> (try first|contradiction|(exfalso;omega)))|fail
        repeat refine cr ?_
        refine ends_id ?_
        refine endK [?_] (h2 := ?_) (h3 := ?_) (nd := ?_)
        rotate_left 1
        all_goals (repeat' first|exact ce0|refine ce ?_|refine ce2 ?_ ?_|(refine Or.inr (bx_eq rfl rfl ?_);(try dsimp only [C.ren,C.ren.all]);(try exact rfl))|exact SVLe.refl|refine ceb ?_)
        all_goals first | exact (show nodupB _ = true from rfl) | exact Or.inr rfl | (rfl)
  · rw [if_neg hs] at e
    rw [e]
    refine does_of (k := 0) Tryz.func42 rfl Tryz.ntmps42 rfl rfl fun w F0 S0 ρ0 => ?_
    dsimp only [argT,argH]
    repeat' first|(apply n3;exact a_nilO eI rfl;exact rfl)|(apply n3;exact a_new (gb := .bx _) rfl;exact rfl;refine dA ?_)|(apply p3;(exact pu1);exact rfl)|refine cdn ?_|refine g_reg (id := 0) ?_|refine g_reg (id := 1) ?_|(apply w3;exact a_st_bx rfl rfl rfl rfl (fN rfl rfl) (Nat.le_of_ble_eq_true rfl) rfl;exact rfl;refine dS ?_)|(apply c4 2;exact callK0 (θ := []) (hD := (tagOfMachine_ok _ preB206 preB206));exact rfl;exact rfl;exact rfl;refine dM ?_)|fail
    simp only [if_neg hs,Option.isSome_none,Option.getD_none,cond_false]
    repeat' first|(apply n3;exact a_nilO eI rfl;exact rfl)|(apply p3;(first|exact pu1|exact a_ne rfl rfl);exact rfl)|refine cd ?_|fail
    repeat refine cr ?_
    refine ends_id ?_
    refine endK [?_] (h2 := ?_) (h3 := ?_) (nd := ?_)
    rotate_left 1
    all_goals (repeat' first|exact ce0|refine ce ?_|refine ce2 ?_ ?_|(refine Or.inr (bx_eq rfl rfl ?_);(try dsimp only [C.ren,C.ren.all]);(try exact rfl))|exact SVLe.refl|refine ceb ?_)
    all_goals first | exact (show nodupB _ = true from rfl) | exact Or.inr rfl | (rfl)
theorem l15Encode_ok (m : Mach) (c : Conf) (hv : vMach m = true) (hy : m.sy = 2) (hc : vConf m c = true) : Does Tryz.prog 34 [.one (maB m),.one (coB c)] [] (.tup [(true,[int 2,.gv 0,.gv 1]),(false,[.gv 2]),(false,[boo (enO m c).isSome])]) [roW (tmY m).wo,roI (tmY m).ha,roI (bif decide (m.st ≤ 6) && (nmB c.le && nmB c.ri) then rwS c.st (nmV c.le) (nmV c.ri) else [])] := by
  obtain ⟨b1,b2,b3,b4,b5,b6⟩ := vConf_bits hy hc
  have v1 := nmV_bd b1
  have v2 := nmV_bd b2
  have hb := vMach_bd hv
  have e : enO m c = if m.st ≤ 6 then (bif nmB c.le && nmB c.ri then (if 4 + 2 * (nmV c.le + nmV c.ri) ≤ 1000 then some (shA c.st (nmV c.le).toNat (nmV c.ri).toNat) else none) else none) else none := by unfold enO; rfl
  by_cases hs : m.st ≤ 6
  · rw [if_pos hs] at e
    cases hn1 : nmB c.le with
    | false =>
      rw [hn1,Bool.false_and,cond_false] at e
      rw [e]
      refine does_of (k := 0) Tryz.func34 rfl Tryz.ntmps34 rfl rfl fun w F0 S0 ρ0 => ?_
      dsimp only [argT,argH]
      repeat' first|(apply n3;exact a_nilO eI rfl;exact rfl)|(apply n3;exact a_new (gb := .bx _) rfl;exact rfl;refine dA ?_)|(apply p3;(exact pu1);exact rfl)|refine cdn ?_|refine g_reg (id := 0) ?_|refine g_reg (id := 1) ?_|refine g_reg (id := 2) ?_|refine g_reg (id := 3) ?_|(apply w3;exact a_st_bx rfl rfl rfl rfl (fN rfl rfl) (Nat.le_of_ble_eq_true rfl) rfl;exact rfl;refine dS ?_)|(apply c4 2;exact callK0 (θ := []) (hD := (l15Make_ok _ preB206 preB206));exact rfl;exact rfl;exact rfl;refine dM ?_)|(apply c4 0;exact callK1 (θ := []) (hD := (l15Number_ok _ preB206 preB206));exact rfl;exact rfl;exact rfl;refine dM ?_)|fail
      simp only [hn1,decide_eq_true hs,Bool.false_and,Bool.and_false,cond_false,Option.isSome_none]
      repeat' first|(apply n3;exact a_nilO eI rfl;exact rfl)|(apply p3;(exact pu1);exact rfl)|refine cd ?_|(apply w3;exact a_st_bx rfl rfl rfl rfl (fN rfl rfl) (Nat.le_of_ble_eq_true rfl) rfl;exact rfl;refine dS ?_)|refine o_no rfl rfl rfl rfl ?_|(apply py3;exact rfl;exact rfl;(exact pu1);exact rfl;exact rfl)|fail
      repeat refine cr ?_
      refine ends_id ?_
      refine endK [?_,?_,?_] (h2 := ?_) (h3 := ?_) (nd := ?_)
      rotate_left 3
      all_goals (repeat' first|exact ce0|refine ce ?_|refine ce2 ?_ ?_|(refine Or.inr (bx_eq rfl rfl ?_);(try dsimp only [C.ren,C.ren.all]);(try exact rfl))|exact SVLe.refl|refine ceb ?_)
      all_goals first | exact (show nodupB _ = true from rfl) | exact Or.inr rfl | (rfl)
    | true =>
      cases hn2 : nmB c.ri with
      | false =>
        rw [hn1,hn2,Bool.and_false,cond_false] at e
        rw [e]
        refine does_of (k := 0) Tryz.func34 rfl Tryz.ntmps34 rfl rfl fun w F0 S0 ρ0 => ?_
        dsimp only [argT,argH]
        repeat' first|(apply n3;exact a_nilO eI rfl;exact rfl)|(apply n3;exact a_new (gb := .bx _) rfl;exact rfl;refine dA ?_)|(apply p3;(exact pu1);exact rfl)|refine cdn ?_|refine g_reg (id := 0) ?_|refine g_reg (id := 1) ?_|refine g_reg (id := 2) ?_|refine g_reg (id := 3) ?_|(apply w3;exact a_st_bx rfl rfl rfl rfl (fN rfl rfl) (Nat.le_of_ble_eq_true rfl) rfl;exact rfl;refine dS ?_)|(apply c4 2;exact callK0 (θ := []) (hD := (l15Make_ok _ preB206 preB206));exact rfl;exact rfl;exact rfl;refine dM ?_)|(apply c4 0;exact callK1 (θ := []) (hD := (l15Number_ok _ preB206 preB206));exact rfl;exact rfl;exact rfl;refine dM ?_)|fail
        simp only [hn1,hn2,decide_eq_true hs,Bool.false_and,Bool.and_false,cond_false,Option.isSome_none]
        repeat' first|(apply n3;exact a_nilO eI rfl;exact rfl)|(apply p3;(exact pu1);exact rfl)|refine cd ?_|(apply w3;exact a_st_bx rfl rfl rfl rfl (fN rfl rfl) (Nat.le_of_ble_eq_true rfl) rfl;exact rfl;refine dS ?_)|(apply py3;exact rfl;exact rfl;(exact pu1);exact rfl;exact rfl)|fail
        repeat refine cr ?_
        refine ends_id ?_
        refine endK [?_,?_,?_] (h2 := ?_) (h3 := ?_) (nd := ?_)
        rotate_left 3
        all_goals (repeat' first|exact ce0|refine ce ?_|refine ce2 ?_ ?_|(refine Or.inr (bx_eq rfl rfl ?_);(try dsimp only [C.ren,C.ren.all]);(try exact rfl))|exact SVLe.refl|refine ceb ?_)
        all_goals first | exact (show nodupB _ = true from rfl) | exact Or.inr rfl | (rfl)
      | true =>
        rw [hn1,hn2,Bool.and_true,cond_true] at e
        have e2 : (enO m c).isSome = decide (4 + 2 * (nmV c.le + nmV c.ri) ≤ 1000) := by
          rw [e]
          by_cases hl : 4 + 2 * (nmV c.le + nmV c.ri) ≤ 1000
          · rw [if_pos hl,decide_eq_true hl]; rfl
          · rw [if_neg hl,decide_eq_false hl]; rfl
        rw [e2]
        refine does_of (k := 0) Tryz.func34 rfl Tryz.ntmps34 rfl rfl fun w F0 S0 ρ0 => ?_
        dsimp only [argT,argH]
        repeat' first|(apply n3;exact a_nilO eI rfl;exact rfl)|(apply n3;exact a_new (gb := .bx _) rfl;exact rfl;refine dA ?_)|(apply p3;(exact pu1);exact rfl)|refine cdn ?_|refine g_reg (id := 0) ?_|refine g_reg (id := 1) ?_|refine g_reg (id := 2) ?_|refine g_reg (id := 3) ?_|(apply w3;exact a_st_bx rfl rfl rfl rfl (fN rfl rfl) (Nat.le_of_ble_eq_true rfl) rfl;exact rfl;refine dS ?_)|(apply c4 2;exact callK0 (θ := []) (hD := (l15Make_ok _ preB206 preB206));exact rfl;exact rfl;exact rfl;refine dM ?_)|(apply c4 0;exact callK1 (θ := []) (hD := (l15Number_ok _ preB206 preB206));exact rfl;exact rfl;exact rfl;refine dM ?_)|fail
        simp only [hn1,hn2,decide_eq_true hs,Bool.true_and,Bool.and_true,cond_true]
        repeat' first|(apply p3;(exact pu1);exact rfl)|refine cd ?_|(apply w3;exact a_st_bx rfl rfl rfl rfl (fN rfl rfl) (Nat.le_of_ble_eq_true rfl) rfl;exact rfl;refine dS ?_)|(apply c4 1;exact callK1 (θ := []) (hD := (l15Row_ok _ _ _ preB206 preB206 preB206 preB206 preB206 preB206));exact rfl;exact rfl;exact rfl;refine dM ?_)|(apply py3;exact rfl;exact rfl;(exact pu1);exact rfl;exact rfl)|fail
        repeat refine cr ?_
        refine ends_id ?_
        refine endK [?_,?_,?_] (h2 := ?_) (h3 := ?_) (nd := ?_)
        rotate_left 3
        all_goals (repeat' first|exact ce0|refine ce ?_|refine ce2 ?_ ?_|(refine Or.inr (bx_eq rfl rfl ?_);(try dsimp only [C.ren,C.ren.all]);(try exact rfl))|exact SVLe.refl|refine ceb ?_)
        all_goals first | exact (show nodupB _ = true from rfl) | exact Or.inr rfl | (rfl)
  · rw [if_neg hs] at e
    rw [e]
    refine does_of (k := 0) Tryz.func34 rfl Tryz.ntmps34 rfl rfl fun w F0 S0 ρ0 => ?_
    dsimp only [argT,argH]
    repeat' first|(apply n3;exact a_nilO eI rfl;exact rfl)|(apply n3;exact a_new (gb := .bx _) rfl;exact rfl;refine dA ?_)|(apply p3;(exact pu1);exact rfl)|refine cdn ?_|refine g_reg (id := 0) ?_|refine g_reg (id := 1) ?_|refine g_reg (id := 2) ?_|refine g_reg (id := 3) ?_|(apply w3;exact a_st_bx rfl rfl rfl rfl (fN rfl rfl) (Nat.le_of_ble_eq_true rfl) rfl;exact rfl;refine dS ?_)|(apply c4 2;exact callK0 (θ := []) (hD := (l15Make_ok _ preB206 preB206));exact rfl;exact rfl;exact rfl;refine dM ?_)|(apply c4 0;exact callK1 (θ := []) (hD := (l15Number_ok _ preB206 preB206));exact rfl;exact rfl;exact rfl;refine dM ?_)|fail
    simp only [decide_eq_false hs,Bool.false_and,cond_false,Option.isSome_none]
    repeat' first|(apply n3;exact a_nilO eI rfl;exact rfl)|(apply p3;(exact pu1);exact rfl)|refine cd ?_|(apply w3;exact a_st_bx rfl rfl rfl rfl (fN rfl rfl) (Nat.le_of_ble_eq_true rfl) rfl;exact rfl;refine dS ?_)|refine o_no rfl rfl rfl rfl ?_|fail
    repeat refine cr ?_
    refine ends_id ?_
    refine endK [?_,?_,?_] (h2 := ?_) (h3 := ?_) (nd := ?_)
    rotate_left 3
    all_goals (repeat' first|exact ce0|refine ce ?_|refine ce2 ?_ ?_|(refine Or.inr (bx_eq rfl rfl ?_);(try dsimp only [C.ren,C.ren.all]);(try exact rfl))|exact SVLe.refl|refine ceb ?_)
    all_goals first | exact (show nodupB _ = true from rfl) | exact Or.inr rfl | (rfl)
end Go.Proofs.YtjmlbmmbionmcaaGreatDoor
end
section
set_option linter.unusedVariables false
set_option linter.unusedSimpArgs false
set_option maxRecDepth 100000
set_option maxHeartbeats 4000000
namespace Go.Proofs.YtjmlbmmbionmcaaGreatDoor
open Go Foot
end Go.Proofs.YtjmlbmmbionmcaaGreatDoor
end
section
set_option linter.unusedVariables false
set_option linter.unusedSimpArgs false
set_option maxRecDepth 100000
set_option maxHeartbeats 1000000
namespace Go.Proofs.YtjmlbmmbionmcaaGreatDoor
open Go Foot
theorem all_ok (u : List Int) : Does Tryz.prog 100 [.one (shI u)] [] (.one (boo true)) [] := by
  refine does_of (k := 0) Tryz.func100 rfl Tryz.ntmps100 rfl rfl fun w F0 S0 ρ0 => ?_
  dsimp only [argT,argH]
  repeat' first|(apply p3;exact a_pure (sv := .one _) rfl;exact rfl)|refine cd ?_
  repeat refine cr ?_
  refine ends_id ?_
  refine endK [] (h2 := ?_) (h3 := ?_) (nd := ?_)
  all_goals (repeat' first|exact ce0|refine ce ?_|refine ce2 ?_ ?_|exact SVLe.refl|refine ceb ?_)
  all_goals first | exact (show nodupB _ = true from rfl) | exact Or.inr rfl | (rfl)
end Go.Proofs.YtjmlbmmbionmcaaGreatDoor
end
section
set_option linter.unusedVariables false
set_option linter.unusedSimpArgs false
set_option maxRecDepth 100000
set_option maxHeartbeats 1000000
namespace Go.Proofs.YtjmlbmmbionmcaaGreatDoor
open Go Foot
def rnG (t : Tg) : Nat → Nat → List Int → List Int × Nat × Bool × Bool
  | 0,n,w => (w,n,tgHalts t w,true)
  | k + 1,n,w => bif tgHalts t w then (w,n,true,true) else bif tgOver t w then (tgStep t w,0,false,false) else rnG t k (n + 1) (tgStep t w)
theorem rnG_h {t : Tg} {k n : Nat} {w : List Int} (h : tgHalts t w = true) : rnG t k n w = (w,n,true,true) := by
  cases k with
  | zero => rw [rnG,h]
  | succ k => rw [rnG,h]; rfl
theorem rnG_o {t : Tg} {k n : Nat} {w : List Int} (h : tgHalts t w = false) (o : tgOver t w = true) : rnG t (k + 1) n w = (tgStep t w,0,false,false) := by
  rw [rnG,h,o]; rfl
theorem rnG_s {t : Tg} {k n : Nat} {w : List Int} (h : tgHalts t w = false) (o : tgOver t w = false) : rnG t (k + 1) n w = rnG t k (n + 1) (tgStep t w) := by
  rw [rnG,h,o]; rfl
theorem rnG_gd {t : Tg} (hv : vTag t = true) : ∀ (k n : Nat) (w : List Int),Gd t w → (rnG t k n w).2.2.2 = true → Gd t (rnG t k n w).1
  | 0,n,w,g,_ => by rw [rnG]; exact g
  | k + 1,n,w,g,ht => by
    cases h : tgHalts t w with
    | true => rw [rnG_h h]; exact g
    | false =>
      cases o : tgOver t w with
      | true => rw [rnG_o h o] at ht; cases ht
      | false => rw [rnG_s h o] at ht ⊢; exact rnG_gd hv k _ _ (tgStep_gd hv g h o) ht
theorem preB207 {p : Prop} (h : p := by first | with_reducible assumption | omega | (simp only [List.length_append,List.length_cons,List.length_nil,List.length_set,List.length_replicate,List.length_take,List.length_drop,List.length_tail,List.length_dropLast,List.length_reverse] at *; omega) | exact mem_len (by assumption) (by omega) | (with_reducible refine Int.le_trans (Int.ofNat_le.2 (trimR_len _)) ?_; simp only [List.length_cons,List.length_tail]; omega) | (exact (ruAt_ok (by assumption) (by assumption) (by assumption)).2.1) | (exact (ruAt_ok (by assumption) (by assumption) (by assumption)).2.1) | (have := vMach_bd (by assumption); omega) | (simp only [List.length_append,List.length_cons,List.length_nil,repW_len,seN_len] at *; omega) | (simp only [mC_ch,mC_tu]; omega) | (have := vTag_bd (by assumption); omega) | (have := (‹Gd _ _›).le; omega) | (exact tgHalts_no (by assumption)) | (exact tgHead (by assumption) (by assumption) (by assumption)) | (exact Int.le_trans (tgStep_gd (by assumption) (by assumption) (by assumption) (by assumption)).le (by decide)) | (exact vTag_r (by assumption)) | (with_reducible refine Int.le_trans (Int.ofNat_le.2 (pushL_len _ _)) ?_; simp only [List.length_dropLast]; omega) | exact ls_at (by assumption) (by omega) | exact pt_gd (by assumption) | exact lv_at (by assumption) (by omega) | exact pt_gd (lv_at (by assumption) (by omega)) | exact (ask_ok (by assumption)).1 | exact (ask_ok (by assumption)).2.1 | exact (ask_ok (by assumption)).2.2.1 | exact (ask_ok (by assumption)).2.2.2 | trivial) : p := h
theorem l09Run_ok (t : Tg) (q : List Int) (B : Int) (hv : vTag t = true) (hg : Gd t q) (hx : (t.ha.length : Int) ≤ 1048576) (h1 : 0 ≤ B) (h2 : B ≤ 20000) : Does Tryz.prog 35 [.one (tgB t),.one (shI q),.one (int B)] [] (.tup [(false,[.gv 0]),(false,[int ((rnG t B.toNat 0 q).2.1 : Nat)]),(false,[boo (rnG t B.toNat 0 q).2.2.1]),(false,[boo (rnG t B.toNat 0 q).2.2.2])]) [roI (bif (rnG t B.toNat 0 q).2.2.2 then (rnG t B.toNat 0 q).1 else [])] := by
  have hb := vTag_bd hv
  have hl := hg.le
  refine does_of (k := 0) Tryz.func35 rfl Tryz.ntmps35 rfl rfl fun w F0 S0 ρ0 => ?_
  dsimp only [argT,argH]
  repeat' first|(apply n3;exact a_nilO eI rfl;exact rfl)|(apply p3;(exact pu1);exact rfl)|refine cd ?_|(apply c4 1;exact callK1 (θ := []) (hD := (l00Own_ok _ preB207));exact rfl;exact rfl;exact rfl;refine dM ?_)|fail
  refine g_loop_id ?_
  refine loopK [0,2,6,7,8,9] [1] (fun x : Int × List Int => 0 ≤ x.1 ∧ x.1 ≤ B ∧ Gd t x.2 ∧ rnG t (B - x.1).toNat x.1.toNat x.2 = rnG t B.toNat 0 q) (fun x => [(11,.one (int x.1)),(10,.one (.gv 1))]) (fun x => [(1,roI x.2)]) (fun x => (B - x.1).toNat) ((0 : Int),q) [0,1] (hI := ?_) (hr := ?_)
  · exact ⟨by simp,h1,hg,by simp⟩
  · rintro ⟨n,u⟩ ⟨k0,k1,k2,k3⟩
    dsimp only [List.cons_append,List.nil_append] at *
    try dsimp only [tgR]
    skip
    have kl := k2.le
    repeat' first|(apply n3;exact a_nilO eI rfl;exact rfl)|(apply p3;(first|exact pu1|exact puC|exact a_add rfl rfl (by omega) (by omega));exact rfl)|refine cd ?_|(apply c4 0;exact callK1 (θ := []) (hD := (l09Halts_ok _ _ preB207 preB207 preB207));exact rfl;exact rfl;exact rfl;refine dM ?_)|(apply c4 1;exact callK1 (θ := []) (hD := (l09Step_ok _ _ preB207 preB207 preB207 preB207));exact rfl;exact rfl;exact rfl;refine dM ?_)|((refine g_cond rfl (fun hc => ?_) (fun hc => ?_)) <;> (try simp only [dcB] at hc) <;> (try first|contradiction|(exfalso;omega)))|fail
    · have e : rnG t B.toNat 0 q = (u,n.toNat,true,true) := by rw [← k3,rnG_h hc]
      rw [e]
      simp only [cond_true]
      repeat refine cr ?_
      refine ends_id ?_
      refine endK [?_] (h2 := ?_) (h3 := ?_) (nd := ?_)
      rotate_left 1
      all_goals (repeat' first|exact ce0|refine ce ?_|refine ce2 ?_ ?_|(refine Or.inr (bx_eq rfl rfl ?_);(try dsimp only [C.ren,C.ren.all]);(try exact rfl))|exact SVLe.refl|refine ceb ?_)
      all_goals first | exact (show nodupB _ = true from rfl) | exact Or.inr rfl | ((first | rfl | omega | (dsimp only; omega)))
    · have e : rnG t B.toNat 0 q = (tgStep t u,0,false,false) := by rw [← k3,show (B - n).toNat = (B - (n + 1)).toNat + 1 by omega,rnG_o (by assumption) (by simpa using hc)]
      rw [e]
      simp only [cond_false]
      repeat refine cr ?_
      refine ends_id ?_
      refine endK [?_] (h2 := ?_) (h3 := ?_) (nd := ?_)
      rotate_left 1
      all_goals (repeat' first|exact ce0|refine ce ?_|refine ce2 ?_ ?_|(refine Or.inr (bx_eq rfl rfl ?_);(try dsimp only [C.ren,C.ren.all]);(try exact rfl))|exact SVLe.refl|refine ceb ?_)
      all_goals first | exact (show nodupB _ = true from rfl) | exact Or.inr rfl | (rfl)
    · have ho : tgOver t u = false := by simpa using hc
      have e0 : (B - n).toNat = (B - (n + 1)).toNat + 1 := by omega
      rw [e0,rnG_s (by assumption) ho] at k3
      refine q_again (n + 1,tgStep t u) [0,2] (by exact stk) ?_ ?_
      · dsimp only
        refine ⟨by omega,by omega,tgStep_gd hv k2 (by assumption) ho,?_⟩
        rw [show (n + 1).toNat = n.toNat + 1 by omega]
        exact k3
      · dsimp only; omega
    · have e : rnG t B.toNat 0 q = (u,n.toNat,tgHalts t u,true) := by rw [← k3,show (B - n).toNat = 0 by omega,rnG]
      rw [e]
      simp only [cond_true]
      skip
      repeat refine cr ?_
      refine ends_id ?_
      refine endK [?_] (h2 := ?_) (h3 := ?_) (nd := ?_)
      rotate_left 1
      all_goals (repeat' first|exact ce0|refine ce ?_|refine ce2 ?_ ?_|(refine Or.inr (bx_eq rfl rfl ?_);(try dsimp only [C.ren,C.ren.all]);(try exact rfl))|exact SVLe.refl|refine ceb ?_)
      all_goals first | exact (show nodupB _ = true from rfl) | exact Or.inr rfl | ((first | rfl | omega | (dsimp only; omega)))
theorem runSysG_ok (t : Tg) (q : List Int) (B : Int) (hv : vTag t = true) (hg : Gd t q) (hx : (t.ha.length : Int) ≤ 1048576) (h1 : 0 ≤ B) (h2 : B ≤ 20000) : Does Tryz.prog 99 [.one (.ifc 93 false [.gv 0]),.one (int B),.one (.d (.fn (.func 100) []))] [.bx (tgR t 1),.row 1 (rows eI q)] (.tup [(false,[int ((rnG t B.toNat 0 q).2.1 : Nat)]),(false,[boo (rnG t B.toNat 0 q).2.2.1]),(false,[int (bif (rnG t B.toNat 0 q).2.2.2 then 0 else 5)])]) [.bx (tgR t 2),.dead,.row 1 (rows eI (rnG t B.toNat 0 q).1)] := by
  have hb := vTag_bd hv
  refine does_of (k := 2) Tryz.func99 rfl Tryz.ntmps99 rfl rfl fun w F0 S0 ρ0 => ?_
  dsimp only [argT,argH]
  refine g_conv (t_mvB (i := 1) (j := 0) (k := 3) rfl rfl rfl rfl rfl rfl) ?_
  try dsimp only [setRow,List.map_cons,List.map_nil,scC,List.set_cons_zero,List.set_cons_succ]
  repeat' first|(apply p3;(exact pu1);exact rfl)|refine cd ?_|fail
  refine g_loop_id ?_
  refine loopK [0,1,2,6,7,8] [0,2] (fun x : Int × List Int => 0 ≤ x.1 ∧ x.1 ≤ B ∧ Gd t x.2 ∧ rnG t (B - x.1).toNat x.1.toNat x.2 = rnG t B.toNat 0 q) (fun x => [(9,.one (int x.1))]) (fun x => [(0,.bx (tgR t 2)),(2,.row 1 (rows eI x.2))]) (fun x => (B - x.1).toNat) ((0 : Int),q) [0,1,2] (hI := ?_) (hr := ?_)
  · exact ⟨by simp,by simp; omega,hg,by simp⟩
  · rintro ⟨n,w⟩ ⟨k0,k1,k2,k3⟩
    dsimp only [List.cons_append,List.nil_append] at *
    try dsimp only [tgR]
    skip
    have kl := k2.le
    repeat' first|(apply p3;(first|exact pu1|exact a_add rfl rfl (by omega) (by omega));exact rfl)|refine cd ?_|(apply c4 0;exact callM0 (dst := some 14) (θ := [0,2]) (hD := (tagWord_ok t _));exact rfl;exact rfl;exact rfl;refine dM ?_)|(apply c4 0;exact callK1 (θ := []) (hD := (all_ok _));exact rfl;exact rfl;exact rfl;refine dM ?_)|(apply c4 0;exact callM0 (dst := some 28) (θ := [0,2]) (hD := (tagHalts_ok t _ hv preB207 preB207));exact rfl;exact rfl;exact rfl;refine dM ?_)|(apply c4 1;exact callM0 (dst := some 30) (θ := [0,2]) (hD := (tagStep_ok t _ hv preB207 preB207 preB207 preB207));exact rfl;exact rfl;exact rfl;refine dM ?_)|refine o_no rfl rfl rfl rfl ?_|(apply py3;exact rfl;exact rfl;(first|exact pu1|exact puC);exact rfl;exact rfl)|(apply cy4 0;exact rfl;exact rfl;exact callM0 (dst := some 24) (θ := [0,2]) (hD := (tagHalts_ok t _ hv preB207 preB207));exact rfl;exact rfl;exact rfl;exact rfl;refine dM ?_)|((first|refine o_gs rfl rfl (fun hc => ?_) (fun hc => ?_)|refine g_cond rfl (fun hc => ?_) (fun hc => ?_)) <;> (try simp only [dcB] at hc) <;> (try first|contradiction|(exfalso;omega)))|fail
    · have e : rnG t B.toNat 0 q = (w,n.toNat,tgHalts t w,true) := by rw [← k3,show (B - n).toNat = 0 by omega,rnG]
      rw [e]
      repeat refine cr ?_
      refine ends_id ?_
      refine endK [?_] (h2 := ?_) (h3 := ?_) (nd := ?_)
      rotate_left 1
      all_goals (repeat' first|exact ce0|refine ce ?_|refine ce2 ?_ ?_|(refine Or.inr (bx_eq rfl rfl ?_);(try dsimp only [C.ren,C.ren.all]);(try exact rfl))|exact SVLe.refl|refine ceb ?_)
      all_goals first | exact (show nodupB _ = true from rfl) | exact Or.inr rfl | ((first | rfl | omega | (dsimp only; omega)))
    · have e : rnG t B.toNat 0 q = (w,n.toNat,true,true) := by rw [← k3,rnG_h hc]
      rw [e]
      simp only [hc]
      repeat refine cr ?_
      refine ends_id ?_
      refine endK [?_] (h2 := ?_) (h3 := ?_) (nd := ?_)
      rotate_left 1
      all_goals (repeat' first|exact ce0|refine ce ?_|refine ce2 ?_ ?_|(refine Or.inr (bx_eq rfl rfl ?_);(try dsimp only [C.ren,C.ren.all]);(try exact rfl))|exact SVLe.refl|refine ceb ?_)
      all_goals first | exact (show nodupB _ = true from rfl) | exact Or.inr rfl | ((first | rfl | omega | (dsimp only; omega)))
    · have e : rnG t B.toNat 0 q = (tgStep t w,0,false,false) := by rw [← k3,show (B - n).toNat = (B - (n + 1)).toNat + 1 by omega,rnG_o (by assumption) hc]
      rw [e]
      repeat refine cr ?_
      refine ends_id ?_
      refine endK [?_] (h2 := ?_) (h3 := ?_) (nd := ?_)
      rotate_left 1
      all_goals (repeat' first|exact ce0|refine ce ?_|refine ce2 ?_ ?_|(refine Or.inr (bx_eq rfl rfl ?_);(try dsimp only [C.ren,C.ren.all]);(try exact rfl))|exact SVLe.refl|refine ceb ?_)
      all_goals first | exact (show nodupB _ = true from rfl) | exact Or.inr rfl | (rfl)
    · have e0 : (B - n).toNat = (B - (n + 1)).toNat + 1 := by omega
      rw [e0,rnG_s (by assumption) hc] at k3
      refine q_again (n + 1,tgStep t w) [0,1,3] (by exact stk) ?_ ?_
      · dsimp only
        refine ⟨by omega,by omega,tgStep_gd hv k2 (by assumption) hc,?_⟩
        rw [show (n + 1).toNat = n.toNat + 1 by omega]
        exact k3
      · dsimp only; omega
theorem gd_wordG {t : Tg} {q : List Int} (h : Gd t q) : tgWord t.wo.length q = true := by
  unfold tgWord inAll
  rw [Bool.and_eq_true,List.all_eq_true,decide_eq_true_eq]
  exact ⟨fun x hx => by have := h.wd x hx; rw [decide_eq_true_eq]; omega,h.le⟩
theorem RunTagG_ok (t : Tg) (q : List Int) (B : Int) (hv : vTag t = true) (hg : Gd t q) (hx : (t.ha.length : Int) ≤ 1048576) (hys : ∀ x ∈ t.wo,(x.length : Int) ≤ 16777216) (h1 : 1 ≤ B) (h2 : B ≤ 20000) : Does Tryz.prog 44 [.agg (tgC t),.one (shI q),.one (int B)] [] (.tup [(false,[.gv 0]),(false,[int (bif (rnG t B.toNat 0 q).2.2.2 then (((rnG t B.toNat 0 q).2.1 : Nat) : Int) else 0)]),(false,[boo (bif (rnG t B.toNat 0 q).2.2.2 then (rnG t B.toNat 0 q).2.2.1 else false)]),(false,[int (bif (rnG t B.toNat 0 q).2.2.2 then 0 else 5)])]) [roI (bif (rnG t B.toNat 0 q).2.2.2 then (rnG t B.toNat 0 q).1 else [])] := by
  have hb := vTag_bd hv
  have hw := gd_wordG hg
  have kv : (vTag t && tgWord t.wo.length q) = true := by rw [hv,hw]; rfl
  have hl := hg.le
  refine does_of (k := 0) Tryz.func44 rfl Tryz.ntmps44 rfl rfl fun w F0 S0 ρ0 => ?_
  dsimp only [argT,argH]
  repeat' first|(apply n3;exact a_nilO eI rfl;exact rfl)|(apply n3;exact a_new (gb := .bx _) rfl;exact rfl;refine dA ?_)|(apply p3;(exact pu1);exact rfl)|refine cdn ?_|refine g_reg (id := 0) ?_|refine g_reg (id := 1) ?_|(apply c4 0;exact callK1 (θ := []) (hD := (tagCode_ok _ _ preB207 preB207 preB207 preB207));exact rfl;exact rfl;exact rfl;refine dM ?_)|fail
  simp only [kv,cond_true]
  repeat' first|(apply p3;(first|exact pu1|exact a_ne rfl rfl);exact rfl)|refine cdn ?_|refine g_reg (id := 2) ?_|refine g_reg (id := 4) ?_|refine g_reg (id := 6) ?_|refine g_reg (id := 7) ?_|(apply c4 0;exact callK1 (θ := []) (hD := (budgetOk_ok _));exact rfl;exact rfl;exact rfl;refine dM ?_)|(apply c4 2;exact callK0 (θ := []) (hD := (tagRunOf_ok _ _ preB207));exact rfl;exact rfl;exact rfl;refine dM ?_)|(apply c4 1;exact callK0 (θ := [_,_]) (hD := (runSysG_ok t q B hv hg hx (by omega) (by omega)));exact rfl;exact rfl;exact rfl;refine dM ?_)|((refine g_cond rfl (fun hc => ?_) (fun hc => ?_)) <;> (try simp only [dcB] at hc) <;> (try first|contradiction|(exfalso;omega)))|fail
  cases hk : (rnG t B.toNat 0 q).2.2.2 with
  | false =>
    simp only [cond_false]
    repeat' first|(apply n3;exact a_nilO eI rfl;exact rfl)|(apply p3;(first|exact pu1|exact a_ne rfl rfl);exact rfl)|refine cd ?_|fail
    repeat refine cr ?_
    refine ends_id ?_
    refine endK [?_] (h2 := ?_) (h3 := ?_) (nd := ?_)
    rotate_left 1
    all_goals (repeat' first|exact ce0|refine ce ?_|refine ce2 ?_ ?_|(refine Or.inr (bx_eq rfl rfl ?_);(try dsimp only [C.ren,C.ren.all]);(try exact rfl))|exact SVLe.refl|refine ceb ?_)
    all_goals first | exact (show nodupB _ = true from rfl) | exact Or.inr rfl | (rfl)
  | true =>
    have hl2 := (rnG_gd hv B.toNat 0 q hg hk).le
    simp only [cond_true]
    repeat' first|(apply p3;(first|exact pu1|exact a_ne rfl rfl);exact rfl)|refine cd ?_|(apply c4 1;exact callK1 (θ := []) (hD := (clone_ok _ preB207));exact rfl;exact rfl;exact rfl;refine dM ?_)|fail
    repeat refine cr ?_
    refine ends_id ?_
    refine endK [?_] (h2 := ?_) (h3 := ?_) (nd := ?_)
    rotate_left 1
    all_goals (repeat' first|exact ce0|refine ce ?_|refine ce2 ?_ ?_|(refine Or.inr (bx_eq rfl rfl ?_);(try dsimp only [C.ren,C.ren.all]);(try exact rfl))|exact SVLe.refl|refine ceb ?_)
    all_goals first | exact (show nodupB _ = true from rfl) | exact Or.inr rfl | (rfl)
end Go.Proofs.YtjmlbmmbionmcaaGreatDoor
end
section
set_option linter.unusedVariables false
set_option linter.unusedSimpArgs false
set_option maxRecDepth 100000
set_option maxHeartbeats 1000000
namespace Go.Proofs.YtjmlbmmbionmcaaGreatDoor
open Go Foot Go.RowKit
abbrev cfO : Conf := ⟨0,[],[]⟩
@[irreducible] def rmW (m : Mach) (w : List Int) (B : Int) : Conf × Int × Int := bif (rnG (tmT m) B.toNat 0 w).2.2.2 then (bif (rnG (tmT m) B.toNat 0 w).2.2.1 then (match dcI m (rnG (tmT m) B.toNat 0 w).1 with | some c => (c,(((rnG (tmT m) B.toNat 0 w).2.1 : Nat) : Int),0) | none => (cfO,0,9)) else (cfO,0,6)) else (cfO,0,5)
@[irreducible] def rmO (m : Mach) (c : Conf) (B : Int) : Conf × Int × Int := if vMach m = true ∧ vConf m c = true then (if m.sy = 2 then (if 1 ≤ B ∧ B ≤ 20000 then (match enO m c with | some w => rmW m w B | none => (cfO,0,5)) else (cfO,0,2)) else (cfO,0,2)) else (cfO,0,1)
theorem rmW_eq (m : Mach) (w : List Int) (B : Int) : rmW m w B = (bif (rnG (tmT m) B.toNat 0 w).2.2.2 then (bif (rnG (tmT m) B.toNat 0 w).2.2.1 then (match dcI m (rnG (tmT m) B.toNat 0 w).1 with | some c => (c,(((rnG (tmT m) B.toNat 0 w).2.1 : Nat) : Int),0) | none => (cfO,0,9)) else (cfO,0,6)) else (cfO,0,5) : Conf × Int × Int) := by unfold rmW; rfl
theorem en_gd {m : Mach} {c : Conf} (hv : vMach m = true) (hy : m.sy = 2) (hc : vConf m c = true) {w : List Int} (h : enO m c = some w) : TmOk m ∧ Gd (tmT m) w := by
  obtain ⟨b1,b2,b3,b4,b5,b6⟩ := vConf_bits hy hc
  have v1 := nmV_bd b1
  have v2 := nmV_bd b2
  unfold enO at h
  by_cases hs : m.st ≤ 6
  · rw [if_pos hs] at h
    have g : TmOk m := ⟨hv,hy,hs⟩
    cases hn : nmB c.le && nmB c.ri with
    | false => rw [hn] at h; cases h
    | true =>
      rw [hn,cond_true] at h
      by_cases hl : 4 + 2 * (nmV c.le + nmV c.ri) ≤ 1000
      · rw [if_pos hl] at h
        injection h with h
        subst h
        have hlen := shA_len c.st (nmV c.le).toNat (nmV c.ri).toNat
        have hwl := tmW_len m m.st.toNat
        refine ⟨g,⟨fun x hx => ?_,by rw [hlen]; omega⟩⟩
        have key : ∀ ns : List Bs,x ∈ wdN ns c.st → 0 ≤ x ∧ x < ((tmT m).wo.length : Int) := fun ns hx => by
          have := wdN_bd b5 hx
          show 0 ≤ x ∧ x < ((tmW m m.st.toNat).length : Int)
          omega
        unfold shA shF at hx
        rcases List.mem_append.1 hx with hx | hx
        · rcases List.mem_append.1 hx with hx | hx
          · rcases List.mem_append.1 hx with hx | hx
            · exact key _ hx
            · exact key _ (repW_mem hx)
          · exact key _ hx
        · exact key _ (repW_mem hx)
      · rw [if_neg hl] at h; cases h
  · rw [if_neg hs] at h; cases h
theorem tm_bd {m : Mach} (g : TmOk m) : ((tmT m).ha.length : Int) ≤ 1048576 ∧ (∀ x ∈ (tmT m).wo,(x.length : Int) ≤ 16777216) := by
  have h1 := tmH_len m m.st.toNat
  have hs := g.s
  refine ⟨by show ((tmH m m.st.toNat).length : Int) ≤ 1048576; omega,fun x hx => ?_⟩
  have := (tmW_gd g m.st.toNat (Nat.le_refl _) x hx).1
  omega
theorem gd_in {m : Mach} {w : List Int} (hs : 0 ≤ m.st) (g : Gd (tmT m) w) : (∀ y ∈ w,0 ≤ y ∧ y ≤ 30 * m.st) ∧ (w.length : Int) ≤ 1000 := by
  have hwl := tmW_len m m.st.toNat
  refine ⟨fun y hy => ?_,g.le⟩
  have h : 0 ≤ y ∧ y < ((tmW m m.st.toNat).length : Int) := g.wd y hy
  omega
theorem preB208 {p : Prop} (h : p := by first | with_reducible assumption | omega | (simp only [List.length_append,List.length_cons,List.length_nil,List.length_set,List.length_replicate,List.length_take,List.length_drop,List.length_tail,List.length_dropLast,List.length_reverse] at *; omega) | exact mem_len (by assumption) (by omega) | (with_reducible refine Int.le_trans (Int.ofNat_le.2 (trimR_len _)) ?_; simp only [List.length_cons,List.length_tail]; omega) | (exact (ruAt_ok (by assumption) (by assumption) (by assumption)).2.1) | (exact (ruAt_ok (by assumption) (by assumption) (by assumption)).2.1) | (have := vMach_bd (by assumption); omega) | (simp only [List.length_append,List.length_cons,List.length_nil,repW_len,seN_len] at *; omega) | (simp only [mC_ch,mC_tu]; omega) | (have := vTag_bd (by assumption); omega) | (have := (‹Gd _ _›).le; omega) | (exact tgHalts_no (by assumption)) | (exact tgHead (by assumption) (by assumption) (by assumption)) | (exact Int.le_trans (tgStep_gd (by assumption) (by assumption) (by assumption) (by assumption)).le (by decide)) | (exact vTag_r (by assumption)) | (with_reducible refine Int.le_trans (Int.ofNat_le.2 (pushL_len _ _)) ?_; simp only [List.length_dropLast]; omega) | exact ls_at (by assumption) (by omega) | exact pt_gd (by assumption) | exact lv_at (by assumption) (by omega) | exact pt_gd (lv_at (by assumption) (by omega)) | exact (ask_ok (by assumption)).1 | exact (ask_ok (by assumption)).2.1 | exact (ask_ok (by assumption)).2.2.1 | exact (ask_ok (by assumption)).2.2.2 | trivial) : p := h
theorem RunTagMachine_ok (m : Mach) (c : Conf) (B : Int) (hm : (m.ru.length : Int) ≤ 1048576) (hx : (c.le.length : Int) ≤ 1048576) (hy : (c.ri.length : Int) ≤ 1048576) : Does Tryz.prog 11 [.agg (maC m),.agg (coC c),.one (int B)] [] (.tup [(true,[int (rmO m c B).1.st,.gv 0,.gv 1]),(false,[int (rmO m c B).2.1]),(false,[int (rmO m c B).2.2])]) [roI (rmO m c B).1.le,roI (rmO m c B).1.ri] := by
  by_cases hvc : vMach m = true ∧ vConf m c = true
  · obtain ⟨hv,hvd⟩ := hvc
    have hand : (vMach m && vConf m c) = true := by rw [hv,hvd]; rfl
    by_cases hsy : m.sy = 2
    · by_cases hB : 1 ≤ B ∧ B ≤ 20000
      · have e : rmO m c B = (match enO m c with | some w => rmW m w B | none => (cfO,0,5)) := by unfold rmO; rw [if_pos ⟨hv,hvd⟩,if_pos hsy,if_pos hB]
        cases hen : enO m c with
        | none =>
          rw [hen] at e
          dsimp only at e
          rw [e]
          refine does_of (k := 0) Tryz.func11 rfl Tryz.ntmps11 rfl rfl fun w F0 S0 ρ0 => ?_
          dsimp only [argT,argH]
          repeat' first|(apply n3;exact a_new (gb := .bx _) rfl;exact rfl;refine dA ?_)|(apply p3;exact a_pure (sv := .one _) rfl;exact rfl)|refine cdn ?_|refine g_reg (id := 0) ?_|(apply g_drN (id := 1) okM [[],[],[],[1,2],[0,1,2,3],[0,1,2,3,4]] [([],[]),([],[]),([],[]),([],[]),([],[]),([],[])] 0;(focus (refine dp 0 0 [19,20,21] [] puL ?_;refine dp 1 0 [18,20] [] puL ?_;refine dp 2 0 [18,19] [] puL ?_;refine dp 3 3 [18] [] (callD1 (n := _) 0 (θ := []) (hD := (ValidConfig_ok _ _ preB208 preB208 preB208))) ?_;refine dp 4 15 [] [] (callD1 (n := _) 0 (θ := []) (hD := (binaryCode_ok _ _))) ?_;refine dp 5 31 [] [] pu1 ?_;(refine d_nil ?_;refine dN ?_)));any_goals kernel_rfl)|fail
          simp only [hand,cond_true,if_pos hsy]
          repeat' first|(apply p3;(first|exact pu1|exact a_ne rfl rfl);exact rfl)|refine cdn ?_|refine g_reg (id := 2) ?_|refine g_reg (id := 4) ?_|refine g_reg (id := 6) ?_|(apply c4 0;exact callK1 (θ := []) (hD := (budgetOk_ok _));exact rfl;exact rfl;exact rfl;refine dM ?_)|(apply c4 1;exact callK1 (θ := []) (hD := (tagWordOf_ok _ _ preB208 preB208 preB208));exact rfl;exact rfl;exact rfl;refine dM ?_)|((refine g_cond rfl (fun hc => ?_) (fun hc => ?_)) <;> (try simp only [dcB] at hc) <;> (try first|contradiction|(exfalso;omega)))|fail
          simp only [hen,Option.isSome_none,Option.getD_none,cond_false]
          repeat' first|(apply p3;(first|exact pu1|exact a_ne rfl rfl);exact rfl)|refine cd ?_|(apply w3;(exact a_st_bx rfl rfl rfl rfl (fN rfl rfl) (Nat.le_of_ble_eq_true rfl) rfl);exact rfl;refine dS ?_)|fail
          simp only [setRow,scC,List.map_cons,List.map_nil,List.set_cons_zero,List.set_cons_succ,Nat.zero_add,List.getElem?_cons_zero,List.getElem?_cons_succ,List.take_succ_cons,List.take_zero,List.drop_zero,List.cons_append,List.nil_append,List.drop_succ_cons,List.drop_nil,List.append_nil,List.append_eq]
          refine g_conv (t_nilB (i := 2) (k := 1) (z := 1) rfl rfl rfl (by decide)) ?_
          try dsimp only [setRow,List.map_cons,List.map_nil,scC,List.set_cons_zero,List.set_cons_succ,Nat.reduceAdd]
          refine g_conv (t_nilB (i := 2) (k := 2) (z := 1) rfl rfl rfl (by decide)) ?_
          try dsimp only [setRow,List.map_cons,List.map_nil,scC,List.set_cons_zero,List.set_cons_succ,Nat.reduceAdd]
          repeat refine cr ?_
          refine ends_id ?_
          refine endK [?_,?_] (h2 := ?_) (h3 := ?_) (nd := ?_)
          rotate_left 2
          all_goals (repeat' first|exact ce0|refine ce ?_|refine ce2 ?_ ?_|(refine Or.inr (bx_eq rfl rfl ?_);(try dsimp only [C.ren,C.ren.all]);(try exact rfl))|exact SVLe.refl|refine ceb ?_)
          all_goals first | exact (show nodupB _ = true from rfl) | exact Or.inr rfl | (rfl)
        | some u =>
          rw [hen] at e
          dsimp only at e
          obtain ⟨g,gu⟩ := en_gd hv hsy hvd hen
          have gt := tmT_v g
          obtain ⟨t1,t2⟩ := tm_bd g
          have hb := vMach_bd hv
          rw [e]
          refine does_of (k := 0) Tryz.func11 rfl Tryz.ntmps11 rfl rfl fun w F0 S0 ρ0 => ?_
          dsimp only [argT,argH]
          repeat' first|(apply n3;exact a_new (gb := .bx _) rfl;exact rfl;refine dA ?_)|(apply p3;exact a_pure (sv := .one _) rfl;exact rfl)|refine cdn ?_|refine g_reg (id := 0) ?_|(apply g_drN (id := 1) okM [[],[],[],[1,2],[0,1,2,3],[0,1,2,3,4]] [([],[]),([],[]),([],[]),([],[]),([],[]),([],[])] 0;(focus (refine dp 0 0 [19,20,21] [] puL ?_;refine dp 1 0 [18,20] [] puL ?_;refine dp 2 0 [18,19] [] puL ?_;refine dp 3 3 [18] [] (callD1 (n := _) 0 (θ := []) (hD := (ValidConfig_ok _ _ preB208 preB208 preB208))) ?_;refine dp 4 15 [] [] (callD1 (n := _) 0 (θ := []) (hD := (binaryCode_ok _ _))) ?_;refine dp 5 31 [] [] pu1 ?_;(refine d_nil ?_;refine dN ?_)));any_goals kernel_rfl)|fail
          simp only [hand,cond_true,if_pos hsy]
          repeat' first|(apply p3;(first|exact pu1|exact a_ne rfl rfl);exact rfl)|refine cdn ?_|refine g_reg (id := 2) ?_|refine g_reg (id := 4) ?_|refine g_reg (id := 6) ?_|(apply c4 0;exact callK1 (θ := []) (hD := (budgetOk_ok _));exact rfl;exact rfl;exact rfl;refine dM ?_)|(apply c4 1;exact callK1 (θ := []) (hD := (tagWordOf_ok _ _ preB208 preB208 preB208));exact rfl;exact rfl;exact rfl;refine dM ?_)|((refine g_cond rfl (fun hc => ?_) (fun hc => ?_)) <;> (try simp only [dcB] at hc) <;> (try first|contradiction|(exfalso;omega)))|fail
          simp only [hen,Option.isSome_some,Option.getD_some,cond_true]
          repeat' first|(apply n3;exact a_new (gb := .bx _) rfl;exact rfl;refine dA ?_)|(apply p3;(first|exact pu1|exact a_ne rfl rfl);exact rfl)|refine cdn ?_|refine g_reg (id := 7) ?_|refine g_reg (id := 9) ?_|(apply w3;(exact a_st_bx rfl rfl rfl rfl (fN rfl rfl) (Nat.le_of_ble_eq_true rfl) rfl);exact rfl;refine dS ?_)|(apply c4 2;exact callK0 (θ := []) (hD := (tagOfMachine_ok _ preB208 preB208));exact rfl;exact rfl;exact rfl;refine dM ?_)|fail
          simp only [tmX_ok g.s,if_pos g.s]
          refine g_turn (t_freeze (i := 4) rfl nowR) ?_
          try simp only [setRow,C.frz.all,C.frz,SV.frz,tFrz,scC,List.map_cons,List.map_nil,List.set_cons_zero,List.set_cons_succ,Nat.zero_add,List.getElem?_cons_zero,List.getElem?_cons_succ,List.take_succ_cons,List.take_zero,List.drop_zero]
          refine g_turn (t_freeze (i := 5) rfl nowR) ?_
          try simp only [setRow,C.frz.all,C.frz,SV.frz,tFrz,scC,List.map_cons,List.map_nil,List.set_cons_zero,List.set_cons_succ,Nat.zero_add,List.getElem?_cons_zero,List.getElem?_cons_succ,List.take_succ_cons,List.take_zero,List.drop_zero]
          have hgd := rnG_gd gt B.toNat 0 u gu
          have e2 := rmW_eq m u B
          rw [e2]
          repeat' first|(apply p3;(exact pu1);exact rfl)|refine cdn ?_|refine g_reg (id := 10) ?_|(apply c4 1;exact callK1 (θ := []) (hD := (RunTagG_ok (tmT m) u B gt gu t1 t2 hB.1 hB.2));exact rfl;exact rfl;exact rfl;refine dM ?_)|fail
          generalize rnG (tmT m) B.toNat 0 u = R at *
          obtain ⟨z,n,hh,ok⟩ := R
          dsimp only at *
          cases ok with
          | false =>
            simp only [cond_false]
            repeat' first|(apply p3;(first|exact pu1|exact a_ne rfl rfl);exact rfl)|refine cd ?_|(apply w3;(exact a_st_bx rfl rfl rfl rfl (fN rfl rfl) (Nat.le_of_ble_eq_true rfl) rfl);exact rfl;refine dS ?_)|fail
            simp only [setRow,scC,List.map_cons,List.map_nil,List.set_cons_zero,List.set_cons_succ,Nat.zero_add,List.getElem?_cons_zero,List.getElem?_cons_succ,List.take_succ_cons,List.take_zero,List.drop_zero,List.cons_append,List.nil_append,List.drop_succ_cons,List.drop_nil,List.append_nil,List.append_eq]
            refine g_conv (t_nilB (i := 2) (k := 1) (z := 1) rfl rfl rfl (by decide)) ?_
            try dsimp only [setRow,List.map_cons,List.map_nil,scC,List.set_cons_zero,List.set_cons_succ,Nat.reduceAdd]
            refine g_conv (t_nilB (i := 2) (k := 2) (z := 1) rfl rfl rfl (by decide)) ?_
            try dsimp only [setRow,List.map_cons,List.map_nil,scC,List.set_cons_zero,List.set_cons_succ,Nat.reduceAdd]
            repeat refine cr ?_
            refine ends_id ?_
            refine endK [?_,?_] (h2 := ?_) (h3 := ?_) (nd := ?_)
            rotate_left 2
            all_goals (repeat' first|exact ce0|refine ce ?_|refine ce2 ?_ ?_|(refine Or.inr (bx_eq rfl rfl ?_);(try dsimp only [C.ren,C.ren.all]);(try exact rfl))|exact SVLe.refl|refine ceb ?_)
            all_goals first | exact (show nodupB _ = true from rfl) | exact Or.inr rfl | (rfl)
          | true =>
            cases hh with
            | false =>
              simp only [cond_false,cond_true]
              repeat' first|(apply p3;(first|exact pu1|exact a_ne rfl rfl);exact rfl)|refine cd ?_|(apply w3;(exact a_st_bx rfl rfl rfl rfl (fN rfl rfl) (Nat.le_of_ble_eq_true rfl) rfl);exact rfl;refine dS ?_)|fail
              simp only [setRow,scC,List.map_cons,List.map_nil,List.set_cons_zero,List.set_cons_succ,Nat.zero_add,List.getElem?_cons_zero,List.getElem?_cons_succ,List.take_succ_cons,List.take_zero,List.drop_zero,List.cons_append,List.nil_append,List.drop_succ_cons,List.drop_nil,List.append_nil,List.append_eq]
              refine g_conv (t_nilB (i := 2) (k := 1) (z := 1) rfl rfl rfl (by decide)) ?_
              try dsimp only [setRow,List.map_cons,List.map_nil,scC,List.set_cons_zero,List.set_cons_succ,Nat.reduceAdd]
              refine g_conv (t_nilB (i := 2) (k := 2) (z := 1) rfl rfl rfl (by decide)) ?_
              try dsimp only [setRow,List.map_cons,List.map_nil,scC,List.set_cons_zero,List.set_cons_succ,Nat.reduceAdd]
              repeat refine cr ?_
              refine ends_id ?_
              refine endK [?_,?_] (h2 := ?_) (h3 := ?_) (nd := ?_)
              rotate_left 2
              all_goals (repeat' first|exact ce0|refine ce ?_|refine ce2 ?_ ?_|(refine Or.inr (bx_eq rfl rfl ?_);(try dsimp only [C.ren,C.ren.all]);(try exact rfl))|exact SVLe.refl|refine ceb ?_)
              all_goals first | exact (show nodupB _ = true from rfl) | exact Or.inr rfl | (rfl)
            | true =>
              have gz := hgd rfl
              obtain ⟨hin,hzl⟩ := gd_in (by omega) gz
              cases hd : dcI m z with
              | none =>
                simp only [hd,cond_true]
                repeat' first|(apply n3;exact a_new (gb := .bx _) rfl;exact rfl;refine dA ?_)|(apply p3;(first|exact pu1|exact a_ne rfl rfl);exact rfl)|refine cdn ?_|refine g_reg (id := 11) ?_|refine g_reg (id := 13) ?_|refine g_reg (id := 15) ?_|(apply w3;(exact a_st_bx rfl rfl rfl rfl (fN rfl rfl) (Nat.le_of_ble_eq_true rfl) rfl);exact rfl;refine dS ?_)|(apply c4 2;exact callK1 (θ := []) (hD := (decodeTagWord_ok m z g hin (by omega)));exact rfl;exact rfl;exact rfl;refine dM ?_)|fail
                simp only [hd,Option.isSome_none,Option.getD_none,cond_false]
                repeat' first|(apply p3;(first|exact pu1|exact a_ne rfl rfl);exact rfl)|refine cd ?_|(apply w3;(exact a_st_bx rfl rfl rfl rfl (fN rfl rfl) (Nat.le_of_ble_eq_true rfl) rfl);exact rfl;refine dS ?_)|fail
                simp only [setRow,scC,List.map_cons,List.map_nil,List.set_cons_zero,List.set_cons_succ,Nat.zero_add,List.getElem?_cons_zero,List.getElem?_cons_succ,List.take_succ_cons,List.take_zero,List.drop_zero,List.cons_append,List.nil_append,List.drop_succ_cons,List.drop_nil,List.append_nil,List.append_eq]
                refine g_conv (t_nilB (i := 2) (k := 1) (z := 1) rfl rfl rfl (by decide)) ?_
                try dsimp only [setRow,List.map_cons,List.map_nil,scC,List.set_cons_zero,List.set_cons_succ,Nat.reduceAdd]
                refine g_conv (t_nilB (i := 2) (k := 2) (z := 1) rfl rfl rfl (by decide)) ?_
                try dsimp only [setRow,List.map_cons,List.map_nil,scC,List.set_cons_zero,List.set_cons_succ,Nat.reduceAdd]
                repeat refine cr ?_
                refine ends_id ?_
                refine endK [?_,?_] (h2 := ?_) (h3 := ?_) (nd := ?_)
                rotate_left 2
                all_goals (repeat' first|exact ce0|refine ce ?_|refine ce2 ?_ ?_|(refine Or.inr (bx_eq rfl rfl ?_);(try dsimp only [C.ren,C.ren.all]);(try exact rfl))|exact SVLe.refl|refine ceb ?_)
                all_goals first | exact (show nodupB _ = true from rfl) | exact Or.inr rfl | (rfl)
              | some v =>
                simp only [hd,cond_true]
                repeat' first|(apply n3;exact a_new (gb := .bx _) rfl;exact rfl;refine dA ?_)|(apply p3;(first|exact pu1|exact a_ne rfl rfl);exact rfl)|refine cdn ?_|refine g_reg (id := 11) ?_|refine g_reg (id := 13) ?_|refine g_reg (id := 15) ?_|(apply w3;(exact a_st_bx rfl rfl rfl rfl (fN rfl rfl) (Nat.le_of_ble_eq_true rfl) rfl);exact rfl;refine dS ?_)|(apply c4 2;exact callK1 (θ := []) (hD := (decodeTagWord_ok m z g hin (by omega)));exact rfl;exact rfl;exact rfl;refine dM ?_)|fail
                simp only [hd,Option.isSome_some,Option.getD_some,cond_true]
                repeat' first|(apply p3;(first|exact pu1|exact a_ne rfl rfl);exact rfl)|refine cd ?_|(apply w3;(exact a_st_bx rfl rfl rfl rfl (fN rfl rfl) (Nat.le_of_ble_eq_true rfl) rfl);exact rfl;refine dS ?_)|fail
                repeat refine cr ?_
                refine ends_id ?_
                refine endK [?_,?_] (h2 := ?_) (h3 := ?_) (nd := ?_)
                rotate_left 2
                all_goals (repeat' first|exact ce0|refine ce ?_|refine ce2 ?_ ?_|(refine Or.inr (bx_eq rfl rfl ?_);(try dsimp only [C.ren,C.ren.all]);(try exact rfl))|exact SVLe.refl|refine ceb ?_)
                all_goals first | exact (show nodupB _ = true from rfl) | exact Or.inr rfl | (rfl)
      · have e : rmO m c B = (cfO,0,2) := by unfold rmO; rw [if_pos ⟨hv,hvd⟩,if_pos hsy,if_neg hB]
        rw [e]
        refine does_of (k := 0) Tryz.func11 rfl Tryz.ntmps11 rfl rfl fun w F0 S0 ρ0 => ?_
        dsimp only [argT,argH]
        repeat' first|(apply n3;exact a_new (gb := .bx _) rfl;exact rfl;refine dA ?_)|(apply p3;exact a_pure (sv := .one _) rfl;exact rfl)|refine cdn ?_|refine g_reg (id := 0) ?_|(apply g_drN (id := 1) okM [[],[],[],[1,2],[0,1,2,3],[0,1,2,3,4]] [([],[]),([],[]),([],[]),([],[]),([],[]),([],[])] 0;(focus (refine dp 0 0 [19,20,21] [] puL ?_;refine dp 1 0 [18,20] [] puL ?_;refine dp 2 0 [18,19] [] puL ?_;refine dp 3 3 [18] [] (callD1 (n := _) 0 (θ := []) (hD := (ValidConfig_ok _ _ preB208 preB208 preB208))) ?_;refine dp 4 15 [] [] (callD1 (n := _) 0 (θ := []) (hD := (binaryCode_ok _ _))) ?_;refine dp 5 31 [] [] pu1 ?_;(refine d_nil ?_;refine dN ?_)));any_goals kernel_rfl)|fail
        simp only [hand,cond_true,if_pos hsy]
        repeat' first|(apply p3;(first|exact pu1|exact a_ne rfl rfl);exact rfl)|refine cd ?_|(apply w3;(exact a_st_bx rfl rfl rfl rfl (fN rfl rfl) (Nat.le_of_ble_eq_true rfl) rfl);exact rfl;refine dS ?_)|(apply c4 0;exact callK1 (θ := []) (hD := (budgetOk_ok _));exact rfl;exact rfl;exact rfl;refine dM ?_)|((refine g_cond rfl (fun hc => ?_) (fun hc => ?_)) <;> (try simp only [dcB] at hc) <;> (try first|contradiction|(exfalso;omega)))|fail
        simp only [setRow,scC,List.map_cons,List.map_nil,List.set_cons_zero,List.set_cons_succ,Nat.zero_add,List.getElem?_cons_zero,List.getElem?_cons_succ,List.take_succ_cons,List.take_zero,List.drop_zero,List.cons_append,List.nil_append,List.drop_succ_cons,List.drop_nil,List.append_nil,List.append_eq]
        refine g_conv (t_nilB (i := 2) (k := 1) (z := 1) rfl rfl rfl (by decide)) ?_
        try dsimp only [setRow,List.map_cons,List.map_nil,scC,List.set_cons_zero,List.set_cons_succ,Nat.reduceAdd]
        refine g_conv (t_nilB (i := 2) (k := 2) (z := 1) rfl rfl rfl (by decide)) ?_
        try dsimp only [setRow,List.map_cons,List.map_nil,scC,List.set_cons_zero,List.set_cons_succ,Nat.reduceAdd]
        repeat refine cr ?_
        refine ends_id ?_
        refine endK [?_,?_] (h2 := ?_) (h3 := ?_) (nd := ?_)
        rotate_left 2
        all_goals (repeat' first|exact ce0|refine ce ?_|refine ce2 ?_ ?_|(refine Or.inr (bx_eq rfl rfl ?_);(try dsimp only [C.ren,C.ren.all]);(try exact rfl))|exact SVLe.refl|refine ceb ?_)
        all_goals first | exact (show nodupB _ = true from rfl) | exact Or.inr rfl | (rfl)
    · have e : rmO m c B = (cfO,0,2) := by unfold rmO; rw [if_pos ⟨hv,hvd⟩,if_neg hsy]
      rw [e]
      refine does_of (k := 0) Tryz.func11 rfl Tryz.ntmps11 rfl rfl fun w F0 S0 ρ0 => ?_
      dsimp only [argT,argH]
      repeat' first|(apply n3;exact a_new (gb := .bx _) rfl;exact rfl;refine dA ?_)|(apply p3;exact a_pure (sv := .one _) rfl;exact rfl)|refine cdn ?_|refine g_reg (id := 0) ?_|(apply g_drN (id := 1) okM [[],[],[],[1,2],[0,1,2,3],[0,1,2,3,4]] [([],[]),([],[]),([],[]),([],[]),([],[]),([],[])] 0;(focus (refine dp 0 0 [19,20,21] [] puL ?_;refine dp 1 0 [18,20] [] puL ?_;refine dp 2 0 [18,19] [] puL ?_;refine dp 3 3 [18] [] (callD1 (n := _) 0 (θ := []) (hD := (ValidConfig_ok _ _ preB208 preB208 preB208))) ?_;refine dp 4 15 [] [] (callD1 (n := _) 0 (θ := []) (hD := (binaryCode_ok _ _))) ?_;refine dp 5 31 [] [] pu1 ?_;(refine d_nil ?_;refine dN ?_)));any_goals kernel_rfl)|fail
      simp only [hand,cond_true,if_neg hsy]
      repeat' first|(apply p3;(first|exact pu1|exact a_ne rfl rfl);exact rfl)|refine cd ?_|(apply w3;(exact a_st_bx rfl rfl rfl rfl (fN rfl rfl) (Nat.le_of_ble_eq_true rfl) rfl);exact rfl;refine dS ?_)|fail
      simp only [setRow,scC,List.map_cons,List.map_nil,List.set_cons_zero,List.set_cons_succ,Nat.zero_add,List.getElem?_cons_zero,List.getElem?_cons_succ,List.take_succ_cons,List.take_zero,List.drop_zero,List.cons_append,List.nil_append,List.drop_succ_cons,List.drop_nil,List.append_nil,List.append_eq]
      refine g_conv (t_nilB (i := 2) (k := 1) (z := 1) rfl rfl rfl (by decide)) ?_
      try dsimp only [setRow,List.map_cons,List.map_nil,scC,List.set_cons_zero,List.set_cons_succ,Nat.reduceAdd]
      refine g_conv (t_nilB (i := 2) (k := 2) (z := 1) rfl rfl rfl (by decide)) ?_
      try dsimp only [setRow,List.map_cons,List.map_nil,scC,List.set_cons_zero,List.set_cons_succ,Nat.reduceAdd]
      repeat refine cr ?_
      refine ends_id ?_
      refine endK [?_,?_] (h2 := ?_) (h3 := ?_) (nd := ?_)
      rotate_left 2
      all_goals (repeat' first|exact ce0|refine ce ?_|refine ce2 ?_ ?_|(refine Or.inr (bx_eq rfl rfl ?_);(try dsimp only [C.ren,C.ren.all]);(try exact rfl))|exact SVLe.refl|refine ceb ?_)
      all_goals first | exact (show nodupB _ = true from rfl) | exact Or.inr rfl | (rfl)
  · have e : rmO m c B = (cfO,0,1) := by unfold rmO; rw [if_neg hvc]
    have hand : (vMach m && vConf m c) = false := by
      cases h1 : vMach m with
      | false => rfl
      | true =>
        cases h2 : vConf m c with
        | false => rfl
        | true => exact absurd ⟨h1,h2⟩ hvc
    rw [e]
    refine does_of (k := 0) Tryz.func11 rfl Tryz.ntmps11 rfl rfl fun w F0 S0 ρ0 => ?_
    dsimp only [argT,argH]
    repeat' first|(apply n3;exact a_new (gb := .bx _) rfl;exact rfl;refine dA ?_)|(apply p3;exact a_pure (sv := .one _) rfl;exact rfl)|refine cdn ?_|refine g_reg (id := 0) ?_|(apply g_drN (id := 1) okM [[],[],[],[1,2],[0,1,2,3],[0,1,2,3,4]] [([],[]),([],[]),([],[]),([],[]),([],[]),([],[])] 0;(focus (refine dp 0 0 [19,20,21] [] puL ?_;refine dp 1 0 [18,20] [] puL ?_;refine dp 2 0 [18,19] [] puL ?_;refine dp 3 3 [18] [] (callD1 (n := _) 0 (θ := []) (hD := (ValidConfig_ok _ _ preB208 preB208 preB208))) ?_;refine dp 4 15 [] [] (callD1 (n := _) 0 (θ := []) (hD := (binaryCode_ok _ _))) ?_;refine dp 5 31 [] [] pu1 ?_;(refine d_nil ?_;refine dN ?_)));any_goals kernel_rfl)|fail
    simp only [hand,cond_false]
    repeat' first|(apply p3;(first|exact pu1|exact a_ne rfl rfl);exact rfl)|refine cd ?_|(apply w3;(exact a_st_bx rfl rfl rfl rfl (fN rfl rfl) (Nat.le_of_ble_eq_true rfl) rfl);exact rfl;refine dS ?_)|fail
    simp only [setRow,scC,List.map_cons,List.map_nil,List.set_cons_zero,List.set_cons_succ,Nat.zero_add,List.getElem?_cons_zero,List.getElem?_cons_succ,List.take_succ_cons,List.take_zero,List.drop_zero,List.cons_append,List.nil_append,List.drop_succ_cons,List.drop_nil,List.append_nil,List.append_eq]
    refine g_conv (t_nilB (i := 2) (k := 1) (z := 1) rfl rfl rfl (by decide)) ?_
    try dsimp only [setRow,List.map_cons,List.map_nil,scC,List.set_cons_zero,List.set_cons_succ,Nat.reduceAdd]
    refine g_conv (t_nilB (i := 2) (k := 2) (z := 1) rfl rfl rfl (by decide)) ?_
    try dsimp only [setRow,List.map_cons,List.map_nil,scC,List.set_cons_zero,List.set_cons_succ,Nat.reduceAdd]
    repeat refine cr ?_
    refine ends_id ?_
    refine endK [?_,?_] (h2 := ?_) (h3 := ?_) (nd := ?_)
    rotate_left 2
    all_goals (repeat' first|exact ce0|refine ce ?_|refine ce2 ?_ ?_|(refine Or.inr (bx_eq rfl rfl ?_);(try dsimp only [C.ren,C.ren.all]);(try exact rfl))|exact SVLe.refl|refine ceb ?_)
    all_goals first | exact (show nodupB _ = true from rfl) | exact Or.inr rfl | (rfl)
end Go.Proofs.YtjmlbmmbionmcaaGreatDoor
end
section
set_option linter.unusedVariables false
set_option linter.unusedSimpArgs false
set_option maxRecDepth 100000
set_option maxHeartbeats 1000000
namespace Go.Proofs.YtjmlbmmbionmcaaGreatDoor
open Go Foot Go.RowKit
theorem en_row {m : Mach} {c : Conf} {u : List Int} (h : enO m c = some u) : (bif decide (m.st ≤ 6) && (nmB c.le && nmB c.ri) then rwS c.st (nmV c.le) (nmV c.ri) else []) = u := by
  unfold enO at h
  by_cases hs : m.st ≤ 6
  · rw [if_pos hs] at h
    cases hn : nmB c.le && nmB c.ri with
    | false => rw [hn] at h; cases h
    | true =>
      rw [hn,cond_true] at h
      by_cases hl : 4 + 2 * (nmV c.le + nmV c.ri) ≤ 1000
      · rw [if_pos hl] at h
        injection h with h
        rw [decide_eq_true hs]
        simp only [Bool.and_self,cond_true]
        unfold rwS
        rw [if_neg (by omega)]
        exact h
      · rw [if_neg hl] at h; cases h
  · rw [if_neg hs] at h; cases h
theorem preB209 {p : Prop} (h : p := by first | with_reducible assumption | omega | (simp only [List.length_append,List.length_cons,List.length_nil,List.length_set,List.length_replicate,List.length_take,List.length_drop,List.length_tail,List.length_dropLast,List.length_reverse] at *; omega) | exact mem_len (by assumption) (by omega) | (with_reducible refine Int.le_trans (Int.ofNat_le.2 (trimR_len _)) ?_; simp only [List.length_cons,List.length_tail]; omega) | (exact (ruAt_ok (by assumption) (by assumption) (by assumption)).2.1) | (exact (ruAt_ok (by assumption) (by assumption) (by assumption)).2.1) | (have := vMach_bd (by assumption); omega) | (simp only [List.length_append,List.length_cons,List.length_nil,repW_len,seN_len] at *; omega) | (simp only [mC_ch,mC_tu]; omega) | (have := vTag_bd (by assumption); omega) | (have := (‹Gd _ _›).le; omega) | (exact tgHalts_no (by assumption)) | (exact tgHead (by assumption) (by assumption) (by assumption)) | (exact Int.le_trans (tgStep_gd (by assumption) (by assumption) (by assumption) (by assumption)).le (by decide)) | (exact vTag_r (by assumption)) | (with_reducible refine Int.le_trans (Int.ofNat_le.2 (pushL_len _ _)) ?_; simp only [List.length_dropLast]; omega) | exact ls_at (by assumption) (by omega) | exact pt_gd (by assumption) | exact lv_at (by assumption) (by omega) | exact pt_gd (lv_at (by assumption) (by omega)) | exact (ask_ok (by assumption)).1 | exact (ask_ok (by assumption)).2.1 | exact (ask_ok (by assumption)).2.2.1 | exact (ask_ok (by assumption)).2.2.2 | trivial) : p := h
theorem sRunTagMachine_ok (m : Mach) (c : Conf) (B : Int) (hm : (m.ru.length : Int) ≤ 1048576) (hx : (c.le.length : Int) ≤ 1048576) (hy : (c.ri.length : Int) ≤ 1048576) : Does Tryz.prog 8 [.agg (maC m),.agg (coC c),.one (int B)] [] (.tup [(true,[int (rmO m c B).1.st,.gv 0,.gv 1]),(false,[int (rmO m c B).2.1]),(false,[int (rmO m c B).2.2])]) [roI (rmO m c B).1.le,roI (rmO m c B).1.ri] := by
  by_cases hvc : vMach m = true ∧ vConf m c = true
  · obtain ⟨hv,hvd⟩ := hvc
    have hb := vMach_bd hv
    by_cases hsy : m.sy = 2
    · by_cases hB : 1 ≤ B ∧ B ≤ 20000
      · have e : rmO m c B = (match enO m c with | some w => rmW m w B | none => (cfO,0,5)) := by unfold rmO; rw [if_pos ⟨hv,hvd⟩,if_pos hsy,if_pos hB]; all_goals rfl
        cases hen : enO m c with
        | none =>
          rw [hen] at e
          dsimp only at e
          rw [e]
          refine does_of (k := 0) Tryz.func8 rfl Tryz.ntmps8 rfl rfl fun w F0 S0 ρ0 => ?_
          dsimp only [argT,argH]
          repeat' first|(apply n3;exact a_new (gb := .bx _) rfl;exact rfl;refine dA ?_)|(apply p3;exact a_pure (sv := .one _) rfl;exact rfl)|refine cdn ?_|refine g_reg (id := 0) ?_|fail
          first | refine g_turn (t_frzB (d := 3) (i := 0) rfl rfl rfl) ?_ | refine o_turn (t_frzB (d := 3) (i := 0) rfl rfl rfl) ?_
          first | refine g_turn (t_frzB (d := 4) (i := 1) rfl rfl rfl) ?_ | refine o_turn (t_frzB (d := 4) (i := 1) rfl rfl rfl) ?_
          repeat' first|(apply p3;exact pu1;exact rfl)|refine cdn ?_|refine g_reg (id := 1) ?_|(apply c4 0;exact callK1 (θ := []) (hD := (l15Ask_ok _ _ preB209 preB209 preB209));exact rfl;exact rfl;exact rfl;refine dM ?_)|fail
          simp only [if_pos (And.intro hv hvd),if_pos hsy]
          repeat' first|(apply n3;exact a_new (gb := .bx _) rfl;exact rfl;refine dA ?_)|(apply p3;(first|exact pu1|exact puC|exact a_ne rfl rfl);exact rfl)|refine cdn ?_|refine g_reg (id := 2) ?_|refine g_reg (id := 4) ?_|refine g_reg (id := 6) ?_|(apply w3;(exact a_st_bx rfl rfl rfl rfl (fN rfl rfl) (Nat.le_of_ble_eq_true rfl) rfl);exact rfl;refine dS ?_)|(apply c4 3;exact callK0 (θ := []) (hD := (l15Encode_ok _ _ preB209 preB209 preB209));exact rfl;exact rfl;exact rfl;refine dM ?_)|(apply py3;exact rfl;exact rfl;(exact pu1);exact rfl;exact rfl)|(apply cy4 0;exact rfl;exact rfl;exact callK1 (θ := []) (hD := (l05Budget_ok _));exact rfl;exact rfl;exact rfl;exact rfl;refine dM ?_)|((refine g_cond rfl (fun hc => ?_) (fun hc => ?_)) <;> (try simp only [dcB] at hc) <;> (try first|contradiction|(exfalso;omega)))|fail
          simp only [hen,Option.isSome_none]
          repeat' first|(apply p3;(exact pu1);exact rfl)|refine cd ?_|(apply w3;(exact a_st_bx rfl rfl rfl rfl (fN rfl rfl) (Nat.le_of_ble_eq_true rfl) rfl);exact rfl;refine dS ?_)|fail
          simp only [setRow,scC,List.map_cons,List.map_nil,List.set_cons_zero,List.set_cons_succ,Nat.zero_add,List.getElem?_cons_zero,List.getElem?_cons_succ,List.take_succ_cons,List.take_zero,List.drop_zero,List.cons_append,List.nil_append,List.drop_succ_cons,List.drop_nil,List.append_nil,List.append_eq]
          refine g_conv (t_nilB (i := 2) (k := 1) (z := 1) rfl rfl rfl (by decide)) ?_
          try dsimp only [setRow,List.map_cons,List.map_nil,scC,List.set_cons_zero,List.set_cons_succ,Nat.reduceAdd]
          refine g_conv (t_nilB (i := 2) (k := 2) (z := 1) rfl rfl rfl (by decide)) ?_
          try dsimp only [setRow,List.map_cons,List.map_nil,scC,List.set_cons_zero,List.set_cons_succ,Nat.reduceAdd]
          repeat refine cr ?_
          refine ends_id ?_
          refine endK [?_,?_] (h2 := ?_) (h3 := ?_) (nd := ?_)
          rotate_left 2
          all_goals (repeat' first|exact ce0|refine ce ?_|refine ce2 ?_ ?_|(refine Or.inr (bx_eq rfl rfl ?_);(try dsimp only [C.ren,C.ren.all]);(try exact rfl))|exact SVLe.refl|refine ceb ?_)
          all_goals first | exact (show nodupB _ = true from rfl) | exact Or.inr rfl | (rfl)
        | some u =>
          rw [hen] at e
          dsimp only at e
          obtain ⟨g,gu⟩ := en_gd hv hsy hvd hen
          have gt := tmT_v g
          obtain ⟨t1,t2⟩ := tm_bd g
          have er := en_row hen
          rw [e]
          refine does_of (k := 0) Tryz.func8 rfl Tryz.ntmps8 rfl rfl fun w F0 S0 ρ0 => ?_
          dsimp only [argT,argH]
          repeat' first|(apply n3;exact a_new (gb := .bx _) rfl;exact rfl;refine dA ?_)|(apply p3;exact a_pure (sv := .one _) rfl;exact rfl)|refine cdn ?_|refine g_reg (id := 0) ?_|fail
          first | refine g_turn (t_frzB (d := 3) (i := 0) rfl rfl rfl) ?_ | refine o_turn (t_frzB (d := 3) (i := 0) rfl rfl rfl) ?_
          first | refine g_turn (t_frzB (d := 4) (i := 1) rfl rfl rfl) ?_ | refine o_turn (t_frzB (d := 4) (i := 1) rfl rfl rfl) ?_
          repeat' first|(apply p3;exact pu1;exact rfl)|refine cdn ?_|refine g_reg (id := 1) ?_|(apply c4 0;exact callK1 (θ := []) (hD := (l15Ask_ok _ _ preB209 preB209 preB209));exact rfl;exact rfl;exact rfl;refine dM ?_)|fail
          simp only [if_pos (And.intro hv hvd),if_pos hsy]
          repeat' first|(apply n3;exact a_new (gb := .bx _) rfl;exact rfl;refine dA ?_)|(apply p3;(first|exact pu1|exact puC|exact a_ne rfl rfl);exact rfl)|refine cdn ?_|refine g_reg (id := 2) ?_|refine g_reg (id := 4) ?_|refine g_reg (id := 6) ?_|(apply w3;(exact a_st_bx rfl rfl rfl rfl (fN rfl rfl) (Nat.le_of_ble_eq_true rfl) rfl);exact rfl;refine dS ?_)|(apply c4 3;exact callK0 (θ := []) (hD := (l15Encode_ok _ _ preB209 preB209 preB209));exact rfl;exact rfl;exact rfl;refine dM ?_)|(apply py3;exact rfl;exact rfl;(exact pu1);exact rfl;exact rfl)|(apply cy4 0;exact rfl;exact rfl;exact callK1 (θ := []) (hD := (l05Budget_ok _));exact rfl;exact rfl;exact rfl;exact rfl;refine dM ?_)|((refine g_cond rfl (fun hc => ?_) (fun hc => ?_)) <;> (try simp only [dcB] at hc) <;> (try first|contradiction|(exfalso;omega)))|fail
          simp only [hen,Option.isSome_some,tmY_ok g.s,er]
          repeat' first|(apply p3;(exact pu1);exact rfl)|refine cdn ?_|refine g_reg (id := 7) ?_|fail
          try simp only [setRow,C.frz.all,C.frz,SV.frz,tFrz,scC,List.map_cons,List.map_nil,List.set_cons_zero,List.set_cons_succ,Nat.zero_add,List.getElem?_cons_zero,List.getElem?_cons_succ,List.take_succ_cons,List.take_zero,List.drop_zero]
          refine g_turn (t_freeze (i := 3) rfl nowR) ?_
          try simp only [setRow,C.frz.all,C.frz,SV.frz,tFrz,scC,List.map_cons,List.map_nil,List.set_cons_zero,List.set_cons_succ,Nat.zero_add,List.getElem?_cons_zero,List.getElem?_cons_succ,List.take_succ_cons,List.take_zero,List.drop_zero]
          refine g_turn (t_freeze (i := 4) rfl nowR) ?_
          try simp only [setRow,C.frz.all,C.frz,SV.frz,tFrz,scC,List.map_cons,List.map_nil,List.set_cons_zero,List.set_cons_succ,Nat.zero_add,List.getElem?_cons_zero,List.getElem?_cons_succ,List.take_succ_cons,List.take_zero,List.drop_zero]
          first | refine g_turn (t_frzB (d := 10) (i := 6) rfl rfl rfl) ?_ | refine o_turn (t_frzB (d := 10) (i := 6) rfl rfl rfl) ?_
          have hgd := rnG_gd gt B.toNat 0 u gu
          have e2 := rmW_eq m u B
          rw [e2]
          repeat' first|(apply p3;(exact pu1);exact rfl)|refine cdn ?_|refine g_reg (id := 9) ?_|(apply c4 1;exact callK1 (θ := []) (hD := (l09Run_ok (tmT m) u B gt gu t1 (by omega) hB.2));exact rfl;exact rfl;exact rfl;refine dM ?_)|fail
          generalize rnG (tmT m) B.toNat 0 u = R at *
          obtain ⟨z,n,hh,ok⟩ := R
          dsimp only at *
          cases ok with
          | false =>
            simp only [cond_false]
            repeat' first|(apply p3;(exact pu1);exact rfl)|refine cd ?_|(apply w3;(exact a_st_bx rfl rfl rfl rfl (fN rfl rfl) (Nat.le_of_ble_eq_true rfl) rfl);exact rfl;refine dS ?_)|fail
            simp only [setRow,scC,List.map_cons,List.map_nil,List.set_cons_zero,List.set_cons_succ,Nat.zero_add,List.getElem?_cons_zero,List.getElem?_cons_succ,List.take_succ_cons,List.take_zero,List.drop_zero,List.cons_append,List.nil_append,List.drop_succ_cons,List.drop_nil,List.append_nil,List.append_eq]
            refine g_conv (t_nilB (i := 2) (k := 1) (z := 1) rfl rfl rfl (by decide)) ?_
            try dsimp only [setRow,List.map_cons,List.map_nil,scC,List.set_cons_zero,List.set_cons_succ,Nat.reduceAdd]
            refine g_conv (t_nilB (i := 2) (k := 2) (z := 1) rfl rfl rfl (by decide)) ?_
            try dsimp only [setRow,List.map_cons,List.map_nil,scC,List.set_cons_zero,List.set_cons_succ,Nat.reduceAdd]
            repeat refine cr ?_
            refine ends_id ?_
            refine endK [?_,?_] (h2 := ?_) (h3 := ?_) (nd := ?_)
            rotate_left 2
            all_goals (repeat' first|exact ce0|refine ce ?_|refine ce2 ?_ ?_|(refine Or.inr (bx_eq rfl rfl ?_);(try dsimp only [C.ren,C.ren.all]);(try exact rfl))|exact SVLe.refl|refine ceb ?_)
            all_goals first | exact (show nodupB _ = true from rfl) | exact Or.inr rfl | (rfl)
          | true =>
            cases hh with
            | false =>
              simp only [cond_false,cond_true]
              repeat' first|(apply p3;(exact pu1);exact rfl)|refine cd ?_|(apply w3;(exact a_st_bx rfl rfl rfl rfl (fN rfl rfl) (Nat.le_of_ble_eq_true rfl) rfl);exact rfl;refine dS ?_)|fail
              simp only [setRow,scC,List.map_cons,List.map_nil,List.set_cons_zero,List.set_cons_succ,Nat.zero_add,List.getElem?_cons_zero,List.getElem?_cons_succ,List.take_succ_cons,List.take_zero,List.drop_zero,List.cons_append,List.nil_append,List.drop_succ_cons,List.drop_nil,List.append_nil,List.append_eq]
              refine g_conv (t_nilB (i := 2) (k := 1) (z := 1) rfl rfl rfl (by decide)) ?_
              try dsimp only [setRow,List.map_cons,List.map_nil,scC,List.set_cons_zero,List.set_cons_succ,Nat.reduceAdd]
              refine g_conv (t_nilB (i := 2) (k := 2) (z := 1) rfl rfl rfl (by decide)) ?_
              try dsimp only [setRow,List.map_cons,List.map_nil,scC,List.set_cons_zero,List.set_cons_succ,Nat.reduceAdd]
              repeat refine cr ?_
              refine ends_id ?_
              refine endK [?_,?_] (h2 := ?_) (h3 := ?_) (nd := ?_)
              rotate_left 2
              all_goals (repeat' first|exact ce0|refine ce ?_|refine ce2 ?_ ?_|(refine Or.inr (bx_eq rfl rfl ?_);(try dsimp only [C.ren,C.ren.all]);(try exact rfl))|exact SVLe.refl|refine ceb ?_)
              all_goals first | exact (show nodupB _ = true from rfl) | exact Or.inr rfl | (rfl)
            | true =>
              have gz := hgd rfl
              obtain ⟨hin,hzl⟩ := gd_in (by omega) gz
              have hds := dec_same (m := m) (w := z) (by omega) hin
              cases hd : dcI m z with
              | none =>
                simp only [cond_true]
                repeat' first|(apply n3;exact a_new (gb := .bx _) rfl;exact rfl;refine dA ?_)|(apply p3;(exact pu1);exact rfl)|refine cdn ?_|refine g_reg (id := 10) ?_|refine g_reg (id := 12) ?_|refine g_reg (id := 14) ?_|(apply w3;(exact a_st_bx rfl rfl rfl rfl (fN rfl rfl) (Nat.le_of_ble_eq_true rfl) rfl);exact rfl;refine dS ?_)|(apply c4 2;exact callK1 (θ := []) (hD := (l15Decode_ok m z g hzl));exact rfl;exact rfl;exact rfl;refine dM ?_)|fail
                simp only [hds,hd,Option.isSome_none,Option.getD_none]
                repeat' first|(apply p3;(exact pu1);exact rfl)|refine cd ?_|(apply w3;(exact a_st_bx rfl rfl rfl rfl (fN rfl rfl) (Nat.le_of_ble_eq_true rfl) rfl);exact rfl;refine dS ?_)|fail
                simp only [setRow,scC,List.map_cons,List.map_nil,List.set_cons_zero,List.set_cons_succ,Nat.zero_add,List.getElem?_cons_zero,List.getElem?_cons_succ,List.take_succ_cons,List.take_zero,List.drop_zero,List.cons_append,List.nil_append,List.drop_succ_cons,List.drop_nil,List.append_nil,List.append_eq]
                refine g_conv (t_nilB (i := 2) (k := 1) (z := 1) rfl rfl rfl (by decide)) ?_
                try dsimp only [setRow,List.map_cons,List.map_nil,scC,List.set_cons_zero,List.set_cons_succ,Nat.reduceAdd]
                refine g_conv (t_nilB (i := 2) (k := 2) (z := 1) rfl rfl rfl (by decide)) ?_
                try dsimp only [setRow,List.map_cons,List.map_nil,scC,List.set_cons_zero,List.set_cons_succ,Nat.reduceAdd]
                repeat refine cr ?_
                refine ends_id ?_
                refine endK [?_,?_] (h2 := ?_) (h3 := ?_) (nd := ?_)
                rotate_left 2
                all_goals (repeat' first|exact ce0|refine ce ?_|refine ce2 ?_ ?_|(refine Or.inr (bx_eq rfl rfl ?_);(try dsimp only [C.ren,C.ren.all]);(try exact rfl))|exact SVLe.refl|refine ceb ?_)
                all_goals first | exact (show nodupB _ = true from rfl) | exact Or.inr rfl | (rfl)
              | some v =>
                simp only [cond_true]
                repeat' first|(apply n3;exact a_new (gb := .bx _) rfl;exact rfl;refine dA ?_)|(apply p3;(exact pu1);exact rfl)|refine cdn ?_|refine g_reg (id := 10) ?_|refine g_reg (id := 12) ?_|refine g_reg (id := 14) ?_|(apply w3;(exact a_st_bx rfl rfl rfl rfl (fN rfl rfl) (Nat.le_of_ble_eq_true rfl) rfl);exact rfl;refine dS ?_)|(apply c4 2;exact callK1 (θ := []) (hD := (l15Decode_ok m z g hzl));exact rfl;exact rfl;exact rfl;refine dM ?_)|fail
                simp only [hds,hd,Option.isSome_some,Option.getD_some]
                repeat' first|(apply p3;(exact pu1);exact rfl)|refine cd ?_|(apply w3;(exact a_st_bx rfl rfl rfl rfl (fN rfl rfl) (Nat.le_of_ble_eq_true rfl) rfl);exact rfl;refine dS ?_)|fail
                repeat refine cr ?_
                refine ends_id ?_
                refine endK [?_,?_] (h2 := ?_) (h3 := ?_) (nd := ?_)
                rotate_left 2
                all_goals (repeat' first|exact ce0|refine ce ?_|refine ce2 ?_ ?_|(refine Or.inr (bx_eq rfl rfl ?_);(try dsimp only [C.ren,C.ren.all]);(try exact rfl))|exact SVLe.refl|refine ceb ?_)
                all_goals first | exact (show nodupB _ = true from rfl) | exact Or.inr rfl | (rfl)
      · have e : rmO m c B = (cfO,0,2) := by unfold rmO; rw [if_pos ⟨hv,hvd⟩,if_pos hsy,if_neg hB]
        rw [e]
        refine does_of (k := 0) Tryz.func8 rfl Tryz.ntmps8 rfl rfl fun w F0 S0 ρ0 => ?_
        dsimp only [argT,argH]
        repeat' first|(apply n3;exact a_new (gb := .bx _) rfl;exact rfl;refine dA ?_)|(apply p3;exact a_pure (sv := .one _) rfl;exact rfl)|refine cdn ?_|refine g_reg (id := 0) ?_|fail
        first | refine g_turn (t_frzB (d := 3) (i := 0) rfl rfl rfl) ?_ | refine o_turn (t_frzB (d := 3) (i := 0) rfl rfl rfl) ?_
        first | refine g_turn (t_frzB (d := 4) (i := 1) rfl rfl rfl) ?_ | refine o_turn (t_frzB (d := 4) (i := 1) rfl rfl rfl) ?_
        repeat' first|(apply p3;exact pu1;exact rfl)|refine cdn ?_|refine g_reg (id := 1) ?_|(apply c4 0;exact callK1 (θ := []) (hD := (l15Ask_ok _ _ preB209 preB209 preB209));exact rfl;exact rfl;exact rfl;refine dM ?_)|fail
        simp only [if_pos (And.intro hv hvd),if_pos hsy]
        repeat' first|(apply p3;(first|exact pu1|exact puC|exact a_ne rfl rfl);exact rfl)|refine cd ?_|(apply w3;(exact a_st_bx rfl rfl rfl rfl (fN rfl rfl) (Nat.le_of_ble_eq_true rfl) rfl);exact rfl;refine dS ?_)|(apply py3;exact rfl;exact rfl;(exact pu1);exact rfl;exact rfl)|(apply cy4 0;exact rfl;exact rfl;exact callK1 (θ := []) (hD := (l05Budget_ok _));exact rfl;exact rfl;exact rfl;exact rfl;refine dM ?_)|((refine g_cond rfl (fun hc => ?_) (fun hc => ?_)) <;> (try simp only [dcB] at hc) <;> (try first|contradiction|(exfalso;omega)))|fail
        simp only [setRow,scC,List.map_cons,List.map_nil,List.set_cons_zero,List.set_cons_succ,Nat.zero_add,List.getElem?_cons_zero,List.getElem?_cons_succ,List.take_succ_cons,List.take_zero,List.drop_zero,List.cons_append,List.nil_append,List.drop_succ_cons,List.drop_nil,List.append_nil,List.append_eq]
        refine g_conv (t_nilB (i := 2) (k := 1) (z := 1) rfl rfl rfl (by decide)) ?_
        try dsimp only [setRow,List.map_cons,List.map_nil,scC,List.set_cons_zero,List.set_cons_succ,Nat.reduceAdd]
        refine g_conv (t_nilB (i := 2) (k := 2) (z := 1) rfl rfl rfl (by decide)) ?_
        try dsimp only [setRow,List.map_cons,List.map_nil,scC,List.set_cons_zero,List.set_cons_succ,Nat.reduceAdd]
        repeat refine cr ?_
        refine ends_id ?_
        refine endK [?_,?_] (h2 := ?_) (h3 := ?_) (nd := ?_)
        rotate_left 2
        all_goals (repeat' first|exact ce0|refine ce ?_|refine ce2 ?_ ?_|(refine Or.inr (bx_eq rfl rfl ?_);(try dsimp only [C.ren,C.ren.all]);(try exact rfl))|exact SVLe.refl|refine ceb ?_)
        all_goals first | exact (show nodupB _ = true from rfl) | exact Or.inr rfl | (rfl)
    · have e : rmO m c B = (cfO,0,2) := by unfold rmO; rw [if_pos ⟨hv,hvd⟩,if_neg hsy]
      rw [e]
      refine does_of (k := 0) Tryz.func8 rfl Tryz.ntmps8 rfl rfl fun w F0 S0 ρ0 => ?_
      dsimp only [argT,argH]
      repeat' first|(apply n3;exact a_new (gb := .bx _) rfl;exact rfl;refine dA ?_)|(apply p3;exact a_pure (sv := .one _) rfl;exact rfl)|refine cdn ?_|refine g_reg (id := 0) ?_|fail
      first | refine g_turn (t_frzB (d := 3) (i := 0) rfl rfl rfl) ?_ | refine o_turn (t_frzB (d := 3) (i := 0) rfl rfl rfl) ?_
      first | refine g_turn (t_frzB (d := 4) (i := 1) rfl rfl rfl) ?_ | refine o_turn (t_frzB (d := 4) (i := 1) rfl rfl rfl) ?_
      repeat' first|(apply p3;exact pu1;exact rfl)|refine cdn ?_|refine g_reg (id := 1) ?_|(apply c4 0;exact callK1 (θ := []) (hD := (l15Ask_ok _ _ preB209 preB209 preB209));exact rfl;exact rfl;exact rfl;refine dM ?_)|fail
      simp only [if_pos (And.intro hv hvd),if_neg hsy]
      repeat' first|(apply p3;(first|exact pu1|exact puC|exact a_ne rfl rfl);exact rfl)|refine cd ?_|(apply w3;(exact a_st_bx rfl rfl rfl rfl (fN rfl rfl) (Nat.le_of_ble_eq_true rfl) rfl);exact rfl;refine dS ?_)|refine o_no rfl rfl rfl rfl ?_|fail
      simp only [setRow,scC,List.map_cons,List.map_nil,List.set_cons_zero,List.set_cons_succ,Nat.zero_add,List.getElem?_cons_zero,List.getElem?_cons_succ,List.take_succ_cons,List.take_zero,List.drop_zero,List.cons_append,List.nil_append,List.drop_succ_cons,List.drop_nil,List.append_nil,List.append_eq]
      refine g_conv (t_nilB (i := 2) (k := 1) (z := 1) rfl rfl rfl (by decide)) ?_
      try dsimp only [setRow,List.map_cons,List.map_nil,scC,List.set_cons_zero,List.set_cons_succ,Nat.reduceAdd]
      refine g_conv (t_nilB (i := 2) (k := 2) (z := 1) rfl rfl rfl (by decide)) ?_
      try dsimp only [setRow,List.map_cons,List.map_nil,scC,List.set_cons_zero,List.set_cons_succ,Nat.reduceAdd]
      repeat refine cr ?_
      refine ends_id ?_
      refine endK [?_,?_] (h2 := ?_) (h3 := ?_) (nd := ?_)
      rotate_left 2
      all_goals (repeat' first|exact ce0|refine ce ?_|refine ce2 ?_ ?_|(refine Or.inr (bx_eq rfl rfl ?_);(try dsimp only [C.ren,C.ren.all]);(try exact rfl))|exact SVLe.refl|refine ceb ?_)
      all_goals first | exact (show nodupB _ = true from rfl) | exact Or.inr rfl | (rfl)
  · have e : rmO m c B = (cfO,0,1) := by unfold rmO; rw [if_neg hvc]
    rw [e]
    refine does_of (k := 0) Tryz.func8 rfl Tryz.ntmps8 rfl rfl fun w F0 S0 ρ0 => ?_
    dsimp only [argT,argH]
    repeat' first|(apply n3;exact a_new (gb := .bx _) rfl;exact rfl;refine dA ?_)|(apply p3;exact a_pure (sv := .one _) rfl;exact rfl)|refine cdn ?_|refine g_reg (id := 0) ?_|fail
    first | refine g_turn (t_frzB (d := 3) (i := 0) rfl rfl rfl) ?_ | refine o_turn (t_frzB (d := 3) (i := 0) rfl rfl rfl) ?_
    first | refine g_turn (t_frzB (d := 4) (i := 1) rfl rfl rfl) ?_ | refine o_turn (t_frzB (d := 4) (i := 1) rfl rfl rfl) ?_
    repeat' first|(apply p3;exact pu1;exact rfl)|refine cdn ?_|refine g_reg (id := 1) ?_|(apply c4 0;exact callK1 (θ := []) (hD := (l15Ask_ok _ _ preB209 preB209 preB209));exact rfl;exact rfl;exact rfl;refine dM ?_)|fail
    simp only [if_neg hvc]
    repeat' first|(apply p3;(first|exact pu1|exact puC|exact a_ne rfl rfl);exact rfl)|refine cd ?_|(apply w3;(exact a_st_bx rfl rfl rfl rfl (fN rfl rfl) (Nat.le_of_ble_eq_true rfl) rfl);exact rfl;refine dS ?_)|refine o_no rfl rfl rfl rfl ?_|fail
    simp only [setRow,scC,List.map_cons,List.map_nil,List.set_cons_zero,List.set_cons_succ,Nat.zero_add,List.getElem?_cons_zero,List.getElem?_cons_succ,List.take_succ_cons,List.take_zero,List.drop_zero,List.cons_append,List.nil_append,List.drop_succ_cons,List.drop_nil,List.append_nil,List.append_eq]
    refine g_conv (t_nilB (i := 2) (k := 1) (z := 1) rfl rfl rfl (by decide)) ?_
    try dsimp only [setRow,List.map_cons,List.map_nil,scC,List.set_cons_zero,List.set_cons_succ,Nat.reduceAdd]
    refine g_conv (t_nilB (i := 2) (k := 2) (z := 1) rfl rfl rfl (by decide)) ?_
    try dsimp only [setRow,List.map_cons,List.map_nil,scC,List.set_cons_zero,List.set_cons_succ,Nat.reduceAdd]
    repeat refine cr ?_
    refine ends_id ?_
    refine endK [?_,?_] (h2 := ?_) (h3 := ?_) (nd := ?_)
    rotate_left 2
    all_goals (repeat' first|exact ce0|refine ce ?_|refine ce2 ?_ ?_|(refine Or.inr (bx_eq rfl rfl ?_);(try dsimp only [C.ren,C.ren.all]);(try exact rfl))|exact SVLe.refl|refine ceb ?_)
    all_goals first | exact (show nodupB _ = true from rfl) | exact Or.inr rfl | (rfl)
end Go.Proofs.YtjmlbmmbionmcaaGreatDoor
end
section
set_option linter.unusedVariables false
set_option linter.unusedSimpArgs false
set_option maxRecDepth 100000
set_option maxHeartbeats 4000000
namespace Go.Proofs.YtjmlbmmbionmcaaGreatDoor
open Go Foot
@[irreducible] def marks (k : Int) (n : Nat) : List Int := (List.range n).map fun (i : Nat) => k + (i : Int)
theorem marks_len (k : Int) (n : Nat) : (marks k n).length = n := by unfold marks; simp
theorem marks_get (k : Int) (n i : Nat) (h : i < n) : (marks k n)[i]? = some (k + i) := by unfold marks; simp [h]
theorem mark_end {k : Int} {xs l : List Int} (h1 : l.length = xs.length) (h2 : ∀ j (h : j < xs.length),l[j]? = some (k + j)) : l = marks k xs.length := by
  apply List.ext_getElem?
  intro j
  by_cases hj : j < xs.length
  · rw [marks_get k _ j hj,h2 j hj]
  · rw [List.getElem?_eq_none (by omega),List.getElem?_eq_none (by rw [marks_len]; omega)]
theorem markInt64S_ok (xs : List Int) (k : Int) (h1 : 0 ≤ k) (h2 : k ≤ 4611686018427387904) (hx : (xs.length : Int) ≤ 4611686018427) : Does Tryz.prog 49 [.one (.gv 0),.one (int k)] [roI xs] (.one (int (k + xs.length))) [roI (marks k xs.length)] := by
  refine does_of (k := 1) Tryz.func49 rfl Tryz.ntmps49 rfl rfl fun w F0 S0 ρ0 => ?_
  dsimp only [argT,argH]
  repeat' first|(apply p3;(exact pu1);exact rfl)|refine cd ?_
  refine g_loop_id ?_
  refine loopK [0,4] [0] (fun y : Int × List Int => 0 ≤ y.1 ∧ y.1 ≤ xs.length ∧ y.2.length = xs.length ∧ ∀ (j : Nat),(j : Int) < y.1 → y.2[j]? = some (k + j)) (fun y => [(5,.one (int y.1)),(1,.one (int (k + y.1)))]) (fun y => [(0,roI y.2)]) (fun y => (xs.length - y.1).toNat) ((0 : Int),xs) [0] (hI := ?_) (hr := ?_)
  · exact ⟨by simp,by simp,rfl,fun j h' => by simp at h'; omega⟩
  · rintro ⟨i,l⟩ ⟨k1,k2,k3,k4⟩
    dsimp only [List.cons_append,List.nil_append] at *
    skip
    repeat' first|(apply p3;(first|exact pu1|exact puN|exact puC|exact a_add rfl rfl (by omega) (by omega)|exact puI);exact rfl)|refine cd ?_|(apply w3;(exact a_st_rowI rfl rfl rfl rfl (fN rfl rfl) bnd);exact rfl;refine dS ?_)|((refine g_cond rfl (fun hc => ?_) (fun hc => ?_)) <;> (try simp only [dcB] at hc) <;> (try first|contradiction|(exfalso;omega)))
    · refine q_again (i + 1,l.set i.toNat (k + i)) [0] (by exact stk) ?_ ?_
      · refine ⟨by dsimp only; omega,by dsimp only; omega,by simp [k3],fun j h => ?_⟩
        dsimp only at h ⊢
        rw [List.getElem?_set]
        split
        · rename_i e
          subst e
          rw [if_pos (by omega)]
          congr 1
          omega
        · exact k4 j (by omega)
      · dsimp only; omega
    · have hi : i = xs.length := by omega
      subst hi
      have hl := mark_end (k := k) k3 fun j hj => k4 j (by omega)
      repeat refine cr ?_
      refine ends_id ?_
      refine endK [] (h2 := ?_) (h3 := ?_) (nd := ?_)
      all_goals (repeat' first|exact ce0|refine ce ?_|refine ce2 ?_ ?_|(refine Or.inr (bx_eq rfl rfl ?_);(try dsimp only [C.ren,C.ren.all]);(try exact rfl))|exact SVLe.refl|refine ceb ?_)
      all_goals first | exact (show nodupB _ = true from rfl) | exact Or.inr rfl | (exact hl)
@[irreducible] def held (k : Int) (xs : List Int) : Int := if xs = marks k xs.length then k + xs.length else -1
theorem held_marks (k : Int) (n : Nat) : held k (marks k n) = k + n := by unfold held; rw [marks_len,if_pos rfl]
theorem heldInt64S_ok (xs : List Int) (k : Int) (h1 : 0 ≤ k) (h2 : k ≤ 4611686018427387904) (hx : (xs.length : Int) ≤ 4611686018427) : Does Tryz.prog 50 [.one (shI xs),.one (int k)] [] (.one (int (held k xs))) [] := by
  refine does_of (k := 0) Tryz.func50 rfl Tryz.ntmps50 rfl rfl fun w F0 S0 ρ0 => ?_
  dsimp only [argT,argH]
  repeat' first|(apply p3;(exact pu1);exact rfl)|refine cd ?_
  refine g_loop_id ?_
  refine loopK [0,4] [] (fun i : Int => 0 ≤ i ∧ i ≤ xs.length ∧ ∀ (j : Nat),(j : Int) < i → xs[j]? = some (k + j)) (fun i => [(5,.one (int i)),(1,.one (int (k + i)))]) (fun _ => []) (fun i => (xs.length - i).toNat) (0 : Int) [] (hI := ?_) (hr := ?_)
  · exact ⟨by simp,by simp,fun j h' => by omega⟩
  · rintro i ⟨k1,k2,k4⟩
    dsimp only [List.cons_append,List.nil_append] at *
    skip
    repeat' first|(apply p3;(first|exact pu1|exact puN|exact puC|exact a_ne rfl rfl|exact a_add rfl rfl (by omega) (by omega)|exact puI);exact rfl)|refine cd ?_|((refine g_cond rfl (fun hc => ?_) (fun hc => ?_)) <;> (try simp only [dcB] at hc) <;> (try first|contradiction|(exfalso;omega)))
    · repeat refine cr ?_
      refine ends_id ?_
      refine endK [] (h2 := ?_) (h3 := ?_) (nd := ?_)
      all_goals (repeat' first|exact ce0|refine ce ?_|refine ce2 ?_ ?_|exact SVLe.refl|refine ceb ?_)
      all_goals first | exact (show nodupB _ = true from rfl) | exact Or.inr rfl | ((unfold held; rw [if_neg]; intro e; have e1 := marks_get k xs.length i.toNat (by omega); rw [← e,List.getElem?_eq_getElem (by omega)] at e1; simp only [Option.some.injEq] at e1; omega))
    · refine q_again (i + 1) [] (by exact stk) ?_ ?_
      · refine ⟨by omega,by omega,fun j h => ?_⟩
        by_cases hj : (j : Int) < i
        · exact k4 j hj
        · have : j = i.toNat := by omega
          subst this
          rw [List.getElem?_eq_getElem (by omega),hc]
          congr 1
          omega
      · omega
    · have hi : i = xs.length := by omega
      subst hi
      have hl := mark_end (k := k) (xs := xs) rfl fun j hj => k4 j (by omega)
      repeat refine cr ?_
      refine ends_id ?_
      refine endK [] (h2 := ?_) (h3 := ?_) (nd := ?_)
      all_goals (repeat' first|exact ce0|refine ce ?_|refine ce2 ?_ ?_|exact SVLe.refl|refine ceb ?_)
      all_goals first | exact (show nodupB _ = true from rfl) | exact Or.inr rfl | ((unfold held; rw [if_pos hl]))
end Go.Proofs.YtjmlbmmbionmcaaGreatDoor
end
section
set_option linter.unusedVariables false
set_option linter.unusedSimpArgs false
set_option maxRecDepth 100000
set_option maxHeartbeats 4000000
namespace Go.Proofs.YtjmlbmmbionmcaaGreatDoor
open Go Foot
@[irreducible] def marksR (k : Int) (n : Nat) : List Rule' := (List.range n).map fun (i : Nat) => ⟨k + 3 * (i : Int),k + 3 * (i : Int) + 1,k + 3 * (i : Int) + 2⟩
theorem marksR_len (k : Int) (n : Nat) : (marksR k n).length = n := by unfold marksR; simp
theorem marksR_get (k : Int) (n i : Nat) (h : i < n) : (marksR k n)[i]? = some ⟨k + 3 * i,k + 3 * i + 1,k + 3 * i + 2⟩ := by unfold marksR; simp [h]
theorem markR_end {k : Int} {xs l : List Rule'} (h1 : l.length = xs.length) (h2 : ∀ j (h : j < xs.length),l[j]? = some ⟨k + 3 * j,k + 3 * j + 1,k + 3 * j + 2⟩) : l = marksR k xs.length := by
  apply List.ext_getElem?
  intro j
  by_cases hj : j < xs.length
  · rw [marksR_get k _ j hj,h2 j hj]
  · rw [List.getElem?_eq_none (by omega),List.getElem?_eq_none (by rw [marksR_len]; omega)]
theorem preD2 {p : Prop} (h : p := by first | with_reducible assumption | omega | (simp only [List.length_append,List.length_cons,List.length_nil,List.length_set,List.length_replicate,List.length_take,List.length_drop,List.length_tail,List.length_dropLast,List.length_reverse] at *; omega) | exact mem_len (by assumption) (by omega) | (with_reducible refine Int.le_trans (Int.ofNat_le.2 (trimR_len _)) ?_; simp only [List.length_cons,List.length_tail]; omega) | (exact (ruAt_ok (by assumption) (by assumption) (by assumption)).2.1) | (exact (ruAt_ok (by assumption) (by assumption) (by assumption)).2.1) | (have := vMach_bd (by assumption); omega) | (simp only [mC_ch,mC_tu]; omega) | (have := vTag_bd (by assumption); omega) | (have := (‹Gd _ _›).le; omega) | (exact tgHalts_no (by assumption)) | (exact tgHead (by assumption) (by assumption) (by assumption)) | (exact Int.le_trans (tgStep_gd (by assumption) (by assumption) (by assumption) (by assumption)).le (by decide)) | (exact vTag_r (by assumption)) | (with_reducible refine Int.le_trans (Int.ofNat_le.2 (pushL_len _ _)) ?_; simp only [List.length_dropLast]; omega) | exact ls_at (by assumption) (by omega) | exact pt_gd (by assumption) | exact lv_at (by assumption) (by omega) | exact pt_gd (lv_at (by assumption) (by omega)) | exact (ask_ok (by assumption)).1 | exact (ask_ok (by assumption)).2.1 | exact (ask_ok (by assumption)).2.2.1 | exact (ask_ok (by assumption)).2.2.2 | (simp only [marks_len]; omega) | (simp only [marksR_len]; omega) | trivial) : p := h
theorem markRuleS_ok (m : Mach) (k : Int) (h1 : 0 ≤ k) (h2 : k ≤ 4611686018427387904) (hx : (m.ru.length : Int) ≤ 4611686018427) : Does Tryz.prog 48 [.one (.gv 0),.one (int k)] [.row 3 (rows eR m.ru)] (.one (int (k + 3 * m.ru.length))) [.row 3 (rows eR (marksR k m.ru.length))] := by
  refine does_of (k := 1) Tryz.func48 rfl Tryz.ntmps48 rfl rfl fun w F0 S0 ρ0 => ?_
  dsimp only [argT,argH]
  repeat' first|(apply p3;(exact pu1);exact rfl)|refine cd ?_
  refine g_loop_id ?_
  refine loopK [0,4] [0] (fun y : Int × List Rule' => 0 ≤ y.1 ∧ y.1 ≤ m.ru.length ∧ y.2.length = m.ru.length ∧ ∀ (j : Nat),(j : Int) < y.1 → y.2[j]? = some ⟨k + 3 * j,k + 3 * j + 1,k + 3 * j + 2⟩) (fun y => [(5,.one (int y.1)),(1,.one (int (k + 3 * y.1)))]) (fun y => [(0,.row 3 (rows eR y.2))]) (fun y => (m.ru.length - y.1).toNat) ((0 : Int),m.ru) [0] (hI := ?_) (hr := ?_)
  · exact ⟨by simp,by simp,rfl,fun j h' => by simp at h'; omega⟩
  · rintro ⟨i,l⟩ ⟨k1,k2,k3,k4⟩
    dsimp only [List.cons_append,List.nil_append] at *
    skip
    repeat' first|(apply p3;(first|exact pu1|exact puN|exact puC|exact a_add rfl rfl (by omega) (by omega)|exact puI);exact rfl)|refine cd ?_|(apply w3;(exact a_stF (E := eR) ⟨_,_,_⟩ rfl rfl rfl rfl (fN rfl rfl) (Nat.le_of_ble_eq_true rfl) (Nat.le_of_ble_eq_true rfl) (by first|exact List.getElem?_set_self bnd|exact List.getElem?_eq_getElem bnd) (by (try dsimp only [setRow,List.set_cons_succ,List.set_cons_zero]);first|done|exact rfl) rfl);exact rfl;refine dS ?_)|((refine g_cond rfl (fun hc => ?_) (fun hc => ?_)) <;> (try simp only [dcB] at hc) <;> (try first|contradiction|(exfalso;omega)))
    · refine q_again (i + 1,_) [0] (by exact stk) ?_ ?_
      · refine ⟨by dsimp only; omega,by dsimp only; omega,by simp [k3],fun j h => ?_⟩
        dsimp only at h ⊢
        simp only [List.set_set]
        rw [List.getElem?_set]
        split
        · rename_i e
          subst e
          rw [if_pos (by omega),show ((i.toNat : Nat) : Int) = i by omega,show k + 3 * i + 1 + 1 = k + 3 * i + 2 by omega]
        · exact k4 j (by omega)
      · dsimp only; omega
    · have hi : i = m.ru.length := by omega
      subst hi
      have hl := markR_end (k := k) k3 fun j hj => k4 j (by omega)
      rw [← hl]
      repeat refine cr ?_
      refine ends_id ?_
      refine endK [] (h2 := ?_) (h3 := ?_) (nd := ?_)
      all_goals (repeat' first|exact ce0|refine ce ?_|refine ce2 ?_ ?_|(refine Or.inr (bx_eq rfl rfl ?_);(try dsimp only [C.ren,C.ren.all]);(try exact rfl))|exact SVLe.refl|refine ceb ?_)
      all_goals first | exact (show nodupB _ = true from rfl) | exact Or.inr rfl | (rfl)
theorem markMachR_ok (m : Mach) (k : Int) (h1 : 0 ≤ k) (h2 : k ≤ 4611686018427387904) (hx : (m.ru.length : Int) ≤ 4611686018427) : Does Tryz.prog 14 [.agg (maO m 0),.one (int k)] [.row 3 (rows eR m.ru)] (.one (int (k + 3 * m.ru.length))) [.row 3 (rows eR (marksR k m.ru.length))] := by
  refine does_of (k := 1) Tryz.func14 rfl Tryz.ntmps14 rfl rfl fun w F0 S0 ρ0 => ?_
  dsimp only [argT,argH]
  repeat' first|(apply n3;exact a_new (gb := .bx _) rfl;exact rfl;refine dA ?_)|(apply p3;(exact pu1);exact rfl)|refine cd ?_|(apply c4 0;exact callK1 (θ := [_]) (hD := (markRuleS_ok _ _ preD2 preD2 preD2));exact rfl;exact rfl;exact rfl;refine dM ?_)
  repeat refine cr ?_
  refine ends_id ?_
  refine endK [] (h2 := ?_) (h3 := ?_) (nd := ?_)
  all_goals (repeat' first|exact ce0|refine ce ?_|refine ce2 ?_ ?_|(refine Or.inr (bx_eq rfl rfl ?_);(try dsimp only [C.ren,C.ren.all]);(try exact rfl))|exact SVLe.refl|refine ceb ?_)
  all_goals first | exact (show nodupB _ = true from rfl) | exact Or.inr rfl | (rfl)
end Go.Proofs.YtjmlbmmbionmcaaGreatDoor
end
section
set_option linter.unusedVariables false
set_option linter.unusedSimpArgs false
set_option maxRecDepth 100000
set_option maxHeartbeats 4000000
namespace Go.Proofs.YtjmlbmmbionmcaaGreatDoor
open Go Foot
theorem preD14 {p : Prop} (h : p := by first | with_reducible assumption | omega | (simp only [List.length_append,List.length_cons,List.length_nil,List.length_set,List.length_replicate,List.length_take,List.length_drop,List.length_tail,List.length_dropLast,List.length_reverse] at *; omega) | exact mem_len (by assumption) (by omega) | (with_reducible refine Int.le_trans (Int.ofNat_le.2 (trimR_len _)) ?_; simp only [List.length_cons,List.length_tail]; omega) | (exact (ruAt_ok (by assumption) (by assumption) (by assumption)).2.1) | (exact (ruAt_ok (by assumption) (by assumption) (by assumption)).2.1) | (have := vMach_bd (by assumption); omega) | (simp only [List.length_append,List.length_cons,List.length_nil,repW_len,seN_len] at *; omega) | (simp only [mC_ch,mC_tu]; omega) | (have := vTag_bd (by assumption); omega) | (have := (‹Gd _ _›).le; omega) | (exact tgHalts_no (by assumption)) | (exact tgHead (by assumption) (by assumption) (by assumption)) | (exact Int.le_trans (tgStep_gd (by assumption) (by assumption) (by assumption) (by assumption)).le (by decide)) | (exact vTag_r (by assumption)) | (with_reducible refine Int.le_trans (Int.ofNat_le.2 (pushL_len _ _)) ?_; simp only [List.length_dropLast]; omega) | exact ls_at (by assumption) (by omega) | exact pt_gd (by assumption) | exact lv_at (by assumption) (by omega) | exact pt_gd (lv_at (by assumption) (by omega)) | exact (ask_ok (by assumption)).1 | exact (ask_ok (by assumption)).2.1 | exact (ask_ok (by assumption)).2.2.1 | exact (ask_ok (by assumption)).2.2.2 | (simp only [marks_len]; omega) | (simp only [marksR_len]; omega) | exact lns_at (by assumption) (by omega) | exact bgs_at (by assumption) (by omega) | trivial) : p := h
theorem markConfigR_ok (c : Conf) (k : Int) (h1 : 0 ≤ k) (h2 : k ≤ 1152921504606846976) (hx : (c.le.length : Int) ≤ 4611686018427) (hy : (c.ri.length : Int) ≤ 4611686018427) : Does Tryz.prog 15 [.agg [int c.st,.gv 0,.gv 1],.one (int k)] [roI c.le,roI c.ri] (.one (int (k + c.le.length + c.ri.length))) [roI (marks k c.le.length),roI (marks (k + c.le.length) c.ri.length)] := by
  refine does_of (k := 2) Tryz.func15 rfl Tryz.ntmps15 rfl rfl fun w F0 S0 ρ0 => ?_
  dsimp only [argT,argH]
  repeat' first|(apply n3;exact a_new (gb := .bx _) rfl;exact rfl;refine dA ?_)|(apply p3;(exact pu1);exact rfl)|refine cd ?_|(apply c4 0;exact callK1 (θ := [_]) (hD := (markInt64S_ok _ _ preD14 preD14 preD14));exact rfl;exact rfl;exact rfl;refine dM ?_)|fail
  repeat refine cr ?_
  refine ends_id ?_
  refine endK [] (h2 := ?_) (h3 := ?_) (nd := ?_)
  all_goals (repeat' first|exact ce0|refine ce ?_|refine ce2 ?_ ?_|(refine Or.inr (bx_eq rfl rfl ?_);(try dsimp only [C.ren,C.ren.all]);(try exact rfl))|exact SVLe.refl|refine ceb ?_)
  all_goals first | exact (show nodupB _ = true from rfl) | exact Or.inr rfl | (rfl)
theorem heldConfig_ok (s : Int) (a b : Nat) (k : Int) (h1 : 0 ≤ k) (h2 : k ≤ 1152921504606846976) (hx : (a : Int) ≤ 4611686018427) (hy : (b : Int) ≤ 4611686018427) : Does Tryz.prog 16 [.agg (coC ⟨s,marks k a,marks (k + a) b⟩),.one (int k)] [] (.one (int (k + a + b))) [] := by
  have e1 := held_marks k a
  have e2 := held_marks (k + a) b
  have l1 := marks_len k a
  have l2 := marks_len (k + a) b
  refine does_of (k := 0) Tryz.func16 rfl Tryz.ntmps16 rfl rfl fun w F0 S0 ρ0 => ?_
  dsimp only [argT,argH]
  repeat' first|(apply n3;exact a_new (gb := .bx _) rfl;exact rfl;refine dA ?_)|(apply p3;(exact pu1);exact rfl)|refine cdn ?_|refine g_reg (id := 0) ?_|refine g_reg (id := 1) ?_|(apply c4 0;exact callK1 (θ := []) (hD := (heldInt64S_ok _ _ preD14 preD14 preD14));exact rfl;exact rfl;exact rfl;refine dM ?_)|fail
  simp only [e1]
  repeat' first|(apply p3;(first|exact pu1|exact puC);exact rfl)|refine cdn ?_|refine g_reg (id := 2) ?_|refine g_reg (id := 4) ?_|(apply c4 0;exact callK1 (θ := []) (hD := (heldInt64S_ok _ _ preD14 preD14 preD14));exact rfl;exact rfl;exact rfl;refine dM ?_)|((refine g_cond rfl (fun hc => ?_) (fun hc => ?_)) <;> (try simp only [dcB] at hc) <;> (try first|contradiction|(exfalso;omega)))|fail
  simp only [e2]
  repeat' first|(apply p3;(first|exact pu1|exact puC);exact rfl)|refine cd ?_|((refine g_cond rfl (fun hc => ?_) (fun hc => ?_)) <;> (try simp only [dcB] at hc) <;> (try first|contradiction|(exfalso;omega)))|fail
  repeat refine cr ?_
  refine ends_id ?_
  refine endK [] (h2 := ?_) (h3 := ?_) (nd := ?_)
  all_goals (repeat' first|exact ce0|refine ce ?_|refine ce2 ?_ ?_|exact SVLe.refl|refine ceb ?_)
  all_goals first | exact (show nodupB _ = true from rfl) | exact Or.inr rfl | (rfl)
end Go.Proofs.YtjmlbmmbionmcaaGreatDoor
end
