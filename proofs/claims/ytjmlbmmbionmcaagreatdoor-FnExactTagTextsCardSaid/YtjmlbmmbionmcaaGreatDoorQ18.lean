/- Parts of the proof (18 of 20). -/
import Derived.Test.YtjmlbmmbionmcaaGreatDoorQ17
section
set_option linter.unusedVariables false
set_option linter.unusedSimpArgs false
set_option maxRecDepth 100000
set_option maxHeartbeats 1000000
namespace Go.Proofs.YtjmlbmmbionmcaaGreatDoor
open Go Foot Go.RowKit
theorem preB205 {p : Prop} (h : p := by first | with_reducible assumption | omega | (simp only [List.length_append,List.length_cons,List.length_nil,List.length_set,List.length_replicate,List.length_take,List.length_drop,List.length_tail,List.length_dropLast,List.length_reverse] at *; omega) | exact mem_len (by assumption) (by omega) | (with_reducible refine Int.le_trans (Int.ofNat_le.2 (trimR_len _)) ?_; simp only [List.length_cons,List.length_tail]; omega) | (exact (ruAt_ok (by assumption) (by assumption) (by assumption)).2.1) | (exact (ruAt_ok (by assumption) (by assumption) (by assumption)).2.1) | (have := vMach_bd (by assumption); omega) | (simp only [List.length_append,List.length_cons,List.length_nil,repW_len,seN_len] at *; omega) | (simp only [mC_ch,mC_tu]; omega) | (have := vTag_bd (by assumption); omega) | (have := (‹Gd _ _›).le; omega) | (exact tgHalts_no (by assumption)) | (exact tgHead (by assumption) (by assumption) (by assumption)) | (exact Int.le_trans (tgStep_gd (by assumption) (by assumption) (by assumption) (by assumption)).le (by decide)) | (exact vTag_r (by assumption)) | (with_reducible refine Int.le_trans (Int.ofNat_le.2 (pushL_len _ _)) ?_; simp only [List.length_dropLast]; omega) | exact ls_at (by assumption) (by omega) | exact pt_gd (by assumption) | exact lv_at (by assumption) (by omega) | exact pt_gd (lv_at (by assumption) (by omega)) | exact (ask_ok (by assumption)).1 | exact (ask_ok (by assumption)).2.1 | exact (ask_ok (by assumption)).2.2.1 | exact (ask_ok (by assumption)).2.2.2 | trivial) : p := h
theorem l03Power_ok (p : List Int) (n : Int) (h0 : 0 ≤ n) (h1 : n ≤ 1000) (hw : p.length = 2) : Does Tryz.prog 133 [.one (shI p),.one (int n)] [] (.one (.gv 0)) [roI (repW p n.toNat)] := by
  refine does_of (k := 0) Tryz.func133 rfl Tryz.ntmps133 rfl rfl fun w F0 S0 ρ0 => ?_
  dsimp only [argT,argH]
  repeat' first|(apply n3;exact a_nilO eI rfl;exact rfl)|(apply n3;(exact a_litE eI [] rfl rfl rfl rfl rfl rfl rfl rfl);exact rfl;refine dA ?_)|(apply p3;(exact pu1);exact rfl)|refine cd ?_|fail
  refine g_loop_id ?_
  refine loopK [0,4] [1] (fun y : Int × List Int => 0 ≤ y.1 ∧ y.1 ≤ n ∧ y.2 = repW p (n - y.1).toNat) (fun y => [(1,.one (int y.1)),(5,.one (.gv 1))]) (fun y => [(1,roI y.2)]) (fun y => y.1.toNat) (n,[]) [0,1] (hI := ?_) (hr := ?_)
  · exact ⟨h0,by simp,by dsimp only; rw [Int.sub_self]; rfl⟩
  · rintro ⟨k,l⟩ ⟨j0,j1,j2⟩
    dsimp only [List.cons_append,List.nil_append] at *
    skip
    have jl : l.length = (n - k).toNat * 2 := by (rw [j2,repW_len,hw])
    repeat' first|(apply p3;(first|exact pu1|exact puC|exact a_sub rfl rfl (by omega) (by omega));exact rfl)|refine cd ?_|(apply s3;exact a_appE (fP rfl) rfl rfl rfl rfl nowR (by omega) (by decide) (by decide) (by exact rfl);exact rfl;exact rfl)|((refine g_cond rfl (fun hc => ?_) (fun hc => ?_)) <;> (try simp only [dcB] at hc) <;> (try first|contradiction|(exfalso;omega)))|fail
    · refine q_again (k - 1,l ++ p) [0,2] (by exact stk) ?_ ?_
      · dsimp only
        exact ⟨by omega,by omega,by rw [j2,repW_snoc,show (n - k).toNat + 1 = (n - (k - 1)).toNat by omega]⟩
      · dsimp only; omega
    · rw [show (n - k).toNat = n.toNat by omega] at j2
      rw [← j2]
      repeat refine cr ?_
      refine ends_id ?_
      refine endK [?_] (h2 := ?_) (h3 := ?_) (nd := ?_)
      rotate_left 1
      all_goals (repeat' first|exact ce0|refine ce ?_|refine ce2 ?_ ?_|(refine Or.inr (bx_eq rfl rfl ?_);(try dsimp only [C.ren,C.ren.all]);(try exact rfl))|exact SVLe.refl|refine ceb ?_)
      all_goals first | exact (show nodupB _ = true from rfl) | exact Or.inr rfl | (rfl)
@[irreducible] def atB (l : List Int) (i : Int) (p : List Int) : Bool := decide ((l.drop i.toNat).take p.length = p)
theorem l03At_ok (l : List Int) (i : Int) (p : List Int) (h0 : 0 ≤ i) (h1 : i ≤ l.length) (hw : (l.length : Int) ≤ 1048576) (hp : (p.length : Int) ≤ 1000) : Does Tryz.prog 135 [.one (shI l),.one (int i),.one (shI p)] [] (.one (boo (atB l i p))) [] := by
  refine does_of (k := 0) Tryz.func135 rfl Tryz.ntmps135 rfl rfl fun w F0 S0 ρ0 => ?_
  dsimp only [argT,argH]
  repeat' first|(apply p3;(first|exact pu1|exact puN|exact a_add rfl rfl (by omega) (by omega)|exact puC);exact rfl)|refine cd ?_|refine o_no rfl rfl rfl rfl ?_|(apply py3;exact rfl;exact rfl;(first|exact pu1|exact puN|exact a_add rfl rfl (by omega) (by omega)|exact a_slM rfl rfl rfl rfl (fS rfl) (by omega) (by omega) (by omega) (by exact rfl));exact rfl;exact rfl)|(apply cy4 0;exact rfl;exact rfl;exact callK1 (θ := []) (hD := (l00Same_ok _ _ preB205 preB205));exact rfl;exact rfl;exact rfl;exact rfl;refine dM ?_)|((refine o_gs rfl rfl (fun hc => ?_) (fun hc => ?_)) <;> (try simp only [dcB] at hc) <;> (try first|contradiction|(exfalso;omega)))|fail
  · have e : atB l i p = eqI (List.take ((i + (p.length : Int)).toNat - i.toNat) (List.drop i.toNat l)) p := by
      unfold atB eqI
      rw [show (i + (p.length : Int)).toNat - i.toNat = p.length by omega]
    rw [e]
    repeat refine cr ?_
    refine ends_id ?_
    refine endK [] (h2 := ?_) (h3 := ?_) (nd := ?_)
    all_goals (repeat' first|exact ce0|refine ce ?_|refine ce2 ?_ ?_|exact SVLe.refl|refine ceb ?_)
    all_goals first | exact (show nodupB _ = true from rfl) | exact Or.inr rfl | (rfl)
  · have e : atB l i p = false := by
      unfold atB
      rw [decide_eq_false_iff_not]
      intro h
      have := congrArg List.length h
      rw [List.length_take,List.length_drop] at this
      omega
    rw [e]
    repeat refine cr ?_
    refine ends_id ?_
    refine endK [] (h2 := ?_) (h3 := ?_) (nd := ?_)
    all_goals (repeat' first|exact ce0|refine ce ?_|refine ce2 ?_ ?_|exact SVLe.refl|refine ceb ?_)
    all_goals first | exact (show nodupB _ = true from rfl) | exact Or.inr rfl | (rfl)
theorem atB_t {l p : List Int} {i : Int} (h : atB l i p = true) : (l.drop i.toNat).take p.length = p := by unfold atB at h; exact of_decide_eq_true h
theorem atB_f {l p : List Int} {i : Int} (h : atB l i p = false) : ¬ (l.drop i.toNat).take p.length = p := by unfold atB at h; exact of_decide_eq_false h
theorem tk_len {l p : List Int} {i k : Nat} (h : (l.drop i).take k = p) (hk : p.length = k) (hi : i ≤ l.length) : i + k ≤ l.length := by
  have := congrArg List.length h
  rw [List.length_take,List.length_drop,hk] at this
  omega
theorem l15Pairs_ok (l : List Int) (i : Int) (p : List Int) (h0 : 0 ≤ i) (h1 : i ≤ l.length) (hw : (l.length : Int) ≤ 1000) (hp : p.length = 2) : Does Tryz.prog 136 [.one (shI l),.one (int i),.one (shI p)] [] (.one (int (pqC p l.length (l.drop i.toNat) : Nat))) [] := by
  refine does_of (k := 0) Tryz.func136 rfl Tryz.ntmps136 rfl rfl fun w F0 S0 ρ0 => ?_
  dsimp only [argT,argH]
  repeat' first|(apply p3;(exact pu1);exact rfl)|refine cd ?_|fail
  refine g_loop_id ?_
  refine loopK [0,2,6] [] (fun y : Int × Int => i ≤ y.1 ∧ y.1 ≤ l.length ∧ y.2 * 2 = y.1 - i ∧ y.2 + (pqC p (l.length - y.2.toNat) (l.drop y.1.toNat) : Nat) = (pqC p l.length (l.drop i.toNat) : Nat)) (fun y => [(1,.one (int y.1)),(7,.one (int y.2))]) (fun _ => []) (fun y => (l.length - y.1).toNat) (i,(0 : Int)) [] (hI := ?_) (hr := ?_)
  · exact ⟨by simp,h1,by simp,by simp⟩
  · rintro ⟨k,n⟩ ⟨j0,j1,j2,j3⟩
    dsimp only [List.cons_append,List.nil_append] at *
    skip
    repeat' first|(apply p3;(first|exact pu1|exact a_add rfl rfl (by omega) (by omega));exact rfl)|refine cd ?_|(apply c4 0;exact callK1 (θ := []) (hD := (l03At_ok _ _ _ preB205 preB205 preB205 preB205));exact rfl;exact rfl;exact rfl;refine dM ?_)|((refine g_cond rfl (fun hc => ?_) (fun hc => ?_)) <;> (try simp only [dcB] at hc) <;> (try first|contradiction|(exfalso;omega)))|fail
    · have ht := atB_t hc
      rw [hp] at ht
      have hk := tk_len ht hp (by omega)
      obtain ⟨f,hf⟩ : ∃ f,l.length - n.toNat = f + 1 := ⟨l.length - n.toNat - 1,by omega⟩
      rw [hf,pqC_s ht,List.drop_drop] at j3
      refine q_again (k + 2,n + 1) [] (by exact stk) ?_ ?_
      · dsimp only
        refine ⟨by omega,by omega,by omega,?_⟩
        rw [show l.length - (n + 1).toNat = f by omega,show (k + 2).toNat = k.toNat + 2 by omega]
        omega
      · dsimp only; omega
    · have ht := atB_f hc
      rw [hp] at ht
      rw [pqC_n ht] at j3
      have e : n = ((pqC p l.length (l.drop i.toNat) : Nat) : Int) := by omega
      rw [← e]
      skip
      repeat refine cr ?_
      refine ends_id ?_
      refine endK [] (h2 := ?_) (h3 := ?_) (nd := ?_)
      all_goals (repeat' first|exact ce0|refine ce ?_|refine ce2 ?_ ?_|exact SVLe.refl|refine ceb ?_)
      all_goals first | exact (show nodupB _ = true from rfl) | exact Or.inr rfl | (rfl)
structure NfOk (ns : List (List Bs)) : Prop where
  n : ns.length = 4
  f : (ns.getD 0 []).length ≤ 2
  p : (ns.getD 1 []).length = 2
  u : (ns.getD 2 []).length = 2
  z : (ns.getD 3 []).length = 2
abbrev frN (ns : List (List Bs)) (q : Int) (l : List Int) : Int × Int × Bool := frF (wdN (ns.getD 0 []) q) (wdN (ns.getD 1 []) q) (wdN (ns.getD 2 []) q) (wdN (ns.getD 3 []) q) l
theorem l15Form_ok (l : List Int) (q : Int) (ns : List (List Bs)) (hl : (l.length : Int) ≤ 1000) (h0 : -1000 ≤ q) (h1 : q ≤ 1000) (g : NfOk ns) : Does Tryz.prog 86 [.one (shI l),.one (int q),.one (shSL ns)] [] (.tup [(false,[int (frN ns q l).1]),(false,[int (frN ns q l).2.1]),(false,[boo (frN ns q l).2.2])]) [] := by
  have gn := g.n
  have gf := g.f
  have gp := g.p
  have gu := g.u
  have gz := g.z
  have i0 : ns[Int.toNat 0]'(by omega) = ns.getD 0 [] := get_getD ns [] 0 (by omega)
  have i1 : ns[Int.toNat 1]'(by omega) = ns.getD 1 [] := get_getD ns [] 1 (by omega)
  have i2 : ns[Int.toNat 2]'(by omega) = ns.getD 2 [] := get_getD ns [] 2 (by omega)
  have i3 : ns[Int.toNat 3]'(by omega) = ns.getD 3 [] := get_getD ns [] 3 (by omega)
  unfold frN
  rw [← i0] at gf ⊢
  rw [← i1] at gp ⊢
  rw [← i2] at gu ⊢
  rw [← i3] at gz ⊢
  have lf := wdN_len (ns[Int.toNat 0]'(by omega)) q
  have lp := wdN_len (ns[Int.toNat 1]'(by omega)) q
  have lu := wdN_len (ns[Int.toNat 2]'(by omega)) q
  have lz := wdN_len (ns[Int.toNat 3]'(by omega)) q
  rw [gp] at lp
  rw [gu] at lu
  rw [gz] at lz
  refine does_of (k := 0) Tryz.func86 rfl Tryz.ntmps86 rfl rfl fun w F0 S0 ρ0 => ?_
  dsimp only [argT,argH]
  repeat' first|(apply p3;(first|exact pu1|exact puI);exact rfl)|refine cdn ?_|refine g_reg (id := 0) ?_|refine g_reg (id := 1) ?_|refine g_reg (id := 2) ?_|(apply c4 1;exact callK1 (θ := []) (hD := (l15Word_ok _ _ preB205 preB205 preB205));exact rfl;exact rfl;exact rfl;refine dM ?_)|(apply c4 0;exact callK1 (θ := []) (hD := (l03At_ok _ _ _ preB205 preB205 preB205 preB205));exact rfl;exact rfl;exact rfl;refine dM ?_)|((refine g_cond rfl (fun hc => ?_) (fun hc => ?_)) <;> (try simp only [dcB] at hc) <;> (try first|contradiction|(exfalso;omega)))|fail
  · have h1' := atB_f hc
    rw [frF_1 (by simpa using h1')]
    repeat' first|(apply p3;(exact pu1);exact rfl)|refine cd ?_|fail
    repeat refine cr ?_
    refine ends_id ?_
    refine endK [] (h2 := ?_) (h3 := ?_) (nd := ?_)
    all_goals (repeat' first|exact ce0|refine ce ?_|refine ce2 ?_ ?_|exact SVLe.refl|refine ceb ?_)
    all_goals first | exact (show nodupB _ = true from rfl) | exact Or.inr rfl | (rfl)
  · have h1' : l.take (wdN (ns[Int.toNat 0]'(by omega)) q).length = (wdN (ns[Int.toNat 0]'(by omega)) q) := by simpa using atB_t hc
    have hl1 := tk_len (i := 0) (l := l) (k := (wdN (ns[Int.toNat 0]'(by omega)) q).length) (p := (wdN (ns[Int.toNat 0]'(by omega)) q)) (by simpa using h1') rfl (by omega)
    have ha := pqC_le (p := (wdN (ns[Int.toNat 1]'(by omega)) q)) lp l.length (l.drop (wdN (ns[Int.toNat 0]'(by omega)) q).length)
    rw [List.length_drop] at ha
    generalize hA : pqC (wdN (ns[Int.toNat 1]'(by omega)) q) l.length (l.drop (wdN (ns[Int.toNat 0]'(by omega)) q).length) = A at *
    repeat' first|(apply p3;(first|exact pu1|exact puN|exact a_add rfl rfl (by omega) (by omega)|exact puI);exact rfl)|refine cdn ?_|refine g_reg (id := 4) ?_|fail
    simp only [Int.zero_add,← lf]
    repeat' first|(apply p3;(first|exact pu1|exact puI);exact rfl)|refine cdn ?_|refine g_reg (id := 5) ?_|(apply c4 1;exact callK1 (θ := []) (hD := (l15Word_ok _ _ preB205 preB205 preB205));exact rfl;exact rfl;exact rfl;refine dM ?_)|(apply c4 0;exact callK1 (θ := []) (hD := (l15Pairs_ok _ _ _ preB205 preB205 preB205 preB205));exact rfl;exact rfl;exact rfl;refine dM ?_)|fail
    simp only [Int.toNat_natCast,hA]
    repeat' first|(apply p3;(first|exact pu1|exact a_add rfl rfl (by omega) (by omega)|exact a_mulB rfl rfl (by omega) (by omega) (by omega) (by omega)|exact puI);exact rfl)|refine cdn ?_|refine g_reg (id := 6) ?_|refine g_reg (id := 7) ?_|(apply c4 1;exact callK1 (θ := []) (hD := (l15Word_ok _ _ preB205 preB205 preB205));exact rfl;exact rfl;exact rfl;refine dM ?_)|(apply c4 0;exact callK1 (θ := []) (hD := (l03At_ok _ _ _ preB205 preB205 preB205 preB205));exact rfl;exact rfl;exact rfl;refine dM ?_)|((refine g_cond rfl (fun hc => ?_) (fun hc => ?_)) <;> (try simp only [dcB] at hc) <;> (try first|contradiction|(exfalso;omega)))|fail
    · have h2' := atB_f hc
      rw [lu,show (((wdN (ns[Int.toNat 0]'(by omega)) q).length : Nat) + 2 * (A : Int)).toNat = (wdN (ns[Int.toNat 0]'(by omega)) q).length + 2 * A by omega] at h2'
      rw [frF_2 h1' (by rw [hA]; exact h2')]
      repeat' first|(apply p3;(exact pu1);exact rfl)|refine cd ?_|fail
      repeat refine cr ?_
      refine ends_id ?_
      refine endK [] (h2 := ?_) (h3 := ?_) (nd := ?_)
      all_goals (repeat' first|exact ce0|refine ce ?_|refine ce2 ?_ ?_|exact SVLe.refl|refine ceb ?_)
      all_goals first | exact (show nodupB _ = true from rfl) | exact Or.inr rfl | (rfl)
    · have h2' := atB_t hc
      have et : (((wdN (ns[Int.toNat 0]'(by omega)) q).length : Nat) + 2 * (A : Int)).toNat = (wdN (ns[Int.toNat 0]'(by omega)) q).length + 2 * A := by omega
      rw [lu,et] at h2'
      have hl2 := tk_len h2' lu (by omega)
      have hz := pqC_le (p := (wdN (ns[Int.toNat 3]'(by omega)) q)) lz l.length (l.drop ((wdN (ns[Int.toNat 0]'(by omega)) q).length + 2 * A + 2))
      rw [List.length_drop] at hz
      rw [frF_3 h1' (by rw [hA]; exact h2'),hA]
      generalize hB : pqC (wdN (ns[Int.toNat 3]'(by omega)) q) l.length (l.drop ((wdN (ns[Int.toNat 0]'(by omega)) q).length + 2 * A + 2)) = B at *
      have et2 : (((wdN (ns[Int.toNat 0]'(by omega)) q).length : Nat) + 2 * (A : Int) + 2).toNat = (wdN (ns[Int.toNat 0]'(by omega)) q).length + 2 * A + 2 := by omega
      repeat' first|(apply p3;(first|exact pu1|exact a_add rfl rfl (by omega) (by omega)|exact puI);exact rfl)|refine cdn ?_|refine g_reg (id := 9) ?_|refine g_reg (id := 10) ?_|(apply c4 1;exact callK1 (θ := []) (hD := (l15Word_ok _ _ preB205 preB205 preB205));exact rfl;exact rfl;exact rfl;refine dM ?_)|(apply c4 0;exact callK1 (θ := []) (hD := (l15Pairs_ok _ _ _ preB205 preB205 preB205 preB205));exact rfl;exact rfl;exact rfl;refine dM ?_)|fail
      simp only [et2,hB]
      rw [show decide ((wdN (ns[Int.toNat 0]'(by omega)) q).length + 2 * A + 2 + 2 * B = l.length) = decide ((((wdN (ns[Int.toNat 0]'(by omega)) q).length : Nat) : Int) + 2 * (A : Int) + 2 + 2 * (B : Int) = (l.length : Nat)) from decide_eq_decide.2 (by omega)]
      repeat' first|(apply p3;(first|exact pu1|exact puN|exact a_add rfl rfl (by omega) (by omega)|exact a_mulB rfl rfl (by omega) (by omega) (by omega) (by omega)|exact puC);exact rfl)|refine cd ?_|fail
      repeat refine cr ?_
      refine ends_id ?_
      refine endK [] (h2 := ?_) (h3 := ?_) (nd := ?_)
      all_goals (repeat' first|exact ce0|refine ce ?_|refine ce2 ?_ ?_|exact SVLe.refl|refine ceb ?_)
      all_goals first | exact (show nodupB _ = true from rfl) | exact Or.inr rfl | (rfl)
theorem NfA : NfOk [[[65],[120]],[[97],[120]],[[66],[120]],[[98],[120]]] := ⟨rfl,by decide,rfl,rfl,rfl⟩
theorem NfB : NfOk [[[80,48]],[[112,49],[112,48]],[[81,49],[81,48]],[[114,49],[114,48]]] := ⟨rfl,by decide,rfl,rfl,rfl⟩
theorem NfC : NfOk [[[80,49],[80,48]],[[112,49],[112,48]],[[81,49],[81,48]],[[114,49],[114,48]]] := ⟨rfl,by decide,rfl,rfl,rfl⟩
theorem frA_bd {q : Int} {l : List Int} (hl : (l.length : Int) ≤ 1000) (h : (frA q l).2.2 = true) : 0 ≤ (frA q l).1 ∧ (frA q l).1 ≤ 1000 ∧ 0 ≤ (frA q l).2.1 ∧ (frA q l).2.1 ≤ 1000 := by
  obtain ⟨a,b,e1,e2⟩ := frA_fw h
  have := congrArg List.length e2
  rw [e1]
  unfold shA shF at this
  simp only [List.length_append,repW_len,wdN_len,List.length_cons,List.length_nil] at this
  dsimp only
  omega
theorem frB_bd {q : Int} {v : Nat} {l : List Int} (hl : (l.length : Int) ≤ 1000) (h : (frB q v l).2.2 = true) : 0 ≤ (frB q v l).1 ∧ (frB q v l).1 ≤ 1000 ∧ 0 ≤ (frB q v l).2.1 ∧ (frB q v l).2.1 ≤ 1000 := by
  obtain ⟨a,b,e1,e2⟩ := frB_fw h
  have := congrArg List.length e2
  rw [e1]
  unfold shB shF at this
  simp only [List.length_append,repW_len,wdN_len,List.length_cons,List.length_nil] at this
  dsimp only
  omega
abbrev cfY (o : Option Conf) : Conf := o.getD ⟨0,[],[]⟩
theorem l15Decode_ok (m : Mach) (l : List Int) (g : TmOk m) (hl : (l.length : Int) ≤ 1000) : Does Tryz.prog 36 [.one (maB m),.one (shI l)] [] (.tup [(true,[int (cfY (dcS m l m.st.toNat 0)).st,.gv 0,.gv 1]),(false,[boo (dcS m l m.st.toNat 0).isSome])]) [roI (cfY (dcS m l m.st.toNat 0)).le,roI (cfY (dcS m l m.st.toNat 0)).ri] := by
  have hb := vMach_bd g.v
  rw [g.y] at hb
  have hs := g.s
  refine does_of (k := 0) Tryz.func36 rfl Tryz.ntmps36 rfl rfl fun w F0 S0 ρ0 => ?_
  dsimp only [argT,argH]
  repeat' first|(apply n3;exact a_new (gb := .bx _) rfl;exact rfl;refine dA ?_)|(apply p3;(exact pu1);exact rfl)|refine cd ?_|fail
  refine g_loop_id ?_
  refine loopK [0,1,4,5] [] (fun q : Int => 0 ≤ q ∧ q ≤ m.st ∧ dcS m l (m.st - q).toNat q.toNat = dcS m l m.st.toNat 0) (fun q => [(6,.one (int q))]) (fun _ => []) (fun q => (m.st - q).toNat) (0 : Int) [0] (hI := ?_) (hr := ?_)
  · exact ⟨by omega,by omega,by rw [Int.sub_zero]; rfl⟩
  · rintro q ⟨j0,j1,j2⟩
    dsimp only [List.cons_append,List.nil_append] at *
    skip
    repeat' first|(apply p3;(first|exact pu1|exact puC);exact rfl)|refine cdn ?_|refine g_reg (id := 2) ?_|refine g_reg (id := 16) ?_|(apply w3;(exact a_st_bx rfl rfl rfl rfl (fN rfl rfl) (Nat.le_of_ble_eq_true rfl) rfl);exact rfl;refine dS ?_)|((refine g_cond rfl (fun hc => ?_) (fun hc => ?_)) <;> (try simp only [dcB] at hc) <;> (try first|contradiction|(exfalso;omega)))|fail
    · obtain ⟨u,hu⟩ : ∃ u : Nat,q = u := ⟨q.toNat,by omega⟩
      subst hu
      have eA : frN [[[65],[120]],[[97],[120]],[[66],[120]],[[98],[120]]] (u : Int) l = frA u l := by unfold frA; rfl
      repeat' first|(apply p3;exact a_litF (dst := some 26) eS [_,_] rfl rfl rfl rfl rfl rfl rfl rfl nowR;exact rfl)|(apply p3;exact a_litF (dst := some 27) eS [_,_] rfl rfl rfl rfl rfl rfl rfl rfl nowR;exact rfl)|(apply p3;exact a_litF (dst := some 28) eS [_,_] rfl rfl rfl rfl rfl rfl rfl rfl nowR;exact rfl)|(apply p3;exact a_litF (dst := some 29) eS [_,_] rfl rfl rfl rfl rfl rfl rfl rfl nowR;exact rfl)|(apply p3;exact a_litF (dst := some 30) eSL [_,_,_,_] rfl rfl rfl rfl rfl rfl rfl rfl nowR;exact rfl)|(apply p3;(exact pu1);exact rfl)|refine cdn ?_|refine g_reg (id := 4) ?_|(apply c4 0;exact callK1 (θ := []) (hD := (l15Form_ok l (u : Int) [[[65],[120]],[[97],[120]],[[66],[120]],[[98],[120]]] hl (by omega) (by omega) NfA));exact rfl;exact rfl;exact rfl;refine dM ?_)|fail
      simp only [eA]
      repeat' first|(apply p3;(exact pu1);exact rfl)|refine cdn ?_|refine g_reg (id := 5) ?_|((refine g_cond rfl (fun hc => ?_) (fun hc => ?_)) <;> (try simp only [dcB] at hc) <;> (try first|contradiction|(exfalso;omega)))|fail
      · have e0 : dcQ m l u = some ⟨u,btS (frA u l).1,btS (frA u l).2.1⟩ := by unfold dcQ; rw [if_pos hc]
        have e1 : dcS m l m.st.toNat 0 = some ⟨u,btS (frA u l).1,btS (frA u l).2.1⟩ := by
          rw [← j2,show (m.st - (u : Int)).toNat = (m.st - (u : Int) - 1).toNat + 1 by omega,Int.toNat_natCast,dcS_c e0]
        have hbd := frA_bd hl hc
        rw [e1]
        simp only [Option.getD_some,Option.isSome_some]
        repeat' first|(apply p3;(exact pu1);exact rfl)|refine cd ?_|(apply w3;(exact a_st_bx rfl rfl rfl rfl (fN rfl rfl) (Nat.le_of_ble_eq_true rfl) rfl);exact rfl;refine dS ?_)|(apply c4 1;exact callK1 (θ := []) (hD := (l15Side_ok _ preB205 preB205));exact rfl;exact rfl;exact rfl;refine dM ?_)|fail
        repeat refine cr ?_
        refine ends_id ?_
        refine endK [?_,?_] (h2 := ?_) (h3 := ?_) (nd := ?_)
        rotate_left 2
        all_goals (repeat' first|exact ce0|refine ce ?_|refine ce2 ?_ ?_|(refine Or.inr (bx_eq rfl rfl ?_);(try dsimp only [C.ren,C.ren.all]);(try exact rfl))|exact SVLe.refl|refine ceb ?_)
        all_goals first | exact (show nodupB _ = true from rfl) | exact Or.inr rfl | (rfl)
      · have hA : ¬ (frA u l).2.2 = true := by rw [hc]; decide
        repeat' first|(apply p3;(exact pu1);exact rfl)|refine cdn ?_|refine g_reg (id := 7) ?_|fail
        refine g_loop_id ?_
        refine loopK [0,1,4,5,6] [] (fun s : Int => 0 ≤ s ∧ s ≤ 2 ∧ (1 ≤ s → ¬ ((frB u 0 l).2.2 = true ∧ ruN m u 0 = noR)) ∧ (2 ≤ s → ¬ ((frB u 1 l).2.2 = true ∧ ruN m u 1 = noR))) (fun s => [(10,.one (int s))]) (fun _ => []) (fun s => (2 - s).toNat) (0 : Int) [0] (hI := ?_) (hr := ?_)
        · exact ⟨by simp,by simp,fun h => absurd h (by simp),fun h => absurd h (by simp)⟩
        · rintro s ⟨z0,z1,z2,z3⟩
          dsimp only [List.cons_append,List.nil_append] at *
          skip
          repeat' first|(apply p3;exact a_litF (dst := some 46) eS [_] rfl rfl rfl rfl rfl rfl rfl rfl nowR;exact rfl)|(apply p3;exact a_litF (dst := some 49) eS [_,_] rfl rfl rfl rfl rfl rfl rfl rfl nowR;exact rfl)|(apply p3;(first|exact pu1|exact puC|exact a_add rfl rfl (by omega) (by omega));exact rfl)|refine cdn ?_|refine g_reg (id := 8) ?_|refine g_reg (id := 10) ?_|refine g_reg (id := 11) ?_|refine g_reg (id := 12) ?_|refine g_reg (id := 3) ?_|((refine g_cond rfl (fun hc => ?_) (fun hc => ?_)) <;> (try simp only [dcB] at hc) <;> (try first|contradiction|(exfalso;omega)))|fail
          · skip
            have ev : s = 1 := by omega
            subst ev
            have eB : frN [[[80,49],[80,48]],[[112,49],[112,48]],[[81,49],[81,48]],[[114,49],[114,48]]] (u : Int) l = frB u 1 l := by unfold frB; rfl
            repeat' first|(apply p3;exact a_litF (dst := some 54) eS [_,_] rfl rfl rfl rfl rfl rfl rfl rfl nowR;exact rfl)|(apply p3;exact a_litF (dst := some 55) eS [_,_] rfl rfl rfl rfl rfl rfl rfl rfl nowR;exact rfl)|(apply p3;exact a_litF (dst := some 56) eS [_,_] rfl rfl rfl rfl rfl rfl rfl rfl nowR;exact rfl)|(apply p3;exact a_litF (dst := some 57) eSL [_,_,_,_] rfl rfl rfl rfl rfl rfl rfl rfl nowR;exact rfl)|(apply p3;(exact pu1);exact rfl)|refine cdn ?_|refine g_reg (id := 13) ?_|(apply c4 0;exact callK1 (θ := []) (hD := (l15Form_ok l (u : Int) [[[80,49],[80,48]],[[112,49],[112,48]],[[81,49],[81,48]],[[114,49],[114,48]]] hl (by omega) (by omega) NfC));exact rfl;exact rfl;exact rfl;refine dM ?_)|fail
            simp only [eB]
            have hR : m.ru[(2 * (u : Int) + 1).toNat]'(by omega) = ruN m u 1 := ruN_get (by omega) (by omega) (by omega)
            repeat' first|refine cdn ?_|(apply g_drN (id := 14) okM [[],[0],[0,1],[0,1,2],[0,1,2,3],[0,1,2,3,4],[0,1],[0,1,6],[0,1],[0,1,6,7,8],[0,1,2,3,4,5,6,7,8,9],[0,1,2,3,4,5,6,7,8,9,10],[0,1],[0,1,2,3,4,5,6,7,8,9,10,11,12],[0,1,2,3,4,5,6,7,8,9,10,11,12,13]] [([],[]),([],[]),([],[]),([],[]),([],[]),([],[]),([],[]),([],[]),([],[]),([],[]),([],[]),([],[]),([],[]),([],[]),([],[])] 0;(focus (all_goals refine dp 0 0 [] [] pu1 ?_;all_goals (refine db 1 1 [] [] pu1 ?_ ?_ <;> (intro hc;first|cases hc|(try simp only [dcB] at hc);first|contradiction|(exfalso;omega)|skip));all_goals (first|refine dn 2 3 [68,69,70,71,74] [] ?_|refine dpy 2 3 [68,69,70,71,74] [] pu1 ?_);all_goals (first|refine dn 3 7 [68,69,70,71,74] [] ?_|refine dpy 3 7 [68,69,70,71,74] [] (a_pure (sv := .one _) rfl) ?_);all_goals (first|refine dn 4 15 [68,69,70,71,74] [] ?_|refine dpy 4 15 [68,69,70,71,74] [] (a_pure (sv := .one _) rfl) ?_);all_goals (first|refine dn 5 31 [68,69,70,71,74] [] ?_|refine dpy 5 31 [68,69,70,71,74] [] (by first|exact a_ldE (E := eR) 0 rfl rfl rfl (fC rfl) rfl rfl (Nat.le_of_ble_eq_true rfl) bnd rfl (by first|exact trivial|exact rfl)|exact a_ldE (E := eR) 1 rfl rfl rfl (fC rfl) rfl rfl (Nat.le_of_ble_eq_true rfl) bnd rfl (by first|exact trivial|exact rfl)|exact a_ldE (E := eR) 2 rfl rfl rfl (fC rfl) rfl rfl (Nat.le_of_ble_eq_true rfl) bnd rfl (by first|exact trivial|exact rfl)|exact puL) ?_);all_goals (first|refine dn 6 48 [64,65,66,67,70,74] [] ?_|refine dpy 6 48 [64,65,66,67,70,74] [] pu1 ?_);all_goals (first|refine dn 7 97 [64,65,66,67,70,74] [] ?_|refine dpy 7 97 [64,65,66,67,70,74] [] (by first|exact a_mulB rfl rfl (by omega) (by omega) (by omega) (by omega)|exact a_mul rfl rfl (by first|omega|assumption) (by first|omega|assumption)) ?_);all_goals (first|refine dn 8 192 [64,65,66,67,68,69,74] [] ?_|refine dpy 8 192 [64,65,66,67,68,69,74] [] pu1 ?_);all_goals (first|refine dn 9 391 [64,65,66,67,74] [] ?_|refine dpy 9 391 [64,65,66,67,74] [] (a_add rfl rfl (by omega) (by omega)) ?_);all_goals (first|refine dn 10 1023 [74] [] ?_|refine dpy 10 1023 [74] [] puI ?_);all_goals (first|refine dn 11 2047 [74] [] ?_|refine dpy 11 2047 [74] [] (by first|exact a_ldE (E := eR) 0 rfl rfl rfl (fC rfl) rfl rfl (Nat.le_of_ble_eq_true rfl) bnd rfl (by first|exact trivial|exact rfl)|exact a_ldsE (E := eR) 0 rfl rfl rfl (fA rfl) rfl rfl (Nat.le_of_ble_eq_true rfl) (Nat.le_of_ble_eq_true rfl) bnd rfl (by repeat (first|exact trivial|exact rfl|refine And.intro ?_ ?_)) rfl|exact puL) ?_);all_goals (first|refine dn 12 3072 [64,65,66,67,68,69,70,71,72,73] [] ?_|refine dpy 12 3072 [64,65,66,67,68,69,70,71,72,73] [] (callD1 (n := _) 0 (θ := []) (hD := l05None_ok)) ?_);all_goals (first|refine dn 13 8191 [] [] ?_|refine dpy 13 8191 [] [] (by first|exact a_eqRule rfl rfl|exact a_eqRule (s := ⟨_,_,_⟩) rfl rfl|exact a_eqRule (r := ⟨_,_,_⟩) rfl rfl|exact a_eqRule (r := ⟨_,_,_⟩) (s := ⟨_,_,_⟩) rfl rfl) ?_);all_goals refine dp 14 16383 [] [] (a_pure (sv := .one _) rfl) ?_;all_goals (refine d_nil ?_;refine dN ?_)));any_goals kernel_rfl)|((refine g_cond rfl (fun hc => ?_) (fun hc => ?_)) <;> (try simp only [dcB] at hc) <;> (try first|contradiction|(exfalso;omega)))|fail
            · have hr0 : ruN m u 1 = noR := by rw [← hR]; assumption
              have hok : (frB (u : Int) 1 l).2.2 = true := by assumption
              have e0 : dcQ m l u = some ⟨u,btS (frB (u : Int) 1 l).1,btS (2 * (frB (u : Int) 1 l).2.1 + 1)⟩ := by unfold dcQ; rw [if_neg hA,if_neg (z2 (by omega)),if_pos ⟨hok,hr0⟩]
              have e1 : dcS m l m.st.toNat 0 = some ⟨u,btS (frB (u : Int) 1 l).1,btS (2 * (frB (u : Int) 1 l).2.1 + 1)⟩ := by
                rw [← j2,show (m.st - (u : Int)).toNat = (m.st - (u : Int) - 1).toNat + 1 by omega,Int.toNat_natCast,dcS_c e0]
              have hbd := frB_bd (v := 1) hl hok
              simp only [Int.natCast_zero,Int.natCast_one] at hbd
              rw [e1]
              simp only [Option.getD_some,Option.isSome_some]
              repeat' first|(apply p3;(first|exact pu1|exact a_mulB rfl rfl (by omega) (by omega) (by omega) (by omega)|exact a_add rfl rfl (by omega) (by omega));exact rfl)|refine cdn ?_|refine g_reg (id := 15) ?_|(apply w3;(exact a_st_bx rfl rfl rfl rfl (fN rfl rfl) (Nat.le_of_ble_eq_true rfl) rfl);exact rfl;refine dS ?_)|(apply c4 1;exact callK1 (θ := []) (hD := (l15Side_ok _ preB205 preB205));exact rfl;exact rfl;exact rfl;refine dM ?_)|fail
              repeat refine cr ?_
              refine ends_id ?_
              refine endK [?_,?_] (h2 := ?_) (h3 := ?_) (nd := ?_)
              rotate_left 2
              all_goals (repeat' first|exact ce0|refine ce ?_|refine ce2 ?_ ?_|(refine Or.inr (bx_eq rfl rfl ?_);(try dsimp only [C.ren,C.ren.all]);(try exact rfl))|exact SVLe.refl|refine ceb ?_)
              all_goals first | exact (show nodupB _ = true from rfl) | exact Or.inr rfl | (rfl)
            · have hr0 : ¬ ruN m u 1 = noR := by rw [← hR]; assumption
              have HH : ¬ ((frB (u : Int) 1 l).2.2 = true ∧ ruN m u 1 = noR) := fun hD => hr0 hD.2
              repeat' first|(apply p3;(first|exact pu1|exact a_add rfl rfl (by omega) (by omega));exact rfl)|refine cdn ?_|refine g_reg (id := 9) ?_|fail
              refine q_again ((1 : Int) + 1) [0] (by exact stk) ?_ ?_
              · exact ⟨by omega,by omega,fun _ => z2 (by omega),fun _ hD => HH hD⟩
              · omega
            · have HH : ¬ ((frB (u : Int) 1 l).2.2 = true ∧ ruN m u 1 = noR) := fun hD => by rw [hc] at hD; cases hD.1
              repeat' first|(apply p3;(first|exact pu1|exact a_add rfl rfl (by omega) (by omega));exact rfl)|refine cdn ?_|refine g_reg (id := 9) ?_|fail
              refine q_again ((1 : Int) + 1) [0] (by exact stk) ?_ ?_
              · exact ⟨by omega,by omega,fun _ => z2 (by omega),fun _ hD => HH hD⟩
              · omega
          · skip
            have ev : s = 0 := by omega
            subst ev
            have eB : frN [[[80,48]],[[112,49],[112,48]],[[81,49],[81,48]],[[114,49],[114,48]]] (u : Int) l = frB u 0 l := by unfold frB; rfl
            repeat' first|(apply p3;exact a_litF (dst := some 54) eS [_,_] rfl rfl rfl rfl rfl rfl rfl rfl nowR;exact rfl)|(apply p3;exact a_litF (dst := some 55) eS [_,_] rfl rfl rfl rfl rfl rfl rfl rfl nowR;exact rfl)|(apply p3;exact a_litF (dst := some 56) eS [_,_] rfl rfl rfl rfl rfl rfl rfl rfl nowR;exact rfl)|(apply p3;exact a_litF (dst := some 57) eSL [_,_,_,_] rfl rfl rfl rfl rfl rfl rfl rfl nowR;exact rfl)|(apply p3;(exact pu1);exact rfl)|refine cdn ?_|refine g_reg (id := 13) ?_|(apply c4 0;exact callK1 (θ := []) (hD := (l15Form_ok l (u : Int) [[[80,48]],[[112,49],[112,48]],[[81,49],[81,48]],[[114,49],[114,48]]] hl (by omega) (by omega) NfB));exact rfl;exact rfl;exact rfl;refine dM ?_)|fail
            simp only [eB]
            have hR : m.ru[(2 * (u : Int) + 0).toNat]'(by omega) = ruN m u 0 := ruN_get (by omega) (by omega) (by omega)
            repeat' first|refine cdn ?_|(apply g_drN (id := 14) okM [[],[0],[0,1],[0,1,2],[0,1,2,3],[0,1,2,3,4],[0,1],[0,1,6],[0,1],[0,1,6,7,8],[0,1,2,3,4,5,6,7,8,9],[0,1,2,3,4,5,6,7,8,9,10],[0,1],[0,1,2,3,4,5,6,7,8,9,10,11,12],[0,1,2,3,4,5,6,7,8,9,10,11,12,13]] [([],[]),([],[]),([],[]),([],[]),([],[]),([],[]),([],[]),([],[]),([],[]),([],[]),([],[]),([],[]),([],[]),([],[]),([],[])] 0;(focus (all_goals refine dp 0 0 [] [] pu1 ?_;all_goals (refine db 1 1 [] [] pu1 ?_ ?_ <;> (intro hc;first|cases hc|(try simp only [dcB] at hc);first|contradiction|(exfalso;omega)|skip));all_goals (first|refine dn 2 3 [68,69,70,71,74] [] ?_|refine dpy 2 3 [68,69,70,71,74] [] pu1 ?_);all_goals (first|refine dn 3 7 [68,69,70,71,74] [] ?_|refine dpy 3 7 [68,69,70,71,74] [] (a_pure (sv := .one _) rfl) ?_);all_goals (first|refine dn 4 15 [68,69,70,71,74] [] ?_|refine dpy 4 15 [68,69,70,71,74] [] (a_pure (sv := .one _) rfl) ?_);all_goals (first|refine dn 5 31 [68,69,70,71,74] [] ?_|refine dpy 5 31 [68,69,70,71,74] [] (by first|exact a_ldE (E := eR) 0 rfl rfl rfl (fC rfl) rfl rfl (Nat.le_of_ble_eq_true rfl) bnd rfl (by first|exact trivial|exact rfl)|exact a_ldE (E := eR) 1 rfl rfl rfl (fC rfl) rfl rfl (Nat.le_of_ble_eq_true rfl) bnd rfl (by first|exact trivial|exact rfl)|exact a_ldE (E := eR) 2 rfl rfl rfl (fC rfl) rfl rfl (Nat.le_of_ble_eq_true rfl) bnd rfl (by first|exact trivial|exact rfl)|exact puL) ?_);all_goals (first|refine dn 6 48 [64,65,66,67,70,74] [] ?_|refine dpy 6 48 [64,65,66,67,70,74] [] pu1 ?_);all_goals (first|refine dn 7 97 [64,65,66,67,70,74] [] ?_|refine dpy 7 97 [64,65,66,67,70,74] [] (by first|exact a_mulB rfl rfl (by omega) (by omega) (by omega) (by omega)|exact a_mul rfl rfl (by first|omega|assumption) (by first|omega|assumption)) ?_);all_goals (first|refine dn 8 192 [64,65,66,67,68,69,74] [] ?_|refine dpy 8 192 [64,65,66,67,68,69,74] [] pu1 ?_);all_goals (first|refine dn 9 391 [64,65,66,67,74] [] ?_|refine dpy 9 391 [64,65,66,67,74] [] (a_add rfl rfl (by omega) (by omega)) ?_);all_goals (first|refine dn 10 1023 [74] [] ?_|refine dpy 10 1023 [74] [] puI ?_);all_goals (first|refine dn 11 2047 [74] [] ?_|refine dpy 11 2047 [74] [] (by first|exact a_ldE (E := eR) 0 rfl rfl rfl (fC rfl) rfl rfl (Nat.le_of_ble_eq_true rfl) bnd rfl (by first|exact trivial|exact rfl)|exact a_ldsE (E := eR) 0 rfl rfl rfl (fA rfl) rfl rfl (Nat.le_of_ble_eq_true rfl) (Nat.le_of_ble_eq_true rfl) bnd rfl (by repeat (first|exact trivial|exact rfl|refine And.intro ?_ ?_)) rfl|exact puL) ?_);all_goals (first|refine dn 12 3072 [64,65,66,67,68,69,70,71,72,73] [] ?_|refine dpy 12 3072 [64,65,66,67,68,69,70,71,72,73] [] (callD1 (n := _) 0 (θ := []) (hD := l05None_ok)) ?_);all_goals (first|refine dn 13 8191 [] [] ?_|refine dpy 13 8191 [] [] (by first|exact a_eqRule rfl rfl|exact a_eqRule (s := ⟨_,_,_⟩) rfl rfl|exact a_eqRule (r := ⟨_,_,_⟩) rfl rfl|exact a_eqRule (r := ⟨_,_,_⟩) (s := ⟨_,_,_⟩) rfl rfl) ?_);all_goals refine dp 14 16383 [] [] (a_pure (sv := .one _) rfl) ?_;all_goals (refine d_nil ?_;refine dN ?_)));any_goals kernel_rfl)|((refine g_cond rfl (fun hc => ?_) (fun hc => ?_)) <;> (try simp only [dcB] at hc) <;> (try first|contradiction|(exfalso;omega)))|fail
            · have hr0 : ruN m u 0 = noR := by rw [← hR]; assumption
              have hok : (frB (u : Int) 0 l).2.2 = true := by assumption
              have e0 : dcQ m l u = some ⟨u,btS (frB (u : Int) 0 l).1,btS (2 * (frB (u : Int) 0 l).2.1 + 0)⟩ := by unfold dcQ; rw [if_neg hA,if_pos ⟨hok,hr0⟩]
              have e1 : dcS m l m.st.toNat 0 = some ⟨u,btS (frB (u : Int) 0 l).1,btS (2 * (frB (u : Int) 0 l).2.1 + 0)⟩ := by
                rw [← j2,show (m.st - (u : Int)).toNat = (m.st - (u : Int) - 1).toNat + 1 by omega,Int.toNat_natCast,dcS_c e0]
              have hbd := frB_bd (v := 0) hl hok
              simp only [Int.natCast_zero,Int.natCast_one] at hbd
              rw [e1]
              simp only [Option.getD_some,Option.isSome_some]
              repeat' first|(apply p3;(first|exact pu1|exact a_mulB rfl rfl (by omega) (by omega) (by omega) (by omega)|exact a_add rfl rfl (by omega) (by omega));exact rfl)|refine cdn ?_|refine g_reg (id := 15) ?_|(apply w3;(exact a_st_bx rfl rfl rfl rfl (fN rfl rfl) (Nat.le_of_ble_eq_true rfl) rfl);exact rfl;refine dS ?_)|(apply c4 1;exact callK1 (θ := []) (hD := (l15Side_ok _ preB205 preB205));exact rfl;exact rfl;exact rfl;refine dM ?_)|fail
              repeat refine cr ?_
              refine ends_id ?_
              refine endK [?_,?_] (h2 := ?_) (h3 := ?_) (nd := ?_)
              rotate_left 2
              all_goals (repeat' first|exact ce0|refine ce ?_|refine ce2 ?_ ?_|(refine Or.inr (bx_eq rfl rfl ?_);(try dsimp only [C.ren,C.ren.all]);(try exact rfl))|exact SVLe.refl|refine ceb ?_)
              all_goals first | exact (show nodupB _ = true from rfl) | exact Or.inr rfl | (rfl)
            · have hr0 : ¬ ruN m u 0 = noR := by rw [← hR]; assumption
              have HH : ¬ ((frB (u : Int) 0 l).2.2 = true ∧ ruN m u 0 = noR) := fun hD => hr0 hD.2
              repeat' first|(apply p3;(first|exact pu1|exact a_add rfl rfl (by omega) (by omega));exact rfl)|refine cdn ?_|refine g_reg (id := 9) ?_|fail
              refine q_again ((0 : Int) + 1) [0] (by exact stk) ?_ ?_
              · exact ⟨by omega,by omega,fun _ hD => HH hD,fun h => absurd h (by omega)⟩
              · omega
            · have HH : ¬ ((frB (u : Int) 0 l).2.2 = true ∧ ruN m u 0 = noR) := fun hD => by rw [hc] at hD; cases hD.1
              repeat' first|(apply p3;(first|exact pu1|exact a_add rfl rfl (by omega) (by omega));exact rfl)|refine cdn ?_|refine g_reg (id := 9) ?_|fail
              refine q_again ((0 : Int) + 1) [0] (by exact stk) ?_ ?_
              · exact ⟨by omega,by omega,fun _ hD => HH hD,fun h => absurd h (by omega)⟩
              · omega
          · have e0 : dcQ m l u = none := by unfold dcQ; rw [if_neg hA,if_neg (z2 (by omega)),if_neg (z3 (by omega))]
            rw [show (m.st - (u : Int)).toNat = (m.st - (u : Int) - 1).toNat + 1 by omega,Int.toNat_natCast,dcS_n e0] at j2
            skip
            refine q_again ((u : Int) + 1) [0] (by exact stk) ?_ ?_
            · exact ⟨by omega,by omega,by rw [← j2,show (m.st - ((u : Int) + 1)).toNat = (m.st - (u : Int) - 1).toNat by omega,show ((u : Int) + 1).toNat = u + 1 by omega]⟩
            · omega
    · rw [show (m.st - q).toNat = 0 by omega,dcS_0] at j2
      rw [← j2]
      skip
      simp only [setRow,scC,List.map_cons,List.map_nil,List.set_cons_zero,List.set_cons_succ,Nat.zero_add,List.getElem?_cons_zero,List.getElem?_cons_succ,List.take_succ_cons,List.take_zero,List.drop_zero,List.cons_append,List.nil_append,List.drop_succ_cons,List.drop_nil,List.append_nil,List.append_eq]
      refine g_conv (t_nilB (i := 0) (k := 1) (z := 1) rfl rfl rfl (by decide)) ?_
      try dsimp only [setRow,List.map_cons,List.map_nil,scC,List.set_cons_zero,List.set_cons_succ,Nat.reduceAdd]
      refine g_conv (t_nilB (i := 0) (k := 2) (z := 1) rfl rfl rfl (by decide)) ?_
      try dsimp only [setRow,List.map_cons,List.map_nil,scC,List.set_cons_zero,List.set_cons_succ,Nat.reduceAdd]
      repeat refine cr ?_
      refine ends_id ?_
      refine endK [?_,?_] (h2 := ?_) (h3 := ?_) (nd := ?_)
      rotate_left 2
      all_goals (repeat' first|exact ce0|refine ce ?_|refine ce2 ?_ ?_|(refine Or.inr (bx_eq rfl rfl ?_);(try dsimp only [C.ren,C.ren.all]);(try exact rfl))|exact SVLe.refl|refine ceb ?_)
      all_goals first | exact (show nodupB _ = true from rfl) | exact Or.inr rfl | (rfl)
end Go.Proofs.YtjmlbmmbionmcaaGreatDoor
end
section
set_option linter.unusedVariables false
set_option linter.unusedSimpArgs false
set_option maxRecDepth 100000
set_option maxHeartbeats 1000000
namespace Go.Proofs.YtjmlbmmbionmcaaGreatDoor
open Go Foot Go.RowKit
@[irreducible] def enO (m : Mach) (c : Conf) : Option (List Int) := if m.st ≤ 6 then (bif nmB c.le && nmB c.ri then (if 4 + 2 * (nmV c.le + nmV c.ri) ≤ 1000 then some (shA c.st (nmV c.le).toNat (nmV c.ri).toNat) else none) else none) else none
@[irreducible] def rwS (q a b : Int) : List Int := if 1000 < a + b then [] else shA q a.toNat b.toNat
theorem preB206 {p : Prop} (h : p := by first | with_reducible assumption | omega | (simp only [List.length_append,List.length_cons,List.length_nil,List.length_set,List.length_replicate,List.length_take,List.length_drop,List.length_tail,List.length_dropLast,List.length_reverse] at *; omega) | exact mem_len (by assumption) (by omega) | (with_reducible refine Int.le_trans (Int.ofNat_le.2 (trimR_len _)) ?_; simp only [List.length_cons,List.length_tail]; omega) | (exact (ruAt_ok (by assumption) (by assumption) (by assumption)).2.1) | (exact (ruAt_ok (by assumption) (by assumption) (by assumption)).2.1) | (have := vMach_bd (by assumption); omega) | (simp only [List.length_append,List.length_cons,List.length_nil,repW_len,seN_len] at *; omega) | (simp only [mC_ch,mC_tu]; omega) | (have := vTag_bd (by assumption); omega) | (have := (‹Gd _ _›).le; omega) | (exact tgHalts_no (by assumption)) | (exact tgHead (by assumption) (by assumption) (by assumption)) | (exact Int.le_trans (tgStep_gd (by assumption) (by assumption) (by assumption) (by assumption)).le (by decide)) | (exact vTag_r (by assumption)) | (with_reducible refine Int.le_trans (Int.ofNat_le.2 (pushL_len _ _)) ?_; simp only [List.length_dropLast]; omega) | exact ls_at (by assumption) (by omega) | exact pt_gd (by assumption) | exact lv_at (by assumption) (by omega) | exact pt_gd (lv_at (by assumption) (by omega)) | exact (ask_ok (by assumption)).1 | exact (ask_ok (by assumption)).2.1 | exact (ask_ok (by assumption)).2.2.1 | exact (ask_ok (by assumption)).2.2.2 | trivial) : p := h
theorem l15Row_ok (q a b : Int) (h0 : 0 ≤ q) (h1 : q ≤ 1000) (ha : 0 ≤ a) (ha2 : a ≤ 1000000000000) (hb : 0 ≤ b) (hb2 : b ≤ 1000000000000) : Does Tryz.prog 82 [.one (int q),.one (int a),.one (int b)] [] (.tup [(false,[.gv 0]),(false,[boo (decide (4 + 2 * (a + b) ≤ 1000))])]) [roI (rwS q a b)] := by
  have e : rwS q a b = if 1000 < a + b then [] else shA q a.toNat b.toNat := by unfold rwS; rfl
  rw [e]
  have lA : (wdN [[65],[120]] q).length = 2 := by rw [wdN_len]; rfl
  have la : (wdN [[97],[120]] q).length = 2 := by rw [wdN_len]; rfl
  have lB : (wdN [[66],[120]] q).length = 2 := by rw [wdN_len]; rfl
  have lb : (wdN [[98],[120]] q).length = 2 := by rw [wdN_len]; rfl
  by_cases h : 1000 < a + b
  · rw [if_pos h,decide_eq_false (by omega)]
    refine does_of (k := 0) Tryz.func82 rfl Tryz.ntmps82 rfl rfl fun w F0 S0 ρ0 => ?_
    dsimp only [argT,argH]
    repeat' first|(apply n3;exact a_nilO eI rfl;exact rfl)|(apply p3;(first|exact pu1|exact a_add rfl rfl (by omega) (by omega)|exact puC);exact rfl)|refine cd ?_|((refine g_cond rfl (fun hc => ?_) (fun hc => ?_)) <;> (try simp only [dcB] at hc) <;> (try first|contradiction|(exfalso;omega)))|fail
    repeat refine cr ?_
    refine ends_id ?_
    refine endK [?_] (h2 := ?_) (h3 := ?_) (nd := ?_)
    rotate_left 1
    all_goals (repeat' first|exact ce0|refine ce ?_|refine ce2 ?_ ?_|(refine Or.inr (bx_eq rfl rfl ?_);(try dsimp only [C.ren,C.ren.all]);(try exact rfl))|exact SVLe.refl|refine ceb ?_)
    all_goals first | exact (show nodupB _ = true from rfl) | exact Or.inr rfl | (rfl)
  · rw [if_neg h]
    have hsA := shA_len q a.toNat b.toNat
    have hf : shA q a.toNat b.toNat = wdN [[65],[120]] q ++ repW (wdN [[97],[120]] q) a.toNat ++ wdN [[66],[120]] q ++ repW (wdN [[98],[120]] q) b.toNat := by unfold shA shF; rfl
    rw [hf] at hsA ⊢
    have r1 := repW_len (wdN [[97],[120]] q) a.toNat
    rw [la] at r1
    have r2 := repW_len (wdN [[98],[120]] q) b.toNat
    rw [lb] at r2
    rw [show decide (4 + 2 * (a + b) ≤ 1000) = decide ((((wdN [[65],[120]] q ++ repW (wdN [[97],[120]] q) a.toNat ++ wdN [[66],[120]] q ++ repW (wdN [[98],[120]] q) b.toNat).length : Nat) : Int) ≤ 1000) from decide_eq_decide.2 (by rw [hsA]; omega)]
    refine does_of (k := 0) Tryz.func82 rfl Tryz.ntmps82 rfl rfl fun w F0 S0 ρ0 => ?_
    dsimp only [argT,argH]
    repeat' first|(apply n3;exact a_nilO eI rfl;exact rfl)|(apply n3;(exact a_litE eS [_,_] rfl rfl rfl rfl rfl rfl rfl rfl);exact rfl;refine dA ?_)|(apply p3;(first|exact pu1|exact a_add rfl rfl (by omega) (by omega)|exact puC|exact puN);exact rfl)|refine cd ?_|(apply s3;exact a_appE (fP rfl) rfl rfl rfl rfl nowR (by first|omega|(simp <;> omega)) (by decide) (by decide) (by exact rfl);exact rfl;exact rfl)|(apply c4 1;exact callK1 (θ := []) (hD := (l15Word_ok _ _ preB206 preB206 preB206));exact rfl;exact rfl;exact rfl;refine dM ?_)|(apply c4 1;exact callK1 (θ := []) (hD := (l03Power_ok _ _ preB206 preB206 preB206));exact rfl;exact rfl;exact rfl;refine dM ?_)|((refine g_cond rfl (fun hc => ?_) (fun hc => ?_)) <;> (try simp only [dcB] at hc) <;> (try first|contradiction|(exfalso;omega)))|fail
    repeat refine cr ?_
    refine ends_id ?_
    refine endK [?_] (h2 := ?_) (h3 := ?_) (nd := ?_)
    rotate_left 1
    all_goals (repeat' first|exact ce0|refine ce ?_|refine ce2 ?_ ?_|(refine Or.inr (bx_eq rfl rfl ?_);(try dsimp only [C.ren,C.ren.all]);(try exact rfl))|exact SVLe.refl|refine ceb ?_)
    all_goals first | exact (show nodupB _ = true from rfl) | exact Or.inr rfl | (rfl)
theorem vConf_bits {m : Mach} {c : Conf} (hy : m.sy = 2) (h : vConf m c = true) : (∀ x ∈ c.le,0 ≤ x ∧ x ≤ 1) ∧ (∀ x ∈ c.ri,0 ≤ x ∧ x ≤ 1) ∧ (c.le.length : Int) ≤ 200 ∧ (c.ri.length : Int) ≤ 200 ∧ 0 ≤ c.st ∧ c.st ≤ m.st - 1 := by
  obtain ⟨h1,h2,h3⟩ := vConf_bd h
  have a := vSide_bd h2
  have b := vSide_bd h3
  exact ⟨fun x hx => by have := a.2.1 x hx; omega,fun x hx => by have := b.2.1 x hx; omega,a.1,b.1,h1.1,h1.2⟩
theorem nmV_bd {l : List Int} (hb : ∀ x ∈ l,0 ≤ x ∧ x ≤ 1) : 0 ≤ nmV l ∧ nmV l ≤ 1000000000000 := by
  cases h : nmO l with
  | none => rw [nmV_none h]; decide
  | some n => rw [nmV_some h]; exact nmO_bd hb h
theorem tagWordOf_ok (m : Mach) (c : Conf) (hv : vMach m = true) (hy : m.sy = 2) (hc : vConf m c = true) : Does Tryz.prog 42 [.agg (maC m),.agg (coC c)] [] (.tup [(false,[.gv 0]),(false,[int (bif (enO m c).isSome then 0 else 5)])]) [roI ((enO m c).getD [])] := by
  obtain ⟨b1,b2,b3,b4,b5,b6⟩ := vConf_bits hy hc
  have v1 := nmV_bd b1
  have v2 := nmV_bd b2
  have hb := vMach_bd hv
  have e : enO m c = if m.st ≤ 6 then (bif nmB c.le && nmB c.ri then (if 4 + 2 * (nmV c.le + nmV c.ri) ≤ 1000 then some (shA c.st (nmV c.le).toNat (nmV c.ri).toNat) else none) else none) else none := by unfold enO; rfl
  by_cases hs : m.st ≤ 6
  · rw [if_pos hs] at e
    cases hn : nmB c.le && nmB c.ri with
    | false =>
      rw [hn,cond_false] at e
      rw [e]
      refine does_of (k := 0) Tryz.func42 rfl Tryz.ntmps42 rfl rfl fun w F0 S0 ρ0 => ?_
      dsimp only [argT,argH]
      repeat' first|(apply n3;exact a_nilO eI rfl;exact rfl)|(apply n3;exact a_new (gb := .bx _) rfl;exact rfl;refine dA ?_)|(apply p3;(exact pu1);exact rfl)|refine cdn ?_|refine g_reg (id := 0) ?_|refine g_reg (id := 1) ?_|(apply w3;exact a_st_bx rfl rfl rfl rfl (fN rfl rfl) (Nat.le_of_ble_eq_true rfl) rfl;exact rfl;refine dS ?_)|(apply c4 2;exact callK0 (θ := []) (hD := (tagOfMachine_ok _ preB206 preB206));exact rfl;exact rfl;exact rfl;refine dM ?_)|fail
      simp only [if_pos hs]
      repeat' first|(apply p3;(first|exact pu1|exact a_ne rfl rfl);exact rfl)|refine cdn ?_|refine g_reg (id := 2) ?_|refine g_reg (id := 4) ?_|(apply c4 0;exact callK1 (θ := []) (hD := (numbersOf_ok _ preB206 preB206 preB206 preB206));exact rfl;exact rfl;exact rfl;refine dM ?_)|fail
      simp only [hn,cond_false,Option.isSome_none,Option.getD_none]
      repeat' first|(apply n3;exact a_nilO eI rfl;exact rfl)|(apply p3;(first|exact pu1|exact a_ne rfl rfl);exact rfl)|refine cd ?_|refine o_no rfl rfl rfl rfl ?_|fail
      repeat refine cr ?_
      refine ends_id ?_
      refine endK [?_] (h2 := ?_) (h3 := ?_) (nd := ?_)
      rotate_left 1
      all_goals (repeat' first|exact ce0|refine ce ?_|refine ce2 ?_ ?_|(refine Or.inr (bx_eq rfl rfl ?_);(try dsimp only [C.ren,C.ren.all]);(try exact rfl))|exact SVLe.refl|refine ceb ?_)
      all_goals first | exact (show nodupB _ = true from rfl) | exact Or.inr rfl | (rfl)
    | true =>
      rw [hn,cond_true] at e
      by_cases hl : 4 + 2 * (nmV c.le + nmV c.ri) ≤ 1000
      · rw [if_pos hl] at e
        rw [e]
        refine does_of (k := 0) Tryz.func42 rfl Tryz.ntmps42 rfl rfl fun w F0 S0 ρ0 => ?_
        dsimp only [argT,argH]
        repeat' first|(apply n3;exact a_nilO eI rfl;exact rfl)|(apply n3;exact a_new (gb := .bx _) rfl;exact rfl;refine dA ?_)|(apply p3;(exact pu1);exact rfl)|refine cdn ?_|refine g_reg (id := 0) ?_|refine g_reg (id := 1) ?_|(apply w3;exact a_st_bx rfl rfl rfl rfl (fN rfl rfl) (Nat.le_of_ble_eq_true rfl) rfl;exact rfl;refine dS ?_)|(apply c4 2;exact callK0 (θ := []) (hD := (tagOfMachine_ok _ preB206 preB206));exact rfl;exact rfl;exact rfl;refine dM ?_)|fail
        simp only [if_pos hs]
        repeat' first|(apply p3;(first|exact pu1|exact a_ne rfl rfl);exact rfl)|refine cdn ?_|refine g_reg (id := 2) ?_|refine g_reg (id := 4) ?_|(apply c4 0;exact callK1 (θ := []) (hD := (numbersOf_ok _ preB206 preB206 preB206 preB206));exact rfl;exact rfl;exact rfl;refine dM ?_)|fail
        simp only [hn,cond_true,Option.isSome_some,Option.getD_some]
        repeat' first|(apply p3;(first|exact pu1|exact a_ne rfl rfl);exact rfl)|refine cd ?_|(apply c4 1;exact callK1 (θ := []) (hD := (shownWord_ok c.st (nmV c.le) (nmV c.ri) (by omega) (by omega) (by omega) (by omega) (by omega) (by omega)));exact rfl;exact rfl;exact rfl;refine dM ?_)|(apply py3;exact rfl;exact rfl;(first|exact pu1|exact a_add rfl rfl (by omega) (by omega)|exact a_mulB rfl rfl (by omega) (by omega) (by omega) (by omega)|exact puC);exact rfl;exact rfl)|((refine g_cond rfl (fun hc => ?_) (fun hc => ?_)) <;> (try simp only [dcB] at hc) <;> (try first|contradiction|(exfalso;omega)))|fail
        repeat refine cr ?_
        refine ends_id ?_
        refine endK [?_] (h2 := ?_) (h3 := ?_) (nd := ?_)
        rotate_left 1
        all_goals (repeat' first|exact ce0|refine ce ?_|refine ce2 ?_ ?_|(refine Or.inr (bx_eq rfl rfl ?_);(try dsimp only [C.ren,C.ren.all]);(try exact rfl))|exact SVLe.refl|refine ceb ?_)
        all_goals first | exact (show nodupB _ = true from rfl) | exact Or.inr rfl | (rfl)
      · rw [if_neg hl] at e
        rw [e]
        refine does_of (k := 0) Tryz.func42 rfl Tryz.ntmps42 rfl rfl fun w F0 S0 ρ0 => ?_
        dsimp only [argT,argH]
        repeat' first|(apply n3;exact a_nilO eI rfl;exact rfl)|(apply n3;exact a_new (gb := .bx _) rfl;exact rfl;refine dA ?_)|(apply p3;(exact pu1);exact rfl)|refine cdn ?_|refine g_reg (id := 0) ?_|refine g_reg (id := 1) ?_|(apply w3;exact a_st_bx rfl rfl rfl rfl (fN rfl rfl) (Nat.le_of_ble_eq_true rfl) rfl;exact rfl;refine dS ?_)|(apply c4 2;exact callK0 (θ := []) (hD := (tagOfMachine_ok _ preB206 preB206));exact rfl;exact rfl;exact rfl;refine dM ?_)|fail
        simp only [if_pos hs]
        repeat' first|(apply p3;(first|exact pu1|exact a_ne rfl rfl);exact rfl)|refine cdn ?_|refine g_reg (id := 2) ?_|refine g_reg (id := 4) ?_|(apply c4 0;exact callK1 (θ := []) (hD := (numbersOf_ok _ preB206 preB206 preB206 preB206));exact rfl;exact rfl;exact rfl;refine dM ?_)|fail
        simp only [hn,cond_true,cond_false,Option.isSome_none,Option.getD_none]
        repeat' first|(apply n3;exact a_nilO eI rfl;exact rfl)|(apply p3;(first|exact pu1|exact a_ne rfl rfl);exact rfl)|refine cd ?_|(apply py3;exact rfl;exact rfl;(first|exact pu1|exact a_add rfl rfl (by omega) (by omega)|exact a_mul rfl rfl (by first|omega|assumption) (by first|omega|assumption)|exact puC);exact rfl;exact rfl)|((refine g_cond rfl (fun hc => ?_) (fun hc => ?_)) <;> (try simp only [dcB] at hc) <;> (try first|contradiction|(exfalso;omega)))|fail
        repeat refine cr ?_
        refine ends_id ?_
        refine endK [?_] (h2 := ?_) (h3 := ?_) (nd := ?_)
        rotate_left 1
        all_goals (repeat' first|exact ce0|refine ce ?_|refine ce2 ?_ ?_|(refine Or.inr (bx_eq rfl rfl ?_);(try dsimp only [C.ren,C.ren.all]);(try exact rfl))|exact SVLe.refl|refine ceb ?_)
        all_goals first | exact (show nodupB _ = true from rfl) | exact Or.inr rfl | (rfl)
  · rw [if_neg hs] at e
    rw [e]
    refine does_of (k := 0) Tryz.func42 rfl Tryz.ntmps42 rfl rfl fun w F0 S0 ρ0 => ?_
    dsimp only [argT,argH]
    repeat' first|(apply n3;exact a_nilO eI rfl;exact rfl)|(apply n3;exact a_new (gb := .bx _) rfl;exact rfl;refine dA ?_)|(apply p3;(exact pu1);exact rfl)|refine cdn ?_|refine g_reg (id := 0) ?_|refine g_reg (id := 1) ?_|(apply w3;exact a_st_bx rfl rfl rfl rfl (fN rfl rfl) (Nat.le_of_ble_eq_true rfl) rfl;exact rfl;refine dS ?_)|(apply c4 2;exact callK0 (θ := []) (hD := (tagOfMachine_ok _ preB206 preB206));exact rfl;exact rfl;exact rfl;refine dM ?_)|fail
    simp only [if_neg hs,Option.isSome_none,Option.getD_none,cond_false]
    repeat' first|(apply n3;exact a_nilO eI rfl;exact rfl)|(apply p3;(first|exact pu1|exact a_ne rfl rfl);exact rfl)|refine cd ?_|fail
    repeat refine cr ?_
    refine ends_id ?_
    refine endK [?_] (h2 := ?_) (h3 := ?_) (nd := ?_)
    rotate_left 1
    all_goals (repeat' first|exact ce0|refine ce ?_|refine ce2 ?_ ?_|(refine Or.inr (bx_eq rfl rfl ?_);(try dsimp only [C.ren,C.ren.all]);(try exact rfl))|exact SVLe.refl|refine ceb ?_)
    all_goals first | exact (show nodupB _ = true from rfl) | exact Or.inr rfl | (rfl)
theorem TagWordOf_ok (m : Mach) (c : Conf) (hm : (m.ru.length : Int) ≤ 16777216) (hx : (c.le.length : Int) ≤ 16777216) (hy : (c.ri.length : Int) ≤ 16777216) (hv : vMach m = true) (hs : m.sy = 2) (hc : vConf m c = true) : Does Tryz.prog 55 [.agg (maC m),.agg (coC c)] [] (.tup [(false,[.gv 0]),(false,[int (bif (enO m c).isSome then 0 else 5)])]) [roI ((enO m c).getD [])] := by
  have hvc : (vMach m && vConf m c) = true := by rw [hv,hc]; rfl
  refine does_of (k := 0) Tryz.func55 rfl Tryz.ntmps55 rfl rfl fun w F0 S0 ρ0 => ?_
  dsimp only [argT,argH]
  repeat' first|(apply n3;exact a_nilO eI rfl;exact rfl)|(apply n3;exact a_new (gb := .bx _) rfl;exact rfl;refine dA ?_)|(apply p3;exact a_pure (sv := .one _) rfl;exact rfl)|refine cdn ?_|refine g_reg (id := 0) ?_|(apply g_drN (id := 1) okM [[],[],[],[1,2],[0,1,2,3],[0,1,2,3,4]] [([],[]),([],[]),([],[]),([],[]),([],[]),([],[])] 0;(focus (refine dp 0 0 [8,9,10] [] puL ?_;refine dp 1 0 [7,9] [] puL ?_;refine dp 2 0 [7,8] [] puL ?_;refine dp 3 3 [7] [] (callD1 (n := _) 0 (θ := []) (hD := (ValidConfig_ok _ _ preB206 preB206 preB206))) ?_;refine dp 4 15 [] [] (callD1 (n := _) 0 (θ := []) (hD := (binaryCode_ok _ _))) ?_;refine dp 5 31 [] [] pu1 ?_;(refine d_nil ?_;refine dN ?_)));any_goals kernel_rfl)|fail
  simp only [hvc,cond_true,if_pos hs]
  repeat' first|(apply p3;(first|exact pu1|exact a_ne rfl rfl);exact rfl)|refine cd ?_|(apply c4 1;exact callK1 (θ := []) (hD := (tagWordOf_ok _ _ preB206 preB206 preB206));exact rfl;exact rfl;exact rfl;refine dM ?_)|fail
  repeat refine cr ?_
  refine ends_id ?_
  refine endK [?_] (h2 := ?_) (h3 := ?_) (nd := ?_)
  rotate_left 1
  all_goals (repeat' first|exact ce0|refine ce ?_|refine ce2 ?_ ?_|(refine Or.inr (bx_eq rfl rfl ?_);(try dsimp only [C.ren,C.ren.all]);(try exact rfl))|exact SVLe.refl|refine ceb ?_)
  all_goals first | exact (show nodupB _ = true from rfl) | exact Or.inr rfl | (rfl)
theorem l15Encode_ok (m : Mach) (c : Conf) (hv : vMach m = true) (hy : m.sy = 2) (hc : vConf m c = true) : Does Tryz.prog 34 [.one (maB m),.one (coB c)] [] (.tup [(true,[int 2,.gv 0,.gv 1]),(false,[.gv 2]),(false,[boo (enO m c).isSome])]) [roW (tmY m).wo,roI (tmY m).ha,roI (bif decide (m.st ≤ 6) && (nmB c.le && nmB c.ri) then rwS c.st (nmV c.le) (nmV c.ri) else [])] := by
  obtain ⟨b1,b2,b3,b4,b5,b6⟩ := vConf_bits hy hc
  have v1 := nmV_bd b1
  have v2 := nmV_bd b2
  have hb := vMach_bd hv
  have e : enO m c = if m.st ≤ 6 then (bif nmB c.le && nmB c.ri then (if 4 + 2 * (nmV c.le + nmV c.ri) ≤ 1000 then some (shA c.st (nmV c.le).toNat (nmV c.ri).toNat) else none) else none) else none := by unfold enO; rfl
  by_cases hs : m.st ≤ 6
  · rw [if_pos hs] at e
    cases hn1 : nmB c.le with
    | false =>
      rw [hn1,Bool.false_and,cond_false] at e
      rw [e]
      refine does_of (k := 0) Tryz.func34 rfl Tryz.ntmps34 rfl rfl fun w F0 S0 ρ0 => ?_
      dsimp only [argT,argH]
      repeat' first|(apply n3;exact a_nilO eI rfl;exact rfl)|(apply n3;exact a_new (gb := .bx _) rfl;exact rfl;refine dA ?_)|(apply p3;(exact pu1);exact rfl)|refine cdn ?_|refine g_reg (id := 0) ?_|refine g_reg (id := 1) ?_|refine g_reg (id := 2) ?_|refine g_reg (id := 3) ?_|(apply w3;exact a_st_bx rfl rfl rfl rfl (fN rfl rfl) (Nat.le_of_ble_eq_true rfl) rfl;exact rfl;refine dS ?_)|(apply c4 2;exact callK0 (θ := []) (hD := (l15Make_ok _ preB206 preB206));exact rfl;exact rfl;exact rfl;refine dM ?_)|(apply c4 0;exact callK1 (θ := []) (hD := (l15Number_ok _ preB206 preB206));exact rfl;exact rfl;exact rfl;refine dM ?_)|fail
      simp only [hn1,decide_eq_true hs,Bool.false_and,Bool.and_false,cond_false,Option.isSome_none]
      repeat' first|(apply n3;exact a_nilO eI rfl;exact rfl)|(apply p3;(exact pu1);exact rfl)|refine cd ?_|(apply w3;exact a_st_bx rfl rfl rfl rfl (fN rfl rfl) (Nat.le_of_ble_eq_true rfl) rfl;exact rfl;refine dS ?_)|refine o_no rfl rfl rfl rfl ?_|(apply py3;exact rfl;exact rfl;(exact pu1);exact rfl;exact rfl)|fail
      repeat refine cr ?_
      refine ends_id ?_
      refine endK [?_,?_,?_] (h2 := ?_) (h3 := ?_) (nd := ?_)
      rotate_left 3
      all_goals (repeat' first|exact ce0|refine ce ?_|refine ce2 ?_ ?_|(refine Or.inr (bx_eq rfl rfl ?_);(try dsimp only [C.ren,C.ren.all]);(try exact rfl))|exact SVLe.refl|refine ceb ?_)
      all_goals first | exact (show nodupB _ = true from rfl) | exact Or.inr rfl | (rfl)
    | true =>
      cases hn2 : nmB c.ri with
      | false =>
        rw [hn1,hn2,Bool.and_false,cond_false] at e
        rw [e]
        refine does_of (k := 0) Tryz.func34 rfl Tryz.ntmps34 rfl rfl fun w F0 S0 ρ0 => ?_
        dsimp only [argT,argH]
        repeat' first|(apply n3;exact a_nilO eI rfl;exact rfl)|(apply n3;exact a_new (gb := .bx _) rfl;exact rfl;refine dA ?_)|(apply p3;(exact pu1);exact rfl)|refine cdn ?_|refine g_reg (id := 0) ?_|refine g_reg (id := 1) ?_|refine g_reg (id := 2) ?_|refine g_reg (id := 3) ?_|(apply w3;exact a_st_bx rfl rfl rfl rfl (fN rfl rfl) (Nat.le_of_ble_eq_true rfl) rfl;exact rfl;refine dS ?_)|(apply c4 2;exact callK0 (θ := []) (hD := (l15Make_ok _ preB206 preB206));exact rfl;exact rfl;exact rfl;refine dM ?_)|(apply c4 0;exact callK1 (θ := []) (hD := (l15Number_ok _ preB206 preB206));exact rfl;exact rfl;exact rfl;refine dM ?_)|fail
        simp only [hn1,hn2,decide_eq_true hs,Bool.false_and,Bool.and_false,cond_false,Option.isSome_none]
        repeat' first|(apply n3;exact a_nilO eI rfl;exact rfl)|(apply p3;(exact pu1);exact rfl)|refine cd ?_|(apply w3;exact a_st_bx rfl rfl rfl rfl (fN rfl rfl) (Nat.le_of_ble_eq_true rfl) rfl;exact rfl;refine dS ?_)|(apply py3;exact rfl;exact rfl;(exact pu1);exact rfl;exact rfl)|fail
        repeat refine cr ?_
        refine ends_id ?_
        refine endK [?_,?_,?_] (h2 := ?_) (h3 := ?_) (nd := ?_)
        rotate_left 3
        all_goals (repeat' first|exact ce0|refine ce ?_|refine ce2 ?_ ?_|(refine Or.inr (bx_eq rfl rfl ?_);(try dsimp only [C.ren,C.ren.all]);(try exact rfl))|exact SVLe.refl|refine ceb ?_)
        all_goals first | exact (show nodupB _ = true from rfl) | exact Or.inr rfl | (rfl)
      | true =>
        rw [hn1,hn2,Bool.and_true,cond_true] at e
        have e2 : (enO m c).isSome = decide (4 + 2 * (nmV c.le + nmV c.ri) ≤ 1000) := by
          rw [e]
          by_cases hl : 4 + 2 * (nmV c.le + nmV c.ri) ≤ 1000
          · rw [if_pos hl,decide_eq_true hl]; rfl
          · rw [if_neg hl,decide_eq_false hl]; rfl
        rw [e2]
        refine does_of (k := 0) Tryz.func34 rfl Tryz.ntmps34 rfl rfl fun w F0 S0 ρ0 => ?_
        dsimp only [argT,argH]
        repeat' first|(apply n3;exact a_nilO eI rfl;exact rfl)|(apply n3;exact a_new (gb := .bx _) rfl;exact rfl;refine dA ?_)|(apply p3;(exact pu1);exact rfl)|refine cdn ?_|refine g_reg (id := 0) ?_|refine g_reg (id := 1) ?_|refine g_reg (id := 2) ?_|refine g_reg (id := 3) ?_|(apply w3;exact a_st_bx rfl rfl rfl rfl (fN rfl rfl) (Nat.le_of_ble_eq_true rfl) rfl;exact rfl;refine dS ?_)|(apply c4 2;exact callK0 (θ := []) (hD := (l15Make_ok _ preB206 preB206));exact rfl;exact rfl;exact rfl;refine dM ?_)|(apply c4 0;exact callK1 (θ := []) (hD := (l15Number_ok _ preB206 preB206));exact rfl;exact rfl;exact rfl;refine dM ?_)|fail
        simp only [hn1,hn2,decide_eq_true hs,Bool.true_and,Bool.and_true,cond_true]
        repeat' first|(apply p3;(exact pu1);exact rfl)|refine cd ?_|(apply w3;exact a_st_bx rfl rfl rfl rfl (fN rfl rfl) (Nat.le_of_ble_eq_true rfl) rfl;exact rfl;refine dS ?_)|(apply c4 1;exact callK1 (θ := []) (hD := (l15Row_ok _ _ _ preB206 preB206 preB206 preB206 preB206 preB206));exact rfl;exact rfl;exact rfl;refine dM ?_)|(apply py3;exact rfl;exact rfl;(exact pu1);exact rfl;exact rfl)|fail
        repeat refine cr ?_
        refine ends_id ?_
        refine endK [?_,?_,?_] (h2 := ?_) (h3 := ?_) (nd := ?_)
        rotate_left 3
        all_goals (repeat' first|exact ce0|refine ce ?_|refine ce2 ?_ ?_|(refine Or.inr (bx_eq rfl rfl ?_);(try dsimp only [C.ren,C.ren.all]);(try exact rfl))|exact SVLe.refl|refine ceb ?_)
        all_goals first | exact (show nodupB _ = true from rfl) | exact Or.inr rfl | (rfl)
  · rw [if_neg hs] at e
    rw [e]
    refine does_of (k := 0) Tryz.func34 rfl Tryz.ntmps34 rfl rfl fun w F0 S0 ρ0 => ?_
    dsimp only [argT,argH]
    repeat' first|(apply n3;exact a_nilO eI rfl;exact rfl)|(apply n3;exact a_new (gb := .bx _) rfl;exact rfl;refine dA ?_)|(apply p3;(exact pu1);exact rfl)|refine cdn ?_|refine g_reg (id := 0) ?_|refine g_reg (id := 1) ?_|refine g_reg (id := 2) ?_|refine g_reg (id := 3) ?_|(apply w3;exact a_st_bx rfl rfl rfl rfl (fN rfl rfl) (Nat.le_of_ble_eq_true rfl) rfl;exact rfl;refine dS ?_)|(apply c4 2;exact callK0 (θ := []) (hD := (l15Make_ok _ preB206 preB206));exact rfl;exact rfl;exact rfl;refine dM ?_)|(apply c4 0;exact callK1 (θ := []) (hD := (l15Number_ok _ preB206 preB206));exact rfl;exact rfl;exact rfl;refine dM ?_)|fail
    simp only [decide_eq_false hs,Bool.false_and,cond_false,Option.isSome_none]
    repeat' first|(apply n3;exact a_nilO eI rfl;exact rfl)|(apply p3;(exact pu1);exact rfl)|refine cd ?_|(apply w3;exact a_st_bx rfl rfl rfl rfl (fN rfl rfl) (Nat.le_of_ble_eq_true rfl) rfl;exact rfl;refine dS ?_)|refine o_no rfl rfl rfl rfl ?_|fail
    repeat refine cr ?_
    refine ends_id ?_
    refine endK [?_,?_,?_] (h2 := ?_) (h3 := ?_) (nd := ?_)
    rotate_left 3
    all_goals (repeat' first|exact ce0|refine ce ?_|refine ce2 ?_ ?_|(refine Or.inr (bx_eq rfl rfl ?_);(try dsimp only [C.ren,C.ren.all]);(try exact rfl))|exact SVLe.refl|refine ceb ?_)
    all_goals first | exact (show nodupB _ = true from rfl) | exact Or.inr rfl | (rfl)
end Go.Proofs.YtjmlbmmbionmcaaGreatDoor
end
section
set_option linter.unusedVariables false
set_option linter.unusedSimpArgs false
set_option maxRecDepth 100000
set_option maxHeartbeats 4000000
namespace Go.Proofs.YtjmlbmmbionmcaaGreatDoor
open Go Foot
end Go.Proofs.YtjmlbmmbionmcaaGreatDoor
end
section
set_option linter.unusedVariables false
set_option linter.unusedSimpArgs false
set_option maxRecDepth 100000
set_option maxHeartbeats 1000000
namespace Go.Proofs.YtjmlbmmbionmcaaGreatDoor
open Go Foot
end Go.Proofs.YtjmlbmmbionmcaaGreatDoor
end
section
set_option linter.unusedVariables false
set_option linter.unusedSimpArgs false
set_option maxRecDepth 100000
set_option maxHeartbeats 1000000
namespace Go.Proofs.YtjmlbmmbionmcaaGreatDoor
open Go Foot
end Go.Proofs.YtjmlbmmbionmcaaGreatDoor
end
section
set_option linter.unusedVariables false
set_option linter.unusedSimpArgs false
set_option maxRecDepth 100000
set_option maxHeartbeats 1000000
namespace Go.Proofs.YtjmlbmmbionmcaaGreatDoor
open Go Foot Go.RowKit
theorem en_gd {m : Mach} {c : Conf} (hv : vMach m = true) (hy : m.sy = 2) (hc : vConf m c = true) {w : List Int} (h : enO m c = some w) : TmOk m ∧ Gd (tmT m) w := by
  obtain ⟨b1,b2,b3,b4,b5,b6⟩ := vConf_bits hy hc
  have v1 := nmV_bd b1
  have v2 := nmV_bd b2
  unfold enO at h
  by_cases hs : m.st ≤ 6
  · rw [if_pos hs] at h
    have g : TmOk m := ⟨hv,hy,hs⟩
    cases hn : nmB c.le && nmB c.ri with
    | false => rw [hn] at h; cases h
    | true =>
      rw [hn,cond_true] at h
      by_cases hl : 4 + 2 * (nmV c.le + nmV c.ri) ≤ 1000
      · rw [if_pos hl] at h
        injection h with h
        subst h
        have hlen := shA_len c.st (nmV c.le).toNat (nmV c.ri).toNat
        have hwl := tmW_len m m.st.toNat
        refine ⟨g,⟨fun x hx => ?_,by rw [hlen]; omega⟩⟩
        have key : ∀ ns : List Bs,x ∈ wdN ns c.st → 0 ≤ x ∧ x < ((tmT m).wo.length : Int) := fun ns hx => by
          have := wdN_bd b5 hx
          show 0 ≤ x ∧ x < ((tmW m m.st.toNat).length : Int)
          omega
        unfold shA shF at hx
        rcases List.mem_append.1 hx with hx | hx
        · rcases List.mem_append.1 hx with hx | hx
          · rcases List.mem_append.1 hx with hx | hx
            · exact key _ hx
            · exact key _ (repW_mem hx)
          · exact key _ hx
        · exact key _ (repW_mem hx)
      · rw [if_neg hl] at h; cases h
  · rw [if_neg hs] at h; cases h
theorem tm_bd {m : Mach} (g : TmOk m) : ((tmT m).ha.length : Int) ≤ 1048576 ∧ (∀ x ∈ (tmT m).wo,(x.length : Int) ≤ 16777216) := by
  have h1 := tmH_len m m.st.toNat
  have hs := g.s
  refine ⟨by show ((tmH m m.st.toNat).length : Int) ≤ 1048576; omega,fun x hx => ?_⟩
  have := (tmW_gd g m.st.toNat (Nat.le_refl _) x hx).1
  omega
theorem gd_in {m : Mach} {w : List Int} (hs : 0 ≤ m.st) (g : Gd (tmT m) w) : (∀ y ∈ w,0 ≤ y ∧ y ≤ 30 * m.st) ∧ (w.length : Int) ≤ 1000 := by
  have hwl := tmW_len m m.st.toNat
  refine ⟨fun y hy => ?_,g.le⟩
  have h : 0 ≤ y ∧ y < ((tmW m m.st.toNat).length : Int) := g.wd y hy
  omega
end Go.Proofs.YtjmlbmmbionmcaaGreatDoor
end
section
set_option linter.unusedVariables false
set_option linter.unusedSimpArgs false
set_option maxRecDepth 100000
set_option maxHeartbeats 1000000
namespace Go.Proofs.YtjmlbmmbionmcaaGreatDoor
open Go Foot Go.RowKit
theorem preB211 {p : Prop} (h : p := by first | with_reducible assumption | omega | (simp only [List.length_append,List.length_cons,List.length_nil,List.length_set,List.length_replicate,List.length_take,List.length_drop,List.length_tail,List.length_dropLast,List.length_reverse] at *; omega) | exact mem_len (by assumption) (by omega) | (with_reducible refine Int.le_trans (Int.ofNat_le.2 (trimR_len _)) ?_; simp only [List.length_cons,List.length_tail]; omega) | (exact (ruAt_ok (by assumption) (by assumption) (by assumption)).2.1) | (exact (ruAt_ok (by assumption) (by assumption) (by assumption)).2.1) | (have := vMach_bd (by assumption); omega) | (simp only [List.length_append,List.length_cons,List.length_nil,repW_len,seN_len] at *; omega) | (simp only [mC_ch,mC_tu]; omega) | (have := vTag_bd (by assumption); omega) | (have := (‹Gd _ _›).le; omega) | (exact tgHalts_no (by assumption)) | (exact tgHead (by assumption) (by assumption) (by assumption)) | (exact Int.le_trans (tgStep_gd (by assumption) (by assumption) (by assumption) (by assumption)).le (by decide)) | (exact vTag_r (by assumption)) | (with_reducible refine Int.le_trans (Int.ofNat_le.2 (pushL_len _ _)) ?_; simp only [List.length_dropLast]; omega) | exact ls_at (by assumption) (by omega) | exact pt_gd (by assumption) | exact lv_at (by assumption) (by omega) | exact pt_gd (lv_at (by assumption) (by omega)) | exact (ask_ok (by assumption)).1 | exact (ask_ok (by assumption)).2.1 | exact (ask_ok (by assumption)).2.2.1 | exact (ask_ok (by assumption)).2.2.2 | trivial) : p := h
theorem l03Reverse_ok (l : List Int) (hl : (l.length : Int) ≤ 1048576) : Does Tryz.prog 108 [.one (shI l)] [] (.one (.gv 0)) [roI l.reverse] := by
  refine does_of (k := 0) Tryz.func108 rfl Tryz.ntmps108 rfl rfl fun w F0 S0 ρ0 => ?_
  dsimp only [argT,argH]
  repeat' first|(apply n3;exact a_nilO eI rfl;exact rfl)|(apply n3;(exact a_litE eI [] rfl rfl rfl rfl rfl rfl rfl rfl);exact rfl;refine dA ?_)|(apply p3;(first|exact pu1|exact puN|exact a_sub rfl rfl (by omega) (by omega));exact rfl)|refine cd ?_|fail
  refine g_loop_id ?_
  refine loopK [0,2] [1] (fun y : Int × List Int => -1 ≤ y.1 ∧ y.1 < l.length ∧ y.2 = (l.drop (y.1 + 1).toNat).reverse) (fun y => [(4,.one (int y.1)),(3,.one (.gv 1))]) (fun y => [(1,roI y.2)]) (fun y => (y.1 + 1).toNat) ((l.length : Int) - 1,[]) [0,1] (hI := ?_) (hr := ?_)
  · exact ⟨by dsimp only; omega,by dsimp only; omega,by dsimp only; rw [List.drop_of_length_le (by omega)]; rfl⟩
  · rintro ⟨i,a⟩ ⟨j0,j1,j2⟩
    dsimp only [List.cons_append,List.nil_append] at *
    skip
    have ja : a.length ≤ l.length := by (rw [j2,List.length_reverse,List.length_drop]; omega)
    repeat' first|(apply n3;(exact a_litE eI [_] rfl rfl rfl rfl rfl rfl rfl rfl);exact rfl;refine dA ?_)|(apply p3;(first|exact pu1|exact puC|exact a_sub rfl rfl (by omega) (by omega)|exact puI);exact rfl)|refine cd ?_|(apply s3;exact a_appE (fP rfl) rfl rfl rfl rfl nowR (by (simp <;> omega)) (by decide) (by decide) (by exact rfl);exact rfl;exact rfl)|((refine g_cond rfl (fun hc => ?_) (fun hc => ?_)) <;> (try simp only [dcB] at hc) <;> (try first|contradiction|(exfalso;omega)))|fail
    · have hi : i.toNat < l.length := by omega
      have hd : (l.drop i.toNat).reverse = a ++ [l[i.toNat]'hi] := by
        rw [List.drop_eq_getElem_cons hi,List.reverse_cons,j2,show (i + 1).toNat = i.toNat + 1 by omega]
      refine q_again (i - 1,a ++ [l[i.toNat]'hi]) [0,3] (by exact stk) ?_ ?_
      · dsimp only
        exact ⟨by omega,by omega,by rw [show (i - 1 + 1).toNat = i.toNat by omega]; exact hd.symm⟩
      · dsimp only; omega
    · have e : l.reverse = a := by rw [j2,show (i + 1).toNat = 0 by omega,List.drop_zero]
      rw [e]
      repeat refine cr ?_
      refine ends_id ?_
      refine endK [?_] (h2 := ?_) (h3 := ?_) (nd := ?_)
      rotate_left 1
      all_goals (repeat' first|exact ce0|refine ce ?_|refine ce2 ?_ ?_|exact SVLe.refl|refine ceb ?_)
      all_goals first | exact (show nodupB _ = true from rfl) | exact Or.inr rfl | (rfl)
@[irreducible] def coT (c : Conf) : Bs := digT c.le.reverse ++ [40] ++ decT c.st ++ [41] ++ digT c.ri
structure CfOk (c : Conf) : Prop where
  l : ∀ x ∈ c.le,0 ≤ x ∧ x ≤ 1
  r : ∀ x ∈ c.ri,0 ≤ x ∧ x ≤ 1
  ll : (c.le.length : Int) ≤ 3000
  lr : (c.ri.length : Int) ≤ 3000
  s0 : 0 ≤ c.st
  s1 : c.st ≤ 1000000
theorem cf_nine {l : List Int} (h : ∀ x ∈ l,0 ≤ x ∧ x ≤ 1) : ∀ x ∈ l,0 ≤ x ∧ x ≤ 9 := fun x hx => by have := h x hx; omega
theorem l05Digits_ok (l : List Int) (hl : (l.length : Int) ≤ 1048576) (hd : ∀ x ∈ l,0 ≤ x ∧ x ≤ 9) : Does Tryz.prog 107 [.one (shI l)] [] (.one (str (digT l))) [] := by
  by_cases h : (l.length : Int) = 0
  · have e : l = [] := List.length_eq_zero_iff.1 (by omega)
    have e2 : digT l = [] := List.length_eq_zero_iff.1 (by rw [digT_len,e]; rfl)
    rw [e2]
    refine does_of (k := 0) Tryz.func107 rfl Tryz.ntmps107 rfl rfl fun w F0 S0 ρ0 => ?_
    dsimp only [argT,argH]
    repeat' first|(apply p3;(first|exact pu1|exact puN|exact puC);exact rfl)|refine cd ?_|((refine g_cond rfl (fun hc => ?_) (fun hc => ?_)) <;> (try simp only [dcB] at hc) <;> (try first|contradiction|(exfalso;omega)))|fail
    repeat refine cr ?_
    refine ends_id ?_
    refine endK [] (h2 := ?_) (h3 := ?_) (nd := ?_)
    all_goals (repeat' first|exact ce0|refine ce ?_|refine ce2 ?_ ?_|exact SVLe.refl|refine ceb ?_)
    all_goals first | exact (show nodupB _ = true from rfl) | exact Or.inr rfl | (rfl)
  · have e2 : wdT l = digT l := by unfold wdT; rw [if_neg (fun e => h (by rw [e]; rfl))]
    rw [← e2]
    refine does_of (k := 0) Tryz.func107 rfl Tryz.ntmps107 rfl rfl fun w F0 S0 ρ0 => ?_
    dsimp only [argT,argH]
    repeat' first|(apply p3;(first|exact pu1|exact puN|exact puC);exact rfl)|refine cd ?_|(apply c4 0;exact callK1 (θ := []) (hD := (l03Text_ok _ preB211 preB211));exact rfl;exact rfl;exact rfl;refine dM ?_)|((refine g_cond rfl (fun hc => ?_) (fun hc => ?_)) <;> (try simp only [dcB] at hc) <;> (try first|contradiction|(exfalso;omega)))|fail
    repeat refine cr ?_
    refine ends_id ?_
    refine endK [] (h2 := ?_) (h3 := ?_) (nd := ?_)
    all_goals (repeat' first|exact ce0|refine ce ?_|refine ce2 ?_ ?_|exact SVLe.refl|refine ceb ?_)
    all_goals first | exact (show nodupB _ = true from rfl) | exact Or.inr rfl | (rfl)
theorem l05Show_ok (c : Conf) (g : CfOk c) : Does Tryz.prog 53 [.one (coB c)] [] (.one (str (coT c))) [] := by
  have g1 := cf_nine g.l
  have g2 := cf_nine g.r
  have g3 := g.ll
  have g4 := g.lr
  have g5 := g.s0
  have g6 := g.s1
  have g7 : ∀ x ∈ c.le.reverse,0 ≤ x ∧ x ≤ 9 := fun x hx => g1 x (List.mem_reverse.1 hx)
  have e : coT c = digT c.le.reverse ++ [40] ++ decT c.st ++ [41] ++ digT c.ri := by unfold coT; rfl
  have l1 := digT_len c.le.reverse
  have l2 := digT_len c.ri
  have l3 := decT_le (n := c.st) (by omega) (by omega)
  have l4 : c.le.reverse.length = c.le.length := List.length_reverse
  rw [e]
  refine does_of (k := 0) Tryz.func53 rfl Tryz.ntmps53 rfl rfl fun w F0 S0 ρ0 => ?_
  dsimp only [argT,argH]
  repeat' first|(apply p3;exact pu1;exact rfl)|refine cd ?_|(apply g_drN (id := 1) okM [[],[0],[0,1],[0,1,2],[0,1,2,3],[0,1,2,3,4],[0,1,2,3,4,5],[],[7],[7,8],[7,8,9],[0,1,2,3,4,5,7,8,9,10],[0,1,2,3,4,5,6,7,8,9,10,11],[0,1,2,3,4,5,6,7,8,9,10,11,12],[],[14],[14,15],[14,15,16],[0,1,2,3,4,5,7,8,9,10,11,14,15,16,17],[0,1,2,3,4,5,6,7,8,9,10,11,12,13,14,15,16,17,18],[0,1,2,3,4,5,6,7,8,9,10,11,12,13,14,15,16,17,18,19]] [([],[]),([],[]),([],[]),([],[]),([0],[]),([],[]),([],[]),([],[]),([],[]),([],[]),([],[]),([],[]),([],[]),([],[]),([],[]),([],[]),([],[]),([],[]),([],[]),([],[]),([],[])] 1;(focus (refine dp 0 0 [10,11,12,13,17,18,19,20] [] pu1 ?_;refine dp 1 1 [10,11,12,13,17,18,19,20] [] (a_pure (sv := .one _) rfl) ?_;refine dp 2 3 [10,11,12,13,17,18,19,20] [] (a_pure (sv := .one _) rfl) ?_;refine dp 3 7 [10,11,12,13,17,18,19,20] [] (by exact puL) ?_;refine duN 4 15 [10,11,12,13,17,18,19,20] [] (callD1 (n := _) 0 (θ := []) (hD := (l03Reverse_ok _ preB211))) (by exact rfl) (by exact rfl) ?_;refine dp 5 31 [10,11,12,13,17,18,19,20] [] (callD1 (n := _) 1 (θ := []) (hD := (l05Digits_ok _ preB211 preB211))) ?_;refine dp 6 63 [10,11,12,13,14,17,18,19,20,21] [] (a_addS rfl rfl (by (simp only [List.length_append,List.length_cons,List.length_nil];omega))) ?_;refine dp 7 0 [3,4,5,6,7,8,9,17,18,19,20] [(true,0)] pu1 ?_;refine dp 8 1 [3,4,5,6,7,8,9,17,18,19,20] [(true,0)] (a_pure (sv := .one _) rfl) ?_;refine dp 9 3 [3,4,5,6,7,8,9,17,18,19,20] [(true,0)] (a_pure (sv := .one _) rfl) ?_;refine dp 10 7 [3,4,5,6,7,8,9,17,18,19,20] [(true,0)] puL ?_;refine dp 11 2031 [9,17,18,19,20] [] (callD1 (n := _) 1 (θ := []) (hD := (l01Dec_ok _ preB211 preB211))) ?_;refine dp 12 4095 [17,18,19,20,21] [] (a_addS rfl rfl (by (simp only [List.length_append,List.length_cons,List.length_nil];omega))) ?_;refine dp 13 8191 [17,18,19,20,21] [] (a_addS rfl rfl (by (simp only [List.length_append,List.length_cons,List.length_nil];omega))) ?_;refine dp 14 0 [3,4,5,6,7,8,9,10,11,12,13,14,15,16] [(true,0)] pu1 ?_;refine dp 15 1 [3,4,5,6,7,8,9,10,11,12,13,14,15,16] [(true,0)] (a_pure (sv := .one _) rfl) ?_;refine dp 16 3 [3,4,5,6,7,8,9,10,11,12,13,14,15,16] [(true,0)] (a_pure (sv := .one _) rfl) ?_;refine dp 17 7 [3,4,5,6,7,8,9,10,11,12,13,14,15,16] [(true,0)] (by exact puL) ?_;refine dp 18 260047 [9,15,16] [] (callD1 (n := _) 1 (θ := []) (hD := (l05Digits_ok _ preB211 preB211))) ?_;refine dp 19 524287 [] [] (a_addS rfl rfl (by (simp only [List.length_append,List.length_cons,List.length_nil];omega))) ?_;refine dp 20 1048575 [] [] pu1 ?_;(refine d_nil ?_;refine dN ?_)));any_goals kernel_rfl)|fail
  repeat refine cr ?_
  refine ends_id ?_
  refine endK [] (h2 := ?_) (h3 := ?_) (nd := ?_)
  all_goals (repeat' first|exact ce0|refine ce ?_|refine ce2 ?_ ?_|exact SVLe.refl|refine ceb ?_)
  all_goals first | exact (show nodupB _ = true from rfl) | exact Or.inr rfl | (rfl)
theorem configText_ok (c : Conf) (k : Int) (g : k = 0 → CfOk c) : Does Tryz.prog 59 [.agg (coC c),.one (int k)] [] (.one (str (if k = 0 then coT c else []))) [] := by
  by_cases h : k = 0
  · have gc := g h
    subst h
    rw [if_pos rfl]
    have g1 := cf_nine gc.l
    have g2 := cf_nine gc.r
    have g3 := gc.ll
    have g4 := gc.lr
    have g5 := gc.s0
    have g6 := gc.s1
    have g7 : ∀ x ∈ c.le.reverse,0 ≤ x ∧ x ≤ 9 := fun x hx => g1 x (List.mem_reverse.1 hx)
    have e : coT c = digT c.le.reverse ++ [40] ++ decT c.st ++ [41] ++ digT c.ri := by unfold coT; rfl
    have l1 := digT_len c.le.reverse
    have l2 := digT_len c.ri
    have l3 := decT_le (n := c.st) (by omega) (by omega)
    have l4 : c.le.reverse.length = c.le.length := List.length_reverse
    rw [e]
    refine does_of (k := 0) Tryz.func59 rfl Tryz.ntmps59 rfl rfl fun w F0 S0 ρ0 => ?_
    dsimp only [argT,argH]
    repeat' first|(apply n3;exact a_new (gb := .bx _) rfl;exact rfl;refine dA ?_)|(apply p3;(first|exact pu1|exact a_ne rfl rfl);exact rfl)|refine cd ?_|(apply g_drN (id := 3) okM [[],[0],[0,1],[0,1,2],[0,1,2,3],[],[5],[0,1,2,3,5,6],[0,1,2,3,4,5,6,7],[0,1,2,3,4,5,6,7,8],[],[10],[0,1,2,3,5,6,7,10,11],[0,1,2,3,4,5,6,7,8,9,10,11,12],[0,1,2,3,4,5,6,7,8,9,10,11,12,13]] [([],[]),([],[]),([0],[]),([],[]),([],[]),([],[]),([],[]),([],[]),([],[]),([],[]),([],[]),([],[]),([],[]),([],[]),([],[])] 1;(focus (refine dp 0 0 [12,13,17,18] [] (a_pure (sv := .one _) rfl) ?_;refine dp 1 1 [12,13,17,18] [] (by exact puL) ?_;refine duN 2 3 [12,13,17,18] [] (callD1 (n := _) 0 (θ := []) (hD := (reversed_ok _ preB211))) (by exact rfl) (by exact rfl) ?_;refine dp 3 7 [12,13,17,18] [] (callD1 (n := _) 1 (θ := []) (hD := (digitsText_ok _ preB211 preB211))) ?_;refine dp 4 15 [12,13,14,17,18,19] [] (a_addS rfl rfl (by (simp only [List.length_append,List.length_cons,List.length_nil];omega))) ?_;refine dp 5 0 [7,8,9,10,11,17,18] [(true,0)] (a_pure (sv := .one _) rfl) ?_;refine dp 6 1 [7,8,9,10,11,17,18] [(true,0)] puL ?_;refine dp 7 123 [11,17,18] [] (callD1 (n := _) 1 (θ := []) (hD := (Decimal_ok _ preB211 preB211))) ?_;refine dp 8 255 [17,18,19] [] (a_addS rfl rfl (by (simp only [List.length_append,List.length_cons,List.length_nil];omega))) ?_;refine dp 9 511 [17,18,19] [] (a_addS rfl rfl (by (simp only [List.length_append,List.length_cons,List.length_nil];omega))) ?_;refine dp 10 0 [7,8,9,10,11,12,13,14,15,16] [(true,0)] (a_pure (sv := .one _) rfl) ?_;refine dp 11 1 [7,8,9,10,11,12,13,14,15,16] [(true,0)] (by exact puL) ?_;refine dp 12 3955 [11,15,16] [] (callD1 (n := _) 1 (θ := []) (hD := (digitsText_ok _ preB211 preB211))) ?_;refine dp 13 8191 [] [] (a_addS rfl rfl (by (simp only [List.length_append,List.length_cons,List.length_nil];omega))) ?_;refine dp 14 16383 [] [] pu1 ?_;(refine d_nil ?_;refine dN ?_)));any_goals kernel_rfl)|fail
    repeat refine cr ?_
    refine ends_id ?_
    refine endK [] (h2 := ?_) (h3 := ?_) (nd := ?_)
    all_goals (repeat' first|exact ce0|refine ce ?_|refine ce2 ?_ ?_|exact SVLe.refl|refine ceb ?_)
    all_goals first | exact (show nodupB _ = true from rfl) | exact Or.inr rfl | (rfl)
  · rw [if_neg h]
    refine does_of (k := 0) Tryz.func59 rfl Tryz.ntmps59 rfl rfl fun w F0 S0 ρ0 => ?_
    dsimp only [argT,argH]
    repeat' first|(apply n3;exact a_new (gb := .bx _) rfl;exact rfl;refine dA ?_)|(apply p3;(first|exact pu1|exact a_ne rfl rfl);exact rfl)|refine cd ?_|((refine g_cond rfl (fun hc => ?_) (fun hc => ?_)) <;> (try simp only [dcB] at hc) <;> (try first|contradiction|(exfalso;omega)))|fail
    repeat refine cr ?_
    refine ends_id ?_
    refine endK [] (h2 := ?_) (h3 := ?_) (nd := ?_)
    all_goals (repeat' first|exact ce0|refine ce ?_|refine ce2 ?_ ?_|exact SVLe.refl|refine ceb ?_)
    all_goals first | exact (show nodupB _ = true from rfl) | exact Or.inr rfl | (rfl)
@[irreducible] def tgX (m : Mach) (l : List Int) : Bs := match dcI m l with
  | some c => coT c
  | none => []
theorem tgX_some {m : Mach} {l : List Int} {c : Conf} (h : dcI m l = some c) : tgX m l = coT c := by unfold tgX; rw [h]
theorem tgX_none {m : Mach} {l : List Int} (h : dcI m l = none) : tgX m l = [] := by unfold tgX; rw [h]
theorem dcI_st {m : Mach} {l : List Int} {c : Conf} (h : dcI m l = some c) : c.st = (l.headD 0 - 1) / 30 ∧ ¬ ((l.length : Int) = 0 ∨ l.headD 0 = 0) := by
  unfold dcI at h
  by_cases h0 : (l.length : Int) = 0 ∨ l.headD 0 = 0
  · rw [if_pos h0] at h; cases h
  · rw [if_neg h0] at h
    refine ⟨?_,h0⟩
    split at h
    · injection h with h; rw [← h]
    · split at h
      · injection h with h; rw [← h]
      · split at h
        · injection h with h; rw [← h]
        · cases h
theorem dcI_cf {m : Mach} {l : List Int} {c : Conf} (hm : m.st ≤ 1000) (hw : ∀ y ∈ l,0 ≤ y ∧ y ≤ 30 * m.st) (hl : (l.length : Int) ≤ 1000) (h : dcI m l = some c) : CfOk c := by
  have h1 := dcI_gd (by omega) h
  obtain ⟨h2,h3⟩ := dcI_st h
  have h4 := hd_bd hw h3
  exact ⟨h1.1,h1.2.1,h1.2.2.1,h1.2.2.2,by omega,by omega⟩
theorem tagTexts1_ok (m : Mach) (l : List Int) (g : TmOk m) (gl : Gd (tmT m) l) : Does Tryz.prog 58 [.one (shI l),.one (maB m)] [] (.one (str (tgX m l))) [] := by
  have hb := vMach_bd g.v
  have hs := g.s
  obtain ⟨hin,hl⟩ := gd_in (by omega) gl
  have hcf : (bif (dcI m l).isSome then (0 : Int) else 9) = 0 → CfOk (cfZ (dcI m l)) := fun h => by
    cases hd : dcI m l with
    | none => rw [hd] at h; cases h
    | some c => exact dcI_cf (by omega) hin hl hd
  have e : tgX m l = if (bif (dcI m l).isSome then (0 : Int) else 9) = 0 then coT (cfZ (dcI m l)) else [] := by
    cases hd : dcI m l with
    | none => rw [tgX_none hd]; rfl
    | some c => rw [tgX_some hd]; rfl
  rw [e]
  refine does_of (k := 0) Tryz.func58 rfl Tryz.ntmps58 rfl rfl fun w F0 S0 ρ0 => ?_
  dsimp only [argT,argH]
  repeat' first|(apply p3;(exact pu1);exact rfl)|refine cd ?_|(apply c4 2;exact callK1 (θ := []) (hD := (decodeTagWord_ok m l g hin (by omega)));exact rfl;exact rfl;exact rfl;refine dM ?_)|(apply c4 0;exact callK1 (θ := []) (hD := (configText_ok (cfZ (dcI m l)) (bif (dcI m l).isSome then (0 : Int) else 9) hcf));exact rfl;exact rfl;exact rfl;refine dM ?_)|fail
  repeat refine cr ?_
  refine ends_id ?_
  refine endK [] (h2 := ?_) (h3 := ?_) (nd := ?_)
  all_goals (repeat' first|exact ce0|refine ce ?_|refine ce2 ?_ ?_|exact SVLe.refl|refine ceb ?_)
  all_goals first | exact (show nodupB _ = true from rfl) | exact Or.inr rfl | (rfl)
end Go.Proofs.YtjmlbmmbionmcaaGreatDoor
end
section
set_option linter.unusedVariables false
set_option linter.unusedSimpArgs false
set_option maxRecDepth 100000
set_option maxHeartbeats 4000000
namespace Go.Proofs.YtjmlbmmbionmcaaGreatDoor
open Go Foot Go.RowKit
abbrev fnM (m : Mach) : C := .fn (.func 58) [maB m]
theorem preB212 {p : Prop} (h : p := by first | with_reducible assumption | omega | (simp only [List.length_append,List.length_cons,List.length_nil,List.length_set,List.length_replicate,List.length_take,List.length_drop,List.length_tail,List.length_dropLast,List.length_reverse] at *; omega) | exact mem_len (by assumption) (by omega) | (with_reducible refine Int.le_trans (Int.ofNat_le.2 (trimR_len _)) ?_; simp only [List.length_cons,List.length_tail]; omega) | (exact (ruAt_ok (by assumption) (by assumption) (by assumption)).2.1) | (exact (ruAt_ok (by assumption) (by assumption) (by assumption)).2.1) | (have := vMach_bd (by assumption); omega) | (simp only [List.length_append,List.length_cons,List.length_nil,repW_len,seN_len] at *; omega) | (simp only [mC_ch,mC_tu]; omega) | (have := vTag_bd (by assumption); omega) | (have := (‹Gd _ _›).le; omega) | (exact tgHalts_no (by assumption)) | (exact tgHead (by assumption) (by assumption) (by assumption)) | (exact Int.le_trans (tgStep_gd (by assumption) (by assumption) (by assumption) (by assumption)).le (by decide)) | (exact vTag_r (by assumption)) | (with_reducible refine Int.le_trans (Int.ofNat_le.2 (pushL_len _ _)) ?_; simp only [List.length_dropLast]; omega) | exact ls_at (by assumption) (by omega) | exact pt_gd (by assumption) | exact lv_at (by assumption) (by omega) | exact pt_gd (lv_at (by assumption) (by omega)) | exact (ask_ok (by assumption)).1 | exact (ask_ok (by assumption)).2.1 | exact (ask_ok (by assumption)).2.2.1 | exact (ask_ok (by assumption)).2.2.2 | trivial) : p := h
theorem st1M_ok (m : Mach) (u : List Int) (l : List (List Int)) (gm : TmOk m) (g : Gd (tmT m) u) (hl : (l.length : Int) ≤ 100000) : Does Tryz.prog 110 [.one (.gv 3),.one (.gv 0),.one (.gv 1)] [.bx [.gv 2],.bx [fnM m],.row 1 (rows eS (l.map (tgX m))),.row 1 (rows eI u)] (.one (boo true)) [.bx [.gv 4],.bx [fnM m],.dead,.row 1 (rows eI u),.row 1 (rows eS ((l ++ [u]).map (tgX m)))] := by
  have e : (l ++ [u]).map (tgX m) = l.map (tgX m) ++ [tgX m u] := by simp
  have hl2 : ((l.map (tgX m)).length : Int) ≤ 100000 := by rw [List.length_map]; exact hl
  rw [e]
  refine does_of (k := 4) Tryz.func110 rfl Tryz.ntmps110 rfl rfl fun w F0 S0 ρ0 => ?_
  dsimp only [argT,argH]
  repeat' first|(apply p3;exact a_pure (sv := .one _) rfl;exact rfl)|refine cd ?_|(apply g_drN (id := 1) okM [[],[],[],[1,2],[1,2,3],[0,1,2,3,4],[0,1,2,3,4,5]] [([],[]),([],[]),([],[]),([],[]),([0],[]),([1],[_]),([],[0])] 2;(focus (refine dp 0 0 [6,7,8,9] [(true,0)] puL ?_;refine dp 1 0 [5,7] [] puL ?_;refine dp 2 0 [5,6] [] pu1 ?_;refine dp 3 3 [5] [] (callD1 (n := _) 0 (θ := []) (hD := (tagTexts1_ok m u gm g))) ?_;refine duE 4 7 [5] [] (atN 0 (fun _ => a_litE eS [_] rfl rfl rfl rfl rfl rfl rfl rfl)) (by exact rfl) (by exact rfl) ?_;refine duE 5 31 [] [] (atS 1 (fun _ hj => a_appE (fP rfl) rfl rfl rfl rfl nowR (by (simp <;> omega)) (by decide) hj (by exact rfl)) (by decide)) (by exact rfl) (by exact rfl) ?_;refine duE 6 63 [] [] (by exact a_st_bx rfl rfl rfl rfl (fN rfl rfl) (Nat.le_of_ble_eq_true rfl) rfl) (by exact rfl) (by exact rfl) ?_;(refine d_nil ?_;refine dN ?_)));any_goals kernel_rfl)|fail
  repeat refine cr ?_
  refine ends_id ?_
  refine endK [?_] (h2 := ?_) (h3 := ?_) (nd := ?_)
  rotate_left 1
  all_goals (repeat' first|exact ce0|refine ce ?_|refine ce2 ?_ ?_|(refine Or.inr (bx_eq rfl rfl ?_);(try dsimp only [C.ren,C.ren.all]);(try exact rfl))|exact SVLe.refl|refine ceb ?_)
  all_goals first | exact (show nodupB _ = true from rfl) | exact Or.inr rfl | (rfl)
theorem trR_cdM {t : Tg} : ∀ (k : Nat) (l : List (List Int)) (w : List Int),(trR t k l w).1.2.2 = 0 ∨ (trR t k l w).1.2.2 = 5
  | 0,l,w => by rw [trR_0]; exact .inl rfl
  | k + 1,l,w => by
    cases h : tgHalts t w with
    | true => rw [trR_h h]; exact .inl rfl
    | false =>
      cases o : tgOver t w with
      | true => rw [trR_o h o]; exact .inr rfl
      | false => rw [trR_s h o]; exact trR_cdM k _ _
theorem runSysM_ok (m : Mach) (q : List Int) (B : Int) (gm : TmOk m) (hv : vTag (tmT m) = true) (hg : Gd (tmT m) q) (hx : ((tmT m).ha.length : Int) ≤ 1048576) (h1 : 0 ≤ B) (h2 : B ≤ 599) : Does Tryz.prog 99 [.one (.ifc 93 false [.gv 0]),.one (int B),.one (.fn (.func 110) [.gv 2,.gv 3])] [.bx (tgR (tmT m) 1),.row 1 (rows eI q),.bx [.gv 4],.bx [fnM m],.row 1 (rows eS [])] (.tup [(false,[int (trR (tmT m) B.toNat [] q).1.1]),(false,[boo (trR (tmT m) B.toNat [] q).1.2.1]),(false,[int (trR (tmT m) B.toNat [] q).1.2.2])]) [.dead,.dead,.bx [.gv 5],.dead,.dead,.row 1 (rows eS ((trR (tmT m) B.toNat [] q).2.map (tgX m)))] := by
  have hb := vTag_bd hv
  generalize ht : tmT m = t at *
  refine does_of (k := 5) Tryz.func99 rfl Tryz.ntmps99 rfl rfl fun w F0 S0 ρ0 => ?_
  dsimp only [argT,argH]
  refine g_conv (t_mvB (i := 1) (j := 0) (k := 3) rfl rfl rfl rfl rfl rfl) ?_
  try dsimp only [setRow,List.map_cons,List.map_nil,scC,List.set_cons_zero,List.set_cons_succ]
  refine g_conv (t_mvB (i := 4) (j := 2) (k := 0) rfl rfl rfl rfl rfl rfl) ?_
  try dsimp only [setRow,List.map_cons,List.map_nil,scC,List.set_cons_zero,List.set_cons_succ]
  repeat' first|(apply p3;(exact pu1);exact rfl)|refine cd ?_|fail
  refine g_loop_id ?_
  refine loopK [0,1,2,6,7,8] [0,2,5,6] (fun x : Int × List Int × List (List Int) => Gd t x.2.1 ∧ (x.2.2.length : Int) ≤ B ∧ x.1 = x.2.2.length ∧ trR t (B - x.2.2.length).toNat x.2.2 x.2.1 = trR t B.toNat [] q) (fun x => [(9,.one (int x.1))]) (fun x => [(0,.bx (tgR t 5)),(5,.row 1 (rows eI x.2.1)),(2,.bx [.gv 6]),(6,.row 1 (rows eS (x.2.2.map (tgX m))))]) (fun x => (B - x.1).toNat) ((0 : Int),q,[]) [0,1,2,3,4,5,6] (hI := ?_) (hr := ?_)
  · exact ⟨hg,by simp; omega,by simp,by simp⟩
  · rintro ⟨n,w,l⟩ ⟨k1,k3,k5,k4⟩
    dsimp only [List.cons_append,List.nil_append] at *
    try dsimp only [tgR]
    skip
    have kl := k1.le
    repeat' first|(apply p3;(first|exact pu1|exact a_add rfl rfl (by omega) (by omega));exact rfl)|refine cd ?_|(apply c4 0;exact callM0 (dst := some 14) (θ := [0,5]) (hD := (tagWord_ok t _));exact rfl;exact rfl;exact rfl;refine dM ?_)|(apply c4 1;exact callK0 (θ := [2,3,6,5]) (hD := (st1M_ok m _ _ gm (by rw [ht];assumption) preB212));exact rfl;exact rfl;exact rfl;refine dM ?_)|(apply c4 0;exact callM0 (dst := some 28) (θ := [0,5]) (hD := (tagHalts_ok t _ hv preB212 preB212));exact rfl;exact rfl;exact rfl;refine dM ?_)|(apply c4 1;exact callM0 (dst := some 30) (θ := [0,5]) (hD := (tagStep_ok t _ hv preB212 preB212 preB212 preB212));exact rfl;exact rfl;exact rfl;refine dM ?_)|refine o_no rfl rfl rfl rfl ?_|(apply py3;exact rfl;exact rfl;(first|exact pu1|exact puC);exact rfl;exact rfl)|(apply cy4 0;exact rfl;exact rfl;exact callM0 (dst := some 24) (θ := [0,5]) (hD := (tagHalts_ok t _ hv preB212 preB212));exact rfl;exact rfl;exact rfl;exact rfl;refine dM ?_)|((first|refine o_gs rfl rfl (fun hc => ?_) (fun hc => ?_)|refine g_cond rfl (fun hc => ?_) (fun hc => ?_)) <;> (try simp only [dcB] at hc) <;> (try first|contradiction|(exfalso;omega)))|fail
    · have e : trR t B.toNat [] q = (((l.length : Int),tgHalts t w,0),l ++ [w]) := by rw [← k4,show (B - l.length).toNat = 0 by omega,trR_0]
      rw [e]
      repeat refine cr ?_
      refine ends_id ?_
      refine endK [?_] (h2 := ?_) (h3 := ?_) (nd := ?_)
      rotate_left 1
      all_goals (repeat' first|exact ce0|refine ce ?_|refine ce2 ?_ ?_|(refine Or.inr (bx_eq rfl rfl ?_);(try dsimp only [C.ren,C.ren.all]);(try exact rfl))|exact SVLe.refl|refine ceb ?_)
      all_goals first | exact (show nodupB _ = true from rfl) | exact Or.inr rfl | ((first | rfl | omega))
    · have e : trR t B.toNat [] q = (((l.length : Int),tgHalts t w,0),l ++ [w]) := by rw [← k4,trR_h hc,hc]
      rw [e]
      repeat refine cr ?_
      refine ends_id ?_
      refine endK [?_] (h2 := ?_) (h3 := ?_) (nd := ?_)
      rotate_left 1
      all_goals (repeat' first|exact ce0|refine ce ?_|refine ce2 ?_ ?_|(refine Or.inr (bx_eq rfl rfl ?_);(try dsimp only [C.ren,C.ren.all]);(try exact rfl))|exact SVLe.refl|refine ceb ?_)
      all_goals first | exact (show nodupB _ = true from rfl) | exact Or.inr rfl | ((first | rfl | omega))
    · have e : trR t B.toNat [] q = ((0,false,5),l ++ [w]) := by
        obtain ⟨k,hk⟩ : ∃ k,(B - l.length).toNat = k + 1 := ⟨(B - l.length).toNat - 1,by omega⟩
        rw [← k4,hk,trR_o (by assumption) hc]
      rw [e]
      repeat refine cr ?_
      refine ends_id ?_
      refine endK [?_] (h2 := ?_) (h3 := ?_) (nd := ?_)
      rotate_left 1
      all_goals (repeat' first|exact ce0|refine ce ?_|refine ce2 ?_ ?_|(refine Or.inr (bx_eq rfl rfl ?_);(try dsimp only [C.ren,C.ren.all]);(try exact rfl))|exact SVLe.refl|refine ceb ?_)
      all_goals first | exact (show nodupB _ = true from rfl) | exact Or.inr rfl | (rfl)
    · have hst := tgStep_gd hv k1 (by assumption) hc
      have hlen : ((l ++ [w]).length : Int) = l.length + 1 := by simp
      refine q_again (n + 1,tgStep t w,l ++ [w]) [0,1,2,3,4,8,7] (by exact stk) ?_ ?_
      · dsimp only
        refine ⟨hst,by omega,by omega,?_⟩
        obtain ⟨k,hk⟩ : ∃ k,(B - l.length).toNat = k + 1 := ⟨(B - l.length).toNat - 1,by omega⟩
        rw [← k4,hk,trR_s (by assumption) hc,hlen,show (B - (l.length + 1 : Int)).toNat = k by omega]
      · dsimp only; omega
theorem systemTextsM_ok (m : Mach) (q : List Int) (n : Int) (gm : TmOk m) (hv : vTag (tmT m) = true) (hg : Gd (tmT m) q) (hx : ((tmT m).ha.length : Int) ≤ 1048576) (h1 : 0 ≤ n) (h2 : n ≤ 599) : Does Tryz.prog 56 [.one (.ifc 93 false [.gv 0]),.one (int n),.one (fnM m)] [.bx (tgR (tmT m) 1),.row 1 (rows eI q)] (.tup [(false,[.gv 2]),(false,[int (bif (trA (tmT m) n.toNat [] q).2 then 0 else 5)])]) [.dead,.dead,.row 1 (rows eS ((trA (tmT m) n.toNat [] q).1.map (tgX m)))] := by
  have e := trA_R (t := tmT m) n.toNat [] q
  have ec := trR_cdM (t := tmT m) n.toNat [] q
  refine does_of (k := 2) Tryz.func56 rfl Tryz.ntmps56 rfl rfl fun w F0 S0 ρ0 => ?_
  dsimp only [argT,argH]
  repeat' first|(apply n3;exact a_nilO eS rfl;exact rfl)|(apply n3;(first|exact a_new (gb := .bx _) rfl|exact a_litE eS [] rfl rfl rfl rfl rfl rfl rfl rfl);exact rfl;refine dA ?_)|(apply p3;(first|exact pu1|exact a_ne rfl rfl);exact rfl)|refine cd ?_|(apply w3;(exact a_st_bx rfl rfl rfl rfl (fN rfl rfl) (Nat.le_of_ble_eq_true rfl) rfl);exact rfl;refine dS ?_)|(apply c4 1;exact callK1 (θ := [_,_,_,_,_]) (hD := (runSysM_ok _ _ _ preB212 preB212 preB212 preB212 preB212 preB212));exact rfl;exact rfl;exact rfl;refine dM ?_)|((refine g_cond rfl (fun hc => ?_) (fun hc => ?_)) <;> (try simp only [dcB] at hc) <;> (try first|contradiction|(exfalso;omega)))|fail
  · rw [if_neg hc] at e
    rw [e]
    repeat refine cr ?_
    refine ends_id ?_
    refine endK [?_] (h2 := ?_) (h3 := ?_) (nd := ?_)
    rotate_left 1
    all_goals (repeat' first|exact ce0|refine ce ?_|refine ce2 ?_ ?_|(refine Or.inr (bx_eq rfl rfl ?_);(try dsimp only [C.ren,C.ren.all]);(try exact rfl))|exact SVLe.refl|refine ceb ?_)
    all_goals first | exact (show nodupB _ = true from rfl) | exact Or.inr rfl | ((show _ = (5 : Int); omega))
  · rw [if_pos hc] at e
    rw [e]
    repeat refine cr ?_
    refine ends_id ?_
    refine endK [?_] (h2 := ?_) (h3 := ?_) (nd := ?_)
    rotate_left 1
    all_goals (repeat' first|exact ce0|refine ce ?_|refine ce2 ?_ ?_|(refine Or.inr (bx_eq rfl rfl ?_);(try dsimp only [C.ren,C.ren.all]);(try exact rfl))|exact SVLe.refl|refine ceb ?_)
    all_goals first | exact (show nodupB _ = true from rfl) | exact Or.inr rfl | (rfl)
theorem textsCodeM_ok (b : Bool) (n : Int) : Does Tryz.prog 54 [.one (boo b),.one (int n)] [] (.one (int (bif b then (if 0 ≤ n ∧ n ≤ 599 then 0 else 2) else 1))) [] := by
  cases b
  · refine does_of (k := 0) Tryz.func54 rfl Tryz.ntmps54 rfl rfl fun w F0 S0 ρ0 => ?_
    dsimp only [argT,argH]
    repeat' first|(apply p3;exact pu1;exact rfl)|refine cd ?_|fail
    repeat refine cr ?_
    refine ends_id ?_
    refine endK [] (h2 := ?_) (h3 := ?_) (nd := ?_)
    all_goals (repeat' first|exact ce0|refine ce ?_|refine ce2 ?_ ?_|exact SVLe.refl|refine ceb ?_)
    all_goals first | exact (show nodupB _ = true from rfl) | exact Or.inr rfl | (rfl)
  · by_cases h : 0 ≤ n ∧ n ≤ 599
    · rw [cond_true,if_pos h]
      refine does_of (k := 0) Tryz.func54 rfl Tryz.ntmps54 rfl rfl fun w F0 S0 ρ0 => ?_
      dsimp only [argT,argH]
      repeat' first|(apply p3;exact pu1;exact rfl)|refine cd ?_|(apply c4 0;exact callK1 (θ := []) (hD := (within_ok _ _ _));exact rfl;exact rfl;exact rfl;refine dM ?_)|((refine g_cond rfl (fun hc => ?_) (fun hc => ?_)) <;> (try simp only [dcB] at hc) <;> (try first|contradiction|(exfalso;omega)))|fail
      repeat refine cr ?_
      refine ends_id ?_
      refine endK [] (h2 := ?_) (h3 := ?_) (nd := ?_)
      all_goals (repeat' first|exact ce0|refine ce ?_|refine ce2 ?_ ?_|exact SVLe.refl|refine ceb ?_)
      all_goals first | exact (show nodupB _ = true from rfl) | exact Or.inr rfl | (rfl)
    · rw [cond_true,if_neg h]
      refine does_of (k := 0) Tryz.func54 rfl Tryz.ntmps54 rfl rfl fun w F0 S0 ρ0 => ?_
      dsimp only [argT,argH]
      repeat' first|(apply p3;exact pu1;exact rfl)|refine cd ?_|(apply c4 0;exact callK1 (θ := []) (hD := (within_ok _ _ _));exact rfl;exact rfl;exact rfl;refine dM ?_)|((refine g_cond rfl (fun hc => ?_) (fun hc => ?_)) <;> (try simp only [dcB] at hc) <;> (try first|contradiction|(exfalso;omega)))|fail
      repeat refine cr ?_
      refine ends_id ?_
      refine endK [] (h2 := ?_) (h3 := ?_) (nd := ?_)
      all_goals (repeat' first|exact ce0|refine ce ?_|refine ce2 ?_ ?_|exact SVLe.refl|refine ceb ?_)
      all_goals first | exact (show nodupB _ = true from rfl) | exact Or.inr rfl | (rfl)
end Go.Proofs.YtjmlbmmbionmcaaGreatDoor
end
section
set_option linter.unusedVariables false
set_option linter.unusedSimpArgs false
set_option maxRecDepth 100000
set_option maxHeartbeats 1000000
namespace Go.Proofs.YtjmlbmmbionmcaaGreatDoor
open Go Foot Go.RowKit
@[irreducible] def tgW (m : Mach) (w : List Int) (n : Int) : List Bs × Int := bif (trA (tmT m) n.toNat [] w).2 then ((trA (tmT m) n.toNat [] w).1.map (tgX m),0) else ([],5)
theorem tgW_eq (m : Mach) (w : List Int) (n : Int) : tgW m w n = (bif (trA (tmT m) n.toNat [] w).2 then ((trA (tmT m) n.toNat [] w).1.map (tgX m),0) else ([],5) : List Bs × Int) := by unfold tgW; rfl
@[irreducible] def tgO (m : Mach) (c : Conf) (n : Int) : List Bs × Int := if vMach m = true ∧ vConf m c = true then (if 0 ≤ n ∧ n ≤ 599 then (if m.sy = 2 then ((enO m c).elim ([],5) fun w => tgW m w n) else ([],2)) else ([],2)) else ([],1)
theorem preB213 {p : Prop} (h : p := by first | with_reducible assumption | omega | (simp only [List.length_append,List.length_cons,List.length_nil,List.length_set,List.length_replicate,List.length_take,List.length_drop,List.length_tail,List.length_dropLast,List.length_reverse] at *; omega) | exact mem_len (by assumption) (by omega) | (with_reducible refine Int.le_trans (Int.ofNat_le.2 (trimR_len _)) ?_; simp only [List.length_cons,List.length_tail]; omega) | (exact (ruAt_ok (by assumption) (by assumption) (by assumption)).2.1) | (exact (ruAt_ok (by assumption) (by assumption) (by assumption)).2.1) | (have := vMach_bd (by assumption); omega) | (simp only [List.length_append,List.length_cons,List.length_nil,repW_len,seN_len] at *; omega) | (simp only [mC_ch,mC_tu]; omega) | (have := vTag_bd (by assumption); omega) | (have := (‹Gd _ _›).le; omega) | (exact tgHalts_no (by assumption)) | (exact tgHead (by assumption) (by assumption) (by assumption)) | (exact Int.le_trans (tgStep_gd (by assumption) (by assumption) (by assumption) (by assumption)).le (by decide)) | (exact vTag_r (by assumption)) | (with_reducible refine Int.le_trans (Int.ofNat_le.2 (pushL_len _ _)) ?_; simp only [List.length_dropLast]; omega) | exact ls_at (by assumption) (by omega) | exact pt_gd (by assumption) | exact lv_at (by assumption) (by omega) | exact pt_gd (lv_at (by assumption) (by omega)) | exact (ask_ok (by assumption)).1 | exact (ask_ok (by assumption)).2.1 | exact (ask_ok (by assumption)).2.2.1 | exact (ask_ok (by assumption)).2.2.2 | trivial) : p := h
theorem TagWordOfN_ok (m : Mach) (c : Conf) (hm : (m.ru.length : Int) ≤ 16777216) (hx : (c.le.length : Int) ≤ 16777216) (hy : (c.ri.length : Int) ≤ 16777216) (hv : vMach m = true) (hs : ¬ m.sy = 2) (hc : vConf m c = true) : Does Tryz.prog 55 [.agg (maC m),.agg (coC c)] [] (.tup [(false,[.gv 0]),(false,[int 2])]) [roI []] := by
  have hvc : (vMach m && vConf m c) = true := by rw [hv,hc]; rfl
  refine does_of (k := 0) Tryz.func55 rfl Tryz.ntmps55 rfl rfl fun w F0 S0 ρ0 => ?_
  dsimp only [argT,argH]
  repeat' first|(apply n3;exact a_nilO eI rfl;exact rfl)|(apply n3;exact a_new (gb := .bx _) rfl;exact rfl;refine dA ?_)|(apply p3;exact a_pure (sv := .one _) rfl;exact rfl)|refine cdn ?_|refine g_reg (id := 0) ?_|(apply g_drN (id := 1) okM [[],[],[],[1,2],[0,1,2,3],[0,1,2,3,4]] [([],[]),([],[]),([],[]),([],[]),([],[]),([],[])] 0;(focus (refine dp 0 0 [8,9,10] [] puL ?_;refine dp 1 0 [7,9] [] puL ?_;refine dp 2 0 [7,8] [] puL ?_;refine dp 3 3 [7] [] (callD1 (n := _) 0 (θ := []) (hD := (ValidConfig_ok _ _ preB213 preB213 preB213))) ?_;refine dp 4 15 [] [] (callD1 (n := _) 0 (θ := []) (hD := (binaryCode_ok _ _))) ?_;refine dp 5 31 [] [] pu1 ?_;(refine d_nil ?_;refine dN ?_)));any_goals kernel_rfl)|fail
  simp only [hvc,cond_true,if_neg hs]
  repeat' first|(apply n3;exact a_nilO eI rfl;exact rfl)|(apply p3;(first|exact pu1|exact a_ne rfl rfl);exact rfl)|refine cd ?_|fail
  repeat refine cr ?_
  refine ends_id ?_
  refine endK [?_] (h2 := ?_) (h3 := ?_) (nd := ?_)
  rotate_left 1
  all_goals (repeat' first|exact ce0|refine ce ?_|refine ce2 ?_ ?_|exact SVLe.refl|refine ceb ?_)
  all_goals first | exact (show nodupB _ = true from rfl) | exact Or.inr rfl | (rfl)
theorem trA_noM {t : Tg} {k : Nat} {l : List (List Int)} {w : List Int} (h : (trA t k l w).2 = false) : (trA t k l w).1 = [] := by
  rw [trA_R] at h ⊢
  by_cases z : (trR t k l w).1.2.2 = 0
  · rw [if_pos z] at h; cases h
  · rw [if_neg z]
theorem iTagTexts_ok (m : Mach) (c : Conf) (n : Int) (hm : (m.ru.length : Int) ≤ 1048576) (hx : (c.le.length : Int) ≤ 1048576) (hy : (c.ri.length : Int) ≤ 1048576) : Does Tryz.prog 18 [.agg (maC m),.agg (coC c),.one (int n)] [] (.tup [(false,[.gv 0]),(false,[int (tgO m c n).2])]) [.row 1 (rows eS (tgO m c n).1)] := by
  by_cases hvc : vMach m = true ∧ vConf m c = true
  · obtain ⟨hv,hvd⟩ := hvc
    have hand : (vMach m && vConf m c) = true := by rw [hv,hvd]; rfl
    have hb := vMach_bd hv
    by_cases hB : 0 ≤ n ∧ n ≤ 599
    · by_cases hsy : m.sy = 2
      · have e : tgO m c n = (enO m c).elim ([],5) fun w => tgW m w n := by unfold tgO; rw [if_pos ⟨hv,hvd⟩,if_pos hB,if_pos hsy]
        cases hen : enO m c with
        | none =>
          rw [hen] at e
          rw [e]
          dsimp only [Option.elim]
          refine does_of (k := 0) Tryz.func18 rfl Tryz.ntmps18 rfl rfl fun w F0 S0 ρ0 => ?_
          dsimp only [argT,argH]
          repeat' first|(apply n3;exact a_nilO eS rfl;exact rfl)|(apply n3;exact a_new (gb := .bx _) rfl;exact rfl;refine dA ?_)|(apply p3;exact a_pure (sv := .one _) rfl;exact rfl)|refine cdn ?_|refine g_reg (id := 0) ?_|fail
          first | refine g_turn (t_frzB (d := 3) (i := 0) rfl rfl rfl) ?_ | refine o_turn (t_frzB (d := 3) (i := 0) rfl rfl rfl) ?_
          repeat' first|(apply p3;(exact pu1);exact rfl)|refine cdn ?_|refine g_reg (id := 1) ?_|(apply c4 0;exact callK1 (θ := []) (hD := (ValidConfig_ok _ _ preB213 preB213 preB213));exact rfl;exact rfl;exact rfl;refine dM ?_)|(apply c4 0;exact callK1 (θ := []) (hD := (textsCodeM_ok _ _));exact rfl;exact rfl;exact rfl;refine dM ?_)|fail
          simp only [hand,cond_true,if_pos hB]
          repeat' first|(apply p3;(first|exact pu1|exact a_ne rfl rfl);exact rfl)|refine cdn ?_|refine g_reg (id := 2) ?_|refine g_reg (id := 4) ?_|(apply c4 1;exact callK1 (θ := []) (hD := (TagWordOf_ok _ _ preB213 preB213 preB213 preB213 preB213 preB213));exact rfl;exact rfl;exact rfl;refine dM ?_)|fail
          simp only [hen,Option.isSome_none,Option.getD_none,cond_false]
          repeat' first|(apply n3;exact a_nilO eS rfl;exact rfl)|(apply p3;(first|exact pu1|exact a_ne rfl rfl);exact rfl)|refine cd ?_|fail
          repeat refine cr ?_
          refine ends_id ?_
          refine endK [?_] (h2 := ?_) (h3 := ?_) (nd := ?_)
          rotate_left 1
          all_goals (repeat' first|exact ce0|refine ce ?_|refine ce2 ?_ ?_|(refine Or.inr (bx_eq rfl rfl ?_);(try dsimp only [C.ren,C.ren.all]);(try exact rfl))|exact SVLe.refl|refine ceb ?_)
          all_goals first | exact (show nodupB _ = true from rfl) | exact Or.inr rfl | (rfl)
        | some u =>
          rw [hen] at e
          obtain ⟨g,gu⟩ := en_gd hv hsy hvd hen
          have gt := tmT_v g
          obtain ⟨t1,t2⟩ := tm_bd g
          rw [e]
          dsimp only [Option.elim]
          rw [tgW_eq]
          refine does_of (k := 0) Tryz.func18 rfl Tryz.ntmps18 rfl rfl fun w F0 S0 ρ0 => ?_
          dsimp only [argT,argH]
          repeat' first|(apply n3;exact a_nilO eS rfl;exact rfl)|(apply n3;exact a_new (gb := .bx _) rfl;exact rfl;refine dA ?_)|(apply p3;exact a_pure (sv := .one _) rfl;exact rfl)|refine cdn ?_|refine g_reg (id := 0) ?_|fail
          first | refine g_turn (t_frzB (d := 3) (i := 0) rfl rfl rfl) ?_ | refine o_turn (t_frzB (d := 3) (i := 0) rfl rfl rfl) ?_
          repeat' first|(apply p3;(exact pu1);exact rfl)|refine cdn ?_|refine g_reg (id := 1) ?_|(apply c4 0;exact callK1 (θ := []) (hD := (ValidConfig_ok _ _ preB213 preB213 preB213));exact rfl;exact rfl;exact rfl;refine dM ?_)|(apply c4 0;exact callK1 (θ := []) (hD := (textsCodeM_ok _ _));exact rfl;exact rfl;exact rfl;refine dM ?_)|fail
          simp only [hand,cond_true,if_pos hB]
          repeat' first|(apply p3;(first|exact pu1|exact a_ne rfl rfl);exact rfl)|refine cdn ?_|refine g_reg (id := 2) ?_|refine g_reg (id := 4) ?_|(apply c4 1;exact callK1 (θ := []) (hD := (TagWordOf_ok _ _ preB213 preB213 preB213 preB213 preB213 preB213));exact rfl;exact rfl;exact rfl;refine dM ?_)|fail
          simp only [hen,Option.isSome_some,Option.getD_some,cond_true]
          repeat' first|(apply n3;exact a_new (gb := .bx _) rfl;exact rfl;refine dA ?_)|(apply p3;(first|exact pu1|exact a_ne rfl rfl);exact rfl)|refine cdn ?_|refine g_reg (id := 5) ?_|refine g_reg (id := 7) ?_|(apply w3;exact a_st_bx rfl rfl rfl rfl (fN rfl rfl) (Nat.le_of_ble_eq_true rfl) rfl;exact rfl;refine dS ?_)|(apply c4 2;exact callK0 (θ := []) (hD := (tagOfMachine_ok _ preB213 preB213));exact rfl;exact rfl;exact rfl;refine dM ?_)|fail
          simp only [tmX_ok g.s]
          have hul := gu.le
          refine g_turn (t_freeze (i := 3) rfl nowR) ?_
          refine g_turn (t_freeze (i := 4) rfl nowR) ?_
          try simp only [setRow,C.frz.all,C.frz,SV.frz,tFrz,scC,List.map_cons,List.map_nil,List.set_cons_zero,List.set_cons_succ,Nat.zero_add,List.getElem?_cons_zero,List.getElem?_cons_succ,List.take_succ_cons,List.take_zero,List.drop_zero]
          refine g_turn (t_freeze (i := 5) rfl nowR) ?_
          try simp only [setRow,C.frz.all,C.frz,SV.frz,tFrz,scC,List.map_cons,List.map_nil,List.set_cons_zero,List.set_cons_succ,Nat.zero_add,List.getElem?_cons_zero,List.getElem?_cons_succ,List.take_succ_cons,List.take_zero,List.drop_zero]
          repeat' first|(apply p3;(exact pu1);exact rfl)|refine cd ?_|(apply c4 2;exact callK0 (θ := []) (hD := (tagRunOf_ok (tmT m) u (by omega)));exact rfl;exact rfl;exact rfl;refine dM ?_)|(apply c4 1;exact callK1 (θ := [7,8]) (hD := (systemTextsM_ok m u n g gt gu t1 hB.1 hB.2));exact rfl;exact rfl;exact rfl;refine dM ?_)|fail
          cases hk : (trA (tmT m) n.toNat [] u).2 with
          | false =>
            simp only [trA_noM hk,cond_false]
            repeat refine cr ?_
            refine ends_id ?_
            refine endK [?_] (h2 := ?_) (h3 := ?_) (nd := ?_)
            rotate_left 1
            all_goals (repeat' first|exact ce0|refine ce ?_|refine ce2 ?_ ?_|(refine Or.inr (bx_eq rfl rfl ?_);(try dsimp only [C.ren,C.ren.all]);(try exact rfl))|exact SVLe.refl|refine ceb ?_)
            all_goals first | exact (show nodupB _ = true from rfl) | exact Or.inr rfl | (rfl)
          | true =>
            simp only [cond_true]
            repeat refine cr ?_
            refine ends_id ?_
            refine endK [?_] (h2 := ?_) (h3 := ?_) (nd := ?_)
            rotate_left 1
            all_goals (repeat' first|exact ce0|refine ce ?_|refine ce2 ?_ ?_|(refine Or.inr (bx_eq rfl rfl ?_);(try dsimp only [C.ren,C.ren.all]);(try exact rfl))|exact SVLe.refl|refine ceb ?_)
            all_goals first | exact (show nodupB _ = true from rfl) | exact Or.inr rfl | (rfl)
      · have e : tgO m c n = ([],2) := by unfold tgO; rw [if_pos ⟨hv,hvd⟩,if_pos hB,if_neg hsy]
        rw [e]
        refine does_of (k := 0) Tryz.func18 rfl Tryz.ntmps18 rfl rfl fun w F0 S0 ρ0 => ?_
        dsimp only [argT,argH]
        repeat' first|(apply n3;exact a_nilO eS rfl;exact rfl)|(apply n3;exact a_new (gb := .bx _) rfl;exact rfl;refine dA ?_)|(apply p3;exact a_pure (sv := .one _) rfl;exact rfl)|refine cdn ?_|refine g_reg (id := 0) ?_|fail
        first | refine g_turn (t_frzB (d := 3) (i := 0) rfl rfl rfl) ?_ | refine o_turn (t_frzB (d := 3) (i := 0) rfl rfl rfl) ?_
        repeat' first|(apply p3;(exact pu1);exact rfl)|refine cdn ?_|refine g_reg (id := 1) ?_|(apply c4 0;exact callK1 (θ := []) (hD := (ValidConfig_ok _ _ preB213 preB213 preB213));exact rfl;exact rfl;exact rfl;refine dM ?_)|(apply c4 0;exact callK1 (θ := []) (hD := (textsCodeM_ok _ _));exact rfl;exact rfl;exact rfl;refine dM ?_)|fail
        simp only [hand,cond_true,if_pos hB]
        repeat' first|(apply n3;exact a_nilO eS rfl;exact rfl)|(apply p3;(first|exact pu1|exact a_ne rfl rfl);exact rfl)|refine cd ?_|(apply c4 1;exact callK1 (θ := []) (hD := (TagWordOfN_ok _ _ preB213 preB213 preB213 preB213 preB213 preB213));exact rfl;exact rfl;exact rfl;refine dM ?_)|fail
        repeat refine cr ?_
        refine ends_id ?_
        refine endK [?_] (h2 := ?_) (h3 := ?_) (nd := ?_)
        rotate_left 1
        all_goals (repeat' first|exact ce0|refine ce ?_|refine ce2 ?_ ?_|(refine Or.inr (bx_eq rfl rfl ?_);(try dsimp only [C.ren,C.ren.all]);(try exact rfl))|exact SVLe.refl|refine ceb ?_)
        all_goals first | exact (show nodupB _ = true from rfl) | exact Or.inr rfl | (rfl)
    · have e : tgO m c n = ([],2) := by unfold tgO; rw [if_pos ⟨hv,hvd⟩,if_neg hB]
      rw [e]
      refine does_of (k := 0) Tryz.func18 rfl Tryz.ntmps18 rfl rfl fun w F0 S0 ρ0 => ?_
      dsimp only [argT,argH]
      repeat' first|(apply n3;exact a_nilO eS rfl;exact rfl)|(apply n3;exact a_new (gb := .bx _) rfl;exact rfl;refine dA ?_)|(apply p3;exact a_pure (sv := .one _) rfl;exact rfl)|refine cdn ?_|refine g_reg (id := 0) ?_|fail
      first | refine g_turn (t_frzB (d := 3) (i := 0) rfl rfl rfl) ?_ | refine o_turn (t_frzB (d := 3) (i := 0) rfl rfl rfl) ?_
      repeat' first|(apply p3;(exact pu1);exact rfl)|refine cdn ?_|refine g_reg (id := 1) ?_|(apply c4 0;exact callK1 (θ := []) (hD := (ValidConfig_ok _ _ preB213 preB213 preB213));exact rfl;exact rfl;exact rfl;refine dM ?_)|(apply c4 0;exact callK1 (θ := []) (hD := (textsCodeM_ok _ _));exact rfl;exact rfl;exact rfl;refine dM ?_)|fail
      simp only [hand,cond_true,if_neg hB]
      repeat' first|(apply n3;exact a_nilO eS rfl;exact rfl)|(apply p3;(first|exact pu1|exact a_ne rfl rfl);exact rfl)|refine cd ?_|fail
      repeat refine cr ?_
      refine ends_id ?_
      refine endK [?_] (h2 := ?_) (h3 := ?_) (nd := ?_)
      rotate_left 1
      all_goals (repeat' first|exact ce0|refine ce ?_|refine ce2 ?_ ?_|(refine Or.inr (bx_eq rfl rfl ?_);(try dsimp only [C.ren,C.ren.all]);(try exact rfl))|exact SVLe.refl|refine ceb ?_)
      all_goals first | exact (show nodupB _ = true from rfl) | exact Or.inr rfl | (rfl)
  · have e : tgO m c n = ([],1) := by unfold tgO; rw [if_neg hvc]
    have hand : (vMach m && vConf m c) = false := by
      cases h1 : vMach m with
      | false => rfl
      | true =>
        cases h2 : vConf m c with
        | false => rfl
        | true => exact absurd ⟨h1,h2⟩ hvc
    rw [e]
    refine does_of (k := 0) Tryz.func18 rfl Tryz.ntmps18 rfl rfl fun w F0 S0 ρ0 => ?_
    dsimp only [argT,argH]
    repeat' first|(apply n3;exact a_nilO eS rfl;exact rfl)|(apply n3;exact a_new (gb := .bx _) rfl;exact rfl;refine dA ?_)|(apply p3;exact a_pure (sv := .one _) rfl;exact rfl)|refine cdn ?_|refine g_reg (id := 0) ?_|fail
    first | refine g_turn (t_frzB (d := 3) (i := 0) rfl rfl rfl) ?_ | refine o_turn (t_frzB (d := 3) (i := 0) rfl rfl rfl) ?_
    repeat' first|(apply p3;(exact pu1);exact rfl)|refine cdn ?_|refine g_reg (id := 1) ?_|(apply c4 0;exact callK1 (θ := []) (hD := (ValidConfig_ok _ _ preB213 preB213 preB213));exact rfl;exact rfl;exact rfl;refine dM ?_)|(apply c4 0;exact callK1 (θ := []) (hD := (textsCodeM_ok _ _));exact rfl;exact rfl;exact rfl;refine dM ?_)|fail
    simp only [hand,cond_false]
    repeat' first|(apply n3;exact a_nilO eS rfl;exact rfl)|(apply p3;(first|exact pu1|exact a_ne rfl rfl);exact rfl)|refine cd ?_|fail
    repeat refine cr ?_
    refine ends_id ?_
    refine endK [?_] (h2 := ?_) (h3 := ?_) (nd := ?_)
    rotate_left 1
    all_goals (repeat' first|exact ce0|refine ce ?_|refine ce2 ?_ ?_|(refine Or.inr (bx_eq rfl rfl ?_);(try dsimp only [C.ren,C.ren.all]);(try exact rfl))|exact SVLe.refl|refine ceb ?_)
    all_goals first | exact (show nodupB _ = true from rfl) | exact Or.inr rfl | (rfl)
end Go.Proofs.YtjmlbmmbionmcaaGreatDoor
end
section
set_option linter.unusedVariables false
set_option linter.unusedSimpArgs false
set_option maxRecDepth 100000
set_option maxHeartbeats 1000000
namespace Go.Proofs.YtjmlbmmbionmcaaGreatDoor
open Go Foot Go.RowKit
theorem en_row {m : Mach} {c : Conf} {u : List Int} (h : enO m c = some u) : (bif decide (m.st ≤ 6) && (nmB c.le && nmB c.ri) then rwS c.st (nmV c.le) (nmV c.ri) else []) = u := by
  unfold enO at h
  by_cases hs : m.st ≤ 6
  · rw [if_pos hs] at h
    cases hn : nmB c.le && nmB c.ri with
    | false => rw [hn] at h; cases h
    | true =>
      rw [hn,cond_true] at h
      by_cases hl : 4 + 2 * (nmV c.le + nmV c.ri) ≤ 1000
      · rw [if_pos hl] at h
        injection h with h
        rw [decide_eq_true hs]
        simp only [Bool.and_self,cond_true]
        unfold rwS
        rw [if_neg (by omega)]
        exact h
      · rw [if_neg hl] at h; cases h
  · rw [if_neg hs] at h; cases h
end Go.Proofs.YtjmlbmmbionmcaaGreatDoor
end
section
set_option linter.unusedVariables false
set_option linter.unusedSimpArgs false
set_option maxRecDepth 100000
set_option maxHeartbeats 1000000
namespace Go.Proofs.YtjmlbmmbionmcaaGreatDoor
open Go Foot Go.RowKit
theorem preB214 {p : Prop} (h : p := by first | with_reducible assumption | omega | (simp only [List.length_append,List.length_cons,List.length_nil,List.length_set,List.length_replicate,List.length_take,List.length_drop,List.length_tail,List.length_dropLast,List.length_reverse] at *; omega) | exact mem_len (by assumption) (by omega) | (with_reducible refine Int.le_trans (Int.ofNat_le.2 (trimR_len _)) ?_; simp only [List.length_cons,List.length_tail]; omega) | (exact (ruAt_ok (by assumption) (by assumption) (by assumption)).2.1) | (exact (ruAt_ok (by assumption) (by assumption) (by assumption)).2.1) | (have := vMach_bd (by assumption); omega) | (simp only [List.length_append,List.length_cons,List.length_nil,repW_len,seN_len] at *; omega) | (simp only [mC_ch,mC_tu]; omega) | (have := vTag_bd (by assumption); omega) | (have := (‹Gd _ _›).le; omega) | (exact tgHalts_no (by assumption)) | (exact tgHead (by assumption) (by assumption) (by assumption)) | (exact Int.le_trans (tgStep_gd (by assumption) (by assumption) (by assumption) (by assumption)).le (by decide)) | (exact vTag_r (by assumption)) | (with_reducible refine Int.le_trans (Int.ofNat_le.2 (pushL_len _ _)) ?_; simp only [List.length_dropLast]; omega) | exact ls_at (by assumption) (by omega) | exact pt_gd (by assumption) | exact lv_at (by assumption) (by omega) | exact pt_gd (lv_at (by assumption) (by omega)) | exact (ask_ok (by assumption)).1 | exact (ask_ok (by assumption)).2.1 | exact (ask_ok (by assumption)).2.2.1 | exact (ask_ok (by assumption)).2.2.2 | trivial) : p := h
theorem l19StepsM_ok (n : Int) : Does Tryz.prog 51 [.one (int n)] [] (.one (boo (decide (0 ≤ n ∧ n ≤ 599)))) [] := by
  refine does_of (k := 0) Tryz.func51 rfl Tryz.ntmps51 rfl rfl fun w F0 S0 ρ0 => ?_
  dsimp only [argT,argH]
  repeat' first|(apply p3;exact pu1;exact rfl)|refine cd ?_|(apply c4 0;exact callK1 (θ := []) (hD := (l00In_ok _ _ _));exact rfl;exact rfl;exact rfl;refine dM ?_)|fail
  repeat refine cr ?_
  refine ends_id ?_
  refine endK [] (h2 := ?_) (h3 := ?_) (nd := ?_)
  all_goals (repeat' first|exact ce0|refine ce ?_|refine ce2 ?_ ?_|exact SVLe.refl|refine ceb ?_)
  all_goals first | exact (show nodupB _ = true from rfl) | exact Or.inr rfl | (rfl)
theorem trA_gdM {t : Tg} (hv : vTag t = true) {k : Nat} {w : List Int} (hw : Gd t w) : (∀ y ∈ (trA t k [] w).1,Gd t y) ∧ ((trA t k [] w).1).length ≤ k + 1 := by
  rw [trA_R]
  by_cases z : (trR t k [] w).1.2.2 = 0
  · rw [if_pos z]
    have := trR_gd hv k [] w (by simp) hw
    simpa using this
  · rw [if_neg z]
    simp
theorem map_take_sM {α β : Type} (f : α → β) {l : List α} {i : Int} (h0 : 0 ≤ i) (h : i.toNat < l.length) : (l.take (i + 1).toNat).map f = (l.take i.toNat).map f ++ [f l[i.toNat]] := by
  rw [show (i + 1).toNat = i.toNat + 1 by omega,List.take_succ_eq_append_getElem h,List.map_append]; rfl
theorem sTagTexts_ok (m : Mach) (c : Conf) (n : Int) (hm : (m.ru.length : Int) ≤ 1048576) (hx : (c.le.length : Int) ≤ 1048576) (hy : (c.ri.length : Int) ≤ 1048576) : Does Tryz.prog 17 [.agg (maC m),.agg (coC c),.one (int n)] [] (.tup [(false,[.gv 0]),(false,[int (tgO m c n).2])]) [.row 1 (rows eS (tgO m c n).1)] := by
  by_cases hvc : vMach m = true ∧ vConf m c = true
  · obtain ⟨hv,hvd⟩ := hvc
    have hb := vMach_bd hv
    by_cases hB : 0 ≤ n ∧ n ≤ 599
    · by_cases hsy : m.sy = 2
      · have e : tgO m c n = (enO m c).elim ([],5) fun w => tgW m w n := by unfold tgO; rw [if_pos ⟨hv,hvd⟩,if_pos hB,if_pos hsy]
        cases hen : enO m c with
        | none =>
          rw [hen] at e
          rw [e]
          dsimp only [Option.elim]
          refine does_of (k := 0) Tryz.func17 rfl Tryz.ntmps17 rfl rfl fun w F0 S0 ρ0 => ?_
          dsimp only [argT,argH]
          repeat' first|(apply n3;exact a_nilO eS rfl;exact rfl)|(apply n3;exact a_new (gb := .bx _) rfl;exact rfl;refine dA ?_)|(apply p3;exact a_pure (sv := .one _) rfl;exact rfl)|refine cdn ?_|refine g_reg (id := 0) ?_|fail
          first | refine g_turn (t_frzB (d := 3) (i := 0) rfl rfl rfl) ?_ | refine o_turn (t_frzB (d := 3) (i := 0) rfl rfl rfl) ?_
          first | refine g_turn (t_frzB (d := 4) (i := 1) rfl rfl rfl) ?_ | refine o_turn (t_frzB (d := 4) (i := 1) rfl rfl rfl) ?_
          repeat' first|(apply p3;exact pu1;exact rfl)|refine cdn ?_|refine g_reg (id := 1) ?_|(apply c4 0;exact callK1 (θ := []) (hD := (l15Ask_ok _ _ preB214 preB214 preB214));exact rfl;exact rfl;exact rfl;refine dM ?_)|fail
          simp only [if_pos (And.intro hv hvd),if_pos hsy]
          repeat' first|(apply n3;exact a_new (gb := .bx _) rfl;exact rfl;refine dA ?_)|(apply p3;(first|exact pu1|exact puC|exact a_ne rfl rfl);exact rfl)|refine cdn ?_|refine g_reg (id := 2) ?_|refine g_reg (id := 4) ?_|refine g_reg (id := 6) ?_|(apply w3;exact a_st_bx rfl rfl rfl rfl (fN rfl rfl) (Nat.le_of_ble_eq_true rfl) rfl;exact rfl;refine dS ?_)|(apply c4 3;exact callK0 (θ := []) (hD := (l15Encode_ok _ _ preB214 preB214 preB214));exact rfl;exact rfl;exact rfl;refine dM ?_)|(apply py3;exact rfl;exact rfl;(exact pu1);exact rfl;exact rfl)|(apply cy4 0;exact rfl;exact rfl;exact callK1 (θ := []) (hD := (l19StepsM_ok _));exact rfl;exact rfl;exact rfl;exact rfl;refine dM ?_)|((refine g_cond rfl (fun hc => ?_) (fun hc => ?_)) <;> (try simp only [dcB] at hc) <;> (try first|contradiction|(exfalso;omega)))|fail
          simp only [hen,Option.isSome_none]
          repeat' first|(apply n3;exact a_nilO eS rfl;exact rfl)|(apply p3;(exact pu1);exact rfl)|refine cd ?_|fail
          repeat refine cr ?_
          refine ends_id ?_
          refine endK [?_] (h2 := ?_) (h3 := ?_) (nd := ?_)
          rotate_left 1
          all_goals (repeat' first|exact ce0|refine ce ?_|refine ce2 ?_ ?_|(refine Or.inr (bx_eq rfl rfl ?_);(try dsimp only [C.ren,C.ren.all]);(try exact rfl))|exact SVLe.refl|refine ceb ?_)
          all_goals first | exact (show nodupB _ = true from rfl) | exact Or.inr rfl | (rfl)
        | some u =>
          rw [hen] at e
          obtain ⟨g,gu⟩ := en_gd hv hsy hvd hen
          have gt := tmT_v g
          obtain ⟨t1,t2⟩ := tm_bd g
          have er := en_row hen
          obtain ⟨ht1,ht2⟩ := trA_gdM gt (k := n.toNat) gu
          rw [e]
          dsimp only [Option.elim]
          rw [tgW_eq]
          refine does_of (k := 0) Tryz.func17 rfl Tryz.ntmps17 rfl rfl fun w F0 S0 ρ0 => ?_
          dsimp only [argT,argH]
          repeat' first|(apply n3;exact a_nilO eS rfl;exact rfl)|(apply n3;exact a_new (gb := .bx _) rfl;exact rfl;refine dA ?_)|(apply p3;exact a_pure (sv := .one _) rfl;exact rfl)|refine cdn ?_|refine g_reg (id := 0) ?_|fail
          first | refine g_turn (t_frzB (d := 3) (i := 0) rfl rfl rfl) ?_ | refine o_turn (t_frzB (d := 3) (i := 0) rfl rfl rfl) ?_
          first | refine g_turn (t_frzB (d := 4) (i := 1) rfl rfl rfl) ?_ | refine o_turn (t_frzB (d := 4) (i := 1) rfl rfl rfl) ?_
          repeat' first|(apply p3;exact pu1;exact rfl)|refine cdn ?_|refine g_reg (id := 1) ?_|(apply c4 0;exact callK1 (θ := []) (hD := (l15Ask_ok _ _ preB214 preB214 preB214));exact rfl;exact rfl;exact rfl;refine dM ?_)|fail
          simp only [if_pos (And.intro hv hvd),if_pos hsy]
          repeat' first|(apply n3;exact a_new (gb := .bx _) rfl;exact rfl;refine dA ?_)|(apply p3;(first|exact pu1|exact puC|exact a_ne rfl rfl);exact rfl)|refine cdn ?_|refine g_reg (id := 2) ?_|refine g_reg (id := 4) ?_|refine g_reg (id := 6) ?_|(apply w3;exact a_st_bx rfl rfl rfl rfl (fN rfl rfl) (Nat.le_of_ble_eq_true rfl) rfl;exact rfl;refine dS ?_)|(apply c4 3;exact callK0 (θ := []) (hD := (l15Encode_ok _ _ preB214 preB214 preB214));exact rfl;exact rfl;exact rfl;refine dM ?_)|(apply py3;exact rfl;exact rfl;(exact pu1);exact rfl;exact rfl)|(apply cy4 0;exact rfl;exact rfl;exact callK1 (θ := []) (hD := (l19StepsM_ok _));exact rfl;exact rfl;exact rfl;exact rfl;refine dM ?_)|((refine g_cond rfl (fun hc => ?_) (fun hc => ?_)) <;> (try simp only [dcB] at hc) <;> (try first|contradiction|(exfalso;omega)))|fail
          simp only [hen,Option.isSome_some,tmY_ok g.s,er]
          repeat' first|(apply p3;(exact pu1);exact rfl)|refine cdn ?_|refine g_reg (id := 7) ?_|fail
          try simp only [setRow,C.frz.all,C.frz,SV.frz,tFrz,scC,List.map_cons,List.map_nil,List.set_cons_zero,List.set_cons_succ,Nat.zero_add,List.getElem?_cons_zero,List.getElem?_cons_succ,List.take_succ_cons,List.take_zero,List.drop_zero]
          refine g_turn (t_freeze (i := 3) rfl nowR) ?_
          try simp only [setRow,C.frz.all,C.frz,SV.frz,tFrz,scC,List.map_cons,List.map_nil,List.set_cons_zero,List.set_cons_succ,Nat.zero_add,List.getElem?_cons_zero,List.getElem?_cons_succ,List.take_succ_cons,List.take_zero,List.drop_zero]
          refine g_turn (t_freeze (i := 4) rfl nowR) ?_
          try simp only [setRow,C.frz.all,C.frz,SV.frz,tFrz,scC,List.map_cons,List.map_nil,List.set_cons_zero,List.set_cons_succ,Nat.zero_add,List.getElem?_cons_zero,List.getElem?_cons_succ,List.take_succ_cons,List.take_zero,List.drop_zero]
          refine g_turn (t_freeze (i := 5) rfl nowR) ?_
          try simp only [setRow,C.frz.all,C.frz,SV.frz,tFrz,scC,List.map_cons,List.map_nil,List.set_cons_zero,List.set_cons_succ,Nat.zero_add,List.getElem?_cons_zero,List.getElem?_cons_succ,List.take_succ_cons,List.take_zero,List.drop_zero]
          first | refine g_turn (t_frzB (d := 9) (i := 6) rfl rfl rfl) ?_ | refine o_turn (t_frzB (d := 9) (i := 6) rfl rfl rfl) ?_
          have hul := gu.le
          repeat' first|(apply p3;(exact pu1);exact rfl)|refine cdn ?_|refine g_reg (id := 9) ?_|(apply c4 1;exact callK0 (θ := []) (hD := (l19Words_ok (tmT m) u n gt gu t1 hB.1 hB.2));exact rfl;exact rfl;exact rfl;refine dM ?_)|fail
          generalize trA (tmT m) n.toNat [] u = R at *
          obtain ⟨L,ok⟩ := R
          dsimp only at *
          cases ok with
          | false =>
            simp only [cond_false]
            repeat' first|(apply n3;exact a_nilO eS rfl;exact rfl)|(apply p3;(exact pu1);exact rfl)|refine cd ?_|fail
            repeat refine cr ?_
            refine ends_id ?_
            refine endK [?_] (h2 := ?_) (h3 := ?_) (nd := ?_)
            rotate_left 1
            all_goals (repeat' first|exact ce0|refine ce ?_|refine ce2 ?_ ?_|(refine Or.inr (bx_eq rfl rfl ?_);(try dsimp only [C.ren,C.ren.all]);(try exact rfl))|exact SVLe.refl|refine ceb ?_)
            all_goals first | exact (show nodupB _ = true from rfl) | exact Or.inr rfl | (rfl)
          | true =>
            simp only [cond_true]
            first | refine g_turn (t_frzR (d := 12) (i := 7) rfl rfl shutR) ?_ | refine o_turn (t_frzR (d := 12) (i := 7) rfl rfl shutR) ?_
            repeat' first|(apply n3;(exact a_litE eS [] rfl rfl rfl rfl rfl rfl rfl rfl);exact rfl;refine dA ?_)|(apply p3;(exact pu1);exact rfl)|refine cd ?_|fail
            refine g_loop_id ?_
            refine loopK [3,6,7,12] [8] (fun y : Int × List Bs => 0 ≤ y.1 ∧ y.1 ≤ L.length ∧ y.2 = (L.take y.1.toNat).map (tgX m)) (fun y => [(15,.one (int y.1)),(14,.one (.gv 8))]) (fun y => [(8,.row 1 (rows eS y.2))]) (fun y => (L.length - y.1).toNat) ((0 : Int),[]) [0,1,2,3,4,5,6,7,8] (hI := ?_) (hr := ?_)
            · exact ⟨by simp,by simp,by simp⟩
            · rintro ⟨i,ts⟩ ⟨j0,j1,j2⟩
              dsimp only [List.cons_append,List.nil_append] at *
              skip
              have jl : (ts.length : Int) ≤ 1048576 := by (rw [j2,List.length_map,List.length_take]; omega)
              repeat' first|(apply p3;(first|exact pu1|exact puN|exact puC);exact rfl)|refine cdn ?_|refine g_reg (id := 14) ?_|refine g_reg (id := 21) ?_|((refine g_cond rfl (fun hc => ?_) (fun hc => ?_)) <;> (try simp only [dcB] at hc) <;> (try first|contradiction|(exfalso;omega)))|fail
              · have hi : i.toNat < L.length := by omega
                have gli := ht1 _ (List.getElem_mem hi)
                obtain ⟨hin,hzl⟩ := gd_in (by omega) gli
                have hds := dec_same (m := m) (w := L[i.toNat]'hi) (by omega) hin
                have hms := map_take_sM (tgX m) j0 hi
                repeat' first|(apply n3;exact a_new (gb := .bx _) rfl;exact rfl;refine dA ?_)|(apply p3;(first|exact pu1|exact puI);exact rfl)|refine cdn ?_|refine g_reg (id := 16) ?_|refine g_reg (id := 17) ?_|(apply w3;(exact a_st_bx rfl rfl rfl rfl (fN rfl rfl) (Nat.le_of_ble_eq_true rfl) rfl);exact rfl;refine dS ?_)|(apply c4 2;exact callK1 (θ := []) (hD := (l15Decode_ok m (L[i.toNat]'hi) g hzl));exact rfl;exact rfl;exact rfl;refine dM ?_)|fail
                cases hd : dcI m (L[i.toNat]'hi) with
                | none =>
                  rw [tgX_none hd] at hms
                  simp only [hds,hd,Option.isSome_none]
                  repeat' first|(apply n3;(exact a_litE eS [_] rfl rfl rfl rfl rfl rfl rfl rfl);exact rfl;refine dA ?_)|(apply p3;(first|exact pu1|exact a_add rfl rfl (by omega) (by omega));exact rfl)|refine cd ?_|(apply s3;exact a_appE (fP rfl) rfl rfl rfl rfl nowR (by (simp <;> omega)) (by decide) (by decide) (by exact rfl);exact rfl;exact rfl)|fail
                  refine q_again (i + 1,ts ++ [[]]) [0,1,2,3,4,5,6,7,13] (by exact stk) ?_ ?_
                  · dsimp only
                    exact ⟨by omega,by omega,by rw [hms,← j2]⟩
                  · dsimp only; omega
                | some v =>
                  rw [tgX_some hd] at hms
                  have hcf := dcI_cf (by omega) hin hzl hd
                  simp only [hds,hd,Option.isSome_some,Option.getD_some]
                  try simp only [setRow,C.frz.all,C.frz,SV.frz,tFrz,scC,List.map_cons,List.map_nil,List.set_cons_zero,List.set_cons_succ,Nat.zero_add,List.getElem?_cons_zero,List.getElem?_cons_succ,List.take_succ_cons,List.take_zero,List.drop_zero]
                  refine g_turn (t_freeze (i := 9) rfl nowR) ?_
                  try simp only [setRow,C.frz.all,C.frz,SV.frz,tFrz,scC,List.map_cons,List.map_nil,List.set_cons_zero,List.set_cons_succ,Nat.zero_add,List.getElem?_cons_zero,List.getElem?_cons_succ,List.take_succ_cons,List.take_zero,List.drop_zero]
                  refine g_turn (t_freeze (i := 10) rfl nowR) ?_
                  try simp only [setRow,C.frz.all,C.frz,SV.frz,tFrz,scC,List.map_cons,List.map_nil,List.set_cons_zero,List.set_cons_succ,Nat.zero_add,List.getElem?_cons_zero,List.getElem?_cons_succ,List.take_succ_cons,List.take_zero,List.drop_zero]
                  first | refine g_turn (t_frzB (d := 16) (i := 11) rfl rfl rfl) ?_ | refine o_turn (t_frzB (d := 16) (i := 11) rfl rfl rfl) ?_
                  repeat' first|(apply n3;(exact a_litE eS [_] rfl rfl rfl rfl rfl rfl rfl rfl);exact rfl;refine dA ?_)|(apply p3;(first|exact pu1|exact a_add rfl rfl (by omega) (by omega));exact rfl)|refine cdn ?_|refine g_reg (id := 18) ?_|refine g_reg (id := 19) ?_|refine g_reg (id := 20) ?_|refine g_reg (id := 15) ?_|(apply s3;exact a_appE (fP rfl) rfl rfl rfl rfl nowR (by (simp <;> omega)) (by decide) (by decide) (by exact rfl);exact rfl;exact rfl)|(apply c4 0;exact callK1 (θ := []) (hD := (l05Show_ok v hcf));exact rfl;exact rfl;exact rfl;refine dM ?_)|fail
                  refine q_again (i + 1,ts ++ [coT v]) [0,1,2,3,4,5,6,7,13] (by exact stk) ?_ ?_
                  · dsimp only
                    exact ⟨by omega,by omega,by rw [hms,← j2]⟩
                  · dsimp only; omega
              · have et : ts = L.map (tgX m) := by rw [j2,List.take_of_length_le (by omega)]
                rw [← et]
                skip
                repeat refine cr ?_
                refine ends_id ?_
                refine endK [?_] (h2 := ?_) (h3 := ?_) (nd := ?_)
                rotate_left 1
                all_goals (repeat' first|exact ce0|refine ce ?_|refine ce2 ?_ ?_|(refine Or.inr (bx_eq rfl rfl ?_);(try dsimp only [C.ren,C.ren.all]);(try exact rfl))|exact SVLe.refl|refine ceb ?_)
                all_goals first | exact (show nodupB _ = true from rfl) | exact Or.inr rfl | (rfl)
      · have e : tgO m c n = ([],2) := by unfold tgO; rw [if_pos ⟨hv,hvd⟩,if_pos hB,if_neg hsy]
        rw [e]
        refine does_of (k := 0) Tryz.func17 rfl Tryz.ntmps17 rfl rfl fun w F0 S0 ρ0 => ?_
        dsimp only [argT,argH]
        repeat' first|(apply n3;exact a_nilO eS rfl;exact rfl)|(apply n3;exact a_new (gb := .bx _) rfl;exact rfl;refine dA ?_)|(apply p3;exact a_pure (sv := .one _) rfl;exact rfl)|refine cdn ?_|refine g_reg (id := 0) ?_|fail
        first | refine g_turn (t_frzB (d := 3) (i := 0) rfl rfl rfl) ?_ | refine o_turn (t_frzB (d := 3) (i := 0) rfl rfl rfl) ?_
        first | refine g_turn (t_frzB (d := 4) (i := 1) rfl rfl rfl) ?_ | refine o_turn (t_frzB (d := 4) (i := 1) rfl rfl rfl) ?_
        repeat' first|(apply p3;exact pu1;exact rfl)|refine cdn ?_|refine g_reg (id := 1) ?_|(apply c4 0;exact callK1 (θ := []) (hD := (l15Ask_ok _ _ preB214 preB214 preB214));exact rfl;exact rfl;exact rfl;refine dM ?_)|fail
        simp only [if_pos (And.intro hv hvd),if_neg hsy]
        repeat' first|(apply n3;exact a_nilO eS rfl;exact rfl)|(apply p3;(first|exact pu1|exact puC|exact a_ne rfl rfl);exact rfl)|refine cd ?_|refine o_no rfl rfl rfl rfl ?_|fail
        repeat refine cr ?_
        refine ends_id ?_
        refine endK [?_] (h2 := ?_) (h3 := ?_) (nd := ?_)
        rotate_left 1
        all_goals (repeat' first|exact ce0|refine ce ?_|refine ce2 ?_ ?_|(refine Or.inr (bx_eq rfl rfl ?_);(try dsimp only [C.ren,C.ren.all]);(try exact rfl))|exact SVLe.refl|refine ceb ?_)
        all_goals first | exact (show nodupB _ = true from rfl) | exact Or.inr rfl | (rfl)
    · have e : tgO m c n = ([],2) := by unfold tgO; rw [if_pos ⟨hv,hvd⟩,if_neg hB]
      rw [e]
      have hdn : decide (0 ≤ n ∧ n ≤ 599) = false := decide_eq_false hB
      refine does_of (k := 0) Tryz.func17 rfl Tryz.ntmps17 rfl rfl fun w F0 S0 ρ0 => ?_
      dsimp only [argT,argH]
      repeat' first|(apply n3;exact a_nilO eS rfl;exact rfl)|(apply n3;exact a_new (gb := .bx _) rfl;exact rfl;refine dA ?_)|(apply p3;exact a_pure (sv := .one _) rfl;exact rfl)|refine cdn ?_|refine g_reg (id := 0) ?_|fail
      first | refine g_turn (t_frzB (d := 3) (i := 0) rfl rfl rfl) ?_ | refine o_turn (t_frzB (d := 3) (i := 0) rfl rfl rfl) ?_
      first | refine g_turn (t_frzB (d := 4) (i := 1) rfl rfl rfl) ?_ | refine o_turn (t_frzB (d := 4) (i := 1) rfl rfl rfl) ?_
      repeat' first|(apply p3;exact pu1;exact rfl)|refine cdn ?_|refine g_reg (id := 1) ?_|(apply c4 0;exact callK1 (θ := []) (hD := (l15Ask_ok _ _ preB214 preB214 preB214));exact rfl;exact rfl;exact rfl;refine dM ?_)|fail
      simp only [if_pos (And.intro hv hvd)]
      by_cases hsy : m.sy = 2
      · simp only [if_pos hsy]
        repeat' first|(apply n3;exact a_nilO eS rfl;exact rfl)|(apply p3;(first|exact pu1|exact puC|exact a_ne rfl rfl);exact rfl)|refine cd ?_|(apply py3;exact rfl;exact rfl;(exact pu1);exact rfl;exact rfl)|(apply cy4 0;exact rfl;exact rfl;exact callK1 (θ := []) (hD := (l19StepsM_ok _));exact rfl;exact rfl;exact rfl;exact rfl;refine dM ?_)|((refine g_cond rfl (fun hc => ?_) (fun hc => ?_)) <;> (try simp only [dcB] at hc) <;> (try first|contradiction|(exfalso;omega)))|fail
        repeat refine cr ?_
        refine ends_id ?_
        refine endK [?_] (h2 := ?_) (h3 := ?_) (nd := ?_)
        rotate_left 1
        all_goals (repeat' first|exact ce0|refine ce ?_|refine ce2 ?_ ?_|(refine Or.inr (bx_eq rfl rfl ?_);(try dsimp only [C.ren,C.ren.all]);(try exact rfl))|exact SVLe.refl|refine ceb ?_)
        all_goals first | exact (show nodupB _ = true from rfl) | exact Or.inr rfl | (rfl)
      · simp only [if_neg hsy]
        repeat' first|(apply n3;exact a_nilO eS rfl;exact rfl)|(apply p3;(first|exact pu1|exact puC|exact a_ne rfl rfl);exact rfl)|refine cd ?_|refine o_no rfl rfl rfl rfl ?_|fail
        repeat refine cr ?_
        refine ends_id ?_
        refine endK [?_] (h2 := ?_) (h3 := ?_) (nd := ?_)
        rotate_left 1
        all_goals (repeat' first|exact ce0|refine ce ?_|refine ce2 ?_ ?_|(refine Or.inr (bx_eq rfl rfl ?_);(try dsimp only [C.ren,C.ren.all]);(try exact rfl))|exact SVLe.refl|refine ceb ?_)
        all_goals first | exact (show nodupB _ = true from rfl) | exact Or.inr rfl | (rfl)
  · have e : tgO m c n = ([],1) := by unfold tgO; rw [if_neg hvc]
    rw [e]
    refine does_of (k := 0) Tryz.func17 rfl Tryz.ntmps17 rfl rfl fun w F0 S0 ρ0 => ?_
    dsimp only [argT,argH]
    repeat' first|(apply n3;exact a_nilO eS rfl;exact rfl)|(apply n3;exact a_new (gb := .bx _) rfl;exact rfl;refine dA ?_)|(apply p3;exact a_pure (sv := .one _) rfl;exact rfl)|refine cdn ?_|refine g_reg (id := 0) ?_|fail
    first | refine g_turn (t_frzB (d := 3) (i := 0) rfl rfl rfl) ?_ | refine o_turn (t_frzB (d := 3) (i := 0) rfl rfl rfl) ?_
    first | refine g_turn (t_frzB (d := 4) (i := 1) rfl rfl rfl) ?_ | refine o_turn (t_frzB (d := 4) (i := 1) rfl rfl rfl) ?_
    repeat' first|(apply p3;exact pu1;exact rfl)|refine cdn ?_|refine g_reg (id := 1) ?_|(apply c4 0;exact callK1 (θ := []) (hD := (l15Ask_ok _ _ preB214 preB214 preB214));exact rfl;exact rfl;exact rfl;refine dM ?_)|fail
    simp only [if_neg hvc]
    repeat' first|(apply n3;exact a_nilO eS rfl;exact rfl)|(apply p3;(first|exact pu1|exact puC);exact rfl)|refine cd ?_|fail
    repeat refine cr ?_
    refine ends_id ?_
    refine endK [?_] (h2 := ?_) (h3 := ?_) (nd := ?_)
    rotate_left 1
    all_goals (repeat' first|exact ce0|refine ce ?_|refine ce2 ?_ ?_|(refine Or.inr (bx_eq rfl rfl ?_);(try dsimp only [C.ren,C.ren.all]);(try exact rfl))|exact SVLe.refl|refine ceb ?_)
    all_goals first | exact (show nodupB _ = true from rfl) | exact Or.inr rfl | (rfl)
end Go.Proofs.YtjmlbmmbionmcaaGreatDoor
end
section
set_option linter.unusedVariables false
set_option linter.unusedSimpArgs false
set_option maxRecDepth 100000
set_option maxHeartbeats 4000000
namespace Go.Proofs.YtjmlbmmbionmcaaGreatDoor
open Go Foot
@[irreducible] def marks (k : Int) (n : Nat) : List Int := (List.range n).map fun (i : Nat) => k + (i : Int)
theorem marks_len (k : Int) (n : Nat) : (marks k n).length = n := by unfold marks; simp
theorem marks_get (k : Int) (n i : Nat) (h : i < n) : (marks k n)[i]? = some (k + i) := by unfold marks; simp [h]
theorem mark_end {k : Int} {xs l : List Int} (h1 : l.length = xs.length) (h2 : ∀ j (h : j < xs.length),l[j]? = some (k + j)) : l = marks k xs.length := by
  apply List.ext_getElem?
  intro j
  by_cases hj : j < xs.length
  · rw [marks_get k _ j hj,h2 j hj]
  · rw [List.getElem?_eq_none (by omega),List.getElem?_eq_none (by rw [marks_len]; omega)]
theorem markInt64S_ok (xs : List Int) (k : Int) (h1 : 0 ≤ k) (h2 : k ≤ 4611686018427387904) (hx : (xs.length : Int) ≤ 4611686018427) : Does Tryz.prog 49 [.one (.gv 0),.one (int k)] [roI xs] (.one (int (k + xs.length))) [roI (marks k xs.length)] := by
  refine does_of (k := 1) Tryz.func49 rfl Tryz.ntmps49 rfl rfl fun w F0 S0 ρ0 => ?_
  dsimp only [argT,argH]
  repeat' first|(apply p3;(exact pu1);exact rfl)|refine cd ?_
  refine g_loop_id ?_
  refine loopK [0,4] [0] (fun y : Int × List Int => 0 ≤ y.1 ∧ y.1 ≤ xs.length ∧ y.2.length = xs.length ∧ ∀ (j : Nat),(j : Int) < y.1 → y.2[j]? = some (k + j)) (fun y => [(5,.one (int y.1)),(1,.one (int (k + y.1)))]) (fun y => [(0,roI y.2)]) (fun y => (xs.length - y.1).toNat) ((0 : Int),xs) [0] (hI := ?_) (hr := ?_)
  · exact ⟨by simp,by simp,rfl,fun j h' => by simp at h'; omega⟩
  · rintro ⟨i,l⟩ ⟨k1,k2,k3,k4⟩
    dsimp only [List.cons_append,List.nil_append] at *
    skip
    repeat' first|(apply p3;(first|exact pu1|exact puN|exact puC|exact a_add rfl rfl (by omega) (by omega)|exact puI);exact rfl)|refine cd ?_|(apply w3;(exact a_st_rowI rfl rfl rfl rfl (fN rfl rfl) bnd);exact rfl;refine dS ?_)|((refine g_cond rfl (fun hc => ?_) (fun hc => ?_)) <;> (try simp only [dcB] at hc) <;> (try first|contradiction|(exfalso;omega)))
    · refine q_again (i + 1,l.set i.toNat (k + i)) [0] (by exact stk) ?_ ?_
      · refine ⟨by dsimp only; omega,by dsimp only; omega,by simp [k3],fun j h => ?_⟩
        dsimp only at h ⊢
        rw [List.getElem?_set]
        split
        · rename_i e
          subst e
          rw [if_pos (by omega)]
          congr 1
          omega
        · exact k4 j (by omega)
      · dsimp only; omega
    · have hi : i = xs.length := by omega
      subst hi
      have hl := mark_end (k := k) k3 fun j hj => k4 j (by omega)
      repeat refine cr ?_
      refine ends_id ?_
      refine endK [] (h2 := ?_) (h3 := ?_) (nd := ?_)
      all_goals (repeat' first|exact ce0|refine ce ?_|refine ce2 ?_ ?_|(refine Or.inr (bx_eq rfl rfl ?_);(try dsimp only [C.ren,C.ren.all]);(try exact rfl))|exact SVLe.refl|refine ceb ?_)
      all_goals first | exact (show nodupB _ = true from rfl) | exact Or.inr rfl | (exact hl)
@[irreducible] def held (k : Int) (xs : List Int) : Int := if xs = marks k xs.length then k + xs.length else -1
end Go.Proofs.YtjmlbmmbionmcaaGreatDoor
end
section
set_option linter.unusedVariables false
set_option linter.unusedSimpArgs false
set_option maxRecDepth 100000
set_option maxHeartbeats 4000000
namespace Go.Proofs.YtjmlbmmbionmcaaGreatDoor
open Go Foot
@[irreducible] def marksR (k : Int) (n : Nat) : List Rule' := (List.range n).map fun (i : Nat) => ⟨k + 3 * (i : Int),k + 3 * (i : Int) + 1,k + 3 * (i : Int) + 2⟩
theorem marksR_len (k : Int) (n : Nat) : (marksR k n).length = n := by unfold marksR; simp
theorem marksR_get (k : Int) (n i : Nat) (h : i < n) : (marksR k n)[i]? = some ⟨k + 3 * i,k + 3 * i + 1,k + 3 * i + 2⟩ := by unfold marksR; simp [h]
theorem markR_end {k : Int} {xs l : List Rule'} (h1 : l.length = xs.length) (h2 : ∀ j (h : j < xs.length),l[j]? = some ⟨k + 3 * j,k + 3 * j + 1,k + 3 * j + 2⟩) : l = marksR k xs.length := by
  apply List.ext_getElem?
  intro j
  by_cases hj : j < xs.length
  · rw [marksR_get k _ j hj,h2 j hj]
  · rw [List.getElem?_eq_none (by omega),List.getElem?_eq_none (by rw [marksR_len]; omega)]
theorem preD2 {p : Prop} (h : p := by first | with_reducible assumption | omega | (simp only [List.length_append,List.length_cons,List.length_nil,List.length_set,List.length_replicate,List.length_take,List.length_drop,List.length_tail,List.length_dropLast,List.length_reverse] at *; omega) | exact mem_len (by assumption) (by omega) | (with_reducible refine Int.le_trans (Int.ofNat_le.2 (trimR_len _)) ?_; simp only [List.length_cons,List.length_tail]; omega) | (exact (ruAt_ok (by assumption) (by assumption) (by assumption)).2.1) | (exact (ruAt_ok (by assumption) (by assumption) (by assumption)).2.1) | (have := vMach_bd (by assumption); omega) | (simp only [mC_ch,mC_tu]; omega) | (have := vTag_bd (by assumption); omega) | (have := (‹Gd _ _›).le; omega) | (exact tgHalts_no (by assumption)) | (exact tgHead (by assumption) (by assumption) (by assumption)) | (exact Int.le_trans (tgStep_gd (by assumption) (by assumption) (by assumption) (by assumption)).le (by decide)) | (exact vTag_r (by assumption)) | (with_reducible refine Int.le_trans (Int.ofNat_le.2 (pushL_len _ _)) ?_; simp only [List.length_dropLast]; omega) | exact ls_at (by assumption) (by omega) | exact pt_gd (by assumption) | exact lv_at (by assumption) (by omega) | exact pt_gd (lv_at (by assumption) (by omega)) | exact (ask_ok (by assumption)).1 | exact (ask_ok (by assumption)).2.1 | exact (ask_ok (by assumption)).2.2.1 | exact (ask_ok (by assumption)).2.2.2 | (simp only [marks_len]; omega) | (simp only [marksR_len]; omega) | trivial) : p := h
theorem markRuleS_ok (m : Mach) (k : Int) (h1 : 0 ≤ k) (h2 : k ≤ 4611686018427387904) (hx : (m.ru.length : Int) ≤ 4611686018427) : Does Tryz.prog 48 [.one (.gv 0),.one (int k)] [.row 3 (rows eR m.ru)] (.one (int (k + 3 * m.ru.length))) [.row 3 (rows eR (marksR k m.ru.length))] := by
  refine does_of (k := 1) Tryz.func48 rfl Tryz.ntmps48 rfl rfl fun w F0 S0 ρ0 => ?_
  dsimp only [argT,argH]
  repeat' first|(apply p3;(exact pu1);exact rfl)|refine cd ?_
  refine g_loop_id ?_
  refine loopK [0,4] [0] (fun y : Int × List Rule' => 0 ≤ y.1 ∧ y.1 ≤ m.ru.length ∧ y.2.length = m.ru.length ∧ ∀ (j : Nat),(j : Int) < y.1 → y.2[j]? = some ⟨k + 3 * j,k + 3 * j + 1,k + 3 * j + 2⟩) (fun y => [(5,.one (int y.1)),(1,.one (int (k + 3 * y.1)))]) (fun y => [(0,.row 3 (rows eR y.2))]) (fun y => (m.ru.length - y.1).toNat) ((0 : Int),m.ru) [0] (hI := ?_) (hr := ?_)
  · exact ⟨by simp,by simp,rfl,fun j h' => by simp at h'; omega⟩
  · rintro ⟨i,l⟩ ⟨k1,k2,k3,k4⟩
    dsimp only [List.cons_append,List.nil_append] at *
    skip
    repeat' first|(apply p3;(first|exact pu1|exact puN|exact puC|exact a_add rfl rfl (by omega) (by omega)|exact puI);exact rfl)|refine cd ?_|(apply w3;(exact a_stF (E := eR) ⟨_,_,_⟩ rfl rfl rfl rfl (fN rfl rfl) (Nat.le_of_ble_eq_true rfl) (Nat.le_of_ble_eq_true rfl) (by first|exact List.getElem?_set_self bnd|exact List.getElem?_eq_getElem bnd) (by (try dsimp only [setRow,List.set_cons_succ,List.set_cons_zero]);first|done|exact rfl) rfl);exact rfl;refine dS ?_)|((refine g_cond rfl (fun hc => ?_) (fun hc => ?_)) <;> (try simp only [dcB] at hc) <;> (try first|contradiction|(exfalso;omega)))
    · refine q_again (i + 1,_) [0] (by exact stk) ?_ ?_
      · refine ⟨by dsimp only; omega,by dsimp only; omega,by simp [k3],fun j h => ?_⟩
        dsimp only at h ⊢
        simp only [List.set_set]
        rw [List.getElem?_set]
        split
        · rename_i e
          subst e
          rw [if_pos (by omega),show ((i.toNat : Nat) : Int) = i by omega,show k + 3 * i + 1 + 1 = k + 3 * i + 2 by omega]
        · exact k4 j (by omega)
      · dsimp only; omega
    · have hi : i = m.ru.length := by omega
      subst hi
      have hl := markR_end (k := k) k3 fun j hj => k4 j (by omega)
      rw [← hl]
      repeat refine cr ?_
      refine ends_id ?_
      refine endK [] (h2 := ?_) (h3 := ?_) (nd := ?_)
      all_goals (repeat' first|exact ce0|refine ce ?_|refine ce2 ?_ ?_|(refine Or.inr (bx_eq rfl rfl ?_);(try dsimp only [C.ren,C.ren.all]);(try exact rfl))|exact SVLe.refl|refine ceb ?_)
      all_goals first | exact (show nodupB _ = true from rfl) | exact Or.inr rfl | (rfl)
theorem markMachR_ok (m : Mach) (k : Int) (h1 : 0 ≤ k) (h2 : k ≤ 4611686018427387904) (hx : (m.ru.length : Int) ≤ 4611686018427) : Does Tryz.prog 14 [.agg (maO m 0),.one (int k)] [.row 3 (rows eR m.ru)] (.one (int (k + 3 * m.ru.length))) [.row 3 (rows eR (marksR k m.ru.length))] := by
  refine does_of (k := 1) Tryz.func14 rfl Tryz.ntmps14 rfl rfl fun w F0 S0 ρ0 => ?_
  dsimp only [argT,argH]
  repeat' first|(apply n3;exact a_new (gb := .bx _) rfl;exact rfl;refine dA ?_)|(apply p3;(exact pu1);exact rfl)|refine cd ?_|(apply c4 0;exact callK1 (θ := [_]) (hD := (markRuleS_ok _ _ preD2 preD2 preD2));exact rfl;exact rfl;exact rfl;refine dM ?_)
  repeat refine cr ?_
  refine ends_id ?_
  refine endK [] (h2 := ?_) (h3 := ?_) (nd := ?_)
  all_goals (repeat' first|exact ce0|refine ce ?_|refine ce2 ?_ ?_|(refine Or.inr (bx_eq rfl rfl ?_);(try dsimp only [C.ren,C.ren.all]);(try exact rfl))|exact SVLe.refl|refine ceb ?_)
  all_goals first | exact (show nodupB _ = true from rfl) | exact Or.inr rfl | (rfl)
end Go.Proofs.YtjmlbmmbionmcaaGreatDoor
end
section
set_option linter.unusedVariables false
set_option linter.unusedSimpArgs false
set_option maxRecDepth 100000
set_option maxHeartbeats 4000000
namespace Go.Proofs.YtjmlbmmbionmcaaGreatDoor
open Go Foot
def mkX (k : Nat) (o : Bs) : Bs := if h : k = 0 then o else mkX (k / 10) (UInt8.ofNat (48 + k % 10) :: o)
termination_by k
decreasing_by omega
theorem mkX_0 (o : Bs) : mkX 0 o = o := by rw [mkX,dif_pos rfl]
theorem mkX_s {k : Int} (h : 0 < k) (o : Bs) : mkX k.toNat o = mkX (k / 10).toNat (UInt8.ofNat (48 + (k % 10).toNat) :: o) := by
  rw [mkX,dif_neg (by omega),show (k / 10).toNat = k.toNat / 10 by omega,show (k % 10).toNat = k.toNat % 10 by omega]
@[irreducible] def mkS (k : Int) : Bs := if k ≤ 0 then [109,48] else 109 :: mkX k.toNat []
theorem byt_one (x : Int) : byt [x] = [UInt8.ofNat x.toNat] := by unfold byt; rfl
theorem preD12 {p : Prop} (h : p := by first | with_reducible assumption | omega | (simp only [List.length_append,List.length_cons,List.length_nil,List.length_set,List.length_replicate,List.length_take,List.length_drop,List.length_tail,List.length_dropLast,List.length_reverse] at *; omega) | exact mem_len (by assumption) (by omega) | (with_reducible refine Int.le_trans (Int.ofNat_le.2 (trimR_len _)) ?_; simp only [List.length_cons,List.length_tail]; omega) | (exact (ruAt_ok (by assumption) (by assumption) (by assumption)).2.1) | (exact (ruAt_ok (by assumption) (by assumption) (by assumption)).2.1) | (have := vMach_bd (by assumption); omega) | (simp only [List.length_append,List.length_cons,List.length_nil,repW_len,seN_len] at *; omega) | (simp only [mC_ch,mC_tu]; omega) | (have := vTag_bd (by assumption); omega) | (have := (‹Gd _ _›).le; omega) | (exact tgHalts_no (by assumption)) | (exact tgHead (by assumption) (by assumption) (by assumption)) | (exact Int.le_trans (tgStep_gd (by assumption) (by assumption) (by assumption) (by assumption)).le (by decide)) | (exact vTag_r (by assumption)) | (with_reducible refine Int.le_trans (Int.ofNat_le.2 (pushL_len _ _)) ?_; simp only [List.length_dropLast]; omega) | exact ls_at (by assumption) (by omega) | exact pt_gd (by assumption) | exact lv_at (by assumption) (by omega) | exact pt_gd (lv_at (by assumption) (by omega)) | exact (ask_ok (by assumption)).1 | exact (ask_ok (by assumption)).2.1 | exact (ask_ok (by assumption)).2.2.1 | exact (ask_ok (by assumption)).2.2.2 | (simp only [marks_len]; omega) | (simp only [marksR_len]; omega) | exact lns_at (by assumption) (by omega) | exact bgs_at (by assumption) (by omega) | trivial) : p := h
theorem markText_ok (k : Int) (h1 : 0 ≤ k) (h2 : k ≤ 92233720368547) : Does Tryz.prog 60 [.one (int k)] [] (.one (str (mkS k))) [] := by
  by_cases h : k ≤ 0
  · have e : mkS k = [109,48] := by unfold mkS; rw [if_pos h]
    rw [e]
    refine does_of (k := 0) Tryz.func60 rfl Tryz.ntmps60 rfl rfl fun w F0 S0 ρ0 => ?_
    dsimp only [argT,argH]
    repeat' first|(apply p3;(first|exact pu1|exact puC);exact rfl)|refine cd ?_|((refine g_cond rfl (fun hc => ?_) (fun hc => ?_)) <;> (try simp only [dcB] at hc) <;> (try first|contradiction|(exfalso;omega)))
    repeat refine cr ?_
    refine ends_id ?_
    refine endK [] (h2 := ?_) (h3 := ?_) (nd := ?_)
    all_goals (repeat' first|exact ce0|refine ce ?_|refine ce2 ?_ ?_|exact SVLe.refl|refine ceb ?_)
    all_goals first | exact (show nodupB _ = true from rfl) | exact Or.inr rfl | (rfl)
  · have e : mkS k = 109 :: mkX k.toNat [] := by unfold mkS; rw [if_neg h]
    rw [e]
    refine does_of (k := 0) Tryz.func60 rfl Tryz.ntmps60 rfl rfl fun w F0 S0 ρ0 => ?_
    dsimp only [argT,argH]
    repeat' first|(apply p3;(first|exact pu1|exact puC);exact rfl)|refine cd ?_|((refine g_cond rfl (fun hc => ?_) (fun hc => ?_)) <;> (try simp only [dcB] at hc) <;> (try first|contradiction|(exfalso;omega)))
    refine g_loop_id ?_
    refine loopK [2] [] (fun x : Int × Bs => 0 ≤ x.1 ∧ x.1 ≤ k ∧ (x.2.length : Int) + x.1 ≤ k ∧ mkX x.1.toNat x.2 = mkX k.toNat []) (fun x => [(0,.one (int x.1)),(3,.one (str x.2))]) (fun _ => []) (fun x => x.1.toNat) (k,([] : Bs)) [] (hI := ?_) (hr := ?_)
    · exact ⟨by dsimp only; omega,by dsimp only; omega,by simp,rfl⟩
    · rintro ⟨n,o⟩ ⟨k1,k2,k3,k4⟩
      dsimp only [List.cons_append,List.nil_append] at *
      skip
      repeat' first|(apply n3;exact a_litE eY [_] rfl rfl rfl rfl rfl rfl rfl rfl;exact rfl;refine dA ?_)|(apply p3;(first|exact pu1|exact puC|exact a_rem rfl rfl (by omega) (by omega) (by omega)|exact a_add rfl rfl (by omega) (by omega)|exact a_to8 rfl Tryz.underlying3 Tryz.underlying5 (by omega) (by omega)|exact a_toStr rfl (by exact rfl) Tryz.underlying48 Tryz.underlying5 Tryz.underlying9|exact a_addS rfl rfl (by first|omega|(simp only [List.length_append,List.length_cons,List.length_nil];omega)));exact rfl)|refine cd ?_|((refine g_cond rfl (fun hc => ?_) (fun hc => ?_)) <;> (try simp only [dcB] at hc) <;> (try first|contradiction|(exfalso;omega)))
      · have e1 : byt [48 + n % 10] ++ o = UInt8.ofNat (48 + (n % 10).toNat) :: o := by rw [byt_one,show (48 + n % 10).toNat = 48 + (n % 10).toNat by omega]; rfl
        have e0 : ((byt [48 + n % 10]).length : Int) = 1 := by rw [byt_one]; rfl
        repeat' first|(apply p3;(first|exact pu1|exact a_addS rfl rfl (by first|omega|(simp only [List.length_append,List.length_cons,List.length_nil];omega))|exact a_quo rfl rfl (by omega) (by omega) (by omega));exact rfl)|refine cd ?_
        refine q_again (n / 10,byt [48 + n % 10] ++ o) [] (by exact stk) ?_ ?_
        · dsimp only
          refine ⟨by omega,by omega,?_,?_⟩
          · rw [e1,List.length_cons]; omega
          · rw [e1,← mkX_s hc,k4]
        · dsimp only; omega
      · have e1 : n = 0 := by omega
        subst e1
        have e2 : o = mkX k.toNat [] := by rw [← k4]; exact (mkX_0 o).symm
        rw [← e2]
        repeat refine cr ?_
        refine ends_id ?_
        refine endK [] (h2 := ?_) (h3 := ?_) (nd := ?_)
        all_goals (repeat' first|exact ce0|refine ce ?_|refine ce2 ?_ ?_|exact SVLe.refl|refine ceb ?_)
        all_goals first | exact (show nodupB _ = true from rfl) | exact Or.inr rfl | (rfl)
theorem markS_end {k : Int} {xs l : List Bs} (h1 : l.length = xs.length) (h2 : ∀ j (h : j < xs.length),l[j]? = some (mkS (k + j))) : l = (marks k xs.length).map mkS := by
  apply List.ext_getElem?
  intro j
  rw [List.getElem?_map]
  by_cases hj : j < xs.length
  · rw [marks_get k _ j hj,h2 j hj]; rfl
  · rw [List.getElem?_eq_none (by omega),List.getElem?_eq_none (by rw [marks_len]; omega)]; rfl
theorem markStringS_ok (xs : List Bs) (k : Int) (h1 : 0 ≤ k) (h2 : k ≤ 4611686018427) (hx : (xs.length : Int) ≤ 4611686018427) : Does Tryz.prog 20 [.one (.gv 0),.one (int k)] [.row 1 (rows eS xs)] (.one (int (k + xs.length))) [.row 1 (rows eS ((marks k xs.length).map mkS))] := by
  refine does_of (k := 1) Tryz.func20 rfl Tryz.ntmps20 rfl rfl fun w F0 S0 ρ0 => ?_
  dsimp only [argT,argH]
  repeat' first|(apply p3;(exact pu1);exact rfl)|refine cd ?_
  refine g_loop_id ?_
  refine loopK [0,4] [0] (fun y : Int × List Bs => 0 ≤ y.1 ∧ y.1 ≤ xs.length ∧ y.2.length = xs.length ∧ ∀ (j : Nat),(j : Int) < y.1 → y.2[j]? = some (mkS (k + j))) (fun y => [(5,.one (int y.1)),(1,.one (int (k + y.1)))]) (fun y => [(0,.row 1 (rows eS y.2))]) (fun y => (xs.length - y.1).toNat) ((0 : Int),xs) [0] (hI := ?_) (hr := ?_)
  · exact ⟨by simp,by simp,rfl,fun j h' => by simp at h'; omega⟩
  · rintro ⟨i,l⟩ ⟨k1,k2,k3,k4⟩
    dsimp only [List.cons_append,List.nil_append] at *
    skip
    repeat' first|(apply p3;(first|exact pu1|exact puN|exact puC|exact a_add rfl rfl (by omega) (by omega)|exact puI);exact rfl)|refine cd ?_|(apply w3;(exact a_stE (E := eS) _ rfl rfl rfl rfl (fN rfl rfl) bnd (by exact rfl));exact rfl;refine dS ?_)|(apply c4 0;exact callK1 (θ := []) (hD := (markText_ok _ preD12 preD12));exact rfl;exact rfl;exact rfl;refine dM ?_)|((refine g_cond rfl (fun hc => ?_) (fun hc => ?_)) <;> (try simp only [dcB] at hc) <;> (try first|contradiction|(exfalso;omega)))
    · refine q_again (i + 1,l.set i.toNat (mkS (k + i))) [0] (by exact stk) ?_ ?_
      · refine ⟨by dsimp only; omega,by dsimp only; omega,by simp [k3],fun j h => ?_⟩
        dsimp only at h ⊢
        rw [List.getElem?_set]
        split
        · rename_i e
          subst e
          rw [if_pos (by omega)]
          congr 2
          omega
        · exact k4 j (by omega)
      · dsimp only; omega
    · have hi : i = xs.length := by omega
      subst hi
      have hl := markS_end (k := k) k3 fun j hj => k4 j (by omega)
      repeat refine cr ?_
      refine ends_id ?_
      refine endK [] (h2 := ?_) (h3 := ?_) (nd := ?_)
      all_goals (repeat' first|exact ce0|refine ce ?_|refine ce2 ?_ ?_|(refine Or.inr (bx_eq rfl rfl ?_);(try dsimp only [C.ren,C.ren.all]);(try exact rfl))|exact SVLe.refl|refine ceb ?_)
      all_goals first | exact (show nodupB _ = true from rfl) | exact Or.inr rfl | (exact hl)
theorem heldStringS_ok (n : Nat) (k : Int) (h1 : 0 ≤ k) (h2 : k ≤ 4611686018427) (hx : (n : Int) ≤ 4611686018427) : Does Tryz.prog 21 [.one (shS ((marks k n).map mkS)),.one (int k)] [] (.one (int (k + n))) [] := by
  obtain ⟨L,eL⟩ : ∃ L,L = (marks k n).map mkS := ⟨_,rfl⟩
  have hl : L.length = n := by rw [eL,List.length_map,marks_len]
  have hg : ∀ (i : Nat) (h : i < L.length),L[i] = mkS (k + i) := fun i h => by
    have := marks_get k n i (by omega)
    have h2 : L[i]? = some (mkS (k + i)) := by rw [eL,List.getElem?_map,this]; rfl
    rw [List.getElem?_eq_getElem h] at h2
    exact Option.some.inj h2
  rw [← eL]
  refine does_of (k := 0) Tryz.func21 rfl Tryz.ntmps21 rfl rfl fun w F0 S0 ρ0 => ?_
  dsimp only [argT,argH]
  repeat' first|(apply p3;(exact pu1);exact rfl)|refine cd ?_
  refine g_loop_id ?_
  refine loopK [0,4] [] (fun i : Int => 0 ≤ i ∧ i ≤ L.length) (fun i => [(5,.one (int i)),(1,.one (int (k + i)))]) (fun _ => []) (fun i => (L.length - i).toNat) (0 : Int) [] (hI := ?_) (hr := ?_)
  · exact ⟨by simp,by simp⟩
  · rintro i ⟨k1,k2⟩
    dsimp only [List.cons_append,List.nil_append] at *
    skip
    repeat' first|(apply p3;(first|exact pu1|exact puN|exact puC|exact a_add rfl rfl (by omega) (by omega));exact rfl)|refine cd ?_|(apply g_drN (id := 4) okM [[],[],[0,1],[0,1,2],[],[4],[0,1,2,3,4,5]] [([],[]),([],[]),([],[]),([],[]),([],[]),([],[]),([],[])] 0;(focus (refine dp 0 0 [13,16,17] [] pu1 ?_;refine dp 1 0 [12,16,17] [] pu1 ?_;refine dp 2 3 [16,17] [] puI ?_;refine dp 3 7 [16,17] [] (by exact a_pure (sv := .one _) rfl) ?_;refine dp 4 0 [12,13,14,15] [] pu1 ?_;refine dp 5 1 [12,13,14,15] [] (callD1 (n := _) 0 (θ := []) (hD := (markText_ok _ preD12 preD12))) ?_;refine dp 6 63 [] [] (a_neT rfl rfl) ?_;(refine d_nil ?_;refine dN ?_)));any_goals kernel_rfl)|((refine g_cond rfl (fun hc => ?_) (fun hc => ?_)) <;> (try simp only [dcB] at hc) <;> (try first|contradiction|(exfalso;omega)))
    · have := hg i.toNat (by omega)
      rw [show ((i.toNat : Nat) : Int) = i by omega] at this
      exact absurd this hc
    · refine q_again (i + 1) [] (by exact stk) ?_ ?_
      · exact ⟨by omega,by omega⟩
      · omega
    · repeat refine cr ?_
      refine ends_id ?_
      refine endK [] (h2 := ?_) (h3 := ?_) (nd := ?_)
      all_goals (repeat' first|exact ce0|refine ce ?_|refine ce2 ?_ ?_|exact SVLe.refl|refine ceb ?_)
      all_goals first | exact (show nodupB _ = true from rfl) | exact Or.inr rfl | (omega)
@[irreducible] def eqSs (a b : List Bs) : Bool := decide (a = b)
theorem eqStringS_ok (xs ys : List Bs) (hx : (xs.length : Int) ≤ 1048576) (hy : (ys.length : Int) ≤ 1048576) : Does Tryz.prog 19 [.one (shS xs),.one (shS ys)] [] (.one (boo (eqSs xs ys))) [] := by
  refine does_of (k := 0) Tryz.func19 rfl Tryz.ntmps19 rfl rfl fun w F0 S0 ρ0 => ?_
  dsimp only [argT,argH]
  repeat' first|(apply p3;(first|exact pu1|exact puN|exact a_ne rfl rfl);exact rfl)|refine cd ?_|((refine g_cond rfl (fun hc => ?_) (fun hc => ?_)) <;> (try simp only [dcB] at hc) <;> (try first|contradiction|(exfalso;omega)))
  · repeat refine cr ?_
    refine ends_id ?_
    refine endK [] (h2 := ?_) (h3 := ?_) (nd := ?_)
    all_goals (repeat' first|exact ce0|refine ce ?_|refine ce2 ?_ ?_|exact SVLe.refl|refine ceb ?_)
    all_goals first | exact (show nodupB _ = true from rfl) | exact Or.inr rfl | ((symm; unfold eqSs; rw [decide_eq_false_iff_not]; rintro rfl; omega))
  refine g_loop_id ?_
  refine loopK [0,1,4] [] (fun i : Int => 0 ≤ i ∧ i ≤ xs.length ∧ xs.take i.toNat = ys.take i.toNat) (fun i => [(5,.one (int i))]) (fun _ => []) (fun i => (xs.length - i).toNat) (0 : Int) [] (hI := ?_) (hr := ?_)
  · exact ⟨by simp,by simp,by simp⟩
  · rintro i ⟨h0,h1,h2⟩
    dsimp only [List.cons_append,List.nil_append] at *
    skip
    repeat' first|(apply p3;(first|exact pu1|exact puN|exact puC|exact a_add rfl rfl (by omega) (by omega));exact rfl)|refine cd ?_|(apply g_drN (id := 6) okM [[],[],[0,1],[0,1,2],[],[],[4,5],[4,5,6],[0,1,2,3,4,5,6,7]] [([],[]),([],[]),([],[]),([],[]),([],[]),([],[]),([],[]),([],[]),([],[])] 0;(focus (refine dp 0 0 [18,21,22,23,24] [] pu1 ?_;refine dp 1 0 [17,21,22,23,24] [] pu1 ?_;refine dp 2 3 [21,22,23,24] [] puI ?_;refine dp 3 7 [21,22,23,24] [] (by exact a_pure (sv := .one _) rfl) ?_;refine dp 4 0 [17,18,19,20,22] [] pu1 ?_;refine dp 5 0 [17,18,19,20,21] [] pu1 ?_;refine dp 6 3 [17,18,19,20] [] puI ?_;refine dp 7 7 [17,18,19,20] [] (by exact a_pure (sv := .one _) rfl) ?_;refine dp 8 255 [] [] (a_neT rfl rfl) ?_;(refine d_nil ?_;refine dN ?_)));any_goals kernel_rfl)|((refine g_cond rfl (fun hc => ?_) (fun hc => ?_)) <;> (try simp only [dcB] at hc) <;> (try first|contradiction|(exfalso;omega)))
    · repeat refine cr ?_
      refine ends_id ?_
      refine endK [] (h2 := ?_) (h3 := ?_) (nd := ?_)
      all_goals (repeat' first|exact ce0|refine ce ?_|refine ce2 ?_ ?_|exact SVLe.refl|refine ceb ?_)
      all_goals first | exact (show nodupB _ = true from rfl) | exact Or.inr rfl | ((symm; unfold eqSs; rw [decide_eq_false_iff_not]; rintro rfl; simp_all))
    · refine q_again (i + 1) [] (by exact stk) ?_ ?_
      · exact ⟨by omega,by omega,take_next h0 (by omega) (by omega) h2 (by simp_all)⟩
      · omega
    · have hl := take_end (by omega) (by omega) h2
      repeat refine cr ?_
      refine ends_id ?_
      refine endK [] (h2 := ?_) (h3 := ?_) (nd := ?_)
      all_goals (repeat' first|exact ce0|refine ce ?_|refine ce2 ?_ ?_|exact SVLe.refl|refine ceb ?_)
      all_goals first | exact (show nodupB _ = true from rfl) | exact Or.inr rfl | ((symm; unfold eqSs; rw [decide_eq_true_eq]; exact hl))
end Go.Proofs.YtjmlbmmbionmcaaGreatDoor
end
section
set_option linter.unusedVariables false
set_option linter.unusedSimpArgs false
set_option maxRecDepth 100000
set_option maxHeartbeats 4000000
namespace Go.Proofs.YtjmlbmmbionmcaaGreatDoor
open Go Foot
theorem preD14 {p : Prop} (h : p := by first | with_reducible assumption | omega | (simp only [List.length_append,List.length_cons,List.length_nil,List.length_set,List.length_replicate,List.length_take,List.length_drop,List.length_tail,List.length_dropLast,List.length_reverse] at *; omega) | exact mem_len (by assumption) (by omega) | (with_reducible refine Int.le_trans (Int.ofNat_le.2 (trimR_len _)) ?_; simp only [List.length_cons,List.length_tail]; omega) | (exact (ruAt_ok (by assumption) (by assumption) (by assumption)).2.1) | (exact (ruAt_ok (by assumption) (by assumption) (by assumption)).2.1) | (have := vMach_bd (by assumption); omega) | (simp only [List.length_append,List.length_cons,List.length_nil,repW_len,seN_len] at *; omega) | (simp only [mC_ch,mC_tu]; omega) | (have := vTag_bd (by assumption); omega) | (have := (‹Gd _ _›).le; omega) | (exact tgHalts_no (by assumption)) | (exact tgHead (by assumption) (by assumption) (by assumption)) | (exact Int.le_trans (tgStep_gd (by assumption) (by assumption) (by assumption) (by assumption)).le (by decide)) | (exact vTag_r (by assumption)) | (with_reducible refine Int.le_trans (Int.ofNat_le.2 (pushL_len _ _)) ?_; simp only [List.length_dropLast]; omega) | exact ls_at (by assumption) (by omega) | exact pt_gd (by assumption) | exact lv_at (by assumption) (by omega) | exact pt_gd (lv_at (by assumption) (by omega)) | exact (ask_ok (by assumption)).1 | exact (ask_ok (by assumption)).2.1 | exact (ask_ok (by assumption)).2.2.1 | exact (ask_ok (by assumption)).2.2.2 | (simp only [marks_len]; omega) | (simp only [marksR_len]; omega) | exact lns_at (by assumption) (by omega) | exact bgs_at (by assumption) (by omega) | trivial) : p := h
theorem markConfigR_ok (c : Conf) (k : Int) (h1 : 0 ≤ k) (h2 : k ≤ 1152921504606846976) (hx : (c.le.length : Int) ≤ 4611686018427) (hy : (c.ri.length : Int) ≤ 4611686018427) : Does Tryz.prog 15 [.agg [int c.st,.gv 0,.gv 1],.one (int k)] [roI c.le,roI c.ri] (.one (int (k + c.le.length + c.ri.length))) [roI (marks k c.le.length),roI (marks (k + c.le.length) c.ri.length)] := by
  refine does_of (k := 2) Tryz.func15 rfl Tryz.ntmps15 rfl rfl fun w F0 S0 ρ0 => ?_
  dsimp only [argT,argH]
  repeat' first|(apply n3;exact a_new (gb := .bx _) rfl;exact rfl;refine dA ?_)|(apply p3;(exact pu1);exact rfl)|refine cd ?_|(apply c4 0;exact callK1 (θ := [_]) (hD := (markInt64S_ok _ _ preD14 preD14 preD14));exact rfl;exact rfl;exact rfl;refine dM ?_)|fail
  repeat refine cr ?_
  refine ends_id ?_
  refine endK [] (h2 := ?_) (h3 := ?_) (nd := ?_)
  all_goals (repeat' first|exact ce0|refine ce ?_|refine ce2 ?_ ?_|(refine Or.inr (bx_eq rfl rfl ?_);(try dsimp only [C.ren,C.ren.all]);(try exact rfl))|exact SVLe.refl|refine ceb ?_)
  all_goals first | exact (show nodupB _ = true from rfl) | exact Or.inr rfl | (rfl)
end Go.Proofs.YtjmlbmmbionmcaaGreatDoor
end
