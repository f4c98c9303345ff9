/- Parts of the proof (13 of 19). -/
import Derived.Test.YtegpggobfdcafaaGreatQ12
section
set_option linter.unusedVariables false
set_option linter.unusedSimpArgs false
set_option maxRecDepth 100000
set_option maxHeartbeats 4000000
namespace Go.Proofs.YtegpggobfdcafaaGreat
open Go Foot Go.RowKit
structure Pz where
  f : Int
  t : Int
  k : Int
abbrev ePz : Enc Pz := ⟨3,fun x => [.sc (.int .i64 x.f),.sc (.int .i64 x.t),.sc (.int .i64 x.k)],fun _ => rfl,by decide⟩
abbrev shPz (l : List Pz) : C := .d (.sl false 3 (rows ePz l))
abbrev roPz (l : List Pz) : GB := .row 3 (rows ePz l)
theorem t_mvS {g : Gh} {t : List (Nat × SV)} {h0 : List (Nat × GB)} {n z : Nat} {xs : List D} (d i k e : Nat) (hk : n = k) (he : n + 1 = e) (hd : lkS t d = .one (.gv i)) (hi : lkG h0 i = .row z xs) : Conv g ⟨t,h0,n⟩ ⟨(d,.one (.gv k)) :: t,(k,.row z xs) :: (i,.dead) :: h0,e⟩ := fun a w S ρ F hr hf => by
  subst hk he
  obtain ⟨v,r1,r2⟩ := rel_rowT hr hi
  have hne : n ≠ i := fun e => by rw [← e,hf n (Nat.le_refl n)] at r1; cases r1
  obtain ⟨ρ',l1,hv,q1,q2⟩ := rel_ext v hr hf
  refine ⟨S,ρ',_,(rel_two (gb1 := .row z xs) (gb2 := .dead) (G1 := F i) (G2 := no) hne q1 (le_or_right _ _) (no_le _) (dis_no _) (.inr ⟨v,hv,r2⟩) (.inl rfl)).setSlot ?_,q2⟩
  have h1 := q1.slot d
  simp only [hd] at h1
  obtain ⟨s1,s2⟩ := h1
  exact ⟨by rw [hv,← s1,l1 _ _ r1],s2⟩
def lenZ (l : List Pz) : Int := (l.map fun p => p.k + 1).sum
theorem lenZ_app (l m : List Pz) : lenZ (l ++ m) = lenZ l + lenZ m := by unfold lenZ; simp
theorem lenZ_snoc (l : List Pz) (p : Pz) : lenZ (l ++ [p]) = lenZ l + (p.k + 1) := by rw [lenZ_app]; simp [lenZ]
theorem preB266 {p : Prop} (h : p := by first | with_reducible assumption | omega | (simp only [List.length_append,List.length_cons,List.length_nil,List.length_set,List.length_replicate,List.length_take,List.length_drop,List.length_tail,List.length_dropLast,List.length_reverse] at *; omega) | exact mem_len (by assumption) (by omega) | (with_reducible refine Int.le_trans (Int.ofNat_le.2 (trimR_len _)) ?_; simp only [List.length_cons,List.length_tail]; omega) | (exact (ruAt_ok (by assumption) (by assumption) (by assumption)).2.1) | (exact (ruAt_ok (by assumption) (by assumption) (by assumption)).2.1) | (have := vMach_bd (by assumption); omega) | (simp only [List.length_append,List.length_cons,List.length_nil,repW_len,seN_len] at *; omega) | (simp only [mC_ch,mC_tu]; omega) | (have := vTag_bd (by assumption); omega) | (have := (‹Gd _ _›).le; omega) | (exact tgHalts_no (by assumption)) | (exact tgHead (by assumption) (by assumption) (by assumption)) | (exact Int.le_trans (tgStep_gd (by assumption) (by assumption) (by assumption) (by assumption)).le (by decide)) | (exact vTag_r (by assumption)) | (with_reducible refine Int.le_trans (Int.ofNat_le.2 (pushL_len _ _)) ?_; simp only [List.length_dropLast]; omega) | exact ls_at (by assumption) (by omega) | exact pt_gd (by assumption) | exact lv_at (by assumption) (by omega) | exact pt_gd (lv_at (by assumption) (by omega)) | exact (ask_ok (by assumption)).1 | exact (ask_ok (by assumption)).2.1 | exact (ask_ok (by assumption)).2.2.1 | exact (ask_ok (by assumption)).2.2.2 | trivial) : p := h
theorem l14Size_ok (p : Pz) (h1 : 0 ≤ p.k) (h2 : p.k ≤ 1000) : Does Tryz.prog 233 [.one (.d (.bx false [.sc (.int .i64 p.f),.sc (.int .i64 p.t),.sc (.int .i64 p.k)]))] [] (.one (int (p.k + 1))) [] := by
  refine does_of (k := 0) Tryz.func233 rfl Tryz.ntmps233 rfl rfl fun w F0 S0 ρ0 => ?_
  dsimp only [argT,argH]
  repeat' first|(apply p3;(first|exact pu1|exact a_add rfl rfl (by omega) (by omega));exact rfl)|refine cd ?_|fail
  repeat refine cr ?_
  refine ends_id ?_
  refine endK [] (h2 := ?_) (h3 := ?_) (nd := ?_)
  all_goals (repeat' first|exact ce0|refine ce ?_|refine ce2 ?_ ?_|exact SVLe.refl|refine ceb ?_)
  all_goals first | exact (show nodupB _ = true from rfl) | exact Or.inr rfl | (rfl)
structure PzOk (l : List Pz) : Prop where
  ok : ∀ p ∈ l,0 ≤ p.k ∧ p.k ≤ 100
theorem lenZ_bd {l : List Pz} (h : PzOk l) : 0 ≤ lenZ l ∧ lenZ l ≤ 101 * l.length := by
  obtain ⟨h⟩ := h
  induction l with
  | nil => simp [lenZ]
  | cons p l ih =>
    have h1 := h p (by simp)
    have h2 := ih fun q hq => h q (List.mem_cons_of_mem _ hq)
    have e : lenZ (p :: l) = (p.k + 1) + lenZ l := by simp [lenZ]
    rw [e]
    simp only [List.length_cons]
    omega
theorem l14Length_ok (l : List Pz) (h : PzOk l) (hn : (l.length : Int) ≤ 100) : Does Tryz.prog 200 [.one (shPz l)] [] (.one (int (lenZ l))) [] := by
  refine does_of (k := 0) Tryz.func200 rfl Tryz.ntmps200 rfl rfl fun w F0 S0 ρ0 => ?_
  dsimp only [argT,argH]
  repeat' first|(apply p3;(exact pu1);exact rfl)|refine cd ?_|fail
  refine g_loop_id ?_
  refine loopK [0,2] [] (fun i : Int => 0 ≤ i ∧ i ≤ l.length) (fun i => [(4,.one (int i)),(3,.one (int (lenZ (l.take i.toNat))))]) (fun _ => []) (fun i => (l.length - i).toNat) (0 : Int) [] (hI := ?_) (hr := ?_)
  · exact ⟨by omega,by omega⟩
  · rintro i ⟨k0,k1⟩
    dsimp only [List.cons_append,List.nil_append] at *
    skip
    repeat' first|refine cdn ?_|fail
    by_cases hi : i.toNat < l.length
    · have hb := h.ok _ (List.getElem_mem hi)
      have hs := lenZ_bd (l := l.take i.toNat) ⟨fun p hp => h.ok p (List.mem_of_mem_take hp)⟩
      have htl : (l.take i.toNat).length = i.toNat := by rw [List.length_take]; omega
      have e : lenZ (l.take (i + 1).toNat) = lenZ (l.take i.toNat) + (l[i.toNat].k + 1) := by rw [show (i + 1).toNat = i.toNat + 1 by omega,List.take_succ_eq_append_getElem hi,lenZ_snoc]
      repeat' first|(apply p3;(first|exact pu1|exact puN|exact puC|exact a_add rfl rfl (by omega) (by omega)|exact puI);exact rfl)|refine cd ?_|(apply c4 0;exact callK1 (θ := []) (hD := (l14Size_ok l[i.toNat] hb.1 preB266));exact rfl;exact rfl;exact rfl;refine dM ?_)|((refine g_cond rfl (fun hc => ?_) (fun hc => ?_)) <;> (try simp only [dcB] at hc) <;> (try first|contradiction|(exfalso;omega)))|fail
      rw [← e]
      refine q_again (i + 1) [] (by exact stk) ?_ ?_
      · exact ⟨by omega,by omega⟩
      · omega
    · skip
      rw [List.take_of_length_le (show l.length ≤ i.toNat by omega)]
      repeat' first|(apply p3;(first|exact pu1|exact puN|exact puC);exact rfl)|refine cd ?_|((refine g_cond rfl (fun hc => ?_) (fun hc => ?_)) <;> (try simp only [dcB] at hc) <;> (try first|contradiction|(exfalso;omega)))|fail
      repeat refine cr ?_
      refine ends_id ?_
      refine endK [] (h2 := ?_) (h3 := ?_) (nd := ?_)
      all_goals (repeat' first|exact ce0|refine ce ?_|refine ce2 ?_ ?_|exact SVLe.refl|refine ceb ?_)
      all_goals first | exact (show nodupB _ = true from rfl) | exact Or.inr rfl | (rfl)
theorem l14Add_ok (l : List Pz) (r n : Int) (h0 : 0 ≤ n) (h1 : n ≤ 100) (hl : (l.length : Int) ≤ 100) : Does Tryz.prog 234 [.one (.gv 0),.one (int r),.one (int n)] [roPz l] (.one (.gv 1)) [.dead,roPz (l ++ List.replicate n.toNat ⟨0,r,0⟩)] := by
  refine does_of (k := 1) Tryz.func234 rfl Tryz.ntmps234 rfl rfl fun w F0 S0 ρ0 => ?_
  dsimp only [argT,argH]
  refine g_conv (t_mvS 0 0 1 2 rfl rfl rfl rfl) ?_
  repeat' first|(apply p3;(exact pu1);exact rfl)|refine cd ?_|fail
  refine g_loop_id ?_
  refine loopK [1,6] [1] (fun y : Int × List Pz => 0 ≤ y.1 ∧ y.1 ≤ n ∧ y.2 = l ++ List.replicate (n - y.1).toNat ⟨0,r,0⟩) (fun y => [(2,.one (int y.1)),(0,.one (.gv 1))]) (fun y => [(1,roPz y.2)]) (fun y => y.1.toNat) (n,l) [0,1] (hI := ?_) (hr := ?_)
  · exact ⟨h0,by simp,by simp⟩
  · rintro ⟨i,l'⟩ ⟨k0,k1,k2⟩
    dsimp only [List.cons_append,List.nil_append] at *
    skip
    repeat' first|refine cdn ?_|fail
    have hll : l'.length = l.length + (n - i).toNat := by rw [k2,List.length_append,List.length_replicate]
    by_cases hi : 0 < i
    · repeat' first|(apply n3;(exact a_litE ePz [⟨_,_,_⟩] rfl rfl rfl rfl rfl rfl rfl rfl);exact rfl;refine dA ?_)|(apply p3;(first|exact pu1|exact puC|exact a_sub rfl rfl (by omega) (by omega));exact rfl)|refine cd ?_|(apply s3;exact a_appE (fP rfl) rfl rfl rfl rfl nowR (by (simp <;> omega)) (by decide) (by decide) (by exact rfl);exact rfl;exact rfl)|((refine g_cond rfl (fun hc => ?_) (fun hc => ?_)) <;> (try simp only [dcB] at hc) <;> (try first|contradiction|(exfalso;omega)))|fail
      refine q_again (i - 1,l' ++ [⟨0,r,0⟩]) [0,3] (by exact stk) ?_ ?_
      · refine ⟨by dsimp only; omega,by dsimp only; omega,?_⟩
        dsimp only
        rw [k2,show (n - (i - 1)).toNat = (n - i).toNat + 1 by omega,List.replicate_succ',List.append_assoc]
      · dsimp only; omega
    · skip
      have e : l' = l ++ List.replicate n.toNat ⟨0,r,0⟩ := by rw [k2,show n - i = n by omega]
      rw [← e]
      repeat' first|(apply p3;(first|exact pu1|exact puC);exact rfl)|refine cd ?_|((refine g_cond rfl (fun hc => ?_) (fun hc => ?_)) <;> (try simp only [dcB] at hc) <;> (try first|contradiction|(exfalso;omega)))|fail
      repeat refine cr ?_
      refine ends_id ?_
      refine endK [?_] (h2 := ?_) (h3 := ?_) (nd := ?_)
      rotate_left 1
      all_goals (repeat' first|exact ce0|refine ce ?_|refine ce2 ?_ ?_|(refine Or.inr (bx_eq rfl rfl ?_);(try dsimp only [C.ren,C.ren.all]);(try exact rfl))|exact SVLe.refl|refine ceb ?_)
      all_goals first | exact (show nodupB _ = true from rfl) | exact Or.inr rfl | (rfl)
abbrev tailZ (sy x : Int) : List Pz := [⟨2,0,1⟩,⟨1,2,sy⟩,⟨2,1,1⟩] ++ List.replicate x.toNat ⟨0,1,0⟩
abbrev haltZ (sy x : Int) : List Pz := [⟨2,1,sy⟩] ++ List.replicate x.toNat ⟨0,1,0⟩
abbrev rightZ (sy x : Int) : List Pz := [⟨2,1,1⟩,⟨0,2,sy⟩,⟨2,0,1⟩] ++ List.replicate x.toNat ⟨0,0,0⟩
abbrev eTz : Enc (List Pz) := ⟨1,fun l => [.sl false 3 (rows ePz l)],fun _ => rfl,by decide⟩
abbrev shTz (l : List (List Pz)) : C := .d (.sl false 1 (rows eTz l))
abbrev roTz (l : List (List Pz)) : GB := .row 1 (rows eTz l)
theorem l14Tails_ok (sy : Int) (h1 : 1 ≤ sy) (h2 : sy ≤ 6) : Does Tryz.prog 203 [.one (int sy)] [] (.one (.gv 0)) [roTz ((rngI sy.toNat).map (tailZ sy))] := by
  refine does_of (k := 0) Tryz.func203 rfl Tryz.ntmps203 rfl rfl fun w F0 S0 ρ0 => ?_
  dsimp only [argT,argH]
  repeat' first|(apply n3;(exact a_litE eTz [] rfl rfl rfl rfl rfl rfl rfl rfl);exact rfl;refine dA ?_)|(apply p3;(exact pu1);exact rfl)|refine cd ?_|fail
  refine g_loop_id ?_
  refine loopK [0,2] [0] (fun x : Int × List (List Pz) => 0 ≤ x.1 ∧ x.1 ≤ sy ∧ x.2 = (rngI x.1.toNat).map (tailZ sy)) (fun x => [(4,.one (int x.1)),(3,.one (.gv 0))]) (fun x => [(0,roTz x.2)]) (fun x => (sy - x.1).toNat) ((0 : Int),[]) [0] (hI := ?_) (hr := ?_)
  · exact ⟨by simp,by dsimp only; omega,rfl⟩
  · rintro ⟨i,T⟩ ⟨k0,k1,k2⟩
    dsimp only [List.cons_append,List.nil_append] at *
    skip
    repeat' first|refine cdn ?_|fail
    have hrl := rngI_len i.toNat
    have hll : T.length = i.toNat := by rw [k2,List.length_map,hrl]
    by_cases hi : i < sy
    · repeat' first|(apply n3;(first|exact a_litE ePz [⟨_,_,_⟩,⟨_,_,_⟩,⟨_,_,_⟩] rfl rfl rfl rfl rfl rfl rfl rfl|exact a_litE eTz [_] rfl rfl rfl rfl rfl rfl rfl rfl);exact rfl;refine dA ?_)|(apply p3;(first|exact pu1|exact puC|exact a_add rfl rfl (by omega) (by omega));exact rfl)|refine cd ?_|(apply s3;exact a_appE (fP rfl) rfl rfl rfl rfl nowR (by (simp <;> omega)) (by decide) (by decide) (by exact rfl);exact rfl;exact rfl)|(apply c4 1;exact callK1 (θ := [_]) (hD := (l14Add_ok _ _ _ preB266 preB266 preB266));exact rfl;exact rfl;exact rfl;refine dM ?_)|(refine o_turn (t_frzR (d := 20) (i := 2) rfl rfl shutR) ?_)|((refine g_cond rfl (fun hc => ?_) (fun hc => ?_)) <;> (try simp only [dcB] at hc) <;> (try first|contradiction|(exfalso;omega)))|fail
      refine q_again (i + 1,T ++ [tailZ sy i]) [4] (by exact stk) ?_ ?_
      · refine ⟨by dsimp only; omega,by dsimp only; omega,?_⟩
        dsimp only
        rw [k2,show (i + 1).toNat = i.toNat + 1 by omega,rngI_succ,List.map_append,show ((i.toNat : Nat) : Int) = i by omega]
        rfl
      · dsimp only; omega
    · skip
      have e : T = (rngI sy.toNat).map (tailZ sy) := by rw [k2,show i = sy by omega]
      rw [← e]
      repeat' first|(apply p3;(first|exact pu1|exact puC);exact rfl)|refine cd ?_|((refine g_cond rfl (fun hc => ?_) (fun hc => ?_)) <;> (try simp only [dcB] at hc) <;> (try first|contradiction|(exfalso;omega)))|fail
      repeat refine cr ?_
      refine ends_id ?_
      refine endK [?_] (h2 := ?_) (h3 := ?_) (nd := ?_)
      rotate_left 1
      all_goals (repeat' first|exact ce0|refine ce ?_|refine ce2 ?_ ?_|(refine Or.inr (bx_eq rfl rfl ?_);(try dsimp only [C.ren,C.ren.all]);(try exact rfl))|exact SVLe.refl|refine ceb ?_)
      all_goals first | exact (show nodupB _ = true from rfl) | exact Or.inr rfl | (rfl)
@[irreducible] def headZ (m : Mach) (r : Rule') (v : Int) : List Pz := if r = noR then haltZ m.sy v else if r.m = 1 then rightZ m.sy r.w else haltZ m.sy r.w
theorem pzOk_rep (r : Int) (n : Nat) : PzOk (List.replicate n ⟨0,r,0⟩) := ⟨fun p hp => by rw [(List.mem_replicate.1 hp).2]; exact ⟨by dsimp only; omega,by dsimp only; omega⟩⟩
theorem pzOk_app {l m : List Pz} (h1 : PzOk l) (h2 : PzOk m) : PzOk (l ++ m) := ⟨fun p hp => (List.mem_append.1 hp).elim (h1.ok p) (h2.ok p)⟩
theorem tailZ_ok {sy : Int} (x : Int) (h1 : 1 ≤ sy) (h2 : sy ≤ 6) : PzOk (tailZ sy x) := pzOk_app ⟨fun p hp => by
  simp only [List.mem_cons,List.not_mem_nil,or_false] at hp
  rcases hp with rfl | rfl | rfl <;> exact ⟨by dsimp only; omega,by dsimp only; omega⟩⟩ (pzOk_rep _ _)
theorem rightZ_ok {sy : Int} (x : Int) (h1 : 1 ≤ sy) (h2 : sy ≤ 6) : PzOk (rightZ sy x) := pzOk_app ⟨fun p hp => by
  simp only [List.mem_cons,List.not_mem_nil,or_false] at hp
  rcases hp with rfl | rfl | rfl <;> exact ⟨by dsimp only; omega,by dsimp only; omega⟩⟩ (pzOk_rep _ _)
theorem haltZ_ok {sy : Int} (x : Int) (h1 : 1 ≤ sy) (h2 : sy ≤ 6) : PzOk (haltZ sy x) := pzOk_app ⟨fun p hp => by
  simp only [List.mem_cons,List.not_mem_nil,or_false] at hp
  rcases hp with rfl
  exact ⟨by dsimp only; omega,by dsimp only; omega⟩⟩ (pzOk_rep _ _)
theorem headZ_ok {m : Mach} {r : Rule'} {v : Int} (hm : MaOk m) (hr : RuOk m r) (h0 : 0 ≤ v) (h1 : v ≤ m.sy - 1) : PzOk (headZ m r v) ∧ (headZ m r v).length ≤ 10 := by
  obtain ⟨⟨ya,yb⟩,_⟩ := hm
  unfold headZ
  split
  · exact ⟨haltZ_ok v (by omega) yb,by simp; omega⟩
  · rename_i hn
    obtain ⟨⟨w1',w2'⟩,_,_⟩ := hr.ok.resolve_left hn
    split
    · exact ⟨rightZ_ok r.w (by omega) yb,by simp; omega⟩
    · exact ⟨haltZ_ok r.w (by omega) yb,by simp; omega⟩
theorem l14Head_ok (m : Mach) (r : Rule') (v : Int) (hm : MaOk m) (hr : RuOk m r) (h0 : 0 ≤ v) (h1 : v ≤ m.sy - 1) : Does Tryz.prog 201 [.one (maB m),.agg (ruC r),.one (int v)] [] (.one (.gv 0)) [roPz (headZ m r v)] := by
  obtain ⟨ya,yb⟩ := hm.sy
  by_cases hn : r = noR
  · have e : headZ m r v = haltZ m.sy v := by unfold headZ; rw [if_pos hn]
    rw [e]
    refine does_of (k := 0) Tryz.func201 rfl Tryz.ntmps201 rfl rfl fun w F0 S0 ρ0 => ?_
    dsimp only [argT,argH]
    repeat' first|(apply n3;(first|exact a_new (gb := .bx _) rfl|exact a_litE ePz [⟨_,_,_⟩] rfl rfl rfl rfl rfl rfl rfl rfl);exact rfl;refine dA ?_)|(apply p3;(exact pu1);exact rfl)|refine cd ?_|(apply c4 1;exact callK1 (θ := [_]) (hD := (l14Add_ok _ _ _ preB266 preB266 preB266));exact rfl;exact rfl;exact rfl;refine dM ?_)|(apply g_drN (id := 1) okM [[],[],[0,1]] [([],[]),([],[]),([],[])] 0;(focus (refine dp 0 0 [9] [] puL ?_;refine dp 1 0 [8] [] (callD1 (n := _) 0 (θ := []) (hD := l05None_ok)) ?_;refine dp 2 3 [] [] (by exact a_eqRule (s := ⟨_,_,_⟩) rfl rfl) ?_;(refine d_nil ?_;refine dN ?_)));any_goals kernel_rfl)|((refine g_cond rfl (fun hc => ?_) (fun hc => ?_)) <;> (try simp only [dcB] at hc) <;> (try first|contradiction|(exfalso;omega)))|fail
    repeat refine cr ?_
    refine ends_id ?_
    refine endK [?_] (h2 := ?_) (h3 := ?_) (nd := ?_)
    rotate_left 1
    all_goals (repeat' first|exact ce0|refine ce ?_|refine ce2 ?_ ?_|(refine Or.inr (bx_eq rfl rfl ?_);(try dsimp only [C.ren,C.ren.all]);(try exact rfl))|exact SVLe.refl|refine ceb ?_)
    all_goals first | exact (show nodupB _ = true from rfl) | exact Or.inr rfl | (rfl)
  · obtain ⟨⟨w1',w2'⟩,w3',w4',w5'⟩ := hr.ok.resolve_left hn
    by_cases hm1 : r.m = 1
    · have e : headZ m r v = rightZ m.sy r.w := by unfold headZ; rw [if_neg hn,if_pos hm1]
      rw [e]
      refine does_of (k := 0) Tryz.func201 rfl Tryz.ntmps201 rfl rfl fun w F0 S0 ρ0 => ?_
      dsimp only [argT,argH]
      repeat' first|(apply n3;(first|exact a_new (gb := .bx _) rfl|exact a_litE ePz [⟨_,_,_⟩,⟨_,_,_⟩,⟨_,_,_⟩] rfl rfl rfl rfl rfl rfl rfl rfl);exact rfl;refine dA ?_)|(apply p3;(first|exact pu1|exact puC);exact rfl)|refine cd ?_|(apply c4 1;exact callK1 (θ := [_]) (hD := (l14Add_ok _ _ _ preB266 preB266 preB266));exact rfl;exact rfl;exact rfl;refine dM ?_)|(apply g_drN (id := 1) okM [[],[],[0,1]] [([],[]),([],[]),([],[])] 0;(focus (refine dp 0 0 [9] [] puL ?_;refine dp 1 0 [8] [] (callD1 (n := _) 0 (θ := []) (hD := l05None_ok)) ?_;refine dp 2 3 [] [] (by exact a_eqRule (s := ⟨_,_,_⟩) rfl rfl) ?_;(refine d_nil ?_;refine dN ?_)));any_goals kernel_rfl)|((refine g_cond rfl (fun hc => ?_) (fun hc => ?_)) <;> (try simp only [dcB] at hc) <;> (try first|contradiction|(exfalso;omega)))|fail
      repeat refine cr ?_
      refine ends_id ?_
      refine endK [?_] (h2 := ?_) (h3 := ?_) (nd := ?_)
      rotate_left 1
      all_goals (repeat' first|exact ce0|refine ce ?_|refine ce2 ?_ ?_|(refine Or.inr (bx_eq rfl rfl ?_);(try dsimp only [C.ren,C.ren.all]);(try exact rfl))|exact SVLe.refl|refine ceb ?_)
      all_goals first | exact (show nodupB _ = true from rfl) | exact Or.inr rfl | (rfl)
    · have e : headZ m r v = haltZ m.sy r.w := by unfold headZ; rw [if_neg hn,if_neg hm1]
      rw [e]
      refine does_of (k := 0) Tryz.func201 rfl Tryz.ntmps201 rfl rfl fun w F0 S0 ρ0 => ?_
      dsimp only [argT,argH]
      repeat' first|(apply n3;(exact a_new (gb := .bx _) rfl);exact rfl;refine dA ?_)|(apply p3;(first|exact pu1|exact puC);exact rfl)|refine cd ?_|(apply g_drN (id := 1) okM [[],[],[0,1]] [([],[]),([],[]),([],[])] 0;(focus (refine dp 0 0 [9] [] puL ?_;refine dp 1 0 [8] [] (callD1 (n := _) 0 (θ := []) (hD := l05None_ok)) ?_;refine dp 2 3 [] [] (by exact a_eqRule (s := ⟨_,_,_⟩) rfl rfl) ?_;(refine d_nil ?_;refine dN ?_)));any_goals kernel_rfl)|(apply g_drN (id := 6) okM [[],[0],[0,1],[0,1,2],[0,1,2,3],[0,1,2,3,4],[],[6],[0,1,2,3,4,5,6,7],[0,1,2,3,4,5,6,7,8]] [([],[]),([],[]),([],[]),([],[]),([],[]),([0],[]),([],[]),([],[]),([1],[_]),([],[])] 2;(focus (refine dp 0 0 [40,41] [] pu1 ?_;refine dp 1 1 [40,41] [] (a_pure (sv := .one _) rfl) ?_;refine dp 2 3 [40,41] [] (a_pure (sv := .one _) rfl) ?_;refine dp 3 7 [40,41] [] puL ?_;refine dp 4 15 [40,41] [] (a_pure (sv := .agg _) rfl) ?_;refine duE 5 31 [40,41] [] (atN 0 (fun _ => a_litE ePz [⟨_,_,_⟩] rfl rfl rfl rfl rfl rfl rfl rfl)) (by exact rfl) (by exact rfl) ?_;refine dp 6 0 [34,35,36,37,38,39] [(true,0)] (a_pure (sv := .one _) rfl) ?_;refine dp 7 1 [34,35,36,37,38,39] [(true,0)] puL ?_;refine duN 8 255 [] [] (callD1 (n := _) 1 (θ := [_]) (hD := (l14Add_ok _ _ _ preB266 preB266 preB266))) (by exact rfl) (by exact rfl) ?_;refine dp 9 511 [] [] pu1 ?_;(refine d_nil ?_;refine dN ?_)));any_goals kernel_rfl)|((refine g_cond rfl (fun hc => ?_) (fun hc => ?_)) <;> (try simp only [dcB] at hc) <;> (try first|contradiction|(exfalso;omega)))|fail
      repeat refine cr ?_
      refine ends_id ?_
      refine endK [?_] (h2 := ?_) (h3 := ?_) (nd := ?_)
      rotate_left 1
      all_goals (repeat' first|exact ce0|refine ce ?_|refine ce2 ?_ ?_|(refine Or.inr (bx_eq rfl rfl ?_);(try dsimp only [C.ren,C.ren.all]);(try exact rfl))|exact SVLe.refl|refine ceb ?_)
      all_goals first | exact (show nodupB _ = true from rfl) | exact Or.inr rfl | (rfl)
theorem l14Lengths_ok (ls : List (List Pz)) (h : ∀ l ∈ ls,PzOk l ∧ l.length ≤ 100) (hn : (ls.length : Int) ≤ 100) : Does Tryz.prog 202 [.one (shTz ls)] [] (.one (.gv 0)) [roI (ls.map lenZ)] := by
  refine does_of (k := 0) Tryz.func202 rfl Tryz.ntmps202 rfl rfl fun w F0 S0 ρ0 => ?_
  dsimp only [argT,argH]
  repeat' first|(apply n3;(exact a_litE eI [] rfl rfl rfl rfl rfl rfl rfl rfl);exact rfl;refine dA ?_)|(apply p3;(exact pu1);exact rfl)|refine cd ?_|fail
  refine g_loop_id ?_
  refine loopK [0,2] [0] (fun x : Int × List Int => 0 ≤ x.1 ∧ x.1 ≤ ls.length ∧ x.2 = (ls.take x.1.toNat).map lenZ) (fun x => [(4,.one (int x.1)),(3,.one (.gv 0))]) (fun x => [(0,roI x.2)]) (fun x => (ls.length - x.1).toNat) ((0 : Int),[]) [0] (hI := ?_) (hr := ?_)
  · exact ⟨by simp,by simp,rfl⟩
  · rintro ⟨i,T⟩ ⟨k0,k1,k2⟩
    dsimp only [List.cons_append,List.nil_append] at *
    skip
    repeat' first|refine cdn ?_|fail
    have hll : T.length = i.toNat := by rw [k2,List.length_map,List.length_take]; omega
    by_cases hi : i.toNat < ls.length
    · have hb := h _ (List.getElem_mem hi)
      repeat' first|(apply n3;(exact a_litE eI [_] rfl rfl rfl rfl rfl rfl rfl rfl);exact rfl;refine dA ?_)|(apply p3;(first|exact pu1|exact puN|exact puC|exact a_add rfl rfl (by omega) (by omega)|exact puI);exact rfl)|refine cd ?_|(apply s3;exact a_appE (fP rfl) rfl rfl rfl rfl nowR (by (simp <;> omega)) (by decide) (by decide) (by exact rfl);exact rfl;exact rfl)|(apply c4 0;exact callK1 (θ := []) (hD := (l14Length_ok ls[i.toNat] hb.1 preB266));exact rfl;exact rfl;exact rfl;refine dM ?_)|((refine g_cond rfl (fun hc => ?_) (fun hc => ?_)) <;> (try simp only [dcB] at hc) <;> (try first|contradiction|(exfalso;omega)))|fail
      refine q_again (i + 1,T ++ [lenZ ls[i.toNat]]) [2] (by exact stk) ?_ ?_
      · refine ⟨by dsimp only; omega,by dsimp only; omega,?_⟩
        dsimp only
        rw [k2,show (i + 1).toNat = i.toNat + 1 by omega,List.take_succ_eq_append_getElem hi,List.map_append]
        rfl
      · dsimp only; omega
    · skip
      have e : T = ls.map lenZ := by rw [k2,List.take_of_length_le (by omega)]
      rw [← e]
      repeat' first|(apply p3;(first|exact pu1|exact puN|exact puC);exact rfl)|refine cd ?_|((refine g_cond rfl (fun hc => ?_) (fun hc => ?_)) <;> (try simp only [dcB] at hc) <;> (try first|contradiction|(exfalso;omega)))|fail
      repeat refine cr ?_
      refine ends_id ?_
      refine endK [?_] (h2 := ?_) (h3 := ?_) (nd := ?_)
      rotate_left 1
      all_goals (repeat' first|exact ce0|refine ce ?_|refine ce2 ?_ ?_|(refine Or.inr (bx_eq rfl rfl ?_);(try dsimp only [C.ren,C.ren.all]);(try exact rfl))|exact SVLe.refl|refine ceb ?_)
      all_goals first | exact (show nodupB _ = true from rfl) | exact Or.inr rfl | (rfl)
@[irreducible] def tlsZ (sy : Int) : List Int := ((rngI sy.toNat).map (tailZ sy)).map lenZ
theorem tlsZ_bd {sy : Int} (h1 : 1 ≤ sy) (h2 : sy ≤ 6) : (∀ x ∈ tlsZ sy,0 ≤ x ∧ x ≤ 1000) ∧ (tlsZ sy).length = sy.toNat := by
  unfold tlsZ
  refine ⟨fun x hx => ?_,by rw [List.length_map,List.length_map,rngI_len]⟩
  obtain ⟨l,hl,rfl⟩ := List.mem_map.1 hx
  obtain ⟨y,hy,rfl⟩ := List.mem_map.1 hl
  have hb := rngI_mem hy
  have := lenZ_bd (tailZ_ok y h1 h2)
  have hlen : (tailZ sy y).length = 3 + y.toNat := by simp; omega
  omega
theorem sum_bd {l : List Int} {B : Int} (h : ∀ x ∈ l,0 ≤ x ∧ x ≤ B) : 0 ≤ l.sum ∧ l.sum ≤ B * l.length := by
  induction l with
  | nil => simp
  | cons a l ih =>
    have h1 := h a (by simp)
    have h2 := ih fun x hx => h x (List.mem_cons_of_mem _ hx)
    rw [List.sum_cons,List.length_cons,Int.natCast_succ,Int.mul_add,Int.mul_one]
    omega
@[irreducible] def partZ (m : Mach) (r : Rule') (v : Int) : Int := lenZ (headZ m r v) + (if r ≠ noR ∧ r.m = -1 then m.sy + 1 + (tlsZ m.sy).sum else 0)
theorem partZ_bd {m : Mach} {r : Rule'} {v : Int} (hm : MaOk m) (hr : RuOk m r) (h0 : 0 ≤ v) (h1 : v ≤ m.sy - 1) : 0 ≤ partZ m r v ∧ partZ m r v ≤ 8000 := by
  obtain ⟨a1,a2⟩ := headZ_ok hm hr h0 h1
  have a3 := lenZ_bd a1
  obtain ⟨⟨ya,yb⟩,_⟩ := hm
  obtain ⟨b1,b2⟩ := tlsZ_bd (sy := m.sy) (by omega) yb
  have b3 := sum_bd b1
  unfold partZ
  split <;> omega
theorem l14Part_ok (m : Mach) (r : Rule') (v : Int) (hm : MaOk m) (hr : RuOk m r) (h0 : 0 ≤ v) (h1 : v ≤ m.sy - 1) : Does Tryz.prog 147 [.one (maB m),.agg (ruC r),.one (int v)] [] (.one (int (partZ m r v))) [] := by
  obtain ⟨ya,yb⟩ := hm.sy
  obtain ⟨a1,a2⟩ := headZ_ok hm hr h0 h1
  have a3 := lenZ_bd a1
  obtain ⟨b1,b2⟩ := tlsZ_bd (sy := m.sy) (by omega) yb
  have b3 := sum_bd b1
  have hh2 : ((headZ m r v).length : Int) ≤ 100 := by omega
  have hT : ∀ l ∈ (rngI m.sy.toNat).map (tailZ m.sy),PzOk l ∧ l.length ≤ 100 := fun l hl => by
    obtain ⟨y,hy,rfl⟩ := List.mem_map.1 hl
    have hb := rngI_mem hy
    exact ⟨tailZ_ok y (by omega) yb,by simp; omega⟩
  have hT2 : (((rngI m.sy.toNat).map (tailZ m.sy)).length : Int) ≤ 100 := by rw [List.length_map,rngI_len]; omega
  have hT3 : ((rngI m.sy.toNat).map (tailZ m.sy)).map lenZ = tlsZ m.sy := by unfold tlsZ; rfl
  by_cases hn : r ≠ noR ∧ r.m = -1
  · have e : partZ m r v = lenZ (headZ m r v) + (m.sy + 1 + (tlsZ m.sy).sum) := by unfold partZ; rw [if_pos hn]
    rw [e]
    refine does_of (k := 0) Tryz.func147 rfl Tryz.ntmps147 rfl rfl fun w F0 S0 ρ0 => ?_
    dsimp only [argT,argH]
    repeat' first|(apply n3;exact a_new (gb := .bx _) rfl;exact rfl;refine dA ?_)|(apply p3;(first|exact pu1|exact a_add rfl rfl (by omega) (by omega));exact rfl)|refine cd ?_|(apply c4 1;exact callK1 (θ := []) (hD := (l14Head_ok m r v hm hr h0 h1));exact rfl;exact rfl;exact rfl;refine dM ?_)|(apply c4 0;exact callK1 (θ := []) (hD := (l14Length_ok (headZ m r v) a1 hh2));exact rfl;exact rfl;exact rfl;refine dM ?_)|(apply c4 1;exact callK0 (θ := []) (hD := (l14Tails_ok _ preB266 preB266));exact rfl;exact rfl;exact rfl;refine dM ?_)|(apply c4 1;exact callK1 (θ := []) (hD := (l14Lengths_ok ((rngI m.sy.toNat).map (tailZ m.sy)) hT hT2));exact rfl;exact rfl;exact rfl;refine dM ?_)|(apply g_drN (id := 2) okM [[],[],[0,1],[0,1,2],[0,1,2,3],[0,1,2,3,4],[0,1,2,3,4,5],[0,1,2,3,4,5,6]] [([],[]),([],[]),([],[]),([],[]),([],[]),([],[]),([],[]),([],[])] 0;(focus (all_goals refine dp 0 0 [16] [] puL ?_;all_goals refine dp 1 0 [15] [] (callD1 (n := _) 0 (θ := []) (hD := l05None_ok)) ?_;all_goals refine dp 2 3 [] [] (by exact a_neRule (s := ⟨_,_,_⟩) rfl rfl) ?_;all_goals (refine db 3 7 [] [] pu1 ?_ ?_ <;> (intro hc;first|cases hc|(try simp only [dcB] at hc);first|contradiction|(exfalso;omega)|skip));all_goals (first|refine dn 4 15 [] [] ?_|refine dpy 4 15 [] [] (a_pure (sv := .one _) rfl) ?_);all_goals (first|refine dn 5 31 [] [] ?_|refine dpy 5 31 [] [] puL ?_);all_goals (first|refine dn 6 63 [] [] ?_|refine dpy 6 63 [] [] (by first|exact puC|exact a_eqS rfl rfl rfl) ?_);all_goals refine dp 7 127 [] [] (a_pure (sv := .one _) rfl) ?_;all_goals (refine d_nil ?_;refine dN ?_)));any_goals kernel_rfl)|((refine g_cond rfl (fun hc => ?_) (fun hc => ?_)) <;> (try simp only [dcB] at hc) <;> (try first|contradiction|(exfalso;omega)))|fail
    all_goals first | (exfalso; exact hn.1 (by assumption)) | skip
    rw [hT3]
    refine g_loop_id ?_
    refine loopK [6,8] [3] (fun x : Int × Int => 0 ≤ x.1 ∧ x.1 ≤ (tlsZ m.sy).length ∧ x.2 = lenZ (headZ m r v) + (m.sy + 1) + ((tlsZ m.sy).take x.1.toNat).sum) (fun x => [(9,.one (int x.1)),(7,.one (int x.2))]) (fun _ => [(3,roI (tlsZ m.sy))]) (fun x => ((tlsZ m.sy).length - x.1).toNat) ((0 : Int),lenZ (headZ m r v) + (m.sy + 1)) [0,1,2,3] (hI := ?_) (hr := ?_)
    · exact ⟨by simp,by simp,by simp⟩
    · rintro ⟨i,u⟩ ⟨k0,k1,k2⟩
      dsimp only [List.cons_append,List.nil_append] at *
      skip
      repeat' first|refine cdn ?_|fail
      have hs := sum_bd (l := (tlsZ m.sy).take i.toNat) fun x hx => b1 x (List.mem_of_mem_take hx)
      have htl : ((tlsZ m.sy).take i.toNat).length = i.toNat := by rw [List.length_take]; omega
      by_cases hi : i.toNat < (tlsZ m.sy).length
      · have hb := b1 _ (List.getElem_mem hi)
        have e2 : ((tlsZ m.sy).take (i + 1).toNat).sum = ((tlsZ m.sy).take i.toNat).sum + (tlsZ m.sy)[i.toNat] := by rw [show (i + 1).toNat = i.toNat + 1 by omega,List.take_succ_eq_append_getElem hi,List.sum_append,List.sum_cons,List.sum_nil]; omega
        repeat' first|(apply p3;(first|exact pu1|exact puL|exact puN|exact puC|exact a_add rfl rfl (by omega) (by omega)|exact puI);exact rfl)|refine cd ?_|((refine g_cond rfl (fun hc => ?_) (fun hc => ?_)) <;> (try simp only [dcB] at hc) <;> (try first|contradiction|(exfalso;omega)))|fail
        refine q_again (i + 1,u + (tlsZ m.sy)[i.toNat]) [0,1,2,3] (by exact stk) ?_ ?_
        · exact ⟨by dsimp only; omega,by dsimp only; omega,by dsimp only; omega⟩
        · dsimp only; omega
      · skip
        rw [List.take_of_length_le (by omega)] at k2
        have e3 : u = lenZ (headZ m r v) + (m.sy + 1 + (tlsZ m.sy).sum) := by omega
        rw [← e3]
        repeat' first|(apply p3;(first|exact pu1|exact puN|exact puC);exact rfl)|refine cd ?_|((refine g_cond rfl (fun hc => ?_) (fun hc => ?_)) <;> (try simp only [dcB] at hc) <;> (try first|contradiction|(exfalso;omega)))|fail
        repeat refine cr ?_
        refine ends_id ?_
        refine endK [] (h2 := ?_) (h3 := ?_) (nd := ?_)
        all_goals (repeat' first|exact ce0|refine ce ?_|refine ce2 ?_ ?_|exact SVLe.refl|refine ceb ?_)
        all_goals first | exact (show nodupB _ = true from rfl) | exact Or.inr rfl | (rfl)
  · have e : partZ m r v = lenZ (headZ m r v) := by unfold partZ; rw [if_neg hn]; omega
    rw [e]
    refine does_of (k := 0) Tryz.func147 rfl Tryz.ntmps147 rfl rfl fun w F0 S0 ρ0 => ?_
    dsimp only [argT,argH]
    repeat' first|(apply n3;exact a_new (gb := .bx _) rfl;exact rfl;refine dA ?_)|(apply p3;(first|exact pu1|exact a_add rfl rfl (by omega) (by omega));exact rfl)|refine cd ?_|(apply c4 1;exact callK1 (θ := []) (hD := (l14Head_ok m r v hm hr h0 h1));exact rfl;exact rfl;exact rfl;refine dM ?_)|(apply c4 0;exact callK1 (θ := []) (hD := (l14Length_ok (headZ m r v) a1 hh2));exact rfl;exact rfl;exact rfl;refine dM ?_)|(apply c4 1;exact callK0 (θ := []) (hD := (l14Tails_ok _ preB266 preB266));exact rfl;exact rfl;exact rfl;refine dM ?_)|(apply c4 1;exact callK1 (θ := []) (hD := (l14Lengths_ok ((rngI m.sy.toNat).map (tailZ m.sy)) hT hT2));exact rfl;exact rfl;exact rfl;refine dM ?_)|(apply g_drN (id := 2) okM [[],[],[0,1],[0,1,2],[0,1,2,3],[0,1,2,3,4],[0,1,2,3,4,5],[0,1,2,3,4,5,6]] [([],[]),([],[]),([],[]),([],[]),([],[]),([],[]),([],[]),([],[])] 0;(focus (all_goals refine dp 0 0 [16] [] puL ?_;all_goals refine dp 1 0 [15] [] (callD1 (n := _) 0 (θ := []) (hD := l05None_ok)) ?_;all_goals refine dp 2 3 [] [] (by exact a_neRule (s := ⟨_,_,_⟩) rfl rfl) ?_;all_goals (refine db 3 7 [] [] pu1 ?_ ?_ <;> (intro hc;first|cases hc|(try simp only [dcB] at hc);first|contradiction|(exfalso;omega)|skip));all_goals (first|refine dn 4 15 [] [] ?_|refine dpy 4 15 [] [] (a_pure (sv := .one _) rfl) ?_);all_goals (first|refine dn 5 31 [] [] ?_|refine dpy 5 31 [] [] puL ?_);all_goals (first|refine dn 6 63 [] [] ?_|refine dpy 6 63 [] [] (by first|exact puC|exact a_eqS rfl rfl rfl) ?_);all_goals refine dp 7 127 [] [] (a_pure (sv := .one _) rfl) ?_;all_goals (refine d_nil ?_;refine dN ?_)));any_goals kernel_rfl)|((refine g_cond rfl (fun hc => ?_) (fun hc => ?_)) <;> (try simp only [dcB] at hc) <;> (try first|contradiction|(exfalso;omega)))|fail
    all_goals first | (exfalso; exact hn ⟨by assumption,by assumption⟩) | skip
    · repeat refine cr ?_
      refine ends_id ?_
      refine endK [] (h2 := ?_) (h3 := ?_) (nd := ?_)
      all_goals (repeat' first|exact ce0|refine ce ?_|refine ce2 ?_ ?_|exact SVLe.refl|refine ceb ?_)
      all_goals first | exact (show nodupB _ = true from rfl) | exact Or.inr rfl | (rfl)
    · repeat refine cr ?_
      refine ends_id ?_
      refine endK [] (h2 := ?_) (h3 := ?_) (nd := ?_)
      all_goals (repeat' first|exact ce0|refine ce ?_|refine ce2 ?_ ?_|exact SVLe.refl|refine ceb ?_)
      all_goals first | exact (show nodupB _ = true from rfl) | exact Or.inr rfl | (rfl)
end Go.Proofs.YtegpggobfdcafaaGreat
end
section
set_option linter.unusedVariables false
set_option linter.unusedSimpArgs false
set_option maxRecDepth 100000
set_option maxHeartbeats 4000000
namespace Go.Proofs.YtegpggobfdcafaaGreat
open Go Foot Go.RowKit
@[irreducible] def secZ (m : Mach) (q : Int) : Int := m.sy + 1 + ((rngI m.sy.toNat).map fun v => partZ m (ruQ m q v) v).sum
def atZ (m : Mach) : Nat → Int
  | 0 => 0
  | k + 1 => atZ m k + secZ m k
@[irreducible] def begZ (m : Mach) (k : Nat) : List Int := (List.range k).map (atZ m)
theorem begZ_succ (m : Mach) (k : Nat) : begZ m (k + 1) = begZ m k ++ [atZ m k] := by unfold begZ; rw [List.range_succ,List.map_append]; rfl
theorem begZ_len (m : Mach) (k : Nat) : (begZ m k).length = k := by unfold begZ; simp
@[irreducible] def inZ (m : Mach) (q : Int) (k : Nat) : Int := ((rngI k).map fun v => partZ m (ruQ m q v) v).sum
theorem inZ_succ (m : Mach) (q : Int) (k : Nat) : inZ m q (k + 1) = inZ m q k + partZ m (ruQ m q k) k := by
  unfold inZ
  rw [rngI_succ,List.map_append,List.sum_append,List.map_cons,List.map_nil,List.sum_cons,List.sum_nil]
  omega
theorem inZ_bd {m : Mach} (hm : MaRu m) {q : Int} (h1 : 0 ≤ q) (h2 : q ≤ m.st - 1) : ∀ k : Nat,(k : Int) ≤ m.sy → 0 ≤ inZ m q k ∧ inZ m q k ≤ 8000 * k
  | 0,_ => by unfold inZ; simp [rngI]
  | k + 1,hk => by
    have ih := inZ_bd hm h1 h2 k (by omega)
    have := partZ_bd hm.ok (hm.ru q k h1 h2 (by omega) (by omega)) (show (0 : Int) ≤ (k : Int) by omega) (by omega)
    rw [inZ_succ]
    omega
theorem secZ_in (m : Mach) (q : Int) : secZ m q = m.sy + 1 + inZ m q m.sy.toNat := by unfold secZ inZ; rfl
theorem atZ_bd {m : Mach} (hm : MaRu m) : ∀ k : Nat,(k : Int) ≤ m.st → 0 ≤ atZ m k ∧ atZ m k ≤ 60000 * k
  | 0,_ => by simp [atZ]
  | k + 1,hk => by
    have ih := atZ_bd hm k (by omega)
    obtain ⟨⟨ya,yb⟩,_⟩ := hm.ok
    have := inZ_bd hm (q := (k : Int)) (by omega) (by omega) m.sy.toNat (by omega)
    rw [atZ,secZ_in]
    omega
theorem preB267 {p : Prop} (h : p := by first | with_reducible assumption | omega | (simp only [List.length_append,List.length_cons,List.length_nil,List.length_set,List.length_replicate,List.length_take,List.length_drop,List.length_tail,List.length_dropLast,List.length_reverse] at *; omega) | exact mem_len (by assumption) (by omega) | (with_reducible refine Int.le_trans (Int.ofNat_le.2 (trimR_len _)) ?_; simp only [List.length_cons,List.length_tail]; omega) | (exact (ruAt_ok (by assumption) (by assumption) (by assumption)).2.1) | (exact (ruAt_ok (by assumption) (by assumption) (by assumption)).2.1) | (have := vMach_bd (by assumption); omega) | (simp only [List.length_append,List.length_cons,List.length_nil,repW_len,seN_len] at *; omega) | (simp only [mC_ch,mC_tu]; omega) | (have := vTag_bd (by assumption); omega) | (have := (‹Gd _ _›).le; omega) | (exact tgHalts_no (by assumption)) | (exact tgHead (by assumption) (by assumption) (by assumption)) | (exact Int.le_trans (tgStep_gd (by assumption) (by assumption) (by assumption) (by assumption)).le (by decide)) | (exact vTag_r (by assumption)) | (with_reducible refine Int.le_trans (Int.ofNat_le.2 (pushL_len _ _)) ?_; simp only [List.length_dropLast]; omega) | exact ls_at (by assumption) (by omega) | exact pt_gd (by assumption) | exact lv_at (by assumption) (by omega) | exact pt_gd (lv_at (by assumption) (by omega)) | exact (ask_ok (by assumption)).1 | exact (ask_ok (by assumption)).2.1 | exact (ask_ok (by assumption)).2.2.1 | exact (ask_ok (by assumption)).2.2.2 | trivial) : p := h
theorem l14Starts_ok (m : Mach) (hv : vMach m = true) : Does Tryz.prog 87 [.one (maB m)] [] (.tup [(false,[.gv 0]),(false,[int (atZ m m.st.toNat)])]) [roI (begZ m m.st.toNat)] := by
  have hm := maRu_of hv
  obtain ⟨⟨ya,yb⟩,yc,yd⟩ := hm.ok
  have hrl : (m.ru.length : Int) ≤ 6000 := by
    have := hm.len
    have a3 : m.sy * m.st ≤ 6 * m.st := Int.mul_le_mul_of_nonneg_right yb (by omega)
    omega
  refine does_of (k := 0) Tryz.func87 rfl Tryz.ntmps87 rfl rfl fun w F0 S0 ρ0 => ?_
  dsimp only [argT,argH]
  repeat' first|(apply n3;(exact a_litE eI [] rfl rfl rfl rfl rfl rfl rfl rfl);exact rfl;refine dA ?_)|(apply p3;(exact pu1);exact rfl)|refine cd ?_|fail
  refine g_loop_id ?_
  refine loopK [0,2,3] [0] (fun x : Int × Int × List Int => 0 ≤ x.1 ∧ x.1 ≤ m.st ∧ x.2.1 = atZ m x.1.toNat ∧ x.2.2 = begZ m x.1.toNat) (fun x => [(6,.one (int x.1)),(5,.one (int x.2.1)),(4,.one (.gv 0))]) (fun x => [(0,roI x.2.2)]) (fun x => (m.st - x.1).toNat) ((0 : Int),(0 : Int),[]) [0] (hI := ?_) (hr := ?_)
  · exact ⟨by simp,by dsimp only; omega,rfl,by unfold begZ; rfl⟩
  · rintro ⟨q,u,T⟩ ⟨k0,k1,k2,k3⟩
    dsimp only [List.cons_append,List.nil_append] at *
    skip
    repeat' first|refine cdn ?_|fail
    have hab := atZ_bd hm q.toNat (by omega)
    have hTl : T.length = q.toNat := by rw [k3,begZ_len]
    by_cases hq : q < m.st
    · repeat' first|(apply n3;(exact a_litE eI [_] rfl rfl rfl rfl rfl rfl rfl rfl);exact rfl;refine dA ?_)|(apply p3;(first|exact pu1|exact puC|exact a_add rfl rfl (by omega) (by omega));exact rfl)|refine cd ?_|(apply s3;exact a_appE (fP rfl) rfl rfl rfl rfl nowR (by (simp <;> omega)) (by decide) (by decide) (by exact rfl);exact rfl;exact rfl)|((refine g_cond rfl (fun hc => ?_) (fun hc => ?_)) <;> (try simp only [dcB] at hc) <;> (try first|contradiction|(exfalso;omega)))|fail
      refine g_loop_id ?_
      refine loopK [0,2,3,4,6] [2] (fun y : Int × Int => 0 ≤ y.1 ∧ y.1 ≤ m.sy ∧ y.2 = u + (m.sy + 1) + inZ m q y.1.toNat) (fun y => [(7,.one (int y.1)),(5,.one (int y.2))]) (fun y => [(2,roI (T ++ [u]))]) (fun y => (m.sy - y.1).toNat) ((0 : Int),u + (m.sy + 1)) [0,1,2] (hI := ?_) (hr := ?_)
      · exact ⟨by simp,by dsimp only; omega,by unfold inZ; simp [rngI]⟩
      · rintro ⟨v,c⟩ ⟨n0',n1',n2'⟩
        dsimp only [List.cons_append,List.nil_append] at *
        skip
        repeat' first|refine cdn ?_|fail
        have hib := inZ_bd hm k0 (show q ≤ m.st - 1 by omega) v.toNat (by omega)
        by_cases hvv : v < m.sy
        · obtain ⟨x1,x2,x3⟩ := maRu_ix hm k0 (show q ≤ m.st - 1 by omega) n0' (show v ≤ m.sy - 1 by omega)
          have hix : (q * m.sy + v).toNat < m.ru.length := by omega
          have hrq := ruQ_get hix
          have hro := hm.ru q v k0 (by omega) n0' (by omega)
          have hpb := partZ_bd hm.ok hro n0' (show v ≤ m.sy - 1 by omega)
          rw [← hrq] at hro hpb
          repeat' first|(apply p3;(first|exact pu1|exact puC|exact a_add rfl rfl (by omega) (by omega));exact rfl)|refine cd ?_|(apply g_drN (id := 11) okM [[],[],[],[2],[2,3],[2,3,4],[],[],[7],[7,8],[7,8,9],[6,7,8,9,10],[],[6,7,8,9,10,11,12],[2,3,4,5,6,7,8,9,10,11,12,13],[2,3,4,5,6,7,8,9,10,11,12,13,14],[],[1,2,3,4,5,6,7,8,9,10,11,12,13,14,15,16],[0,1,2,3,4,5,6,7,8,9,10,11,12,13,14,15,16,17],[0,1,2,3,4,5,6,7,8,9,10,11,12,13,14,15,16,17,18]] [([],[]),([],[]),([],[]),([],[]),([],[]),([],[]),([],[]),([],[]),([],[]),([],[]),([],[]),([],[]),([],[]),([],[]),([],[]),([],[]),([],[]),([],[]),([],[]),([],[])] 0;(focus (refine dp 0 0 [37,38,39,40,41,42,43,44,45,46,47,48,49,50,51,52,53] [] pu1 ?_;refine dp 1 0 [36,38,39,40,41,42,43,44,45,46,47,48,49,50,51,52] [] pu1 ?_;refine dp 2 0 [36,37,42,43,44,45,46,47,48,49,52] [] pu1 ?_;refine dp 3 1 [36,37,42,43,44,45,46,47,48,49,52] [] (a_pure (sv := .one _) rfl) ?_;refine dp 4 3 [36,37,42,43,44,45,46,47,48,49,52] [] (a_pure (sv := .one _) rfl) ?_;refine dp 5 7 [36,37,42,43,44,45,46,47,48,49,52] [] (by exact puL) ?_;refine dp 6 0 [36,37,38,39,40,41,43,44,45,46,48,52] [] pu1 ?_;refine dp 7 0 [36,37,38,39,40,41,42,48,52] [] pu1 ?_;refine dp 8 1 [36,37,38,39,40,41,42,48,52] [] (a_pure (sv := .one _) rfl) ?_;refine dp 9 3 [36,37,38,39,40,41,42,48,52] [] (a_pure (sv := .one _) rfl) ?_;refine dp 10 7 [36,37,38,39,40,41,42,48,52] [] (by exact puL) ?_;refine dp 11 31 [36,37,38,39,40,41,48,52] [] (by exact a_mulB rfl rfl (by omega) (by omega) (by omega) (by omega)) ?_;refine dp 12 0 [36,37,38,39,40,41,42,43,44,45,46,47,52] [] pu1 ?_;refine dp 13 127 [36,37,38,39,40,41,52] [] (a_add rfl rfl (by omega) (by omega)) ?_;refine dp 14 4095 [36,37,52] [] puI ?_;refine dp 15 8191 [36,37,52] [] (by exact puL) ?_;refine dp 16 0 [36,37,38,39,40,41,42,43,44,45,46,47,48,49,50,51] [] pu1 ?_;refine dp 17 65535 [36] [] (callD1 (n := _) 0 (θ := []) (hD := (l14Part_ok m m.ru[(q * m.sy + v).toNat] v hm.ok hro n0' preB267))) ?_;refine dp 18 262143 [] [] (a_add rfl rfl (by omega) (by omega)) ?_;refine dp 19 524287 [] [] pu1 ?_;(refine d_nil ?_;refine dN ?_)));any_goals kernel_rfl)|((refine g_cond rfl (fun hc => ?_) (fun hc => ?_)) <;> (try simp only [dcB] at hc) <;> (try first|contradiction|(exfalso;omega)))|fail
          rw [hrq]
          refine q_again (v + 1,c + partZ m (ruQ m q v) v) [0,1,2] (by exact stk) ?_ ?_
          · refine ⟨by dsimp only; omega,by dsimp only; omega,?_⟩
            dsimp only
            rw [n2',show (v + 1).toNat = v.toNat + 1 by omega,inZ_succ,show ((v.toNat : Nat) : Int) = v by omega]
            omega
          · dsimp only; omega
        · skip
          have hcc : c = u + secZ m q := by rw [n2',secZ_in,show v = m.sy by omega]; omega
          repeat' first|(apply p3;(first|exact pu1|exact puC|exact a_add rfl rfl (by omega) (by omega));exact rfl)|refine cd ?_|((refine g_cond rfl (fun hc => ?_) (fun hc => ?_)) <;> (try simp only [dcB] at hc) <;> (try first|contradiction|(exfalso;omega)))|fail
          refine q_again (q + 1,c,T ++ [u]) [2] (by exact stk) ?_ ?_
          · refine ⟨by dsimp only; omega,by dsimp only; omega,?_,?_⟩
            · dsimp only
              rw [hcc,k2,show (q + 1).toNat = q.toNat + 1 by omega,atZ,show ((q.toNat : Nat) : Int) = q by omega]
            · dsimp only
              rw [k3,k2,show (q + 1).toNat = q.toNat + 1 by omega,begZ_succ]
          · dsimp only; omega
    · skip
      rw [show q = m.st by omega] at k2 k3
      rw [← k2,← k3]
      repeat' first|(apply p3;(first|exact pu1|exact puC);exact rfl)|refine cd ?_|((refine g_cond rfl (fun hc => ?_) (fun hc => ?_)) <;> (try simp only [dcB] at hc) <;> (try first|contradiction|(exfalso;omega)))|fail
      repeat refine cr ?_
      refine ends_id ?_
      refine endK [?_] (h2 := ?_) (h3 := ?_) (nd := ?_)
      rotate_left 1
      all_goals (repeat' first|exact ce0|refine ce ?_|refine ce2 ?_ ?_|(refine Or.inr (bx_eq rfl rfl ?_);(try dsimp only [C.ren,C.ren.all]);(try exact rfl))|exact SVLe.refl|refine ceb ?_)
      all_goals first | exact (show nodupB _ = true from rfl) | exact Or.inr rfl | (rfl)
theorem l20Fits_ok (m : Mach) (hv : vMach m = true) : Does Tryz.prog 33 [.one (maB m)] [] (.one (boo (decide (atZ m m.st.toNat ≤ 400)))) [] := by
  refine does_of (k := 0) Tryz.func33 rfl Tryz.ntmps33 rfl rfl fun w F0 S0 ρ0 => ?_
  dsimp only [argT,argH]
  repeat' first|(apply p3;(first|exact pu1|exact puC);exact rfl)|refine cd ?_|(apply c4 1;exact callK1 (θ := []) (hD := (l14Starts_ok _ preB267));exact rfl;exact rfl;exact rfl;refine dM ?_)|fail
  repeat refine cr ?_
  refine ends_id ?_
  refine endK [] (h2 := ?_) (h3 := ?_) (nd := ?_)
  all_goals (repeat' first|exact ce0|refine ce ?_|refine ce2 ?_ ?_|exact SVLe.refl|refine ceb ?_)
  all_goals first | exact (show nodupB _ = true from rfl) | exact Or.inr rfl | (rfl)
theorem bodA_len {X : Type} (ef : X → As → As) (c : X → Nat) : ∀ (l : List X) (i : Nat) (A : As),(∀ x ∈ l,∀ A,AsOk A → AsOk (ef x A) ∧ (ef x A).is.length = A.is.length + c x) → AsOk A → (bodA (l.map ef) i A).is.length = A.is.length + (l.map c).sum
  | [],i,A,_,_ => by simp [bodA]
  | x :: l,i,A,h,hA => by
    have h1 := h x (by simp) _ (hA.here i)
    rw [List.map_cons,bodA,bodA_len ef c l (i + 1) _ (fun y hy => h y (List.mem_cons_of_mem _ hy)) h1.1,h1.2,len_here,List.map_cons,List.sum_cons]
    omega
theorem splitA_len {X : Type} (f t : Int) (ef : X → As → As) (c : X → Nat) (l : List X) {A : As} (h : ∀ x ∈ l,∀ A,AsOk A → AsOk (ef x A) ∧ (ef x A).is.length = A.is.length + c x) (hA : AsOk A) : (splitA f t (l.map ef) A).is.length = A.is.length + (l.length + 1) + (l.map c).sum := by
  unfold splitA
  obtain ⟨h1,h2,h3⟩ := hdsA_ok f (hA.spot.here A.sp.length) (l.map ef).length
  rw [bodA_len ef c l _ _ h (h1.emit 0 t _ none),len_emit,h2,len_here,len_spot,List.length_map]
  omega
theorem lenZ_rep (r : Int) : ∀ n : Nat,lenZ (List.replicate n ⟨0,r,0⟩) = n
  | 0 => rfl
  | n + 1 => by
    have ih := lenZ_rep r n
    unfold lenZ at *
    rw [List.replicate_succ,List.map_cons,List.sum_cons,ih]
    simp only
    omega
theorem lenZ_tail (sy y : Int) : lenZ (tailZ sy y) = 5 + sy + y.toNat := by
  unfold tailZ
  rw [lenZ_app,lenZ_rep]
  simp [lenZ]
  omega
theorem lenZ_halt (sy y : Int) : lenZ (haltZ sy y) = 1 + sy + y.toNat := by
  unfold haltZ
  rw [lenZ_app,lenZ_rep]
  simp [lenZ]
  omega
theorem lenZ_right (sy y : Int) : lenZ (rightZ sy y) = 5 + sy + y.toNat := by
  unfold rightZ
  rw [lenZ_app,lenZ_rep]
  simp [lenZ]
  omega
theorem sum_cast (l : List Int) (f : Int → Nat) (g : Int → Int) (h : ∀ x ∈ l,((f x : Nat) : Int) = g x) : (((l.map f).sum : Nat) : Int) = (l.map g).sum := by
  induction l with
  | nil => rfl
  | cons x l ih =>
    have h1 := h x (by simp)
    have h2 := ih fun y hy => h y (List.mem_cons_of_mem _ hy)
    rw [List.map_cons,List.sum_cons,List.map_cons,List.sum_cons,← h1,← h2]
    omega
theorem leftA_len {sy : Int} (tg : Nat) {A : As} (h1 : 1 ≤ sy) (h2 : sy ≤ 6) (hA : AsOk A) : AsOk (leftA sy tg A) ∧ ((leftA sy tg A).is.length : Int) = A.is.length + (sy + 1 + (tlsZ sy).sum) := by
  refine ⟨(leftA_ok tg h1 h2 hA).1,?_⟩
  unfold leftA
  have := splitA_len 0 2 (fun y A => chA A tg (tailP sy y)) (fun y => lenP (tailP sy y)) (rngI sy.toNat) (A := A) (fun y hy A hA => chA_ok tg (tailP sy y) A (tailP_ok h1 h2) hA) hA
  rw [this,rngI_len]
  have hs := sum_cast (rngI sy.toNat) (fun y => lenP (tailP sy y)) (fun y => lenZ (tailZ sy y)) (fun y hy => by
    have := rngI_mem hy
    try dsimp only
    rw [lenP_tail,lenZ_tail]
    omega)
  unfold tlsZ
  rw [List.map_map]
  rw [show (lenZ ∘ tailZ sy) = fun y => lenZ (tailZ sy y) from rfl,← hs]
  omega
theorem secE_len {m : Mach} {r : Rule'} {v : Int} (hm : MaOk m) (hr : RuOk m r) (h0 : 0 ≤ v) (h1 : v ≤ m.sy - 1) {A : As} (hA : AsOk A) : ((secE m r v A).is.length : Int) = A.is.length + partZ m r v := by
  obtain ⟨⟨ya,yb⟩,yc⟩ := hm
  unfold secE partZ headZ
  by_cases hn : r = noR
  · rw [if_pos hn,if_pos hn,if_neg (fun h => h.1 hn),(chA_ok m.st.toNat (haltP m.sy v) A (haltP_ok (by omega) yb) hA).2,lenP_halt,lenZ_halt]
    omega
  · obtain ⟨⟨w1',w2'⟩,w3',w4',w5'⟩ := hr.ok.resolve_left hn
    rw [if_neg hn,if_neg hn]
    by_cases hm1 : r.m = 1
    · rw [if_pos hm1,if_pos hm1,if_neg (fun h => by have := h.2; omega),(chA_ok r.n.toNat (rightP m.sy r.w) A (rightP_ok (by omega) yb) hA).2,lenP_right,lenZ_right]
      omega
    · have h3 := chA_ok A.sp.length (haltP m.sy r.w) A.spot (haltP_ok (by omega) yb) hA.spot
      rw [if_neg hm1,if_neg hm1,if_pos ⟨hn,by omega⟩,(leftA_len r.n.toNat (by omega) yb (h3.1.here A.sp.length)).2,len_here,h3.2,len_spot,lenP_halt,lenZ_halt]
      omega
theorem secA_len {m : Mach} (hm : MaRu m) {q : Int} (h1 : 0 ≤ q) (h2 : q ≤ m.st - 1) {A : As} (hA : AsOk A) : ((secA m q A).is.length : Int) = A.is.length + secZ m q := by
  obtain ⟨⟨ya,yb⟩,yc⟩ := hm.ok
  unfold secA secZ
  have hr : ∀ v ∈ rngI m.sy.toNat,0 ≤ v ∧ v ≤ m.sy - 1 ∧ RuOk m (ruQ m q v) := fun v hv => by
    have := rngI_mem hv
    exact ⟨this.1,by omega,hm.ru q v h1 h2 this.1 (by omega)⟩
  have := splitA_len 1 2 (fun v => secE m (ruQ m q v) v) (fun v => (partZ m (ruQ m q v) v).toNat) (rngI m.sy.toNat) (A := A) (fun v hv A hA => by
    obtain ⟨a1,a2,a3⟩ := hr v hv
    have b1 := partZ_bd hm.ok a3 a1 a2
    have b2 := secE_len hm.ok a3 a1 a2 hA
    exact ⟨(secE_ok hm.ok a3 a1 a2 hA).1,by omega⟩) hA
  rw [this,rngI_len]
  have hs := sum_cast (rngI m.sy.toNat) (fun v => (partZ m (ruQ m q v) v).toNat) (fun v => partZ m (ruQ m q v) v) (fun v hv => by
    obtain ⟨a1,a2,a3⟩ := hr v hv
    have b1 := partZ_bd hm.ok a3 a1 a2
    try dsimp only
    omega)
  rw [← hs]
  omega
theorem secs_len {m : Mach} (hm : MaRu m) : ∀ k : Nat,(k : Int) ≤ m.st → ((secs m k).is.length : Int) = atZ m k
  | 0,_ => by simp [secs,atZ]
  | k + 1,hk => by
    have h1 := secs_len hm k (by omega)
    rw [secs,secA_len hm (by omega) (by omega) ((secs_ok hm k (by omega)).1.here k),len_here,h1,atZ]
theorem plen_at {m : Mach} (hv : vMach m = true) : (plen m : Int) = atZ m m.st.toNat := by
  have hm := maRu_of hv
  have := hm.ok.st
  unfold plen
  exact secs_len hm m.st.toNat (by omega)
theorem mtpC_at {m : Mach} (hv : vMach m = true) : mtpC m = if atZ m m.st.toNat ≤ 400 then 0 else 5 := by
  unfold mtpC
  rw [plen_at hv]
end Go.Proofs.YtegpggobfdcafaaGreat
end
section
set_option linter.unusedVariables false
set_option linter.unusedSimpArgs false
set_option maxRecDepth 100000
set_option maxHeartbeats 4000000
namespace Go.Proofs.YtegpggobfdcafaaGreat
open Go Foot
def bodC {X : Type} (cf : X → Int → List Jn) (c : X → Nat) : List X → Int → List Jn
  | [],_ => []
  | x :: l,a => cf x a ++ bodC cf c l (a + c x)
def begC {X : Type} (c : X → Nat) : List X → Int → List Int
  | [],_ => []
  | x :: l,a => a :: begC c l (a + c x)
def hdC (f : Int) : Int → List Int → List Jn
  | _,[] => []
  | a,E :: l => ⟨1,f,a + 1,E⟩ :: hdC f (a + 1) l
def splC {X : Type} (f t : Int) (cf : X → Int → List Jn) (c : X → Nat) (l : List X) (a : Int) : List Jn :=
  hdC f a (begC c l (a + l.length + 1)) ++ [⟨0,t,a,0⟩] ++ bodC cf c l (a + l.length + 1)
theorem begC_len {X : Type} (c : X → Nat) : ∀ (l : List X) (a : Int),(begC c l a).length = l.length
  | [],_ => rfl
  | x :: l,a => by rw [begC,List.length_cons,begC_len c l,List.length_cons]
theorem hdC_snoc (f : Int) : ∀ (l : List Int) (a E : Int),hdC f a (l ++ [E]) = hdC f a l ++ [⟨1,f,a + l.length + 1,E⟩]
  | [],a,E => by simp [hdC]
  | x :: l,a,E => by
    rw [List.cons_append,hdC,hdC_snoc f l,hdC,List.cons_append]
    have e : a + 1 + (l.length : Int) + 1 = a + ((x :: l).length : Int) + 1 := by rw [List.length_cons]; omega
    rw [e]
theorem hdsA_sp (f : Int) (A : As) : ∀ n,(hdsA f n A).sp = A.sp ++ List.replicate n 0
  | 0 => by simp [hdsA]
  | n + 1 => by rw [hdsA,emit_sp,spot_sp,hdsA_sp f A n,List.append_assoc,List.replicate_succ']
theorem hdsA_res {A : As} (h : PsOk A) (σ : List Int) (f : Int) : ∀ n,PsOk (hdsA f n A) ∧ (hdsA f n A).is.length = A.is.length + n ∧ res σ (hdsA f n A) = res σ A ++ hdC f A.is.length ((List.range n).map fun i => σ.getD (A.sp.length + i) 0)
  | 0 => ⟨h,rfl,by simp [hdsA,hdC]⟩
  | n + 1 => by
    obtain ⟨h1,h2,h3⟩ := hdsA_res h σ f n
    have hs : (hdsA f n A).sp.length = A.sp.length + n := by rw [hdsA_sp,List.length_append,List.length_replicate]
    rw [hdsA]
    refine ⟨psOk_emit (psOk_spot h1) _ _ _ _,by rw [len_emit,len_spot,h2]; rfl,?_⟩
    rw [res_emit (psOk_spot h1),res_spot,h3,len_spot,h2,hs,List.range_succ,List.map_append,List.map_cons,List.map_nil,hdC_snoc,List.append_assoc,List.length_map,List.length_range]
    simp only [Int.natCast_add]
structure BdOk {X : Type} (σ : List Int) (ef : X → As → As) (cf : X → Int → List Jn) (c : X → Nat) (l : List X) : Prop where
  blt : ∀ x ∈ l,∀ A,Blt A (ef x A)
  old : ∀ x ∈ l,∀ A,PsOk A → Old A (ef x A)
  len : ∀ x ∈ l,∀ A,PsOk A → (ef x A).is.length = A.is.length + c x
  res : ∀ x ∈ l,∀ A,PsOk A → Agr σ A (ef x A) → res σ (ef x A) = res σ A ++ cf x A.is.length
theorem BdOk.tl {X : Type} {σ : List Int} {ef : X → As → As} {cf : X → Int → List Jn} {c : X → Nat} {x : X} {l : List X} (h : BdOk σ ef cf c (x :: l)) : BdOk σ ef cf c l :=
  ⟨fun y hy => h.blt y (List.mem_cons_of_mem _ hy),fun y hy => h.old y (List.mem_cons_of_mem _ hy),fun y hy => h.len y (List.mem_cons_of_mem _ hy),fun y hy => h.res y (List.mem_cons_of_mem _ hy)⟩
theorem bodA_sp {X : Type} {σ : List Int} {ef : X → As → As} {cf : X → Int → List Jn} {c : X → Nat} : ∀ (l : List X) (i : Nat) (A : As),BdOk σ ef cf c l → PsOk A → i + l.length ≤ A.sp.length →
    A.sp.length ≤ (bodA (l.map ef) i A).sp.length ∧ (∀ k,k < A.sp.length → (k < i ∨ i + l.length ≤ k) → (bodA (l.map ef) i A).sp[k]? = A.sp[k]?) ∧ (∀ j,j < l.length → (bodA (l.map ef) i A).sp[i + j]? = (begC c l A.is.length)[j]?)
  | [],i,A,_,_,_ => ⟨Nat.le_refl _,fun _ _ _ => rfl,fun j hj => by simp at hj⟩
  | x :: l,i,A,h,hA,hi => by
    rw [List.length_cons] at hi
    have hp := psOk_here hA i
    have ho := h.old x (by simp) (A.here i) hp
    have hl := h.len x (by simp) (A.here i) hp
    have hb := (h.blt x (by simp) (A.here i)).psOk hp
    have l1 : (A.here i).sp.length = A.sp.length := by rw [here_sp,List.length_set]
    have l2 := ho.len
    obtain ⟨q1,q2,q3⟩ := bodA_sp l (i + 1) (ef x (A.here i)) h.tl hb (by omega)
    rw [len_here] at hl
    rw [List.map_cons,bodA]
    refine ⟨by omega,fun k hk hki => ?_,fun j hj => ?_⟩
    · rw [List.length_cons] at hki
      rw [q2 k (by omega) (by omega),ho.same k (by omega),here_sp,List.getElem?_set_ne (by omega)]
    · rw [begC]
      cases j with
      | zero =>
        show (bodA (l.map ef) (i + 1) (ef x (A.here i))).sp[i]? = _
        rw [q2 i (by omega) (by omega),ho.same i (by omega),here_sp,List.getElem?_set_self (by omega)]
        rfl
      | succ j =>
        rw [List.length_cons] at hj
        rw [show i + (j + 1) = i + 1 + j by omega,q3 j (by omega),hl]
        simp only [Int.natCast_add,List.getElem?_cons_succ]
theorem bodA_res {X : Type} {σ : List Int} {ef : X → As → As} {cf : X → Int → List Jn} {c : X → Nat} : ∀ (l : List X) (i : Nat) (A : As),BdOk σ ef cf c l → PsOk A → i + l.length ≤ A.sp.length → Agr σ A (bodA (l.map ef) i A) →
    res σ (bodA (l.map ef) i A) = res σ A ++ bodC cf c l A.is.length
  | [],i,A,_,_,_,_ => by simp [bodA,bodC]
  | x :: l,i,A,h,hA,hi,hσ => by
    rw [List.length_cons] at hi
    have hp := psOk_here hA i
    have ho := h.old x (by simp) (A.here i) hp
    have hl := h.len x (by simp) (A.here i) hp
    have hb := (h.blt x (by simp) (A.here i)).psOk hp
    have l1 : (A.here i).sp.length = A.sp.length := by rw [here_sp,List.length_set]
    have l2 := ho.len
    obtain ⟨q1,q2,q3⟩ := bodA_sp l (i + 1) (ef x (A.here i)) h.tl hb (by omega)
    rw [List.map_cons,bodA] at hσ ⊢
    have a1 : Agr σ (ef x (A.here i)) (bodA (l.map ef) (i + 1) (ef x (A.here i))) := ⟨fun k h1 h2 => hσ.eq k (by omega) h2⟩
    have a2 : Agr σ (A.here i) (ef x (A.here i)) := ⟨fun k h1 h2 => by rw [hσ.eq k (by omega) (by omega),q2 k h2 (by omega)]⟩
    rw [bodA_res l (i + 1) _ h.tl hb (by omega) a1,h.res x (by simp) _ hp a2,res_here,hl,len_here,bodC,List.append_assoc]
    simp only [Int.natCast_add]
theorem splitA_old {X : Type} {σ : List Int} {ef : X → As → As} {cf : X → Int → List Jn} {c : X → Nat} {l : List X} (f t : Int) {A : As} (h : BdOk σ ef cf c l) (hA : PsOk A) : Old A (splitA f t (l.map ef) A) := by
  unfold splitA
  have g1 := psOk_here (psOk_spot hA) A.sp.length
  obtain ⟨g2,g3,_⟩ := hdsA_res g1 σ f (l.map ef).length
  have g4 := psOk_emit g2 0 t (some A.sp.length) none
  have ls : ((hdsA f (l.map ef).length (A.spot.here A.sp.length)).emit 0 t (some A.sp.length) none).sp.length = A.sp.length + 1 + l.length := by
    rw [emit_sp,hdsA_sp,here_sp,spot_sp]; simp; omega
  obtain ⟨q1,q2,_⟩ := bodA_sp l (A.sp.length + 1) _ h g4 (by omega)
  refine ⟨by omega,fun i hi => ?_⟩
  rw [q2 i (by omega) (by omega),emit_sp,hdsA_sp,here_sp,spot_sp,List.getElem?_append_left (by simp; omega),List.getElem?_set_ne (by omega),List.getElem?_append_left hi]
theorem splitA_res {X : Type} {σ : List Int} {ef : X → As → As} {cf : X → Int → List Jn} {c : X → Nat} {l : List X} (f t : Int) {A : As} (h : BdOk σ ef cf c l) (hA : PsOk A) (hσ : Agr σ A (splitA f t (l.map ef) A)) : res σ (splitA f t (l.map ef) A) = res σ A ++ splC f t cf c l A.is.length := by
  unfold splitA at hσ ⊢
  have g1 := psOk_here (psOk_spot hA) A.sp.length
  obtain ⟨g2,g3,g5⟩ := hdsA_res g1 σ f (l.map ef).length
  have g4 := psOk_emit g2 0 t (some A.sp.length) none
  have hsp : ((hdsA f (l.map ef).length (A.spot.here A.sp.length)).emit 0 t (some A.sp.length) none).sp = A.sp ++ [(A.is.length : Int)] ++ List.replicate l.length 0 := by
    rw [emit_sp,hdsA_sp,here_sp,spot_sp,spot_is,List.length_map]; simp
  have ls : ((hdsA f (l.map ef).length (A.spot.here A.sp.length)).emit 0 t (some A.sp.length) none).sp.length = A.sp.length + 1 + l.length := by rw [hsp]; simp; omega
  have hll : ((hdsA f (l.map ef).length (A.spot.here A.sp.length)).emit 0 t (some A.sp.length) none).is.length = A.is.length + l.length + 1 := by
    rw [len_emit,g3,len_here,len_spot,List.length_map]
  obtain ⟨q1,q2,q3⟩ := bodA_sp l (A.sp.length + 1) _ h g4 (by omega)
  have a1 : Agr σ ((hdsA f (l.map ef).length (A.spot.here A.sp.length)).emit 0 t (some A.sp.length) none) (bodA (l.map ef) (A.sp.length + 1) ((hdsA f (l.map ef).length (A.spot.here A.sp.length)).emit 0 t (some A.sp.length) none)) := ⟨fun k h1 h2 => hσ.eq k (by omega) h2⟩
  have hf : σ.getD A.sp.length 0 = A.is.length := hσ.getD (Nat.le_refl _) (by
    rw [q2 _ (by omega) (by omega),hsp,List.append_assoc,List.getElem?_append_right (Nat.le_refl _)]; simp)
  have hst : ((List.range l.length).map fun i => σ.getD ((A.spot.here A.sp.length).sp.length + i) 0) = begC c l (A.is.length + l.length + 1) := by
    have l1 : (A.spot.here A.sp.length).sp.length = A.sp.length + 1 := by rw [here_sp,List.length_set,spot_sp]; simp
    apply List.ext_getElem
    · simp [begC_len]
    · intro j h1 h2
      rw [List.getElem_map,List.getElem_range,l1]
      have hj : j < l.length := by simpa using h1
      refine hσ.getD (by omega) ?_
      rw [q3 j hj,hll,List.getElem?_eq_getElem (by rw [begC_len]; exact hj)]
      congr 1
  have hE := res_emit g2 σ 0 t (some A.sp.length) none
  dsimp only at hE
  rw [bodA_res l _ _ h g4 (by omega) a1,hE,g5,res_here,res_spot,hll,List.length_map,hst,hf,len_here,len_spot]
  unfold splC
  simp only [Int.natCast_add,Int.natCast_one,List.append_assoc]
abbrev leftC (sy T : Int) (a : Int) : List Jn := splC 0 2 (fun y a => chC a T (tailP sy y)) (fun y => lenP (tailP sy y)) (rngI sy.toNat) a
theorem chA_lenP (x : Nat) (l : List Pc) (A : As) (hp : ∀ p ∈ l,PcOk p) (hA : PsOk A) : (chA A x l).is.length = A.is.length + lenP l := (chA_ok x l A hp ⟨hA.len⟩).2
theorem left_bd {sy : Int} (h1 : 1 ≤ sy) (h2 : sy ≤ 6) (σ : List Int) (tg : Nat) : BdOk σ (fun y A => chA A tg (tailP sy y)) (fun y a => chC a (σ.getD tg 0) (tailP sy y)) (fun y => lenP (tailP sy y)) (rngI sy.toNat) :=
  ⟨fun y _ A => chA_b _ _ _,fun y _ A _ => chA_old _ _ _,fun y _ A hA => chA_lenP _ _ _ (tailP_ok h1 h2) hA,fun y _ A hA hσ => chA_res σ tg (tailP sy y) A hA (tailP_ok h1 h2) hσ⟩
theorem leftA_res {sy : Int} (h1 : 1 ≤ sy) (h2 : sy ≤ 6) (σ : List Int) (tg : Nat) {A : As} (hA : PsOk A) (hσ : Agr σ A (leftA sy tg A)) : res σ (leftA sy tg A) = res σ A ++ leftC sy (σ.getD tg 0) A.is.length := by
  unfold leftA at hσ ⊢
  exact splitA_res 0 2 (left_bd h1 h2 σ tg) hA hσ
theorem leftA_old {sy : Int} (h1 : 1 ≤ sy) (h2 : sy ≤ 6) (tg : Nat) {A : As} (hA : PsOk A) : Old A (leftA sy tg A) := by
  unfold leftA
  exact splitA_old 0 2 (left_bd h1 h2 [] tg) hA
def secC (m : Mach) (σ : List Int) (r : Rule') (v : Int) (a : Int) : List Jn :=
  if r = noR then chC a (σ.getD m.st.toNat 0) (haltP m.sy v) else if r.m = 1 then chC a (σ.getD r.n.toNat 0) (rightP m.sy r.w) else chC a (a + lenP (haltP m.sy r.w)) (haltP m.sy r.w) ++ leftC m.sy (σ.getD r.n.toNat 0) (a + lenP (haltP m.sy r.w))
theorem secE_old {m : Mach} (hm : MaOk m) (r : Rule') (v : Int) {A : As} (hA : PsOk A) : Old A (secE m r v A) := by
  obtain ⟨⟨ya,yb⟩,_⟩ := hm
  unfold secE
  split
  · exact chA_old _ _ _
  · split
    · exact chA_old _ _ _
    · have o1 := chA_old A.sp.length (haltP m.sy r.w) A.spot
      exact (((Old.spot A).trans o1).here _ (Nat.le_refl _)).trans (leftA_old (by omega) yb _ (psOk_here ((chA_b _ _ _).psOk (psOk_spot hA)) _))
theorem secE_res {m : Mach} (hm : MaOk m) (σ : List Int) (r : Rule') (v : Int) {A : As} (hA : PsOk A) (hσ : Agr σ A (secE m r v A)) : res σ (secE m r v A) = res σ A ++ secC m σ r v A.is.length := by
  obtain ⟨⟨ya,yb⟩,_⟩ := hm
  unfold secE at hσ ⊢
  unfold secC
  by_cases hn : r = noR
  · rw [if_pos hn] at hσ ⊢
    rw [if_pos hn,chA_res σ _ _ A hA (haltP_ok (by omega) yb) hσ]
  · rw [if_neg hn] at hσ ⊢
    rw [if_neg hn]
    by_cases hm1 : r.m = 1
    · rw [if_pos hm1] at hσ ⊢
      rw [if_pos hm1,chA_res σ _ _ A hA (rightP_ok (by omega) yb) hσ]
    · rw [if_neg hm1] at hσ ⊢
      rw [if_neg hm1]
      have g1 := psOk_spot hA
      have g2 := (chA_b A.sp.length (haltP m.sy r.w) A.spot).psOk g1
      have g3 := psOk_here g2 A.sp.length
      have o1 := chA_old A.sp.length (haltP m.sy r.w) A.spot
      have o2 := leftA_old (sy := m.sy) (by omega) yb r.n.toNat g3
      have l1 : A.spot.sp.length = A.sp.length + 1 := by rw [spot_sp]; simp
      have l2 := o1.len
      have l3 : ((chA A.spot A.sp.length (haltP m.sy r.w)).here A.sp.length).sp.length = (chA A.spot A.sp.length (haltP m.sy r.w)).sp.length := by rw [here_sp,List.length_set]
      have l4 := o2.len
      have gl : (chA A.spot A.sp.length (haltP m.sy r.w)).is.length = A.is.length + lenP (haltP m.sy r.w) := by rw [chA_lenP _ _ _ (haltP_ok (by omega) yb) g1,len_spot]
      have he : σ.getD A.sp.length 0 = A.is.length + lenP (haltP m.sy r.w) := by
        have := hσ.getD (i := A.sp.length) (Nat.le_refl _) (v := ((chA A.spot A.sp.length (haltP m.sy r.w)).is.length : Int)) (by
          rw [o2.same _ (by omega),here_sp,List.getElem?_set_self (by omega)])
        rw [this,gl]
        omega
      have a1 : Agr σ A.spot (chA A.spot A.sp.length (haltP m.sy r.w)) := ⟨fun i h1 h2 => by
        rw [hσ.eq i (by omega) (by omega),o2.same i (by omega),here_sp,List.getElem?_set_ne (by omega)]⟩
      have a2 : Agr σ ((chA A.spot A.sp.length (haltP m.sy r.w)).here A.sp.length) (leftA m.sy r.n.toNat ((chA A.spot A.sp.length (haltP m.sy r.w)).here A.sp.length)) := ⟨fun i h1 h2 => hσ.eq i (by omega) h2⟩
      rw [leftA_res (by omega) yb σ r.n.toNat g3 a2,res_here,chA_res σ _ _ _ g1 (haltP_ok (by omega) yb) a1,res_spot,he,len_here,gl,len_spot,List.append_assoc]
      simp only [Int.natCast_add]
abbrev seqC (m : Mach) (σ : List Int) (q : Int) (a : Int) : List Jn := splC 1 2 (fun v a => secC m σ (ruQ m q v) v a) (fun v => (partZ m (ruQ m q v) v).toNat) (rngI m.sy.toNat) a
theorem sec_bd {m : Mach} (hm : MaRu m) (σ : List Int) {q : Int} (h1 : 0 ≤ q) (h2 : q ≤ m.st - 1) : BdOk σ (fun v => secE m (ruQ m q v) v) (fun v a => secC m σ (ruQ m q v) v a) (fun v => (partZ m (ruQ m q v) v).toNat) (rngI m.sy.toNat) := by
  have hv : ∀ v ∈ rngI m.sy.toNat,0 ≤ v ∧ v ≤ m.sy - 1 := fun v hv => by have := rngI_mem hv; have := hm.ok.sy; omega
  refine ⟨fun v _ A => secE_b _ _ _ _,fun v _ A hA => secE_old hm.ok _ _ hA,fun v hx A hA => ?_,fun v _ A hA hσ => secE_res hm.ok σ _ v hA hσ⟩
  · obtain ⟨b1,b2⟩ := hv v hx
    have hr := hm.ru q v h1 h2 b1 b2
    have e := secE_len hm.ok hr b1 b2 (A := A) ⟨hA.len⟩
    have := partZ_bd hm.ok hr b1 b2
    omega
theorem secA_res {m : Mach} (hm : MaRu m) (σ : List Int) {q : Int} (h1 : 0 ≤ q) (h2 : q ≤ m.st - 1) {A : As} (hA : PsOk A) (hσ : Agr σ A (secA m q A)) : res σ (secA m q A) = res σ A ++ seqC m σ q A.is.length := by
  unfold secA at hσ ⊢
  exact splitA_res 1 2 (sec_bd hm σ h1 h2) hA hσ
theorem secA_old {m : Mach} (hm : MaRu m) {q : Int} (h1 : 0 ≤ q) (h2 : q ≤ m.st - 1) {A : As} (hA : PsOk A) : Old A (secA m q A) := by
  unfold secA
  exact splitA_old 1 2 (sec_bd hm [] h1 h2) hA
theorem secs_ps (m : Mach) (k : Nat) : PsOk (secs m k) := by
  have := (secs_b m 0 k).psOk ⟨rfl,fun i hi => by simp [secs] at hi⟩
  rwa [Nat.zero_add] at this
theorem secs_sp {m : Mach} (hm : MaRu m) : ∀ k : Nat,(k : Int) ≤ m.st → ∀ j,j ≤ k → (∀ i,(m.st + 1).toNat ≤ i → i < (secs m j).sp.length → (secs m k).sp[i]? = (secs m j).sp[i]?) ∧ (j < k → (secs m k).sp[j]? = some ((secs m j).is.length : Int))
  | 0,_,j,hj => by
    obtain rfl : j = 0 := by omega
    exact ⟨fun i _ _ => rfl,fun h => by omega⟩
  | k + 1,hk,j,hj => by
    have hl := (secs_pt m k).2
    have ho := secA_old hm (q := (k : Int)) (by omega) (by omega) (psOk_here (secs_ps m k) k)
    have l1 : ((secs m k).here k).sp.length = (secs m k).sp.length := by rw [here_sp,List.length_set]
    by_cases hjk : j = k + 1
    · subst hjk
      exact ⟨fun i _ _ => rfl,fun h => by omega⟩
    · obtain ⟨q1,q2⟩ := secs_sp hm k (by omega) j (by omega)
      rw [secs]
      refine ⟨fun i h1 h2 => ?_,fun _ => ?_⟩
      · have hlt : i < (secs m k).sp.length := by
          have := q1 i h1 h2
          rw [List.getElem?_eq_getElem h2] at this
          exact (List.getElem?_eq_some_iff.1 this).1
        rw [ho.same i (by omega),here_sp,List.getElem?_set_ne (by omega),q1 i h1 h2]
      · by_cases he : j = k
        · subst he
          rw [ho.same j (by omega),here_sp,List.getElem?_set_self (by omega)]
        · rw [ho.same j (by omega),here_sp,List.getElem?_set_ne (by omega),q2 (by omega)]
theorem finA_sp {m : Mach} (hm : MaRu m) : (∀ k : Nat,(k : Int) ≤ m.st → ∀ i,(m.st + 1).toNat ≤ i → i < (secs m k).sp.length → (finA m).sp[i]? = (secs m k).sp[i]?) ∧ (∀ k : Nat,(k : Int) ≤ m.st → (finA m).sp[k]? = some (atZ m k)) := by
  have hst := hm.ok.st
  have hl := (secs_pt m m.st.toNat).2
  unfold finA
  refine ⟨fun k hk i h1 h2 => ?_,fun k hk => ?_⟩
  · rw [here_sp,List.getElem?_set_ne (by omega)]
    exact (secs_sp hm m.st.toNat (by omega) k (by omega)).1 i h1 h2
  · rw [here_sp,← secs_len hm k hk]
    by_cases he : k = m.st.toNat
    · subst he
      rw [List.getElem?_set_self (by omega)]
    · rw [List.getElem?_set_ne (by omega)]
      exact (secs_sp hm m.st.toNat (by omega) k (by omega)).2 (by omega)
def prgC (m : Mach) (σ : List Int) : Nat → List Jn
  | 0 => []
  | k + 1 => prgC m σ k ++ seqC m σ k (atZ m k)
theorem secs_res {m : Mach} (hm : MaRu m) : ∀ k : Nat,(k : Int) ≤ m.st → res (finA m).sp (secs m k) = prgC m (finA m).sp k
  | 0,_ => by unfold res; simp [secs,prgC]
  | k + 1,hk => by
    have hf := finA_sp hm
    have hl := (secs_pt m k).2
    have hp := psOk_here (secs_ps m k) k
    have l1 : ((secs m k).here k).sp.length = (secs m k).sp.length := by rw [here_sp,List.length_set]
    have ha : Agr (finA m).sp ((secs m k).here k) (secA m k ((secs m k).here k)) := ⟨fun i h1 h2 => by
      have := hf.1 (k + 1) hk i (by omega) (by rw [secs]; exact h2)
      rw [this,secs]⟩
    rw [secs,secA_res hm _ (by omega) (by omega) hp ha,res_here,secs_res hm k (by omega),len_here,secs_len hm k (by omega),prgC]
theorem prgM_code {m : Mach} (hm : MaRu m) : prgM m = prgC m (finA m).sp m.st.toNat := by
  have hst := hm.ok.st
  have hp : PsOk (finA m) := by unfold finA; exact psOk_here (secs_ps m _) _
  unfold prgM
  rw [res_all hp,← secs_res hm m.st.toNat (by omega)]
  have : res (finA m).sp (finA m) = res (finA m).sp (secs m m.st.toNat) := by
    have e : ∀ σ,res σ (finA m) = res σ (secs m m.st.toNat) := fun σ => by unfold finA; rw [res_here]
    exact e _
  exact this
theorem begM_code {m : Mach} (hm : MaRu m) : begM m = begZ m m.st.toNat := by
  have hst := hm.ok.st
  have hl : m.st.toNat < (finA m).sp.length := (List.getElem?_eq_some_iff.1 ((finA_sp hm).2 m.st.toNat (by omega))).1
  unfold begM begZ
  apply List.ext_getElem?
  intro i
  rw [List.getElem?_take,List.getElem?_map]
  by_cases hi : i < m.st.toNat
  · rw [if_pos hi,(finA_sp hm).2 i (by omega),List.getElem?_range hi]
    rfl
  · rw [if_neg hi,List.getElem?_eq_none (by simp; omega)]
    rfl
theorem tgt_q {m : Mach} (hm : MaRu m) {q : Int} (h1 : 0 ≤ q) (h2 : q ≤ m.st) : (finA m).sp.getD q.toNat 0 = atZ m q.toNat := by
  rw [List.getD_eq_getElem?_getD,(finA_sp hm).2 q.toNat (by omega)]
  rfl
end Go.Proofs.YtegpggobfdcafaaGreat
end
section
set_option linter.unusedVariables false
set_option linter.unusedSimpArgs false
set_option maxRecDepth 100000
set_option maxHeartbeats 4000000
namespace Go.Proofs.YtegpggobfdcafaaGreat
open Go Foot
abbrev Rg := Int → Int
def upd (R : Rg) (i v : Int) : Rg := fun j => if j = i then v else R j
theorem upd_same (R : Rg) (i v : Int) : upd R i v i = v := by simp [upd]
theorem upd_ne (R : Rg) {i j : Int} (v : Int) (h : j ≠ i) : upd R i v j = R j := by simp [upd,h]
def execJ (x : Jn) (s : Int × Rg) : Int × Rg :=
  if x.k = 0 then (x.t,upd s.2 x.r (s.2 x.r + 1)) else if s.2 x.r > 0 then (x.t,upd s.2 x.r (s.2 x.r - 1)) else (x.e,s.2)
inductive Rn (p : List Jn) (lo hi : Int) : Nat → Int × Rg → Int × Rg → Prop where
  | refl (s : Int × Rg) : Rn p lo hi 0 s s
  | step {n : Nat} {s s' : Int × Rg} (x : Jn) (h0 : 0 ≤ s.1) (h1 : lo ≤ s.1) (h2 : s.1 < hi) (hx : p[s.1.toNat]? = some x) (hr : 0 ≤ x.r ∧ x.r ≤ 2) (h : Rn p lo hi n (execJ x s) s') : Rn p lo hi (n + 1) s s'
theorem Rn.trans {p : List Jn} {lo hi : Int} {n m : Nat} {s t u : Int × Rg} (h : Rn p lo hi n s t) (h' : Rn p lo hi m t u) : Rn p lo hi (n + m) s u := by
  induction h with
  | refl s => rw [Nat.zero_add]; exact h'
  | step x h0 h1 h2 hx hr h ih => rw [Nat.add_right_comm]; exact .step x h0 h1 h2 hx hr (ih h')
theorem Rn.cast {p : List Jn} {lo hi : Int} {n m : Nat} {s t u v : Int × Rg} (h : Rn p lo hi n s t) (e : n = m) (e1 : s = u) (e2 : t = v) : Rn p lo hi m u v := by subst e e1 e2; exact h
def HasC (p : List Jn) (a : Int) (c : List Jn) : Prop := ∃ pre post,p = pre ++ c ++ post ∧ (pre.length : Int) = a
theorem HasC.left {p : List Jn} {a : Int} {c d : List Jn} (h : HasC p a (c ++ d)) : HasC p a c := by
  obtain ⟨pre,post,h1,h2⟩ := h
  exact ⟨pre,d ++ post,by rw [h1]; simp,h2⟩
theorem HasC.right {p : List Jn} {a : Int} {c d : List Jn} (h : HasC p a (c ++ d)) : HasC p (a + c.length) d := by
  obtain ⟨pre,post,h1,h2⟩ := h
  exact ⟨pre ++ c,post,by rw [h1]; simp,by rw [List.length_append]; omega⟩
theorem HasC.hd {p : List Jn} {a : Int} {x : Jn} {c : List Jn} (h : HasC p a (x :: c)) : 0 ≤ a ∧ p[a.toNat]? = some x := by
  obtain ⟨pre,post,h1,h2⟩ := h
  refine ⟨by omega,?_⟩
  have : a.toNat = pre.length := by omega
  rw [h1,this,List.append_assoc,List.getElem?_append_right (Nat.le_refl _)]
  simp
theorem HasC.tl {p : List Jn} {a : Int} {x : Jn} {c : List Jn} (h : HasC p a (x :: c)) : HasC p (a + 1) c := by
  have := HasC.right (c := [x]) (d := c) h
  exact this
theorem HasC.le {p : List Jn} {a : Int} {c : List Jn} (h : HasC p a c) : 0 ≤ a ∧ a + c.length ≤ p.length := by
  obtain ⟨pre,post,h1,h2⟩ := h
  rw [h1,List.length_append,List.length_append]
  omega
theorem incC_len (a t : Int) : ∀ n,(incC a t n).length = n
  | 0 => rfl
  | n + 1 => by rw [incC,List.length_append,incC_len a t n]; rfl
theorem loopC_len (a f t k E : Int) (h : 1 ≤ k) : ((loopC a f t k E).length : Int) = k + 1 := by
  unfold loopC
  rw [List.length_append,List.length_append,incC_len]
  simp
  omega
section
variable {p : List Jn} {lo hi : Int}
theorem exec_inc (r t e a : Int) (R : Rg) : execJ ⟨0,r,t,e⟩ (a,R) = (t,upd R r (R r + 1)) := by simp [execJ]
theorem exec_dec (r t e a : Int) (R : Rg) (h : R r > 0) : execJ ⟨1,r,t,e⟩ (a,R) = (t,upd R r (R r - 1)) := by simp [execJ,h]
theorem exec_dec0 (r t e a : Int) (R : Rg) (h : R r = 0) : execJ ⟨1,r,t,e⟩ (a,R) = (e,R) := by simp [execJ,h]
theorem upd_upd (R : Rg) (i v w : Int) : upd (upd R i v) i w = upd R i w := by funext j; unfold upd; split <;> simp_all
theorem upd_id (R : Rg) (i : Int) : upd R i (R i) = R := by funext j; unfold upd; split <;> simp_all
theorem upd_comm (R : Rg) {i j : Int} (v w : Int) (h : i ≠ j) : upd (upd R i v) j w = upd (upd R j w) i v := by
  funext k
  unfold upd
  by_cases h1 : k = i
  · by_cases h2 : k = j
    · exact absurd (h1.symm.trans h2) h
    · simp [h1,h]
  · by_cases h2 : k = j <;> simp [h1,h2,Ne.symm h]
theorem inc_run {t : Int} (ht : 0 ≤ t ∧ t ≤ 2) : ∀ (n : Nat) (a : Int) (R : Rg),HasC p a (incC a t n) → lo ≤ a → a + n ≤ hi → Rn p lo hi n (a,R) (a + n,upd R t (R t + n))
  | 0,a,R,_,_,_ => (Rn.refl (a,R)).cast rfl rfl (by simp [upd_id])
  | n + 1,a,R,h,h1,h2 => by
    rw [incC] at h
    have ih := inc_run ht n a R h.left h1 (by omega)
    have hr := h.right
    rw [incC_len] at hr
    obtain ⟨q1,q2⟩ := hr.hd
    refine ih.trans (Rn.step ⟨0,t,a + n + 1,0⟩ q1 (by dsimp only; omega) (by dsimp only; omega) q2 ht ((Rn.refl _).cast rfl rfl ?_))
    rw [exec_inc,upd_upd,upd_same]
    simp only [Int.natCast_add,Int.natCast_one,Prod.mk.injEq]
    exact ⟨by omega,by rw [Int.add_assoc]⟩
theorem loop_run {a f t k E : Int} (hf : 0 ≤ f ∧ f ≤ 2) (ht : 0 ≤ t ∧ t ≤ 2) (hft : f ≠ t) (hk : 1 ≤ k) (h : HasC p a (loopC a f t k E)) (h1 : lo ≤ a) (h2 : a + k + 1 ≤ hi) : ∀ (n : Nat) (R : Rg),R f = n → Rn p lo hi (n * (k.toNat + 1) + 1) (a,R) (E,upd (upd R t (R t + n * k)) f 0)
  | 0,R,hR => by
    unfold loopC at h
    obtain ⟨q1,q2⟩ := h.hd
    refine (Rn.step ⟨1,f,a + 1,E⟩ q1 h1 (by dsimp only; omega) q2 hf (Rn.refl _)).cast (by omega) rfl ?_
    rw [exec_dec0 _ _ _ _ _ hR]
    refine Prod.ext rfl ?_
    have e : upd (upd R t (R t + ((0 : Nat) : Int) * k)) f 0 = R := by
      rw [show R t + ((0 : Nat) : Int) * k = R t by simp,upd_id,show (0 : Int) = R f by rw [hR]; rfl,upd_id]
    exact e.symm
  | n + 1,R,hR => by
    have h' := h
    unfold loopC at h'
    rw [List.append_assoc] at h'
    obtain ⟨q1,q2⟩ := h'.hd
    have i1 := h'.right
    have i2 := i1.left
    have i3 := i1.right
    rw [incC_len] at i3
    simp only [List.length_singleton,Int.natCast_one] at i2 i3
    obtain ⟨q3,q4⟩ := i3.hd
    have hpos : R f > 0 := by omega
    have s1 : Rn p lo hi 1 (a,R) (a + 1,upd R f (R f - 1)) := (Rn.step ⟨1,f,a + 1,E⟩ q1 h1 (by dsimp only; omega) q2 hf (Rn.refl _)).cast rfl rfl (exec_dec _ _ _ _ _ hpos)
    have s2 := inc_run (lo := lo) (hi := hi) ht (k - 1).toNat (a + 1) (upd R f (R f - 1)) i2 (by omega) (by omega)
    have s3 : Rn p lo hi 1 (a + 1 + ((k - 1).toNat : Int),upd (upd R f (R f - 1)) t (upd R f (R f - 1) t + ((k - 1).toNat : Int))) (a,upd (upd R f (R f - 1)) t (R t + k)) := (Rn.step ⟨0,t,a,0⟩ q3 (by dsimp only; omega) (by dsimp only; omega) q4 ht (Rn.refl _)).cast rfl rfl (by
      rw [exec_inc,upd_upd,upd_same,upd_ne R _ (Ne.symm hft)]
      exact Prod.ext rfl (congrArg (upd (upd R f (R f - 1)) t) (by omega)))
    have ih := loop_run hf ht hft hk h h1 h2 n (upd (upd R f (R f - 1)) t (R t + k)) (by rw [upd_ne _ _ hft,upd_same,hR]; omega)
    refine (((s1.trans s2).trans s3).trans ih).cast ?_ rfl ?_
    · rw [Nat.add_mul]
      omega
    · refine Prod.ext rfl ?_
      rw [upd_same,upd_upd,upd_comm _ _ _ hft,upd_upd]
      have e : R t + k + (n : Int) * k = R t + ((n + 1 : Nat) : Int) * k := by rw [Int.natCast_succ,Int.add_mul,Int.one_mul]; omega
      rw [e]
def pcR (q : Pc) (R : Rg) : Rg := match q with
  | .lp f t k => upd (upd R t (R t + R f * k)) f 0
  | .ic r => upd R r (R r + 1)
  | .no => R
def pcN (q : Pc) (R : Rg) : Nat := match q with
  | .lp f _ k => (R f).toNat * (k.toNat + 1) + 1
  | .ic _ => 1
  | .no => 0
def chR : List Pc → Rg → Rg
  | [],R => R
  | q :: l,R => chR l (pcR q R)
def chN : List Pc → Rg → Nat
  | [],_ => 0
  | q :: l,R => pcN q R + chN l (pcR q R)
structure PcR (q : Pc) : Prop where
  lp : ∀ f t k,q = .lp f t k → (0 ≤ f ∧ f ≤ 2) ∧ (0 ≤ t ∧ t ≤ 2) ∧ f ≠ t ∧ 1 ≤ k ∧ k ≤ 100
  ic : ∀ r,q = .ic r → 0 ≤ r ∧ r ≤ 2
  no : q ≠ .no
def NonN (R : Rg) : Prop := ∀ i,0 ≤ R i
theorem nonN_upd {R : Rg} (h : NonN R) {i v : Int} (hv : 0 ≤ v) : NonN (upd R i v) := fun j => by unfold upd; split; exact hv; exact h j
theorem pcR_nonN {q : Pc} (hq : PcR q) {R : Rg} (h : NonN R) : NonN (pcR q R) := by
  cases q with
  | no => exact h
  | ic r => exact nonN_upd h (by have := h r; omega)
  | lp f t k =>
    obtain ⟨_,_,_,h4,_⟩ := hq.lp f t k rfl
    exact nonN_upd (nonN_upd h (by have := h t; have := Int.mul_nonneg (h f) (show 0 ≤ k by omega); omega)) (Int.le_refl _)
theorem pcK_len (a : Int) {q : Pc} (hq : PcR q) (E : Int) : ((pcK a q E).length : Int) = q.len := by
  cases q with
  | no => exact absurd rfl hq.no
  | ic r => rfl
  | lp f t k =>
    obtain ⟨_,_,_,h4,_⟩ := hq.lp f t k rfl
    simp only [pcK,Pc.len]
    rw [loopC_len _ _ _ _ _ h4]
    omega
theorem pc_run {a E : Int} {q : Pc} (hq : PcR q) (h : HasC p a (pcK a q E)) (h1 : lo ≤ a) (h2 : a + q.len ≤ hi) {R : Rg} (hR : NonN R) : Rn p lo hi (pcN q R) (a,R) (E,pcR q R) := by
  cases q with
  | no => exact absurd rfl hq.no
  | ic r =>
    obtain ⟨q1,q2⟩ := h.hd
    exact (Rn.step ⟨0,r,E,0⟩ q1 h1 (by simp only [Pc.len] at h2; dsimp only; omega) q2 (hq.ic r rfl) (Rn.refl _)).cast rfl rfl (exec_inc _ _ _ _ _)
  | lp f t k =>
    obtain ⟨k1,k2,k3,k4,k5⟩ := hq.lp f t k rfl
    simp only [Pc.len] at h2
    have hf := hR f
    have := loop_run (lo := lo) (hi := hi) k1 k2 k3 k4 h h1 (by omega) (R f).toNat R (by omega)
    refine this.cast rfl rfl ?_
    rw [show (((R f).toNat : Nat) : Int) = R f by omega]
    rfl
theorem ch_run {T : Int} : ∀ (l : List Pc) (a : Int) (R : Rg),(∀ q ∈ l,PcR q) → l ≠ [] → HasC p a (chC a T l) → lo ≤ a → a + lenP l ≤ hi → NonN R → Rn p lo hi (chN l R) (a,R) (T,chR l R)
  | [],_,_,_,hn,_,_,_,_ => absurd rfl hn
  | [q],a,R,hq,_,h,h1,h2,hR => by
    have := pc_run (lo := lo) (hi := hi) (E := T) (hq q (by simp)) h h1 (by simpa [lenP] using h2) hR
    exact this
  | q :: r :: l,a,R,hq,_,h,h1,h2,hR => by
    rw [chC] at h
    have hqq := hq q (by simp)
    have hl : lenP (q :: r :: l) = q.len + lenP (r :: l) := by simp [lenP]
    have i1 := h.left
    have i2 := h.right
    rw [pcK_len _ hqq] at i2
    have s1 := pc_run (lo := lo) (hi := hi) hqq i1 h1 (by omega) hR
    have s2 := ch_run (r :: l) (a + q.len) (pcR q R) (fun y hy => hq y (List.mem_cons_of_mem _ hy)) (by simp) i2 (by omega) (by omega) (pcR_nonN hqq hR)
    exact s1.trans s2
theorem chR_app : ∀ (l m : List Pc) (R : Rg),chR (l ++ m) R = chR m (chR l R)
  | [],_,_ => rfl
  | q :: l,m,R => chR_app l m (pcR q R)
theorem chN_app : ∀ (l m : List Pc) (R : Rg),chN (l ++ m) R = chN l R + chN m (chR l R)
  | [],_,_ => by simp [chN,chR]
  | q :: l,m,R => by
    rw [List.cons_append,chN,chN,chN_app l m,chR]
    omega
theorem chR_ic (r : Int) : ∀ (n : Nat) (R : Rg),chR (List.replicate n (.ic r)) R = upd R r (R r + n) ∧ chN (List.replicate n (.ic r)) R = n
  | 0,R => ⟨by simp [chR,upd_id],rfl⟩
  | n + 1,R => by
    obtain ⟨h1,h2⟩ := chR_ic r n (upd R r (R r + 1))
    rw [List.replicate_succ,chR,chN]
    refine ⟨?_,?_⟩
    · show chR (List.replicate n (.ic r)) (upd R r (R r + 1)) = _
      rw [h1,upd_upd,upd_same]
      congr 1
      omega
    · show 1 + chN (List.replicate n (.ic r)) (upd R r (R r + 1)) = _
      rw [h2]
      omega
theorem hdC_len (f : Int) : ∀ (l : List Int) (a : Int),(hdC f a l).length = l.length
  | [],_ => rfl
  | x :: l,a => by rw [hdC,List.length_cons,hdC_len f l,List.length_cons]
theorem hd_pass {f : Int} (hf : 0 ≤ f ∧ f ≤ 2) : ∀ (l : List Int) (a : Int) (R : Rg),HasC p a (hdC f a l) → lo ≤ a → a + l.length ≤ hi → (l.length : Int) ≤ R f → Rn p lo hi l.length (a,R) (a + l.length,upd R f (R f - l.length))
  | [],a,R,_,_,_,_ => (Rn.refl (a,R)).cast rfl rfl (by simp [upd_id])
  | E :: l,a,R,h,h1,h2,hR => by
    rw [hdC] at h
    rw [List.length_cons] at h2 hR
    obtain ⟨q1,q2⟩ := h.hd
    have ih := hd_pass hf l (a + 1) (upd R f (R f - 1)) h.tl (by omega) (by omega) (by rw [upd_same]; omega)
    refine (Rn.step ⟨1,f,a + 1,E⟩ q1 h1 (by dsimp only; omega) q2 hf (ih.cast rfl (exec_dec _ _ _ _ _ (by omega)).symm rfl)).cast rfl rfl ?_
    rw [upd_upd,upd_same,List.length_cons]
    simp only [Int.natCast_add,Int.natCast_one,Prod.mk.injEq]
    exact ⟨by omega,by congr 1; omega⟩
theorem hd_stop {f : Int} (hf : 0 ≤ f ∧ f ≤ 2) : ∀ (l : List Int) (a : Int) (R : Rg) (r : Nat) (hr : r < l.length),HasC p a (hdC f a l) → lo ≤ a → a + l.length ≤ hi → R f = r → Rn p lo hi (r + 1) (a,R) (l[r],upd R f 0)
  | [],_,_,_,hr,_,_,_,_ => by simp at hr
  | E :: l,a,R,0,hr,h,h1,h2,hR => by
    rw [hdC] at h
    rw [List.length_cons] at h2
    obtain ⟨q1,q2⟩ := h.hd
    refine (Rn.step ⟨1,f,a + 1,E⟩ q1 h1 (by dsimp only; omega) q2 hf (Rn.refl _)).cast rfl rfl ?_
    rw [exec_dec0 _ _ _ _ _ (by simpa using hR)]
    refine Prod.ext rfl ?_
    have : (0 : Int) = R f := by simpa using hR.symm
    show R = upd R f 0
    rw [this,upd_id]
  | E :: l,a,R,r + 1,hr,h,h1,h2,hR => by
    rw [hdC] at h
    rw [List.length_cons] at h2 hr
    obtain ⟨q1,q2⟩ := h.hd
    have ih := hd_stop hf l (a + 1) (upd R f (R f - 1)) r (by omega) h.tl (by omega) (by omega) (by rw [upd_same]; omega)
    refine (Rn.step ⟨1,f,a + 1,E⟩ q1 h1 (by dsimp only; omega) q2 hf (ih.cast rfl (exec_dec _ _ _ _ _ (by omega)).symm rfl)).cast rfl rfl ?_
    rw [upd_upd]
    rfl
theorem split_run {f t : Int} (hf : 0 ≤ f ∧ f ≤ 2) (ht : 0 ≤ t ∧ t ≤ 2) (hft : f ≠ t) {a : Int} {l : List Int} (h : HasC p a (hdC f a l ++ [⟨0,t,a,0⟩])) (h1 : lo ≤ a) (h2 : a + l.length + 1 ≤ hi) (r : Nat) (hr : r < l.length) : ∀ (n : Nat) (R : Rg),R f = n * l.length + r → Rn p lo hi (n * (l.length + 1) + (r + 1)) (a,R) (l[r],upd (upd R t (R t + n)) f 0)
  | 0,R,hR => by
    refine (hd_stop hf l a R r hr h.left h1 (by omega) (by rw [hR]; simp)).cast (by omega) rfl ?_
    rw [show R t + ((0 : Nat) : Int) = R t by simp,upd_id]
  | n + 1,R,hR => by
    have hs : (n + 1 : Nat) * l.length = n * l.length + l.length := by rw [Nat.add_mul,Nat.one_mul]
    have hR2 : R f = ((n * l.length + l.length + r : Nat) : Int) := by rw [hR,← Int.natCast_mul,hs]; simp
    have i2 := h.right
    rw [hdC_len] at i2
    obtain ⟨q1,q2⟩ := i2.hd
    have s1 := hd_pass (lo := lo) (hi := hi) hf l a R h.left h1 (by omega) (by rw [hR2]; omega)
    have s2 : Rn p lo hi 1 (a + l.length,upd R f (R f - l.length)) (a,upd (upd R f (R f - l.length)) t (R t + 1)) := (Rn.step ⟨0,t,a,0⟩ q1 (by dsimp only; omega) (by dsimp only; omega) q2 ht (Rn.refl _)).cast rfl rfl (by
      rw [exec_inc,upd_ne R _ (Ne.symm hft)])
    have ih := split_run hf ht hft h h1 h2 r hr n (upd (upd R f (R f - l.length)) t (R t + 1)) (by rw [upd_ne _ _ hft,upd_same,hR2,← Int.natCast_mul]; omega)
    refine ((s1.trans s2).trans ih).cast ?_ rfl ?_
    · rw [Nat.add_mul]; omega
    · refine Prod.ext rfl ?_
      funext j
      rw [upd_same,upd_upd]
      dsimp only
      by_cases e1 : j = f
      · rw [e1,upd_same,upd_same]
      · rw [upd_ne _ _ e1,upd_ne _ _ e1]
        by_cases e2 : j = t
        · rw [e2,upd_same,upd_same]
          omega
        · rw [upd_ne _ _ e2,upd_ne _ _ e2,upd_ne _ _ e1]
end
end Go.Proofs.YtegpggobfdcafaaGreat
end
section
set_option linter.unusedVariables false
set_option linter.unusedSimpArgs false
set_option maxRecDepth 100000
set_option maxHeartbeats 4000000
namespace Go.Proofs.YtegpggobfdcafaaGreat
open Go Foot
def rg (x y z : Int) : Rg := fun i => if i = 0 then x else if i = 1 then y else if i = 2 then z else 0
theorem rg_0 (x y z : Int) : rg x y z 0 = x := rfl
theorem rg_1 (x y z : Int) : rg x y z 1 = y := rfl
theorem rg_2 (x y z : Int) : rg x y z 2 = z := rfl
theorem upd_0 (x y z v : Int) : upd (rg x y z) 0 v = rg v y z := by funext i; unfold upd rg; by_cases h : i = 0 <;> simp [h]
theorem upd_1 (x y z v : Int) : upd (rg x y z) 1 v = rg x v z := by
  funext i; unfold upd rg
  by_cases h : i = 1
  · subst h; simp
  · simp [h]
theorem upd_2 (x y z v : Int) : upd (rg x y z) 2 v = rg x y v := by
  funext i; unfold upd rg
  by_cases h : i = 2
  · subst h; simp
  · simp [h]
theorem rg_non {x y z : Int} (h1 : 0 ≤ x) (h2 : 0 ≤ y) (h3 : 0 ≤ z) : NonN (rg x y z) := fun i => by unfold rg; split; exact h1; split; exact h2; split; exact h3; decide
theorem pcR_lp {f t k : Int} (h1 : 0 ≤ f ∧ f ≤ 2) (h2 : 0 ≤ t ∧ t ≤ 2) (h3 : f ≠ t) (h4 : 1 ≤ k) (h5 : k ≤ 100) : PcR (.lp f t k) := ⟨fun f' t' k' e => (by cases e; exact ⟨h1,h2,h3,h4,h5⟩),fun r e => (by cases e),by simp⟩
theorem pcR_icr {r : Int} (h1 : 0 ≤ r ∧ r ≤ 2) : PcR (.ic r) := ⟨fun f' t' k' e => (by cases e),fun r' e => (by cases e; exact h1),by simp⟩
theorem haltP_R {sy x : Int} (h1 : 1 ≤ sy) (h2 : sy ≤ 6) : ∀ q ∈ haltP sy x,PcR q := by
  intro p hp
  rcases List.mem_append.1 hp with hp | hp
  · simp only [List.mem_cons,List.not_mem_nil,or_false] at hp
    subst hp
    exact pcR_lp (by decide) (by decide) (by decide) (by omega) (by omega)
  · rw [(List.mem_replicate.1 hp).2]; exact pcR_icr (by decide)
theorem rightP_R {sy x : Int} (h1 : 1 ≤ sy) (h2 : sy ≤ 6) : ∀ q ∈ rightP sy x,PcR q := by
  intro p hp
  rcases List.mem_append.1 hp with hp | hp
  · simp only [List.mem_cons,List.not_mem_nil,or_false] at hp
    rcases hp with rfl | rfl | rfl <;> exact pcR_lp (by decide) (by decide) (by decide) (by omega) (by omega)
  · rw [(List.mem_replicate.1 hp).2]; exact pcR_icr (by decide)
theorem tailP_R {sy x : Int} (h1 : 1 ≤ sy) (h2 : sy ≤ 6) : ∀ q ∈ tailP sy x,PcR q := by
  intro p hp
  rcases List.mem_append.1 hp with hp | hp
  · simp only [List.mem_cons,List.not_mem_nil,or_false] at hp
    rcases hp with rfl | rfl | rfl <;> exact pcR_lp (by decide) (by decide) (by decide) (by omega) (by omega)
  · rw [(List.mem_replicate.1 hp).2]; exact pcR_icr (by decide)
theorem halt_R {sy x l k : Int} (hx : 0 ≤ x) : chR (haltP sy x) (rg l 0 k) = rg l (k * sy + x) 0 ∧ chN (haltP sy x) (rg l 0 k) = k.toNat * (sy.toNat + 1) + 1 + x.toNat := by
  unfold haltP
  have e : chR [Pc.lp 2 1 sy] (rg l 0 k) = rg l (k * sy) 0 := by
    simp only [chR,pcR,rg_1,rg_2,upd_1,upd_2,Int.zero_add]
  obtain ⟨h1,h2⟩ := chR_ic 1 x.toNat (rg l (k * sy) 0)
  rw [chR_app,chN_app,e,h1,h2]
  simp only [chN,pcN,rg_1,rg_2,upd_1]
  refine ⟨by rw [show ((x.toNat : Nat) : Int) = x by omega],?_⟩
  trivial
theorem right_R {sy x l k : Int} (hx : 0 ≤ x) : chR (rightP sy x) (rg l 0 k) = rg (l * sy + x) k 0 ∧ chN (rightP sy x) (rg l 0 k) = (k.toNat * 2 + 1) + (l.toNat * (sy.toNat + 1) + 1) + ((l * sy).toNat * 2 + 1) + x.toNat := by
  unfold rightP
  have e : chR [Pc.lp 2 1 1,.lp 0 2 sy,.lp 2 0 1] (rg l 0 k) = rg (l * sy) k 0 := by
    simp only [chR,pcR,rg_0,rg_1,rg_2,upd_0,upd_1,upd_2,Int.zero_add,Int.mul_one]
  obtain ⟨h1,h2⟩ := chR_ic 0 x.toNat (rg (l * sy) k 0)
  rw [chR_app,chN_app,e,h1,h2]
  simp only [chN,pcN,pcR,rg_0,rg_1,rg_2,upd_0,upd_1,upd_2,Int.zero_add,Int.mul_one]
  exact ⟨by rw [show ((x.toNat : Nat) : Int) = x by omega],by simp; omega⟩
theorem tail_R {sy x n j : Int} (hx : 0 ≤ x) : chR (tailP sy x) (rg 0 n j) = rg j (n * sy + x) 0 ∧ chN (tailP sy x) (rg 0 n j) = (j.toNat * 2 + 1) + (n.toNat * (sy.toNat + 1) + 1) + ((n * sy).toNat * 2 + 1) + x.toNat := by
  unfold tailP
  have e : chR [Pc.lp 2 0 1,.lp 1 2 sy,.lp 2 1 1] (rg 0 n j) = rg j (n * sy) 0 := by
    simp only [chR,pcR,rg_0,rg_1,rg_2,upd_0,upd_1,upd_2,Int.zero_add,Int.mul_one]
  obtain ⟨h1,h2⟩ := chR_ic 1 x.toNat (rg j (n * sy) 0)
  rw [chR_app,chN_app,e,h1,h2]
  simp only [chN,pcN,pcR,rg_0,rg_1,rg_2,upd_0,upd_1,upd_2,Int.zero_add,Int.mul_one]
  exact ⟨by rw [show ((x.toNat : Nat) : Int) = x by omega],by simp; omega⟩
theorem chC_len : ∀ (l : List Pc) (a T : Int),(∀ q ∈ l,PcR q) → (chC a T l).length = lenP l
  | [],_,_,_ => rfl
  | [q],a,T,h => by
    have := pcK_len a (h q (by simp)) T
    simp [chC,lenP]
    omega
  | q :: r :: l,a,T,h => by
    have := pcK_len a (h q (by simp)) (a + q.len)
    rw [chC,List.length_append,chC_len (r :: l) _ _ (fun y hy => h y (List.mem_cons_of_mem _ hy))]
    simp only [lenP,List.map_cons,List.sum_cons]
    omega
theorem bodC_len {X : Type} {cf : X → Int → List Jn} {c : X → Nat} : ∀ (l : List X) (a : Int),(∀ x ∈ l,∀ a,(cf x a).length = c x) → (bodC cf c l a).length = (l.map c).sum
  | [],_,_ => rfl
  | x :: l,a,h => by rw [bodC,List.length_append,h x (by simp),bodC_len l _ (fun y hy => h y (List.mem_cons_of_mem _ hy)),List.map_cons,List.sum_cons]
theorem splC_len {X : Type} {cf : X → Int → List Jn} {c : X → Nat} {l : List X} (f t a : Int) (h : ∀ x ∈ l,∀ a,(cf x a).length = c x) : (splC f t cf c l a).length = l.length + 1 + (l.map c).sum := by
  unfold splC
  rw [List.length_append,List.length_append,hdC_len,begC_len,bodC_len l _ h]
  simp
theorem begC_bd {X : Type} {c : X → Nat} : ∀ (l : List X) (a : Int) (j : Nat) (hj : j < l.length),a ≤ (begC c l a)[j]'(by rw [begC_len]; exact hj) ∧ (begC c l a)[j]'(by rw [begC_len]; exact hj) + c l[j] ≤ a + (l.map c).sum
  | x :: l,a,0,hj => by simp only [begC,List.getElem_cons_zero,List.map_cons,List.sum_cons]; omega
  | x :: l,a,j + 1,hj => by
    have := begC_bd (c := c) l (a + c x) j (by simpa using hj)
    simp only [begC,List.getElem_cons_succ,List.map_cons,List.sum_cons]
    omega
theorem bod_has {p : List Jn} {X : Type} {cf : X → Int → List Jn} {c : X → Nat} : ∀ (l : List X) (a : Int),(∀ x ∈ l,∀ a,(cf x a).length = c x) → HasC p a (bodC cf c l a) → ∀ (j : Nat) (hj : j < l.length),HasC p ((begC c l a)[j]'(by rw [begC_len]; exact hj)) (cf l[j] ((begC c l a)[j]'(by rw [begC_len]; exact hj)))
  | x :: l,a,h,hp,0,hj => by
    rw [bodC] at hp
    exact hp.left
  | x :: l,a,h,hp,j + 1,hj => by
    rw [bodC] at hp
    have h2 := hp.right
    rw [h x (by simp)] at h2
    exact bod_has l (a + c x) (fun y hy => h y (List.mem_cons_of_mem _ hy)) h2 j (by simpa using hj)
theorem rngI_get (n j : Nat) (h : j < (rngI n).length) : (rngI n)[j] = (j : Int) := by
  apply Option.some.inj
  rw [← List.getElem?_eq_getElem]
  rw [rngI_len] at h
  unfold rngI
  rw [List.getElem?_map,List.getElem?_range h]
  rfl
theorem left_len {sy T : Int} (h1 : 1 ≤ sy) (h2 : sy ≤ 6) : ∀ y ∈ rngI sy.toNat,∀ a,(chC a T (tailP sy y)).length = lenP (tailP sy y) := fun y _ a => chC_len _ _ _ (tailP_R h1 h2)
theorem secC_len {m : Mach} (hm : MaOk m) (σ : List Int) {r : Rule'} {v : Int} (hr : RuOk m r) (h0 : 0 ≤ v) (h1 : v ≤ m.sy - 1) (a : Int) : (secC m σ r v a).length = (partZ m r v).toNat := by
  have hb := partZ_bd hm hr h0 h1
  have hE := secE_res hm σ r v (A := ⟨[],[],[]⟩)
  obtain ⟨⟨ya,yb⟩,yc⟩ := hm
  unfold secC partZ headZ
  by_cases hn : r = noR
  · rw [if_pos hn,if_pos hn,if_neg (fun h => h.1 hn),chC_len _ _ _ (haltP_R (by omega) yb),lenP_halt,lenZ_halt]
    omega
  · obtain ⟨⟨w1',w2'⟩,w3',w4',w5'⟩ := hr.ok.resolve_left hn
    rw [if_neg hn,if_neg hn]
    by_cases hm1 : r.m = 1
    · rw [if_pos hm1,if_pos hm1,if_neg (fun h => by have := h.2; omega),chC_len _ _ _ (rightP_R (by omega) yb),lenP_right,lenZ_right]
      omega
    · rw [if_neg hm1,if_neg hm1,if_pos ⟨hn,by omega⟩,List.length_append,chC_len _ _ _ (haltP_R (by omega) yb),splC_len _ _ _ (left_len (by omega) yb),lenP_halt,lenZ_halt,rngI_len]
      have hs := sum_cast (rngI m.sy.toNat) (fun y => lenP (tailP m.sy y)) (fun y => lenZ (tailZ m.sy y)) (fun y hy => by
        have := rngI_mem hy
        try dsimp only
        rw [lenP_tail,lenZ_tail]
        omega)
      unfold tlsZ
      rw [List.map_map]
      rw [show (lenZ ∘ tailZ m.sy) = fun y => lenZ (tailZ m.sy y) from rfl,← hs]
      omega
end Go.Proofs.YtegpggobfdcafaaGreat
end
section
set_option linter.unusedVariables false
set_option linter.unusedSimpArgs false
set_option maxRecDepth 100000
set_option maxHeartbeats 4000000
namespace Go.Proofs.YtegpggobfdcafaaGreat
open Go Foot Go.RowKit
def numT (sy : Int) : List Int → Option Int
  | [] => some 0
  | c :: l => match numT sy l with
    | none => none
    | some n => if n * sy + c > 1000000 then none else some (n * sy + c)
@[irreducible] def numV (sy : Int) (l : List Int) : Int := (numT sy l).getD 0
@[irreducible] def numK (sy : Int) (l : List Int) : Bool := (numT sy l).isSome
theorem numT_some {sy : Int} {l : List Int} {n : Int} (h : numT sy l = some n) : numV sy l = n ∧ numK sy l = true := by unfold numV numK; rw [h]; exact ⟨rfl,rfl⟩
theorem numT_none {sy : Int} {l : List Int} (h : numT sy l = none) : numV sy l = 0 ∧ numK sy l = false := by unfold numV numK; rw [h]; exact ⟨rfl,rfl⟩
theorem numT_bd {sy : Int} (hs : 2 ≤ sy) : ∀ {l : List Int} {n : Int},(∀ c ∈ l,0 ≤ c ∧ c ≤ sy - 1) → numT sy l = some n → 0 ≤ n ∧ n ≤ 1000000
  | [],n,_,h => by simp only [numT,Option.some.injEq] at h; omega
  | c :: l,n,hc,h => by
    simp only [numT] at h
    cases hn : numT sy l with
    | none => rw [hn] at h; cases h
    | some k =>
      have ih := numT_bd hs (fun x hx => hc x (List.mem_cons_of_mem _ hx)) hn
      have h1 := hc c (by simp)
      rw [hn] at h
      simp only at h
      split at h
      · cases h
      · have hp : 0 ≤ k * sy := Int.mul_nonneg ih.1 (by omega)
        simp only [Option.some.injEq] at h
        omega
theorem numV_bd {sy : Int} (hs : 2 ≤ sy) {l : List Int} (hc : ∀ c ∈ l,0 ≤ c ∧ c ≤ sy - 1) : 0 ≤ numV sy l ∧ numV sy l ≤ 1000000 := by
  cases h : numT sy l with
  | none => rw [(numT_none h).1]; decide
  | some n => rw [(numT_some h).1]; exact numT_bd hs hc h
theorem numV_mod {sy : Int} (hs : 2 ≤ sy) {l : List Int} (hc : ∀ c ∈ l,0 ≤ c ∧ c ≤ sy - 1) (hk : numK sy l = true) : numV sy l % sy = l.headD 0 := by
  cases l with
  | nil => rw [(numT_some (l := []) rfl).1]; simp
  | cons c l =>
    have h1 := hc c (by simp)
    cases h : numT sy (c :: l) with
    | none => rw [(numT_none h).2] at hk; cases hk
    | some n =>
      rw [(numT_some h).1]
      simp only [numT] at h
      cases hn : numT sy l with
      | none => rw [hn] at h; cases h
      | some k =>
        rw [hn] at h
        simp only at h
        split at h
        · cases h
        · simp only [Option.some.injEq] at h
          rw [← h,List.headD_cons,Int.add_comm,Int.add_mul_emod_self_right,Int.emod_eq_of_lt h1.1 (by omega)]
theorem numT_drop {sy : Int} {l : List Int} {i : Nat} (hi : i < l.length) : numT sy (l.drop i) = match numT sy (l.drop (i + 1)) with
    | none => none
    | some n => if n * sy + l[i] > 1000000 then none else some (n * sy + l[i]) := by
  rw [List.drop_eq_getElem_cons hi,numT]
theorem numT_pre {sy : Int} {l : List Int} : ∀ {i : Nat},i ≤ l.length → numT sy (l.drop i) = none → numT sy l = none
  | 0,_,h => by simpa using h
  | i + 1,hi,h => by
    refine numT_pre (i := i) (by omega) ?_
    rw [numT_drop (show i < l.length by omega),h]
theorem tapeNumber_ok (l : List Int) (sy : Int) (hs : 2 ≤ sy) (hs2 : sy ≤ 6) (hc : ∀ c ∈ l,0 ≤ c ∧ c ≤ sy - 1) (hl : (l.length : Int) ≤ 1000) : Does Tryz.prog 108 [.one (shI l),.one (int sy)] [] (.tup [(false,[int (numV sy l)]),(false,[int (if numK sy l then 0 else 5)])]) [] := by
  refine does_of (k := 0) Tryz.func108 rfl Tryz.ntmps108 rfl rfl fun w F0 S0 ρ0 => ?_
  dsimp only [argT,argH]
  repeat' first|(apply p3;(first|exact pu1|exact puN|exact a_sub rfl rfl (by omega) (by omega));exact rfl)|refine cd ?_|fail
  refine g_loop_id ?_
  refine loopK [0,1,4,5] [] (fun x : Int × Int => -1 ≤ x.1 ∧ x.1 ≤ l.length - 1 ∧ numT sy (l.drop (x.1 + 1).toNat) = some x.2) (fun x => [(7,.one (int x.1)),(6,.one (int x.2))]) (fun _ => []) (fun x => (x.1 + 1).toNat) ((l.length : Int) - 1,(0 : Int)) [] (hI := ?_) (hr := ?_)
  · exact ⟨by dsimp only; omega,by dsimp only; omega,by dsimp only; rw [List.drop_of_length_le (by omega)]; rfl⟩
  · rintro ⟨i,n⟩ ⟨k0,k1,k2⟩
    dsimp only [List.cons_append,List.nil_append] at *
    skip
    repeat' first|refine cdn ?_|fail
    have hb := numT_bd hs (fun c h => hc c (List.mem_of_mem_drop h)) k2
    have hp : 0 ≤ n * sy := Int.mul_nonneg hb.1 (by omega)
    have hp2 : n * sy ≤ n * 6 := Int.mul_le_mul_of_nonneg_left hs2 hb.1
    by_cases hi : 0 ≤ i
    · have hil : i.toNat < l.length := by omega
      have hcl := hc _ (List.getElem_mem hil)
      have hd := numT_drop (sy := sy) hil
      rw [show (i + 1).toNat = i.toNat + 1 by omega] at k2
      rw [k2] at hd
      simp only at hd
      by_cases hbig : n * sy + l[i.toNat] > 1000000
      · rw [if_pos hbig] at hd
        obtain ⟨e1,e2⟩ := numT_none (numT_pre (by omega) hd)
        rw [e1,e2]
        repeat' first|(apply p3;(first|exact pu1|exact puC|exact a_mulB rfl rfl (by omega) (by omega) (by omega) (by omega)|exact a_add rfl rfl (by omega) (by omega)|exact puI);exact rfl)|refine cd ?_|((refine g_cond rfl (fun hc => ?_) (fun hc => ?_)) <;> (try simp only [dcB] at hc) <;> (try first|contradiction|(exfalso;omega)))|fail
        repeat refine cr ?_
        refine ends_id ?_
        refine endK [] (h2 := ?_) (h3 := ?_) (nd := ?_)
        all_goals (repeat' first|exact ce0|refine ce ?_|refine ce2 ?_ ?_|exact SVLe.refl|refine ceb ?_)
        all_goals first | exact (show nodupB _ = true from rfl) | exact Or.inr rfl | (rfl)
      · rw [if_neg hbig] at hd
        repeat' first|(apply p3;(first|exact pu1|exact a_sub rfl rfl (by omega) (by omega)|exact puC|exact a_mulB rfl rfl (by omega) (by omega) (by omega) (by omega)|exact a_add rfl rfl (by omega) (by omega)|exact puI);exact rfl)|refine cd ?_|((refine g_cond rfl (fun hc => ?_) (fun hc => ?_)) <;> (try simp only [dcB] at hc) <;> (try first|contradiction|(exfalso;omega)))|fail
        refine q_again (i - 1,n * sy + l[i.toNat]) [] (by exact stk) ?_ ?_
        · refine ⟨by dsimp only; omega,by dsimp only; omega,?_⟩
          dsimp only
          rw [show (i - 1 + 1).toNat = i.toNat by omega]
          exact hd
        · dsimp only; omega
    · skip
      rw [show (i + 1).toNat = 0 by omega,List.drop_zero] at k2
      obtain ⟨e1,e2⟩ := numT_some k2
      rw [e1,e2]
      repeat' first|(apply p3;(first|exact pu1|exact puC);exact rfl)|refine cd ?_|((refine g_cond rfl (fun hc => ?_) (fun hc => ?_)) <;> (try simp only [dcB] at hc) <;> (try first|contradiction|(exfalso;omega)))|fail
      repeat refine cr ?_
      refine ends_id ?_
      refine endK [] (h2 := ?_) (h3 := ?_) (nd := ?_)
      all_goals (repeat' first|exact ce0|refine ce ?_|refine ce2 ?_ ?_|exact SVLe.refl|refine ceb ?_)
      all_goals first | exact (show nodupB _ = true from rfl) | exact Or.inr rfl | (rfl)
theorem l14Number_ok (l : List Int) (sy : Int) (hs : 2 ≤ sy) (hs2 : sy ≤ 6) (hc : ∀ c ∈ l,0 ≤ c ∧ c ≤ sy - 1) (hl : (l.length : Int) ≤ 1000) : Does Tryz.prog 91 [.one (shI l),.one (int sy)] [] (.tup [(false,[int (numV sy l)]),(false,[boo (numK sy l)])]) [] := by
  refine does_of (k := 0) Tryz.func91 rfl Tryz.ntmps91 rfl rfl fun w F0 S0 ρ0 => ?_
  dsimp only [argT,argH]
  repeat' first|(apply p3;(first|exact pu1|exact puN|exact a_sub rfl rfl (by omega) (by omega));exact rfl)|refine cd ?_|fail
  refine g_loop_id ?_
  refine loopK [0,1,4,5] [] (fun x : Int × Int => -1 ≤ x.1 ∧ x.1 ≤ l.length - 1 ∧ numT sy (l.drop (x.1 + 1).toNat) = some x.2) (fun x => [(7,.one (int x.1)),(6,.one (int x.2))]) (fun _ => []) (fun x => (x.1 + 1).toNat) ((l.length : Int) - 1,(0 : Int)) [] (hI := ?_) (hr := ?_)
  · exact ⟨by dsimp only; omega,by dsimp only; omega,by dsimp only; rw [List.drop_of_length_le (by omega)]; rfl⟩
  · rintro ⟨i,n⟩ ⟨k0,k1,k2⟩
    dsimp only [List.cons_append,List.nil_append] at *
    skip
    repeat' first|refine cdn ?_|fail
    have hb := numT_bd hs (fun c h => hc c (List.mem_of_mem_drop h)) k2
    have hp : 0 ≤ n * sy := Int.mul_nonneg hb.1 (by omega)
    have hp2 : n * sy ≤ n * 6 := Int.mul_le_mul_of_nonneg_left hs2 hb.1
    by_cases hi : 0 ≤ i
    · have hil : i.toNat < l.length := by omega
      have hcl := hc _ (List.getElem_mem hil)
      have hd := numT_drop (sy := sy) hil
      rw [show (i + 1).toNat = i.toNat + 1 by omega] at k2
      rw [k2] at hd
      simp only at hd
      by_cases hbig : n * sy + l[i.toNat] > 1000000
      · rw [if_pos hbig] at hd
        obtain ⟨e1,e2⟩ := numT_none (numT_pre (by omega) hd)
        rw [e1,e2]
        repeat' first|(apply p3;(first|exact pu1|exact puC|exact a_mulB rfl rfl (by omega) (by omega) (by omega) (by omega)|exact a_add rfl rfl (by omega) (by omega)|exact puI);exact rfl)|refine cd ?_|((refine g_cond rfl (fun hc => ?_) (fun hc => ?_)) <;> (try simp only [dcB] at hc) <;> (try first|contradiction|(exfalso;omega)))|fail
        repeat refine cr ?_
        refine ends_id ?_
        refine endK [] (h2 := ?_) (h3 := ?_) (nd := ?_)
        all_goals (repeat' first|exact ce0|refine ce ?_|refine ce2 ?_ ?_|exact SVLe.refl|refine ceb ?_)
        all_goals first | exact (show nodupB _ = true from rfl) | exact Or.inr rfl | (rfl)
      · rw [if_neg hbig] at hd
        repeat' first|(apply p3;(first|exact pu1|exact a_sub rfl rfl (by omega) (by omega)|exact puC|exact a_mulB rfl rfl (by omega) (by omega) (by omega) (by omega)|exact a_add rfl rfl (by omega) (by omega)|exact puI);exact rfl)|refine cd ?_|((refine g_cond rfl (fun hc => ?_) (fun hc => ?_)) <;> (try simp only [dcB] at hc) <;> (try first|contradiction|(exfalso;omega)))|fail
        refine q_again (i - 1,n * sy + l[i.toNat]) [] (by exact stk) ?_ ?_
        · refine ⟨by dsimp only; omega,by dsimp only; omega,?_⟩
          dsimp only
          rw [show (i - 1 + 1).toNat = i.toNat by omega]
          exact hd
        · dsimp only; omega
    · skip
      rw [show (i + 1).toNat = 0 by omega,List.drop_zero] at k2
      obtain ⟨e1,e2⟩ := numT_some k2
      rw [e1,e2]
      repeat' first|(apply p3;(first|exact pu1|exact puC);exact rfl)|refine cd ?_|((refine g_cond rfl (fun hc => ?_) (fun hc => ?_)) <;> (try simp only [dcB] at hc) <;> (try first|contradiction|(exfalso;omega)))|fail
      repeat refine cr ?_
      refine ends_id ?_
      refine endK [] (h2 := ?_) (h3 := ?_) (nd := ?_)
      all_goals (repeat' first|exact ce0|refine ce ?_|refine ce2 ?_ ?_|exact SVLe.refl|refine ceb ?_)
      all_goals first | exact (show nodupB _ = true from rfl) | exact Or.inr rfl | (rfl)
end Go.Proofs.YtegpggobfdcafaaGreat
end
section
set_option linter.unusedVariables false
set_option linter.unusedSimpArgs false
set_option maxRecDepth 100000
set_option maxHeartbeats 4000000
namespace Go.Proofs.YtegpggobfdcafaaGreat
open Go Foot
structure Wk where
  sp : Int
  le : Int
  gr : Int
  ch : Int
  tu : Int
  la : Int
  vis : List Int
  sts : List Int
  rls : List Int
  crs : List Int
abbrev w0 (m : Mach) : Wk := ⟨0,0,0,0,0,0,[1],List.replicate m.st.toNat 0,List.replicate m.ru.length 0,[]⟩
end Go.Proofs.YtegpggobfdcafaaGreat
end
section
set_option linter.unusedVariables false
set_option linter.unusedSimpArgs false
set_option maxRecDepth 100000
set_option maxHeartbeats 4000000
namespace Go.Proofs.YtegpggobfdcafaaGreat
open Go Foot
section
variable {σ τ : Type} {m : Mach} {fc : Conf → Int → σ → σ} {fs : Conf → Int → Rule' → σ → σ} {fc' : Conf → Int → τ → τ} {fs' : Conf → Int → Rule' → τ → τ}
end
end Go.Proofs.YtegpggobfdcafaaGreat
end
section
set_option linter.unusedVariables false
set_option linter.unusedSimpArgs false
set_option maxRecDepth 100000
set_option maxHeartbeats 4000000
namespace Go.Proofs.YtegpggobfdcafaaGreat
open Go Foot
end Go.Proofs.YtegpggobfdcafaaGreat
end
section
set_option linter.unusedVariables false
set_option linter.unusedSimpArgs false
set_option maxRecDepth 100000
set_option maxHeartbeats 4000000
namespace Go.Proofs.YtegpggobfdcafaaGreat
open Go Foot Go.RowKit
@[irreducible] def costOf (sy l r : Int) (u : Rule') : Int :=
  if u = noR then (sy + 1) * (r / sy) + r % sy + 1 + (sy + 1) * (r / sy) + 1 + r % sy else
  if u.m = 1 then (sy + 1) * (r / sy) + r % sy + 1 + 2 * (r / sy) + 1 + (sy + 1) * l + 1 + 2 * sy * l + 1 + u.w else
  (sy + 1) * (r / sy) + r % sy + 1 + (sy + 1) * (r / sy) + 1 + u.w + (sy + 1) * (l / sy) + l % sy + 1 + 2 * (l / sy) + 1 + (sy + 1) * (r / sy * sy + u.w) + 1 + 2 * sy * (r / sy * sy + u.w) + 1 + l % sy
@[irreducible] def numOk (m : Mach) (c : Conf) : Bool := numK m.sy c.le && numK m.sy c.ri
@[irreducible] def costC (m : Mach) (c : Conf) : Int := costOf m.sy (numV m.sy c.le) (numV m.sy c.ri) (ruAt m c)
structure PrOk (sy l r w : Int) : Prop where
  k : 0 ≤ r / sy ∧ r / sy ≤ 500000
  s : 0 ≤ r % sy ∧ r % sy ≤ sy - 1
  j : 0 ≤ l / sy ∧ l / sy ≤ 500000
  x : 0 ≤ l % sy ∧ l % sy ≤ sy - 1
  ks : 0 ≤ r / sy * sy ∧ r / sy * sy ≤ 1000000
  p1 : 0 ≤ (sy + 1) * (r / sy) ∧ (sy + 1) * (r / sy) ≤ 7000000
  p2 : 0 ≤ (sy + 1) * l ∧ (sy + 1) * l ≤ 7000000
  p3 : 0 ≤ 2 * sy * l ∧ 2 * sy * l ≤ 12000000
  p4 : 0 ≤ (sy + 1) * (l / sy) ∧ (sy + 1) * (l / sy) ≤ 7000000
  p5 : 0 ≤ (sy + 1) * (r / sy * sy + w) ∧ (sy + 1) * (r / sy * sy + w) ≤ 8000000
  p6 : 0 ≤ 2 * sy * (r / sy * sy + w) ∧ 2 * sy * (r / sy * sy + w) ≤ 13000000
theorem mulBD {a b A B : Int} (h1 : 0 ≤ a) (h2 : a ≤ A) (h3 : 0 ≤ b) (h4 : b ≤ B) : 0 ≤ a * b ∧ a * b ≤ A * B :=
  ⟨Int.mul_nonneg h1 h3,Int.mul_le_mul h2 h4 h3 (by omega)⟩
theorem prOk {sy l r w : Int} (s1 : 2 ≤ sy) (s2 : sy ≤ 6) (l1 : 0 ≤ l) (l2 : l ≤ 1000000) (r1 : 0 ≤ r) (r2 : r ≤ 1000000) (w1 : 0 ≤ w) (w2 : w ≤ 6) : PrOk sy l r w := by
  have dk : ∀ {z : Int},0 ≤ z → z ≤ 1000000 → 0 ≤ z / sy ∧ z / sy ≤ 500000 := fun {z} h1 h2 => by
    refine ⟨Int.ediv_nonneg h1 (by omega),?_⟩
    have := Int.ediv_le_ediv (show (0 : Int) < sy by omega) h2
    have h3 : (1000000 : Int) / sy ≤ 1000000 / 2 := by
      rcases (by omega : sy = 2 ∨ sy = 3 ∨ sy = 4 ∨ sy = 5 ∨ sy = 6) with rfl | rfl | rfl | rfl | rfl <;> decide
    omega
  have ds : ∀ {z : Int},0 ≤ z → 0 ≤ z % sy ∧ z % sy ≤ sy - 1 := fun {z} h1 => ⟨Int.emod_nonneg _ (by omega),by have := Int.emod_lt_of_pos z (show (0 : Int) < sy by omega); omega⟩
  have hk := dk r1 r2
  have hj := dk l1 l2
  have hks : 0 ≤ r / sy * sy ∧ r / sy * sy ≤ 1000000 := ⟨Int.mul_nonneg hk.1 (by omega),by have := Int.ediv_mul_le r (show sy ≠ 0 by omega); omega⟩
  refine ⟨hk,ds r1,hj,ds l1,hks,?_,?_,?_,?_,?_,?_⟩
  · have := mulBD (show 0 ≤ sy + 1 by omega) (show sy + 1 ≤ 7 by omega) hk.1 hk.2; omega
  · have := mulBD (show 0 ≤ sy + 1 by omega) (show sy + 1 ≤ 7 by omega) l1 l2; omega
  · have := mulBD (show 0 ≤ 2 * sy by omega) (show 2 * sy ≤ 12 by omega) l1 l2; omega
  · have := mulBD (show 0 ≤ sy + 1 by omega) (show sy + 1 ≤ 7 by omega) hj.1 hj.2; omega
  · have := mulBD (show 0 ≤ sy + 1 by omega) (show sy + 1 ≤ 7 by omega) (show 0 ≤ r / sy * sy + w by omega) (show r / sy * sy + w ≤ 1000006 by omega); omega
  · have := mulBD (show 0 ≤ 2 * sy by omega) (show 2 * sy ≤ 12 by omega) (show 0 ≤ r / sy * sy + w by omega) (show r / sy * sy + w ≤ 1000006 by omega); omega
theorem costOf_bd {sy l r : Int} {u : Rule'} (s1 : 2 ≤ sy) (s2 : sy ≤ 6) (l1 : 0 ≤ l) (l2 : l ≤ 1000000) (r1 : 0 ≤ r) (r2 : r ≤ 1000000) (hu : u = noR ∨ (0 ≤ u.w ∧ u.w ≤ 6)) : 0 ≤ costOf sy l r u ∧ costOf sy l r u ≤ 100000000 := by
  unfold costOf
  split
  · obtain ⟨a1,a2,a3,a4,a5,a6,a7,a8,a9,a10,a11⟩ := prOk (w := 0) s1 s2 l1 l2 r1 r2 (by decide) (by decide)
    omega
  · rename_i hn
    have hw := hu.resolve_left hn
    obtain ⟨a1,a2,a3,a4,a5,a6,a7,a8,a9,a10,a11⟩ := prOk (w := u.w) s1 s2 l1 l2 r1 r2 hw.1 hw.2
    split <;> omega
theorem conf_cells {m : Mach} {c : Conf} (hc : vConf m c = true) : (∀ x ∈ c.le,0 ≤ x ∧ x ≤ m.sy - 1) ∧ (∀ x ∈ c.ri,0 ≤ x ∧ x ≤ m.sy - 1) := by
  obtain ⟨_,h1,h2⟩ := vConf_bd hc
  exact ⟨(vSide_bd h1).2.1,(vSide_bd h2).2.1⟩
theorem ruAt_w {m : Mach} {c : Conf} (hm : vMach m = true) (hc : vConf m c = true) : ruAt m c = noR ∨ (0 ≤ (ruAt m c).w ∧ (ruAt m c).w ≤ 6) := by
  by_cases h : ruAt m c = noR
  · exact .inl h
  · have := ruAt_ok hm hc h
    have := vMach_bd hm
    exact .inr ⟨by omega,by omega⟩
theorem costC_bd {m : Mach} {c : Conf} (hm : vMach m = true) (hc : vConf m c = true) : 0 ≤ costC m c ∧ costC m c ≤ 100000000 := by
  obtain ⟨h1,h2⟩ := conf_cells hc
  obtain ⟨⟨ya,yb⟩,_⟩ := vMach_bd hm
  have a1 := numV_bd ya h1
  have a2 := numV_bd ya h2
  unfold costC
  exact costOf_bd ya yb a1.1 a1.2 a2.1 a2.2 (ruAt_w hm hc)
theorem preB269 {p : Prop} (h : p := by first | with_reducible assumption | omega | (simp only [List.length_append,List.length_cons,List.length_nil,List.length_set,List.length_replicate,List.length_take,List.length_drop,List.length_tail,List.length_dropLast,List.length_reverse] at *; omega) | exact mem_len (by assumption) (by omega) | (with_reducible refine Int.le_trans (Int.ofNat_le.2 (trimR_len _)) ?_; simp only [List.length_cons,List.length_tail]; omega) | (exact (ruAt_ok (by assumption) (by assumption) (by assumption)).2.1) | (exact (ruAt_ok (by assumption) (by assumption) (by assumption)).2.1) | (have := vMach_bd (by assumption); omega) | (simp only [List.length_append,List.length_cons,List.length_nil,repW_len,seN_len] at *; omega) | (simp only [mC_ch,mC_tu]; omega) | (have := vTag_bd (by assumption); omega) | (have := (‹Gd _ _›).le; omega) | (exact tgHalts_no (by assumption)) | (exact tgHead (by assumption) (by assumption) (by assumption)) | (exact Int.le_trans (tgStep_gd (by assumption) (by assumption) (by assumption) (by assumption)).le (by decide)) | (exact vTag_r (by assumption)) | (with_reducible refine Int.le_trans (Int.ofNat_le.2 (pushL_len _ _)) ?_; simp only [List.length_dropLast]; omega) | exact ls_at (by assumption) (by omega) | exact pt_gd (by assumption) | exact lv_at (by assumption) (by omega) | exact pt_gd (lv_at (by assumption) (by omega)) | exact (ask_ok (by assumption)).1 | exact (ask_ok (by assumption)).2.1 | exact (ask_ok (by assumption)).2.2.1 | exact (ask_ok (by assumption)).2.2.2 | trivial) : p := h
theorem l20Numbers_ok (m : Mach) (c : Conf) (hm : vMach m = true) (hc : vConf m c = true) : Does Tryz.prog 36 [.one (maB m),.one (coB c)] [] (.one (boo (numOk m c))) [] := by
  obtain ⟨z1,z2⟩ := conf_cells hc
  obtain ⟨⟨ya,yb⟩,_⟩ := vMach_bd hm
  have hb := at_bd hm hc
  have e : numOk m c = (numK m.sy c.le && numK m.sy c.ri) := by unfold numOk; rfl
  rw [e]
  refine does_of (k := 0) Tryz.func36 rfl Tryz.ntmps36 rfl rfl fun w F0 S0 ρ0 => ?_
  dsimp only [argT,argH]
  repeat' first|(apply p3;exact pu1;exact rfl)|refine cd ?_|refine o_no rfl rfl rfl rfl ?_|(apply py3;exact rfl;exact rfl;exact pu1;exact rfl;exact rfl)|(apply g_drN (id := 1) okM [[],[0],[0,1],[0,1,2],[],[4],[4,5],[4,5,6],[0,1,2,3,4,5,6,7],[0,1,2,3,4,5,6,7,8],[0,1,2,3,4,5,6,7,8,9],[0,1,2,3,4,5,6,7,8,9],[0,1,2,3,4,5,6,7,8,9,10],[0,1,2,3,4,5,6,7,8,9,10,11,12]] [([],[]),([],[]),([],[]),([],[]),([],[]),([],[]),([],[]),([],[]),([],[]),([],[]),([],[]),([],[]),([],[]),([],[])] 0;(focus (refine dp 0 0 [14,15,16,17] [] pu1 ?_;refine dp 1 1 [14,15,16,17] [] (a_pure (sv := .one _) rfl) ?_;refine dp 2 3 [14,15,16,17] [] (a_pure (sv := .one _) rfl) ?_;refine dp 3 7 [14,15,16,17] [] (by exact puL) ?_;refine dp 4 0 [10,11,12,13] [] pu1 ?_;refine dp 5 1 [10,11,12,13] [] (a_pure (sv := .one _) rfl) ?_;refine dp 6 3 [10,11,12,13] [] (a_pure (sv := .one _) rfl) ?_;refine dp 7 7 [10,11,12,13] [] puL ?_;refine dp 8 255 [] [] (by exact callD1 (n := _) 0 (θ := []) (hD := (l14Number_ok c.le m.sy ya yb z1 preB269))) ?_;refine dp 9 511 [] [] pu1 ?_;refine dp 10 1023 [20] [] pu2 ?_;refine dp 11 2046 [19,5] [] pu2 ?_;refine dp 12 4094 [20] [] pu1 ?_;refine dp 13 8191 [] [] pu1 ?_;(refine d_nil ?_;refine dN ?_)));any_goals kernel_rfl)|(apply g_drN (id := 2) okM [[],[0],[0,1],[0,1,2],[],[4],[4,5],[4,5,6],[0,1,2,3,4,5,6,7],[0,1,2,3,4,5,6,7,8],[0,1,2,3,4,5,6,7,8,9],[0,1,2,3,4,5,6,7,8,9],[0,1,2,3,4,5,6,7,8,9,10],[0,1,2,3,4,5,6,7,8,9,10,11,12]] [([],[]),([],[]),([],[]),([],[]),([],[]),([],[]),([],[]),([],[]),([],[]),([],[]),([],[]),([],[]),([],[]),([],[])] 0;(focus (refine dp 0 0 [26,27,28,29] [] pu1 ?_;refine dp 1 1 [26,27,28,29] [] (a_pure (sv := .one _) rfl) ?_;refine dp 2 3 [26,27,28,29] [] (a_pure (sv := .one _) rfl) ?_;refine dp 3 7 [26,27,28,29] [] (by exact puL) ?_;refine dp 4 0 [22,23,24,25] [] pu1 ?_;refine dp 5 1 [22,23,24,25] [] (a_pure (sv := .one _) rfl) ?_;refine dp 6 3 [22,23,24,25] [] (a_pure (sv := .one _) rfl) ?_;refine dp 7 7 [22,23,24,25] [] puL ?_;refine dp 8 255 [] [] (by exact callD1 (n := _) 0 (θ := []) (hD := (l14Number_ok c.ri m.sy ya yb z2 preB269))) ?_;refine dp 9 511 [] [] pu1 ?_;refine dp 10 1023 [32] [] pu2 ?_;refine dp 11 2046 [31,7] [] pu2 ?_;refine dp 12 4094 [32] [] pu1 ?_;refine dp 13 8191 [] [] pu1 ?_;(refine d_nil ?_;refine dN ?_)));any_goals kernel_rfl)|((refine o_gs rfl rfl (fun hc => ?_) (fun hc => ?_)) <;> (try simp only [dcB] at hc) <;> (try first|contradiction|(exfalso;omega)))|fail
  · repeat refine cr ?_
    refine ends_id ?_
    refine endK [] (h2 := ?_) (h3 := ?_) (nd := ?_)
    all_goals (repeat' first|exact ce0|refine ce ?_|refine ce2 ?_ ?_|exact SVLe.refl|refine ceb ?_)
    all_goals first | exact (show nodupB _ = true from rfl) | exact Or.inr rfl | ((simp_all))
  · repeat refine cr ?_
    refine ends_id ?_
    refine endK [] (h2 := ?_) (h3 := ?_) (nd := ?_)
    all_goals (repeat' first|exact ce0|refine ce ?_|refine ce2 ?_ ?_|exact SVLe.refl|refine ceb ?_)
    all_goals first | exact (show nodupB _ = true from rfl) | exact Or.inr rfl | ((simp_all))
theorem tapeNumberY_ok (l : List Int) (sy : Int) (hs : 2 ≤ sy) (hs2 : sy ≤ 6) (hc : ∀ c ∈ l,0 ≤ c ∧ c ≤ sy - 1) (hl : (l.length : Int) ≤ 1000) (hk : numK sy l = true) : Does Tryz.prog 108 [.one (shI l),.one (int sy)] [] (.tup [(false,[int (numV sy l)]),(false,[int 0])]) [] := by
  have := tapeNumber_ok l sy hs hs2 hc hl
  rw [hk] at this
  exact this
theorem tapeNumberN_ok (l : List Int) (sy : Int) (hs : 2 ≤ sy) (hs2 : sy ≤ 6) (hc : ∀ c ∈ l,0 ≤ c ∧ c ≤ sy - 1) (hl : (l.length : Int) ≤ 1000) (hk : numK sy l = false) : Does Tryz.prog 108 [.one (shI l),.one (int sy)] [] (.tup [(false,[int (numV sy l)]),(false,[int 5])]) [] := by
  have := tapeNumber_ok l sy hs hs2 hc hl
  rw [hk] at this
  exact this
theorem stepCost_ok (m : Mach) (c : Conf) (hm : vMach m = true) (hc : vConf m c = true) : Does Tryz.prog 260 [.agg (maC m),.agg (coC c)] [] (.tup [(false,[int (if numOk m c then costC m c else 0)]),(false,[int (if numOk m c then 0 else 5)])]) [] := by
  obtain ⟨z1,z2⟩ := conf_cells hc
  obtain ⟨⟨ya,yb⟩,_⟩ := vMach_bd hm
  have hb := at_bd hm hc
  have hv1 := numV_bd ya z1
  have hv2 := numV_bd ya z2
  cases hk1 : numK m.sy c.le
  · have e : numOk m c = false := by unfold numOk; rw [hk1]; rfl
    rw [e]
    cases hk2 : numK m.sy c.ri
    · skip
      refine does_of (k := 0) Tryz.func260 rfl Tryz.ntmps260 rfl rfl fun w F0 S0 ρ0 => ?_
      dsimp only [argT,argH]
      repeat' first|(apply n3;exact a_new (gb := .bx _) rfl;exact rfl;refine dA ?_)|(apply p3;(first|exact pu1|exact a_ne rfl rfl);exact rfl)|refine cd ?_|(apply c4 0;exact callK1 (θ := []) (hD := (tapeNumberN_ok c.le m.sy ya yb z1 preB269 hk1));exact rfl;exact rfl;exact rfl;refine dM ?_)|(apply c4 0;exact callK1 (θ := []) (hD := (tapeNumberN_ok c.ri m.sy ya yb z2 preB269 hk2));exact rfl;exact rfl;exact rfl;refine dM ?_)|refine o_no rfl rfl rfl rfl ?_|fail
      repeat refine cr ?_
      refine ends_id ?_
      refine endK [] (h2 := ?_) (h3 := ?_) (nd := ?_)
      all_goals (repeat' first|exact ce0|refine ce ?_|refine ce2 ?_ ?_|exact SVLe.refl|refine ceb ?_)
      all_goals first | exact (show nodupB _ = true from rfl) | exact Or.inr rfl | (rfl)
    · skip
      refine does_of (k := 0) Tryz.func260 rfl Tryz.ntmps260 rfl rfl fun w F0 S0 ρ0 => ?_
      dsimp only [argT,argH]
      repeat' first|(apply n3;exact a_new (gb := .bx _) rfl;exact rfl;refine dA ?_)|(apply p3;(first|exact pu1|exact a_ne rfl rfl);exact rfl)|refine cd ?_|(apply c4 0;exact callK1 (θ := []) (hD := (tapeNumberY_ok c.ri m.sy ya yb z2 preB269 hk2));exact rfl;exact rfl;exact rfl;refine dM ?_)|(apply c4 0;exact callK1 (θ := []) (hD := (tapeNumberN_ok c.le m.sy ya yb z1 preB269 hk1));exact rfl;exact rfl;exact rfl;refine dM ?_)|refine o_no rfl rfl rfl rfl ?_|fail
      repeat refine cr ?_
      refine ends_id ?_
      refine endK [] (h2 := ?_) (h3 := ?_) (nd := ?_)
      all_goals (repeat' first|exact ce0|refine ce ?_|refine ce2 ?_ ?_|exact SVLe.refl|refine ceb ?_)
      all_goals first | exact (show nodupB _ = true from rfl) | exact Or.inr rfl | (rfl)
  · cases hk2 : numK m.sy c.ri
    · have e : numOk m c = false := by unfold numOk; rw [hk1,hk2]; rfl
      rw [e]
      refine does_of (k := 0) Tryz.func260 rfl Tryz.ntmps260 rfl rfl fun w F0 S0 ρ0 => ?_
      dsimp only [argT,argH]
      repeat' first|(apply n3;exact a_new (gb := .bx _) rfl;exact rfl;refine dA ?_)|(apply p3;(first|exact pu1|exact a_ne rfl rfl);exact rfl)|refine cd ?_|(apply c4 0;exact callK1 (θ := []) (hD := (tapeNumberY_ok c.le m.sy ya yb z1 preB269 hk1));exact rfl;exact rfl;exact rfl;refine dM ?_)|(apply c4 0;exact callK1 (θ := []) (hD := (tapeNumberN_ok c.ri m.sy ya yb z2 preB269 hk2));exact rfl;exact rfl;exact rfl;refine dM ?_)|(apply py3;exact rfl;exact rfl;(first|exact pu1|exact a_ne rfl rfl);exact rfl;exact rfl)|fail
      repeat refine cr ?_
      refine ends_id ?_
      refine endK [] (h2 := ?_) (h3 := ?_) (nd := ?_)
      all_goals (repeat' first|exact ce0|refine ce ?_|refine ce2 ?_ ?_|exact SVLe.refl|refine ceb ?_)
      all_goals first | exact (show nodupB _ = true from rfl) | exact Or.inr rfl | (rfl)
    · skip
      have e : numOk m c = true := by unfold numOk; rw [hk1,hk2]; rfl
      have hmod := numV_mod ya z2 hk2
      have hix : (c.st * m.sy + numV m.sy c.ri % m.sy).toNat < m.ru.length := by rw [hmod]; omega
      have hru : m.ru[(c.st * m.sy + numV m.sy c.ri % m.sy).toNat] = ruAt m c := by
        have := ruAt_ge hm hc (by rw [← hmod]; exact hix)
        simp only [hmod]
        exact this
      have hcost : costC m c = costOf m.sy (numV m.sy c.le) (numV m.sy c.ri) (ruAt m c) := by unfold costC; rfl
      rw [e,hcost]
      have hadd : 0 ≤ c.st * m.sy + numV m.sy c.ri % m.sy ∧ c.st * m.sy + numV m.sy c.ri % m.sy < m.ru.length := by rw [hmod]; omega
      have hw := ruAt_w hm hc
      by_cases hn : ruAt m c = noR
      · obtain ⟨a1,a2,a3,a4,a5,a6,a7,a8,a9,a10,a11⟩ := prOk (w := 0) ya yb hv1.1 hv1.2 hv2.1 hv2.2 (by decide) (by decide)
        have e2 : costOf m.sy (numV m.sy c.le) (numV m.sy c.ri) (ruAt m c) = (m.sy + 1) * (numV m.sy c.ri / m.sy) + numV m.sy c.ri % m.sy + 1 + (m.sy + 1) * (numV m.sy c.ri / m.sy) + 1 + numV m.sy c.ri % m.sy := by unfold costOf; rw [if_pos hn]
        rw [e2]
        refine does_of (k := 0) Tryz.func260 rfl Tryz.ntmps260 rfl rfl fun w F0 S0 ρ0 => ?_
        dsimp only [argT,argH]
        repeat' first|(apply n3;exact a_new (gb := .bx _) rfl;exact rfl;refine dA ?_)|(apply p3;(first|exact pu1|exact a_ne rfl rfl|exact a_mulB rfl rfl (by omega) (by omega) (by omega) (by omega)|exact a_add rfl rfl (by omega) (by omega)|exact puI);exact rfl)|refine cdn ?_|refine g_reg (id := 0) ?_|refine g_reg (id := 1) ?_|refine g_reg (id := 2) ?_|refine g_reg (id := 3) ?_|refine g_reg (id := 5) ?_|refine g_reg (id := 7) ?_|(apply w3;(exact a_st_bx rfl rfl rfl rfl (fN rfl rfl) (Nat.le_of_ble_eq_true rfl) rfl);exact rfl;refine dS ?_)|(apply c4 0;exact callK1 (θ := []) (hD := (tapeNumberY_ok c.le m.sy ya yb z1 preB269 hk1));exact rfl;exact rfl;exact rfl;refine dM ?_)|(apply c4 0;exact callK1 (θ := []) (hD := (tapeNumberY_ok c.ri m.sy ya yb z2 preB269 hk2));exact rfl;exact rfl;exact rfl;refine dM ?_)|(apply py3;exact rfl;exact rfl;(first|exact pu1|exact a_ne rfl rfl);exact rfl;exact rfl)|(apply g_drN (id := 6) okM [[],[],[0,1],[],[],[3,4],[0,1,2],[0,1,2,3,4,5,6]] [([],[]),([],[]),([],[]),([],[]),([],[]),([],[]),([],[]),([],[])] 0;(focus (refine dp 0 0 [43,45,46,47] [] pu1 ?_;refine dp 1 0 [42,45,46,47] [] pu1 ?_;refine dp 2 3 [45,46,47] [] (a_quo rfl rfl (by omega) (by omega) (by omega)) ?_;refine dp 3 0 [42,43,44,46,11] [] pu1 ?_;refine dp 4 0 [42,43,44,45,11] [] pu1 ?_;refine dp 5 3 [42,43,44,11] [] (a_rem rfl rfl (by omega) (by omega) (by omega)) ?_;refine dp 6 56 [45,46,47] [] pu1 ?_;refine dp 7 127 [] [] pu1 ?_;(refine d_nil ?_;refine dN ?_)));any_goals kernel_rfl)|fail
        simp only [hru]
        repeat' first|(apply p3;(first|exact pu1|exact a_mulB rfl rfl (by omega) (by omega) (by omega) (by omega)|exact a_add rfl rfl (by omega) (by omega));exact rfl)|refine cd ?_|(apply c4 0;exact callK1 (θ := []) (hD := (isRule_ok _));exact rfl;exact rfl;exact rfl;refine dM ?_)|((refine g_cond rfl (fun hc => ?_) (fun hc => ?_)) <;> (try simp only [dcB] at hc) <;> (try first|contradiction|(exfalso;omega)))|fail
        repeat refine cr ?_
        refine ends_id ?_
        refine endK [] (h2 := ?_) (h3 := ?_) (nd := ?_)
        all_goals (repeat' first|exact ce0|refine ce ?_|refine ce2 ?_ ?_|exact SVLe.refl|refine ceb ?_)
        all_goals first | exact (show nodupB _ = true from rfl) | exact Or.inr rfl | (rfl)
      · obtain ⟨x1,x2⟩ := hw.resolve_left hn
        obtain ⟨a1,a2,a3,a4,a5,a6,a7,a8,a9,a10,a11⟩ := prOk (w := (ruAt m c).w) ya yb hv1.1 hv1.2 hv2.1 hv2.2 x1 x2
        by_cases hm1 : (ruAt m c).m = 1
        · have e2 : costOf m.sy (numV m.sy c.le) (numV m.sy c.ri) (ruAt m c) = (m.sy + 1) * (numV m.sy c.ri / m.sy) + numV m.sy c.ri % m.sy + 1 + 2 * (numV m.sy c.ri / m.sy) + 1 + (m.sy + 1) * numV m.sy c.le + 1 + 2 * m.sy * numV m.sy c.le + 1 + (ruAt m c).w := by unfold costOf; rw [if_neg hn,if_pos hm1]
          rw [e2]
          refine does_of (k := 0) Tryz.func260 rfl Tryz.ntmps260 rfl rfl fun w F0 S0 ρ0 => ?_
          dsimp only [argT,argH]
          repeat' first|(apply n3;exact a_new (gb := .bx _) rfl;exact rfl;refine dA ?_)|(apply p3;(first|exact pu1|exact a_ne rfl rfl|exact a_mulB rfl rfl (by omega) (by omega) (by omega) (by omega)|exact a_add rfl rfl (by omega) (by omega)|exact puI);exact rfl)|refine cdn ?_|refine g_reg (id := 0) ?_|refine g_reg (id := 1) ?_|refine g_reg (id := 2) ?_|refine g_reg (id := 3) ?_|refine g_reg (id := 5) ?_|refine g_reg (id := 7) ?_|(apply w3;(exact a_st_bx rfl rfl rfl rfl (fN rfl rfl) (Nat.le_of_ble_eq_true rfl) rfl);exact rfl;refine dS ?_)|(apply c4 0;exact callK1 (θ := []) (hD := (tapeNumberY_ok c.le m.sy ya yb z1 preB269 hk1));exact rfl;exact rfl;exact rfl;refine dM ?_)|(apply c4 0;exact callK1 (θ := []) (hD := (tapeNumberY_ok c.ri m.sy ya yb z2 preB269 hk2));exact rfl;exact rfl;exact rfl;refine dM ?_)|(apply py3;exact rfl;exact rfl;(first|exact pu1|exact a_ne rfl rfl);exact rfl;exact rfl)|(apply g_drN (id := 6) okM [[],[],[0,1],[],[],[3,4],[0,1,2],[0,1,2,3,4,5,6]] [([],[]),([],[]),([],[]),([],[]),([],[]),([],[]),([],[]),([],[])] 0;(focus (refine dp 0 0 [43,45,46,47] [] pu1 ?_;refine dp 1 0 [42,45,46,47] [] pu1 ?_;refine dp 2 3 [45,46,47] [] (a_quo rfl rfl (by omega) (by omega) (by omega)) ?_;refine dp 3 0 [42,43,44,46,11] [] pu1 ?_;refine dp 4 0 [42,43,44,45,11] [] pu1 ?_;refine dp 5 3 [42,43,44,11] [] (a_rem rfl rfl (by omega) (by omega) (by omega)) ?_;refine dp 6 56 [45,46,47] [] pu1 ?_;refine dp 7 127 [] [] pu1 ?_;(refine d_nil ?_;refine dN ?_)));any_goals kernel_rfl)|fail
          simp only [hru]
          repeat' first|(apply p3;(first|exact pu1|exact a_mulB rfl rfl (by omega) (by omega) (by omega) (by omega)|exact a_add rfl rfl (by omega) (by omega)|exact puC);exact rfl)|refine cd ?_|(apply c4 0;exact callK1 (θ := []) (hD := (isRule_ok _));exact rfl;exact rfl;exact rfl;refine dM ?_)|((refine g_cond rfl (fun hc => ?_) (fun hc => ?_)) <;> (try simp only [dcB] at hc) <;> (try first|contradiction|(exfalso;omega)))|fail
          repeat refine cr ?_
          refine ends_id ?_
          refine endK [] (h2 := ?_) (h3 := ?_) (nd := ?_)
          all_goals (repeat' first|exact ce0|refine ce ?_|refine ce2 ?_ ?_|exact SVLe.refl|refine ceb ?_)
          all_goals first | exact (show nodupB _ = true from rfl) | exact Or.inr rfl | (rfl)
        · have e2 : costOf m.sy (numV m.sy c.le) (numV m.sy c.ri) (ruAt m c) = (m.sy + 1) * (numV m.sy c.ri / m.sy) + numV m.sy c.ri % m.sy + 1 + (m.sy + 1) * (numV m.sy c.ri / m.sy) + 1 + (ruAt m c).w + (m.sy + 1) * (numV m.sy c.le / m.sy) + numV m.sy c.le % m.sy + 1 + 2 * (numV m.sy c.le / m.sy) + 1 + (m.sy + 1) * (numV m.sy c.ri / m.sy * m.sy + (ruAt m c).w) + 1 + 2 * m.sy * (numV m.sy c.ri / m.sy * m.sy + (ruAt m c).w) + 1 + numV m.sy c.le % m.sy := by unfold costOf; rw [if_neg hn,if_neg hm1]
          rw [e2]
          refine does_of (k := 0) Tryz.func260 rfl Tryz.ntmps260 rfl rfl fun w F0 S0 ρ0 => ?_
          dsimp only [argT,argH]
          repeat' first|(apply n3;exact a_new (gb := .bx _) rfl;exact rfl;refine dA ?_)|(apply p3;(first|exact pu1|exact a_ne rfl rfl|exact a_mulB rfl rfl (by omega) (by omega) (by omega) (by omega)|exact a_add rfl rfl (by omega) (by omega)|exact puI);exact rfl)|refine cdn ?_|refine g_reg (id := 0) ?_|refine g_reg (id := 1) ?_|refine g_reg (id := 2) ?_|refine g_reg (id := 3) ?_|refine g_reg (id := 5) ?_|refine g_reg (id := 7) ?_|(apply w3;(exact a_st_bx rfl rfl rfl rfl (fN rfl rfl) (Nat.le_of_ble_eq_true rfl) rfl);exact rfl;refine dS ?_)|(apply c4 0;exact callK1 (θ := []) (hD := (tapeNumberY_ok c.le m.sy ya yb z1 preB269 hk1));exact rfl;exact rfl;exact rfl;refine dM ?_)|(apply c4 0;exact callK1 (θ := []) (hD := (tapeNumberY_ok c.ri m.sy ya yb z2 preB269 hk2));exact rfl;exact rfl;exact rfl;refine dM ?_)|(apply py3;exact rfl;exact rfl;(first|exact pu1|exact a_ne rfl rfl);exact rfl;exact rfl)|(apply g_drN (id := 6) okM [[],[],[0,1],[],[],[3,4],[0,1,2],[0,1,2,3,4,5,6]] [([],[]),([],[]),([],[]),([],[]),([],[]),([],[]),([],[]),([],[])] 0;(focus (refine dp 0 0 [43,45,46,47] [] pu1 ?_;refine dp 1 0 [42,45,46,47] [] pu1 ?_;refine dp 2 3 [45,46,47] [] (a_quo rfl rfl (by omega) (by omega) (by omega)) ?_;refine dp 3 0 [42,43,44,46,11] [] pu1 ?_;refine dp 4 0 [42,43,44,45,11] [] pu1 ?_;refine dp 5 3 [42,43,44,11] [] (a_rem rfl rfl (by omega) (by omega) (by omega)) ?_;refine dp 6 56 [45,46,47] [] pu1 ?_;refine dp 7 127 [] [] pu1 ?_;(refine d_nil ?_;refine dN ?_)));any_goals kernel_rfl)|fail
          simp only [hru]
          repeat' first|(apply p3;(first|exact pu1|exact a_mulB rfl rfl (by omega) (by omega) (by omega) (by omega)|exact a_add rfl rfl (by omega) (by omega)|exact puC);exact rfl)|refine cd ?_|(apply c4 0;exact callK1 (θ := []) (hD := (isRule_ok _));exact rfl;exact rfl;exact rfl;refine dM ?_)|(apply g_drN (id := 12) okM [[],[],[0,1],[],[],[3,4],[],[],[6,7],[],[9],[6,7,8,9,10],[0,1,2],[0,1,2,3,4,5,12],[0,1,2,3,4,5,6,7,8,9,10,11,12,13]] [([],[]),([],[]),([],[]),([],[]),([],[]),([],[]),([],[]),([],[]),([],[]),([],[]),([],[]),([],[]),([],[]),([],[]),([],[])] 0;(focus (refine dp 0 0 [103,105,106,107,108,109,110,111,112,113] [] pu1 ?_;refine dp 1 0 [102,105,106,107,108,109,110,111,112,113] [] pu1 ?_;refine dp 2 3 [105,106,107,108,109,110,111,112,113] [] (a_quo rfl rfl (by omega) (by omega) (by omega)) ?_;refine dp 3 0 [102,103,104,106,108,109,110,111,112,113,15] [] pu1 ?_;refine dp 4 0 [102,103,104,105,108,109,110,111,112,113,15] [] pu1 ?_;refine dp 5 3 [102,103,104,108,109,110,111,112,113,15] [] (a_rem rfl rfl (by omega) (by omega) (by omega)) ?_;refine dp 6 0 [102,103,104,105,106,107,109,111,112,15,16] [] pu1 ?_;refine dp 7 0 [102,103,104,105,106,107,108,111,112,15,16] [] pu1 ?_;refine dp 8 3 [102,103,104,105,106,107,111,112,15,16] [] (by exact a_mulB rfl rfl (by omega) (by omega) (by omega) (by omega)) ?_;refine dp 9 0 [102,103,104,105,106,107,108,109,110,15,16] [] (a_pure (sv := .one _) rfl) ?_;refine dp 10 1 [102,103,104,105,106,107,108,109,110,15,16] [] (by exact puL) ?_;refine dp 11 31 [102,103,104,105,106,107,15,16] [] (a_add rfl rfl (by omega) (by omega)) ?_;refine dp 12 3584 [105,106,107,108,109,110,111,112,113] [] pu1 ?_;refine dp 13 8065 [108,109,110,111,112,113] [] pu1 ?_;refine dp 14 16383 [] [] pu1 ?_;(refine d_nil ?_;refine dN ?_)));any_goals kernel_rfl)|((refine g_cond rfl (fun hc => ?_) (fun hc => ?_)) <;> (try simp only [dcB] at hc) <;> (try first|contradiction|(exfalso;omega)))|fail
          repeat refine cr ?_
          refine ends_id ?_
          refine endK [] (h2 := ?_) (h3 := ?_) (nd := ?_)
          all_goals (repeat' first|exact ce0|refine ce ?_|refine ce2 ?_ ?_|exact SVLe.refl|refine ceb ?_)
          all_goals first | exact (show nodupB _ = true from rfl) | exact Or.inr rfl | (rfl)
end Go.Proofs.YtegpggobfdcafaaGreat
end
section
set_option linter.unusedVariables false
set_option linter.unusedSimpArgs false
set_option maxRecDepth 100000
set_option maxHeartbeats 4000000
namespace Go.Proofs.YtegpggobfdcafaaGreat
open Go Foot
theorem prgC_len {m : Mach} (hm : MaRu m) {k : Nat} (hk : (k : Int) ≤ m.st) : ((prgC m (finA m).sp k).length : Int) = atZ m k := by
  rw [← secs_res hm k hk,res_len (secs_ps m k),secs_len hm k hk]
theorem prgC_has {m : Mach} (hm : MaRu m) (σ : List Int) (hσ : σ = (finA m).sp) : ∀ (K : Nat) (k : Nat),k < K → (K : Int) ≤ m.st → HasC (prgC m σ K) (atZ m k) (seqC m σ k (atZ m k))
  | K + 1,k,h,hK => by
    rw [prgC]
    by_cases he : k = K
    · subst he
      refine ⟨prgC m σ k,[],by simp,?_⟩
      rw [hσ]
      exact prgC_len hm (by omega)
    · obtain ⟨pre,post,h1,h2⟩ := prgC_has hm σ hσ K k (by omega) (by omega)
      exact ⟨pre,post ++ seqC m σ K (atZ m K),by rw [h1]; simp,h2⟩
theorem prg_has {m : Mach} (hm : MaRu m) {q : Int} (h1 : 0 ≤ q) (h2 : q ≤ m.st - 1) : HasC (prgM m) (atZ m q.toNat) (seqC m (finA m).sp q (atZ m q.toNat)) := by
  have := prgC_has hm _ rfl m.st.toNat q.toNat (by omega) (by omega)
  rw [← prgM_code hm,show ((q.toNat : Nat) : Int) = q by omega] at this
  exact this
theorem prg_len {m : Mach} (hm : MaRu m) : ((prgM m).length : Int) = atZ m m.st.toNat := by
  have := hm.ok.st
  rw [prgM_code hm]
  exact prgC_len hm (by omega)
def nxAt (m : Mach) (u : Rule') : Int := if u = noR then atZ m m.st.toNat else atZ m u.n.toNat
def nxL (sy : Int) (u : Rule') (l : Int) : Int := if u = noR then l else if u.m = 1 then l * sy + u.w else l / sy
def nxR (sy : Int) (u : Rule') (l r : Int) : Int := if u = noR then r else if u.m = 1 then r / sy else (r / sy * sy + u.w) * sy + l % sy
theorem div_toNat {r sy : Int} (hr : 0 ≤ r) (hs : 2 ≤ sy) : r = (r / sy).toNat * sy.toNat + (r % sy).toNat ∧ (r % sy).toNat < sy.toNat ∧ 0 ≤ r / sy ∧ 0 ≤ r % sy := by
  have h1 := Int.ediv_nonneg hr (show 0 ≤ sy by omega)
  have h2 := Int.emod_nonneg r (show sy ≠ 0 by omega)
  have h3 := Int.emod_lt_of_pos r (show 0 < sy by omega)
  have h4 := Int.mul_ediv_add_emod r sy
  refine ⟨?_,by omega,h1,h2⟩
  rw [show (((r / sy).toNat : Nat) : Int) = r / sy by omega,show ((sy.toNat : Nat) : Int) = sy by omega,show (((r % sy).toNat : Nat) : Int) = r % sy by omega,Int.mul_comm]
  omega
theorem head_run {p : List Jn} {lo hi f t : Int} (hf : 0 ≤ f ∧ f ≤ 2) (ht : 0 ≤ t ∧ t ≤ 2) (hft : f ≠ t) {X : Type} {cf : X → Int → List Jn} {c : X → Nat} {l : List X} {a sy r b : Int} (hs : 2 ≤ sy) (hl : l.length = sy.toNat) (h : HasC p a (splC f t cf c l a)) (h1 : lo ≤ a) (h2 : a + sy + 1 ≤ hi) {R : Rg} (hRf : R f = r) (hR : 0 ≤ r) (hb : (begC c l (a + l.length + 1))[(r % sy).toNat]? = some b) :
    Rn p lo hi ((r / sy).toNat * (sy.toNat + 1) + ((r % sy).toNat + 1)) (a,R) (b,upd (upd R t (R t + r / sy)) f 0) := by
  obtain ⟨d1,d2,d3,d4⟩ := div_toNat hR hs
  unfold splC at h
  have hbl : (begC c l (a + l.length + 1)).length = sy.toNat := by rw [begC_len,hl]
  obtain ⟨hj,e⟩ := List.getElem?_eq_some_iff.1 hb
  have := split_run (lo := lo) (hi := hi) hf ht hft h.left h1 (by rw [hbl]; omega) (r % sy).toNat (by omega) (r / sy).toNat R (by rw [hbl,hRf]; exact d1)
  refine this.cast (by rw [hbl]) rfl (Prod.ext e ?_)
  exact congrArg (fun z => upd (upd R t (R t + z)) f 0) (show (((r / sy).toNat : Nat) : Int) = r / sy by omega)
theorem split_body {p : List Jn} {f t : Int} {X : Type} {cf : X → Int → List Jn} {c : X → Nat} {l : List X} {a : Int} (hc : ∀ x ∈ l,∀ a,(cf x a).length = c x) (h : HasC p a (splC f t cf c l a)) (j : Nat) (hj : j < l.length) :
    HasC p ((begC c l (a + l.length + 1))[j]'(by rw [begC_len]; exact hj)) (cf l[j] ((begC c l (a + l.length + 1))[j]'(by rw [begC_len]; exact hj))) := by
  unfold splC at h
  have h2 := h.right
  have e : a + ((hdC f a (begC c l (a + l.length + 1)) ++ [(⟨0,t,a,0⟩ : Jn)]).length : Int) = a + l.length + 1 := by
    rw [List.length_append,hdC_len,begC_len]; simp; omega
  rw [e] at h2
  exact bod_has l _ hc h2 j hj
theorem cN {x sy : Int} (hx : 0 ≤ x) (hs : 2 ≤ sy) : ((x.toNat * (sy.toNat + 1) : Nat) : Int) = (sy + 1) * x := by
  rw [Int.natCast_mul,Int.toNat_of_nonneg hx,Int.natCast_add,Int.toNat_of_nonneg (by omega),Int.mul_comm]
  rfl
theorem cost_halt {sy l r : Int} (hs : 2 ≤ sy) (hr : 0 ≤ r) : (r / sy).toNat * (sy.toNat + 1) + ((r % sy).toNat + 1) + ((r / sy).toNat * (sy.toNat + 1) + 1 + (r % sy).toNat) = (costOf sy l r noR).toNat := by
  obtain ⟨_,_,d3,d4⟩ := div_toNat hr hs
  have e1 := cN d3 hs
  unfold costOf
  rw [if_pos rfl]
  generalize (r / sy).toNat * (sy.toNat + 1) = A at *
  rw [← e1]
  omega
theorem cost_right {sy l r : Int} {u : Rule'} (hs : 2 ≤ sy) (hr : 0 ≤ r) (hl : 0 ≤ l) (hn : u ≠ noR) (h1 : u.m = 1) (hw : 0 ≤ u.w) : (r / sy).toNat * (sy.toNat + 1) + ((r % sy).toNat + 1) + (((r / sy).toNat * 2 + 1) + (l.toNat * (sy.toNat + 1) + 1) + ((l * sy).toNat * 2 + 1) + u.w.toNat) = (costOf sy l r u).toNat := by
  obtain ⟨_,_,d3,d4⟩ := div_toNat hr hs
  have e1 := cN d3 hs
  have e2 := cN hl hs
  have e3 : 2 * sy * l = 2 * (l * sy) := by rw [Int.mul_assoc,Int.mul_comm sy l]
  have e4 := Int.mul_nonneg hl (show 0 ≤ sy by omega)
  unfold costOf
  rw [if_neg hn,if_pos h1,e3]
  generalize (r / sy).toNat * (sy.toNat + 1) = A at *
  generalize l.toNat * (sy.toNat + 1) = B at *
  rw [← e1,← e2]
  omega
theorem cost_left {sy l r : Int} {u : Rule'} (hs : 2 ≤ sy) (hr : 0 ≤ r) (hl : 0 ≤ l) (hn : u ≠ noR) (h1 : ¬ u.m = 1) (hw : 0 ≤ u.w) : (r / sy).toNat * (sy.toNat + 1) + ((r % sy).toNat + 1) + ((r / sy).toNat * (sy.toNat + 1) + 1 + u.w.toNat) + ((l / sy).toNat * (sy.toNat + 1) + ((l % sy).toNat + 1)) + (((l / sy).toNat * 2 + 1) + ((r / sy * sy + u.w).toNat * (sy.toNat + 1) + 1) + (((r / sy * sy + u.w) * sy).toNat * 2 + 1) + (l % sy).toNat) = (costOf sy l r u).toNat := by
  obtain ⟨_,_,d3,d4⟩ := div_toNat hr hs
  obtain ⟨_,_,c3',c4'⟩ := div_toNat hl hs
  have hn0 : 0 ≤ r / sy * sy + u.w := by have := Int.mul_nonneg d3 (show 0 ≤ sy by omega); omega
  have e1 := cN d3 hs
  have e2 := cN c3' hs
  have e5 := cN hn0 hs
  have e3 : 2 * sy * (r / sy * sy + u.w) = 2 * ((r / sy * sy + u.w) * sy) := by rw [Int.mul_assoc,Int.mul_comm sy (r / sy * sy + u.w)]
  have e4 := Int.mul_nonneg hn0 (show 0 ≤ sy by omega)
  unfold costOf
  rw [if_neg hn,if_neg h1,e3]
  generalize (r / sy).toNat * (sy.toNat + 1) = A at *
  generalize (l / sy).toNat * (sy.toNat + 1) = B at *
  generalize (r / sy * sy + u.w).toNat * (sy.toNat + 1) = C at *
  rw [← e1,← e2,← e5]
  omega
theorem secZ_sum {m : Mach} (hm : MaRu m) {q : Int} (h1 : 0 ≤ q) (h2 : q ≤ m.st - 1) : ((((rngI m.sy.toNat).map fun v => (partZ m (ruQ m q v) v).toNat).sum : Nat) : Int) = secZ m q - m.sy - 1 := by
  have hv : ∀ v ∈ rngI m.sy.toNat,0 ≤ v ∧ v ≤ m.sy - 1 := fun v hv => by have := rngI_mem hv; have := hm.ok.sy; omega
  rw [sum_cast (rngI m.sy.toNat) (fun v => (partZ m (ruQ m q v) v).toNat) (fun v => partZ m (ruQ m q v) v) (fun v hx => by
    obtain ⟨b1,b2⟩ := hv v hx
    have := partZ_bd hm.ok (hm.ru q v h1 h2 b1 b2) b1 b2
    omega)]
  unfold secZ
  omega
theorem sec_run {m : Mach} (hm : MaRu m) {q l r : Int} (h1 : 0 ≤ q) (h2 : q ≤ m.st - 1) (hl : 0 ≤ l) (hr : 0 ≤ r) : Rn (prgM m) (atZ m q.toNat) (atZ m (q.toNat + 1)) (costOf m.sy l r (ruQ m q (r % m.sy))).toNat (atZ m q.toNat,rg l r 0) (nxAt m (ruQ m q (r % m.sy)),rg (nxL m.sy (ruQ m q (r % m.sy)) l) (nxR m.sy (ruQ m q (r % m.sy)) l r) 0) := by
  obtain ⟨⟨ya,yb⟩,yc,yd⟩ := hm.ok
  obtain ⟨d1,d2,d3,d4⟩ := div_toNat hr ya
  obtain ⟨dl1,dl2,dl3,dl4⟩ := div_toNat hl ya
  have hv1 : r % m.sy ≤ m.sy - 1 := by have := Int.emod_lt_of_pos r (show 0 < m.sy by omega); omega
  have hro := hm.ru q (r % m.sy) h1 h2 d4 hv1
  have hat : atZ m (q.toNat + 1) = atZ m q.toNat + secZ m q := by rw [atZ,show ((q.toNat : Nat) : Int) = q by omega]
  have hsz := secZ_sum hm h1 h2
  have hprt : ∀ v ∈ rngI m.sy.toNat,∀ a,(secC m (finA m).sp (ruQ m q v) v a).length = (partZ m (ruQ m q v) v).toNat := fun v hx a => by
    have := rngI_mem hx
    exact secC_len hm.ok _ (hm.ru q v h1 h2 this.1 (by omega)) this.1 (by omega) a
  have hpg := prg_has hm h1 h2
  generalize hA : atZ m q.toNat = a at *
  have hpos : 0 ≤ a := hpg.le.1
  have hlen : (rngI m.sy.toNat).length = m.sy.toNat := rngI_len _
  have hj : (r % m.sy).toNat < (rngI m.sy.toNat).length := by rw [hlen]; exact d2
  have hsum0 : (0 : Int) ≤ (((rngI m.sy.toNat).map fun v => (partZ m (ruQ m q v) v).toNat).sum : Nat) := Int.natCast_nonneg _
  have hbd := begC_bd (c := fun v => (partZ m (ruQ m q v) v).toNat) (rngI m.sy.toNat) (a + (rngI m.sy.toNat).length + 1) (r % m.sy).toNat hj
  have hb := split_body hprt hpg (r % m.sy).toNat hj
  rw [rngI_get] at hb hbd
  obtain ⟨b,hbe⟩ : ∃ b,(begC (fun v => (partZ m (ruQ m q v) v).toNat) (rngI m.sy.toNat) (a + (rngI m.sy.toNat).length + 1))[(r % m.sy).toNat]? = some b := ⟨_,List.getElem?_eq_getElem (by rw [begC_len]; exact hj)⟩
  have s1 := head_run (lo := a) (hi := atZ m (q.toNat + 1)) (f := 1) (t := 2) (by decide) (by decide) (by decide) ya hlen hpg (Int.le_refl _) (by omega) (R := rg l r 0) rfl hr hbe
  rw [rg_2,upd_2,upd_1,Int.zero_add] at s1
  simp only [(List.getElem?_eq_some_iff.1 hbe).2] at hb hbd
  rw [show (((r % m.sy).toNat : Nat) : Int) = r % m.sy by omega] at hb hbd
  clear hbe hpg hprt
  have hpb := partZ_bd hm.ok hro d4 hv1
  rw [hlen] at hbd
  have hcl : (secC m (finA m).sp (ruQ m q (r % m.sy)) (r % m.sy) b).length = (partZ m (ruQ m q (r % m.sy)) (r % m.sy)).toNat := secC_len hm.ok _ hro d4 hv1 b
  generalize ruQ m q (r % m.sy) = u at *
  have hhi : b + (partZ m u (r % m.sy)).toNat ≤ atZ m (q.toNat + 1) := by omega
  have hlo : a ≤ b := by omega
  have hk0 : NonN (rg l 0 (r / m.sy)) := rg_non hl (Int.le_refl _) d3
  by_cases hn : u = noR
  · subst hn
    unfold secC at hb hcl
    rw [if_pos rfl] at hb hcl
    rw [tgt_q hm (by omega) (Int.le_refl _)] at hb hcl
    rw [chC_len _ _ _ (haltP_R (by omega) yb)] at hcl
    have s2 := ch_run (lo := a) (hi := atZ m (q.toNat + 1)) (haltP m.sy (r % m.sy)) b (rg l 0 (r / m.sy)) (haltP_R (by omega) yb) (by simp) hb hlo (by omega) hk0
    obtain ⟨g1,g2⟩ := halt_R (sy := m.sy) (l := l) (k := r / m.sy) d4
    rw [g1,g2] at s2
    refine (s1.trans s2).cast (cost_halt ya hr) rfl ?_
    unfold nxAt nxL nxR
    rw [if_pos rfl,if_pos rfl,if_pos rfl]
    have : r / m.sy * m.sy + r % m.sy = r := by rw [Int.mul_comm]; exact Int.mul_ediv_add_emod r m.sy
    rw [this]
  · obtain ⟨⟨w1',w2'⟩,w3',w4',w5'⟩ := hro.ok.resolve_left hn
    by_cases hm1 : u.m = 1
    · unfold secC at hb hcl
      rw [if_neg hn,if_pos hm1] at hb hcl
      rw [tgt_q hm w4' (by omega)] at hb hcl
      rw [chC_len _ _ _ (rightP_R (by omega) yb)] at hcl
      have s2 := ch_run (lo := a) (hi := atZ m (q.toNat + 1)) (rightP m.sy u.w) b (rg l 0 (r / m.sy)) (rightP_R (by omega) yb) (by simp) hb hlo (by omega) hk0
      obtain ⟨g1,g2⟩ := right_R (sy := m.sy) (l := l) (k := r / m.sy) w1'
      rw [g1,g2] at s2
      refine (s1.trans s2).cast (cost_right ya hr hl hn hm1 w1') rfl ?_
      unfold nxAt nxL nxR
      rw [if_neg hn,if_neg hn,if_neg hn,if_pos hm1,if_pos hm1]
    · unfold secC at hb hcl
      rw [if_neg hn,if_neg hm1] at hb hcl
      rw [tgt_q hm w4' (by omega)] at hb hcl
      rw [List.length_append,chC_len _ _ _ (haltP_R (by omega) yb),splC_len _ _ _ (left_len (by omega) yb),rngI_len] at hcl
      have i1 := hb.left
      have i2 := hb.right
      rw [chC_len _ _ _ (haltP_R (by omega) yb)] at i2
      have s2 := ch_run (lo := a) (hi := atZ m (q.toNat + 1)) (haltP m.sy u.w) b (rg l 0 (r / m.sy)) (haltP_R (by omega) yb) (by simp) i1 hlo (by omega) hk0
      obtain ⟨g1,g2⟩ := halt_R (sy := m.sy) (l := l) (k := r / m.sy) w1'
      rw [g1,g2] at s2
      generalize hbl : b + (lenP (haltP m.sy u.w) : Int) = b' at *
      have hjl : (l % m.sy).toNat < (rngI m.sy.toNat).length := by rw [hlen]; exact dl2
      have hbd2 := begC_bd (c := fun y => lenP (tailP m.sy y)) (rngI m.sy.toNat) (b' + (rngI m.sy.toNat).length + 1) (l % m.sy).toNat hjl
      have hb2 := split_body (left_len (by omega) yb) i2 (l % m.sy).toNat hjl
      rw [rngI_get] at hb2 hbd2
      obtain ⟨b2,hbe2⟩ : ∃ b2,(begC (fun y => lenP (tailP m.sy y)) (rngI m.sy.toNat) (b' + (rngI m.sy.toNat).length + 1))[(l % m.sy).toNat]? = some b2 := ⟨_,List.getElem?_eq_getElem (by rw [begC_len]; exact hjl)⟩
      have s3 := head_run (lo := a) (hi := atZ m (q.toNat + 1)) (f := 0) (t := 2) (by decide) (by decide) (by decide) ya hlen i2 (by omega) (by omega) (R := rg l (r / m.sy * m.sy + u.w) 0) rfl hl hbe2
      rw [rg_2,upd_2,upd_0,Int.zero_add] at s3
      simp only [(List.getElem?_eq_some_iff.1 hbe2).2] at hb2 hbd2
      rw [show (((l % m.sy).toNat : Nat) : Int) = l % m.sy by omega] at hb2 hbd2
      rw [hlen] at hbd2
      have hnn : 0 ≤ r / m.sy * m.sy + u.w := by have := Int.mul_nonneg d3 (show 0 ≤ m.sy by omega); omega
      have s4 := ch_run (lo := a) (hi := atZ m (q.toNat + 1)) (tailP m.sy (l % m.sy)) b2 (rg 0 (r / m.sy * m.sy + u.w) (l / m.sy)) (tailP_R (by omega) yb) (by simp) hb2 (by omega) (by omega) (rg_non (Int.le_refl _) hnn dl3)
      obtain ⟨g3,g4⟩ := tail_R (sy := m.sy) (n := r / m.sy * m.sy + u.w) (j := l / m.sy) dl4
      rw [g3,g4] at s4
      refine (((s1.trans s2).trans s3).trans s4).cast (cost_left ya hr hl hn hm1 w1') rfl ?_
      unfold nxAt nxL nxR
      rw [if_neg hn,if_neg hn,if_neg hn,if_neg hm1,if_neg hm1]
end Go.Proofs.YtegpggobfdcafaaGreat
end
section
set_option linter.unusedVariables false
set_option linter.unusedSimpArgs false
set_option maxRecDepth 100000
set_option maxHeartbeats 4000000
namespace Go.Proofs.YtegpggobfdcafaaGreat
open Go Foot
def numN (sy : Int) : List Int → Int
  | [] => 0
  | c :: l => numN sy l * sy + c
theorem numN_num {sy : Int} : ∀ {l : List Int} {n : Int},numT sy l = some n → numN sy l = n
  | [],n,h => by simp only [numT,Option.some.injEq] at h; rw [numN,h]
  | c :: l,n,h => by
    simp only [numT] at h
    cases hn : numT sy l with
    | none => rw [hn] at h; cases h
    | some k =>
      rw [hn] at h
      simp only at h
      split at h
      · cases h
      · simp only [Option.some.injEq] at h
        rw [numN,numN_num hn,h]
theorem numV_N {sy : Int} {l : List Int} (h : numK sy l = true) : numV sy l = numN sy l := by
  cases hn : numT sy l with
  | none => rw [(numT_none hn).2] at h; cases h
  | some n => rw [(numT_some hn).1,numN_num hn]
theorem numN_nn {sy : Int} (hs : 2 ≤ sy) : ∀ {l : List Int},(∀ c ∈ l,0 ≤ c ∧ c ≤ sy - 1) → 0 ≤ numN sy l
  | [],_ => by simp [numN]
  | c :: l,h => by
    have ih := numN_nn hs (l := l) fun x hx => h x (List.mem_cons_of_mem _ hx)
    have h1 := h c (by simp)
    have := Int.mul_nonneg ih (show 0 ≤ sy by omega)
    rw [numN]
    omega
theorem numN_dm {sy : Int} (hs : 2 ≤ sy) {l : List Int} (h : ∀ c ∈ l,0 ≤ c ∧ c ≤ sy - 1) : numN sy l % sy = l.headD 0 ∧ numN sy l / sy = numN sy l.tail := by
  cases l with
  | nil => simp [numN]
  | cons c l =>
    have h1 := h c (by simp)
    rw [numN,List.headD_cons,List.tail_cons]
    constructor
    · rw [Int.add_comm,Int.add_mul_emod_self_right,Int.emod_eq_of_lt h1.1 (by omega)]
    · rw [Int.add_comm,Int.add_mul_ediv_right _ _ (by omega),Int.ediv_eq_zero_of_lt h1.1 (by omega)]
      omega
theorem numN_app0 {sy : Int} : ∀ (l m : List Int),(∀ c ∈ m,c = 0) → numN sy (l ++ m) = numN sy l
  | [],m,h => by
    induction m with
    | nil => rfl
    | cons c m ih =>
      have := ih fun x hx => h x (List.mem_cons_of_mem _ hx)
      rw [List.nil_append] at this
      show numN sy m * sy + c = 0
      rw [this,h c (by simp)]
      simp [numN]
  | c :: l,m,h => by rw [List.cons_append,numN,numN,numN_app0 l m h]
theorem tw_zero : ∀ (l : List Int),∀ c ∈ l.takeWhile (· == (0 : Int)),c = 0
  | [],c,h => by simp at h
  | a :: l,c,h => by
    rw [List.takeWhile_cons] at h
    split at h
    · rename_i ha
      rcases List.mem_cons.1 h with rfl | h
      · simpa using ha
      · exact tw_zero l c h
    · simp at h
theorem numN_trim {sy : Int} (l : List Int) : numN sy (trimR l) = numN sy l := by
  have h : l = trimR l ++ (l.reverse.takeWhile (· == 0)).reverse := by
    unfold trimR
    rw [← List.reverse_append,List.takeWhile_append_dropWhile,List.reverse_reverse]
  have h2 : ∀ c ∈ (l.reverse.takeWhile (· == (0 : Int))).reverse,c = 0 := fun c hc => tw_zero _ c (List.mem_reverse.1 hc)
  conv => rhs; rw [h]
  rw [numN_app0 _ _ h2]
theorem stepS_num {m : Mach} {c : Conf} (hm : vMach m = true) (hc : vConf m c = true) (hn : ruAt m c ≠ noR) : numN m.sy (stepS (ruAt m c) c).le = nxL m.sy (ruAt m c) (numN m.sy c.le) ∧ numN m.sy (stepS (ruAt m c) c).ri = nxR m.sy (ruAt m c) (numN m.sy c.le) (numN m.sy c.ri) ∧ (stepS (ruAt m c) c).st = (ruAt m c).n := by
  obtain ⟨z1,z2⟩ := conf_cells hc
  obtain ⟨⟨ya,yb⟩,_⟩ := vMach_bd hm
  obtain ⟨d1,d2⟩ := numN_dm ya z1
  obtain ⟨d3,d4⟩ := numN_dm ya z2
  unfold nxL nxR
  rw [if_neg hn,if_neg hn]
  have hmv := (ruAt_ok hm hc hn).2.1
  by_cases hm1 : (ruAt m c).m = 1
  · rw [if_pos hm1,if_pos hm1]
    refine ⟨?_,?_,stepS_n _ _⟩
    · unfold stepS
      rw [if_pos (show 0 < (ruAt m c).m by omega),numN_trim,numN]
    · unfold stepS
      rw [if_pos (show 0 < (ruAt m c).m by omega)]
      exact d4.symm
  · rw [if_neg hm1,if_neg hm1]
    refine ⟨?_,?_,stepS_n _ _⟩
    · unfold stepS
      rw [if_neg (show ¬ 0 < (ruAt m c).m by omega)]
      exact d2.symm
    · unfold stepS
      rw [if_neg (show ¬ 0 < (ruAt m c).m by omega),numN_trim,numN,numN_trim,numN,d1,d4]
theorem ruQ_at {m : Mach} {c : Conf} (hm : vMach m = true) (hc : vConf m c = true) : ruQ m c.st (numN m.sy c.ri % m.sy) = ruAt m c := by
  obtain ⟨z1,z2⟩ := conf_cells hc
  obtain ⟨⟨ya,yb⟩,_⟩ := vMach_bd hm
  rw [(numN_dm ya z2).1]
  unfold ruQ ruAt
  rfl
def celG (sy : Int) (n : Int) : List Int := if h : 0 < n ∧ 2 ≤ sy then n % sy :: celG sy (n / sy) else []
termination_by n.toNat
decreasing_by
  have h0 : n * 2 ≤ n * sy := Int.mul_le_mul_of_nonneg_left h.2 (Int.le_of_lt h.1)
  have h1 : n / sy < n := Int.ediv_lt_of_lt_mul (by omega) (by omega)
  have h2 := Int.ediv_nonneg (Int.le_of_lt h.1) (show 0 ≤ sy by omega)
  omega
theorem celG_num {sy : Int} (hs : 2 ≤ sy) : ∀ {l : List Int},(∀ c ∈ l,0 ≤ c ∧ c ≤ sy - 1) → l.getLastD 1 ≠ 0 → celG sy (numN sy l) = l
  | [],_,_ => by unfold celG; simp [numN]
  | c :: l,h,hl => by
    have hx : ∀ x ∈ l,0 ≤ x ∧ x ≤ sy - 1 := fun x hx => h x (List.mem_cons_of_mem _ hx)
    have h1 := h c (by simp)
    have h2 := numN_nn hs hx
    have hlt : l.getLastD 1 ≠ 0 := by
      cases l with
      | nil => simp
      | cons b l => simpa using hl
    have ih := celG_num hs hx hlt
    obtain ⟨d1,d2⟩ := numN_dm hs h
    rw [List.headD_cons] at d1
    rw [List.tail_cons] at d2
    have hp := Int.mul_nonneg h2 (show 0 ≤ sy by omega)
    have hpos : 0 < numN sy (c :: l) := by
      rw [numN]
      by_cases hc0 : c = 0
      · cases l with
        | nil => subst hc0; simp at hl
        | cons b l =>
          have hne : numN sy (b :: l) ≠ 0 := fun e => by rw [e] at ih; unfold celG at ih; simp at ih
          have : 0 < numN sy (b :: l) * sy := Int.mul_pos (by omega) (by omega)
          omega
      · omega
    rw [celG,dif_pos ⟨hpos,hs⟩,d1,d2,ih]
def rmC (m : Mach) : Nat → Conf → Conf
  | 0,c => c
  | k + 1,c => if ruAt m c = noR then c else rmC m k (stepS (ruAt m c) c)
def rmN (m : Mach) : Nat → Conf → Nat
  | 0,_ => 0
  | k + 1,c => if ruAt m c = noR then 0 else rmN m k (stepS (ruAt m c) c) + 1
def rmK (m : Mach) : Nat → Conf → Nat
  | 0,c => if ruAt m c = noR then (costOf m.sy (numN m.sy c.le) (numN m.sy c.ri) noR).toNat else 0
  | k + 1,c => (costOf m.sy (numN m.sy c.le) (numN m.sy c.ri) (ruAt m c)).toNat + (if ruAt m c = noR then 0 else rmK m k (stepS (ruAt m c) c))
def rmV (m : Mach) : Nat → Conf → Prop
  | 0,c => vConf m c = true
  | k + 1,c => vConf m c = true ∧ (ruAt m c = noR ∨ rmV m k (stepS (ruAt m c) c))
structure Vs where
  e : Int
  c : Conf
def secAt (m : Mach) (a : Int) : Option Nat := (List.range m.st.toNat).find? fun k => decide (atZ m k = a)
def visF (m : Mach) (s : Int × Rg) (v : Vs) : Vs := match secAt m s.1 with
  | none => v
  | some q => ⟨q,if s.2 2 = 0 then ⟨q,celG m.sy (s.2 0),celG m.sy (s.2 1)⟩ else v.c⟩
def stJ (p : List Jn) (s : Int × Rg) : Int × Rg := match p[s.1.toNat]? with
  | some x => execJ x s
  | none => s
def itS (p : List Jn) : Nat → Int × Rg → Int × Rg
  | 0,s => s
  | n + 1,s => itS p n (stJ p s)
def itV (m : Mach) (p : List Jn) : Nat → Int × Rg → Vs → Vs
  | 0,_,v => v
  | n + 1,s,v => itV m p n (stJ p s) (visF m s v)
def Pth (p : List Jn) : Nat → Int × Rg → Prop
  | 0,_ => True
  | n + 1,s => 0 ≤ s.1 ∧ (∃ x,p[s.1.toNat]? = some x ∧ 0 ≤ x.r ∧ x.r ≤ 2) ∧ Pth p n (stJ p s)
theorem itS_app (p : List Jn) : ∀ (a b : Nat) (s : Int × Rg),itS p (a + b) s = itS p b (itS p a s)
  | 0,b,s => by rw [Nat.zero_add,itS]
  | a + 1,b,s => by rw [Nat.add_right_comm,itS,itS,itS_app p a b]
theorem itV_app (m : Mach) (p : List Jn) : ∀ (a b : Nat) (s : Int × Rg) (v : Vs),itV m p (a + b) s v = itV m p b (itS p a s) (itV m p a s v)
  | 0,b,s,v => by rw [Nat.zero_add,itS,itV]
  | a + 1,b,s,v => by rw [Nat.add_right_comm,itV,itS,itV,itV_app m p a b]
theorem pth_app {p : List Jn} : ∀ (a b : Nat) (s : Int × Rg),Pth p a s → Pth p b (itS p a s) → Pth p (a + b) s
  | 0,b,s,_,h => by rw [Nat.zero_add]; exact h
  | a + 1,b,s,h,h' => by
    rw [Nat.add_right_comm]
    exact ⟨h.1,h.2.1,pth_app a b _ h.2.2 h'⟩
theorem Rn.it {p : List Jn} {lo hi : Int} {n : Nat} {s s' : Int × Rg} (h : Rn p lo hi n s s') : itS p n s = s' ∧ Pth p n s := by
  induction h with
  | refl s => exact ⟨rfl,trivial⟩
  | step x h0 h1 h2 hx hr h ih =>
    rename_i n s s'
    have e : stJ p s = execJ x s := by unfold stJ; rw [hx]
    exact ⟨by rw [itS,e]; exact ih.1,h0,⟨x,hx,hr⟩,by rw [e]; exact ih.2⟩
theorem Rn.vis {m : Mach} {p : List Jn} {lo hi : Int} {q : Nat} {n : Nat} {s s' : Int × Rg} (h : Rn p lo hi n s s') (hq : ∀ a,lo ≤ a → a < hi → secAt m a = none ∨ secAt m a = some q) : ∀ v : Vs,v.e = q → (itV m p n s v).e = q := by
  induction h with
  | refl s => exact fun v hv => hv
  | step x h0 h1 h2 hx hr h ih =>
    rename_i n s s'
    intro v hv
    have e : stJ p s = execJ x s := by unfold stJ; rw [hx]
    rw [itV,e]
    refine ih _ ?_
    unfold visF
    rcases hq _ h1 h2 with hh | hh
    · rw [hh]; exact hv
    · rw [hh]
theorem Rn.vis1 {m : Mach} {p : List Jn} {lo hi : Int} {q : Nat} {n : Nat} {s s' : Int × Rg} (h : Rn p lo hi n s s') (hn : 0 < n) (hq : ∀ a,lo ≤ a → a < hi → secAt m a = none ∨ secAt m a = some q) (hs : secAt m s.1 = some q) (v : Vs) : (itV m p n s v).e = q := by
  cases h with
  | refl => omega
  | step x h0 h1 h2 hx hr h =>
    rename_i n
    have e : stJ p s = execJ x s := by unfold stJ; rw [hx]
    rw [itV,e]
    refine h.vis hq _ ?_
    unfold visF
    rw [hs]
theorem secZ_pos {m : Mach} (hm : MaRu m) {q : Nat} (hq : (q : Int) < m.st) : 3 ≤ secZ m q := by
  obtain ⟨⟨ya,yb⟩,_⟩ := hm.ok
  have := inZ_bd hm (q := (q : Int)) (by omega) (by omega) m.sy.toNat (by omega)
  rw [secZ_in]
  omega
theorem atZ_mono {m : Mach} (hm : MaRu m) : ∀ (j i : Nat),i ≤ j → (j : Int) ≤ m.st → atZ m i + (j - i : Nat) ≤ atZ m j
  | 0,i,h,_ => by
    have hi : i = 0 := by omega
    subst hi
    simp
  | j + 1,i,h,hj => by
    by_cases he : i = j + 1
    · subst he; simp
    · have ih := atZ_mono hm j i (by omega) (by omega)
      have := secZ_pos hm (q := j) (by omega)
      rw [atZ]
      omega
theorem secAt_q {m : Mach} (hm : MaRu m) {q : Nat} (hq : (q : Int) < m.st) : secAt m (atZ m q) = some q := by
  unfold secAt
  rw [List.find?_range_eq_some]
  refine ⟨by simp,by simp; omega,fun j hj => ?_⟩
  have := atZ_mono hm q j (by omega) (by omega)
  simp
  omega
theorem secAt_none {m : Mach} {a : Int} (h : ∀ k : Nat,(k : Int) < m.st → atZ m k ≠ a) : secAt m a = none := by
  unfold secAt
  rw [List.find?_eq_none]
  intro k hk
  have := List.mem_range.1 hk
  simp
  exact h k (by omega)
theorem secAt_in {m : Mach} (hm : MaRu m) {q : Nat} (hq : (q : Int) < m.st) {a : Int} (h1 : atZ m q ≤ a) (h2 : a < atZ m (q + 1)) : secAt m a = none ∨ secAt m a = some q := by
  by_cases he : a = atZ m q
  · rw [he]; exact .inr (secAt_q hm hq)
  · refine .inl (secAt_none fun k hk e => ?_)
    by_cases hkq : k ≤ q
    · have := atZ_mono hm q k hkq (by omega)
      have : k = q := by omega
      subst this
      exact he e.symm
    · have := atZ_mono hm k (q + 1) (by omega) (by omega)
      omega
theorem secAt_end {m : Mach} (hm : MaRu m) : secAt m (atZ m m.st.toNat) = none := by
  refine secAt_none fun k hk e => ?_
  have := hm.ok.st
  have := atZ_mono hm m.st.toNat k (by omega) (by omega)
  omega
abbrev stC0 (m : Mach) (c : Conf) : Int × Rg := (atZ m c.st.toNat,rg (numN m.sy c.le) (numN m.sy c.ri) 0)
theorem prog_step {m : Mach} (hv : vMach m = true) {c : Conf} (hc : vConf m c = true) (v : Vs) : 0 < (costOf m.sy (numN m.sy c.le) (numN m.sy c.ri) (ruAt m c)).toNat ∧
    Pth (prgM m) (costOf m.sy (numN m.sy c.le) (numN m.sy c.ri) (ruAt m c)).toNat (stC0 m c) ∧ (itV m (prgM m) (costOf m.sy (numN m.sy c.le) (numN m.sy c.ri) (ruAt m c)).toNat (stC0 m c) v).e = c.st ∧
    itS (prgM m) (costOf m.sy (numN m.sy c.le) (numN m.sy c.ri) (ruAt m c)).toNat (stC0 m c) = if ruAt m c = noR then (atZ m m.st.toNat,rg (numN m.sy c.le) (numN m.sy c.ri) 0) else stC0 m (stepS (ruAt m c) c) := by
  have hm := maRu_of hv
  obtain ⟨z1,z2⟩ := conf_cells hc
  obtain ⟨⟨ya,yb⟩,_⟩ := vMach_bd hv
  obtain ⟨⟨k1,k2⟩,_⟩ := vConf_bd hc
  have hr := sec_run hm k1 k2 (numN_nn ya z1) (numN_nn ya z2)
  rw [ruQ_at hv hc] at hr
  obtain ⟨i1,i2⟩ := hr.it
  have hpos : 0 < (costOf m.sy (numN m.sy c.le) (numN m.sy c.ri) (ruAt m c)).toNat := by
    have d1 := numN_nn ya z1
    have d2 := numN_nn ya z2
    obtain ⟨_,_,d3,d4⟩ := div_toNat d2 ya
    have e1 := cN d3 ya
    by_cases hn : ruAt m c = noR
    · rw [hn,← cost_halt ya d2]; omega
    · have hw := (ruAt_ok hv hc hn).1.1
      by_cases h1 : (ruAt m c).m = 1
      · rw [← cost_right ya d2 d1 hn h1 hw]; omega
      · rw [← cost_left ya d2 d1 hn h1 hw]; omega
  have hst : (c.st.toNat : Int) = c.st := by omega
  refine ⟨hpos,i2,?_,?_⟩
  · have := hr.vis1 hpos (fun a h1 h2 => secAt_in hm (by omega) h1 h2) (secAt_q hm (by omega)) v
    rw [this,hst]
  · rw [i1]
    by_cases hn : ruAt m c = noR
    · rw [if_pos hn]
      unfold nxAt nxL nxR
      rw [if_pos hn,if_pos hn,if_pos hn]
    · rw [if_neg hn]
      obtain ⟨s1,s2,s3⟩ := stepS_num hv hc hn
      rw [← s1,← s2]
      unfold nxAt
      rw [if_neg hn,← s3]
theorem prog_run {m : Mach} (hv : vMach m = true) : ∀ (k : Nat) (c : Conf) (v : Vs),rmV m k c → vConf m c = true ∧ Pth (prgM m) (rmK m k c) (stC0 m c) ∧ vConf m (rmC m k c) = true ∧
    (ruAt m (rmC m k c) = noR → itS (prgM m) (rmK m k c) (stC0 m c) = (atZ m m.st.toNat,rg (numN m.sy (rmC m k c).le) (numN m.sy (rmC m k c).ri) 0) ∧ (itV m (prgM m) (rmK m k c) (stC0 m c) v).e = (rmC m k c).st) ∧
    (ruAt m (rmC m k c) ≠ noR → itS (prgM m) (rmK m k c) (stC0 m c) = stC0 m (rmC m k c))
  | 0,c,v,h => by
    obtain ⟨p1,p2,p3,p4⟩ := prog_step hv h v
    refine ⟨h,?_,h,fun hn => ?_,fun hn => ?_⟩
    · rw [rmK]
      split
      · rename_i hn; rw [hn] at p2; exact p2
      · trivial
    · rw [rmC] at hn ⊢
      rw [rmK,if_pos hn]
      rw [hn] at p3 p4
      rw [if_pos rfl] at p4
      exact ⟨p4,p3⟩
    · rw [rmC] at hn ⊢
      rw [rmK,if_neg hn]
      rfl
  | k + 1,c,v,h => by
    have hc := h.1
    obtain ⟨p1,p2,p3,p4⟩ := prog_step hv hc v
    by_cases hn : ruAt m c = noR
    · have e1 : rmC m (k + 1) c = c := by rw [rmC,if_pos hn]
      have e2 : rmK m (k + 1) c = (costOf m.sy (numN m.sy c.le) (numN m.sy c.ri) (ruAt m c)).toNat := by rw [rmK,if_pos hn,Nat.add_zero]
      rw [e1,e2]
      rw [if_pos hn] at p4
      exact ⟨hc,p2,hc,fun _ => ⟨p4,p3⟩,fun q => absurd hn q⟩
    · have e1 : rmC m (k + 1) c = rmC m k (stepS (ruAt m c) c) := by rw [rmC,if_neg hn]
      have e2 : rmK m (k + 1) c = (costOf m.sy (numN m.sy c.le) (numN m.sy c.ri) (ruAt m c)).toNat + rmK m k (stepS (ruAt m c) c) := by rw [rmK,if_neg hn]
      rw [if_neg hn] at p4
      have hr := h.2.resolve_left hn
      obtain ⟨q0,q1,q2,q3,q4⟩ := prog_run hv k _ (itV m (prgM m) (costOf m.sy (numN m.sy c.le) (numN m.sy c.ri) (ruAt m c)).toNat (stC0 m c) v) hr
      rw [e1,e2]
      refine ⟨hc,pth_app _ _ _ p2 (by rw [p4]; exact q1),q2,fun hh => ?_,fun hh => ?_⟩
      · rw [itS_app,itV_app,p4]
        exact q3 hh
      · rw [itS_app,p4]
        exact q4 hh
end Go.Proofs.YtegpggobfdcafaaGreat
end
section
set_option linter.unusedVariables false
set_option linter.unusedSimpArgs false
set_option maxRecDepth 100000
set_option maxHeartbeats 4000000
namespace Go.Proofs.YtegpggobfdcafaaGreat
open Go Foot Go.RowKit
theorem preB270 {p : Prop} (h : p := by first | with_reducible assumption | omega | (simp only [List.length_append,List.length_cons,List.length_nil,List.length_set,List.length_replicate,List.length_take,List.length_drop,List.length_tail,List.length_dropLast,List.length_reverse] at *; omega) | exact mem_len (by assumption) (by omega) | (with_reducible refine Int.le_trans (Int.ofNat_le.2 (trimR_len _)) ?_; simp only [List.length_cons,List.length_tail]; omega) | (exact (ruAt_ok (by assumption) (by assumption) (by assumption)).2.1) | (exact (ruAt_ok (by assumption) (by assumption) (by assumption)).2.1) | (have := vMach_bd (by assumption); omega) | (simp only [List.length_append,List.length_cons,List.length_nil,repW_len,seN_len] at *; omega) | (simp only [mC_ch,mC_tu]; omega) | (have := vTag_bd (by assumption); omega) | (have := (‹Gd _ _›).le; omega) | (exact tgHalts_no (by assumption)) | (exact tgHead (by assumption) (by assumption) (by assumption)) | (exact Int.le_trans (tgStep_gd (by assumption) (by assumption) (by assumption) (by assumption)).le (by decide)) | (exact vTag_r (by assumption)) | (with_reducible refine Int.le_trans (Int.ofNat_le.2 (pushL_len _ _)) ?_; simp only [List.length_dropLast]; omega) | exact ls_at (by assumption) (by omega) | exact pt_gd (by assumption) | exact lv_at (by assumption) (by omega) | exact pt_gd (lv_at (by assumption) (by omega)) | exact (ask_ok (by assumption)).1 | exact (ask_ok (by assumption)).2.1 | exact (ask_ok (by assumption)).2.2.1 | exact (ask_ok (by assumption)).2.2.2 | trivial) : p := h
theorem l20Cost_ok (m : Mach) (c : Conf) (hm : vMach m = true) (hc : vConf m c = true) (hk : numOk m c = true) : Does Tryz.prog 37 [.one (maB m),.one (coB c)] [] (.one (int (costC m c))) [] := by
  obtain ⟨z1,z2⟩ := conf_cells hc
  obtain ⟨⟨ya,yb⟩,_⟩ := vMach_bd hm
  have hb := at_bd hm hc
  have hv1 := numV_bd ya z1
  have hv2 := numV_bd ya z2
  unfold numOk at hk
  rw [Bool.and_eq_true] at hk
  obtain ⟨hk1,hk2⟩ := hk
  have hix : (c.st * m.sy + c.ri.headD 0).toNat < m.ru.length := by omega
  have hru := ruAt_ge hm hc hix
  have hcost : costC m c = costOf m.sy (numV m.sy c.le) (numV m.sy c.ri) (ruAt m c) := by unfold costC; rfl
  have hw := ruAt_w hm hc
  rw [hcost]
  by_cases hn : ruAt m c = noR
  · obtain ⟨a1,a2,a3,a4,a5,a6,a7,a8,a9,a10,a11⟩ := prOk (w := 0) ya yb hv1.1 hv1.2 hv2.1 hv2.2 (by decide) (by decide)
    have e2 : costOf m.sy (numV m.sy c.le) (numV m.sy c.ri) (ruAt m c) = (m.sy + 1) * (numV m.sy c.ri / m.sy) + numV m.sy c.ri % m.sy + 1 + (m.sy + 1) * (numV m.sy c.ri / m.sy) + 1 + numV m.sy c.ri % m.sy := by unfold costOf; rw [if_pos hn]
    rw [e2]
    refine does_of (k := 0) Tryz.func37 rfl Tryz.ntmps37 rfl rfl fun w F0 S0 ρ0 => ?_
    dsimp only [argT,argH]
    repeat' first|(apply p3;(first|exact pu1|exact a_quo rfl rfl (by omega) (by omega) (by omega)|exact a_rem rfl rfl (by omega) (by omega) (by omega)|exact a_add rfl rfl (by omega) (by omega)|exact a_mulB rfl rfl (by omega) (by omega) (by omega) (by omega));exact rfl)|refine cdn ?_|refine g_reg (id := 0) ?_|refine g_reg (id := 1) ?_|refine g_reg (id := 2) ?_|refine g_reg (id := 3) ?_|refine g_reg (id := 4) ?_|refine g_reg (id := 5) ?_|refine g_reg (id := 6) ?_|(apply c4 0;exact callK1 (θ := []) (hD := (l14Number_ok _ _ preB270 preB270 preB270 preB270));exact rfl;exact rfl;exact rfl;refine dM ?_)|(apply g_drN (id := 7) okM [[],[0],[0,1],[0,1,2],[],[],[4,5],[0,1,2,3,4,5,6],[0,1,2,3,4,5,6,7],[],[0,1,2,3,4,5,6,7,8,9]] [([],[]),([],[]),([],[]),([],[]),([],[]),([],[]),([],[]),([],[]),([],[]),([0],[]),([],[0])] 1;(focus (refine dp 0 0 [56,57,58,13] [(true,0)] pu1 ?_;refine dp 1 1 [56,57,58,13] [(true,0)] (a_pure (sv := .one _) rfl) ?_;refine dp 2 3 [56,57,58,13] [(true,0)] (a_pure (sv := .one _) rfl) ?_;refine dp 3 7 [56,57,58,13] [(true,0)] (by exact puL) ?_;refine dp 4 0 [52,53,54,55,57,13] [(true,0)] pu1 ?_;refine dp 5 0 [52,53,54,55,56,13] [(true,0)] pu1 ?_;refine dp 6 3 [52,53,54,55,13] [(true,0)] (callD1 (n := _) 0 (θ := []) (hD := (l05AtC_ok _ _ preB270 preB270))) ?_;refine dp 7 127 [13] [(true,0)] puI ?_;refine dp 8 255 [13] [(true,0)] (by exact puL) ?_;refine duE 9 0 [52,53,54,55,56,57,58,59,60] [] (atN 0 (fun _ => a_new (gb := .bx _) rfl)) (by exact rfl) (by exact rfl) ?_;refine duE 10 1023 [] [] (by exact a_st_bx rfl rfl rfl rfl (fN rfl rfl) (Nat.le_of_ble_eq_true rfl) rfl) (by exact rfl) (by exact rfl) ?_;(refine d_nil ?_;refine dN ?_)));any_goals kernel_rfl)|fail
    simp only [hru]
    repeat' first|(apply p3;(first|exact pu1|exact a_add rfl rfl (by omega) (by omega)|exact a_mulB rfl rfl (by omega) (by omega) (by omega) (by omega));exact rfl)|refine cd ?_|(apply g_drN (id := 8) okM [[],[],[0,1]] [([],[]),([],[]),([],[])] 0;(focus (refine dp 0 0 [62] [] (by exact puL) ?_;refine dp 1 0 [61] [] (callD1 (n := _) 0 (θ := []) (hD := l05None_ok)) ?_;refine dp 2 3 [] [] (by exact a_eqRule (s := ⟨_,_,_⟩) rfl rfl) ?_;(refine d_nil ?_;refine dN ?_)));any_goals kernel_rfl)|((refine g_cond rfl (fun hc => ?_) (fun hc => ?_)) <;> (try simp only [dcB] at hc) <;> (try first|contradiction|(exfalso;omega)))|fail
    repeat refine cr ?_
    refine ends_id ?_
    refine endK [] (h2 := ?_) (h3 := ?_) (nd := ?_)
    all_goals (repeat' first|exact ce0|refine ce ?_|refine ce2 ?_ ?_|exact SVLe.refl|refine ceb ?_)
    all_goals first | exact (show nodupB _ = true from rfl) | exact Or.inr rfl | (rfl)
  · obtain ⟨x1,x2⟩ := hw.resolve_left hn
    obtain ⟨a1,a2,a3,a4,a5,a6,a7,a8,a9,a10,a11⟩ := prOk (w := (ruAt m c).w) ya yb hv1.1 hv1.2 hv2.1 hv2.2 x1 x2
    by_cases hm1 : (ruAt m c).m = 1
    · have e2 : costOf m.sy (numV m.sy c.le) (numV m.sy c.ri) (ruAt m c) = (m.sy + 1) * (numV m.sy c.ri / m.sy) + numV m.sy c.ri % m.sy + 1 + 2 * (numV m.sy c.ri / m.sy) + 1 + (m.sy + 1) * numV m.sy c.le + 1 + 2 * m.sy * numV m.sy c.le + 1 + (ruAt m c).w := by unfold costOf; rw [if_neg hn,if_pos hm1]
      rw [e2]
      refine does_of (k := 0) Tryz.func37 rfl Tryz.ntmps37 rfl rfl fun w F0 S0 ρ0 => ?_
      dsimp only [argT,argH]
      repeat' first|(apply p3;(first|exact pu1|exact a_quo rfl rfl (by omega) (by omega) (by omega)|exact a_rem rfl rfl (by omega) (by omega) (by omega)|exact a_add rfl rfl (by omega) (by omega)|exact a_mulB rfl rfl (by omega) (by omega) (by omega) (by omega));exact rfl)|refine cdn ?_|refine g_reg (id := 0) ?_|refine g_reg (id := 1) ?_|refine g_reg (id := 2) ?_|refine g_reg (id := 3) ?_|refine g_reg (id := 4) ?_|refine g_reg (id := 5) ?_|refine g_reg (id := 6) ?_|(apply c4 0;exact callK1 (θ := []) (hD := (l14Number_ok _ _ preB270 preB270 preB270 preB270));exact rfl;exact rfl;exact rfl;refine dM ?_)|(apply g_drN (id := 7) okM [[],[0],[0,1],[0,1,2],[],[],[4,5],[0,1,2,3,4,5,6],[0,1,2,3,4,5,6,7],[],[0,1,2,3,4,5,6,7,8,9]] [([],[]),([],[]),([],[]),([],[]),([],[]),([],[]),([],[]),([],[]),([],[]),([0],[]),([],[0])] 1;(focus (refine dp 0 0 [56,57,58,13] [(true,0)] pu1 ?_;refine dp 1 1 [56,57,58,13] [(true,0)] (a_pure (sv := .one _) rfl) ?_;refine dp 2 3 [56,57,58,13] [(true,0)] (a_pure (sv := .one _) rfl) ?_;refine dp 3 7 [56,57,58,13] [(true,0)] (by exact puL) ?_;refine dp 4 0 [52,53,54,55,57,13] [(true,0)] pu1 ?_;refine dp 5 0 [52,53,54,55,56,13] [(true,0)] pu1 ?_;refine dp 6 3 [52,53,54,55,13] [(true,0)] (callD1 (n := _) 0 (θ := []) (hD := (l05AtC_ok _ _ preB270 preB270))) ?_;refine dp 7 127 [13] [(true,0)] puI ?_;refine dp 8 255 [13] [(true,0)] (by exact puL) ?_;refine duE 9 0 [52,53,54,55,56,57,58,59,60] [] (atN 0 (fun _ => a_new (gb := .bx _) rfl)) (by exact rfl) (by exact rfl) ?_;refine duE 10 1023 [] [] (by exact a_st_bx rfl rfl rfl rfl (fN rfl rfl) (Nat.le_of_ble_eq_true rfl) rfl) (by exact rfl) (by exact rfl) ?_;(refine d_nil ?_;refine dN ?_)));any_goals kernel_rfl)|fail
      simp only [hru]
      repeat' first|(apply p3;(first|exact pu1|exact a_add rfl rfl (by omega) (by omega)|exact a_mulB rfl rfl (by omega) (by omega) (by omega) (by omega)|exact puC);exact rfl)|refine cd ?_|(apply g_drN (id := 8) okM [[],[],[0,1]] [([],[]),([],[]),([],[])] 0;(focus (refine dp 0 0 [62] [] (by exact puL) ?_;refine dp 1 0 [61] [] (callD1 (n := _) 0 (θ := []) (hD := l05None_ok)) ?_;refine dp 2 3 [] [] (by exact a_eqRule (s := ⟨_,_,_⟩) rfl rfl) ?_;(refine d_nil ?_;refine dN ?_)));any_goals kernel_rfl)|((refine g_cond rfl (fun hc => ?_) (fun hc => ?_)) <;> (try simp only [dcB] at hc) <;> (try first|contradiction|(exfalso;omega)))|fail
      repeat refine cr ?_
      refine ends_id ?_
      refine endK [] (h2 := ?_) (h3 := ?_) (nd := ?_)
      all_goals (repeat' first|exact ce0|refine ce ?_|refine ce2 ?_ ?_|exact SVLe.refl|refine ceb ?_)
      all_goals first | exact (show nodupB _ = true from rfl) | exact Or.inr rfl | (rfl)
    · have e2 : costOf m.sy (numV m.sy c.le) (numV m.sy c.ri) (ruAt m c) = (m.sy + 1) * (numV m.sy c.ri / m.sy) + numV m.sy c.ri % m.sy + 1 + (m.sy + 1) * (numV m.sy c.ri / m.sy) + 1 + (ruAt m c).w + (m.sy + 1) * (numV m.sy c.le / m.sy) + numV m.sy c.le % m.sy + 1 + 2 * (numV m.sy c.le / m.sy) + 1 + (m.sy + 1) * (numV m.sy c.ri / m.sy * m.sy + (ruAt m c).w) + 1 + 2 * m.sy * (numV m.sy c.ri / m.sy * m.sy + (ruAt m c).w) + 1 + numV m.sy c.le % m.sy := by unfold costOf; rw [if_neg hn,if_neg hm1]
      rw [e2]
      refine does_of (k := 0) Tryz.func37 rfl Tryz.ntmps37 rfl rfl fun w F0 S0 ρ0 => ?_
      dsimp only [argT,argH]
      repeat' first|(apply p3;(first|exact pu1|exact a_quo rfl rfl (by omega) (by omega) (by omega)|exact a_rem rfl rfl (by omega) (by omega) (by omega)|exact a_add rfl rfl (by omega) (by omega)|exact a_mulB rfl rfl (by omega) (by omega) (by omega) (by omega));exact rfl)|refine cdn ?_|refine g_reg (id := 0) ?_|refine g_reg (id := 1) ?_|refine g_reg (id := 2) ?_|refine g_reg (id := 3) ?_|refine g_reg (id := 4) ?_|refine g_reg (id := 5) ?_|refine g_reg (id := 6) ?_|(apply c4 0;exact callK1 (θ := []) (hD := (l14Number_ok _ _ preB270 preB270 preB270 preB270));exact rfl;exact rfl;exact rfl;refine dM ?_)|(apply g_drN (id := 7) okM [[],[0],[0,1],[0,1,2],[],[],[4,5],[0,1,2,3,4,5,6],[0,1,2,3,4,5,6,7],[],[0,1,2,3,4,5,6,7,8,9]] [([],[]),([],[]),([],[]),([],[]),([],[]),([],[]),([],[]),([],[]),([],[]),([0],[]),([],[0])] 1;(focus (refine dp 0 0 [56,57,58,13] [(true,0)] pu1 ?_;refine dp 1 1 [56,57,58,13] [(true,0)] (a_pure (sv := .one _) rfl) ?_;refine dp 2 3 [56,57,58,13] [(true,0)] (a_pure (sv := .one _) rfl) ?_;refine dp 3 7 [56,57,58,13] [(true,0)] (by exact puL) ?_;refine dp 4 0 [52,53,54,55,57,13] [(true,0)] pu1 ?_;refine dp 5 0 [52,53,54,55,56,13] [(true,0)] pu1 ?_;refine dp 6 3 [52,53,54,55,13] [(true,0)] (callD1 (n := _) 0 (θ := []) (hD := (l05AtC_ok _ _ preB270 preB270))) ?_;refine dp 7 127 [13] [(true,0)] puI ?_;refine dp 8 255 [13] [(true,0)] (by exact puL) ?_;refine duE 9 0 [52,53,54,55,56,57,58,59,60] [] (atN 0 (fun _ => a_new (gb := .bx _) rfl)) (by exact rfl) (by exact rfl) ?_;refine duE 10 1023 [] [] (by exact a_st_bx rfl rfl rfl rfl (fN rfl rfl) (Nat.le_of_ble_eq_true rfl) rfl) (by exact rfl) (by exact rfl) ?_;(refine d_nil ?_;refine dN ?_)));any_goals kernel_rfl)|fail
      simp only [hru]
      repeat' first|(apply p3;(first|exact pu1|exact a_quo rfl rfl (by omega) (by omega) (by omega)|exact a_rem rfl rfl (by omega) (by omega) (by omega)|exact a_add rfl rfl (by omega) (by omega)|exact a_mulB rfl rfl (by omega) (by omega) (by omega) (by omega)|exact puC);exact rfl)|refine cd ?_|(apply g_drN (id := 8) okM [[],[],[0,1]] [([],[]),([],[]),([],[])] 0;(focus (refine dp 0 0 [62] [] (by exact puL) ?_;refine dp 1 0 [61] [] (callD1 (n := _) 0 (θ := []) (hD := l05None_ok)) ?_;refine dp 2 3 [] [] (by exact a_eqRule (s := ⟨_,_,_⟩) rfl rfl) ?_;(refine d_nil ?_;refine dN ?_)));any_goals kernel_rfl)|((refine g_cond rfl (fun hc => ?_) (fun hc => ?_)) <;> (try simp only [dcB] at hc) <;> (try first|contradiction|(exfalso;omega)))|fail
      repeat refine cr ?_
      refine ends_id ?_
      refine endK [] (h2 := ?_) (h3 := ?_) (nd := ?_)
      all_goals (repeat' first|exact ce0|refine ce ?_|refine ce2 ?_ ?_|exact SVLe.refl|refine ceb ?_)
      all_goals first | exact (show nodupB _ = true from rfl) | exact Or.inr rfl | (rfl)
end Go.Proofs.YtegpggobfdcafaaGreat
end
section
set_option linter.unusedVariables false
set_option linter.unusedSimpArgs false
set_option maxRecDepth 100000
set_option maxHeartbeats 4000000
namespace Go.Proofs.YtegpggobfdcafaaGreat
open Go Foot Go.RowKit
structure Cs where
  s : Int
  f : Bool
abbrev csBx (x : Cs) : GB := .bx [int x.s,boo x.f]
@[irreducible] def cAdd (m : Mach) (c : Conf) (x : Cs) : Cs := if numOk m c then ⟨x.s + costC m c,x.f || decide (x.s + costC m c > 1000000000000)⟩ else ⟨x.s,true⟩
theorem preB271 {p : Prop} (h : p := by first | with_reducible assumption | omega | (simp only [List.length_append,List.length_cons,List.length_nil,List.length_set,List.length_replicate,List.length_take,List.length_drop,List.length_tail,List.length_dropLast,List.length_reverse] at *; omega) | exact mem_len (by assumption) (by omega) | (with_reducible refine Int.le_trans (Int.ofNat_le.2 (trimR_len _)) ?_; simp only [List.length_cons,List.length_tail]; omega) | (exact (ruAt_ok (by assumption) (by assumption) (by assumption)).2.1) | (exact (ruAt_ok (by assumption) (by assumption) (by assumption)).2.1) | (have := vMach_bd (by assumption); omega) | (simp only [List.length_append,List.length_cons,List.length_nil,repW_len,seN_len] at *; omega) | (simp only [mC_ch,mC_tu]; omega) | (have := vTag_bd (by assumption); omega) | (have := (‹Gd _ _›).le; omega) | (exact tgHalts_no (by assumption)) | (exact tgHead (by assumption) (by assumption) (by assumption)) | (exact Int.le_trans (tgStep_gd (by assumption) (by assumption) (by assumption) (by assumption)).le (by decide)) | (exact vTag_r (by assumption)) | (with_reducible refine Int.le_trans (Int.ofNat_le.2 (pushL_len _ _)) ?_; simp only [List.length_dropLast]; omega) | exact ls_at (by assumption) (by omega) | exact pt_gd (by assumption) | exact lv_at (by assumption) (by omega) | exact pt_gd (lv_at (by assumption) (by omega)) | exact (ask_ok (by assumption)).1 | exact (ask_ok (by assumption)).2.1 | exact (ask_ok (by assumption)).2.2.1 | exact (ask_ok (by assumption)).2.2.2 | trivial) : p := h
theorem stepCostY_ok (m : Mach) (c : Conf) (hm : vMach m = true) (hc : vConf m c = true) (hk : numOk m c = true) : Does Tryz.prog 260 [.agg (maC m),.agg (coC c)] [] (.tup [(false,[int (costC m c)]),(false,[int 0])]) [] := by
  have := stepCost_ok m c hm hc
  rw [hk] at this
  exact this
theorem stepCostN_ok (m : Mach) (c : Conf) (hm : vMach m = true) (hc : vConf m c = true) (hk : numOk m c = false) : Does Tryz.prog 260 [.agg (maC m),.agg (coC c)] [] (.tup [(false,[int 0]),(false,[int 5])]) [] := by
  have := stepCost_ok m c hm hc
  rw [hk] at this
  exact this
theorem costAddC_ok (s : Int) (f : Bool) (m : Mach) (c : Conf) (hm : vMach m = true) (hc : vConf m c = true) (h1 : 0 ≤ s) (h2 : s ≤ 100000000000000) : Does Tryz.prog 257 [.one (.gv 0),.one (ruD m c.st c.le.reverse c.ri.reverse)] [.bx [int s,boo f]] .any [csBx (cAdd m c ⟨s,f⟩)] := by
  have hb := at_bd hm hc
  have hcb := costC_bd hm hc
  cases hk : numOk m c
  · have e : cAdd m c ⟨s,f⟩ = ⟨s,true⟩ := by unfold cAdd; rw [hk]; rfl
    rw [e]
    cases f
    · skip
      refine does_of (k := 1) Tryz.func257 rfl Tryz.ntmps257 rfl rfl fun w F0 S0 ρ0 => ?_
      dsimp only [argT,argH]
      repeat' first|(apply p3;(first|exact pu1|exact a_add rfl rfl (by omega) (by omega));exact rfl)|refine cd ?_|(apply w3;(exact a_st_bx rfl rfl rfl rfl (fN rfl rfl) (Nat.le_of_ble_eq_true rfl) rfl);exact rfl;refine dS ?_)|refine o_no rfl rfl rfl rfl ?_|(apply py3;exact rfl;exact rfl;(first|exact pu1|exact a_ne rfl rfl);exact rfl;exact rfl)|(apply g_drN (id := 0) okM [[],[0],[0,1],[0,1,2],[],[4],[0,1,2,3,4,5],[0,1,2,3,4,5,6],[0,1,2,3,4,5,6,7],[0,1,2,3,4,5,6,7],[0,1,2,3,4,5,6,7,8],[0,1,2,3,4,5,6,7,8,9,10]] [([],[]),([],[]),([],[]),([],[]),([],[]),([],[]),([],[]),([],[]),([],[]),([],[]),([],[]),([],[])] 0;(focus (refine dp 0 0 [11,12] [] pu1 ?_;refine dp 1 1 [11,12] [] (a_pure (sv := .one _) rfl) ?_;refine dp 2 3 [11,12] [] (a_pure (sv := .one _) rfl) ?_;refine dp 3 7 [11,12] [] puL ?_;refine dp 4 0 [7,8,9,10] [] pu1 ?_;refine dp 5 1 [7,8,9,10] [] (callFD 0 (hD := (configC_ok _ _ preB271 preB271))) ?_;refine dp 6 63 [] [] (callD1 (n := _) 0 (θ := []) (hD := (stepCostN_ok m c hm hc hk))) ?_;refine dp 7 127 [] [] pu1 ?_;refine dp 8 255 [15] [] pu2 ?_;refine dp 9 510 [14,4] [] pu2 ?_;refine dp 10 1022 [15] [] pu1 ?_;refine dp 11 2047 [] [] pu1 ?_;(refine d_nil ?_;refine dN ?_)));any_goals kernel_rfl)|fail
      repeat refine cr ?_
      refine ends_id ?_
      refine endK [] (h2 := ?_) (h3 := ?_) (nd := ?_)
      all_goals (repeat' first|exact ce0|refine ce ?_|refine ce2 ?_ ?_|(refine Or.inr (bx_eq rfl rfl ?_);(try dsimp only [C.ren,C.ren.all]);(try exact rfl))|exact SVLe.refl|refine ceb ?_)
      all_goals first | exact (show nodupB _ = true from rfl) | exact Or.inr rfl | ((simp))
    · skip
      refine does_of (k := 1) Tryz.func257 rfl Tryz.ntmps257 rfl rfl fun w F0 S0 ρ0 => ?_
      dsimp only [argT,argH]
      repeat' first|(apply p3;(first|exact pu1|exact a_add rfl rfl (by omega) (by omega));exact rfl)|refine cd ?_|(apply w3;(exact a_st_bx rfl rfl rfl rfl (fN rfl rfl) (Nat.le_of_ble_eq_true rfl) rfl);exact rfl;refine dS ?_)|refine o_no rfl rfl rfl rfl ?_|(apply g_drN (id := 0) okM [[],[0],[0,1],[0,1,2],[],[4],[0,1,2,3,4,5],[0,1,2,3,4,5,6],[0,1,2,3,4,5,6,7],[0,1,2,3,4,5,6,7],[0,1,2,3,4,5,6,7,8],[0,1,2,3,4,5,6,7,8,9,10]] [([],[]),([],[]),([],[]),([],[]),([],[]),([],[]),([],[]),([],[]),([],[]),([],[]),([],[]),([],[])] 0;(focus (refine dp 0 0 [11,12] [] pu1 ?_;refine dp 1 1 [11,12] [] (a_pure (sv := .one _) rfl) ?_;refine dp 2 3 [11,12] [] (a_pure (sv := .one _) rfl) ?_;refine dp 3 7 [11,12] [] puL ?_;refine dp 4 0 [7,8,9,10] [] pu1 ?_;refine dp 5 1 [7,8,9,10] [] (callFD 0 (hD := (configC_ok _ _ preB271 preB271))) ?_;refine dp 6 63 [] [] (callD1 (n := _) 0 (θ := []) (hD := (stepCostN_ok m c hm hc hk))) ?_;refine dp 7 127 [] [] pu1 ?_;refine dp 8 255 [15] [] pu2 ?_;refine dp 9 510 [14,4] [] pu2 ?_;refine dp 10 1022 [15] [] pu1 ?_;refine dp 11 2047 [] [] pu1 ?_;(refine d_nil ?_;refine dN ?_)));any_goals kernel_rfl)|fail
      repeat refine cr ?_
      refine ends_id ?_
      refine endK [] (h2 := ?_) (h3 := ?_) (nd := ?_)
      all_goals (repeat' first|exact ce0|refine ce ?_|refine ce2 ?_ ?_|(refine Or.inr (bx_eq rfl rfl ?_);(try dsimp only [C.ren,C.ren.all]);(try exact rfl))|exact SVLe.refl|refine ceb ?_)
      all_goals first | exact (show nodupB _ = true from rfl) | exact Or.inr rfl | ((simp))
  · have e : cAdd m c ⟨s,f⟩ = ⟨s + costC m c,f || decide (s + costC m c > 1000000000000)⟩ := by unfold cAdd; rw [hk]; rfl
    rw [e]
    cases f
    · skip
      refine does_of (k := 1) Tryz.func257 rfl Tryz.ntmps257 rfl rfl fun w F0 S0 ρ0 => ?_
      dsimp only [argT,argH]
      repeat' first|(apply p3;(first|exact pu1|exact a_add rfl rfl (by omega) (by omega));exact rfl)|refine cd ?_|(apply w3;(exact a_st_bx rfl rfl rfl rfl (fN rfl rfl) (Nat.le_of_ble_eq_true rfl) rfl);exact rfl;refine dS ?_)|(apply py3;exact rfl;exact rfl;(first|exact pu1|exact a_ne rfl rfl|exact puC);exact rfl;exact rfl)|(apply g_drN (id := 0) okM [[],[0],[0,1],[0,1,2],[],[4],[0,1,2,3,4,5],[0,1,2,3,4,5,6],[0,1,2,3,4,5,6,7],[0,1,2,3,4,5,6,7],[0,1,2,3,4,5,6,7,8],[0,1,2,3,4,5,6,7,8,9,10]] [([],[]),([],[]),([],[]),([],[]),([],[]),([],[]),([],[]),([],[]),([],[]),([],[]),([],[]),([],[])] 0;(focus (refine dp 0 0 [11,12] [] pu1 ?_;refine dp 1 1 [11,12] [] (a_pure (sv := .one _) rfl) ?_;refine dp 2 3 [11,12] [] (a_pure (sv := .one _) rfl) ?_;refine dp 3 7 [11,12] [] puL ?_;refine dp 4 0 [7,8,9,10] [] pu1 ?_;refine dp 5 1 [7,8,9,10] [] (callFD 0 (hD := (configC_ok _ _ preB271 preB271))) ?_;refine dp 6 63 [] [] (by exact callD1 (n := _) 0 (θ := []) (hD := (stepCostY_ok m c hm hc hk))) ?_;refine dp 7 127 [] [] pu1 ?_;refine dp 8 255 [15] [] pu2 ?_;refine dp 9 510 [14,4] [] pu2 ?_;refine dp 10 1022 [15] [] pu1 ?_;refine dp 11 2047 [] [] pu1 ?_;(refine d_nil ?_;refine dN ?_)));any_goals kernel_rfl)|fail
      repeat refine cr ?_
      refine ends_id ?_
      refine endK [] (h2 := ?_) (h3 := ?_) (nd := ?_)
      all_goals (repeat' first|exact ce0|refine ce ?_|refine ce2 ?_ ?_|(refine Or.inr (bx_eq rfl rfl ?_);(try dsimp only [C.ren,C.ren.all]);(try exact rfl))|exact SVLe.refl|refine ceb ?_)
      all_goals first | exact (show nodupB _ = true from rfl) | exact Or.inr rfl | ((first | rfl | simp))
    · skip
      refine does_of (k := 1) Tryz.func257 rfl Tryz.ntmps257 rfl rfl fun w F0 S0 ρ0 => ?_
      dsimp only [argT,argH]
      repeat' first|(apply p3;(first|exact pu1|exact a_add rfl rfl (by omega) (by omega));exact rfl)|refine cd ?_|(apply w3;(exact a_st_bx rfl rfl rfl rfl (fN rfl rfl) (Nat.le_of_ble_eq_true rfl) rfl);exact rfl;refine dS ?_)|refine o_no rfl rfl rfl rfl ?_|(apply g_drN (id := 0) okM [[],[0],[0,1],[0,1,2],[],[4],[0,1,2,3,4,5],[0,1,2,3,4,5,6],[0,1,2,3,4,5,6,7],[0,1,2,3,4,5,6,7],[0,1,2,3,4,5,6,7,8],[0,1,2,3,4,5,6,7,8,9,10]] [([],[]),([],[]),([],[]),([],[]),([],[]),([],[]),([],[]),([],[]),([],[]),([],[]),([],[]),([],[])] 0;(focus (refine dp 0 0 [11,12] [] pu1 ?_;refine dp 1 1 [11,12] [] (a_pure (sv := .one _) rfl) ?_;refine dp 2 3 [11,12] [] (a_pure (sv := .one _) rfl) ?_;refine dp 3 7 [11,12] [] puL ?_;refine dp 4 0 [7,8,9,10] [] pu1 ?_;refine dp 5 1 [7,8,9,10] [] (callFD 0 (hD := (configC_ok _ _ preB271 preB271))) ?_;refine dp 6 63 [] [] (by exact callD1 (n := _) 0 (θ := []) (hD := (stepCostY_ok m c hm hc hk))) ?_;refine dp 7 127 [] [] pu1 ?_;refine dp 8 255 [15] [] pu2 ?_;refine dp 9 510 [14,4] [] pu2 ?_;refine dp 10 1022 [15] [] pu1 ?_;refine dp 11 2047 [] [] pu1 ?_;(refine d_nil ?_;refine dN ?_)));any_goals kernel_rfl)|fail
      repeat refine cr ?_
      refine ends_id ?_
      refine endK [] (h2 := ?_) (h3 := ?_) (nd := ?_)
      all_goals (repeat' first|exact ce0|refine ce ?_|refine ce2 ?_ ?_|(refine Or.inr (bx_eq rfl rfl ?_);(try dsimp only [C.ren,C.ren.all]);(try exact rfl))|exact SVLe.refl|refine ceb ?_)
      all_goals first | exact (show nodupB _ = true from rfl) | exact Or.inr rfl | ((first | rfl | simp))
theorem costAdd_ok (x : Cs) (m : Mach) (c : Conf) (hm : vMach m = true) (hc : vConf m c = true) (h1 : 0 ≤ x.s) (h2 : x.s ≤ 100000000000000) : Does Tryz.prog 257 [.one (.gv 0),.one (ruD m c.st c.le.reverse c.ri.reverse)] [csBx x] .any [csBx (cAdd m c x)] := costAddC_ok x.s x.f m c hm hc h1 h2
theorem costConfig_ok (x : Cs) (m : Mach) (c : Conf) (hd : Int) (hm : vMach m = true) (hc : vConf m c = true) (h1 : 0 ≤ x.s) (h2 : x.s ≤ 100000000000000) : Does Tryz.prog 258 [.one (.gv 0),.one (ruD m c.st c.le.reverse c.ri.reverse),.one (int hd)] [csBx x] .any [csBx (if ruAt m c = noR then cAdd m c x else x)] := by
  by_cases hn : ruAt m c = noR
  · rw [if_pos hn]
    refine does_of (k := 1) Tryz.func258 rfl Tryz.ntmps258 rfl rfl fun w F0 S0 ρ0 => ?_
    dsimp only [argT,argH]
    repeat' first|(apply p3;exact pu1;exact rfl)|refine cd ?_|(apply c4 0;exact callK1 (θ := []) (hD := (haltsC_ok _ _ preB271 preB271));exact rfl;exact rfl;exact rfl;refine dM ?_)|(apply c4 0;exact callK1 (θ := [_]) (hD := (costAdd_ok _ _ _ preB271 preB271 preB271 preB271));exact rfl;exact rfl;exact rfl;refine dM ?_)|((refine g_cond rfl (fun hc => ?_) (fun hc => ?_)) <;> (try simp only [dcB] at hc) <;> (try first|contradiction|(exfalso;omega)))|fail
    repeat refine cr ?_
    refine ends_id ?_
    refine endK [] (h2 := ?_) (h3 := ?_) (nd := ?_)
    all_goals (repeat' first|exact ce0|refine ce ?_|refine ce2 ?_ ?_|(refine Or.inr (bx_eq rfl rfl ?_);(try dsimp only [C.ren,C.ren.all]);(try exact rfl))|exact SVLe.refl|refine ceb ?_)
    all_goals first | exact (show nodupB _ = true from rfl) | exact Or.inr rfl | (rfl)
  · rw [if_neg hn]
    refine does_of (k := 1) Tryz.func258 rfl Tryz.ntmps258 rfl rfl fun w F0 S0 ρ0 => ?_
    dsimp only [argT,argH]
    repeat' first|(apply p3;exact pu1;exact rfl)|refine cd ?_|(apply c4 0;exact callK1 (θ := []) (hD := (haltsC_ok _ _ preB271 preB271));exact rfl;exact rfl;exact rfl;refine dM ?_)|((refine g_cond rfl (fun hc => ?_) (fun hc => ?_)) <;> (try simp only [dcB] at hc) <;> (try first|contradiction|(exfalso;omega)))|fail
    repeat refine cr ?_
    refine ends_id ?_
    refine endK [] (h2 := ?_) (h3 := ?_) (nd := ?_)
    all_goals (repeat' first|exact ce0|refine ce ?_|refine ce2 ?_ ?_|(refine Or.inr (bx_eq rfl rfl ?_);(try dsimp only [C.ren,C.ren.all]);(try exact rfl))|exact SVLe.refl|refine ceb ?_)
    all_goals first | exact (show nodupB _ = true from rfl) | exact Or.inr rfl | (rfl)
theorem costStep_ok (x : Cs) (m : Mach) (c : Conf) (hd : Int) (u : Rule') (hm : vMach m = true) (hc : vConf m c = true) (h1 : 0 ≤ x.s) (h2 : x.s ≤ 100000000000000) : Does Tryz.prog 259 [.one (.gv 0),.one (ruD m c.st c.le.reverse c.ri.reverse),.one (int hd),.agg (ruC u)] [csBx x] .any [csBx (cAdd m c x)] := by
  refine does_of (k := 1) Tryz.func259 rfl Tryz.ntmps259 rfl rfl fun w F0 S0 ρ0 => ?_
  dsimp only [argT,argH]
  repeat' first|(apply n3;exact a_new (gb := .bx _) rfl;exact rfl;refine dA ?_)|(apply p3;exact pu1;exact rfl)|refine cd ?_|(apply c4 0;exact callK1 (θ := [_]) (hD := (costAdd_ok _ _ _ preB271 preB271 preB271 preB271));exact rfl;exact rfl;exact rfl;refine dM ?_)|fail
  repeat refine cr ?_
  refine ends_id ?_
  refine endK [] (h2 := ?_) (h3 := ?_) (nd := ?_)
  all_goals (repeat' first|exact ce0|refine ce ?_|refine ce2 ?_ ?_|(refine Or.inr (bx_eq rfl rfl ?_);(try dsimp only [C.ren,C.ren.all]);(try exact rfl))|exact SVLe.refl|refine ceb ?_)
  all_goals first | exact (show nodupB _ = true from rfl) | exact Or.inr rfl | (rfl)
end Go.Proofs.YtegpggobfdcafaaGreat
end
section
set_option linter.unusedVariables false
set_option linter.unusedSimpArgs false
set_option maxRecDepth 100000
set_option maxHeartbeats 4000000
namespace Go.Proofs.YtegpggobfdcafaaGreat
open Go Foot Go.RowKit
@[irreducible] def ccC (m : Mach) (c : Conf) (hd : Int) (x : Cs) : Cs := if ruAt m c = noR then cAdd m c x else x
@[irreducible] def ccS (m : Mach) (c : Conf) (hd : Int) (u : Rule') (x : Cs) : Cs := cAdd m c x
theorem cAdd_bd {m : Mach} {c : Conf} (hm : vMach m = true) (hc : vConf m c = true) (x : Cs) : x.s ≤ (cAdd m c x).s ∧ (cAdd m c x).s ≤ x.s + 100000000 := by
  have := costC_bd hm hc
  unfold cAdd
  split <;> dsimp only <;> omega
theorem ccC_eq (m : Mach) (c : Conf) (hd : Int) (x : Cs) : ccC m c hd x = if ruAt m c = noR then cAdd m c x else x := by unfold ccC; rfl
theorem preB272 {p : Prop} (h : p := by first | with_reducible assumption | omega | (simp only [List.length_append,List.length_cons,List.length_nil,List.length_set,List.length_replicate,List.length_take,List.length_drop,List.length_tail,List.length_dropLast,List.length_reverse] at *; omega) | exact mem_len (by assumption) (by omega) | (with_reducible refine Int.le_trans (Int.ofNat_le.2 (trimR_len _)) ?_; simp only [List.length_cons,List.length_tail]; omega) | (exact (ruAt_ok (by assumption) (by assumption) (by assumption)).2.1) | (exact (ruAt_ok (by assumption) (by assumption) (by assumption)).2.1) | (have := vMach_bd (by assumption); omega) | (simp only [List.length_append,List.length_cons,List.length_nil,repW_len,seN_len] at *; omega) | (simp only [mC_ch,mC_tu]; omega) | (have := vTag_bd (by assumption); omega) | (have := (‹Gd _ _›).le; omega) | (exact tgHalts_no (by assumption)) | (exact tgHead (by assumption) (by assumption) (by assumption)) | (exact Int.le_trans (tgStep_gd (by assumption) (by assumption) (by assumption) (by assumption)).le (by decide)) | (exact vTag_r (by assumption)) | (with_reducible refine Int.le_trans (Int.ofNat_le.2 (pushL_len _ _)) ?_; simp only [List.length_dropLast]; omega) | exact ls_at (by assumption) (by omega) | exact pt_gd (by assumption) | exact lv_at (by assumption) (by omega) | exact pt_gd (lv_at (by assumption) (by omega)) | exact (ask_ok (by assumption)).1 | exact (ask_ok (by assumption)).2.1 | exact (ask_ok (by assumption)).2.2.1 | exact (ask_ok (by assumption)).2.2.2 | trivial) : p := h
theorem costConfigC_ok (x : Cs) (m : Mach) (c : Conf) (hd : Int) (hm : vMach m = true) (hc : vConf m c = true) (h1 : 0 ≤ x.s) (h2 : x.s ≤ 100000000000000) : Does Tryz.prog 258 [.one (.gv 0),.one (ruD m c.st c.le.reverse c.ri.reverse),.one (int hd)] [csBx x] .any [csBx (ccC m c hd x)] := by
  rw [ccC_eq]
  exact costConfig_ok x m c hd hm hc h1 h2
theorem costStepC_ok (x : Cs) (m : Mach) (c : Conf) (hd : Int) (u : Rule') (hm : vMach m = true) (hc : vConf m c = true) (h1 : 0 ≤ x.s) (h2 : x.s ≤ 100000000000000) : Does Tryz.prog 259 [.one (.gv 0),.one (ruD m c.st c.le.reverse c.ri.reverse),.one (int hd),.agg (ruC u)] [csBx x] .any [csBx (ccS m c hd u x)] := by
  have e : ccS m c hd u x = cAdd m c x := by unfold ccS; rfl
  rw [e]
  exact costStep_ok x m c hd u hm hc h1 h2
theorem followK_ok (m : Mach) (c : Conf) (b : Int) (hm : vMach m = true) (hc : vConf m c = true) (hb : 1 ≤ b) (hb2 : b ≤ 20000) (O : Out Cs) (hO : runG m (ccC m) (ccS m) b.toNat 0 c 0 ⟨0,false⟩ = O) : Does Tryz.prog 43 [.agg (maC m),.agg (coC c),.one (int b),.one (.ifc 78 false [.gv 0])] [csBx ⟨0,false⟩] (.tup [(false,[int (if O.full then 0 else O.n)]),(false,[boo O.halts]),(false,[int (if O.full then 5 else 0)])]) [csBx O.x] := by
  have hbd := at_bd hm hc
  refine does_of (k := 1) Tryz.func43 rfl Tryz.ntmps43 rfl rfl fun w F0 S0 ρ0 => ?_
  dsimp only [argT,argH]
  repeat' first|(apply n3;exact a_new (gb := .bx _) rfl;exact rfl;refine dA ?_)|(apply p3;(exact pu1);exact rfl)|refine cd ?_|(apply c4 3;exact callK0 (θ := []) (hD := (runnerOf_ok _ _ preB272 preB272));exact rfl;exact rfl;exact rfl;refine dM ?_)|fail
  refine g_loop_id ?_
  refine loopK [2,3,8,9,10,11] [0,3,4,5] (fun y : Int × Conf × Int × Cs => 0 ≤ y.1 ∧ y.1 ≤ b ∧ vConf m y.2.1 = true ∧ -y.1 ≤ y.2.2.1 ∧ y.2.2.1 ≤ y.1 ∧ 0 ≤ y.2.2.2.s ∧ y.2.2.2.s ≤ 200000000 * y.1 ∧ runG m (ccC m) (ccS m) (b - y.1).toNat y.1 y.2.1 y.2.2.1 y.2.2.2 = O) (fun y => [(13,.one (int y.1)),(12,.one (int y.2.2.1))]) (fun y => [(3,ruBx m y.2.1.st 4 5),(4,roI y.2.1.le.reverse),(5,roI y.2.1.ri.reverse),(0,csBx y.2.2.2)]) (fun y => (b - y.1).toNat) ((0 : Int),c,(0 : Int),(⟨0,false⟩ : Cs)) [0,1,2,3,4,5] (hI := ?_) (hr := ?_)
  · exact ⟨by simp,by dsimp only; omega,hc,by simp,by simp,by simp,by simp,by rw [← hO]; congr 1; dsimp only; omega⟩
  · rintro ⟨n,c,hd,x⟩ ⟨i1,i2,i3,i4,i5,i6,i7,i10⟩
    dsimp only [List.cons_append,List.nil_append] at *
    skip
    have hbd := at_bd hm i3; have hok := ruAt_ok hm i3; have hx1 := cAdd_bd hm i3 x; have hx2 := cAdd_bd hm i3 (ccC m c hd x); have hx3 := ccC_eq m c hd x; have hx4 : 0 ≤ (ccC m c hd x).s ∧ (ccC m c hd x).s ≤ 100000000000000 := (by rw [hx3]; split <;> omega)
    repeat' first|(apply n3;exact a_new (gb := .bx _) rfl;exact rfl;refine dA ?_)|(apply p3;(first|exact pu1|exact puC);exact rfl)|refine cd ?_|(apply w3;(exact a_st_bx rfl rfl rfl rfl (fN rfl rfl) (Nat.le_of_ble_eq_true rfl) rfl);exact rfl;refine dS ?_)|(apply c4 0;exact callM (dst := some 23) (θ := [_]) (hD := (costConfigC_ok _ _ _ _ preB272 preB272 preB272 preB272));exact rfl;exact rfl;exact rfl;refine dM ?_)|(apply c4 0;exact callK1 (θ := []) (hD := (haltsC_ok _ _ preB272 preB272));exact rfl;exact rfl;exact rfl;refine dM ?_)|(apply c4 0;exact callK1 (θ := []) (hD := (ruleC_ok _ _ preB272 preB272));exact rfl;exact rfl;exact rfl;refine dM ?_)|(apply c4 0;exact callM (dst := some 40) (θ := [_]) (hD := (costStepC_ok _ _ _ _ _ preB272 preB272 preB272 preB272));exact rfl;exact rfl;exact rfl;refine dM ?_)|(apply c4 2;exact callK0 (θ := [_,_,_]) (hD := (stepC_ok _ _ preB272 preB272));exact rfl;exact rfl;exact rfl;refine dM ?_)|refine o_no rfl rfl rfl rfl ?_|(apply py3;exact rfl;exact rfl;(exact pu1);exact rfl;exact rfl)|(apply cy4 0;exact rfl;exact rfl;exact callK1 (θ := []) (hD := (haltsC_ok _ _ preB272 preB272));exact rfl;exact rfl;exact rfl;exact rfl;refine dM ?_)|((first|refine o_gs rfl rfl (fun hc => ?_) (fun hc => ?_)|refine g_cond rfl (fun hc => ?_) (fun hc => ?_)) <;> (try simp only [dcB] at hc) <;> (try first|contradiction|(exfalso;omega)))|fail
    · by_cases hr : ruAt m c = noR
      · obtain rfl := run_halt hr i10
        repeat refine cr ?_
        refine ends_id ?_
        refine endK [] (h2 := ?_) (h3 := ?_) (nd := ?_)
        all_goals (repeat' first|exact ce0|refine ce ?_|refine ce2 ?_ ?_|(refine Or.inr (bx_eq rfl rfl ?_);(try dsimp only [C.ren,C.ren.all]);(try exact rfl))|exact SVLe.refl|refine ceb ?_)
        all_goals first | exact (show nodupB _ = true from rfl) | exact Or.inr rfl | (simp [hr])
      · obtain rfl := run_end hr hc i10
        repeat refine cr ?_
        refine ends_id ?_
        refine endK [] (h2 := ?_) (h3 := ?_) (nd := ?_)
        all_goals (repeat' first|exact ce0|refine ce ?_|refine ce2 ?_ ?_|(refine Or.inr (bx_eq rfl rfl ?_);(try dsimp only [C.ren,C.ren.all]);(try exact rfl))|exact SVLe.refl|refine ceb ?_)
        all_goals first | exact (show nodupB _ = true from rfl) | exact Or.inr rfl | (simp [hr])
    · obtain rfl := run_halt hc i10
      repeat refine cr ?_
      refine ends_id ?_
      refine endK [] (h2 := ?_) (h3 := ?_) (nd := ?_)
      all_goals (repeat' first|exact ce0|refine ce ?_|refine ce2 ?_ ?_|(refine Or.inr (bx_eq rfl rfl ?_);(try dsimp only [C.ren,C.ren.all]);(try exact rfl))|exact SVLe.refl|refine ceb ?_)
      all_goals first | exact (show nodupB _ = true from rfl) | exact Or.inr rfl | (simp [hc])
    · rename_i hn hr
      obtain rfl := run_full hr (by omega) hc i10
      repeat refine cr ?_
      refine ends_id ?_
      refine endK [] (h2 := ?_) (h3 := ?_) (nd := ?_)
      all_goals (repeat' first|exact ce0|refine ce ?_|refine ce2 ?_ ?_|(refine Or.inr (bx_eq rfl rfl ?_);(try dsimp only [C.ren,C.ren.all]);(try exact rfl))|exact SVLe.refl|refine ceb ?_)
      all_goals first | exact (show nodupB _ = true from rfl) | exact Or.inr rfl | (simp)
    · rename_i hn hr
      have hok := hok hr
      repeat' first|(apply p3;(first|exact pu1|exact a_add rfl rfl (by omega) (by omega));exact rfl)|refine cd ?_|fail
      refine q_again (n + 1,stepS (ruAt m c) c,hd + (ruAt m c).m,ccS m c hd (ruAt m c) (ccC m c hd x)) [0,1,2,3,7,8] (by exact stk) ?_ ?_
      · have hcs : ccS m c hd (ruAt m c) (ccC m c hd x) = cAdd m c x := by rw [hx3,if_neg hr]; unfold ccS; rfl
        exact ⟨by dsimp only; omega,by dsimp only; omega,stepS_ok hm i3 hr hc,by dsimp only; omega,by dsimp only; omega,by dsimp only; rw [hcs]; omega,by dsimp only; rw [hcs]; omega,run_next hr (by omega) hc i10⟩
      · dsimp only; omega
@[irreducible] def rcO (m : Mach) (c : Conf) (b : Int) : Out Cs := runG m (ccC m) (ccS m) b.toNat 0 c 0 ⟨0,false⟩
@[irreducible] def rcBad (m : Mach) (c : Conf) (b : Int) : Bool := (rcO m c b).full || (rcO m c b).x.f
@[irreducible] def rcV (m : Mach) (c : Conf) (b : Int) : Int := if askC m c b = 0 ∧ mtpC m = 0 ∧ rcBad m c b = false then (rcO m c b).x.s else 0
@[irreducible] def rcH (m : Mach) (c : Conf) (b : Int) : Bool := if askC m c b = 0 ∧ mtpC m = 0 ∧ rcBad m c b = false then (rcO m c b).halts else false
@[irreducible] def rcC (m : Mach) (c : Conf) (b : Int) : Int := if askC m c b = 0 then if mtpC m = 0 then if rcBad m c b then 5 else 0 else mtpC m else askC m c b
theorem followKA_ok (m : Mach) (c : Conf) (b : Int) (ha : askC m c b = 0) : Does Tryz.prog 43 [.agg (maC m),.agg (coC c),.one (int b),.one (.ifc 78 false [.gv 0])] [csBx ⟨0,false⟩] (.tup [(false,[int (if (rcO m c b).full then 0 else (rcO m c b).n)]),(false,[boo (rcO m c b).halts]),(false,[int (if (rcO m c b).full then 5 else 0)])]) [csBx (rcO m c b).x] := by
  obtain ⟨h3,h4,h5,h6⟩ := ask_ok ha
  exact followK_ok m c b h3 h4 h5 h6 _ (by unfold rcO; rfl)
theorem rc_bad {m : Mach} {c : Conf} {b : Int} (ha : askC m c b = 0) (hp : mtpC m = 0) (h : rcBad m c b = true) : rcV m c b = 0 ∧ rcH m c b = false ∧ rcC m c b = 5 := by
  have hn : ¬ (askC m c b = 0 ∧ mtpC m = 0 ∧ rcBad m c b = false) := fun q => by rw [h] at q; cases q.2.2
  unfold rcV rcH rcC
  rw [if_neg hn,if_neg hn,if_pos ha,if_pos hp,if_pos h]
  exact ⟨rfl,rfl,rfl⟩
theorem rc_good {m : Mach} {c : Conf} {b : Int} (ha : askC m c b = 0) (hp : mtpC m = 0) (h : rcBad m c b = false) : rcV m c b = (rcO m c b).x.s ∧ rcH m c b = (rcO m c b).halts ∧ rcC m c b = 0 := by
  have hn : askC m c b = 0 ∧ mtpC m = 0 ∧ rcBad m c b = false := ⟨ha,hp,h⟩
  unfold rcV rcH rcC
  rw [if_pos hn,if_pos hn,if_pos ha,if_pos hp,h]
  exact ⟨rfl,rfl,rfl⟩
theorem iRunCost_ok (m : Mach) (c : Conf) (b : Int) (hm : (m.ru.length : Int) ≤ 16777216) (hx : (c.le.length : Int) ≤ 16777216) (hy : (c.ri.length : Int) ≤ 16777216) : Does Tryz.prog 12 [.agg (maC m),.agg (coC c),.one (int b)] [] (.tup [(false,[int (rcV m c b)]),(false,[boo (rcH m c b)]),(false,[int (rcC m c b)])]) [] := by
  by_cases ha : askC m c b = 0
  · obtain ⟨h1,h2,h3,h4⟩ := ask_ok ha
    by_cases hp : mtpC m = 0
    · have hbad : rcBad m c b = ((rcO m c b).full || (rcO m c b).x.f) := by unfold rcBad; rfl
      refine does_of (k := 0) Tryz.func12 rfl Tryz.ntmps12 rfl rfl fun w F0 S0 ρ0 => ?_
      dsimp only [argT,argH]
      repeat' first|(apply n3;exact a_new (gb := .bx _) rfl;exact rfl;refine dA ?_)|(apply p3;(first|exact pu1|exact a_ne rfl rfl);exact rfl)|refine cd ?_|(apply c4 0;exact callK1 (θ := []) (hD := (runCode_ok _ _ _ preB272 preB272 preB272));exact rfl;exact rfl;exact rfl;refine dM ?_)|(apply c4 2;exact callK1 (θ := []) (hD := (machineToProgram_ok _ preB272));exact rfl;exact rfl;exact rfl;refine dM ?_)|(apply c4 0;exact callK1 (θ := [_]) (hD := (followKA_ok _ _ _ preB272));exact rfl;exact rfl;exact rfl;refine dM ?_)|refine o_no rfl rfl rfl rfl ?_|(apply py3;exact rfl;exact rfl;(exact pu1);exact rfl;exact rfl)|((first|refine o_gs rfl rfl (fun hc => ?_) (fun hc => ?_)|refine g_cond rfl (fun hc => ?_) (fun hc => ?_)) <;> (try simp only [dcB] at hc) <;> (try first|contradiction|(exfalso;omega)))|fail
      · have hf : (rcO m c b).full = true := by cases h : (rcO m c b).full with | true => rfl | false => (rw [h] at hc; exact absurd rfl hc)
        obtain ⟨e1,e2,e3⟩ := rc_bad ha hp (by rw [hbad,hf]; rfl)
        rw [e1,e2,e3]
        repeat refine cr ?_
        refine ends_id ?_
        refine endK [] (h2 := ?_) (h3 := ?_) (nd := ?_)
        all_goals (repeat' first|exact ce0|refine ce ?_|refine ce2 ?_ ?_|exact SVLe.refl|refine ceb ?_)
        all_goals first | exact (show nodupB _ = true from rfl) | exact Or.inr rfl | (rfl)
      · rename_i hf
        obtain ⟨e1,e2,e3⟩ := rc_bad ha hp (by rw [hbad,hc,Bool.or_true])
        rw [e1,e2,e3]
        repeat refine cr ?_
        refine ends_id ?_
        refine endK [] (h2 := ?_) (h3 := ?_) (nd := ?_)
        all_goals (repeat' first|exact ce0|refine ce ?_|refine ce2 ?_ ?_|exact SVLe.refl|refine ceb ?_)
        all_goals first | exact (show nodupB _ = true from rfl) | exact Or.inr rfl | (rfl)
      · rename_i hf
        have hf' : (rcO m c b).full = false := by cases h : (rcO m c b).full with | false => rfl | true => (rw [h] at hf; exact absurd hf (by decide))
        obtain ⟨e1,e2,e3⟩ := rc_good ha hp (by rw [hbad,hc,hf']; rfl)
        rw [e1,e2,e3]
        repeat refine cr ?_
        refine ends_id ?_
        refine endK [] (h2 := ?_) (h3 := ?_) (nd := ?_)
        all_goals (repeat' first|exact ce0|refine ce ?_|refine ce2 ?_ ?_|exact SVLe.refl|refine ceb ?_)
        all_goals first | exact (show nodupB _ = true from rfl) | exact Or.inr rfl | (rfl)
    · have e1 : rcV m c b = 0 := by unfold rcV; rw [if_neg (fun h => hp h.2.1)]
      have e2 : rcH m c b = false := by unfold rcH; rw [if_neg (fun h => hp h.2.1)]
      have e3 : rcC m c b = mtpC m := by unfold rcC; rw [if_pos ha,if_neg hp]
      rw [e1,e2,e3]
      refine does_of (k := 0) Tryz.func12 rfl Tryz.ntmps12 rfl rfl fun w F0 S0 ρ0 => ?_
      dsimp only [argT,argH]
      repeat' first|(apply n3;exact a_new (gb := .bx _) rfl;exact rfl;refine dA ?_)|(apply p3;(first|exact pu1|exact a_ne rfl rfl);exact rfl)|refine cd ?_|(apply c4 0;exact callK1 (θ := []) (hD := (runCode_ok _ _ _ preB272 preB272 preB272));exact rfl;exact rfl;exact rfl;refine dM ?_)|(apply c4 2;exact callK1 (θ := []) (hD := (machineToProgram_ok _ preB272));exact rfl;exact rfl;exact rfl;refine dM ?_)|((refine g_cond rfl (fun hc => ?_) (fun hc => ?_)) <;> (try simp only [dcB] at hc) <;> (try first|contradiction|(exfalso;omega)))|fail
      repeat refine cr ?_
      refine ends_id ?_
      refine endK [] (h2 := ?_) (h3 := ?_) (nd := ?_)
      all_goals (repeat' first|exact ce0|refine ce ?_|refine ce2 ?_ ?_|exact SVLe.refl|refine ceb ?_)
      all_goals first | exact (show nodupB _ = true from rfl) | exact Or.inr rfl | (rfl)
  · have e1 : rcV m c b = 0 := by unfold rcV; rw [if_neg (fun h => ha h.1)]
    have e2 : rcH m c b = false := by unfold rcH; rw [if_neg (fun h => ha h.1)]
    have e3 : rcC m c b = askC m c b := by unfold rcC; rw [if_neg ha]
    rw [e1,e2,e3]
    refine does_of (k := 0) Tryz.func12 rfl Tryz.ntmps12 rfl rfl fun w F0 S0 ρ0 => ?_
    dsimp only [argT,argH]
    repeat' first|(apply n3;exact a_new (gb := .bx _) rfl;exact rfl;refine dA ?_)|(apply p3;(first|exact pu1|exact a_ne rfl rfl);exact rfl)|refine cd ?_|(apply c4 0;exact callK1 (θ := []) (hD := (runCode_ok _ _ _ preB272 preB272 preB272));exact rfl;exact rfl;exact rfl;refine dM ?_)|((refine g_cond rfl (fun hc => ?_) (fun hc => ?_)) <;> (try simp only [dcB] at hc) <;> (try first|contradiction|(exfalso;omega)))|fail
    repeat refine cr ?_
    refine ends_id ?_
    refine endK [] (h2 := ?_) (h3 := ?_) (nd := ?_)
    all_goals (repeat' first|exact ce0|refine ce ?_|refine ce2 ?_ ?_|exact SVLe.refl|refine ceb ?_)
    all_goals first | exact (show nodupB _ = true from rfl) | exact Or.inr rfl | (rfl)
structure RcI (m : Mach) (b n : Int) (c : Conf) (u : Int) (O : Out Cs) : Prop where
  n0 : 0 ≤ n
  nb : n ≤ b
  vc : vConf m c = true
  u0 : 0 ≤ u
  u1 : u ≤ 1000000000000
  run : ∃ hd,runG m (ccC m) (ccS m) (b - n).toNat n c hd ⟨u,false⟩ = O
theorem rc_sticky {m : Mach} : ∀ (k : Nat) (n : Int) (c : Conf) (hd : Int) (x : Cs),x.f = true → (runG m (ccC m) (ccS m) k n c hd x).x.f = true := by
  have hA : ∀ c (x : Cs),x.f = true → (cAdd m c x).f = true := fun c x h => by unfold cAdd; split <;> simp [h]
  have hC : ∀ c hd (x : Cs),x.f = true → (ccC m c hd x).f = true := fun c hd x h => by unfold ccC; split; exact hA c x h; exact h
  have hS : ∀ c hd u (x : Cs),x.f = true → (ccS m c hd u x).f = true := fun c hd u x h => by unfold ccS; exact hA c x h
  intro k
  induction k with
  | zero =>
    intro n c hd x h
    unfold runG
    split <;> exact hC _ _ _ h
  | succ k ih =>
    intro n c hd x h
    unfold runG
    split
    · exact hC _ _ _ h
    · dsimp only
      split
      · exact ih _ _ _ _ (hS _ _ _ _ (hC _ _ _ h))
      · exact hS _ _ _ _ (hC _ _ _ h)
section
variable {m : Mach} {b n u : Int} {c : Conf} {O : Out Cs}
theorem cAdd_no (h : numOk m c = false) : (cAdd m c ⟨u,false⟩).f = true := by unfold cAdd; rw [h]; rfl
theorem cAdd_big (h : numOk m c = true) (hb : u + costC m c > 1000000000000) : (cAdd m c ⟨u,false⟩).f = true := by unfold cAdd; rw [h]; simp [hb]
theorem cAdd_fit (h : numOk m c = true) (hb : ¬ u + costC m c > 1000000000000) : cAdd m c ⟨u,false⟩ = ⟨u + costC m c,false⟩ := by unfold cAdd; rw [h]; simp [hb]
theorem rc_halt (h : RcI m b n c u O) (hr : ruAt m c = noR) : O.full = false ∧ O.halts = true ∧ O.x = cAdd m c ⟨u,false⟩ := by
  obtain ⟨hd,hO⟩ := h.run
  obtain rfl := run_halt hr hO
  exact ⟨rfl,rfl,by rw [ccC_eq,if_pos hr]⟩
theorem rc_end (h : RcI m b n c u O) (hr : ¬ ruAt m c = noR) (hn : n = b) : O.full = false ∧ O.halts = false ∧ O.x = ⟨u,false⟩ := by
  obtain ⟨hd,hO⟩ := h.run
  obtain rfl := run_end hr hn hO
  exact ⟨rfl,rfl,by rw [ccC_eq,if_neg hr]⟩
theorem rc_full (h : RcI m b n c u O) (hr : ¬ ruAt m c = noR) (hn : n < b) (hs : roomS (stepS (ruAt m c) c) = false) : O.full = true := by
  obtain ⟨hd,hO⟩ := h.run
  obtain rfl := run_full hr hn hs hO
  rfl
theorem rc_next (h : RcI m b n c u O) (hr : ¬ ruAt m c = noR) (hn : n < b) (hs : roomS (stepS (ruAt m c) c) = true) : ∃ hd,runG m (ccC m) (ccS m) (b - (n + 1)).toNat (n + 1) (stepS (ruAt m c) c) hd (cAdd m c ⟨u,false⟩) = O := by
  obtain ⟨hd,hO⟩ := h.run
  have := run_next hr hn hs hO
  rw [ccC_eq,if_neg hr,show ccS m c hd (ruAt m c) ⟨u,false⟩ = cAdd m c ⟨u,false⟩ by unfold ccS; rfl] at this
  exact ⟨_,this⟩
theorem rc_over (h : RcI m b n c u O) (hf : (cAdd m c ⟨u,false⟩).f = true) (hn : ruAt m c = noR ∨ n < b) : (O.full || O.x.f) = true := by
  by_cases hr : ruAt m c = noR
  · obtain ⟨_,_,e⟩ := rc_halt h hr
    rw [e,hf,Bool.or_true]
  · have hn' := hn.resolve_left hr
    cases hs : roomS (stepS (ruAt m c) c) with
    | false => rw [rc_full h hr hn' hs]; rfl
    | true =>
      obtain ⟨hd,e⟩ := rc_next h hr hn' hs
      rw [← e,rc_sticky _ _ _ _ _ hf,Bool.or_true]
theorem rcI_next (h : RcI m b n c u O) (hm : vMach m = true) (hr : ¬ ruAt m c = noR) (hn : n < b) (hs : roomS (stepS (ruAt m c) c) = true) (hk : numOk m c = true) (hb : ¬ u + costC m c > 1000000000000) : RcI m b (n + 1) (stepS (ruAt m c) c) (u + costC m c) O := by
  have hcb := costC_bd hm h.vc
  have := rc_next h hr hn hs
  rw [cAdd_fit hk hb] at this
  have h0 := h.n0
  have h1 := h.u0
  exact ⟨by omega,by omega,stepS_ok hm h.vc hr hs,by omega,by omega,this⟩
end
theorem sRunCost_ok (m : Mach) (c : Conf) (b : Int) (hm : (m.ru.length : Int) ≤ 16777216) (hx : (c.le.length : Int) ≤ 16777216) (hy : (c.ri.length : Int) ≤ 16777216) : Does Tryz.prog 9 [.agg (maC m),.agg (coC c),.one (int b)] [] (.tup [(false,[int (rcV m c b)]),(false,[boo (rcH m c b)]),(false,[int (rcC m c b)])]) [] := by
  by_cases ha : askC m c b = 0
  · obtain ⟨h1,h2,h3,h4⟩ := ask_ok ha
    have hat := mtpC_at h1
    by_cases hp : mtpC m = 0
    · have hat2 : atZ m m.st.toNat ≤ 400 := by rw [hat] at hp; split at hp <;> first | assumption | omega
      have hbad : rcBad m c b = ((rcO m c b).full || (rcO m c b).x.f) := by unfold rcBad; rfl
      have hstart : RcI m b 0 c 0 (rcO m c b) := ⟨by omega,by omega,h2,by omega,by omega,0,by unfold rcO; rw [show b - 0 = b by omega]⟩
      generalize hO : rcO m c b = O at hstart hbad
      have hlo : ∀ {y : Conf},vConf m y = true → (y.le.length : Int) ≤ 200 ∧ (y.ri.length : Int) ≤ 200 := fun hv => by have := at_bd h1 hv; omega
      refine does_of (k := 0) Tryz.func9 rfl Tryz.ntmps9 rfl rfl fun w F0 S0 ρ0 => ?_
      dsimp only [argT,argH]
      repeat' first|(apply n3;exact a_new (gb := .bx _) rfl;exact rfl;refine dA ?_)|(apply p3;(first|exact pu1|exact a_ne rfl rfl);exact rfl)|refine cd ?_|(apply w3;(exact a_st_bx rfl rfl rfl rfl (fN rfl rfl) (Nat.le_of_ble_eq_true rfl) rfl);exact rfl;refine dS ?_)|(apply c4 0;exact callK1 (θ := []) (hD := (l20Ask_ok _ _ _ preB272 preB272 preB272));exact rfl;exact rfl;exact rfl;refine dM ?_)|(apply c4 0;exact callK1 (θ := []) (hD := (l20Fits_ok _ preB272));exact rfl;exact rfl;exact rfl;refine dM ?_)|(apply c4 2;exact callK1 (θ := []) (hD := (l05OwnConfig_ok _ preB272 preB272));exact rfl;exact rfl;exact rfl;refine dM ?_)|((refine g_cond rfl (fun hc => ?_) (fun hc => ?_)) <;> (try simp only [dcB] at hc) <;> (try first|contradiction|(exfalso;omega)))|fail
      refine g_loop_id ?_
      refine loopK [2,3,6,7,8,11] [2,3,4] (fun y : Int × Conf × Int => RcI m b y.1 y.2.1 y.2.2 O) (fun y => [(12,.one (int y.1)),(10,.one (int y.2.2))]) (fun y => [(2,roI y.2.1.le),(3,roI y.2.1.ri),(4,.bx [int y.2.1.st,.gv 2,.gv 3])]) (fun y => (b - y.1).toNat) ((0 : Int),c,(0 : Int)) [0,1,2,3,4] (hI := ?_) (hr := ?_)
      · exact hstart
      · rintro ⟨n,d,u⟩ h5
        dsimp only [List.cons_append,List.nil_append] at *
        skip
        repeat' first|refine cdn ?_|fail
        have hvd := h5.vc
        have hld := hlo hvd
        have hn0 := h5.n0
        have hnb := h5.nb
        have hu0 := h5.u0
        have hu1 := h5.u1
        have hcb := costC_bd h1 hvd
        have hvv := fun (q : rcBad m c b = false) => rc_good ha hp q
        rw [hO] at hvv
        by_cases hr : ruAt m d = noR
        · cases hk : numOk m d
          · obtain ⟨e1,e2,e3⟩ := rc_bad (b := b) ha hp (by rw [hbad]; exact rc_over h5 (cAdd_no hk) (.inl hr))
            rw [e1,e2,e3]
            repeat' first|(apply p3;(first|exact pu1|exact puC|exact a_add rfl rfl (by omega) (by omega));exact rfl)|refine cd ?_|(apply c4 0;exact callK1 (θ := []) (hD := (l05HaltsC_ok _ _ preB272 preB272));exact rfl;exact rfl;exact rfl;refine dM ?_)|(apply c4 0;exact callK1 (θ := []) (hD := (l20Numbers_ok _ _ preB272 preB272));exact rfl;exact rfl;exact rfl;refine dM ?_)|(apply c4 0;exact callK1 (θ := []) (hD := (l20Cost_ok _ _ preB272 preB272 preB272));exact rfl;exact rfl;exact rfl;refine dM ?_)|refine o_no rfl rfl rfl rfl ?_|(apply py3;exact rfl;exact rfl;(exact pu1);exact rfl;exact rfl)|((first|refine o_gs rfl rfl (fun hc => ?_) (fun hc => ?_)|refine g_cond rfl (fun hc => ?_) (fun hc => ?_)) <;> (try simp only [dcB] at hc) <;> (try first|contradiction|(exfalso;omega)))|fail
            all_goals first | (exfalso; exact Bool.noConfusion (hk.symm.trans (by assumption : numOk m d = true))) | (exfalso; exact Bool.noConfusion ((by assumption : numOk m d = false).symm.trans hk)) | (exfalso; exact Bool.noConfusion (hro.symm.trans (by assumption : roomS (stepS (ruAt m d) d) = true))) | skip
            all_goals
              repeat refine cr ?_
              refine ends_id ?_
              refine endK [] (h2 := ?_) (h3 := ?_) (nd := ?_)
              all_goals (repeat' first|exact ce0|refine ce ?_|refine ce2 ?_ ?_|exact SVLe.refl|refine ceb ?_)
              all_goals first | exact (show nodupB _ = true from rfl) | exact Or.inr rfl | (rfl)
          · by_cases hbg : u + costC m d > 1000000000000
            · obtain ⟨e1,e2,e3⟩ := rc_bad (b := b) ha hp (by rw [hbad]; exact rc_over h5 (cAdd_big hk hbg) (.inl hr))
              rw [e1,e2,e3]
              repeat' first|(apply p3;(first|exact pu1|exact puC|exact a_add rfl rfl (by omega) (by omega));exact rfl)|refine cd ?_|(apply c4 0;exact callK1 (θ := []) (hD := (l05HaltsC_ok _ _ preB272 preB272));exact rfl;exact rfl;exact rfl;refine dM ?_)|(apply c4 0;exact callK1 (θ := []) (hD := (l20Numbers_ok _ _ preB272 preB272));exact rfl;exact rfl;exact rfl;refine dM ?_)|(apply c4 0;exact callK1 (θ := []) (hD := (l20Cost_ok _ _ preB272 preB272 preB272));exact rfl;exact rfl;exact rfl;refine dM ?_)|refine o_no rfl rfl rfl rfl ?_|(apply py3;exact rfl;exact rfl;(exact pu1);exact rfl;exact rfl)|((first|refine o_gs rfl rfl (fun hc => ?_) (fun hc => ?_)|refine g_cond rfl (fun hc => ?_) (fun hc => ?_)) <;> (try simp only [dcB] at hc) <;> (try first|contradiction|(exfalso;omega)))|fail
              all_goals first | (exfalso; exact Bool.noConfusion (hk.symm.trans (by assumption : numOk m d = true))) | (exfalso; exact Bool.noConfusion ((by assumption : numOk m d = false).symm.trans hk)) | (exfalso; exact Bool.noConfusion (hro.symm.trans (by assumption : roomS (stepS (ruAt m d) d) = true))) | skip
              all_goals
                repeat refine cr ?_
                refine ends_id ?_
                refine endK [] (h2 := ?_) (h3 := ?_) (nd := ?_)
                all_goals (repeat' first|exact ce0|refine ce ?_|refine ce2 ?_ ?_|exact SVLe.refl|refine ceb ?_)
                all_goals first | exact (show nodupB _ = true from rfl) | exact Or.inr rfl | (rfl)
            · obtain ⟨q1,q2,q3⟩ := rc_halt h5 hr
              rw [cAdd_fit hk hbg] at q3
              obtain ⟨e1,e2,e3⟩ := hvv (by rw [hbad,q1,q3]; rfl)
              rw [q3] at e1
              rw [q2] at e2
              rw [e1,e2,e3]
              repeat' first|(apply p3;(first|exact pu1|exact puC|exact a_add rfl rfl (by omega) (by omega));exact rfl)|refine cd ?_|(apply c4 0;exact callK1 (θ := []) (hD := (l05HaltsC_ok _ _ preB272 preB272));exact rfl;exact rfl;exact rfl;refine dM ?_)|(apply c4 0;exact callK1 (θ := []) (hD := (l20Numbers_ok _ _ preB272 preB272));exact rfl;exact rfl;exact rfl;refine dM ?_)|(apply c4 0;exact callK1 (θ := []) (hD := (l20Cost_ok _ _ preB272 preB272 preB272));exact rfl;exact rfl;exact rfl;refine dM ?_)|refine o_no rfl rfl rfl rfl ?_|(apply py3;exact rfl;exact rfl;(exact pu1);exact rfl;exact rfl)|((first|refine o_gs rfl rfl (fun hc => ?_) (fun hc => ?_)|refine g_cond rfl (fun hc => ?_) (fun hc => ?_)) <;> (try simp only [dcB] at hc) <;> (try first|contradiction|(exfalso;omega)))|fail
              all_goals first | (exfalso; exact Bool.noConfusion (hk.symm.trans (by assumption : numOk m d = true))) | (exfalso; exact Bool.noConfusion ((by assumption : numOk m d = false).symm.trans hk)) | (exfalso; exact Bool.noConfusion (hro.symm.trans (by assumption : roomS (stepS (ruAt m d) d) = true))) | skip
              all_goals
                repeat refine cr ?_
                refine ends_id ?_
                refine endK [] (h2 := ?_) (h3 := ?_) (nd := ?_)
                all_goals (repeat' first|exact ce0|refine ce ?_|refine ce2 ?_ ?_|exact SVLe.refl|refine ceb ?_)
                all_goals first | exact (show nodupB _ = true from rfl) | exact Or.inr rfl | (rfl)
        · by_cases hnn : n = b
          · obtain ⟨q1,q2,q3⟩ := rc_end h5 hr hnn
            obtain ⟨e1,e2,e3⟩ := hvv (by rw [hbad,q1,q3]; rfl)
            rw [q3] at e1
            rw [q2] at e2
            rw [e1,e2,e3]
            repeat' first|(apply p3;(first|exact pu1|exact puC);exact rfl)|refine cd ?_|(apply c4 0;exact callK1 (θ := []) (hD := (l05HaltsC_ok _ _ preB272 preB272));exact rfl;exact rfl;exact rfl;refine dM ?_)|(apply py3;exact rfl;exact rfl;(exact pu1);exact rfl;exact rfl)|((first|refine o_gs rfl rfl (fun hc => ?_) (fun hc => ?_)|refine g_cond rfl (fun hc => ?_) (fun hc => ?_)) <;> (try simp only [dcB] at hc) <;> (try first|contradiction|(exfalso;omega)))|fail
            all_goals first | (exfalso; exact Bool.noConfusion (hk.symm.trans (by assumption : numOk m d = true))) | (exfalso; exact Bool.noConfusion ((by assumption : numOk m d = false).symm.trans hk)) | (exfalso; exact Bool.noConfusion (hro.symm.trans (by assumption : roomS (stepS (ruAt m d) d) = true))) | skip
            all_goals
              repeat refine cr ?_
              refine ends_id ?_
              refine endK [] (h2 := ?_) (h3 := ?_) (nd := ?_)
              all_goals (repeat' first|exact ce0|refine ce ?_|refine ce2 ?_ ?_|exact SVLe.refl|refine ceb ?_)
              all_goals first | exact (show nodupB _ = true from rfl) | exact Or.inr rfl | (rfl)
          · have hnb2 : n < b := by omega
            cases hk : numOk m d
            · obtain ⟨e1,e2,e3⟩ := rc_bad (b := b) ha hp (by rw [hbad]; exact rc_over h5 (cAdd_no hk) (.inr hnb2))
              rw [e1,e2,e3]
              repeat' first|(apply n3;exact a_new (gb := .bx _) rfl;exact rfl;refine dA ?_)|(apply p3;(first|exact pu1|exact puC|exact a_add rfl rfl (by omega) (by omega));exact rfl)|refine cd ?_|(apply w3;(exact a_st_bx rfl rfl rfl rfl (fN rfl rfl) (Nat.le_of_ble_eq_true rfl) rfl);exact rfl;refine dS ?_)|(apply c4 0;exact callK1 (θ := []) (hD := (l05HaltsC_ok _ _ preB272 preB272));exact rfl;exact rfl;exact rfl;refine dM ?_)|(apply c4 0;exact callK1 (θ := []) (hD := (l20Numbers_ok _ _ preB272 preB272));exact rfl;exact rfl;exact rfl;refine dM ?_)|(apply c4 0;exact callK1 (θ := []) (hD := (l20Cost_ok _ _ preB272 preB272 preB272));exact rfl;exact rfl;exact rfl;refine dM ?_)|(apply c4 2;exact callK1 (θ := []) (hD := (l05StepC_ok _ _ preB272 preB272));exact rfl;exact rfl;exact rfl;refine dM ?_)|refine o_no rfl rfl rfl rfl ?_|((first|refine o_gs rfl rfl (fun hc => ?_) (fun hc => ?_)|refine g_cond rfl (fun hc => ?_) (fun hc => ?_)) <;> (try simp only [dcB] at hc) <;> (try first|contradiction|(exfalso;omega)))|fail
              all_goals first | (exfalso; exact Bool.noConfusion (hk.symm.trans (by assumption : numOk m d = true))) | (exfalso; exact Bool.noConfusion ((by assumption : numOk m d = false).symm.trans hk)) | (exfalso; exact Bool.noConfusion (hro.symm.trans (by assumption : roomS (stepS (ruAt m d) d) = true))) | skip
              all_goals
                repeat refine cr ?_
                refine ends_id ?_
                refine endK [] (h2 := ?_) (h3 := ?_) (nd := ?_)
                all_goals (repeat' first|exact ce0|refine ce ?_|refine ce2 ?_ ?_|exact SVLe.refl|refine ceb ?_)
                all_goals first | exact (show nodupB _ = true from rfl) | exact Or.inr rfl | (rfl)
            · by_cases hbg : u + costC m d > 1000000000000
              · obtain ⟨e1,e2,e3⟩ := rc_bad (b := b) ha hp (by rw [hbad]; exact rc_over h5 (cAdd_big hk hbg) (.inr hnb2))
                rw [e1,e2,e3]
                repeat' first|(apply p3;(first|exact pu1|exact puC|exact a_add rfl rfl (by omega) (by omega));exact rfl)|refine cd ?_|(apply c4 0;exact callK1 (θ := []) (hD := (l05HaltsC_ok _ _ preB272 preB272));exact rfl;exact rfl;exact rfl;refine dM ?_)|(apply c4 0;exact callK1 (θ := []) (hD := (l20Numbers_ok _ _ preB272 preB272));exact rfl;exact rfl;exact rfl;refine dM ?_)|(apply c4 0;exact callK1 (θ := []) (hD := (l20Cost_ok _ _ preB272 preB272 preB272));exact rfl;exact rfl;exact rfl;refine dM ?_)|refine o_no rfl rfl rfl rfl ?_|((first|refine o_gs rfl rfl (fun hc => ?_) (fun hc => ?_)|refine g_cond rfl (fun hc => ?_) (fun hc => ?_)) <;> (try simp only [dcB] at hc) <;> (try first|contradiction|(exfalso;omega)))|fail
                all_goals first | (exfalso; exact Bool.noConfusion (hk.symm.trans (by assumption : numOk m d = true))) | (exfalso; exact Bool.noConfusion ((by assumption : numOk m d = false).symm.trans hk)) | (exfalso; exact Bool.noConfusion (hro.symm.trans (by assumption : roomS (stepS (ruAt m d) d) = true))) | skip
                all_goals
                  repeat refine cr ?_
                  refine ends_id ?_
                  refine endK [] (h2 := ?_) (h3 := ?_) (nd := ?_)
                  all_goals (repeat' first|exact ce0|refine ce ?_|refine ce2 ?_ ?_|exact SVLe.refl|refine ceb ?_)
                  all_goals first | exact (show nodupB _ = true from rfl) | exact Or.inr rfl | (rfl)
              · cases hro : roomS (stepS (ruAt m d) d)
                · obtain ⟨e1,e2,e3⟩ := rc_bad (b := b) ha hp (by rw [hbad,rc_full h5 hr hnb2 hro]; rfl)
                  rw [e1,e2,e3]
                  repeat' first|(apply n3;exact a_new (gb := .bx _) rfl;exact rfl;refine dA ?_)|(apply p3;(first|exact pu1|exact puC|exact a_add rfl rfl (by omega) (by omega));exact rfl)|refine cd ?_|(apply w3;(exact a_st_bx rfl rfl rfl rfl (fN rfl rfl) (Nat.le_of_ble_eq_true rfl) rfl);exact rfl;refine dS ?_)|(apply c4 0;exact callK1 (θ := []) (hD := (l05HaltsC_ok _ _ preB272 preB272));exact rfl;exact rfl;exact rfl;refine dM ?_)|(apply c4 0;exact callK1 (θ := []) (hD := (l20Numbers_ok _ _ preB272 preB272));exact rfl;exact rfl;exact rfl;refine dM ?_)|(apply c4 0;exact callK1 (θ := []) (hD := (l20Cost_ok _ _ preB272 preB272 preB272));exact rfl;exact rfl;exact rfl;refine dM ?_)|(apply c4 2;exact callK1 (θ := []) (hD := (l05StepC_ok _ _ preB272 preB272));exact rfl;exact rfl;exact rfl;refine dM ?_)|refine o_no rfl rfl rfl rfl ?_|((first|refine o_gs rfl rfl (fun hc => ?_) (fun hc => ?_)|refine g_cond rfl (fun hc => ?_) (fun hc => ?_)) <;> (try simp only [dcB] at hc) <;> (try first|contradiction|(exfalso;omega)))|fail
                  all_goals first | (exfalso; exact Bool.noConfusion (hk.symm.trans (by assumption : numOk m d = true))) | (exfalso; exact Bool.noConfusion ((by assumption : numOk m d = false).symm.trans hk)) | (exfalso; exact Bool.noConfusion (hro.symm.trans (by assumption : roomS (stepS (ruAt m d) d) = true))) | skip
                  all_goals
                    repeat refine cr ?_
                    refine ends_id ?_
                    refine endK [] (h2 := ?_) (h3 := ?_) (nd := ?_)
                    all_goals (repeat' first|exact ce0|refine ce ?_|refine ce2 ?_ ?_|exact SVLe.refl|refine ceb ?_)
                    all_goals first | exact (show nodupB _ = true from rfl) | exact Or.inr rfl | (rfl)
                · have hnx := rcI_next h5 h1 hr hnb2 hro hk hbg
                  repeat' first|(apply n3;exact a_new (gb := .bx _) rfl;exact rfl;refine dA ?_)|(apply p3;(first|exact pu1|exact puC|exact a_add rfl rfl (by omega) (by omega));exact rfl)|refine cd ?_|(apply w3;(exact a_st_bx rfl rfl rfl rfl (fN rfl rfl) (Nat.le_of_ble_eq_true rfl) rfl);exact rfl;refine dS ?_)|(apply c4 0;exact callK1 (θ := []) (hD := (l05HaltsC_ok _ _ preB272 preB272));exact rfl;exact rfl;exact rfl;refine dM ?_)|(apply c4 0;exact callK1 (θ := []) (hD := (l20Numbers_ok _ _ preB272 preB272));exact rfl;exact rfl;exact rfl;refine dM ?_)|(apply c4 0;exact callK1 (θ := []) (hD := (l20Cost_ok _ _ preB272 preB272 preB272));exact rfl;exact rfl;exact rfl;refine dM ?_)|(apply c4 2;exact callK1 (θ := []) (hD := (l05StepC_ok _ _ preB272 preB272));exact rfl;exact rfl;exact rfl;refine dM ?_)|refine o_no rfl rfl rfl rfl ?_|((first|refine o_gs rfl rfl (fun hc => ?_) (fun hc => ?_)|refine g_cond rfl (fun hc => ?_) (fun hc => ?_)) <;> (try simp only [dcB] at hc) <;> (try first|contradiction|(exfalso;omega)))|fail
                  all_goals first | (exfalso; exact Bool.noConfusion ((by assumption : roomS (stepS (ruAt m d) d) = false).symm.trans hro)) | (exfalso; exact Bool.noConfusion ((by assumption : numOk m d = false).symm.trans hk)) | skip
                  refine q_again (n + 1,stepS (ruAt m d) d,u + costC m d) [0,1,5,6,4] (by exact stk) ?_ ?_
                  · exact hnx
                  · dsimp only; omega
    · have e1 : rcV m c b = 0 := by unfold rcV; rw [if_neg (fun h => hp h.2.1)]
      have e2 : rcH m c b = false := by unfold rcH; rw [if_neg (fun h => hp h.2.1)]
      have e4 : mtpC m = 5 := by rw [hat] at hp ⊢; split at hp <;> first | exact absurd rfl hp | skip; rw [if_neg (by assumption)]
      have e3 : rcC m c b = 5 := by unfold rcC; rw [if_pos ha,if_neg hp,e4]
      have hat2 : ¬ atZ m m.st.toNat ≤ 400 := by rw [hat] at hp; split at hp <;> first | exact absurd rfl hp | assumption
      rw [e1,e2,e3]
      refine does_of (k := 0) Tryz.func9 rfl Tryz.ntmps9 rfl rfl fun w F0 S0 ρ0 => ?_
      dsimp only [argT,argH]
      repeat' first|(apply n3;exact a_new (gb := .bx _) rfl;exact rfl;refine dA ?_)|(apply p3;(first|exact pu1|exact a_ne rfl rfl);exact rfl)|refine cd ?_|(apply c4 0;exact callK1 (θ := []) (hD := (l20Ask_ok _ _ _ preB272 preB272 preB272));exact rfl;exact rfl;exact rfl;refine dM ?_)|(apply c4 0;exact callK1 (θ := []) (hD := (l20Fits_ok _ preB272));exact rfl;exact rfl;exact rfl;refine dM ?_)|((refine g_cond rfl (fun hc => ?_) (fun hc => ?_)) <;> (try simp only [dcB] at hc) <;> (try first|contradiction|(exfalso;omega)))|fail
      repeat refine cr ?_
      refine ends_id ?_
      refine endK [] (h2 := ?_) (h3 := ?_) (nd := ?_)
      all_goals (repeat' first|exact ce0|refine ce ?_|refine ce2 ?_ ?_|exact SVLe.refl|refine ceb ?_)
      all_goals first | exact (show nodupB _ = true from rfl) | exact Or.inr rfl | (rfl)
  · have e1 : rcV m c b = 0 := by unfold rcV; rw [if_neg (fun h => ha h.1)]
    have e2 : rcH m c b = false := by unfold rcH; rw [if_neg (fun h => ha h.1)]
    have e3 : rcC m c b = askC m c b := by unfold rcC; rw [if_neg ha]
    rw [e1,e2,e3]
    refine does_of (k := 0) Tryz.func9 rfl Tryz.ntmps9 rfl rfl fun w F0 S0 ρ0 => ?_
    dsimp only [argT,argH]
    repeat' first|(apply n3;exact a_new (gb := .bx _) rfl;exact rfl;refine dA ?_)|(apply p3;(first|exact pu1|exact a_ne rfl rfl);exact rfl)|refine cd ?_|(apply c4 0;exact callK1 (θ := []) (hD := (l20Ask_ok _ _ _ preB272 preB272 preB272));exact rfl;exact rfl;exact rfl;refine dM ?_)|((refine g_cond rfl (fun hc => ?_) (fun hc => ?_)) <;> (try simp only [dcB] at hc) <;> (try first|contradiction|(exfalso;omega)))|fail
    repeat refine cr ?_
    refine ends_id ?_
    refine endK [] (h2 := ?_) (h3 := ?_) (nd := ?_)
    all_goals (repeat' first|exact ce0|refine ce ?_|refine ce2 ?_ ?_|exact SVLe.refl|refine ceb ?_)
    all_goals first | exact (show nodupB _ = true from rfl) | exact Or.inr rfl | (rfl)
end Go.Proofs.YtegpggobfdcafaaGreat
end
section
set_option linter.unusedVariables false
set_option linter.unusedSimpArgs false
namespace Go.Proofs.YtegpggobfdcafaaGreat
open Go Foot
def YC (P : Program) (l : Nat) : List Value → World → (Ending → World → Prop) → Prop := fun vs w R =>
  ∃ f tmps assign body,(Instr.yield l vs.toArray).run P w = .ok (.round l f tmps assign body) w ∧ RoundIn (fen none) 0 P l f tmps assign body w R
theorem YC.mono {P : Program} {l : Nat} (vs : List Value) (w : World) (R R' : Ending → World → Prop) (h : YC P l vs w R) (hr : ∀ e w',R e w' → R' e w') : YC P l vs w R' := by
  obtain ⟨f,t,a,b,h1,h2⟩ := h
  exact ⟨f,t,a,b,h1,h2.mono hr⟩
theorem round_fen {P : Program} {r r' : Option Nat} {n l : Nat} {f : FuncId} {tmps : Array Value} {assign body : Code} {w : World} {R : Ending → World → Prop} (h : RoundIn (fen r) n P l f tmps assign body w R) : RoundIn (fen r') n P l f tmps assign body w R := h
section
variable {P : Program} {g : Gh} {st : St} {sv : SV} {dst : Option Tmp} {ty : TypeId} {pos : String} {after : Array Edge} {guard : Option (Nat × Bool)} {x : Operand}
theorem a_yield {l m : Nat} {c0 : C} {cap : List C} {xs : List Operand} {Ts : Array TypeId} {as1 : List SV} {H H' : List GB} {res : SV} {θ ld : List Nat} {up : List (Nat × GB)}
    (hD : DoesW (YC P l) as1 H res H') (hc : opd st x = .one c0) (hv : fnv c0 = some (.yield l,cap))
    (ha : ASLe st.h ld (xs.map (opd st)) (as1.map (SV.ren (calF θ m)))) (hH : rootsEq (calF θ m) st 0 H) (hk : H.length = θ.length) (hθ : nodupB θ = true) (hm : θ.all (fun t => Nat.blt t m) = true) (hld : ld.all (fun i => !(θ.any (Nat.beq i))) = true)
    (hpl : ld = [] ∨ (res.plain ∧ plainH H')) (hlt : ltA H.length as1 = true) (hltH : allG H.length H = true) (hltr : res.lt H'.length = true) (hltH' : allG H'.length H' = true) (hsv : res.ren (calF θ m) = sv) (hup : upOf (calF θ m) 0 H' = up) :
    Acts P g ⟨dst,.call { callee := .value x,args := xs.toArray,argTypes := Ts },ty,pos,after,guard⟩ st sv θ up := by
  refine call_any YC.mono hD ha hH hk hθ hm hld hpl hlt hltH hltr hltH' hsv hup fun a w S ρ F h => ?_
  obtain ⟨vs,e1,e2⟩ := fnv_eval (opd_one h hc) hv
  refine ⟨xs.map a.eval,repA_opd h xs,fun R K Q hc hR => ?_⟩
  obtain ⟨f,tm,asg,bd,h1,h2⟩ := hc
  have h3 : (execOp a.eval ⟨dst,.call { callee := .value x,args := xs.toArray,argTypes := Ts },ty,pos,after,guard⟩).run P w = .ok (.round l f tm asg bd) w := by
    rw [← h1]
    simp [execOp,resolve,e1,Deferred.ofValue,invoke]
  refine oper_in (not_defer h3 (fun _ h => nomatch h)) ?_
  rw [h3,Oper.uponIn_round]
  refine ⟨fen_depth,round_fen (r := none) (h2.mono ?_)⟩
  intro e w' hr
  obtain ⟨v,rfl,hk⟩ := hR e w' hr
  exact hk
end
structure Pkd (g : Gh) (tm : Array Value) (ρs : Env) (t0 : List (Nat × SV)) (hs : List (Nat × GB)) (n : Nat) (θc θp : List Nat) (l : Nat) (rec : Loop) (w : World) (S : Foot) (us : List Value) (F : Foot) (ρ : Env) (Fr : Nat → Foot) : Prop where
  slot : ∀ i,RepS w S ρ (lkS t0 i) (tm.getD i undef)
  root : ∀ i,i ∉ θc → lkG hs i = .dead ∨ ∃ v,ρ i = some v ∧ RepG w S ρ (lkG hs i) v (Fr i)
  dis : ∀ i j,i ≠ j → Foot.dis (Fr i) (Fr j)
  le : ∀ i,Foot.le (Fr i) F
  noc : ∀ i,i ∈ θc → Fr i = no
  notl : ∀ i o,¬ Fr i l o
  rcd : mapAt w l = some (.loop rec)
  hasl : ∀ o,F l o
  us : θp.map ρ = us.map some
  val : ∀ i,i ∈ θc → ∃ u,ρs i = some u ∧ ρ i = some u
  pin : ∀ i u,i < g.k → g.ρ0 i = some u → ρ i = some u
  new : ∀ i,n ≤ i → ρ i = none
theorem Pkd.keep {g : Gh} {tm : Array Value} {ρs : Env} {t0 : List (Nat × SV)} {hs : List (Nat × GB)} {n : Nat} {θc θp : List Nat} {l : Nat} {rec : Loop} {w w' : World} {S S' : Foot} {us : List Value} {F F' : Foot} {ρ : Env} {Fr : Nat → Foot}
    (h : Pkd g tm ρs t0 hs n θc θp l rec w S us F ρ Fr) (hF : Agree w w' F) (hS : Agree w w' S) (hle : Foot.le S S') (hf : Foot.le F F') : Pkd g tm ρs t0 hs n θc θp l rec w' S' us F' ρ Fr :=
  ⟨fun i => (h.slot i).keep hS hle (Env.le.refl _),fun i hi => (h.root i hi).imp id fun ⟨v,h1,h2⟩ => ⟨v,h1,h2.keep (hF.le (h.le i)) hS hle (Env.le.refl _) (le_refl _)⟩,h.dis,fun i => (h.le i).trans hf,h.noc,h.notl,by rw [(hF l 0 (h.hasl 0)).2.2,h.rcd],fun o => hf _ _ (h.hasl o),h.us,h.val,h.pin,h.new⟩
def pk (g : Gh) (tm : Array Value) (ρs : Env) (t0 : List (Nat × SV)) (hs : List (Nat × GB)) (n : Nat) (θc θp : List Nat) (l : Nat) (rec : Loop) : Opq where
  p w S us F := ∃ ρ Fr,Pkd g tm ρs t0 hs n θc θp l rec w S us F ρ Fr
  keep := fun ⟨ρ,Fr,h⟩ hF hS hle hf => ⟨ρ,Fr,h.keep hF hS hle hf⟩
def recJ (r : Loop) (j : Option Code) : Loop := { r with state := if j.isNone then .ready else .done,pending := j }
def busy (r : Loop) : Loop := { r with state := .busy }
def parT : List Nat → List SV → List (Nat × SV) → List (Nat × SV)
  | p :: ps,y :: ys,t => parT ps ys ((p,y) :: t)
  | _,_,t => t
theorem par_rep {w : World} {S : Foot} {ρ : Env} : ∀ {ps : List Nat} {ys : List SV} {vs : List Value} {t : List (Nat × SV)} {tm : Array Value},RepA w S ρ ys vs → (∀ p ∈ ps,p < tm.size) → (∀ i,RepS w S ρ (lkS t i) (tm.getD i undef)) →
    ∀ i,RepS w S ρ (lkS (parT ps ys t) i) (((ps.zip vs).foldl (fun tm x => tm.setIfInBounds x.1 x.2) tm).getD i undef)
  | [],ys,vs,t,tm,h,_,ht,i => ht i
  | p :: ps,[],vs,t,tm,h,_,ht,i => by
    simp only [RepA] at h
    subst h
    exact ht i
  | p :: ps,y :: ys,vs,t,tm,h,hp,ht,i => by
    simp only [RepA] at h
    obtain ⟨v,us,rfl,h1,h2⟩ := h
    simp only [parT,List.zip_cons_cons,List.foldl_cons]
    refine par_rep h2 (fun q hq => by simpa using hp q (by simp [hq])) (fun j => ?_) i
    have hps := hp p (by simp)
    simp only [lkS]
    by_cases hj : j = p
    · subst hj
      simp only [Nat.beq_refl,cond_true]
      simp [Array.getD_eq_getD_getElem?,hps,h1]
    · simp only [beq_ne hj,cond_false]
      rw [Array.getD_eq_getD_getElem?,Array.getElem?_setIfInBounds_ne (Ne.symm hj),← Array.getD_eq_getD_getElem?]
      exact ht j
theorem par_size : ∀ {ps : List Nat} {vs : List Value} {tm : Array Value},((ps.zip vs).foldl (fun tm x => tm.setIfInBounds x.1 x.2) tm).size = tm.size
  | [],vs,tm => rfl
  | p :: ps,[],tm => rfl
  | p :: ps,v :: vs,tm => by simp only [List.zip_cons_cons,List.foldl_cons]; rw [par_size]; simp
def deads (θ : List Nat) : List (Nat × GB) := θ.map fun i => (i,.dead)
structure SameSt (s s' : St) : Prop where
  t : s.t = s'.t
  n : s.n = s'.n
  h : ∀ i,lkG s.h i = lkG s'.h i
theorem SameSt.trans {a b c : St} (h : SameSt a b) (h' : SameSt b c) : SameSt a c := ⟨h.t.trans h'.t,h.n.trans h'.n,fun i => (h.h i).trans (h'.h i)⟩
theorem SameSt.rel {g : Gh} {s s' : St} (h : SameSt s s') {a : Act} {w : World} {S : Foot} {ρ : Env} {F : Nat → Foot} (hr : Rel g s a w S ρ F) : Rel g s' a w S ρ F := hr.same (fun i => by rw [h.t]) (fun i => (h.h i).symm)
theorem g_same {P : Program} {g : Gh} {c : Code} {s s' : St} {Q : Exit → St → Prop} (h : SameSt s' s) (hw : GWp P g c s Q) : GWp P g c s' Q := ⟨fun a w S ρ F hr hf => hw.run a w S ρ F (h.rel hr) fun i hi => hf i (by rw [h.n]; exact hi)⟩
inductive qRound {X : Type} (kp : Nat) (T : X → St) (xb : X × Option Code) : Exit → St → Prop where
  | next {st s : St} (θ : List Nat) (hx : xb.2 = none) (hl : StLe kp θ st s) (hs : SameSt s (T xb.1)) : qRound kp T xb .normal st
  | ret {st s : St} (θ : List Nat) (hx : xb.2 = some .ret) (hl : StLe kp θ st s) (hs : SameSt s (T xb.1)) : qRound kp T xb .ret st
  | exit {st s : St} {id : Nat} (θ : List Nat) (hx : xb.2 = some (.exit id)) (hl : StLe kp θ st s) (hs : SameSt s (T xb.1)) : qRound kp T xb (.exit id) st
theorem qRound.same {X : Type} {kp : Nat} {T T' : X → St} {xb : X × Option Code} {e : Exit} {st : St} (h : qRound kp T xb e st) (hT : ∀ x,SameSt (T x) (T' x)) : qRound kp T' xb e st := by
  cases h with
  | next θ hx hl hs => exact .next θ hx hl (hs.trans (hT _))
  | ret θ hx hl hs => exact .ret θ hx hl (hs.trans (hT _))
  | exit θ hx hl hs => exact .exit θ hx hl (hs.trans (hT _))
inductive qAsg (P : Program) (g : Gh) (body : Code) (n l : Nat) (r : Loop) (Q : Exit → St → Prop) : Exit → St → Prop where
  | go {st : St} (hl : lkG st.h n = .lp l r) (h : GWp P g body ⟨st.t,(n,.lp l (busy r)) :: st.h,st.n⟩ Q) : qAsg P g body n l r Q .normal st
def gapF (kq kp n : Nat) (i : Nat) : Nat := bif Nat.ble kq i && Nat.blt i kp then n + 5 else i
section
variable {w w' : World} {S S' F F' : Foot} {ρ ρ' : Env}
theorem rep_gap {gb : GB} {v : Value} {kq kp n : Nat} (h : RepG w S ρ gb v F) (hn : gb.lt n = true) (hg : gb.ren (gapF kq kp n) = gb) (h5 : ρ' (n + 5) = ρ (n + 5)) (he : ∀ i,i < n → (i < kq ∨ kp ≤ i) → ρ' i = ρ i) : RepG w S ρ' gb v F := by
  have h1 : RepG w S (fun i => ρ (gapF kq kp n i)) gb v F := RepG.ren.1 (hg.symm ▸ h)
  have h2 : RepG w S (fun i => ρ' (gapF kq kp n i)) gb v F := RepG.ltE (fun i hi => by
    show ρ' (gapF kq kp n i) = ρ (gapF kq kp n i)
    unfold gapF
    cases hb : (Nat.ble kq i && Nat.blt i kp) with
    | true => exact h5
    | false =>
      simp only [cond_false]
      refine he i hi ?_
      by_cases h1 : i < kq
      · exact .inl h1
      · refine .inr ?_
        have e1 : Nat.ble kq i = true := Nat.ble_eq_true_of_le (by omega)
        rw [e1,Bool.true_and] at hb
        exact Nat.le_of_not_lt fun hlt => by
          have : Nat.blt i kp = true := Nat.ble_eq_true_of_le hlt
          rw [this] at hb; cases hb) h1 hn
  exact hg ▸ RepG.ren.2 h2
end
end Go.Proofs.YtegpggobfdcafaaGreat
end
