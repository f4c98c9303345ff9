/- Parts of the proof (13 of 14). -/
import Derived.Test.YtegpggobfdcafaaGreatQ12
section
set_option linter.unusedVariables false
set_option linter.unusedSimpArgs false
set_option maxRecDepth 100000
set_option maxHeartbeats 4000000
namespace Go.Proofs.YtegpggobfdcafaaGreat
open Go Foot Go.RowKit
structure Pz where
  f : Int
  t : Int
  k : Int
abbrev ePz : Enc Pz := ⟨3,fun x => [.sc (.int .i64 x.f),.sc (.int .i64 x.t),.sc (.int .i64 x.k)],fun _ => rfl,by decide⟩
abbrev shPz (l : List Pz) : C := .d (.sl false 3 (rows ePz l))
abbrev roPz (l : List Pz) : GB := .row 3 (rows ePz l)
theorem t_mvS {g : Gh} {t : List (Nat × SV)} {h0 : List (Nat × GB)} {n z : Nat} {xs : List D} (d i k e : Nat) (hk : n = k) (he : n + 1 = e) (hd : lkS t d = .one (.gv i)) (hi : lkG h0 i = .row z xs) : Conv g ⟨t,h0,n⟩ ⟨(d,.one (.gv k)) :: t,(k,.row z xs) :: (i,.dead) :: h0,e⟩ := fun a w S ρ F hr hf => by
  subst hk he
  obtain ⟨v,r1,r2⟩ := rel_rowT hr hi
  have hne : n ≠ i := fun e => by rw [← e,hf n (Nat.le_refl n)] at r1; cases r1
  obtain ⟨ρ',l1,hv,q1,q2⟩ := rel_ext v hr hf
  refine ⟨S,ρ',_,(rel_two (gb1 := .row z xs) (gb2 := .dead) (G1 := F i) (G2 := no) hne q1 (le_or_right _ _) (no_le _) (dis_no _) (.inr ⟨v,hv,r2⟩) (.inl rfl)).setSlot ?_,q2⟩
  have h1 := q1.slot d
  simp only [hd] at h1
  obtain ⟨s1,s2⟩ := h1
  exact ⟨by rw [hv,← s1,l1 _ _ r1],s2⟩
def lenZ (l : List Pz) : Int := (l.map fun p => p.k + 1).sum
theorem lenZ_app (l m : List Pz) : lenZ (l ++ m) = lenZ l + lenZ m := by unfold lenZ; simp
theorem lenZ_snoc (l : List Pz) (p : Pz) : lenZ (l ++ [p]) = lenZ l + (p.k + 1) := by rw [lenZ_app]; simp [lenZ]
theorem preB266 {p : Prop} (h : p := by first | with_reducible assumption | omega | (simp only [List.length_append,List.length_cons,List.length_nil,List.length_set,List.length_replicate,List.length_take,List.length_drop,List.length_tail,List.length_dropLast,List.length_reverse] at *; omega) | exact mem_len (by assumption) (by omega) | (with_reducible refine Int.le_trans (Int.ofNat_le.2 (trimR_len _)) ?_; simp only [List.length_cons,List.length_tail]; omega) | (exact (ruAt_ok (by assumption) (by assumption) (by assumption)).2.1) | (exact (ruAt_ok (by assumption) (by assumption) (by assumption)).2.1) | (have := vMach_bd (by assumption); omega) | (simp only [List.length_append,List.length_cons,List.length_nil,repW_len,seN_len] at *; omega) | (simp only [mC_ch,mC_tu]; omega) | (have := vTag_bd (by assumption); omega) | (have := (‹Gd _ _›).le; omega) | (exact tgHalts_no (by assumption)) | (exact tgHead (by assumption) (by assumption) (by assumption)) | (exact Int.le_trans (tgStep_gd (by assumption) (by assumption) (by assumption) (by assumption)).le (by decide)) | (exact vTag_r (by assumption)) | (with_reducible refine Int.le_trans (Int.ofNat_le.2 (pushL_len _ _)) ?_; simp only [List.length_dropLast]; omega) | exact ls_at (by assumption) (by omega) | exact pt_gd (by assumption) | exact lv_at (by assumption) (by omega) | exact pt_gd (lv_at (by assumption) (by omega)) | exact (ask_ok (by assumption)).1 | exact (ask_ok (by assumption)).2.1 | exact (ask_ok (by assumption)).2.2.1 | exact (ask_ok (by assumption)).2.2.2 | trivial) : p := h
theorem l14Size_ok (p : Pz) (h1 : 0 ≤ p.k) (h2 : p.k ≤ 1000) : Does Tryz.prog 233 [.one (.d (.bx false [.sc (.int .i64 p.f),.sc (.int .i64 p.t),.sc (.int .i64 p.k)]))] [] (.one (int (p.k + 1))) [] := by
  refine does_of (k := 0) Tryz.func233 rfl Tryz.ntmps233 rfl rfl fun w F0 S0 ρ0 => ?_
  dsimp only [argT,argH]
  repeat' first|(apply p3;(first|exact pu1|exact a_add rfl rfl (by omega) (by omega));exact rfl)|refine cd ?_|fail
  repeat refine cr ?_
  refine ends_id ?_
  refine endK [] (h2 := ?_) (h3 := ?_) (nd := ?_)
  all_goals (repeat' first|exact ce0|refine ce ?_|refine ce2 ?_ ?_|exact SVLe.refl|refine ceb ?_)
  all_goals first | exact (show nodupB _ = true from rfl) | exact Or.inr rfl | (rfl)
structure PzOk (l : List Pz) : Prop where
  ok : ∀ p ∈ l,0 ≤ p.k ∧ p.k ≤ 100
theorem lenZ_bd {l : List Pz} (h : PzOk l) : 0 ≤ lenZ l ∧ lenZ l ≤ 101 * l.length := by
  obtain ⟨h⟩ := h
  induction l with
  | nil => simp [lenZ]
  | cons p l ih =>
    have h1 := h p (by simp)
    have h2 := ih fun q hq => h q (List.mem_cons_of_mem _ hq)
    have e : lenZ (p :: l) = (p.k + 1) + lenZ l := by simp [lenZ]
    rw [e]
    simp only [List.length_cons]
    omega
theorem l14Length_ok (l : List Pz) (h : PzOk l) (hn : (l.length : Int) ≤ 100) : Does Tryz.prog 200 [.one (shPz l)] [] (.one (int (lenZ l))) [] := by
  refine does_of (k := 0) Tryz.func200 rfl Tryz.ntmps200 rfl rfl fun w F0 S0 ρ0 => ?_
  dsimp only [argT,argH]
  repeat' first|(apply p3;(exact pu1);exact rfl)|refine cd ?_|fail
  refine g_loop_id ?_
  refine loopK [0,2] [] (fun i : Int => 0 ≤ i ∧ i ≤ l.length) (fun i => [(4,.one (int i)),(3,.one (int (lenZ (l.take i.toNat))))]) (fun _ => []) (fun i => (l.length - i).toNat) (0 : Int) [] (hI := ?_) (hr := ?_)
  · exact ⟨by omega,by omega⟩
  · rintro i ⟨k0,k1⟩
    dsimp only [List.cons_append,List.nil_append] at *
    skip
    repeat' first|refine cdn ?_|fail
    by_cases hi : i.toNat < l.length
    · have hb := h.ok _ (List.getElem_mem hi)
      have hs := lenZ_bd (l := l.take i.toNat) ⟨fun p hp => h.ok p (List.mem_of_mem_take hp)⟩
      have htl : (l.take i.toNat).length = i.toNat := by rw [List.length_take]; omega
      have e : lenZ (l.take (i + 1).toNat) = lenZ (l.take i.toNat) + (l[i.toNat].k + 1) := by rw [show (i + 1).toNat = i.toNat + 1 by omega,List.take_succ_eq_append_getElem hi,lenZ_snoc]
      repeat' first|(apply p3;(first|exact pu1|exact puN|exact puC|exact a_add rfl rfl (by omega) (by omega)|exact puI);exact rfl)|refine cd ?_|(apply c4 0;exact callK1 (θ := []) (hD := (l14Size_ok l[i.toNat] hb.1 preB266));exact rfl;exact rfl;exact rfl;refine dM ?_)|((refine g_cond rfl (fun hc => ?_) (fun hc => ?_)) <;> (try simp only [dcB] at hc) <;> (try first|contradiction|(exfalso;omega)))|fail
      rw [← e]
      refine q_again (i + 1) [] (by exact stk) ?_ ?_
      · exact ⟨by omega,by omega⟩
      · omega
    · skip
      rw [List.take_of_length_le (show l.length ≤ i.toNat by omega)]
      repeat' first|(apply p3;(first|exact pu1|exact puN|exact puC);exact rfl)|refine cd ?_|((refine g_cond rfl (fun hc => ?_) (fun hc => ?_)) <;> (try simp only [dcB] at hc) <;> (try first|contradiction|(exfalso;omega)))|fail
      repeat refine cr ?_
      refine ends_id ?_
      refine endK [] (h2 := ?_) (h3 := ?_) (nd := ?_)
      all_goals (repeat' first|exact ce0|refine ce ?_|refine ce2 ?_ ?_|exact SVLe.refl|refine ceb ?_)
      all_goals first | exact (show nodupB _ = true from rfl) | exact Or.inr rfl | (rfl)
theorem l14Add_ok (l : List Pz) (r n : Int) (h0 : 0 ≤ n) (h1 : n ≤ 100) (hl : (l.length : Int) ≤ 100) : Does Tryz.prog 234 [.one (.gv 0),.one (int r),.one (int n)] [roPz l] (.one (.gv 1)) [.dead,roPz (l ++ List.replicate n.toNat ⟨0,r,0⟩)] := by
  refine does_of (k := 1) Tryz.func234 rfl Tryz.ntmps234 rfl rfl fun w F0 S0 ρ0 => ?_
  dsimp only [argT,argH]
  refine g_conv (t_mvS 0 0 1 2 rfl rfl rfl rfl) ?_
  repeat' first|(apply p3;(exact pu1);exact rfl)|refine cd ?_|fail
  refine g_loop_id ?_
  refine loopK [1,6] [1] (fun y : Int × List Pz => 0 ≤ y.1 ∧ y.1 ≤ n ∧ y.2 = l ++ List.replicate (n - y.1).toNat ⟨0,r,0⟩) (fun y => [(2,.one (int y.1)),(0,.one (.gv 1))]) (fun y => [(1,roPz y.2)]) (fun y => y.1.toNat) (n,l) [0,1] (hI := ?_) (hr := ?_)
  · exact ⟨h0,by simp,by simp⟩
  · rintro ⟨i,l'⟩ ⟨k0,k1,k2⟩
    dsimp only [List.cons_append,List.nil_append] at *
    skip
    repeat' first|refine cdn ?_|fail
    have hll : l'.length = l.length + (n - i).toNat := by rw [k2,List.length_append,List.length_replicate]
    by_cases hi : 0 < i
    · repeat' first|(apply n3;(exact a_litE ePz [⟨_,_,_⟩] rfl rfl rfl rfl rfl rfl rfl rfl);exact rfl;refine dA ?_)|(apply p3;(first|exact pu1|exact puC|exact a_sub rfl rfl (by omega) (by omega));exact rfl)|refine cd ?_|(apply s3;exact a_appE (fP rfl) rfl rfl rfl rfl nowR (by (simp <;> omega)) (by decide) (by decide) (by exact rfl);exact rfl;exact rfl)|((refine g_cond rfl (fun hc => ?_) (fun hc => ?_)) <;> (try simp only [dcB] at hc) <;> (try first|contradiction|(exfalso;omega)))|fail
      refine q_again (i - 1,l' ++ [⟨0,r,0⟩]) [0,3] (by exact stk) ?_ ?_
      · refine ⟨by dsimp only; omega,by dsimp only; omega,?_⟩
        dsimp only
        rw [k2,show (n - (i - 1)).toNat = (n - i).toNat + 1 by omega,List.replicate_succ',List.append_assoc]
      · dsimp only; omega
    · skip
      have e : l' = l ++ List.replicate n.toNat ⟨0,r,0⟩ := by rw [k2,show n - i = n by omega]
      rw [← e]
      repeat' first|(apply p3;(first|exact pu1|exact puC);exact rfl)|refine cd ?_|((refine g_cond rfl (fun hc => ?_) (fun hc => ?_)) <;> (try simp only [dcB] at hc) <;> (try first|contradiction|(exfalso;omega)))|fail
      repeat refine cr ?_
      refine ends_id ?_
      refine endK [?_] (h2 := ?_) (h3 := ?_) (nd := ?_)
      rotate_left 1
      all_goals (repeat' first|exact ce0|refine ce ?_|refine ce2 ?_ ?_|(refine Or.inr (bx_eq rfl rfl ?_);(try dsimp only [C.ren,C.ren.all]);(try exact rfl))|exact SVLe.refl|refine ceb ?_)
      all_goals first | exact (show nodupB _ = true from rfl) | exact Or.inr rfl | (rfl)
abbrev tailZ (sy x : Int) : List Pz := [⟨2,0,1⟩,⟨1,2,sy⟩,⟨2,1,1⟩] ++ List.replicate x.toNat ⟨0,1,0⟩
abbrev haltZ (sy x : Int) : List Pz := [⟨2,1,sy⟩] ++ List.replicate x.toNat ⟨0,1,0⟩
abbrev rightZ (sy x : Int) : List Pz := [⟨2,1,1⟩,⟨0,2,sy⟩,⟨2,0,1⟩] ++ List.replicate x.toNat ⟨0,0,0⟩
abbrev eTz : Enc (List Pz) := ⟨1,fun l => [.sl false 3 (rows ePz l)],fun _ => rfl,by decide⟩
abbrev shTz (l : List (List Pz)) : C := .d (.sl false 1 (rows eTz l))
abbrev roTz (l : List (List Pz)) : GB := .row 1 (rows eTz l)
theorem l14Tails_ok (sy : Int) (h1 : 1 ≤ sy) (h2 : sy ≤ 6) : Does Tryz.prog 203 [.one (int sy)] [] (.one (.gv 0)) [roTz ((rngI sy.toNat).map (tailZ sy))] := by
  refine does_of (k := 0) Tryz.func203 rfl Tryz.ntmps203 rfl rfl fun w F0 S0 ρ0 => ?_
  dsimp only [argT,argH]
  repeat' first|(apply n3;(exact a_litE eTz [] rfl rfl rfl rfl rfl rfl rfl rfl);exact rfl;refine dA ?_)|(apply p3;(exact pu1);exact rfl)|refine cd ?_|fail
  refine g_loop_id ?_
  refine loopK [0,2] [0] (fun x : Int × List (List Pz) => 0 ≤ x.1 ∧ x.1 ≤ sy ∧ x.2 = (rngI x.1.toNat).map (tailZ sy)) (fun x => [(4,.one (int x.1)),(3,.one (.gv 0))]) (fun x => [(0,roTz x.2)]) (fun x => (sy - x.1).toNat) ((0 : Int),[]) [0] (hI := ?_) (hr := ?_)
  · exact ⟨by simp,by dsimp only; omega,rfl⟩
  · rintro ⟨i,T⟩ ⟨k0,k1,k2⟩
    dsimp only [List.cons_append,List.nil_append] at *
    skip
    repeat' first|refine cdn ?_|fail
    have hrl := rngI_len i.toNat
    have hll : T.length = i.toNat := by rw [k2,List.length_map,hrl]
    by_cases hi : i < sy
    · repeat' first|(apply n3;(first|exact a_litE ePz [⟨_,_,_⟩,⟨_,_,_⟩,⟨_,_,_⟩] rfl rfl rfl rfl rfl rfl rfl rfl|exact a_litE eTz [_] rfl rfl rfl rfl rfl rfl rfl rfl);exact rfl;refine dA ?_)|(apply p3;(first|exact pu1|exact puC|exact a_add rfl rfl (by omega) (by omega));exact rfl)|refine cd ?_|(apply s3;exact a_appE (fP rfl) rfl rfl rfl rfl nowR (by (simp <;> omega)) (by decide) (by decide) (by exact rfl);exact rfl;exact rfl)|(apply c4 1;exact callK1 (θ := [_]) (hD := (l14Add_ok _ _ _ preB266 preB266 preB266));exact rfl;exact rfl;exact rfl;refine dM ?_)|(refine o_turn (t_frzR (d := 20) (i := 2) rfl rfl shutR) ?_)|((refine g_cond rfl (fun hc => ?_) (fun hc => ?_)) <;> (try simp only [dcB] at hc) <;> (try first|contradiction|(exfalso;omega)))|fail
      refine q_again (i + 1,T ++ [tailZ sy i]) [4] (by exact stk) ?_ ?_
      · refine ⟨by dsimp only; omega,by dsimp only; omega,?_⟩
        dsimp only
        rw [k2,show (i + 1).toNat = i.toNat + 1 by omega,rngI_succ,List.map_append,show ((i.toNat : Nat) : Int) = i by omega]
        rfl
      · dsimp only; omega
    · skip
      have e : T = (rngI sy.toNat).map (tailZ sy) := by rw [k2,show i = sy by omega]
      rw [← e]
      repeat' first|(apply p3;(first|exact pu1|exact puC);exact rfl)|refine cd ?_|((refine g_cond rfl (fun hc => ?_) (fun hc => ?_)) <;> (try simp only [dcB] at hc) <;> (try first|contradiction|(exfalso;omega)))|fail
      repeat refine cr ?_
      refine ends_id ?_
      refine endK [?_] (h2 := ?_) (h3 := ?_) (nd := ?_)
      rotate_left 1
      all_goals (repeat' first|exact ce0|refine ce ?_|refine ce2 ?_ ?_|(refine Or.inr (bx_eq rfl rfl ?_);(try dsimp only [C.ren,C.ren.all]);(try exact rfl))|exact SVLe.refl|refine ceb ?_)
      all_goals first | exact (show nodupB _ = true from rfl) | exact Or.inr rfl | (rfl)
@[irreducible] def headZ (m : Mach) (r : Rule') (v : Int) : List Pz := if r = noR then haltZ m.sy v else if r.m = 1 then rightZ m.sy r.w else haltZ m.sy r.w
theorem pzOk_rep (r : Int) (n : Nat) : PzOk (List.replicate n ⟨0,r,0⟩) := ⟨fun p hp => by rw [(List.mem_replicate.1 hp).2]; exact ⟨by dsimp only; omega,by dsimp only; omega⟩⟩
theorem pzOk_app {l m : List Pz} (h1 : PzOk l) (h2 : PzOk m) : PzOk (l ++ m) := ⟨fun p hp => (List.mem_append.1 hp).elim (h1.ok p) (h2.ok p)⟩
theorem tailZ_ok {sy : Int} (x : Int) (h1 : 1 ≤ sy) (h2 : sy ≤ 6) : PzOk (tailZ sy x) := pzOk_app ⟨fun p hp => by
  simp only [List.mem_cons,List.not_mem_nil,or_false] at hp
  rcases hp with rfl | rfl | rfl <;> exact ⟨by dsimp only; omega,by dsimp only; omega⟩⟩ (pzOk_rep _ _)
theorem rightZ_ok {sy : Int} (x : Int) (h1 : 1 ≤ sy) (h2 : sy ≤ 6) : PzOk (rightZ sy x) := pzOk_app ⟨fun p hp => by
  simp only [List.mem_cons,List.not_mem_nil,or_false] at hp
  rcases hp with rfl | rfl | rfl <;> exact ⟨by dsimp only; omega,by dsimp only; omega⟩⟩ (pzOk_rep _ _)
theorem haltZ_ok {sy : Int} (x : Int) (h1 : 1 ≤ sy) (h2 : sy ≤ 6) : PzOk (haltZ sy x) := pzOk_app ⟨fun p hp => by
  simp only [List.mem_cons,List.not_mem_nil,or_false] at hp
  rcases hp with rfl
  exact ⟨by dsimp only; omega,by dsimp only; omega⟩⟩ (pzOk_rep _ _)
theorem headZ_ok {m : Mach} {r : Rule'} {v : Int} (hm : MaOk m) (hr : RuOk m r) (h0 : 0 ≤ v) (h1 : v ≤ m.sy - 1) : PzOk (headZ m r v) ∧ (headZ m r v).length ≤ 10 := by
  obtain ⟨⟨ya,yb⟩,_⟩ := hm
  unfold headZ
  split
  · exact ⟨haltZ_ok v (by omega) yb,by simp; omega⟩
  · rename_i hn
    obtain ⟨⟨w1',w2'⟩,_,_⟩ := hr.ok.resolve_left hn
    split
    · exact ⟨rightZ_ok r.w (by omega) yb,by simp; omega⟩
    · exact ⟨haltZ_ok r.w (by omega) yb,by simp; omega⟩
theorem l14Head_ok (m : Mach) (r : Rule') (v : Int) (hm : MaOk m) (hr : RuOk m r) (h0 : 0 ≤ v) (h1 : v ≤ m.sy - 1) : Does Tryz.prog 201 [.one (maB m),.agg (ruC r),.one (int v)] [] (.one (.gv 0)) [roPz (headZ m r v)] := by
  obtain ⟨ya,yb⟩ := hm.sy
  by_cases hn : r = noR
  · have e : headZ m r v = haltZ m.sy v := by unfold headZ; rw [if_pos hn]
    rw [e]
    refine does_of (k := 0) Tryz.func201 rfl Tryz.ntmps201 rfl rfl fun w F0 S0 ρ0 => ?_
    dsimp only [argT,argH]
    repeat' first|(apply n3;(first|exact a_new (gb := .bx _) rfl|exact a_litE ePz [⟨_,_,_⟩] rfl rfl rfl rfl rfl rfl rfl rfl);exact rfl;refine dA ?_)|(apply p3;(exact pu1);exact rfl)|refine cd ?_|(apply c4 1;exact callK1 (θ := [_]) (hD := (l14Add_ok _ _ _ preB266 preB266 preB266));exact rfl;exact rfl;exact rfl;refine dM ?_)|(apply g_drN (id := 1) okM [[],[],[0,1]] [([],[]),([],[]),([],[])] 0;(focus (refine dp 0 0 [9] [] puL ?_;refine dp 1 0 [8] [] (callD1 (n := _) 0 (θ := []) (hD := l05None_ok)) ?_;refine dp 2 3 [] [] (by exact a_eqRule (s := ⟨_,_,_⟩) rfl rfl) ?_;(refine d_nil ?_;refine dN ?_)));any_goals kernel_rfl)|((refine g_cond rfl (fun hc => ?_) (fun hc => ?_)) <;> (try simp only [dcB] at hc) <;> (try first|contradiction|(exfalso;omega)))|fail
    repeat refine cr ?_
    refine ends_id ?_
    refine endK [?_] (h2 := ?_) (h3 := ?_) (nd := ?_)
    rotate_left 1
    all_goals (repeat' first|exact ce0|refine ce ?_|refine ce2 ?_ ?_|(refine Or.inr (bx_eq rfl rfl ?_);(try dsimp only [C.ren,C.ren.all]);(try exact rfl))|exact SVLe.refl|refine ceb ?_)
    all_goals first | exact (show nodupB _ = true from rfl) | exact Or.inr rfl | (rfl)
  · obtain ⟨⟨w1',w2'⟩,w3',w4',w5'⟩ := hr.ok.resolve_left hn
    by_cases hm1 : r.m = 1
    · have e : headZ m r v = rightZ m.sy r.w := by unfold headZ; rw [if_neg hn,if_pos hm1]
      rw [e]
      refine does_of (k := 0) Tryz.func201 rfl Tryz.ntmps201 rfl rfl fun w F0 S0 ρ0 => ?_
      dsimp only [argT,argH]
      repeat' first|(apply n3;(first|exact a_new (gb := .bx _) rfl|exact a_litE ePz [⟨_,_,_⟩,⟨_,_,_⟩,⟨_,_,_⟩] rfl rfl rfl rfl rfl rfl rfl rfl);exact rfl;refine dA ?_)|(apply p3;(first|exact pu1|exact puC);exact rfl)|refine cd ?_|(apply c4 1;exact callK1 (θ := [_]) (hD := (l14Add_ok _ _ _ preB266 preB266 preB266));exact rfl;exact rfl;exact rfl;refine dM ?_)|(apply g_drN (id := 1) okM [[],[],[0,1]] [([],[]),([],[]),([],[])] 0;(focus (refine dp 0 0 [9] [] puL ?_;refine dp 1 0 [8] [] (callD1 (n := _) 0 (θ := []) (hD := l05None_ok)) ?_;refine dp 2 3 [] [] (by exact a_eqRule (s := ⟨_,_,_⟩) rfl rfl) ?_;(refine d_nil ?_;refine dN ?_)));any_goals kernel_rfl)|((refine g_cond rfl (fun hc => ?_) (fun hc => ?_)) <;> (try simp only [dcB] at hc) <;> (try first|contradiction|(exfalso;omega)))|fail
      repeat refine cr ?_
      refine ends_id ?_
      refine endK [?_] (h2 := ?_) (h3 := ?_) (nd := ?_)
      rotate_left 1
      all_goals (repeat' first|exact ce0|refine ce ?_|refine ce2 ?_ ?_|(refine Or.inr (bx_eq rfl rfl ?_);(try dsimp only [C.ren,C.ren.all]);(try exact rfl))|exact SVLe.refl|refine ceb ?_)
      all_goals first | exact (show nodupB _ = true from rfl) | exact Or.inr rfl | (rfl)
    · have e : headZ m r v = haltZ m.sy r.w := by unfold headZ; rw [if_neg hn,if_neg hm1]
      rw [e]
      refine does_of (k := 0) Tryz.func201 rfl Tryz.ntmps201 rfl rfl fun w F0 S0 ρ0 => ?_
      dsimp only [argT,argH]
      repeat' first|(apply n3;(exact a_new (gb := .bx _) rfl);exact rfl;refine dA ?_)|(apply p3;(first|exact pu1|exact puC);exact rfl)|refine cd ?_|(apply g_drN (id := 1) okM [[],[],[0,1]] [([],[]),([],[]),([],[])] 0;(focus (refine dp 0 0 [9] [] puL ?_;refine dp 1 0 [8] [] (callD1 (n := _) 0 (θ := []) (hD := l05None_ok)) ?_;refine dp 2 3 [] [] (by exact a_eqRule (s := ⟨_,_,_⟩) rfl rfl) ?_;(refine d_nil ?_;refine dN ?_)));any_goals kernel_rfl)|(apply g_drN (id := 6) okM [[],[0],[0,1],[0,1,2],[0,1,2,3],[0,1,2,3,4],[],[6],[0,1,2,3,4,5,6,7],[0,1,2,3,4,5,6,7,8]] [([],[]),([],[]),([],[]),([],[]),([],[]),([0],[]),([],[]),([],[]),([1],[_]),([],[])] 2;(focus (refine dp 0 0 [40,41] [] pu1 ?_;refine dp 1 1 [40,41] [] (a_pure (sv := .one _) rfl) ?_;refine dp 2 3 [40,41] [] (a_pure (sv := .one _) rfl) ?_;refine dp 3 7 [40,41] [] puL ?_;refine dp 4 15 [40,41] [] (a_pure (sv := .agg _) rfl) ?_;refine duE 5 31 [40,41] [] (atN 0 (fun _ => a_litE ePz [⟨_,_,_⟩] rfl rfl rfl rfl rfl rfl rfl rfl)) (by exact rfl) (by exact rfl) ?_;refine dp 6 0 [34,35,36,37,38,39] [(true,0)] (a_pure (sv := .one _) rfl) ?_;refine dp 7 1 [34,35,36,37,38,39] [(true,0)] puL ?_;refine duN 8 255 [] [] (callD1 (n := _) 1 (θ := [_]) (hD := (l14Add_ok _ _ _ preB266 preB266 preB266))) (by exact rfl) (by exact rfl) ?_;refine dp 9 511 [] [] pu1 ?_;(refine d_nil ?_;refine dN ?_)));any_goals kernel_rfl)|((refine g_cond rfl (fun hc => ?_) (fun hc => ?_)) <;> (try simp only [dcB] at hc) <;> (try first|contradiction|(exfalso;omega)))|fail
      repeat refine cr ?_
      refine ends_id ?_
      refine endK [?_] (h2 := ?_) (h3 := ?_) (nd := ?_)
      rotate_left 1
      all_goals (repeat' first|exact ce0|refine ce ?_|refine ce2 ?_ ?_|(refine Or.inr (bx_eq rfl rfl ?_);(try dsimp only [C.ren,C.ren.all]);(try exact rfl))|exact SVLe.refl|refine ceb ?_)
      all_goals first | exact (show nodupB _ = true from rfl) | exact Or.inr rfl | (rfl)
theorem l14Lengths_ok (ls : List (List Pz)) (h : ∀ l ∈ ls,PzOk l ∧ l.length ≤ 100) (hn : (ls.length : Int) ≤ 100) : Does Tryz.prog 202 [.one (shTz ls)] [] (.one (.gv 0)) [roI (ls.map lenZ)] := by
  refine does_of (k := 0) Tryz.func202 rfl Tryz.ntmps202 rfl rfl fun w F0 S0 ρ0 => ?_
  dsimp only [argT,argH]
  repeat' first|(apply n3;(exact a_litE eI [] rfl rfl rfl rfl rfl rfl rfl rfl);exact rfl;refine dA ?_)|(apply p3;(exact pu1);exact rfl)|refine cd ?_|fail
  refine g_loop_id ?_
  refine loopK [0,2] [0] (fun x : Int × List Int => 0 ≤ x.1 ∧ x.1 ≤ ls.length ∧ x.2 = (ls.take x.1.toNat).map lenZ) (fun x => [(4,.one (int x.1)),(3,.one (.gv 0))]) (fun x => [(0,roI x.2)]) (fun x => (ls.length - x.1).toNat) ((0 : Int),[]) [0] (hI := ?_) (hr := ?_)
  · exact ⟨by simp,by simp,rfl⟩
  · rintro ⟨i,T⟩ ⟨k0,k1,k2⟩
    dsimp only [List.cons_append,List.nil_append] at *
    skip
    repeat' first|refine cdn ?_|fail
    have hll : T.length = i.toNat := by rw [k2,List.length_map,List.length_take]; omega
    by_cases hi : i.toNat < ls.length
    · have hb := h _ (List.getElem_mem hi)
      repeat' first|(apply n3;(exact a_litE eI [_] rfl rfl rfl rfl rfl rfl rfl rfl);exact rfl;refine dA ?_)|(apply p3;(first|exact pu1|exact puN|exact puC|exact a_add rfl rfl (by omega) (by omega)|exact puI);exact rfl)|refine cd ?_|(apply s3;exact a_appE (fP rfl) rfl rfl rfl rfl nowR (by (simp <;> omega)) (by decide) (by decide) (by exact rfl);exact rfl;exact rfl)|(apply c4 0;exact callK1 (θ := []) (hD := (l14Length_ok ls[i.toNat] hb.1 preB266));exact rfl;exact rfl;exact rfl;refine dM ?_)|((refine g_cond rfl (fun hc => ?_) (fun hc => ?_)) <;> (try simp only [dcB] at hc) <;> (try first|contradiction|(exfalso;omega)))|fail
      refine q_again (i + 1,T ++ [lenZ ls[i.toNat]]) [2] (by exact stk) ?_ ?_
      · refine ⟨by dsimp only; omega,by dsimp only; omega,?_⟩
        dsimp only
        rw [k2,show (i + 1).toNat = i.toNat + 1 by omega,List.take_succ_eq_append_getElem hi,List.map_append]
        rfl
      · dsimp only; omega
    · skip
      have e : T = ls.map lenZ := by rw [k2,List.take_of_length_le (by omega)]
      rw [← e]
      repeat' first|(apply p3;(first|exact pu1|exact puN|exact puC);exact rfl)|refine cd ?_|((refine g_cond rfl (fun hc => ?_) (fun hc => ?_)) <;> (try simp only [dcB] at hc) <;> (try first|contradiction|(exfalso;omega)))|fail
      repeat refine cr ?_
      refine ends_id ?_
      refine endK [?_] (h2 := ?_) (h3 := ?_) (nd := ?_)
      rotate_left 1
      all_goals (repeat' first|exact ce0|refine ce ?_|refine ce2 ?_ ?_|(refine Or.inr (bx_eq rfl rfl ?_);(try dsimp only [C.ren,C.ren.all]);(try exact rfl))|exact SVLe.refl|refine ceb ?_)
      all_goals first | exact (show nodupB _ = true from rfl) | exact Or.inr rfl | (rfl)
@[irreducible] def tlsZ (sy : Int) : List Int := ((rngI sy.toNat).map (tailZ sy)).map lenZ
theorem tlsZ_bd {sy : Int} (h1 : 1 ≤ sy) (h2 : sy ≤ 6) : (∀ x ∈ tlsZ sy,0 ≤ x ∧ x ≤ 1000) ∧ (tlsZ sy).length = sy.toNat := by
  unfold tlsZ
  refine ⟨fun x hx => ?_,by rw [List.length_map,List.length_map,rngI_len]⟩
  obtain ⟨l,hl,rfl⟩ := List.mem_map.1 hx
  obtain ⟨y,hy,rfl⟩ := List.mem_map.1 hl
  have hb := rngI_mem hy
  have := lenZ_bd (tailZ_ok y h1 h2)
  have hlen : (tailZ sy y).length = 3 + y.toNat := by simp; omega
  omega
theorem sum_bd {l : List Int} {B : Int} (h : ∀ x ∈ l,0 ≤ x ∧ x ≤ B) : 0 ≤ l.sum ∧ l.sum ≤ B * l.length := by
  induction l with
  | nil => simp
  | cons a l ih =>
    have h1 := h a (by simp)
    have h2 := ih fun x hx => h x (List.mem_cons_of_mem _ hx)
    rw [List.sum_cons,List.length_cons,Int.natCast_succ,Int.mul_add,Int.mul_one]
    omega
@[irreducible] def partZ (m : Mach) (r : Rule') (v : Int) : Int := lenZ (headZ m r v) + (if r ≠ noR ∧ r.m = -1 then m.sy + 1 + (tlsZ m.sy).sum else 0)
theorem partZ_bd {m : Mach} {r : Rule'} {v : Int} (hm : MaOk m) (hr : RuOk m r) (h0 : 0 ≤ v) (h1 : v ≤ m.sy - 1) : 0 ≤ partZ m r v ∧ partZ m r v ≤ 8000 := by
  obtain ⟨a1,a2⟩ := headZ_ok hm hr h0 h1
  have a3 := lenZ_bd a1
  obtain ⟨⟨ya,yb⟩,_⟩ := hm
  obtain ⟨b1,b2⟩ := tlsZ_bd (sy := m.sy) (by omega) yb
  have b3 := sum_bd b1
  unfold partZ
  split <;> omega
theorem l14Part_ok (m : Mach) (r : Rule') (v : Int) (hm : MaOk m) (hr : RuOk m r) (h0 : 0 ≤ v) (h1 : v ≤ m.sy - 1) : Does Tryz.prog 147 [.one (maB m),.agg (ruC r),.one (int v)] [] (.one (int (partZ m r v))) [] := by
  obtain ⟨ya,yb⟩ := hm.sy
  obtain ⟨a1,a2⟩ := headZ_ok hm hr h0 h1
  have a3 := lenZ_bd a1
  obtain ⟨b1,b2⟩ := tlsZ_bd (sy := m.sy) (by omega) yb
  have b3 := sum_bd b1
  have hh2 : ((headZ m r v).length : Int) ≤ 100 := by omega
  have hT : ∀ l ∈ (rngI m.sy.toNat).map (tailZ m.sy),PzOk l ∧ l.length ≤ 100 := fun l hl => by
    obtain ⟨y,hy,rfl⟩ := List.mem_map.1 hl
    have hb := rngI_mem hy
    exact ⟨tailZ_ok y (by omega) yb,by simp; omega⟩
  have hT2 : (((rngI m.sy.toNat).map (tailZ m.sy)).length : Int) ≤ 100 := by rw [List.length_map,rngI_len]; omega
  have hT3 : ((rngI m.sy.toNat).map (tailZ m.sy)).map lenZ = tlsZ m.sy := by unfold tlsZ; rfl
  by_cases hn : r ≠ noR ∧ r.m = -1
  · have e : partZ m r v = lenZ (headZ m r v) + (m.sy + 1 + (tlsZ m.sy).sum) := by unfold partZ; rw [if_pos hn]
    rw [e]
    refine does_of (k := 0) Tryz.func147 rfl Tryz.ntmps147 rfl rfl fun w F0 S0 ρ0 => ?_
    dsimp only [argT,argH]
    repeat' first|(apply n3;exact a_new (gb := .bx _) rfl;exact rfl;refine dA ?_)|(apply p3;(first|exact pu1|exact a_add rfl rfl (by omega) (by omega));exact rfl)|refine cd ?_|(apply c4 1;exact callK1 (θ := []) (hD := (l14Head_ok m r v hm hr h0 h1));exact rfl;exact rfl;exact rfl;refine dM ?_)|(apply c4 0;exact callK1 (θ := []) (hD := (l14Length_ok (headZ m r v) a1 hh2));exact rfl;exact rfl;exact rfl;refine dM ?_)|(apply c4 1;exact callK0 (θ := []) (hD := (l14Tails_ok _ preB266 preB266));exact rfl;exact rfl;exact rfl;refine dM ?_)|(apply c4 1;exact callK1 (θ := []) (hD := (l14Lengths_ok ((rngI m.sy.toNat).map (tailZ m.sy)) hT hT2));exact rfl;exact rfl;exact rfl;refine dM ?_)|(apply g_drN (id := 2) okM [[],[],[0,1],[0,1,2],[0,1,2,3],[0,1,2,3,4],[0,1,2,3,4,5],[0,1,2,3,4,5,6]] [([],[]),([],[]),([],[]),([],[]),([],[]),([],[]),([],[]),([],[])] 0;(focus (all_goals refine dp 0 0 [16] [] puL ?_;all_goals refine dp 1 0 [15] [] (callD1 (n := _) 0 (θ := []) (hD := l05None_ok)) ?_;all_goals refine dp 2 3 [] [] (by exact a_neRule (s := ⟨_,_,_⟩) rfl rfl) ?_;all_goals (refine db 3 7 [] [] pu1 ?_ ?_ <;> (intro hc;first|cases hc|(try simp only [dcB] at hc);first|contradiction|(exfalso;omega)|skip));all_goals (first|refine dn 4 15 [] [] ?_|refine dpy 4 15 [] [] (a_pure (sv := .one _) rfl) ?_);all_goals (first|refine dn 5 31 [] [] ?_|refine dpy 5 31 [] [] puL ?_);all_goals (first|refine dn 6 63 [] [] ?_|refine dpy 6 63 [] [] (by first|exact puC|exact a_eqS rfl rfl rfl) ?_);all_goals refine dp 7 127 [] [] (a_pure (sv := .one _) rfl) ?_;all_goals (refine d_nil ?_;refine dN ?_)));any_goals kernel_rfl)|((refine g_cond rfl (fun hc => ?_) (fun hc => ?_)) <;> (try simp only [dcB] at hc) <;> (try first|contradiction|(exfalso;omega)))|fail
    all_goals first | (exfalso; exact hn.1 (by assumption)) | skip
    rw [hT3]
    refine g_loop_id ?_
    refine loopK [6,8] [3] (fun x : Int × Int => 0 ≤ x.1 ∧ x.1 ≤ (tlsZ m.sy).length ∧ x.2 = lenZ (headZ m r v) + (m.sy + 1) + ((tlsZ m.sy).take x.1.toNat).sum) (fun x => [(9,.one (int x.1)),(7,.one (int x.2))]) (fun _ => [(3,roI (tlsZ m.sy))]) (fun x => ((tlsZ m.sy).length - x.1).toNat) ((0 : Int),lenZ (headZ m r v) + (m.sy + 1)) [0,1,2,3] (hI := ?_) (hr := ?_)
    · exact ⟨by simp,by simp,by simp⟩
    · rintro ⟨i,u⟩ ⟨k0,k1,k2⟩
      dsimp only [List.cons_append,List.nil_append] at *
      skip
      repeat' first|refine cdn ?_|fail
      have hs := sum_bd (l := (tlsZ m.sy).take i.toNat) fun x hx => b1 x (List.mem_of_mem_take hx)
      have htl : ((tlsZ m.sy).take i.toNat).length = i.toNat := by rw [List.length_take]; omega
      by_cases hi : i.toNat < (tlsZ m.sy).length
      · have hb := b1 _ (List.getElem_mem hi)
        have e2 : ((tlsZ m.sy).take (i + 1).toNat).sum = ((tlsZ m.sy).take i.toNat).sum + (tlsZ m.sy)[i.toNat] := by rw [show (i + 1).toNat = i.toNat + 1 by omega,List.take_succ_eq_append_getElem hi,List.sum_append,List.sum_cons,List.sum_nil]; omega
        repeat' first|(apply p3;(first|exact pu1|exact puL|exact puN|exact puC|exact a_add rfl rfl (by omega) (by omega)|exact puI);exact rfl)|refine cd ?_|((refine g_cond rfl (fun hc => ?_) (fun hc => ?_)) <;> (try simp only [dcB] at hc) <;> (try first|contradiction|(exfalso;omega)))|fail
        refine q_again (i + 1,u + (tlsZ m.sy)[i.toNat]) [0,1,2,3] (by exact stk) ?_ ?_
        · exact ⟨by dsimp only; omega,by dsimp only; omega,by dsimp only; omega⟩
        · dsimp only; omega
      · skip
        rw [List.take_of_length_le (by omega)] at k2
        have e3 : u = lenZ (headZ m r v) + (m.sy + 1 + (tlsZ m.sy).sum) := by omega
        rw [← e3]
        repeat' first|(apply p3;(first|exact pu1|exact puN|exact puC);exact rfl)|refine cd ?_|((refine g_cond rfl (fun hc => ?_) (fun hc => ?_)) <;> (try simp only [dcB] at hc) <;> (try first|contradiction|(exfalso;omega)))|fail
        repeat refine cr ?_
        refine ends_id ?_
        refine endK [] (h2 := ?_) (h3 := ?_) (nd := ?_)
        all_goals (repeat' first|exact ce0|refine ce ?_|refine ce2 ?_ ?_|exact SVLe.refl|refine ceb ?_)
        all_goals first | exact (show nodupB _ = true from rfl) | exact Or.inr rfl | (rfl)
  · have e : partZ m r v = lenZ (headZ m r v) := by unfold partZ; rw [if_neg hn]; omega
    rw [e]
    refine does_of (k := 0) Tryz.func147 rfl Tryz.ntmps147 rfl rfl fun w F0 S0 ρ0 => ?_
    dsimp only [argT,argH]
    repeat' first|(apply n3;exact a_new (gb := .bx _) rfl;exact rfl;refine dA ?_)|(apply p3;(first|exact pu1|exact a_add rfl rfl (by omega) (by omega));exact rfl)|refine cd ?_|(apply c4 1;exact callK1 (θ := []) (hD := (l14Head_ok m r v hm hr h0 h1));exact rfl;exact rfl;exact rfl;refine dM ?_)|(apply c4 0;exact callK1 (θ := []) (hD := (l14Length_ok (headZ m r v) a1 hh2));exact rfl;exact rfl;exact rfl;refine dM ?_)|(apply c4 1;exact callK0 (θ := []) (hD := (l14Tails_ok _ preB266 preB266));exact rfl;exact rfl;exact rfl;refine dM ?_)|(apply c4 1;exact callK1 (θ := []) (hD := (l14Lengths_ok ((rngI m.sy.toNat).map (tailZ m.sy)) hT hT2));exact rfl;exact rfl;exact rfl;refine dM ?_)|(apply g_drN (id := 2) okM [[],[],[0,1],[0,1,2],[0,1,2,3],[0,1,2,3,4],[0,1,2,3,4,5],[0,1,2,3,4,5,6]] [([],[]),([],[]),([],[]),([],[]),([],[]),([],[]),([],[]),([],[])] 0;(focus (all_goals refine dp 0 0 [16] [] puL ?_;all_goals refine dp 1 0 [15] [] (callD1 (n := _) 0 (θ := []) (hD := l05None_ok)) ?_;all_goals refine dp 2 3 [] [] (by exact a_neRule (s := ⟨_,_,_⟩) rfl rfl) ?_;all_goals (refine db 3 7 [] [] pu1 ?_ ?_ <;> (intro hc;first|cases hc|(try simp only [dcB] at hc);first|contradiction|(exfalso;omega)|skip));all_goals (first|refine dn 4 15 [] [] ?_|refine dpy 4 15 [] [] (a_pure (sv := .one _) rfl) ?_);all_goals (first|refine dn 5 31 [] [] ?_|refine dpy 5 31 [] [] puL ?_);all_goals (first|refine dn 6 63 [] [] ?_|refine dpy 6 63 [] [] (by first|exact puC|exact a_eqS rfl rfl rfl) ?_);all_goals refine dp 7 127 [] [] (a_pure (sv := .one _) rfl) ?_;all_goals (refine d_nil ?_;refine dN ?_)));any_goals kernel_rfl)|((refine g_cond rfl (fun hc => ?_) (fun hc => ?_)) <;> (try simp only [dcB] at hc) <;> (try first|contradiction|(exfalso;omega)))|fail
    all_goals first | (exfalso; exact hn ⟨by assumption,by assumption⟩) | skip
    · repeat refine cr ?_
      refine ends_id ?_
      refine endK [] (h2 := ?_) (h3 := ?_) (nd := ?_)
      all_goals (repeat' first|exact ce0|refine ce ?_|refine ce2 ?_ ?_|exact SVLe.refl|refine ceb ?_)
      all_goals first | exact (show nodupB _ = true from rfl) | exact Or.inr rfl | (rfl)
    · repeat refine cr ?_
      refine ends_id ?_
      refine endK [] (h2 := ?_) (h3 := ?_) (nd := ?_)
      all_goals (repeat' first|exact ce0|refine ce ?_|refine ce2 ?_ ?_|exact SVLe.refl|refine ceb ?_)
      all_goals first | exact (show nodupB _ = true from rfl) | exact Or.inr rfl | (rfl)
end Go.Proofs.YtegpggobfdcafaaGreat
end
section
set_option linter.unusedVariables false
set_option linter.unusedSimpArgs false
set_option maxRecDepth 100000
set_option maxHeartbeats 4000000
namespace Go.Proofs.YtegpggobfdcafaaGreat
open Go Foot Go.RowKit
@[irreducible] def secZ (m : Mach) (q : Int) : Int := m.sy + 1 + ((rngI m.sy.toNat).map fun v => partZ m (ruQ m q v) v).sum
def atZ (m : Mach) : Nat → Int
  | 0 => 0
  | k + 1 => atZ m k + secZ m k
@[irreducible] def begZ (m : Mach) (k : Nat) : List Int := (List.range k).map (atZ m)
theorem begZ_succ (m : Mach) (k : Nat) : begZ m (k + 1) = begZ m k ++ [atZ m k] := by unfold begZ; rw [List.range_succ,List.map_append]; rfl
theorem begZ_len (m : Mach) (k : Nat) : (begZ m k).length = k := by unfold begZ; simp
@[irreducible] def inZ (m : Mach) (q : Int) (k : Nat) : Int := ((rngI k).map fun v => partZ m (ruQ m q v) v).sum
theorem inZ_succ (m : Mach) (q : Int) (k : Nat) : inZ m q (k + 1) = inZ m q k + partZ m (ruQ m q k) k := by
  unfold inZ
  rw [rngI_succ,List.map_append,List.sum_append,List.map_cons,List.map_nil,List.sum_cons,List.sum_nil]
  omega
theorem inZ_bd {m : Mach} (hm : MaRu m) {q : Int} (h1 : 0 ≤ q) (h2 : q ≤ m.st - 1) : ∀ k : Nat,(k : Int) ≤ m.sy → 0 ≤ inZ m q k ∧ inZ m q k ≤ 8000 * k
  | 0,_ => by unfold inZ; simp [rngI]
  | k + 1,hk => by
    have ih := inZ_bd hm h1 h2 k (by omega)
    have := partZ_bd hm.ok (hm.ru q k h1 h2 (by omega) (by omega)) (show (0 : Int) ≤ (k : Int) by omega) (by omega)
    rw [inZ_succ]
    omega
theorem secZ_in (m : Mach) (q : Int) : secZ m q = m.sy + 1 + inZ m q m.sy.toNat := by unfold secZ inZ; rfl
theorem atZ_bd {m : Mach} (hm : MaRu m) : ∀ k : Nat,(k : Int) ≤ m.st → 0 ≤ atZ m k ∧ atZ m k ≤ 60000 * k
  | 0,_ => by simp [atZ]
  | k + 1,hk => by
    have ih := atZ_bd hm k (by omega)
    obtain ⟨⟨ya,yb⟩,_⟩ := hm.ok
    have := inZ_bd hm (q := (k : Int)) (by omega) (by omega) m.sy.toNat (by omega)
    rw [atZ,secZ_in]
    omega
theorem preB267 {p : Prop} (h : p := by first | with_reducible assumption | omega | (simp only [List.length_append,List.length_cons,List.length_nil,List.length_set,List.length_replicate,List.length_take,List.length_drop,List.length_tail,List.length_dropLast,List.length_reverse] at *; omega) | exact mem_len (by assumption) (by omega) | (with_reducible refine Int.le_trans (Int.ofNat_le.2 (trimR_len _)) ?_; simp only [List.length_cons,List.length_tail]; omega) | (exact (ruAt_ok (by assumption) (by assumption) (by assumption)).2.1) | (exact (ruAt_ok (by assumption) (by assumption) (by assumption)).2.1) | (have := vMach_bd (by assumption); omega) | (simp only [List.length_append,List.length_cons,List.length_nil,repW_len,seN_len] at *; omega) | (simp only [mC_ch,mC_tu]; omega) | (have := vTag_bd (by assumption); omega) | (have := (‹Gd _ _›).le; omega) | (exact tgHalts_no (by assumption)) | (exact tgHead (by assumption) (by assumption) (by assumption)) | (exact Int.le_trans (tgStep_gd (by assumption) (by assumption) (by assumption) (by assumption)).le (by decide)) | (exact vTag_r (by assumption)) | (with_reducible refine Int.le_trans (Int.ofNat_le.2 (pushL_len _ _)) ?_; simp only [List.length_dropLast]; omega) | exact ls_at (by assumption) (by omega) | exact pt_gd (by assumption) | exact lv_at (by assumption) (by omega) | exact pt_gd (lv_at (by assumption) (by omega)) | exact (ask_ok (by assumption)).1 | exact (ask_ok (by assumption)).2.1 | exact (ask_ok (by assumption)).2.2.1 | exact (ask_ok (by assumption)).2.2.2 | trivial) : p := h
theorem l14Starts_ok (m : Mach) (hv : vMach m = true) : Does Tryz.prog 87 [.one (maB m)] [] (.tup [(false,[.gv 0]),(false,[int (atZ m m.st.toNat)])]) [roI (begZ m m.st.toNat)] := by
  have hm := maRu_of hv
  obtain ⟨⟨ya,yb⟩,yc,yd⟩ := hm.ok
  have hrl : (m.ru.length : Int) ≤ 6000 := by
    have := hm.len
    have a3 : m.sy * m.st ≤ 6 * m.st := Int.mul_le_mul_of_nonneg_right yb (by omega)
    omega
  refine does_of (k := 0) Tryz.func87 rfl Tryz.ntmps87 rfl rfl fun w F0 S0 ρ0 => ?_
  dsimp only [argT,argH]
  repeat' first|(apply n3;(exact a_litE eI [] rfl rfl rfl rfl rfl rfl rfl rfl);exact rfl;refine dA ?_)|(apply p3;(exact pu1);exact rfl)|refine cd ?_|fail
  refine g_loop_id ?_
  refine loopK [0,2,3] [0] (fun x : Int × Int × List Int => 0 ≤ x.1 ∧ x.1 ≤ m.st ∧ x.2.1 = atZ m x.1.toNat ∧ x.2.2 = begZ m x.1.toNat) (fun x => [(6,.one (int x.1)),(5,.one (int x.2.1)),(4,.one (.gv 0))]) (fun x => [(0,roI x.2.2)]) (fun x => (m.st - x.1).toNat) ((0 : Int),(0 : Int),[]) [0] (hI := ?_) (hr := ?_)
  · exact ⟨by simp,by dsimp only; omega,rfl,by unfold begZ; rfl⟩
  · rintro ⟨q,u,T⟩ ⟨k0,k1,k2,k3⟩
    dsimp only [List.cons_append,List.nil_append] at *
    skip
    repeat' first|refine cdn ?_|fail
    have hab := atZ_bd hm q.toNat (by omega)
    have hTl : T.length = q.toNat := by rw [k3,begZ_len]
    by_cases hq : q < m.st
    · repeat' first|(apply n3;(exact a_litE eI [_] rfl rfl rfl rfl rfl rfl rfl rfl);exact rfl;refine dA ?_)|(apply p3;(first|exact pu1|exact puC|exact a_add rfl rfl (by omega) (by omega));exact rfl)|refine cd ?_|(apply s3;exact a_appE (fP rfl) rfl rfl rfl rfl nowR (by (simp <;> omega)) (by decide) (by decide) (by exact rfl);exact rfl;exact rfl)|((refine g_cond rfl (fun hc => ?_) (fun hc => ?_)) <;> (try simp only [dcB] at hc) <;> (try first|contradiction|(exfalso;omega)))|fail
      refine g_loop_id ?_
      refine loopK [0,2,3,4,6] [2] (fun y : Int × Int => 0 ≤ y.1 ∧ y.1 ≤ m.sy ∧ y.2 = u + (m.sy + 1) + inZ m q y.1.toNat) (fun y => [(7,.one (int y.1)),(5,.one (int y.2))]) (fun y => [(2,roI (T ++ [u]))]) (fun y => (m.sy - y.1).toNat) ((0 : Int),u + (m.sy + 1)) [0,1,2] (hI := ?_) (hr := ?_)
      · exact ⟨by simp,by dsimp only; omega,by unfold inZ; simp [rngI]⟩
      · rintro ⟨v,c⟩ ⟨n0',n1',n2'⟩
        dsimp only [List.cons_append,List.nil_append] at *
        skip
        repeat' first|refine cdn ?_|fail
        have hib := inZ_bd hm k0 (show q ≤ m.st - 1 by omega) v.toNat (by omega)
        by_cases hvv : v < m.sy
        · obtain ⟨x1,x2,x3⟩ := maRu_ix hm k0 (show q ≤ m.st - 1 by omega) n0' (show v ≤ m.sy - 1 by omega)
          have hix : (q * m.sy + v).toNat < m.ru.length := by omega
          have hrq := ruQ_get hix
          have hro := hm.ru q v k0 (by omega) n0' (by omega)
          have hpb := partZ_bd hm.ok hro n0' (show v ≤ m.sy - 1 by omega)
          rw [← hrq] at hro hpb
          repeat' first|(apply p3;(first|exact pu1|exact puC|exact a_add rfl rfl (by omega) (by omega));exact rfl)|refine cd ?_|(apply g_drN (id := 11) okM [[],[],[],[2],[2,3],[2,3,4],[],[],[7],[7,8],[7,8,9],[6,7,8,9,10],[],[6,7,8,9,10,11,12],[2,3,4,5,6,7,8,9,10,11,12,13],[2,3,4,5,6,7,8,9,10,11,12,13,14],[],[1,2,3,4,5,6,7,8,9,10,11,12,13,14,15,16],[0,1,2,3,4,5,6,7,8,9,10,11,12,13,14,15,16,17],[0,1,2,3,4,5,6,7,8,9,10,11,12,13,14,15,16,17,18]] [([],[]),([],[]),([],[]),([],[]),([],[]),([],[]),([],[]),([],[]),([],[]),([],[]),([],[]),([],[]),([],[]),([],[]),([],[]),([],[]),([],[]),([],[]),([],[]),([],[])] 0;(focus (refine dp 0 0 [37,38,39,40,41,42,43,44,45,46,47,48,49,50,51,52,53] [] pu1 ?_;refine dp 1 0 [36,38,39,40,41,42,43,44,45,46,47,48,49,50,51,52] [] pu1 ?_;refine dp 2 0 [36,37,42,43,44,45,46,47,48,49,52] [] pu1 ?_;refine dp 3 1 [36,37,42,43,44,45,46,47,48,49,52] [] (a_pure (sv := .one _) rfl) ?_;refine dp 4 3 [36,37,42,43,44,45,46,47,48,49,52] [] (a_pure (sv := .one _) rfl) ?_;refine dp 5 7 [36,37,42,43,44,45,46,47,48,49,52] [] (by exact puL) ?_;refine dp 6 0 [36,37,38,39,40,41,43,44,45,46,48,52] [] pu1 ?_;refine dp 7 0 [36,37,38,39,40,41,42,48,52] [] pu1 ?_;refine dp 8 1 [36,37,38,39,40,41,42,48,52] [] (a_pure (sv := .one _) rfl) ?_;refine dp 9 3 [36,37,38,39,40,41,42,48,52] [] (a_pure (sv := .one _) rfl) ?_;refine dp 10 7 [36,37,38,39,40,41,42,48,52] [] (by exact puL) ?_;refine dp 11 31 [36,37,38,39,40,41,48,52] [] (by exact a_mulB rfl rfl (by omega) (by omega) (by omega) (by omega)) ?_;refine dp 12 0 [36,37,38,39,40,41,42,43,44,45,46,47,52] [] pu1 ?_;refine dp 13 127 [36,37,38,39,40,41,52] [] (a_add rfl rfl (by omega) (by omega)) ?_;refine dp 14 4095 [36,37,52] [] puI ?_;refine dp 15 8191 [36,37,52] [] (by exact puL) ?_;refine dp 16 0 [36,37,38,39,40,41,42,43,44,45,46,47,48,49,50,51] [] pu1 ?_;refine dp 17 65535 [36] [] (callD1 (n := _) 0 (θ := []) (hD := (l14Part_ok m m.ru[(q * m.sy + v).toNat] v hm.ok hro n0' preB267))) ?_;refine dp 18 262143 [] [] (a_add rfl rfl (by omega) (by omega)) ?_;refine dp 19 524287 [] [] pu1 ?_;(refine d_nil ?_;refine dN ?_)));any_goals kernel_rfl)|((refine g_cond rfl (fun hc => ?_) (fun hc => ?_)) <;> (try simp only [dcB] at hc) <;> (try first|contradiction|(exfalso;omega)))|fail
          rw [hrq]
          refine q_again (v + 1,c + partZ m (ruQ m q v) v) [0,1,2] (by exact stk) ?_ ?_
          · refine ⟨by dsimp only; omega,by dsimp only; omega,?_⟩
            dsimp only
            rw [n2',show (v + 1).toNat = v.toNat + 1 by omega,inZ_succ,show ((v.toNat : Nat) : Int) = v by omega]
            omega
          · dsimp only; omega
        · skip
          have hcc : c = u + secZ m q := by rw [n2',secZ_in,show v = m.sy by omega]; omega
          repeat' first|(apply p3;(first|exact pu1|exact puC|exact a_add rfl rfl (by omega) (by omega));exact rfl)|refine cd ?_|((refine g_cond rfl (fun hc => ?_) (fun hc => ?_)) <;> (try simp only [dcB] at hc) <;> (try first|contradiction|(exfalso;omega)))|fail
          refine q_again (q + 1,c,T ++ [u]) [2] (by exact stk) ?_ ?_
          · refine ⟨by dsimp only; omega,by dsimp only; omega,?_,?_⟩
            · dsimp only
              rw [hcc,k2,show (q + 1).toNat = q.toNat + 1 by omega,atZ,show ((q.toNat : Nat) : Int) = q by omega]
            · dsimp only
              rw [k3,k2,show (q + 1).toNat = q.toNat + 1 by omega,begZ_succ]
          · dsimp only; omega
    · skip
      rw [show q = m.st by omega] at k2 k3
      rw [← k2,← k3]
      repeat' first|(apply p3;(first|exact pu1|exact puC);exact rfl)|refine cd ?_|((refine g_cond rfl (fun hc => ?_) (fun hc => ?_)) <;> (try simp only [dcB] at hc) <;> (try first|contradiction|(exfalso;omega)))|fail
      repeat refine cr ?_
      refine ends_id ?_
      refine endK [?_] (h2 := ?_) (h3 := ?_) (nd := ?_)
      rotate_left 1
      all_goals (repeat' first|exact ce0|refine ce ?_|refine ce2 ?_ ?_|(refine Or.inr (bx_eq rfl rfl ?_);(try dsimp only [C.ren,C.ren.all]);(try exact rfl))|exact SVLe.refl|refine ceb ?_)
      all_goals first | exact (show nodupB _ = true from rfl) | exact Or.inr rfl | (rfl)
theorem l20Fits_ok (m : Mach) (hv : vMach m = true) : Does Tryz.prog 33 [.one (maB m)] [] (.one (boo (decide (atZ m m.st.toNat ≤ 400)))) [] := by
  refine does_of (k := 0) Tryz.func33 rfl Tryz.ntmps33 rfl rfl fun w F0 S0 ρ0 => ?_
  dsimp only [argT,argH]
  repeat' first|(apply p3;(first|exact pu1|exact puC);exact rfl)|refine cd ?_|(apply c4 1;exact callK1 (θ := []) (hD := (l14Starts_ok _ preB267));exact rfl;exact rfl;exact rfl;refine dM ?_)|fail
  repeat refine cr ?_
  refine ends_id ?_
  refine endK [] (h2 := ?_) (h3 := ?_) (nd := ?_)
  all_goals (repeat' first|exact ce0|refine ce ?_|refine ce2 ?_ ?_|exact SVLe.refl|refine ceb ?_)
  all_goals first | exact (show nodupB _ = true from rfl) | exact Or.inr rfl | (rfl)
theorem bodA_len {X : Type} (ef : X → As → As) (c : X → Nat) : ∀ (l : List X) (i : Nat) (A : As),(∀ x ∈ l,∀ A,AsOk A → AsOk (ef x A) ∧ (ef x A).is.length = A.is.length + c x) → AsOk A → (bodA (l.map ef) i A).is.length = A.is.length + (l.map c).sum
  | [],i,A,_,_ => by simp [bodA]
  | x :: l,i,A,h,hA => by
    have h1 := h x (by simp) _ (hA.here i)
    rw [List.map_cons,bodA,bodA_len ef c l (i + 1) _ (fun y hy => h y (List.mem_cons_of_mem _ hy)) h1.1,h1.2,len_here,List.map_cons,List.sum_cons]
    omega
theorem splitA_len {X : Type} (f t : Int) (ef : X → As → As) (c : X → Nat) (l : List X) {A : As} (h : ∀ x ∈ l,∀ A,AsOk A → AsOk (ef x A) ∧ (ef x A).is.length = A.is.length + c x) (hA : AsOk A) : (splitA f t (l.map ef) A).is.length = A.is.length + (l.length + 1) + (l.map c).sum := by
  unfold splitA
  obtain ⟨h1,h2,h3⟩ := hdsA_ok f (hA.spot.here A.sp.length) (l.map ef).length
  rw [bodA_len ef c l _ _ h (h1.emit 0 t _ none),len_emit,h2,len_here,len_spot,List.length_map]
  omega
theorem lenZ_rep (r : Int) : ∀ n : Nat,lenZ (List.replicate n ⟨0,r,0⟩) = n
  | 0 => rfl
  | n + 1 => by
    have ih := lenZ_rep r n
    unfold lenZ at *
    rw [List.replicate_succ,List.map_cons,List.sum_cons,ih]
    simp only
    omega
theorem lenZ_tail (sy y : Int) : lenZ (tailZ sy y) = 5 + sy + y.toNat := by
  unfold tailZ
  rw [lenZ_app,lenZ_rep]
  simp [lenZ]
  omega
theorem lenZ_halt (sy y : Int) : lenZ (haltZ sy y) = 1 + sy + y.toNat := by
  unfold haltZ
  rw [lenZ_app,lenZ_rep]
  simp [lenZ]
  omega
theorem lenZ_right (sy y : Int) : lenZ (rightZ sy y) = 5 + sy + y.toNat := by
  unfold rightZ
  rw [lenZ_app,lenZ_rep]
  simp [lenZ]
  omega
theorem sum_cast (l : List Int) (f : Int → Nat) (g : Int → Int) (h : ∀ x ∈ l,((f x : Nat) : Int) = g x) : (((l.map f).sum : Nat) : Int) = (l.map g).sum := by
  induction l with
  | nil => rfl
  | cons x l ih =>
    have h1 := h x (by simp)
    have h2 := ih fun y hy => h y (List.mem_cons_of_mem _ hy)
    rw [List.map_cons,List.sum_cons,List.map_cons,List.sum_cons,← h1,← h2]
    omega
theorem leftA_len {sy : Int} (tg : Nat) {A : As} (h1 : 1 ≤ sy) (h2 : sy ≤ 6) (hA : AsOk A) : AsOk (leftA sy tg A) ∧ ((leftA sy tg A).is.length : Int) = A.is.length + (sy + 1 + (tlsZ sy).sum) := by
  refine ⟨(leftA_ok tg h1 h2 hA).1,?_⟩
  unfold leftA
  have := splitA_len 0 2 (fun y A => chA A tg (tailP sy y)) (fun y => lenP (tailP sy y)) (rngI sy.toNat) (A := A) (fun y hy A hA => chA_ok tg (tailP sy y) A (tailP_ok h1 h2) hA) hA
  rw [this,rngI_len]
  have hs := sum_cast (rngI sy.toNat) (fun y => lenP (tailP sy y)) (fun y => lenZ (tailZ sy y)) (fun y hy => by
    have := rngI_mem hy
    try dsimp only
    rw [lenP_tail,lenZ_tail]
    omega)
  unfold tlsZ
  rw [List.map_map]
  rw [show (lenZ ∘ tailZ sy) = fun y => lenZ (tailZ sy y) from rfl,← hs]
  omega
theorem secE_len {m : Mach} {r : Rule'} {v : Int} (hm : MaOk m) (hr : RuOk m r) (h0 : 0 ≤ v) (h1 : v ≤ m.sy - 1) {A : As} (hA : AsOk A) : ((secE m r v A).is.length : Int) = A.is.length + partZ m r v := by
  obtain ⟨⟨ya,yb⟩,yc⟩ := hm
  unfold secE partZ headZ
  by_cases hn : r = noR
  · rw [if_pos hn,if_pos hn,if_neg (fun h => h.1 hn),(chA_ok m.st.toNat (haltP m.sy v) A (haltP_ok (by omega) yb) hA).2,lenP_halt,lenZ_halt]
    omega
  · obtain ⟨⟨w1',w2'⟩,w3',w4',w5'⟩ := hr.ok.resolve_left hn
    rw [if_neg hn,if_neg hn]
    by_cases hm1 : r.m = 1
    · rw [if_pos hm1,if_pos hm1,if_neg (fun h => by have := h.2; omega),(chA_ok r.n.toNat (rightP m.sy r.w) A (rightP_ok (by omega) yb) hA).2,lenP_right,lenZ_right]
      omega
    · have h3 := chA_ok A.sp.length (haltP m.sy r.w) A.spot (haltP_ok (by omega) yb) hA.spot
      rw [if_neg hm1,if_neg hm1,if_pos ⟨hn,by omega⟩,(leftA_len r.n.toNat (by omega) yb (h3.1.here A.sp.length)).2,len_here,h3.2,len_spot,lenP_halt,lenZ_halt]
      omega
theorem secA_len {m : Mach} (hm : MaRu m) {q : Int} (h1 : 0 ≤ q) (h2 : q ≤ m.st - 1) {A : As} (hA : AsOk A) : ((secA m q A).is.length : Int) = A.is.length + secZ m q := by
  obtain ⟨⟨ya,yb⟩,yc⟩ := hm.ok
  unfold secA secZ
  have hr : ∀ v ∈ rngI m.sy.toNat,0 ≤ v ∧ v ≤ m.sy - 1 ∧ RuOk m (ruQ m q v) := fun v hv => by
    have := rngI_mem hv
    exact ⟨this.1,by omega,hm.ru q v h1 h2 this.1 (by omega)⟩
  have := splitA_len 1 2 (fun v => secE m (ruQ m q v) v) (fun v => (partZ m (ruQ m q v) v).toNat) (rngI m.sy.toNat) (A := A) (fun v hv A hA => by
    obtain ⟨a1,a2,a3⟩ := hr v hv
    have b1 := partZ_bd hm.ok a3 a1 a2
    have b2 := secE_len hm.ok a3 a1 a2 hA
    exact ⟨(secE_ok hm.ok a3 a1 a2 hA).1,by omega⟩) hA
  rw [this,rngI_len]
  have hs := sum_cast (rngI m.sy.toNat) (fun v => (partZ m (ruQ m q v) v).toNat) (fun v => partZ m (ruQ m q v) v) (fun v hv => by
    obtain ⟨a1,a2,a3⟩ := hr v hv
    have b1 := partZ_bd hm.ok a3 a1 a2
    try dsimp only
    omega)
  rw [← hs]
  omega
theorem secs_len {m : Mach} (hm : MaRu m) : ∀ k : Nat,(k : Int) ≤ m.st → ((secs m k).is.length : Int) = atZ m k
  | 0,_ => by simp [secs,atZ]
  | k + 1,hk => by
    have h1 := secs_len hm k (by omega)
    rw [secs,secA_len hm (by omega) (by omega) ((secs_ok hm k (by omega)).1.here k),len_here,h1,atZ]
theorem plen_at {m : Mach} (hv : vMach m = true) : (plen m : Int) = atZ m m.st.toNat := by
  have hm := maRu_of hv
  have := hm.ok.st
  unfold plen
  exact secs_len hm m.st.toNat (by omega)
theorem mtpC_at {m : Mach} (hv : vMach m = true) : mtpC m = if atZ m m.st.toNat ≤ 400 then 0 else 5 := by
  unfold mtpC
  rw [plen_at hv]
end Go.Proofs.YtegpggobfdcafaaGreat
end
section
set_option linter.unusedVariables false
set_option linter.unusedSimpArgs false
set_option maxRecDepth 100000
set_option maxHeartbeats 4000000
namespace Go.Proofs.YtegpggobfdcafaaGreat
open Go Foot Go.RowKit
def numT (sy : Int) : List Int → Option Int
  | [] => some 0
  | c :: l => match numT sy l with
    | none => none
    | some n => if n * sy + c > 1000000 then none else some (n * sy + c)
@[irreducible] def numV (sy : Int) (l : List Int) : Int := (numT sy l).getD 0
@[irreducible] def numK (sy : Int) (l : List Int) : Bool := (numT sy l).isSome
theorem numT_some {sy : Int} {l : List Int} {n : Int} (h : numT sy l = some n) : numV sy l = n ∧ numK sy l = true := by unfold numV numK; rw [h]; exact ⟨rfl,rfl⟩
theorem numT_none {sy : Int} {l : List Int} (h : numT sy l = none) : numV sy l = 0 ∧ numK sy l = false := by unfold numV numK; rw [h]; exact ⟨rfl,rfl⟩
theorem numT_bd {sy : Int} (hs : 2 ≤ sy) : ∀ {l : List Int} {n : Int},(∀ c ∈ l,0 ≤ c ∧ c ≤ sy - 1) → numT sy l = some n → 0 ≤ n ∧ n ≤ 1000000
  | [],n,_,h => by simp only [numT,Option.some.injEq] at h; omega
  | c :: l,n,hc,h => by
    simp only [numT] at h
    cases hn : numT sy l with
    | none => rw [hn] at h; cases h
    | some k =>
      have ih := numT_bd hs (fun x hx => hc x (List.mem_cons_of_mem _ hx)) hn
      have h1 := hc c (by simp)
      rw [hn] at h
      simp only at h
      split at h
      · cases h
      · have hp : 0 ≤ k * sy := Int.mul_nonneg ih.1 (by omega)
        simp only [Option.some.injEq] at h
        omega
theorem numV_bd {sy : Int} (hs : 2 ≤ sy) {l : List Int} (hc : ∀ c ∈ l,0 ≤ c ∧ c ≤ sy - 1) : 0 ≤ numV sy l ∧ numV sy l ≤ 1000000 := by
  cases h : numT sy l with
  | none => rw [(numT_none h).1]; decide
  | some n => rw [(numT_some h).1]; exact numT_bd hs hc h
theorem numV_mod {sy : Int} (hs : 2 ≤ sy) {l : List Int} (hc : ∀ c ∈ l,0 ≤ c ∧ c ≤ sy - 1) (hk : numK sy l = true) : numV sy l % sy = l.headD 0 := by
  cases l with
  | nil => rw [(numT_some (l := []) rfl).1]; simp
  | cons c l =>
    have h1 := hc c (by simp)
    cases h : numT sy (c :: l) with
    | none => rw [(numT_none h).2] at hk; cases hk
    | some n =>
      rw [(numT_some h).1]
      simp only [numT] at h
      cases hn : numT sy l with
      | none => rw [hn] at h; cases h
      | some k =>
        rw [hn] at h
        simp only at h
        split at h
        · cases h
        · simp only [Option.some.injEq] at h
          rw [← h,List.headD_cons,Int.add_comm,Int.add_mul_emod_self_right,Int.emod_eq_of_lt h1.1 (by omega)]
theorem numT_drop {sy : Int} {l : List Int} {i : Nat} (hi : i < l.length) : numT sy (l.drop i) = match numT sy (l.drop (i + 1)) with
    | none => none
    | some n => if n * sy + l[i] > 1000000 then none else some (n * sy + l[i]) := by
  rw [List.drop_eq_getElem_cons hi,numT]
theorem numT_pre {sy : Int} {l : List Int} : ∀ {i : Nat},i ≤ l.length → numT sy (l.drop i) = none → numT sy l = none
  | 0,_,h => by simpa using h
  | i + 1,hi,h => by
    refine numT_pre (i := i) (by omega) ?_
    rw [numT_drop (show i < l.length by omega),h]
theorem tapeNumber_ok (l : List Int) (sy : Int) (hs : 2 ≤ sy) (hs2 : sy ≤ 6) (hc : ∀ c ∈ l,0 ≤ c ∧ c ≤ sy - 1) (hl : (l.length : Int) ≤ 1000) : Does Tryz.prog 108 [.one (shI l),.one (int sy)] [] (.tup [(false,[int (numV sy l)]),(false,[int (if numK sy l then 0 else 5)])]) [] := by
  refine does_of (k := 0) Tryz.func108 rfl Tryz.ntmps108 rfl rfl fun w F0 S0 ρ0 => ?_
  dsimp only [argT,argH]
  repeat' first|(apply p3;(first|exact pu1|exact puN|exact a_sub rfl rfl (by omega) (by omega));exact rfl)|refine cd ?_|fail
  refine g_loop_id ?_
  refine loopK [0,1,4,5] [] (fun x : Int × Int => -1 ≤ x.1 ∧ x.1 ≤ l.length - 1 ∧ numT sy (l.drop (x.1 + 1).toNat) = some x.2) (fun x => [(7,.one (int x.1)),(6,.one (int x.2))]) (fun _ => []) (fun x => (x.1 + 1).toNat) ((l.length : Int) - 1,(0 : Int)) [] (hI := ?_) (hr := ?_)
  · exact ⟨by dsimp only; omega,by dsimp only; omega,by dsimp only; rw [List.drop_of_length_le (by omega)]; rfl⟩
  · rintro ⟨i,n⟩ ⟨k0,k1,k2⟩
    dsimp only [List.cons_append,List.nil_append] at *
    skip
    repeat' first|refine cdn ?_|fail
    have hb := numT_bd hs (fun c h => hc c (List.mem_of_mem_drop h)) k2
    have hp : 0 ≤ n * sy := Int.mul_nonneg hb.1 (by omega)
    have hp2 : n * sy ≤ n * 6 := Int.mul_le_mul_of_nonneg_left hs2 hb.1
    by_cases hi : 0 ≤ i
    · have hil : i.toNat < l.length := by omega
      have hcl := hc _ (List.getElem_mem hil)
      have hd := numT_drop (sy := sy) hil
      rw [show (i + 1).toNat = i.toNat + 1 by omega] at k2
      rw [k2] at hd
      simp only at hd
      by_cases hbig : n * sy + l[i.toNat] > 1000000
      · rw [if_pos hbig] at hd
        obtain ⟨e1,e2⟩ := numT_none (numT_pre (by omega) hd)
        rw [e1,e2]
        repeat' first|(apply p3;(first|exact pu1|exact puC|exact a_mulB rfl rfl (by omega) (by omega) (by omega) (by omega)|exact a_add rfl rfl (by omega) (by omega)|exact puI);exact rfl)|refine cd ?_|((refine g_cond rfl (fun hc => ?_) (fun hc => ?_)) <;> (try simp only [dcB] at hc) <;> (try first|contradiction|(exfalso;omega)))|fail
        repeat refine cr ?_
        refine ends_id ?_
        refine endK [] (h2 := ?_) (h3 := ?_) (nd := ?_)
        all_goals (repeat' first|exact ce0|refine ce ?_|refine ce2 ?_ ?_|exact SVLe.refl|refine ceb ?_)
        all_goals first | exact (show nodupB _ = true from rfl) | exact Or.inr rfl | (rfl)
      · rw [if_neg hbig] at hd
        repeat' first|(apply p3;(first|exact pu1|exact a_sub rfl rfl (by omega) (by omega)|exact puC|exact a_mulB rfl rfl (by omega) (by omega) (by omega) (by omega)|exact a_add rfl rfl (by omega) (by omega)|exact puI);exact rfl)|refine cd ?_|((refine g_cond rfl (fun hc => ?_) (fun hc => ?_)) <;> (try simp only [dcB] at hc) <;> (try first|contradiction|(exfalso;omega)))|fail
        refine q_again (i - 1,n * sy + l[i.toNat]) [] (by exact stk) ?_ ?_
        · refine ⟨by dsimp only; omega,by dsimp only; omega,?_⟩
          dsimp only
          rw [show (i - 1 + 1).toNat = i.toNat by omega]
          exact hd
        · dsimp only; omega
    · skip
      rw [show (i + 1).toNat = 0 by omega,List.drop_zero] at k2
      obtain ⟨e1,e2⟩ := numT_some k2
      rw [e1,e2]
      repeat' first|(apply p3;(first|exact pu1|exact puC);exact rfl)|refine cd ?_|((refine g_cond rfl (fun hc => ?_) (fun hc => ?_)) <;> (try simp only [dcB] at hc) <;> (try first|contradiction|(exfalso;omega)))|fail
      repeat refine cr ?_
      refine ends_id ?_
      refine endK [] (h2 := ?_) (h3 := ?_) (nd := ?_)
      all_goals (repeat' first|exact ce0|refine ce ?_|refine ce2 ?_ ?_|exact SVLe.refl|refine ceb ?_)
      all_goals first | exact (show nodupB _ = true from rfl) | exact Or.inr rfl | (rfl)
theorem l14Number_ok (l : List Int) (sy : Int) (hs : 2 ≤ sy) (hs2 : sy ≤ 6) (hc : ∀ c ∈ l,0 ≤ c ∧ c ≤ sy - 1) (hl : (l.length : Int) ≤ 1000) : Does Tryz.prog 91 [.one (shI l),.one (int sy)] [] (.tup [(false,[int (numV sy l)]),(false,[boo (numK sy l)])]) [] := by
  refine does_of (k := 0) Tryz.func91 rfl Tryz.ntmps91 rfl rfl fun w F0 S0 ρ0 => ?_
  dsimp only [argT,argH]
  repeat' first|(apply p3;(first|exact pu1|exact puN|exact a_sub rfl rfl (by omega) (by omega));exact rfl)|refine cd ?_|fail
  refine g_loop_id ?_
  refine loopK [0,1,4,5] [] (fun x : Int × Int => -1 ≤ x.1 ∧ x.1 ≤ l.length - 1 ∧ numT sy (l.drop (x.1 + 1).toNat) = some x.2) (fun x => [(7,.one (int x.1)),(6,.one (int x.2))]) (fun _ => []) (fun x => (x.1 + 1).toNat) ((l.length : Int) - 1,(0 : Int)) [] (hI := ?_) (hr := ?_)
  · exact ⟨by dsimp only; omega,by dsimp only; omega,by dsimp only; rw [List.drop_of_length_le (by omega)]; rfl⟩
  · rintro ⟨i,n⟩ ⟨k0,k1,k2⟩
    dsimp only [List.cons_append,List.nil_append] at *
    skip
    repeat' first|refine cdn ?_|fail
    have hb := numT_bd hs (fun c h => hc c (List.mem_of_mem_drop h)) k2
    have hp : 0 ≤ n * sy := Int.mul_nonneg hb.1 (by omega)
    have hp2 : n * sy ≤ n * 6 := Int.mul_le_mul_of_nonneg_left hs2 hb.1
    by_cases hi : 0 ≤ i
    · have hil : i.toNat < l.length := by omega
      have hcl := hc _ (List.getElem_mem hil)
      have hd := numT_drop (sy := sy) hil
      rw [show (i + 1).toNat = i.toNat + 1 by omega] at k2
      rw [k2] at hd
      simp only at hd
      by_cases hbig : n * sy + l[i.toNat] > 1000000
      · rw [if_pos hbig] at hd
        obtain ⟨e1,e2⟩ := numT_none (numT_pre (by omega) hd)
        rw [e1,e2]
        repeat' first|(apply p3;(first|exact pu1|exact puC|exact a_mulB rfl rfl (by omega) (by omega) (by omega) (by omega)|exact a_add rfl rfl (by omega) (by omega)|exact puI);exact rfl)|refine cd ?_|((refine g_cond rfl (fun hc => ?_) (fun hc => ?_)) <;> (try simp only [dcB] at hc) <;> (try first|contradiction|(exfalso;omega)))|fail
        repeat refine cr ?_
        refine ends_id ?_
        refine endK [] (h2 := ?_) (h3 := ?_) (nd := ?_)
        all_goals (repeat' first|exact ce0|refine ce ?_|refine ce2 ?_ ?_|exact SVLe.refl|refine ceb ?_)
        all_goals first | exact (show nodupB _ = true from rfl) | exact Or.inr rfl | (rfl)
      · rw [if_neg hbig] at hd
        repeat' first|(apply p3;(first|exact pu1|exact a_sub rfl rfl (by omega) (by omega)|exact puC|exact a_mulB rfl rfl (by omega) (by omega) (by omega) (by omega)|exact a_add rfl rfl (by omega) (by omega)|exact puI);exact rfl)|refine cd ?_|((refine g_cond rfl (fun hc => ?_) (fun hc => ?_)) <;> (try simp only [dcB] at hc) <;> (try first|contradiction|(exfalso;omega)))|fail
        refine q_again (i - 1,n * sy + l[i.toNat]) [] (by exact stk) ?_ ?_
        · refine ⟨by dsimp only; omega,by dsimp only; omega,?_⟩
          dsimp only
          rw [show (i - 1 + 1).toNat = i.toNat by omega]
          exact hd
        · dsimp only; omega
    · skip
      rw [show (i + 1).toNat = 0 by omega,List.drop_zero] at k2
      obtain ⟨e1,e2⟩ := numT_some k2
      rw [e1,e2]
      repeat' first|(apply p3;(first|exact pu1|exact puC);exact rfl)|refine cd ?_|((refine g_cond rfl (fun hc => ?_) (fun hc => ?_)) <;> (try simp only [dcB] at hc) <;> (try first|contradiction|(exfalso;omega)))|fail
      repeat refine cr ?_
      refine ends_id ?_
      refine endK [] (h2 := ?_) (h3 := ?_) (nd := ?_)
      all_goals (repeat' first|exact ce0|refine ce ?_|refine ce2 ?_ ?_|exact SVLe.refl|refine ceb ?_)
      all_goals first | exact (show nodupB _ = true from rfl) | exact Or.inr rfl | (rfl)
end Go.Proofs.YtegpggobfdcafaaGreat
end
section
set_option linter.unusedVariables false
set_option linter.unusedSimpArgs false
set_option maxRecDepth 100000
set_option maxHeartbeats 4000000
namespace Go.Proofs.YtegpggobfdcafaaGreat
open Go Foot
structure Wk where
  sp : Int
  le : Int
  gr : Int
  ch : Int
  tu : Int
  la : Int
  vis : List Int
  sts : List Int
  rls : List Int
  crs : List Int
abbrev w0 (m : Mach) : Wk := ⟨0,0,0,0,0,0,[1],List.replicate m.st.toNat 0,List.replicate m.ru.length 0,[]⟩
end Go.Proofs.YtegpggobfdcafaaGreat
end
section
set_option linter.unusedVariables false
set_option linter.unusedSimpArgs false
set_option maxRecDepth 100000
set_option maxHeartbeats 4000000
namespace Go.Proofs.YtegpggobfdcafaaGreat
open Go Foot
section
variable {σ τ : Type} {m : Mach} {fc : Conf → Int → σ → σ} {fs : Conf → Int → Rule' → σ → σ} {fc' : Conf → Int → τ → τ} {fs' : Conf → Int → Rule' → τ → τ}
end
end Go.Proofs.YtegpggobfdcafaaGreat
end
section
set_option linter.unusedVariables false
set_option linter.unusedSimpArgs false
set_option maxRecDepth 100000
set_option maxHeartbeats 4000000
namespace Go.Proofs.YtegpggobfdcafaaGreat
open Go Foot
end Go.Proofs.YtegpggobfdcafaaGreat
end
section
set_option linter.unusedVariables false
set_option linter.unusedSimpArgs false
set_option maxRecDepth 100000
set_option maxHeartbeats 4000000
namespace Go.Proofs.YtegpggobfdcafaaGreat
open Go Foot Go.RowKit
@[irreducible] def costOf (sy l r : Int) (u : Rule') : Int :=
  if u = noR then (sy + 1) * (r / sy) + r % sy + 1 + (sy + 1) * (r / sy) + 1 + r % sy else
  if u.m = 1 then (sy + 1) * (r / sy) + r % sy + 1 + 2 * (r / sy) + 1 + (sy + 1) * l + 1 + 2 * sy * l + 1 + u.w else
  (sy + 1) * (r / sy) + r % sy + 1 + (sy + 1) * (r / sy) + 1 + u.w + (sy + 1) * (l / sy) + l % sy + 1 + 2 * (l / sy) + 1 + (sy + 1) * (r / sy * sy + u.w) + 1 + 2 * sy * (r / sy * sy + u.w) + 1 + l % sy
@[irreducible] def numOk (m : Mach) (c : Conf) : Bool := numK m.sy c.le && numK m.sy c.ri
@[irreducible] def costC (m : Mach) (c : Conf) : Int := costOf m.sy (numV m.sy c.le) (numV m.sy c.ri) (ruAt m c)
structure PrOk (sy l r w : Int) : Prop where
  k : 0 ≤ r / sy ∧ r / sy ≤ 500000
  s : 0 ≤ r % sy ∧ r % sy ≤ sy - 1
  j : 0 ≤ l / sy ∧ l / sy ≤ 500000
  x : 0 ≤ l % sy ∧ l % sy ≤ sy - 1
  ks : 0 ≤ r / sy * sy ∧ r / sy * sy ≤ 1000000
  p1 : 0 ≤ (sy + 1) * (r / sy) ∧ (sy + 1) * (r / sy) ≤ 7000000
  p2 : 0 ≤ (sy + 1) * l ∧ (sy + 1) * l ≤ 7000000
  p3 : 0 ≤ 2 * sy * l ∧ 2 * sy * l ≤ 12000000
  p4 : 0 ≤ (sy + 1) * (l / sy) ∧ (sy + 1) * (l / sy) ≤ 7000000
  p5 : 0 ≤ (sy + 1) * (r / sy * sy + w) ∧ (sy + 1) * (r / sy * sy + w) ≤ 8000000
  p6 : 0 ≤ 2 * sy * (r / sy * sy + w) ∧ 2 * sy * (r / sy * sy + w) ≤ 13000000
theorem mulBD {a b A B : Int} (h1 : 0 ≤ a) (h2 : a ≤ A) (h3 : 0 ≤ b) (h4 : b ≤ B) : 0 ≤ a * b ∧ a * b ≤ A * B :=
  ⟨Int.mul_nonneg h1 h3,Int.mul_le_mul h2 h4 h3 (by omega)⟩
theorem prOk {sy l r w : Int} (s1 : 2 ≤ sy) (s2 : sy ≤ 6) (l1 : 0 ≤ l) (l2 : l ≤ 1000000) (r1 : 0 ≤ r) (r2 : r ≤ 1000000) (w1 : 0 ≤ w) (w2 : w ≤ 6) : PrOk sy l r w := by
  have dk : ∀ {z : Int},0 ≤ z → z ≤ 1000000 → 0 ≤ z / sy ∧ z / sy ≤ 500000 := fun {z} h1 h2 => by
    refine ⟨Int.ediv_nonneg h1 (by omega),?_⟩
    have := Int.ediv_le_ediv (show (0 : Int) < sy by omega) h2
    have h3 : (1000000 : Int) / sy ≤ 1000000 / 2 := by
      rcases (by omega : sy = 2 ∨ sy = 3 ∨ sy = 4 ∨ sy = 5 ∨ sy = 6) with rfl | rfl | rfl | rfl | rfl <;> decide
    omega
  have ds : ∀ {z : Int},0 ≤ z → 0 ≤ z % sy ∧ z % sy ≤ sy - 1 := fun {z} h1 => ⟨Int.emod_nonneg _ (by omega),by have := Int.emod_lt_of_pos z (show (0 : Int) < sy by omega); omega⟩
  have hk := dk r1 r2
  have hj := dk l1 l2
  have hks : 0 ≤ r / sy * sy ∧ r / sy * sy ≤ 1000000 := ⟨Int.mul_nonneg hk.1 (by omega),by have := Int.ediv_mul_le r (show sy ≠ 0 by omega); omega⟩
  refine ⟨hk,ds r1,hj,ds l1,hks,?_,?_,?_,?_,?_,?_⟩
  · have := mulBD (show 0 ≤ sy + 1 by omega) (show sy + 1 ≤ 7 by omega) hk.1 hk.2; omega
  · have := mulBD (show 0 ≤ sy + 1 by omega) (show sy + 1 ≤ 7 by omega) l1 l2; omega
  · have := mulBD (show 0 ≤ 2 * sy by omega) (show 2 * sy ≤ 12 by omega) l1 l2; omega
  · have := mulBD (show 0 ≤ sy + 1 by omega) (show sy + 1 ≤ 7 by omega) hj.1 hj.2; omega
  · have := mulBD (show 0 ≤ sy + 1 by omega) (show sy + 1 ≤ 7 by omega) (show 0 ≤ r / sy * sy + w by omega) (show r / sy * sy + w ≤ 1000006 by omega); omega
  · have := mulBD (show 0 ≤ 2 * sy by omega) (show 2 * sy ≤ 12 by omega) (show 0 ≤ r / sy * sy + w by omega) (show r / sy * sy + w ≤ 1000006 by omega); omega
theorem costOf_bd {sy l r : Int} {u : Rule'} (s1 : 2 ≤ sy) (s2 : sy ≤ 6) (l1 : 0 ≤ l) (l2 : l ≤ 1000000) (r1 : 0 ≤ r) (r2 : r ≤ 1000000) (hu : u = noR ∨ (0 ≤ u.w ∧ u.w ≤ 6)) : 0 ≤ costOf sy l r u ∧ costOf sy l r u ≤ 100000000 := by
  unfold costOf
  split
  · obtain ⟨a1,a2,a3,a4,a5,a6,a7,a8,a9,a10,a11⟩ := prOk (w := 0) s1 s2 l1 l2 r1 r2 (by decide) (by decide)
    omega
  · rename_i hn
    have hw := hu.resolve_left hn
    obtain ⟨a1,a2,a3,a4,a5,a6,a7,a8,a9,a10,a11⟩ := prOk (w := u.w) s1 s2 l1 l2 r1 r2 hw.1 hw.2
    split <;> omega
theorem conf_cells {m : Mach} {c : Conf} (hc : vConf m c = true) : (∀ x ∈ c.le,0 ≤ x ∧ x ≤ m.sy - 1) ∧ (∀ x ∈ c.ri,0 ≤ x ∧ x ≤ m.sy - 1) := by
  obtain ⟨_,h1,h2⟩ := vConf_bd hc
  exact ⟨(vSide_bd h1).2.1,(vSide_bd h2).2.1⟩
theorem ruAt_w {m : Mach} {c : Conf} (hm : vMach m = true) (hc : vConf m c = true) : ruAt m c = noR ∨ (0 ≤ (ruAt m c).w ∧ (ruAt m c).w ≤ 6) := by
  by_cases h : ruAt m c = noR
  · exact .inl h
  · have := ruAt_ok hm hc h
    have := vMach_bd hm
    exact .inr ⟨by omega,by omega⟩
theorem costC_bd {m : Mach} {c : Conf} (hm : vMach m = true) (hc : vConf m c = true) : 0 ≤ costC m c ∧ costC m c ≤ 100000000 := by
  obtain ⟨h1,h2⟩ := conf_cells hc
  obtain ⟨⟨ya,yb⟩,_⟩ := vMach_bd hm
  have a1 := numV_bd ya h1
  have a2 := numV_bd ya h2
  unfold costC
  exact costOf_bd ya yb a1.1 a1.2 a2.1 a2.2 (ruAt_w hm hc)
theorem preB269 {p : Prop} (h : p := by first | with_reducible assumption | omega | (simp only [List.length_append,List.length_cons,List.length_nil,List.length_set,List.length_replicate,List.length_take,List.length_drop,List.length_tail,List.length_dropLast,List.length_reverse] at *; omega) | exact mem_len (by assumption) (by omega) | (with_reducible refine Int.le_trans (Int.ofNat_le.2 (trimR_len _)) ?_; simp only [List.length_cons,List.length_tail]; omega) | (exact (ruAt_ok (by assumption) (by assumption) (by assumption)).2.1) | (exact (ruAt_ok (by assumption) (by assumption) (by assumption)).2.1) | (have := vMach_bd (by assumption); omega) | (simp only [List.length_append,List.length_cons,List.length_nil,repW_len,seN_len] at *; omega) | (simp only [mC_ch,mC_tu]; omega) | (have := vTag_bd (by assumption); omega) | (have := (‹Gd _ _›).le; omega) | (exact tgHalts_no (by assumption)) | (exact tgHead (by assumption) (by assumption) (by assumption)) | (exact Int.le_trans (tgStep_gd (by assumption) (by assumption) (by assumption) (by assumption)).le (by decide)) | (exact vTag_r (by assumption)) | (with_reducible refine Int.le_trans (Int.ofNat_le.2 (pushL_len _ _)) ?_; simp only [List.length_dropLast]; omega) | exact ls_at (by assumption) (by omega) | exact pt_gd (by assumption) | exact lv_at (by assumption) (by omega) | exact pt_gd (lv_at (by assumption) (by omega)) | exact (ask_ok (by assumption)).1 | exact (ask_ok (by assumption)).2.1 | exact (ask_ok (by assumption)).2.2.1 | exact (ask_ok (by assumption)).2.2.2 | trivial) : p := h
theorem l20Numbers_ok (m : Mach) (c : Conf) (hm : vMach m = true) (hc : vConf m c = true) : Does Tryz.prog 36 [.one (maB m),.one (coB c)] [] (.one (boo (numOk m c))) [] := by
  obtain ⟨z1,z2⟩ := conf_cells hc
  obtain ⟨⟨ya,yb⟩,_⟩ := vMach_bd hm
  have hb := at_bd hm hc
  have e : numOk m c = (numK m.sy c.le && numK m.sy c.ri) := by unfold numOk; rfl
  rw [e]
  refine does_of (k := 0) Tryz.func36 rfl Tryz.ntmps36 rfl rfl fun w F0 S0 ρ0 => ?_
  dsimp only [argT,argH]
  repeat' first|(apply p3;exact pu1;exact rfl)|refine cd ?_|refine o_no rfl rfl rfl rfl ?_|(apply py3;exact rfl;exact rfl;exact pu1;exact rfl;exact rfl)|(apply g_drN (id := 1) okM [[],[0],[0,1],[0,1,2],[],[4],[4,5],[4,5,6],[0,1,2,3,4,5,6,7],[0,1,2,3,4,5,6,7,8],[0,1,2,3,4,5,6,7,8,9],[0,1,2,3,4,5,6,7,8,9],[0,1,2,3,4,5,6,7,8,9,10],[0,1,2,3,4,5,6,7,8,9,10,11,12]] [([],[]),([],[]),([],[]),([],[]),([],[]),([],[]),([],[]),([],[]),([],[]),([],[]),([],[]),([],[]),([],[]),([],[])] 0;(focus (refine dp 0 0 [14,15,16,17] [] pu1 ?_;refine dp 1 1 [14,15,16,17] [] (a_pure (sv := .one _) rfl) ?_;refine dp 2 3 [14,15,16,17] [] (a_pure (sv := .one _) rfl) ?_;refine dp 3 7 [14,15,16,17] [] (by exact puL) ?_;refine dp 4 0 [10,11,12,13] [] pu1 ?_;refine dp 5 1 [10,11,12,13] [] (a_pure (sv := .one _) rfl) ?_;refine dp 6 3 [10,11,12,13] [] (a_pure (sv := .one _) rfl) ?_;refine dp 7 7 [10,11,12,13] [] puL ?_;refine dp 8 255 [] [] (by exact callD1 (n := _) 0 (θ := []) (hD := (l14Number_ok c.le m.sy ya yb z1 preB269))) ?_;refine dp 9 511 [] [] pu1 ?_;refine dp 10 1023 [20] [] pu2 ?_;refine dp 11 2046 [19,5] [] pu2 ?_;refine dp 12 4094 [20] [] pu1 ?_;refine dp 13 8191 [] [] pu1 ?_;(refine d_nil ?_;refine dN ?_)));any_goals kernel_rfl)|(apply g_drN (id := 2) okM [[],[0],[0,1],[0,1,2],[],[4],[4,5],[4,5,6],[0,1,2,3,4,5,6,7],[0,1,2,3,4,5,6,7,8],[0,1,2,3,4,5,6,7,8,9],[0,1,2,3,4,5,6,7,8,9],[0,1,2,3,4,5,6,7,8,9,10],[0,1,2,3,4,5,6,7,8,9,10,11,12]] [([],[]),([],[]),([],[]),([],[]),([],[]),([],[]),([],[]),([],[]),([],[]),([],[]),([],[]),([],[]),([],[]),([],[])] 0;(focus (refine dp 0 0 [26,27,28,29] [] pu1 ?_;refine dp 1 1 [26,27,28,29] [] (a_pure (sv := .one _) rfl) ?_;refine dp 2 3 [26,27,28,29] [] (a_pure (sv := .one _) rfl) ?_;refine dp 3 7 [26,27,28,29] [] (by exact puL) ?_;refine dp 4 0 [22,23,24,25] [] pu1 ?_;refine dp 5 1 [22,23,24,25] [] (a_pure (sv := .one _) rfl) ?_;refine dp 6 3 [22,23,24,25] [] (a_pure (sv := .one _) rfl) ?_;refine dp 7 7 [22,23,24,25] [] puL ?_;refine dp 8 255 [] [] (by exact callD1 (n := _) 0 (θ := []) (hD := (l14Number_ok c.ri m.sy ya yb z2 preB269))) ?_;refine dp 9 511 [] [] pu1 ?_;refine dp 10 1023 [32] [] pu2 ?_;refine dp 11 2046 [31,7] [] pu2 ?_;refine dp 12 4094 [32] [] pu1 ?_;refine dp 13 8191 [] [] pu1 ?_;(refine d_nil ?_;refine dN ?_)));any_goals kernel_rfl)|((refine o_gs rfl rfl (fun hc => ?_) (fun hc => ?_)) <;> (try simp only [dcB] at hc) <;> (try first|contradiction|(exfalso;omega)))|fail
  · repeat refine cr ?_
    refine ends_id ?_
    refine endK [] (h2 := ?_) (h3 := ?_) (nd := ?_)
    all_goals (repeat' first|exact ce0|refine ce ?_|refine ce2 ?_ ?_|exact SVLe.refl|refine ceb ?_)
    all_goals first | exact (show nodupB _ = true from rfl) | exact Or.inr rfl | ((simp_all))
  · repeat refine cr ?_
    refine ends_id ?_
    refine endK [] (h2 := ?_) (h3 := ?_) (nd := ?_)
    all_goals (repeat' first|exact ce0|refine ce ?_|refine ce2 ?_ ?_|exact SVLe.refl|refine ceb ?_)
    all_goals first | exact (show nodupB _ = true from rfl) | exact Or.inr rfl | ((simp_all))
theorem tapeNumberY_ok (l : List Int) (sy : Int) (hs : 2 ≤ sy) (hs2 : sy ≤ 6) (hc : ∀ c ∈ l,0 ≤ c ∧ c ≤ sy - 1) (hl : (l.length : Int) ≤ 1000) (hk : numK sy l = true) : Does Tryz.prog 108 [.one (shI l),.one (int sy)] [] (.tup [(false,[int (numV sy l)]),(false,[int 0])]) [] := by
  have := tapeNumber_ok l sy hs hs2 hc hl
  rw [hk] at this
  exact this
theorem tapeNumberN_ok (l : List Int) (sy : Int) (hs : 2 ≤ sy) (hs2 : sy ≤ 6) (hc : ∀ c ∈ l,0 ≤ c ∧ c ≤ sy - 1) (hl : (l.length : Int) ≤ 1000) (hk : numK sy l = false) : Does Tryz.prog 108 [.one (shI l),.one (int sy)] [] (.tup [(false,[int (numV sy l)]),(false,[int 5])]) [] := by
  have := tapeNumber_ok l sy hs hs2 hc hl
  rw [hk] at this
  exact this
theorem stepCost_ok (m : Mach) (c : Conf) (hm : vMach m = true) (hc : vConf m c = true) : Does Tryz.prog 260 [.agg (maC m),.agg (coC c)] [] (.tup [(false,[int (if numOk m c then costC m c else 0)]),(false,[int (if numOk m c then 0 else 5)])]) [] := by
  obtain ⟨z1,z2⟩ := conf_cells hc
  obtain ⟨⟨ya,yb⟩,_⟩ := vMach_bd hm
  have hb := at_bd hm hc
  have hv1 := numV_bd ya z1
  have hv2 := numV_bd ya z2
  cases hk1 : numK m.sy c.le
  · have e : numOk m c = false := by unfold numOk; rw [hk1]; rfl
    rw [e]
    cases hk2 : numK m.sy c.ri
    · skip
      refine does_of (k := 0) Tryz.func260 rfl Tryz.ntmps260 rfl rfl fun w F0 S0 ρ0 => ?_
      dsimp only [argT,argH]
      repeat' first|(apply n3;exact a_new (gb := .bx _) rfl;exact rfl;refine dA ?_)|(apply p3;(first|exact pu1|exact a_ne rfl rfl);exact rfl)|refine cd ?_|(apply c4 0;exact callK1 (θ := []) (hD := (tapeNumberN_ok c.le m.sy ya yb z1 preB269 hk1));exact rfl;exact rfl;exact rfl;refine dM ?_)|(apply c4 0;exact callK1 (θ := []) (hD := (tapeNumberN_ok c.ri m.sy ya yb z2 preB269 hk2));exact rfl;exact rfl;exact rfl;refine dM ?_)|refine o_no rfl rfl rfl rfl ?_|fail
      repeat refine cr ?_
      refine ends_id ?_
      refine endK [] (h2 := ?_) (h3 := ?_) (nd := ?_)
      all_goals (repeat' first|exact ce0|refine ce ?_|refine ce2 ?_ ?_|exact SVLe.refl|refine ceb ?_)
      all_goals first | exact (show nodupB _ = true from rfl) | exact Or.inr rfl | (rfl)
    · skip
      refine does_of (k := 0) Tryz.func260 rfl Tryz.ntmps260 rfl rfl fun w F0 S0 ρ0 => ?_
      dsimp only [argT,argH]
      repeat' first|(apply n3;exact a_new (gb := .bx _) rfl;exact rfl;refine dA ?_)|(apply p3;(first|exact pu1|exact a_ne rfl rfl);exact rfl)|refine cd ?_|(apply c4 0;exact callK1 (θ := []) (hD := (tapeNumberY_ok c.ri m.sy ya yb z2 preB269 hk2));exact rfl;exact rfl;exact rfl;refine dM ?_)|(apply c4 0;exact callK1 (θ := []) (hD := (tapeNumberN_ok c.le m.sy ya yb z1 preB269 hk1));exact rfl;exact rfl;exact rfl;refine dM ?_)|refine o_no rfl rfl rfl rfl ?_|fail
      repeat refine cr ?_
      refine ends_id ?_
      refine endK [] (h2 := ?_) (h3 := ?_) (nd := ?_)
      all_goals (repeat' first|exact ce0|refine ce ?_|refine ce2 ?_ ?_|exact SVLe.refl|refine ceb ?_)
      all_goals first | exact (show nodupB _ = true from rfl) | exact Or.inr rfl | (rfl)
  · cases hk2 : numK m.sy c.ri
    · have e : numOk m c = false := by unfold numOk; rw [hk1,hk2]; rfl
      rw [e]
      refine does_of (k := 0) Tryz.func260 rfl Tryz.ntmps260 rfl rfl fun w F0 S0 ρ0 => ?_
      dsimp only [argT,argH]
      repeat' first|(apply n3;exact a_new (gb := .bx _) rfl;exact rfl;refine dA ?_)|(apply p3;(first|exact pu1|exact a_ne rfl rfl);exact rfl)|refine cd ?_|(apply c4 0;exact callK1 (θ := []) (hD := (tapeNumberY_ok c.le m.sy ya yb z1 preB269 hk1));exact rfl;exact rfl;exact rfl;refine dM ?_)|(apply c4 0;exact callK1 (θ := []) (hD := (tapeNumberN_ok c.ri m.sy ya yb z2 preB269 hk2));exact rfl;exact rfl;exact rfl;refine dM ?_)|(apply py3;exact rfl;exact rfl;(first|exact pu1|exact a_ne rfl rfl);exact rfl;exact rfl)|fail
      repeat refine cr ?_
      refine ends_id ?_
      refine endK [] (h2 := ?_) (h3 := ?_) (nd := ?_)
      all_goals (repeat' first|exact ce0|refine ce ?_|refine ce2 ?_ ?_|exact SVLe.refl|refine ceb ?_)
      all_goals first | exact (show nodupB _ = true from rfl) | exact Or.inr rfl | (rfl)
    · skip
      have e : numOk m c = true := by unfold numOk; rw [hk1,hk2]; rfl
      have hmod := numV_mod ya z2 hk2
      have hix : (c.st * m.sy + numV m.sy c.ri % m.sy).toNat < m.ru.length := by rw [hmod]; omega
      have hru : m.ru[(c.st * m.sy + numV m.sy c.ri % m.sy).toNat] = ruAt m c := by
        have := ruAt_ge hm hc (by rw [← hmod]; exact hix)
        simp only [hmod]
        exact this
      have hcost : costC m c = costOf m.sy (numV m.sy c.le) (numV m.sy c.ri) (ruAt m c) := by unfold costC; rfl
      rw [e,hcost]
      have hadd : 0 ≤ c.st * m.sy + numV m.sy c.ri % m.sy ∧ c.st * m.sy + numV m.sy c.ri % m.sy < m.ru.length := by rw [hmod]; omega
      have hw := ruAt_w hm hc
      by_cases hn : ruAt m c = noR
      · obtain ⟨a1,a2,a3,a4,a5,a6,a7,a8,a9,a10,a11⟩ := prOk (w := 0) ya yb hv1.1 hv1.2 hv2.1 hv2.2 (by decide) (by decide)
        have e2 : costOf m.sy (numV m.sy c.le) (numV m.sy c.ri) (ruAt m c) = (m.sy + 1) * (numV m.sy c.ri / m.sy) + numV m.sy c.ri % m.sy + 1 + (m.sy + 1) * (numV m.sy c.ri / m.sy) + 1 + numV m.sy c.ri % m.sy := by unfold costOf; rw [if_pos hn]
        rw [e2]
        refine does_of (k := 0) Tryz.func260 rfl Tryz.ntmps260 rfl rfl fun w F0 S0 ρ0 => ?_
        dsimp only [argT,argH]
        repeat' first|(apply n3;exact a_new (gb := .bx _) rfl;exact rfl;refine dA ?_)|(apply p3;(first|exact pu1|exact a_ne rfl rfl|exact a_mulB rfl rfl (by omega) (by omega) (by omega) (by omega)|exact a_add rfl rfl (by omega) (by omega)|exact puI);exact rfl)|refine cdn ?_|refine g_reg (id := 0) ?_|refine g_reg (id := 1) ?_|refine g_reg (id := 2) ?_|refine g_reg (id := 3) ?_|refine g_reg (id := 5) ?_|refine g_reg (id := 7) ?_|(apply w3;(exact a_st_bx rfl rfl rfl rfl (fN rfl rfl) (Nat.le_of_ble_eq_true rfl) rfl);exact rfl;refine dS ?_)|(apply c4 0;exact callK1 (θ := []) (hD := (tapeNumberY_ok c.le m.sy ya yb z1 preB269 hk1));exact rfl;exact rfl;exact rfl;refine dM ?_)|(apply c4 0;exact callK1 (θ := []) (hD := (tapeNumberY_ok c.ri m.sy ya yb z2 preB269 hk2));exact rfl;exact rfl;exact rfl;refine dM ?_)|(apply py3;exact rfl;exact rfl;(first|exact pu1|exact a_ne rfl rfl);exact rfl;exact rfl)|(apply g_drN (id := 6) okM [[],[],[0,1],[],[],[3,4],[0,1,2],[0,1,2,3,4,5,6]] [([],[]),([],[]),([],[]),([],[]),([],[]),([],[]),([],[]),([],[])] 0;(focus (refine dp 0 0 [43,45,46,47] [] pu1 ?_;refine dp 1 0 [42,45,46,47] [] pu1 ?_;refine dp 2 3 [45,46,47] [] (a_quo rfl rfl (by omega) (by omega) (by omega)) ?_;refine dp 3 0 [42,43,44,46,11] [] pu1 ?_;refine dp 4 0 [42,43,44,45,11] [] pu1 ?_;refine dp 5 3 [42,43,44,11] [] (a_rem rfl rfl (by omega) (by omega) (by omega)) ?_;refine dp 6 56 [45,46,47] [] pu1 ?_;refine dp 7 127 [] [] pu1 ?_;(refine d_nil ?_;refine dN ?_)));any_goals kernel_rfl)|fail
        simp only [hru]
        repeat' first|(apply p3;(first|exact pu1|exact a_mulB rfl rfl (by omega) (by omega) (by omega) (by omega)|exact a_add rfl rfl (by omega) (by omega));exact rfl)|refine cd ?_|(apply c4 0;exact callK1 (θ := []) (hD := (isRule_ok _));exact rfl;exact rfl;exact rfl;refine dM ?_)|((refine g_cond rfl (fun hc => ?_) (fun hc => ?_)) <;> (try simp only [dcB] at hc) <;> (try first|contradiction|(exfalso;omega)))|fail
        repeat refine cr ?_
        refine ends_id ?_
        refine endK [] (h2 := ?_) (h3 := ?_) (nd := ?_)
        all_goals (repeat' first|exact ce0|refine ce ?_|refine ce2 ?_ ?_|exact SVLe.refl|refine ceb ?_)
        all_goals first | exact (show nodupB _ = true from rfl) | exact Or.inr rfl | (rfl)
      · obtain ⟨x1,x2⟩ := hw.resolve_left hn
        obtain ⟨a1,a2,a3,a4,a5,a6,a7,a8,a9,a10,a11⟩ := prOk (w := (ruAt m c).w) ya yb hv1.1 hv1.2 hv2.1 hv2.2 x1 x2
        by_cases hm1 : (ruAt m c).m = 1
        · have e2 : costOf m.sy (numV m.sy c.le) (numV m.sy c.ri) (ruAt m c) = (m.sy + 1) * (numV m.sy c.ri / m.sy) + numV m.sy c.ri % m.sy + 1 + 2 * (numV m.sy c.ri / m.sy) + 1 + (m.sy + 1) * numV m.sy c.le + 1 + 2 * m.sy * numV m.sy c.le + 1 + (ruAt m c).w := by unfold costOf; rw [if_neg hn,if_pos hm1]
          rw [e2]
          refine does_of (k := 0) Tryz.func260 rfl Tryz.ntmps260 rfl rfl fun w F0 S0 ρ0 => ?_
          dsimp only [argT,argH]
          repeat' first|(apply n3;exact a_new (gb := .bx _) rfl;exact rfl;refine dA ?_)|(apply p3;(first|exact pu1|exact a_ne rfl rfl|exact a_mulB rfl rfl (by omega) (by omega) (by omega) (by omega)|exact a_add rfl rfl (by omega) (by omega)|exact puI);exact rfl)|refine cdn ?_|refine g_reg (id := 0) ?_|refine g_reg (id := 1) ?_|refine g_reg (id := 2) ?_|refine g_reg (id := 3) ?_|refine g_reg (id := 5) ?_|refine g_reg (id := 7) ?_|(apply w3;(exact a_st_bx rfl rfl rfl rfl (fN rfl rfl) (Nat.le_of_ble_eq_true rfl) rfl);exact rfl;refine dS ?_)|(apply c4 0;exact callK1 (θ := []) (hD := (tapeNumberY_ok c.le m.sy ya yb z1 preB269 hk1));exact rfl;exact rfl;exact rfl;refine dM ?_)|(apply c4 0;exact callK1 (θ := []) (hD := (tapeNumberY_ok c.ri m.sy ya yb z2 preB269 hk2));exact rfl;exact rfl;exact rfl;refine dM ?_)|(apply py3;exact rfl;exact rfl;(first|exact pu1|exact a_ne rfl rfl);exact rfl;exact rfl)|(apply g_drN (id := 6) okM [[],[],[0,1],[],[],[3,4],[0,1,2],[0,1,2,3,4,5,6]] [([],[]),([],[]),([],[]),([],[]),([],[]),([],[]),([],[]),([],[])] 0;(focus (refine dp 0 0 [43,45,46,47] [] pu1 ?_;refine dp 1 0 [42,45,46,47] [] pu1 ?_;refine dp 2 3 [45,46,47] [] (a_quo rfl rfl (by omega) (by omega) (by omega)) ?_;refine dp 3 0 [42,43,44,46,11] [] pu1 ?_;refine dp 4 0 [42,43,44,45,11] [] pu1 ?_;refine dp 5 3 [42,43,44,11] [] (a_rem rfl rfl (by omega) (by omega) (by omega)) ?_;refine dp 6 56 [45,46,47] [] pu1 ?_;refine dp 7 127 [] [] pu1 ?_;(refine d_nil ?_;refine dN ?_)));any_goals kernel_rfl)|fail
          simp only [hru]
          repeat' first|(apply p3;(first|exact pu1|exact a_mulB rfl rfl (by omega) (by omega) (by omega) (by omega)|exact a_add rfl rfl (by omega) (by omega)|exact puC);exact rfl)|refine cd ?_|(apply c4 0;exact callK1 (θ := []) (hD := (isRule_ok _));exact rfl;exact rfl;exact rfl;refine dM ?_)|((refine g_cond rfl (fun hc => ?_) (fun hc => ?_)) <;> (try simp only [dcB] at hc) <;> (try first|contradiction|(exfalso;omega)))|fail
          repeat refine cr ?_
          refine ends_id ?_
          refine endK [] (h2 := ?_) (h3 := ?_) (nd := ?_)
          all_goals (repeat' first|exact ce0|refine ce ?_|refine ce2 ?_ ?_|exact SVLe.refl|refine ceb ?_)
          all_goals first | exact (show nodupB _ = true from rfl) | exact Or.inr rfl | (rfl)
        · have e2 : costOf m.sy (numV m.sy c.le) (numV m.sy c.ri) (ruAt m c) = (m.sy + 1) * (numV m.sy c.ri / m.sy) + numV m.sy c.ri % m.sy + 1 + (m.sy + 1) * (numV m.sy c.ri / m.sy) + 1 + (ruAt m c).w + (m.sy + 1) * (numV m.sy c.le / m.sy) + numV m.sy c.le % m.sy + 1 + 2 * (numV m.sy c.le / m.sy) + 1 + (m.sy + 1) * (numV m.sy c.ri / m.sy * m.sy + (ruAt m c).w) + 1 + 2 * m.sy * (numV m.sy c.ri / m.sy * m.sy + (ruAt m c).w) + 1 + numV m.sy c.le % m.sy := by unfold costOf; rw [if_neg hn,if_neg hm1]
          rw [e2]
          refine does_of (k := 0) Tryz.func260 rfl Tryz.ntmps260 rfl rfl fun w F0 S0 ρ0 => ?_
          dsimp only [argT,argH]
          repeat' first|(apply n3;exact a_new (gb := .bx _) rfl;exact rfl;refine dA ?_)|(apply p3;(first|exact pu1|exact a_ne rfl rfl|exact a_mulB rfl rfl (by omega) (by omega) (by omega) (by omega)|exact a_add rfl rfl (by omega) (by omega)|exact puI);exact rfl)|refine cdn ?_|refine g_reg (id := 0) ?_|refine g_reg (id := 1) ?_|refine g_reg (id := 2) ?_|refine g_reg (id := 3) ?_|refine g_reg (id := 5) ?_|refine g_reg (id := 7) ?_|(apply w3;(exact a_st_bx rfl rfl rfl rfl (fN rfl rfl) (Nat.le_of_ble_eq_true rfl) rfl);exact rfl;refine dS ?_)|(apply c4 0;exact callK1 (θ := []) (hD := (tapeNumberY_ok c.le m.sy ya yb z1 preB269 hk1));exact rfl;exact rfl;exact rfl;refine dM ?_)|(apply c4 0;exact callK1 (θ := []) (hD := (tapeNumberY_ok c.ri m.sy ya yb z2 preB269 hk2));exact rfl;exact rfl;exact rfl;refine dM ?_)|(apply py3;exact rfl;exact rfl;(first|exact pu1|exact a_ne rfl rfl);exact rfl;exact rfl)|(apply g_drN (id := 6) okM [[],[],[0,1],[],[],[3,4],[0,1,2],[0,1,2,3,4,5,6]] [([],[]),([],[]),([],[]),([],[]),([],[]),([],[]),([],[]),([],[])] 0;(focus (refine dp 0 0 [43,45,46,47] [] pu1 ?_;refine dp 1 0 [42,45,46,47] [] pu1 ?_;refine dp 2 3 [45,46,47] [] (a_quo rfl rfl (by omega) (by omega) (by omega)) ?_;refine dp 3 0 [42,43,44,46,11] [] pu1 ?_;refine dp 4 0 [42,43,44,45,11] [] pu1 ?_;refine dp 5 3 [42,43,44,11] [] (a_rem rfl rfl (by omega) (by omega) (by omega)) ?_;refine dp 6 56 [45,46,47] [] pu1 ?_;refine dp 7 127 [] [] pu1 ?_;(refine d_nil ?_;refine dN ?_)));any_goals kernel_rfl)|fail
          simp only [hru]
          repeat' first|(apply p3;(first|exact pu1|exact a_mulB rfl rfl (by omega) (by omega) (by omega) (by omega)|exact a_add rfl rfl (by omega) (by omega)|exact puC);exact rfl)|refine cd ?_|(apply c4 0;exact callK1 (θ := []) (hD := (isRule_ok _));exact rfl;exact rfl;exact rfl;refine dM ?_)|(apply g_drN (id := 12) okM [[],[],[0,1],[],[],[3,4],[],[],[6,7],[],[9],[6,7,8,9,10],[0,1,2],[0,1,2,3,4,5,12],[0,1,2,3,4,5,6,7,8,9,10,11,12,13]] [([],[]),([],[]),([],[]),([],[]),([],[]),([],[]),([],[]),([],[]),([],[]),([],[]),([],[]),([],[]),([],[]),([],[]),([],[])] 0;(focus (refine dp 0 0 [103,105,106,107,108,109,110,111,112,113] [] pu1 ?_;refine dp 1 0 [102,105,106,107,108,109,110,111,112,113] [] pu1 ?_;refine dp 2 3 [105,106,107,108,109,110,111,112,113] [] (a_quo rfl rfl (by omega) (by omega) (by omega)) ?_;refine dp 3 0 [102,103,104,106,108,109,110,111,112,113,15] [] pu1 ?_;refine dp 4 0 [102,103,104,105,108,109,110,111,112,113,15] [] pu1 ?_;refine dp 5 3 [102,103,104,108,109,110,111,112,113,15] [] (a_rem rfl rfl (by omega) (by omega) (by omega)) ?_;refine dp 6 0 [102,103,104,105,106,107,109,111,112,15,16] [] pu1 ?_;refine dp 7 0 [102,103,104,105,106,107,108,111,112,15,16] [] pu1 ?_;refine dp 8 3 [102,103,104,105,106,107,111,112,15,16] [] (by exact a_mulB rfl rfl (by omega) (by omega) (by omega) (by omega)) ?_;refine dp 9 0 [102,103,104,105,106,107,108,109,110,15,16] [] (a_pure (sv := .one _) rfl) ?_;refine dp 10 1 [102,103,104,105,106,107,108,109,110,15,16] [] (by exact puL) ?_;refine dp 11 31 [102,103,104,105,106,107,15,16] [] (a_add rfl rfl (by omega) (by omega)) ?_;refine dp 12 3584 [105,106,107,108,109,110,111,112,113] [] pu1 ?_;refine dp 13 8065 [108,109,110,111,112,113] [] pu1 ?_;refine dp 14 16383 [] [] pu1 ?_;(refine d_nil ?_;refine dN ?_)));any_goals kernel_rfl)|((refine g_cond rfl (fun hc => ?_) (fun hc => ?_)) <;> (try simp only [dcB] at hc) <;> (try first|contradiction|(exfalso;omega)))|fail
          repeat refine cr ?_
          refine ends_id ?_
          refine endK [] (h2 := ?_) (h3 := ?_) (nd := ?_)
          all_goals (repeat' first|exact ce0|refine ce ?_|refine ce2 ?_ ?_|exact SVLe.refl|refine ceb ?_)
          all_goals first | exact (show nodupB _ = true from rfl) | exact Or.inr rfl | (rfl)
end Go.Proofs.YtegpggobfdcafaaGreat
end
section
set_option linter.unusedVariables false
set_option linter.unusedSimpArgs false
set_option maxRecDepth 100000
set_option maxHeartbeats 4000000
namespace Go.Proofs.YtegpggobfdcafaaGreat
open Go Foot Go.RowKit
theorem preB270 {p : Prop} (h : p := by first | with_reducible assumption | omega | (simp only [List.length_append,List.length_cons,List.length_nil,List.length_set,List.length_replicate,List.length_take,List.length_drop,List.length_tail,List.length_dropLast,List.length_reverse] at *; omega) | exact mem_len (by assumption) (by omega) | (with_reducible refine Int.le_trans (Int.ofNat_le.2 (trimR_len _)) ?_; simp only [List.length_cons,List.length_tail]; omega) | (exact (ruAt_ok (by assumption) (by assumption) (by assumption)).2.1) | (exact (ruAt_ok (by assumption) (by assumption) (by assumption)).2.1) | (have := vMach_bd (by assumption); omega) | (simp only [List.length_append,List.length_cons,List.length_nil,repW_len,seN_len] at *; omega) | (simp only [mC_ch,mC_tu]; omega) | (have := vTag_bd (by assumption); omega) | (have := (‹Gd _ _›).le; omega) | (exact tgHalts_no (by assumption)) | (exact tgHead (by assumption) (by assumption) (by assumption)) | (exact Int.le_trans (tgStep_gd (by assumption) (by assumption) (by assumption) (by assumption)).le (by decide)) | (exact vTag_r (by assumption)) | (with_reducible refine Int.le_trans (Int.ofNat_le.2 (pushL_len _ _)) ?_; simp only [List.length_dropLast]; omega) | exact ls_at (by assumption) (by omega) | exact pt_gd (by assumption) | exact lv_at (by assumption) (by omega) | exact pt_gd (lv_at (by assumption) (by omega)) | exact (ask_ok (by assumption)).1 | exact (ask_ok (by assumption)).2.1 | exact (ask_ok (by assumption)).2.2.1 | exact (ask_ok (by assumption)).2.2.2 | trivial) : p := h
theorem l20Cost_ok (m : Mach) (c : Conf) (hm : vMach m = true) (hc : vConf m c = true) (hk : numOk m c = true) : Does Tryz.prog 37 [.one (maB m),.one (coB c)] [] (.one (int (costC m c))) [] := by
  obtain ⟨z1,z2⟩ := conf_cells hc
  obtain ⟨⟨ya,yb⟩,_⟩ := vMach_bd hm
  have hb := at_bd hm hc
  have hv1 := numV_bd ya z1
  have hv2 := numV_bd ya z2
  unfold numOk at hk
  rw [Bool.and_eq_true] at hk
  obtain ⟨hk1,hk2⟩ := hk
  have hix : (c.st * m.sy + c.ri.headD 0).toNat < m.ru.length := by omega
  have hru := ruAt_ge hm hc hix
  have hcost : costC m c = costOf m.sy (numV m.sy c.le) (numV m.sy c.ri) (ruAt m c) := by unfold costC; rfl
  have hw := ruAt_w hm hc
  rw [hcost]
  by_cases hn : ruAt m c = noR
  · obtain ⟨a1,a2,a3,a4,a5,a6,a7,a8,a9,a10,a11⟩ := prOk (w := 0) ya yb hv1.1 hv1.2 hv2.1 hv2.2 (by decide) (by decide)
    have e2 : costOf m.sy (numV m.sy c.le) (numV m.sy c.ri) (ruAt m c) = (m.sy + 1) * (numV m.sy c.ri / m.sy) + numV m.sy c.ri % m.sy + 1 + (m.sy + 1) * (numV m.sy c.ri / m.sy) + 1 + numV m.sy c.ri % m.sy := by unfold costOf; rw [if_pos hn]
    rw [e2]
    refine does_of (k := 0) Tryz.func37 rfl Tryz.ntmps37 rfl rfl fun w F0 S0 ρ0 => ?_
    dsimp only [argT,argH]
    repeat' first|(apply p3;(first|exact pu1|exact a_quo rfl rfl (by omega) (by omega) (by omega)|exact a_rem rfl rfl (by omega) (by omega) (by omega)|exact a_add rfl rfl (by omega) (by omega)|exact a_mulB rfl rfl (by omega) (by omega) (by omega) (by omega));exact rfl)|refine cdn ?_|refine g_reg (id := 0) ?_|refine g_reg (id := 1) ?_|refine g_reg (id := 2) ?_|refine g_reg (id := 3) ?_|refine g_reg (id := 4) ?_|refine g_reg (id := 5) ?_|refine g_reg (id := 6) ?_|(apply c4 0;exact callK1 (θ := []) (hD := (l14Number_ok _ _ preB270 preB270 preB270 preB270));exact rfl;exact rfl;exact rfl;refine dM ?_)|(apply g_drN (id := 7) okM [[],[0],[0,1],[0,1,2],[],[],[4,5],[0,1,2,3,4,5,6],[0,1,2,3,4,5,6,7],[],[0,1,2,3,4,5,6,7,8,9]] [([],[]),([],[]),([],[]),([],[]),([],[]),([],[]),([],[]),([],[]),([],[]),([0],[]),([],[0])] 1;(focus (refine dp 0 0 [56,57,58,13] [(true,0)] pu1 ?_;refine dp 1 1 [56,57,58,13] [(true,0)] (a_pure (sv := .one _) rfl) ?_;refine dp 2 3 [56,57,58,13] [(true,0)] (a_pure (sv := .one _) rfl) ?_;refine dp 3 7 [56,57,58,13] [(true,0)] (by exact puL) ?_;refine dp 4 0 [52,53,54,55,57,13] [(true,0)] pu1 ?_;refine dp 5 0 [52,53,54,55,56,13] [(true,0)] pu1 ?_;refine dp 6 3 [52,53,54,55,13] [(true,0)] (callD1 (n := _) 0 (θ := []) (hD := (l05AtC_ok _ _ preB270 preB270))) ?_;refine dp 7 127 [13] [(true,0)] puI ?_;refine dp 8 255 [13] [(true,0)] (by exact puL) ?_;refine duE 9 0 [52,53,54,55,56,57,58,59,60] [] (atN 0 (fun _ => a_new (gb := .bx _) rfl)) (by exact rfl) (by exact rfl) ?_;refine duE 10 1023 [] [] (by exact a_st_bx rfl rfl rfl rfl (fN rfl rfl) (Nat.le_of_ble_eq_true rfl) rfl) (by exact rfl) (by exact rfl) ?_;(refine d_nil ?_;refine dN ?_)));any_goals kernel_rfl)|fail
    simp only [hru]
    repeat' first|(apply p3;(first|exact pu1|exact a_add rfl rfl (by omega) (by omega)|exact a_mulB rfl rfl (by omega) (by omega) (by omega) (by omega));exact rfl)|refine cd ?_|(apply g_drN (id := 8) okM [[],[],[0,1]] [([],[]),([],[]),([],[])] 0;(focus (refine dp 0 0 [62] [] (by exact puL) ?_;refine dp 1 0 [61] [] (callD1 (n := _) 0 (θ := []) (hD := l05None_ok)) ?_;refine dp 2 3 [] [] (by exact a_eqRule (s := ⟨_,_,_⟩) rfl rfl) ?_;(refine d_nil ?_;refine dN ?_)));any_goals kernel_rfl)|((refine g_cond rfl (fun hc => ?_) (fun hc => ?_)) <;> (try simp only [dcB] at hc) <;> (try first|contradiction|(exfalso;omega)))|fail
    repeat refine cr ?_
    refine ends_id ?_
    refine endK [] (h2 := ?_) (h3 := ?_) (nd := ?_)
    all_goals (repeat' first|exact ce0|refine ce ?_|refine ce2 ?_ ?_|exact SVLe.refl|refine ceb ?_)
    all_goals first | exact (show nodupB _ = true from rfl) | exact Or.inr rfl | (rfl)
  · obtain ⟨x1,x2⟩ := hw.resolve_left hn
    obtain ⟨a1,a2,a3,a4,a5,a6,a7,a8,a9,a10,a11⟩ := prOk (w := (ruAt m c).w) ya yb hv1.1 hv1.2 hv2.1 hv2.2 x1 x2
    by_cases hm1 : (ruAt m c).m = 1
    · have e2 : costOf m.sy (numV m.sy c.le) (numV m.sy c.ri) (ruAt m c) = (m.sy + 1) * (numV m.sy c.ri / m.sy) + numV m.sy c.ri % m.sy + 1 + 2 * (numV m.sy c.ri / m.sy) + 1 + (m.sy + 1) * numV m.sy c.le + 1 + 2 * m.sy * numV m.sy c.le + 1 + (ruAt m c).w := by unfold costOf; rw [if_neg hn,if_pos hm1]
      rw [e2]
      refine does_of (k := 0) Tryz.func37 rfl Tryz.ntmps37 rfl rfl fun w F0 S0 ρ0 => ?_
      dsimp only [argT,argH]
      repeat' first|(apply p3;(first|exact pu1|exact a_quo rfl rfl (by omega) (by omega) (by omega)|exact a_rem rfl rfl (by omega) (by omega) (by omega)|exact a_add rfl rfl (by omega) (by omega)|exact a_mulB rfl rfl (by omega) (by omega) (by omega) (by omega));exact rfl)|refine cdn ?_|refine g_reg (id := 0) ?_|refine g_reg (id := 1) ?_|refine g_reg (id := 2) ?_|refine g_reg (id := 3) ?_|refine g_reg (id := 4) ?_|refine g_reg (id := 5) ?_|refine g_reg (id := 6) ?_|(apply c4 0;exact callK1 (θ := []) (hD := (l14Number_ok _ _ preB270 preB270 preB270 preB270));exact rfl;exact rfl;exact rfl;refine dM ?_)|(apply g_drN (id := 7) okM [[],[0],[0,1],[0,1,2],[],[],[4,5],[0,1,2,3,4,5,6],[0,1,2,3,4,5,6,7],[],[0,1,2,3,4,5,6,7,8,9]] [([],[]),([],[]),([],[]),([],[]),([],[]),([],[]),([],[]),([],[]),([],[]),([0],[]),([],[0])] 1;(focus (refine dp 0 0 [56,57,58,13] [(true,0)] pu1 ?_;refine dp 1 1 [56,57,58,13] [(true,0)] (a_pure (sv := .one _) rfl) ?_;refine dp 2 3 [56,57,58,13] [(true,0)] (a_pure (sv := .one _) rfl) ?_;refine dp 3 7 [56,57,58,13] [(true,0)] (by exact puL) ?_;refine dp 4 0 [52,53,54,55,57,13] [(true,0)] pu1 ?_;refine dp 5 0 [52,53,54,55,56,13] [(true,0)] pu1 ?_;refine dp 6 3 [52,53,54,55,13] [(true,0)] (callD1 (n := _) 0 (θ := []) (hD := (l05AtC_ok _ _ preB270 preB270))) ?_;refine dp 7 127 [13] [(true,0)] puI ?_;refine dp 8 255 [13] [(true,0)] (by exact puL) ?_;refine duE 9 0 [52,53,54,55,56,57,58,59,60] [] (atN 0 (fun _ => a_new (gb := .bx _) rfl)) (by exact rfl) (by exact rfl) ?_;refine duE 10 1023 [] [] (by exact a_st_bx rfl rfl rfl rfl (fN rfl rfl) (Nat.le_of_ble_eq_true rfl) rfl) (by exact rfl) (by exact rfl) ?_;(refine d_nil ?_;refine dN ?_)));any_goals kernel_rfl)|fail
      simp only [hru]
      repeat' first|(apply p3;(first|exact pu1|exact a_add rfl rfl (by omega) (by omega)|exact a_mulB rfl rfl (by omega) (by omega) (by omega) (by omega)|exact puC);exact rfl)|refine cd ?_|(apply g_drN (id := 8) okM [[],[],[0,1]] [([],[]),([],[]),([],[])] 0;(focus (refine dp 0 0 [62] [] (by exact puL) ?_;refine dp 1 0 [61] [] (callD1 (n := _) 0 (θ := []) (hD := l05None_ok)) ?_;refine dp 2 3 [] [] (by exact a_eqRule (s := ⟨_,_,_⟩) rfl rfl) ?_;(refine d_nil ?_;refine dN ?_)));any_goals kernel_rfl)|((refine g_cond rfl (fun hc => ?_) (fun hc => ?_)) <;> (try simp only [dcB] at hc) <;> (try first|contradiction|(exfalso;omega)))|fail
      repeat refine cr ?_
      refine ends_id ?_
      refine endK [] (h2 := ?_) (h3 := ?_) (nd := ?_)
      all_goals (repeat' first|exact ce0|refine ce ?_|refine ce2 ?_ ?_|exact SVLe.refl|refine ceb ?_)
      all_goals first | exact (show nodupB _ = true from rfl) | exact Or.inr rfl | (rfl)
    · have e2 : costOf m.sy (numV m.sy c.le) (numV m.sy c.ri) (ruAt m c) = (m.sy + 1) * (numV m.sy c.ri / m.sy) + numV m.sy c.ri % m.sy + 1 + (m.sy + 1) * (numV m.sy c.ri / m.sy) + 1 + (ruAt m c).w + (m.sy + 1) * (numV m.sy c.le / m.sy) + numV m.sy c.le % m.sy + 1 + 2 * (numV m.sy c.le / m.sy) + 1 + (m.sy + 1) * (numV m.sy c.ri / m.sy * m.sy + (ruAt m c).w) + 1 + 2 * m.sy * (numV m.sy c.ri / m.sy * m.sy + (ruAt m c).w) + 1 + numV m.sy c.le % m.sy := by unfold costOf; rw [if_neg hn,if_neg hm1]
      rw [e2]
      refine does_of (k := 0) Tryz.func37 rfl Tryz.ntmps37 rfl rfl fun w F0 S0 ρ0 => ?_
      dsimp only [argT,argH]
      repeat' first|(apply p3;(first|exact pu1|exact a_quo rfl rfl (by omega) (by omega) (by omega)|exact a_rem rfl rfl (by omega) (by omega) (by omega)|exact a_add rfl rfl (by omega) (by omega)|exact a_mulB rfl rfl (by omega) (by omega) (by omega) (by omega));exact rfl)|refine cdn ?_|refine g_reg (id := 0) ?_|refine g_reg (id := 1) ?_|refine g_reg (id := 2) ?_|refine g_reg (id := 3) ?_|refine g_reg (id := 4) ?_|refine g_reg (id := 5) ?_|refine g_reg (id := 6) ?_|(apply c4 0;exact callK1 (θ := []) (hD := (l14Number_ok _ _ preB270 preB270 preB270 preB270));exact rfl;exact rfl;exact rfl;refine dM ?_)|(apply g_drN (id := 7) okM [[],[0],[0,1],[0,1,2],[],[],[4,5],[0,1,2,3,4,5,6],[0,1,2,3,4,5,6,7],[],[0,1,2,3,4,5,6,7,8,9]] [([],[]),([],[]),([],[]),([],[]),([],[]),([],[]),([],[]),([],[]),([],[]),([0],[]),([],[0])] 1;(focus (refine dp 0 0 [56,57,58,13] [(true,0)] pu1 ?_;refine dp 1 1 [56,57,58,13] [(true,0)] (a_pure (sv := .one _) rfl) ?_;refine dp 2 3 [56,57,58,13] [(true,0)] (a_pure (sv := .one _) rfl) ?_;refine dp 3 7 [56,57,58,13] [(true,0)] (by exact puL) ?_;refine dp 4 0 [52,53,54,55,57,13] [(true,0)] pu1 ?_;refine dp 5 0 [52,53,54,55,56,13] [(true,0)] pu1 ?_;refine dp 6 3 [52,53,54,55,13] [(true,0)] (callD1 (n := _) 0 (θ := []) (hD := (l05AtC_ok _ _ preB270 preB270))) ?_;refine dp 7 127 [13] [(true,0)] puI ?_;refine dp 8 255 [13] [(true,0)] (by exact puL) ?_;refine duE 9 0 [52,53,54,55,56,57,58,59,60] [] (atN 0 (fun _ => a_new (gb := .bx _) rfl)) (by exact rfl) (by exact rfl) ?_;refine duE 10 1023 [] [] (by exact a_st_bx rfl rfl rfl rfl (fN rfl rfl) (Nat.le_of_ble_eq_true rfl) rfl) (by exact rfl) (by exact rfl) ?_;(refine d_nil ?_;refine dN ?_)));any_goals kernel_rfl)|fail
      simp only [hru]
      repeat' first|(apply p3;(first|exact pu1|exact a_quo rfl rfl (by omega) (by omega) (by omega)|exact a_rem rfl rfl (by omega) (by omega) (by omega)|exact a_add rfl rfl (by omega) (by omega)|exact a_mulB rfl rfl (by omega) (by omega) (by omega) (by omega)|exact puC);exact rfl)|refine cd ?_|(apply g_drN (id := 8) okM [[],[],[0,1]] [([],[]),([],[]),([],[])] 0;(focus (refine dp 0 0 [62] [] (by exact puL) ?_;refine dp 1 0 [61] [] (callD1 (n := _) 0 (θ := []) (hD := l05None_ok)) ?_;refine dp 2 3 [] [] (by exact a_eqRule (s := ⟨_,_,_⟩) rfl rfl) ?_;(refine d_nil ?_;refine dN ?_)));any_goals kernel_rfl)|((refine g_cond rfl (fun hc => ?_) (fun hc => ?_)) <;> (try simp only [dcB] at hc) <;> (try first|contradiction|(exfalso;omega)))|fail
      repeat refine cr ?_
      refine ends_id ?_
      refine endK [] (h2 := ?_) (h3 := ?_) (nd := ?_)
      all_goals (repeat' first|exact ce0|refine ce ?_|refine ce2 ?_ ?_|exact SVLe.refl|refine ceb ?_)
      all_goals first | exact (show nodupB _ = true from rfl) | exact Or.inr rfl | (rfl)
end Go.Proofs.YtegpggobfdcafaaGreat
end
section
set_option linter.unusedVariables false
set_option linter.unusedSimpArgs false
set_option maxRecDepth 100000
set_option maxHeartbeats 4000000
namespace Go.Proofs.YtegpggobfdcafaaGreat
open Go Foot Go.RowKit
structure Cs where
  s : Int
  f : Bool
abbrev csBx (x : Cs) : GB := .bx [int x.s,boo x.f]
@[irreducible] def cAdd (m : Mach) (c : Conf) (x : Cs) : Cs := if numOk m c then ⟨x.s + costC m c,x.f || decide (x.s + costC m c > 1000000000000)⟩ else ⟨x.s,true⟩
theorem preB271 {p : Prop} (h : p := by first | with_reducible assumption | omega | (simp only [List.length_append,List.length_cons,List.length_nil,List.length_set,List.length_replicate,List.length_take,List.length_drop,List.length_tail,List.length_dropLast,List.length_reverse] at *; omega) | exact mem_len (by assumption) (by omega) | (with_reducible refine Int.le_trans (Int.ofNat_le.2 (trimR_len _)) ?_; simp only [List.length_cons,List.length_tail]; omega) | (exact (ruAt_ok (by assumption) (by assumption) (by assumption)).2.1) | (exact (ruAt_ok (by assumption) (by assumption) (by assumption)).2.1) | (have := vMach_bd (by assumption); omega) | (simp only [List.length_append,List.length_cons,List.length_nil,repW_len,seN_len] at *; omega) | (simp only [mC_ch,mC_tu]; omega) | (have := vTag_bd (by assumption); omega) | (have := (‹Gd _ _›).le; omega) | (exact tgHalts_no (by assumption)) | (exact tgHead (by assumption) (by assumption) (by assumption)) | (exact Int.le_trans (tgStep_gd (by assumption) (by assumption) (by assumption) (by assumption)).le (by decide)) | (exact vTag_r (by assumption)) | (with_reducible refine Int.le_trans (Int.ofNat_le.2 (pushL_len _ _)) ?_; simp only [List.length_dropLast]; omega) | exact ls_at (by assumption) (by omega) | exact pt_gd (by assumption) | exact lv_at (by assumption) (by omega) | exact pt_gd (lv_at (by assumption) (by omega)) | exact (ask_ok (by assumption)).1 | exact (ask_ok (by assumption)).2.1 | exact (ask_ok (by assumption)).2.2.1 | exact (ask_ok (by assumption)).2.2.2 | trivial) : p := h
theorem stepCostY_ok (m : Mach) (c : Conf) (hm : vMach m = true) (hc : vConf m c = true) (hk : numOk m c = true) : Does Tryz.prog 260 [.agg (maC m),.agg (coC c)] [] (.tup [(false,[int (costC m c)]),(false,[int 0])]) [] := by
  have := stepCost_ok m c hm hc
  rw [hk] at this
  exact this
theorem stepCostN_ok (m : Mach) (c : Conf) (hm : vMach m = true) (hc : vConf m c = true) (hk : numOk m c = false) : Does Tryz.prog 260 [.agg (maC m),.agg (coC c)] [] (.tup [(false,[int 0]),(false,[int 5])]) [] := by
  have := stepCost_ok m c hm hc
  rw [hk] at this
  exact this
theorem costAddC_ok (s : Int) (f : Bool) (m : Mach) (c : Conf) (hm : vMach m = true) (hc : vConf m c = true) (h1 : 0 ≤ s) (h2 : s ≤ 100000000000000) : Does Tryz.prog 257 [.one (.gv 0),.one (ruD m c.st c.le.reverse c.ri.reverse)] [.bx [int s,boo f]] .any [csBx (cAdd m c ⟨s,f⟩)] := by
  have hb := at_bd hm hc
  have hcb := costC_bd hm hc
  cases hk : numOk m c
  · have e : cAdd m c ⟨s,f⟩ = ⟨s,true⟩ := by unfold cAdd; rw [hk]; rfl
    rw [e]
    cases f
    · skip
      refine does_of (k := 1) Tryz.func257 rfl Tryz.ntmps257 rfl rfl fun w F0 S0 ρ0 => ?_
      dsimp only [argT,argH]
      repeat' first|(apply p3;(first|exact pu1|exact a_add rfl rfl (by omega) (by omega));exact rfl)|refine cd ?_|(apply w3;(exact a_st_bx rfl rfl rfl rfl (fN rfl rfl) (Nat.le_of_ble_eq_true rfl) rfl);exact rfl;refine dS ?_)|refine o_no rfl rfl rfl rfl ?_|(apply py3;exact rfl;exact rfl;(first|exact pu1|exact a_ne rfl rfl);exact rfl;exact rfl)|(apply g_drN (id := 0) okM [[],[0],[0,1],[0,1,2],[],[4],[0,1,2,3,4,5],[0,1,2,3,4,5,6],[0,1,2,3,4,5,6,7],[0,1,2,3,4,5,6,7],[0,1,2,3,4,5,6,7,8],[0,1,2,3,4,5,6,7,8,9,10]] [([],[]),([],[]),([],[]),([],[]),([],[]),([],[]),([],[]),([],[]),([],[]),([],[]),([],[]),([],[])] 0;(focus (refine dp 0 0 [11,12] [] pu1 ?_;refine dp 1 1 [11,12] [] (a_pure (sv := .one _) rfl) ?_;refine dp 2 3 [11,12] [] (a_pure (sv := .one _) rfl) ?_;refine dp 3 7 [11,12] [] puL ?_;refine dp 4 0 [7,8,9,10] [] pu1 ?_;refine dp 5 1 [7,8,9,10] [] (callFD 0 (hD := (configC_ok _ _ preB271 preB271))) ?_;refine dp 6 63 [] [] (callD1 (n := _) 0 (θ := []) (hD := (stepCostN_ok m c hm hc hk))) ?_;refine dp 7 127 [] [] pu1 ?_;refine dp 8 255 [15] [] pu2 ?_;refine dp 9 510 [14,4] [] pu2 ?_;refine dp 10 1022 [15] [] pu1 ?_;refine dp 11 2047 [] [] pu1 ?_;(refine d_nil ?_;refine dN ?_)));any_goals kernel_rfl)|fail
      repeat refine cr ?_
      refine ends_id ?_
      refine endK [] (h2 := ?_) (h3 := ?_) (nd := ?_)
      all_goals (repeat' first|exact ce0|refine ce ?_|refine ce2 ?_ ?_|(refine Or.inr (bx_eq rfl rfl ?_);(try dsimp only [C.ren,C.ren.all]);(try exact rfl))|exact SVLe.refl|refine ceb ?_)
      all_goals first | exact (show nodupB _ = true from rfl) | exact Or.inr rfl | ((simp))
    · skip
      refine does_of (k := 1) Tryz.func257 rfl Tryz.ntmps257 rfl rfl fun w F0 S0 ρ0 => ?_
      dsimp only [argT,argH]
      repeat' first|(apply p3;(first|exact pu1|exact a_add rfl rfl (by omega) (by omega));exact rfl)|refine cd ?_|(apply w3;(exact a_st_bx rfl rfl rfl rfl (fN rfl rfl) (Nat.le_of_ble_eq_true rfl) rfl);exact rfl;refine dS ?_)|refine o_no rfl rfl rfl rfl ?_|(apply g_drN (id := 0) okM [[],[0],[0,1],[0,1,2],[],[4],[0,1,2,3,4,5],[0,1,2,3,4,5,6],[0,1,2,3,4,5,6,7],[0,1,2,3,4,5,6,7],[0,1,2,3,4,5,6,7,8],[0,1,2,3,4,5,6,7,8,9,10]] [([],[]),([],[]),([],[]),([],[]),([],[]),([],[]),([],[]),([],[]),([],[]),([],[]),([],[]),([],[])] 0;(focus (refine dp 0 0 [11,12] [] pu1 ?_;refine dp 1 1 [11,12] [] (a_pure (sv := .one _) rfl) ?_;refine dp 2 3 [11,12] [] (a_pure (sv := .one _) rfl) ?_;refine dp 3 7 [11,12] [] puL ?_;refine dp 4 0 [7,8,9,10] [] pu1 ?_;refine dp 5 1 [7,8,9,10] [] (callFD 0 (hD := (configC_ok _ _ preB271 preB271))) ?_;refine dp 6 63 [] [] (callD1 (n := _) 0 (θ := []) (hD := (stepCostN_ok m c hm hc hk))) ?_;refine dp 7 127 [] [] pu1 ?_;refine dp 8 255 [15] [] pu2 ?_;refine dp 9 510 [14,4] [] pu2 ?_;refine dp 10 1022 [15] [] pu1 ?_;refine dp 11 2047 [] [] pu1 ?_;(refine d_nil ?_;refine dN ?_)));any_goals kernel_rfl)|fail
      repeat refine cr ?_
      refine ends_id ?_
      refine endK [] (h2 := ?_) (h3 := ?_) (nd := ?_)
      all_goals (repeat' first|exact ce0|refine ce ?_|refine ce2 ?_ ?_|(refine Or.inr (bx_eq rfl rfl ?_);(try dsimp only [C.ren,C.ren.all]);(try exact rfl))|exact SVLe.refl|refine ceb ?_)
      all_goals first | exact (show nodupB _ = true from rfl) | exact Or.inr rfl | ((simp))
  · have e : cAdd m c ⟨s,f⟩ = ⟨s + costC m c,f || decide (s + costC m c > 1000000000000)⟩ := by unfold cAdd; rw [hk]; rfl
    rw [e]
    cases f
    · skip
      refine does_of (k := 1) Tryz.func257 rfl Tryz.ntmps257 rfl rfl fun w F0 S0 ρ0 => ?_
      dsimp only [argT,argH]
      repeat' first|(apply p3;(first|exact pu1|exact a_add rfl rfl (by omega) (by omega));exact rfl)|refine cd ?_|(apply w3;(exact a_st_bx rfl rfl rfl rfl (fN rfl rfl) (Nat.le_of_ble_eq_true rfl) rfl);exact rfl;refine dS ?_)|(apply py3;exact rfl;exact rfl;(first|exact pu1|exact a_ne rfl rfl|exact puC);exact rfl;exact rfl)|(apply g_drN (id := 0) okM [[],[0],[0,1],[0,1,2],[],[4],[0,1,2,3,4,5],[0,1,2,3,4,5,6],[0,1,2,3,4,5,6,7],[0,1,2,3,4,5,6,7],[0,1,2,3,4,5,6,7,8],[0,1,2,3,4,5,6,7,8,9,10]] [([],[]),([],[]),([],[]),([],[]),([],[]),([],[]),([],[]),([],[]),([],[]),([],[]),([],[]),([],[])] 0;(focus (refine dp 0 0 [11,12] [] pu1 ?_;refine dp 1 1 [11,12] [] (a_pure (sv := .one _) rfl) ?_;refine dp 2 3 [11,12] [] (a_pure (sv := .one _) rfl) ?_;refine dp 3 7 [11,12] [] puL ?_;refine dp 4 0 [7,8,9,10] [] pu1 ?_;refine dp 5 1 [7,8,9,10] [] (callFD 0 (hD := (configC_ok _ _ preB271 preB271))) ?_;refine dp 6 63 [] [] (by exact callD1 (n := _) 0 (θ := []) (hD := (stepCostY_ok m c hm hc hk))) ?_;refine dp 7 127 [] [] pu1 ?_;refine dp 8 255 [15] [] pu2 ?_;refine dp 9 510 [14,4] [] pu2 ?_;refine dp 10 1022 [15] [] pu1 ?_;refine dp 11 2047 [] [] pu1 ?_;(refine d_nil ?_;refine dN ?_)));any_goals kernel_rfl)|fail
      repeat refine cr ?_
      refine ends_id ?_
      refine endK [] (h2 := ?_) (h3 := ?_) (nd := ?_)
      all_goals (repeat' first|exact ce0|refine ce ?_|refine ce2 ?_ ?_|(refine Or.inr (bx_eq rfl rfl ?_);(try dsimp only [C.ren,C.ren.all]);(try exact rfl))|exact SVLe.refl|refine ceb ?_)
      all_goals first | exact (show nodupB _ = true from rfl) | exact Or.inr rfl | ((first | rfl | simp))
    · skip
      refine does_of (k := 1) Tryz.func257 rfl Tryz.ntmps257 rfl rfl fun w F0 S0 ρ0 => ?_
      dsimp only [argT,argH]
      repeat' first|(apply p3;(first|exact pu1|exact a_add rfl rfl (by omega) (by omega));exact rfl)|refine cd ?_|(apply w3;(exact a_st_bx rfl rfl rfl rfl (fN rfl rfl) (Nat.le_of_ble_eq_true rfl) rfl);exact rfl;refine dS ?_)|refine o_no rfl rfl rfl rfl ?_|(apply g_drN (id := 0) okM [[],[0],[0,1],[0,1,2],[],[4],[0,1,2,3,4,5],[0,1,2,3,4,5,6],[0,1,2,3,4,5,6,7],[0,1,2,3,4,5,6,7],[0,1,2,3,4,5,6,7,8],[0,1,2,3,4,5,6,7,8,9,10]] [([],[]),([],[]),([],[]),([],[]),([],[]),([],[]),([],[]),([],[]),([],[]),([],[]),([],[]),([],[])] 0;(focus (refine dp 0 0 [11,12] [] pu1 ?_;refine dp 1 1 [11,12] [] (a_pure (sv := .one _) rfl) ?_;refine dp 2 3 [11,12] [] (a_pure (sv := .one _) rfl) ?_;refine dp 3 7 [11,12] [] puL ?_;refine dp 4 0 [7,8,9,10] [] pu1 ?_;refine dp 5 1 [7,8,9,10] [] (callFD 0 (hD := (configC_ok _ _ preB271 preB271))) ?_;refine dp 6 63 [] [] (by exact callD1 (n := _) 0 (θ := []) (hD := (stepCostY_ok m c hm hc hk))) ?_;refine dp 7 127 [] [] pu1 ?_;refine dp 8 255 [15] [] pu2 ?_;refine dp 9 510 [14,4] [] pu2 ?_;refine dp 10 1022 [15] [] pu1 ?_;refine dp 11 2047 [] [] pu1 ?_;(refine d_nil ?_;refine dN ?_)));any_goals kernel_rfl)|fail
      repeat refine cr ?_
      refine ends_id ?_
      refine endK [] (h2 := ?_) (h3 := ?_) (nd := ?_)
      all_goals (repeat' first|exact ce0|refine ce ?_|refine ce2 ?_ ?_|(refine Or.inr (bx_eq rfl rfl ?_);(try dsimp only [C.ren,C.ren.all]);(try exact rfl))|exact SVLe.refl|refine ceb ?_)
      all_goals first | exact (show nodupB _ = true from rfl) | exact Or.inr rfl | ((first | rfl | simp))
theorem costAdd_ok (x : Cs) (m : Mach) (c : Conf) (hm : vMach m = true) (hc : vConf m c = true) (h1 : 0 ≤ x.s) (h2 : x.s ≤ 100000000000000) : Does Tryz.prog 257 [.one (.gv 0),.one (ruD m c.st c.le.reverse c.ri.reverse)] [csBx x] .any [csBx (cAdd m c x)] := costAddC_ok x.s x.f m c hm hc h1 h2
theorem costConfig_ok (x : Cs) (m : Mach) (c : Conf) (hd : Int) (hm : vMach m = true) (hc : vConf m c = true) (h1 : 0 ≤ x.s) (h2 : x.s ≤ 100000000000000) : Does Tryz.prog 258 [.one (.gv 0),.one (ruD m c.st c.le.reverse c.ri.reverse),.one (int hd)] [csBx x] .any [csBx (if ruAt m c = noR then cAdd m c x else x)] := by
  by_cases hn : ruAt m c = noR
  · rw [if_pos hn]
    refine does_of (k := 1) Tryz.func258 rfl Tryz.ntmps258 rfl rfl fun w F0 S0 ρ0 => ?_
    dsimp only [argT,argH]
    repeat' first|(apply p3;exact pu1;exact rfl)|refine cd ?_|(apply c4 0;exact callK1 (θ := []) (hD := (haltsC_ok _ _ preB271 preB271));exact rfl;exact rfl;exact rfl;refine dM ?_)|(apply c4 0;exact callK1 (θ := [_]) (hD := (costAdd_ok _ _ _ preB271 preB271 preB271 preB271));exact rfl;exact rfl;exact rfl;refine dM ?_)|((refine g_cond rfl (fun hc => ?_) (fun hc => ?_)) <;> (try simp only [dcB] at hc) <;> (try first|contradiction|(exfalso;omega)))|fail
    repeat refine cr ?_
    refine ends_id ?_
    refine endK [] (h2 := ?_) (h3 := ?_) (nd := ?_)
    all_goals (repeat' first|exact ce0|refine ce ?_|refine ce2 ?_ ?_|(refine Or.inr (bx_eq rfl rfl ?_);(try dsimp only [C.ren,C.ren.all]);(try exact rfl))|exact SVLe.refl|refine ceb ?_)
    all_goals first | exact (show nodupB _ = true from rfl) | exact Or.inr rfl | (rfl)
  · rw [if_neg hn]
    refine does_of (k := 1) Tryz.func258 rfl Tryz.ntmps258 rfl rfl fun w F0 S0 ρ0 => ?_
    dsimp only [argT,argH]
    repeat' first|(apply p3;exact pu1;exact rfl)|refine cd ?_|(apply c4 0;exact callK1 (θ := []) (hD := (haltsC_ok _ _ preB271 preB271));exact rfl;exact rfl;exact rfl;refine dM ?_)|((refine g_cond rfl (fun hc => ?_) (fun hc => ?_)) <;> (try simp only [dcB] at hc) <;> (try first|contradiction|(exfalso;omega)))|fail
    repeat refine cr ?_
    refine ends_id ?_
    refine endK [] (h2 := ?_) (h3 := ?_) (nd := ?_)
    all_goals (repeat' first|exact ce0|refine ce ?_|refine ce2 ?_ ?_|(refine Or.inr (bx_eq rfl rfl ?_);(try dsimp only [C.ren,C.ren.all]);(try exact rfl))|exact SVLe.refl|refine ceb ?_)
    all_goals first | exact (show nodupB _ = true from rfl) | exact Or.inr rfl | (rfl)
theorem costStep_ok (x : Cs) (m : Mach) (c : Conf) (hd : Int) (u : Rule') (hm : vMach m = true) (hc : vConf m c = true) (h1 : 0 ≤ x.s) (h2 : x.s ≤ 100000000000000) : Does Tryz.prog 259 [.one (.gv 0),.one (ruD m c.st c.le.reverse c.ri.reverse),.one (int hd),.agg (ruC u)] [csBx x] .any [csBx (cAdd m c x)] := by
  refine does_of (k := 1) Tryz.func259 rfl Tryz.ntmps259 rfl rfl fun w F0 S0 ρ0 => ?_
  dsimp only [argT,argH]
  repeat' first|(apply n3;exact a_new (gb := .bx _) rfl;exact rfl;refine dA ?_)|(apply p3;exact pu1;exact rfl)|refine cd ?_|(apply c4 0;exact callK1 (θ := [_]) (hD := (costAdd_ok _ _ _ preB271 preB271 preB271 preB271));exact rfl;exact rfl;exact rfl;refine dM ?_)|fail
  repeat refine cr ?_
  refine ends_id ?_
  refine endK [] (h2 := ?_) (h3 := ?_) (nd := ?_)
  all_goals (repeat' first|exact ce0|refine ce ?_|refine ce2 ?_ ?_|(refine Or.inr (bx_eq rfl rfl ?_);(try dsimp only [C.ren,C.ren.all]);(try exact rfl))|exact SVLe.refl|refine ceb ?_)
  all_goals first | exact (show nodupB _ = true from rfl) | exact Or.inr rfl | (rfl)
end Go.Proofs.YtegpggobfdcafaaGreat
end
section
set_option linter.unusedVariables false
set_option linter.unusedSimpArgs false
set_option maxRecDepth 100000
set_option maxHeartbeats 4000000
namespace Go.Proofs.YtegpggobfdcafaaGreat
open Go Foot Go.RowKit
@[irreducible] def ccC (m : Mach) (c : Conf) (hd : Int) (x : Cs) : Cs := if ruAt m c = noR then cAdd m c x else x
@[irreducible] def ccS (m : Mach) (c : Conf) (hd : Int) (u : Rule') (x : Cs) : Cs := cAdd m c x
theorem cAdd_bd {m : Mach} {c : Conf} (hm : vMach m = true) (hc : vConf m c = true) (x : Cs) : x.s ≤ (cAdd m c x).s ∧ (cAdd m c x).s ≤ x.s + 100000000 := by
  have := costC_bd hm hc
  unfold cAdd
  split <;> dsimp only <;> omega
theorem ccC_eq (m : Mach) (c : Conf) (hd : Int) (x : Cs) : ccC m c hd x = if ruAt m c = noR then cAdd m c x else x := by unfold ccC; rfl
theorem preB272 {p : Prop} (h : p := by first | with_reducible assumption | omega | (simp only [List.length_append,List.length_cons,List.length_nil,List.length_set,List.length_replicate,List.length_take,List.length_drop,List.length_tail,List.length_dropLast,List.length_reverse] at *; omega) | exact mem_len (by assumption) (by omega) | (with_reducible refine Int.le_trans (Int.ofNat_le.2 (trimR_len _)) ?_; simp only [List.length_cons,List.length_tail]; omega) | (exact (ruAt_ok (by assumption) (by assumption) (by assumption)).2.1) | (exact (ruAt_ok (by assumption) (by assumption) (by assumption)).2.1) | (have := vMach_bd (by assumption); omega) | (simp only [List.length_append,List.length_cons,List.length_nil,repW_len,seN_len] at *; omega) | (simp only [mC_ch,mC_tu]; omega) | (have := vTag_bd (by assumption); omega) | (have := (‹Gd _ _›).le; omega) | (exact tgHalts_no (by assumption)) | (exact tgHead (by assumption) (by assumption) (by assumption)) | (exact Int.le_trans (tgStep_gd (by assumption) (by assumption) (by assumption) (by assumption)).le (by decide)) | (exact vTag_r (by assumption)) | (with_reducible refine Int.le_trans (Int.ofNat_le.2 (pushL_len _ _)) ?_; simp only [List.length_dropLast]; omega) | exact ls_at (by assumption) (by omega) | exact pt_gd (by assumption) | exact lv_at (by assumption) (by omega) | exact pt_gd (lv_at (by assumption) (by omega)) | exact (ask_ok (by assumption)).1 | exact (ask_ok (by assumption)).2.1 | exact (ask_ok (by assumption)).2.2.1 | exact (ask_ok (by assumption)).2.2.2 | trivial) : p := h
theorem costConfigC_ok (x : Cs) (m : Mach) (c : Conf) (hd : Int) (hm : vMach m = true) (hc : vConf m c = true) (h1 : 0 ≤ x.s) (h2 : x.s ≤ 100000000000000) : Does Tryz.prog 258 [.one (.gv 0),.one (ruD m c.st c.le.reverse c.ri.reverse),.one (int hd)] [csBx x] .any [csBx (ccC m c hd x)] := by
  rw [ccC_eq]
  exact costConfig_ok x m c hd hm hc h1 h2
theorem costStepC_ok (x : Cs) (m : Mach) (c : Conf) (hd : Int) (u : Rule') (hm : vMach m = true) (hc : vConf m c = true) (h1 : 0 ≤ x.s) (h2 : x.s ≤ 100000000000000) : Does Tryz.prog 259 [.one (.gv 0),.one (ruD m c.st c.le.reverse c.ri.reverse),.one (int hd),.agg (ruC u)] [csBx x] .any [csBx (ccS m c hd u x)] := by
  have e : ccS m c hd u x = cAdd m c x := by unfold ccS; rfl
  rw [e]
  exact costStep_ok x m c hd u hm hc h1 h2
theorem followK_ok (m : Mach) (c : Conf) (b : Int) (hm : vMach m = true) (hc : vConf m c = true) (hb : 1 ≤ b) (hb2 : b ≤ 20000) (O : Out Cs) (hO : runG m (ccC m) (ccS m) b.toNat 0 c 0 ⟨0,false⟩ = O) : Does Tryz.prog 43 [.agg (maC m),.agg (coC c),.one (int b),.one (.ifc 78 false [.gv 0])] [csBx ⟨0,false⟩] (.tup [(false,[int (if O.full then 0 else O.n)]),(false,[boo O.halts]),(false,[int (if O.full then 5 else 0)])]) [csBx O.x] := by
  have hbd := at_bd hm hc
  refine does_of (k := 1) Tryz.func43 rfl Tryz.ntmps43 rfl rfl fun w F0 S0 ρ0 => ?_
  dsimp only [argT,argH]
  repeat' first|(apply n3;exact a_new (gb := .bx _) rfl;exact rfl;refine dA ?_)|(apply p3;(exact pu1);exact rfl)|refine cd ?_|(apply c4 3;exact callK0 (θ := []) (hD := (runnerOf_ok _ _ preB272 preB272));exact rfl;exact rfl;exact rfl;refine dM ?_)|fail
  refine g_loop_id ?_
  refine loopK [2,3,8,9,10,11] [0,3,4,5] (fun y : Int × Conf × Int × Cs => 0 ≤ y.1 ∧ y.1 ≤ b ∧ vConf m y.2.1 = true ∧ -y.1 ≤ y.2.2.1 ∧ y.2.2.1 ≤ y.1 ∧ 0 ≤ y.2.2.2.s ∧ y.2.2.2.s ≤ 200000000 * y.1 ∧ runG m (ccC m) (ccS m) (b - y.1).toNat y.1 y.2.1 y.2.2.1 y.2.2.2 = O) (fun y => [(13,.one (int y.1)),(12,.one (int y.2.2.1))]) (fun y => [(3,ruBx m y.2.1.st 4 5),(4,roI y.2.1.le.reverse),(5,roI y.2.1.ri.reverse),(0,csBx y.2.2.2)]) (fun y => (b - y.1).toNat) ((0 : Int),c,(0 : Int),(⟨0,false⟩ : Cs)) [0,1,2,3,4,5] (hI := ?_) (hr := ?_)
  · exact ⟨by simp,by dsimp only; omega,hc,by simp,by simp,by simp,by simp,by rw [← hO]; congr 1; dsimp only; omega⟩
  · rintro ⟨n,c,hd,x⟩ ⟨i1,i2,i3,i4,i5,i6,i7,i10⟩
    dsimp only [List.cons_append,List.nil_append] at *
    skip
    have hbd := at_bd hm i3; have hok := ruAt_ok hm i3; have hx1 := cAdd_bd hm i3 x; have hx2 := cAdd_bd hm i3 (ccC m c hd x); have hx3 := ccC_eq m c hd x; have hx4 : 0 ≤ (ccC m c hd x).s ∧ (ccC m c hd x).s ≤ 100000000000000 := (by rw [hx3]; split <;> omega)
    repeat' first|(apply n3;exact a_new (gb := .bx _) rfl;exact rfl;refine dA ?_)|(apply p3;(first|exact pu1|exact puC);exact rfl)|refine cd ?_|(apply w3;(exact a_st_bx rfl rfl rfl rfl (fN rfl rfl) (Nat.le_of_ble_eq_true rfl) rfl);exact rfl;refine dS ?_)|(apply c4 0;exact callM (dst := some 23) (θ := [_]) (hD := (costConfigC_ok _ _ _ _ preB272 preB272 preB272 preB272));exact rfl;exact rfl;exact rfl;refine dM ?_)|(apply c4 0;exact callK1 (θ := []) (hD := (haltsC_ok _ _ preB272 preB272));exact rfl;exact rfl;exact rfl;refine dM ?_)|(apply c4 0;exact callK1 (θ := []) (hD := (ruleC_ok _ _ preB272 preB272));exact rfl;exact rfl;exact rfl;refine dM ?_)|(apply c4 0;exact callM (dst := some 40) (θ := [_]) (hD := (costStepC_ok _ _ _ _ _ preB272 preB272 preB272 preB272));exact rfl;exact rfl;exact rfl;refine dM ?_)|(apply c4 2;exact callK0 (θ := [_,_,_]) (hD := (stepC_ok _ _ preB272 preB272));exact rfl;exact rfl;exact rfl;refine dM ?_)|refine o_no rfl rfl rfl rfl ?_|(apply py3;exact rfl;exact rfl;(exact pu1);exact rfl;exact rfl)|(apply cy4 0;exact rfl;exact rfl;exact callK1 (θ := []) (hD := (haltsC_ok _ _ preB272 preB272));exact rfl;exact rfl;exact rfl;exact rfl;refine dM ?_)|((first|refine o_gs rfl rfl (fun hc => ?_) (fun hc => ?_)|refine g_cond rfl (fun hc => ?_) (fun hc => ?_)) <;> (try simp only [dcB] at hc) <;> (try first|contradiction|(exfalso;omega)))|fail
    · by_cases hr : ruAt m c = noR
      · obtain rfl := run_halt hr i10
        repeat refine cr ?_
        refine ends_id ?_
        refine endK [] (h2 := ?_) (h3 := ?_) (nd := ?_)
        all_goals (repeat' first|exact ce0|refine ce ?_|refine ce2 ?_ ?_|(refine Or.inr (bx_eq rfl rfl ?_);(try dsimp only [C.ren,C.ren.all]);(try exact rfl))|exact SVLe.refl|refine ceb ?_)
        all_goals first | exact (show nodupB _ = true from rfl) | exact Or.inr rfl | (simp [hr])
      · obtain rfl := run_end hr hc i10
        repeat refine cr ?_
        refine ends_id ?_
        refine endK [] (h2 := ?_) (h3 := ?_) (nd := ?_)
        all_goals (repeat' first|exact ce0|refine ce ?_|refine ce2 ?_ ?_|(refine Or.inr (bx_eq rfl rfl ?_);(try dsimp only [C.ren,C.ren.all]);(try exact rfl))|exact SVLe.refl|refine ceb ?_)
        all_goals first | exact (show nodupB _ = true from rfl) | exact Or.inr rfl | (simp [hr])
    · obtain rfl := run_halt hc i10
      repeat refine cr ?_
      refine ends_id ?_
      refine endK [] (h2 := ?_) (h3 := ?_) (nd := ?_)
      all_goals (repeat' first|exact ce0|refine ce ?_|refine ce2 ?_ ?_|(refine Or.inr (bx_eq rfl rfl ?_);(try dsimp only [C.ren,C.ren.all]);(try exact rfl))|exact SVLe.refl|refine ceb ?_)
      all_goals first | exact (show nodupB _ = true from rfl) | exact Or.inr rfl | (simp [hc])
    · rename_i hn hr
      obtain rfl := run_full hr (by omega) hc i10
      repeat refine cr ?_
      refine ends_id ?_
      refine endK [] (h2 := ?_) (h3 := ?_) (nd := ?_)
      all_goals (repeat' first|exact ce0|refine ce ?_|refine ce2 ?_ ?_|(refine Or.inr (bx_eq rfl rfl ?_);(try dsimp only [C.ren,C.ren.all]);(try exact rfl))|exact SVLe.refl|refine ceb ?_)
      all_goals first | exact (show nodupB _ = true from rfl) | exact Or.inr rfl | (simp)
    · rename_i hn hr
      have hok := hok hr
      repeat' first|(apply p3;(first|exact pu1|exact a_add rfl rfl (by omega) (by omega));exact rfl)|refine cd ?_|fail
      refine q_again (n + 1,stepS (ruAt m c) c,hd + (ruAt m c).m,ccS m c hd (ruAt m c) (ccC m c hd x)) [0,1,2,3,7,8] (by exact stk) ?_ ?_
      · have hcs : ccS m c hd (ruAt m c) (ccC m c hd x) = cAdd m c x := by rw [hx3,if_neg hr]; unfold ccS; rfl
        exact ⟨by dsimp only; omega,by dsimp only; omega,stepS_ok hm i3 hr hc,by dsimp only; omega,by dsimp only; omega,by dsimp only; rw [hcs]; omega,by dsimp only; rw [hcs]; omega,run_next hr (by omega) hc i10⟩
      · dsimp only; omega
@[irreducible] def rcO (m : Mach) (c : Conf) (b : Int) : Out Cs := runG m (ccC m) (ccS m) b.toNat 0 c 0 ⟨0,false⟩
@[irreducible] def rcBad (m : Mach) (c : Conf) (b : Int) : Bool := (rcO m c b).full || (rcO m c b).x.f
@[irreducible] def rcV (m : Mach) (c : Conf) (b : Int) : Int := if askC m c b = 0 ∧ mtpC m = 0 ∧ rcBad m c b = false then (rcO m c b).x.s else 0
@[irreducible] def rcH (m : Mach) (c : Conf) (b : Int) : Bool := if askC m c b = 0 ∧ mtpC m = 0 ∧ rcBad m c b = false then (rcO m c b).halts else false
@[irreducible] def rcC (m : Mach) (c : Conf) (b : Int) : Int := if askC m c b = 0 then if mtpC m = 0 then if rcBad m c b then 5 else 0 else mtpC m else askC m c b
theorem followKA_ok (m : Mach) (c : Conf) (b : Int) (ha : askC m c b = 0) : Does Tryz.prog 43 [.agg (maC m),.agg (coC c),.one (int b),.one (.ifc 78 false [.gv 0])] [csBx ⟨0,false⟩] (.tup [(false,[int (if (rcO m c b).full then 0 else (rcO m c b).n)]),(false,[boo (rcO m c b).halts]),(false,[int (if (rcO m c b).full then 5 else 0)])]) [csBx (rcO m c b).x] := by
  obtain ⟨h3,h4,h5,h6⟩ := ask_ok ha
  exact followK_ok m c b h3 h4 h5 h6 _ (by unfold rcO; rfl)
theorem rc_bad {m : Mach} {c : Conf} {b : Int} (ha : askC m c b = 0) (hp : mtpC m = 0) (h : rcBad m c b = true) : rcV m c b = 0 ∧ rcH m c b = false ∧ rcC m c b = 5 := by
  have hn : ¬ (askC m c b = 0 ∧ mtpC m = 0 ∧ rcBad m c b = false) := fun q => by rw [h] at q; cases q.2.2
  unfold rcV rcH rcC
  rw [if_neg hn,if_neg hn,if_pos ha,if_pos hp,if_pos h]
  exact ⟨rfl,rfl,rfl⟩
theorem rc_good {m : Mach} {c : Conf} {b : Int} (ha : askC m c b = 0) (hp : mtpC m = 0) (h : rcBad m c b = false) : rcV m c b = (rcO m c b).x.s ∧ rcH m c b = (rcO m c b).halts ∧ rcC m c b = 0 := by
  have hn : askC m c b = 0 ∧ mtpC m = 0 ∧ rcBad m c b = false := ⟨ha,hp,h⟩
  unfold rcV rcH rcC
  rw [if_pos hn,if_pos hn,if_pos ha,if_pos hp,h]
  exact ⟨rfl,rfl,rfl⟩
theorem iRunCost_ok (m : Mach) (c : Conf) (b : Int) (hm : (m.ru.length : Int) ≤ 16777216) (hx : (c.le.length : Int) ≤ 16777216) (hy : (c.ri.length : Int) ≤ 16777216) : Does Tryz.prog 12 [.agg (maC m),.agg (coC c),.one (int b)] [] (.tup [(false,[int (rcV m c b)]),(false,[boo (rcH m c b)]),(false,[int (rcC m c b)])]) [] := by
  by_cases ha : askC m c b = 0
  · obtain ⟨h1,h2,h3,h4⟩ := ask_ok ha
    by_cases hp : mtpC m = 0
    · have hbad : rcBad m c b = ((rcO m c b).full || (rcO m c b).x.f) := by unfold rcBad; rfl
      refine does_of (k := 0) Tryz.func12 rfl Tryz.ntmps12 rfl rfl fun w F0 S0 ρ0 => ?_
      dsimp only [argT,argH]
      repeat' first|(apply n3;exact a_new (gb := .bx _) rfl;exact rfl;refine dA ?_)|(apply p3;(first|exact pu1|exact a_ne rfl rfl);exact rfl)|refine cd ?_|(apply c4 0;exact callK1 (θ := []) (hD := (runCode_ok _ _ _ preB272 preB272 preB272));exact rfl;exact rfl;exact rfl;refine dM ?_)|(apply c4 2;exact callK1 (θ := []) (hD := (machineToProgram_ok _ preB272));exact rfl;exact rfl;exact rfl;refine dM ?_)|(apply c4 0;exact callK1 (θ := [_]) (hD := (followKA_ok _ _ _ preB272));exact rfl;exact rfl;exact rfl;refine dM ?_)|refine o_no rfl rfl rfl rfl ?_|(apply py3;exact rfl;exact rfl;(exact pu1);exact rfl;exact rfl)|((first|refine o_gs rfl rfl (fun hc => ?_) (fun hc => ?_)|refine g_cond rfl (fun hc => ?_) (fun hc => ?_)) <;> (try simp only [dcB] at hc) <;> (try first|contradiction|(exfalso;omega)))|fail
      · have hf : (rcO m c b).full = true := by cases h : (rcO m c b).full with | true => rfl | false => (rw [h] at hc; exact absurd rfl hc)
        obtain ⟨e1,e2,e3⟩ := rc_bad ha hp (by rw [hbad,hf]; rfl)
        rw [e1,e2,e3]
        repeat refine cr ?_
        refine ends_id ?_
        refine endK [] (h2 := ?_) (h3 := ?_) (nd := ?_)
        all_goals (repeat' first|exact ce0|refine ce ?_|refine ce2 ?_ ?_|exact SVLe.refl|refine ceb ?_)
        all_goals first | exact (show nodupB _ = true from rfl) | exact Or.inr rfl | (rfl)
      · rename_i hf
        obtain ⟨e1,e2,e3⟩ := rc_bad ha hp (by rw [hbad,hc,Bool.or_true])
        rw [e1,e2,e3]
        repeat refine cr ?_
        refine ends_id ?_
        refine endK [] (h2 := ?_) (h3 := ?_) (nd := ?_)
        all_goals (repeat' first|exact ce0|refine ce ?_|refine ce2 ?_ ?_|exact SVLe.refl|refine ceb ?_)
        all_goals first | exact (show nodupB _ = true from rfl) | exact Or.inr rfl | (rfl)
      · rename_i hf
        have hf' : (rcO m c b).full = false := by cases h : (rcO m c b).full with | false => rfl | true => (rw [h] at hf; exact absurd hf (by decide))
        obtain ⟨e1,e2,e3⟩ := rc_good ha hp (by rw [hbad,hc,hf']; rfl)
        rw [e1,e2,e3]
        repeat refine cr ?_
        refine ends_id ?_
        refine endK [] (h2 := ?_) (h3 := ?_) (nd := ?_)
        all_goals (repeat' first|exact ce0|refine ce ?_|refine ce2 ?_ ?_|exact SVLe.refl|refine ceb ?_)
        all_goals first | exact (show nodupB _ = true from rfl) | exact Or.inr rfl | (rfl)
    · have e1 : rcV m c b = 0 := by unfold rcV; rw [if_neg (fun h => hp h.2.1)]
      have e2 : rcH m c b = false := by unfold rcH; rw [if_neg (fun h => hp h.2.1)]
      have e3 : rcC m c b = mtpC m := by unfold rcC; rw [if_pos ha,if_neg hp]
      rw [e1,e2,e3]
      refine does_of (k := 0) Tryz.func12 rfl Tryz.ntmps12 rfl rfl fun w F0 S0 ρ0 => ?_
      dsimp only [argT,argH]
      repeat' first|(apply n3;exact a_new (gb := .bx _) rfl;exact rfl;refine dA ?_)|(apply p3;(first|exact pu1|exact a_ne rfl rfl);exact rfl)|refine cd ?_|(apply c4 0;exact callK1 (θ := []) (hD := (runCode_ok _ _ _ preB272 preB272 preB272));exact rfl;exact rfl;exact rfl;refine dM ?_)|(apply c4 2;exact callK1 (θ := []) (hD := (machineToProgram_ok _ preB272));exact rfl;exact rfl;exact rfl;refine dM ?_)|((refine g_cond rfl (fun hc => ?_) (fun hc => ?_)) <;> (try simp only [dcB] at hc) <;> (try first|contradiction|(exfalso;omega)))|fail
      repeat refine cr ?_
      refine ends_id ?_
      refine endK [] (h2 := ?_) (h3 := ?_) (nd := ?_)
      all_goals (repeat' first|exact ce0|refine ce ?_|refine ce2 ?_ ?_|exact SVLe.refl|refine ceb ?_)
      all_goals first | exact (show nodupB _ = true from rfl) | exact Or.inr rfl | (rfl)
  · have e1 : rcV m c b = 0 := by unfold rcV; rw [if_neg (fun h => ha h.1)]
    have e2 : rcH m c b = false := by unfold rcH; rw [if_neg (fun h => ha h.1)]
    have e3 : rcC m c b = askC m c b := by unfold rcC; rw [if_neg ha]
    rw [e1,e2,e3]
    refine does_of (k := 0) Tryz.func12 rfl Tryz.ntmps12 rfl rfl fun w F0 S0 ρ0 => ?_
    dsimp only [argT,argH]
    repeat' first|(apply n3;exact a_new (gb := .bx _) rfl;exact rfl;refine dA ?_)|(apply p3;(first|exact pu1|exact a_ne rfl rfl);exact rfl)|refine cd ?_|(apply c4 0;exact callK1 (θ := []) (hD := (runCode_ok _ _ _ preB272 preB272 preB272));exact rfl;exact rfl;exact rfl;refine dM ?_)|((refine g_cond rfl (fun hc => ?_) (fun hc => ?_)) <;> (try simp only [dcB] at hc) <;> (try first|contradiction|(exfalso;omega)))|fail
    repeat refine cr ?_
    refine ends_id ?_
    refine endK [] (h2 := ?_) (h3 := ?_) (nd := ?_)
    all_goals (repeat' first|exact ce0|refine ce ?_|refine ce2 ?_ ?_|exact SVLe.refl|refine ceb ?_)
    all_goals first | exact (show nodupB _ = true from rfl) | exact Or.inr rfl | (rfl)
structure RcI (m : Mach) (b n : Int) (c : Conf) (u : Int) (O : Out Cs) : Prop where
  n0 : 0 ≤ n
  nb : n ≤ b
  vc : vConf m c = true
  u0 : 0 ≤ u
  u1 : u ≤ 1000000000000
  run : ∃ hd,runG m (ccC m) (ccS m) (b - n).toNat n c hd ⟨u,false⟩ = O
theorem rc_sticky {m : Mach} : ∀ (k : Nat) (n : Int) (c : Conf) (hd : Int) (x : Cs),x.f = true → (runG m (ccC m) (ccS m) k n c hd x).x.f = true := by
  have hA : ∀ c (x : Cs),x.f = true → (cAdd m c x).f = true := fun c x h => by unfold cAdd; split <;> simp [h]
  have hC : ∀ c hd (x : Cs),x.f = true → (ccC m c hd x).f = true := fun c hd x h => by unfold ccC; split; exact hA c x h; exact h
  have hS : ∀ c hd u (x : Cs),x.f = true → (ccS m c hd u x).f = true := fun c hd u x h => by unfold ccS; exact hA c x h
  intro k
  induction k with
  | zero =>
    intro n c hd x h
    unfold runG
    split <;> exact hC _ _ _ h
  | succ k ih =>
    intro n c hd x h
    unfold runG
    split
    · exact hC _ _ _ h
    · dsimp only
      split
      · exact ih _ _ _ _ (hS _ _ _ _ (hC _ _ _ h))
      · exact hS _ _ _ _ (hC _ _ _ h)
section
variable {m : Mach} {b n u : Int} {c : Conf} {O : Out Cs}
theorem cAdd_no (h : numOk m c = false) : (cAdd m c ⟨u,false⟩).f = true := by unfold cAdd; rw [h]; rfl
theorem cAdd_big (h : numOk m c = true) (hb : u + costC m c > 1000000000000) : (cAdd m c ⟨u,false⟩).f = true := by unfold cAdd; rw [h]; simp [hb]
theorem cAdd_fit (h : numOk m c = true) (hb : ¬ u + costC m c > 1000000000000) : cAdd m c ⟨u,false⟩ = ⟨u + costC m c,false⟩ := by unfold cAdd; rw [h]; simp [hb]
theorem rc_halt (h : RcI m b n c u O) (hr : ruAt m c = noR) : O.full = false ∧ O.halts = true ∧ O.x = cAdd m c ⟨u,false⟩ := by
  obtain ⟨hd,hO⟩ := h.run
  obtain rfl := run_halt hr hO
  exact ⟨rfl,rfl,by rw [ccC_eq,if_pos hr]⟩
theorem rc_end (h : RcI m b n c u O) (hr : ¬ ruAt m c = noR) (hn : n = b) : O.full = false ∧ O.halts = false ∧ O.x = ⟨u,false⟩ := by
  obtain ⟨hd,hO⟩ := h.run
  obtain rfl := run_end hr hn hO
  exact ⟨rfl,rfl,by rw [ccC_eq,if_neg hr]⟩
theorem rc_full (h : RcI m b n c u O) (hr : ¬ ruAt m c = noR) (hn : n < b) (hs : roomS (stepS (ruAt m c) c) = false) : O.full = true := by
  obtain ⟨hd,hO⟩ := h.run
  obtain rfl := run_full hr hn hs hO
  rfl
theorem rc_next (h : RcI m b n c u O) (hr : ¬ ruAt m c = noR) (hn : n < b) (hs : roomS (stepS (ruAt m c) c) = true) : ∃ hd,runG m (ccC m) (ccS m) (b - (n + 1)).toNat (n + 1) (stepS (ruAt m c) c) hd (cAdd m c ⟨u,false⟩) = O := by
  obtain ⟨hd,hO⟩ := h.run
  have := run_next hr hn hs hO
  rw [ccC_eq,if_neg hr,show ccS m c hd (ruAt m c) ⟨u,false⟩ = cAdd m c ⟨u,false⟩ by unfold ccS; rfl] at this
  exact ⟨_,this⟩
theorem rc_over (h : RcI m b n c u O) (hf : (cAdd m c ⟨u,false⟩).f = true) (hn : ruAt m c = noR ∨ n < b) : (O.full || O.x.f) = true := by
  by_cases hr : ruAt m c = noR
  · obtain ⟨_,_,e⟩ := rc_halt h hr
    rw [e,hf,Bool.or_true]
  · have hn' := hn.resolve_left hr
    cases hs : roomS (stepS (ruAt m c) c) with
    | false => rw [rc_full h hr hn' hs]; rfl
    | true =>
      obtain ⟨hd,e⟩ := rc_next h hr hn' hs
      rw [← e,rc_sticky _ _ _ _ _ hf,Bool.or_true]
theorem rcI_next (h : RcI m b n c u O) (hm : vMach m = true) (hr : ¬ ruAt m c = noR) (hn : n < b) (hs : roomS (stepS (ruAt m c) c) = true) (hk : numOk m c = true) (hb : ¬ u + costC m c > 1000000000000) : RcI m b (n + 1) (stepS (ruAt m c) c) (u + costC m c) O := by
  have hcb := costC_bd hm h.vc
  have := rc_next h hr hn hs
  rw [cAdd_fit hk hb] at this
  have h0 := h.n0
  have h1 := h.u0
  exact ⟨by omega,by omega,stepS_ok hm h.vc hr hs,by omega,by omega,this⟩
end
theorem sRunCost_ok (m : Mach) (c : Conf) (b : Int) (hm : (m.ru.length : Int) ≤ 16777216) (hx : (c.le.length : Int) ≤ 16777216) (hy : (c.ri.length : Int) ≤ 16777216) : Does Tryz.prog 9 [.agg (maC m),.agg (coC c),.one (int b)] [] (.tup [(false,[int (rcV m c b)]),(false,[boo (rcH m c b)]),(false,[int (rcC m c b)])]) [] := by
  by_cases ha : askC m c b = 0
  · obtain ⟨h1,h2,h3,h4⟩ := ask_ok ha
    have hat := mtpC_at h1
    by_cases hp : mtpC m = 0
    · have hat2 : atZ m m.st.toNat ≤ 400 := by rw [hat] at hp; split at hp <;> first | assumption | omega
      have hbad : rcBad m c b = ((rcO m c b).full || (rcO m c b).x.f) := by unfold rcBad; rfl
      have hstart : RcI m b 0 c 0 (rcO m c b) := ⟨by omega,by omega,h2,by omega,by omega,0,by unfold rcO; rw [show b - 0 = b by omega]⟩
      generalize hO : rcO m c b = O at hstart hbad
      have hlo : ∀ {y : Conf},vConf m y = true → (y.le.length : Int) ≤ 200 ∧ (y.ri.length : Int) ≤ 200 := fun hv => by have := at_bd h1 hv; omega
      refine does_of (k := 0) Tryz.func9 rfl Tryz.ntmps9 rfl rfl fun w F0 S0 ρ0 => ?_
      dsimp only [argT,argH]
      repeat' first|(apply n3;exact a_new (gb := .bx _) rfl;exact rfl;refine dA ?_)|(apply p3;(first|exact pu1|exact a_ne rfl rfl);exact rfl)|refine cd ?_|(apply w3;(exact a_st_bx rfl rfl rfl rfl (fN rfl rfl) (Nat.le_of_ble_eq_true rfl) rfl);exact rfl;refine dS ?_)|(apply c4 0;exact callK1 (θ := []) (hD := (l20Ask_ok _ _ _ preB272 preB272 preB272));exact rfl;exact rfl;exact rfl;refine dM ?_)|(apply c4 0;exact callK1 (θ := []) (hD := (l20Fits_ok _ preB272));exact rfl;exact rfl;exact rfl;refine dM ?_)|(apply c4 2;exact callK1 (θ := []) (hD := (l05OwnConfig_ok _ preB272 preB272));exact rfl;exact rfl;exact rfl;refine dM ?_)|((refine g_cond rfl (fun hc => ?_) (fun hc => ?_)) <;> (try simp only [dcB] at hc) <;> (try first|contradiction|(exfalso;omega)))|fail
      refine g_loop_id ?_
      refine loopK [2,3,6,7,8,11] [2,3,4] (fun y : Int × Conf × Int => RcI m b y.1 y.2.1 y.2.2 O) (fun y => [(12,.one (int y.1)),(10,.one (int y.2.2))]) (fun y => [(2,roI y.2.1.le),(3,roI y.2.1.ri),(4,.bx [int y.2.1.st,.gv 2,.gv 3])]) (fun y => (b - y.1).toNat) ((0 : Int),c,(0 : Int)) [0,1,2,3,4] (hI := ?_) (hr := ?_)
      · exact hstart
      · rintro ⟨n,d,u⟩ h5
        dsimp only [List.cons_append,List.nil_append] at *
        skip
        repeat' first|refine cdn ?_|fail
        have hvd := h5.vc
        have hld := hlo hvd
        have hn0 := h5.n0
        have hnb := h5.nb
        have hu0 := h5.u0
        have hu1 := h5.u1
        have hcb := costC_bd h1 hvd
        have hvv := fun (q : rcBad m c b = false) => rc_good ha hp q
        rw [hO] at hvv
        by_cases hr : ruAt m d = noR
        · cases hk : numOk m d
          · obtain ⟨e1,e2,e3⟩ := rc_bad (b := b) ha hp (by rw [hbad]; exact rc_over h5 (cAdd_no hk) (.inl hr))
            rw [e1,e2,e3]
            repeat' first|(apply p3;(first|exact pu1|exact puC|exact a_add rfl rfl (by omega) (by omega));exact rfl)|refine cd ?_|(apply c4 0;exact callK1 (θ := []) (hD := (l05HaltsC_ok _ _ preB272 preB272));exact rfl;exact rfl;exact rfl;refine dM ?_)|(apply c4 0;exact callK1 (θ := []) (hD := (l20Numbers_ok _ _ preB272 preB272));exact rfl;exact rfl;exact rfl;refine dM ?_)|(apply c4 0;exact callK1 (θ := []) (hD := (l20Cost_ok _ _ preB272 preB272 preB272));exact rfl;exact rfl;exact rfl;refine dM ?_)|refine o_no rfl rfl rfl rfl ?_|(apply py3;exact rfl;exact rfl;(exact pu1);exact rfl;exact rfl)|((first|refine o_gs rfl rfl (fun hc => ?_) (fun hc => ?_)|refine g_cond rfl (fun hc => ?_) (fun hc => ?_)) <;> (try simp only [dcB] at hc) <;> (try first|contradiction|(exfalso;omega)))|fail
            all_goals first | (exfalso; exact Bool.noConfusion (hk.symm.trans (by assumption : numOk m d = true))) | (exfalso; exact Bool.noConfusion ((by assumption : numOk m d = false).symm.trans hk)) | (exfalso; exact Bool.noConfusion (hro.symm.trans (by assumption : roomS (stepS (ruAt m d) d) = true))) | skip
            all_goals
              repeat refine cr ?_
              refine ends_id ?_
              refine endK [] (h2 := ?_) (h3 := ?_) (nd := ?_)
              all_goals (repeat' first|exact ce0|refine ce ?_|refine ce2 ?_ ?_|exact SVLe.refl|refine ceb ?_)
              all_goals first | exact (show nodupB _ = true from rfl) | exact Or.inr rfl | (rfl)
          · by_cases hbg : u + costC m d > 1000000000000
            · obtain ⟨e1,e2,e3⟩ := rc_bad (b := b) ha hp (by rw [hbad]; exact rc_over h5 (cAdd_big hk hbg) (.inl hr))
              rw [e1,e2,e3]
              repeat' first|(apply p3;(first|exact pu1|exact puC|exact a_add rfl rfl (by omega) (by omega));exact rfl)|refine cd ?_|(apply c4 0;exact callK1 (θ := []) (hD := (l05HaltsC_ok _ _ preB272 preB272));exact rfl;exact rfl;exact rfl;refine dM ?_)|(apply c4 0;exact callK1 (θ := []) (hD := (l20Numbers_ok _ _ preB272 preB272));exact rfl;exact rfl;exact rfl;refine dM ?_)|(apply c4 0;exact callK1 (θ := []) (hD := (l20Cost_ok _ _ preB272 preB272 preB272));exact rfl;exact rfl;exact rfl;refine dM ?_)|refine o_no rfl rfl rfl rfl ?_|(apply py3;exact rfl;exact rfl;(exact pu1);exact rfl;exact rfl)|((first|refine o_gs rfl rfl (fun hc => ?_) (fun hc => ?_)|refine g_cond rfl (fun hc => ?_) (fun hc => ?_)) <;> (try simp only [dcB] at hc) <;> (try first|contradiction|(exfalso;omega)))|fail
              all_goals first | (exfalso; exact Bool.noConfusion (hk.symm.trans (by assumption : numOk m d = true))) | (exfalso; exact Bool.noConfusion ((by assumption : numOk m d = false).symm.trans hk)) | (exfalso; exact Bool.noConfusion (hro.symm.trans (by assumption : roomS (stepS (ruAt m d) d) = true))) | skip
              all_goals
                repeat refine cr ?_
                refine ends_id ?_
                refine endK [] (h2 := ?_) (h3 := ?_) (nd := ?_)
                all_goals (repeat' first|exact ce0|refine ce ?_|refine ce2 ?_ ?_|exact SVLe.refl|refine ceb ?_)
                all_goals first | exact (show nodupB _ = true from rfl) | exact Or.inr rfl | (rfl)
            · obtain ⟨q1,q2,q3⟩ := rc_halt h5 hr
              rw [cAdd_fit hk hbg] at q3
              obtain ⟨e1,e2,e3⟩ := hvv (by rw [hbad,q1,q3]; rfl)
              rw [q3] at e1
              rw [q2] at e2
              rw [e1,e2,e3]
              repeat' first|(apply p3;(first|exact pu1|exact puC|exact a_add rfl rfl (by omega) (by omega));exact rfl)|refine cd ?_|(apply c4 0;exact callK1 (θ := []) (hD := (l05HaltsC_ok _ _ preB272 preB272));exact rfl;exact rfl;exact rfl;refine dM ?_)|(apply c4 0;exact callK1 (θ := []) (hD := (l20Numbers_ok _ _ preB272 preB272));exact rfl;exact rfl;exact rfl;refine dM ?_)|(apply c4 0;exact callK1 (θ := []) (hD := (l20Cost_ok _ _ preB272 preB272 preB272));exact rfl;exact rfl;exact rfl;refine dM ?_)|refine o_no rfl rfl rfl rfl ?_|(apply py3;exact rfl;exact rfl;(exact pu1);exact rfl;exact rfl)|((first|refine o_gs rfl rfl (fun hc => ?_) (fun hc => ?_)|refine g_cond rfl (fun hc => ?_) (fun hc => ?_)) <;> (try simp only [dcB] at hc) <;> (try first|contradiction|(exfalso;omega)))|fail
              all_goals first | (exfalso; exact Bool.noConfusion (hk.symm.trans (by assumption : numOk m d = true))) | (exfalso; exact Bool.noConfusion ((by assumption : numOk m d = false).symm.trans hk)) | (exfalso; exact Bool.noConfusion (hro.symm.trans (by assumption : roomS (stepS (ruAt m d) d) = true))) | skip
              all_goals
                repeat refine cr ?_
                refine ends_id ?_
                refine endK [] (h2 := ?_) (h3 := ?_) (nd := ?_)
                all_goals (repeat' first|exact ce0|refine ce ?_|refine ce2 ?_ ?_|exact SVLe.refl|refine ceb ?_)
                all_goals first | exact (show nodupB _ = true from rfl) | exact Or.inr rfl | (rfl)
        · by_cases hnn : n = b
          · obtain ⟨q1,q2,q3⟩ := rc_end h5 hr hnn
            obtain ⟨e1,e2,e3⟩ := hvv (by rw [hbad,q1,q3]; rfl)
            rw [q3] at e1
            rw [q2] at e2
            rw [e1,e2,e3]
            repeat' first|(apply p3;(first|exact pu1|exact puC);exact rfl)|refine cd ?_|(apply c4 0;exact callK1 (θ := []) (hD := (l05HaltsC_ok _ _ preB272 preB272));exact rfl;exact rfl;exact rfl;refine dM ?_)|(apply py3;exact rfl;exact rfl;(exact pu1);exact rfl;exact rfl)|((first|refine o_gs rfl rfl (fun hc => ?_) (fun hc => ?_)|refine g_cond rfl (fun hc => ?_) (fun hc => ?_)) <;> (try simp only [dcB] at hc) <;> (try first|contradiction|(exfalso;omega)))|fail
            all_goals first | (exfalso; exact Bool.noConfusion (hk.symm.trans (by assumption : numOk m d = true))) | (exfalso; exact Bool.noConfusion ((by assumption : numOk m d = false).symm.trans hk)) | (exfalso; exact Bool.noConfusion (hro.symm.trans (by assumption : roomS (stepS (ruAt m d) d) = true))) | skip
            all_goals
              repeat refine cr ?_
              refine ends_id ?_
              refine endK [] (h2 := ?_) (h3 := ?_) (nd := ?_)
              all_goals (repeat' first|exact ce0|refine ce ?_|refine ce2 ?_ ?_|exact SVLe.refl|refine ceb ?_)
              all_goals first | exact (show nodupB _ = true from rfl) | exact Or.inr rfl | (rfl)
          · have hnb2 : n < b := by omega
            cases hk : numOk m d
            · obtain ⟨e1,e2,e3⟩ := rc_bad (b := b) ha hp (by rw [hbad]; exact rc_over h5 (cAdd_no hk) (.inr hnb2))
              rw [e1,e2,e3]
              repeat' first|(apply n3;exact a_new (gb := .bx _) rfl;exact rfl;refine dA ?_)|(apply p3;(first|exact pu1|exact puC|exact a_add rfl rfl (by omega) (by omega));exact rfl)|refine cd ?_|(apply w3;(exact a_st_bx rfl rfl rfl rfl (fN rfl rfl) (Nat.le_of_ble_eq_true rfl) rfl);exact rfl;refine dS ?_)|(apply c4 0;exact callK1 (θ := []) (hD := (l05HaltsC_ok _ _ preB272 preB272));exact rfl;exact rfl;exact rfl;refine dM ?_)|(apply c4 0;exact callK1 (θ := []) (hD := (l20Numbers_ok _ _ preB272 preB272));exact rfl;exact rfl;exact rfl;refine dM ?_)|(apply c4 0;exact callK1 (θ := []) (hD := (l20Cost_ok _ _ preB272 preB272 preB272));exact rfl;exact rfl;exact rfl;refine dM ?_)|(apply c4 2;exact callK1 (θ := []) (hD := (l05StepC_ok _ _ preB272 preB272));exact rfl;exact rfl;exact rfl;refine dM ?_)|refine o_no rfl rfl rfl rfl ?_|((first|refine o_gs rfl rfl (fun hc => ?_) (fun hc => ?_)|refine g_cond rfl (fun hc => ?_) (fun hc => ?_)) <;> (try simp only [dcB] at hc) <;> (try first|contradiction|(exfalso;omega)))|fail
              all_goals first | (exfalso; exact Bool.noConfusion (hk.symm.trans (by assumption : numOk m d = true))) | (exfalso; exact Bool.noConfusion ((by assumption : numOk m d = false).symm.trans hk)) | (exfalso; exact Bool.noConfusion (hro.symm.trans (by assumption : roomS (stepS (ruAt m d) d) = true))) | skip
              all_goals
                repeat refine cr ?_
                refine ends_id ?_
                refine endK [] (h2 := ?_) (h3 := ?_) (nd := ?_)
                all_goals (repeat' first|exact ce0|refine ce ?_|refine ce2 ?_ ?_|exact SVLe.refl|refine ceb ?_)
                all_goals first | exact (show nodupB _ = true from rfl) | exact Or.inr rfl | (rfl)
            · by_cases hbg : u + costC m d > 1000000000000
              · obtain ⟨e1,e2,e3⟩ := rc_bad (b := b) ha hp (by rw [hbad]; exact rc_over h5 (cAdd_big hk hbg) (.inr hnb2))
                rw [e1,e2,e3]
                repeat' first|(apply p3;(first|exact pu1|exact puC|exact a_add rfl rfl (by omega) (by omega));exact rfl)|refine cd ?_|(apply c4 0;exact callK1 (θ := []) (hD := (l05HaltsC_ok _ _ preB272 preB272));exact rfl;exact rfl;exact rfl;refine dM ?_)|(apply c4 0;exact callK1 (θ := []) (hD := (l20Numbers_ok _ _ preB272 preB272));exact rfl;exact rfl;exact rfl;refine dM ?_)|(apply c4 0;exact callK1 (θ := []) (hD := (l20Cost_ok _ _ preB272 preB272 preB272));exact rfl;exact rfl;exact rfl;refine dM ?_)|refine o_no rfl rfl rfl rfl ?_|((first|refine o_gs rfl rfl (fun hc => ?_) (fun hc => ?_)|refine g_cond rfl (fun hc => ?_) (fun hc => ?_)) <;> (try simp only [dcB] at hc) <;> (try first|contradiction|(exfalso;omega)))|fail
                all_goals first | (exfalso; exact Bool.noConfusion (hk.symm.trans (by assumption : numOk m d = true))) | (exfalso; exact Bool.noConfusion ((by assumption : numOk m d = false).symm.trans hk)) | (exfalso; exact Bool.noConfusion (hro.symm.trans (by assumption : roomS (stepS (ruAt m d) d) = true))) | skip
                all_goals
                  repeat refine cr ?_
                  refine ends_id ?_
                  refine endK [] (h2 := ?_) (h3 := ?_) (nd := ?_)
                  all_goals (repeat' first|exact ce0|refine ce ?_|refine ce2 ?_ ?_|exact SVLe.refl|refine ceb ?_)
                  all_goals first | exact (show nodupB _ = true from rfl) | exact Or.inr rfl | (rfl)
              · cases hro : roomS (stepS (ruAt m d) d)
                · obtain ⟨e1,e2,e3⟩ := rc_bad (b := b) ha hp (by rw [hbad,rc_full h5 hr hnb2 hro]; rfl)
                  rw [e1,e2,e3]
                  repeat' first|(apply n3;exact a_new (gb := .bx _) rfl;exact rfl;refine dA ?_)|(apply p3;(first|exact pu1|exact puC|exact a_add rfl rfl (by omega) (by omega));exact rfl)|refine cd ?_|(apply w3;(exact a_st_bx rfl rfl rfl rfl (fN rfl rfl) (Nat.le_of_ble_eq_true rfl) rfl);exact rfl;refine dS ?_)|(apply c4 0;exact callK1 (θ := []) (hD := (l05HaltsC_ok _ _ preB272 preB272));exact rfl;exact rfl;exact rfl;refine dM ?_)|(apply c4 0;exact callK1 (θ := []) (hD := (l20Numbers_ok _ _ preB272 preB272));exact rfl;exact rfl;exact rfl;refine dM ?_)|(apply c4 0;exact callK1 (θ := []) (hD := (l20Cost_ok _ _ preB272 preB272 preB272));exact rfl;exact rfl;exact rfl;refine dM ?_)|(apply c4 2;exact callK1 (θ := []) (hD := (l05StepC_ok _ _ preB272 preB272));exact rfl;exact rfl;exact rfl;refine dM ?_)|refine o_no rfl rfl rfl rfl ?_|((first|refine o_gs rfl rfl (fun hc => ?_) (fun hc => ?_)|refine g_cond rfl (fun hc => ?_) (fun hc => ?_)) <;> (try simp only [dcB] at hc) <;> (try first|contradiction|(exfalso;omega)))|fail
                  all_goals first | (exfalso; exact Bool.noConfusion (hk.symm.trans (by assumption : numOk m d = true))) | (exfalso; exact Bool.noConfusion ((by assumption : numOk m d = false).symm.trans hk)) | (exfalso; exact Bool.noConfusion (hro.symm.trans (by assumption : roomS (stepS (ruAt m d) d) = true))) | skip
                  all_goals
                    repeat refine cr ?_
                    refine ends_id ?_
                    refine endK [] (h2 := ?_) (h3 := ?_) (nd := ?_)
                    all_goals (repeat' first|exact ce0|refine ce ?_|refine ce2 ?_ ?_|exact SVLe.refl|refine ceb ?_)
                    all_goals first | exact (show nodupB _ = true from rfl) | exact Or.inr rfl | (rfl)
                · have hnx := rcI_next h5 h1 hr hnb2 hro hk hbg
                  repeat' first|(apply n3;exact a_new (gb := .bx _) rfl;exact rfl;refine dA ?_)|(apply p3;(first|exact pu1|exact puC|exact a_add rfl rfl (by omega) (by omega));exact rfl)|refine cd ?_|(apply w3;(exact a_st_bx rfl rfl rfl rfl (fN rfl rfl) (Nat.le_of_ble_eq_true rfl) rfl);exact rfl;refine dS ?_)|(apply c4 0;exact callK1 (θ := []) (hD := (l05HaltsC_ok _ _ preB272 preB272));exact rfl;exact rfl;exact rfl;refine dM ?_)|(apply c4 0;exact callK1 (θ := []) (hD := (l20Numbers_ok _ _ preB272 preB272));exact rfl;exact rfl;exact rfl;refine dM ?_)|(apply c4 0;exact callK1 (θ := []) (hD := (l20Cost_ok _ _ preB272 preB272 preB272));exact rfl;exact rfl;exact rfl;refine dM ?_)|(apply c4 2;exact callK1 (θ := []) (hD := (l05StepC_ok _ _ preB272 preB272));exact rfl;exact rfl;exact rfl;refine dM ?_)|refine o_no rfl rfl rfl rfl ?_|((first|refine o_gs rfl rfl (fun hc => ?_) (fun hc => ?_)|refine g_cond rfl (fun hc => ?_) (fun hc => ?_)) <;> (try simp only [dcB] at hc) <;> (try first|contradiction|(exfalso;omega)))|fail
                  all_goals first | (exfalso; exact Bool.noConfusion ((by assumption : roomS (stepS (ruAt m d) d) = false).symm.trans hro)) | (exfalso; exact Bool.noConfusion ((by assumption : numOk m d = false).symm.trans hk)) | skip
                  refine q_again (n + 1,stepS (ruAt m d) d,u + costC m d) [0,1,5,6,4] (by exact stk) ?_ ?_
                  · exact hnx
                  · dsimp only; omega
    · have e1 : rcV m c b = 0 := by unfold rcV; rw [if_neg (fun h => hp h.2.1)]
      have e2 : rcH m c b = false := by unfold rcH; rw [if_neg (fun h => hp h.2.1)]
      have e4 : mtpC m = 5 := by rw [hat] at hp ⊢; split at hp <;> first | exact absurd rfl hp | skip; rw [if_neg (by assumption)]
      have e3 : rcC m c b = 5 := by unfold rcC; rw [if_pos ha,if_neg hp,e4]
      have hat2 : ¬ atZ m m.st.toNat ≤ 400 := by rw [hat] at hp; split at hp <;> first | exact absurd rfl hp | assumption
      rw [e1,e2,e3]
      refine does_of (k := 0) Tryz.func9 rfl Tryz.ntmps9 rfl rfl fun w F0 S0 ρ0 => ?_
      dsimp only [argT,argH]
      repeat' first|(apply n3;exact a_new (gb := .bx _) rfl;exact rfl;refine dA ?_)|(apply p3;(first|exact pu1|exact a_ne rfl rfl);exact rfl)|refine cd ?_|(apply c4 0;exact callK1 (θ := []) (hD := (l20Ask_ok _ _ _ preB272 preB272 preB272));exact rfl;exact rfl;exact rfl;refine dM ?_)|(apply c4 0;exact callK1 (θ := []) (hD := (l20Fits_ok _ preB272));exact rfl;exact rfl;exact rfl;refine dM ?_)|((refine g_cond rfl (fun hc => ?_) (fun hc => ?_)) <;> (try simp only [dcB] at hc) <;> (try first|contradiction|(exfalso;omega)))|fail
      repeat refine cr ?_
      refine ends_id ?_
      refine endK [] (h2 := ?_) (h3 := ?_) (nd := ?_)
      all_goals (repeat' first|exact ce0|refine ce ?_|refine ce2 ?_ ?_|exact SVLe.refl|refine ceb ?_)
      all_goals first | exact (show nodupB _ = true from rfl) | exact Or.inr rfl | (rfl)
  · have e1 : rcV m c b = 0 := by unfold rcV; rw [if_neg (fun h => ha h.1)]
    have e2 : rcH m c b = false := by unfold rcH; rw [if_neg (fun h => ha h.1)]
    have e3 : rcC m c b = askC m c b := by unfold rcC; rw [if_neg ha]
    rw [e1,e2,e3]
    refine does_of (k := 0) Tryz.func9 rfl Tryz.ntmps9 rfl rfl fun w F0 S0 ρ0 => ?_
    dsimp only [argT,argH]
    repeat' first|(apply n3;exact a_new (gb := .bx _) rfl;exact rfl;refine dA ?_)|(apply p3;(first|exact pu1|exact a_ne rfl rfl);exact rfl)|refine cd ?_|(apply c4 0;exact callK1 (θ := []) (hD := (l20Ask_ok _ _ _ preB272 preB272 preB272));exact rfl;exact rfl;exact rfl;refine dM ?_)|((refine g_cond rfl (fun hc => ?_) (fun hc => ?_)) <;> (try simp only [dcB] at hc) <;> (try first|contradiction|(exfalso;omega)))|fail
    repeat refine cr ?_
    refine ends_id ?_
    refine endK [] (h2 := ?_) (h3 := ?_) (nd := ?_)
    all_goals (repeat' first|exact ce0|refine ce ?_|refine ce2 ?_ ?_|exact SVLe.refl|refine ceb ?_)
    all_goals first | exact (show nodupB _ = true from rfl) | exact Or.inr rfl | (rfl)
end Go.Proofs.YtegpggobfdcafaaGreat
end
