/- Parts of the proof (17 of 22). -/
import Derived.Test.YtcmdfohamphndaaGreatDoorQ16
section
set_option linter.unusedVariables false
set_option linter.unusedSimpArgs false
set_option maxRecDepth 100000
set_option maxHeartbeats 4000000
namespace Go.Proofs.YtcmdfohamphndaaGreatDoor
open Go Foot
@[irreducible] def suc (B : Int) (rt : Mach) (least depth : Nat) (q : List Int) : Option (List Int) := if q.length < depth then (pth B rt q).bind fun x => nxt B rt x q least else asd B rt q least q.length
def Chn (s : List Int → Option (List Int)) : List (List Int) → Option (List Int) → Prop
  | [],_ => False
  | [a],e => s a = e
  | a :: b :: l,e => s a = some b ∧ Chn s (b :: l) e
theorem chn_app {s : List Int → Option (List Int)} {b : List Int} {l2 : List (List Int)} {e : Option (List Int)} (h2 : Chn s (b :: l2) e) : ∀ {l1 : List (List Int)},Chn s l1 (some b) → Chn s (l1 ++ b :: l2) e
  | [],h => h.elim
  | [a],h => ⟨h,h2⟩
  | a :: c :: l,h => ⟨h.1,chn_app h2 (l1 := c :: l) h.2⟩
theorem chn_get {s : List Int → Option (List Int)} {e : Option (List Int)} : ∀ {l : List (List Int)} {i : Nat} (h : Chn s l e) (hi : i < l.length),s l[i] = if h : i + 1 < l.length then some l[i + 1] else e
  | [],_,h,_ => h.elim
  | [a],0,h,_ => by simp; exact h
  | [a],i + 1,h,hi => by simp at hi
  | a :: b :: l,0,h,_ => by simp; exact h.1
  | a :: b :: l,i + 1,h,hi => by
    have := chn_get (l := b :: l) (i := i) h.2 (by simpa using hi)
    simp only [List.getElem_cons_succ,List.length_cons] at this ⊢
    rw [this]
    simp
def tre (B : Int) : Nat → List Int → Mach → List (List Int)
  | 0,q,_ => [q]
  | f + 1,q,x => q :: (if ndS x B = 0 then (List.range (chR x).length).flatMap fun (k : Nat) => tre B f (q ++ [((k : Nat) : Int)]) (chM x (ndA x B) ((chR x).getD k noR)) else [])
def trs (B : Int) (f : Nat) (q : List Int) (x : Mach) (n : Nat) : List (List Int) := (List.range n).flatMap fun (k : Nat) => tre B f (q ++ [((k : Nat) : Int)]) (chM x (ndA x B) ((chR x).getD k noR))
theorem trs_0 (B : Int) (f : Nat) (q : List Int) (x : Mach) : trs B f q x 0 = [] := rfl
theorem trs_next (B : Int) (f : Nat) (q : List Int) (x : Mach) (n : Nat) : trs B f q x (n + 1) = trs B f q x n ++ tre B f (q ++ [((n : Nat) : Int)]) (chM x (ndA x B) ((chR x).getD n noR)) := by
  unfold trs; rw [List.range_succ,List.flatMap_append]; simp
theorem tre_head (B : Int) : ∀ (f : Nat) (q : List Int) (x : Mach),∃ l,tre B f q x = q :: l
  | 0,q,x => ⟨[],rfl⟩
  | f + 1,q,x => ⟨_,rfl⟩
theorem tre_succ (B : Int) (f : Nat) (q : List Int) (x : Mach) : tre B (f + 1) q x = q :: (if ndS x B = 0 then trs B f q x (chR x).length else []) := rfl
theorem tre_len (B : Int) : ∀ (f : Nat) (q : List Int) (x : Mach),∀ p ∈ tre B f q x,p.length ≤ q.length + f
  | 0,q,x,p,h => by rw [tre,List.mem_singleton] at h; rw [h]; omega
  | f + 1,q,x,p,h => by
    rw [tre] at h
    rcases List.mem_cons.1 h with rfl | h
    · omega
    · split at h
      · obtain ⟨k,_,hk⟩ := List.mem_flatMap.1 h
        have := tre_len B f _ _ p hk
        simp at this
        omega
      · cases h
theorem asd_pre {B : Int} {rt : Mach} {q : List Int} {k : Int} {least : Nat} : ∀ (n : Nat),n ≤ q.length → asd B rt (q ++ [k]) least n = asd B rt q least n
  | 0,_ => rfl
  | n + 1,h => by
    rw [asd,asd,asd_pre n (by omega)]
    have e1 : (q ++ [k]).take n = q.take n := List.take_append_of_le_length (by omega)
    have e2 : (q ++ [k]).getD n 0 = q.getD n 0 := by
      rw [List.getD_eq_getElem?_getD,List.getD_eq_getElem?_getD,List.getElem?_append_left (by omega)]
    rw [e1,e2]
theorem asd_child {B : Int} {rt x : Mach} {q : List Int} {k : Nat} {least : Nat} (hq : pth B rt q = some x) (hl : least ≤ q.length) (hs : ndS x B = 0) : asd B rt (q ++ [((k : Nat) : Int)]) least (q ++ [((k : Nat) : Int)]).length = if k + 1 < (chR x).length then some (q ++ [((k + 1 : Nat) : Int)]) else asd B rt q least q.length := by
  have e0 : (q ++ [((k : Nat) : Int)]).length = q.length + 1 := by simp
  rw [e0,asd,if_neg (by omega),asd_pre q.length (Nat.le_refl _)]
  have e1 : (q ++ [((k : Nat) : Int)]).take q.length = q := by simp
  have e2 : (q ++ [((k : Nat) : Int)]).getD q.length 0 = k := by simp
  rw [e1,e2,hq,Option.bind_some]
  by_cases hk : k + 1 < (chR x).length
  · rw [if_pos hk]
    have : (stp B x ((k : Int) + 1)).isSome = true := by
      unfold stp
      rw [if_pos ⟨hs,by omega,by omega⟩]
      rfl
    rw [if_pos this]
    rfl
  · rw [if_neg hk]
    have : ¬ (stp B x ((k : Int) + 1)).isSome = true := by
      unfold stp
      rw [if_neg (by omega)]
      simp
    rw [if_neg this]
theorem stp_nat {B : Int} {x : Mach} {k : Nat} (hs : ndS x B = 0) (h : k < (chR x).length) : stp B x ((k : Nat) : Int) = some (chM x (ndA x B) ((chR x).getD k noR)) := by
  unfold stp
  rw [if_pos ⟨hs,by omega,by omega⟩]
  simp
theorem pth_child {B : Int} {rt x : Mach} {q : List Int} {k : Nat} (hq : pth B rt q = some x) (hs : ndS x B = 0) (h : k < (chR x).length) : pth B rt (q ++ [((k : Nat) : Int)]) = some (chM x (ndA x B) ((chR x).getD k noR)) := by
  rw [pth_app,hq,Option.bind_some,pth,stp_nat hs h]
  rfl
theorem tre_chn {B sy st : Int} {rt : Mach} {least depth : Nat} (hrt : NdOk sy st rt) : ∀ (f : Nat) (q : List Int) (x : Mach),pth B rt q = some x → least ≤ q.length → q.length + f = depth → Chn (suc B rt least depth) (tre B f q x) (asd B rt q least q.length)
  | 0,q,x,hq,hl,hd => by
    show suc B rt least depth q = _
    unfold suc
    rw [if_neg (by omega)]
  | f + 1,q,x,hq,hl,hd => by
    have hx := (pth_ok hrt hq).1.v
    have hc := (chR_len hx).1
    rw [tre_succ]
    by_cases hs : ndS x B = 0
    · rw [if_pos hs]
      have key : ∀ n,1 ≤ n → n ≤ (chR x).length → ∃ l,trs B f q x n = (q ++ [((0 : Nat) : Int)]) :: l ∧ Chn (suc B rt least depth) (trs B f q x n) (if n < (chR x).length then some (q ++ [((n : Nat) : Int)]) else asd B rt q least q.length) := by
        intro n h1
        induction n with
        | zero => omega
        | succ n ih =>
          intro h2
          have hk := tre_chn (least := least) (depth := depth) hrt f (q ++ [((n : Nat) : Int)]) (chM x (ndA x B) ((chR x).getD n noR)) (pth_child hq hs (by omega)) (by simp; omega) (by simp; omega)
          rw [asd_child hq hl hs] at hk
          obtain ⟨l,hl0⟩ := tre_head B f (q ++ [((n : Nat) : Int)]) (chM x (ndA x B) ((chR x).getD n noR))
          rw [trs_next]
          cases n with
          | zero =>
            rw [trs_0,List.nil_append]
            exact ⟨l,hl0,hk⟩
          | succ n =>
            obtain ⟨l',e1,e2⟩ := ih (by omega) (by omega)
            rw [if_pos (by omega)] at e2
            rw [hl0] at hk ⊢
            refine ⟨l' ++ (q ++ [((n + 1 : Nat) : Int)]) :: l,by rw [e1]; rfl,chn_app hk e2⟩
      obtain ⟨l,e1,e2⟩ := key (chR x).length (by omega) (Nat.le_refl _)
      rw [if_neg (by omega)] at e2
      rw [e1] at e2 ⊢
      refine ⟨?_,e2⟩
      unfold suc
      rw [if_pos (by omega),hq,Option.bind_some]
      unfold nxt
      rw [if_pos hs]
      rfl
    · rw [if_neg hs]
      show suc B rt least depth q = _
      unfold suc
      rw [if_pos (by omega),hq,Option.bind_some]
      unfold nxt
      rw [if_neg hs]
theorem tre_pth {B sy st : Int} {rt : Mach} (hrt : NdOk sy st rt) : ∀ (f : Nat) (q : List Int) (x : Mach),pth B rt q = some x → ∀ p ∈ tre B f q x,∃ y,pth B rt p = some y
  | 0,q,x,hq,p,h => by rw [tre,List.mem_singleton] at h; rw [h]; exact ⟨x,hq⟩
  | f + 1,q,x,hq,p,h => by
    rw [tre] at h
    rcases List.mem_cons.1 h with rfl | h
    · exact ⟨x,hq⟩
    · split at h
      · rename_i hs
        obtain ⟨k,hk1,hk⟩ := List.mem_flatMap.1 h
        exact tre_pth hrt f _ _ (pth_child hq hs (List.mem_range.1 hk1)) p hk
      · cases h
theorem asd_top {B : Int} {rt : Mach} {q : List Int} : asd B rt q q.length q.length = none := by
  cases h : q.length with
  | zero => rfl
  | succ n => rw [asd,if_pos (by omega)]
end Go.Proofs.YtcmdfohamphndaaGreatDoor
end
section
set_option linter.unusedVariables false
set_option linter.unusedSimpArgs false
set_option maxRecDepth 100000
set_option maxHeartbeats 4000000
namespace Go.Proofs.YtcmdfohamphndaaGreatDoor
open Go Foot
theorem take_snoc {l : List (List Int)} {i : Nat} (h : i < l.length) : l.take i ++ [l.getD i []] = l.take (i + 1) := by
  rw [List.take_succ_eq_append_getElem h,List.getD_eq_getElem?_getD,List.getElem?_eq_getElem h]
  rfl
theorem preB103 {p : Prop} (h : p := by first | with_reducible assumption | omega | (simp only [List.length_append,List.length_cons,List.length_nil,List.length_set,List.length_replicate,List.length_take,List.length_drop,List.length_tail,List.length_dropLast,List.length_reverse] at *; omega) | exact mem_len (by assumption) (by omega) | (with_reducible refine Int.le_trans (Int.ofNat_le.2 (trimR_len _)) ?_; simp only [List.length_cons,List.length_tail]; omega) | (exact (ruAt_ok (by assumption) (by assumption) (by assumption)).2.1) | (exact (ruAt_ok (by assumption) (by assumption) (by assumption)).2.1) | (have := vMach_bd (by assumption); omega) | (simp only [mC_ch,mC_tu]; omega) | (have := vTag_bd (by assumption); omega) | (have := (‹Gd _ _›).le; omega) | (exact tgHalts_no (by assumption)) | (exact tgHead (by assumption) (by assumption) (by assumption)) | (exact Int.le_trans (tgStep_gd (by assumption) (by assumption) (by assumption) (by assumption)).le (by decide)) | (exact vTag_r (by assumption)) | (with_reducible refine Int.le_trans (Int.ofNat_le.2 (pushL_len _ _)) ?_; simp only [List.length_dropLast]; omega) | exact ls_at (by assumption) (by omega) | exact pt_gd (by assumption) | exact lv_at (by assumption) (by omega) | exact pt_gd (lv_at (by assumption) (by omega)) | exact (ask_ok (by assumption)).1 | exact (ask_ok (by assumption)).2.1 | exact (ask_ok (by assumption)).2.2.1 | exact (ask_ok (by assumption)).2.2.2 | trivial) : p := h
theorem l30Below_ok (st sy B depth : Int) (p : List Int) (x : Mach) (h1 : 1 ≤ st) (h2 : st ≤ 6) (h3 : 2 ≤ sy) (h4 : sy ≤ 6) (h5 : 0 ≤ B) (h6 : B ≤ 1000000) (hd : depth ≤ 36) (hp : (p.length : Int) ≤ depth) (hv : pth B (root sy st) p = some x) (T : List (List Int)) (hT : T = tre B (depth - p.length).toNat p x) : Does Tryz.prog 95 [.one (int st),.one (int sy),.one (shI p),.one (int depth),.one (int B)] [] (.tup [(false,[.gv 0]),(false,[boo (decide ((T.length : Int) ≤ 400))])]) [.row 1 (rows eW (if (T.length : Int) ≤ 400 then T else []))] := by
  have hr := root_ok h3 h4 h1 (by omega)
  have hch : Chn (suc B (root sy st) p.length depth.toNat) T none := by
    have := tre_chn (least := p.length) (depth := depth.toNat) hr (depth - p.length).toNat p x hv (Nat.le_refl _) (by omega)
    rw [asd_top,← hT] at this
    exact this
  have hln : ∀ q ∈ T,(q.length : Int) ≤ depth := fun q hq => by
    have := tre_len B (depth - p.length).toNat p x q (hT ▸ hq)
    omega
  have hpt : ∀ q ∈ T,∃ y,pth B (root sy st) q = some y := fun q hq => tre_pth hr _ p x hv q (hT ▸ hq)
  obtain ⟨tl,htl⟩ := tre_head B (depth - p.length).toNat p x
  rw [← hT] at htl
  clear hT
  subst htl
  refine does_of (k := 0) Tryz.func95 rfl Tryz.ntmps95 rfl rfl fun w F0 S0 ρ0 => ?_
  dsimp only [argT,argH]
  repeat' first|(apply n3;exact a_nilO eW rfl;exact rfl)|(apply n3;(first|exact a_litE eW [] rfl rfl rfl rfl rfl rfl rfl rfl|exact a_litE eW [_] rfl rfl rfl rfl rfl rfl rfl rfl|exact a_appN (fP rfl) rfl rfl rfl nowR (by first|omega|(simp;omega)) (by decide) (by exact rfl)|exact a_litE eI [] rfl rfl rfl rfl rfl rfl rfl rfl);exact rfl;refine dA ?_)|(apply p3;(first|exact pu1|exact puN|exact a_len_str rfl (fT rfl)|exact puC);exact rfl)|refine cd ?_|(apply s3;exact a_appE (fP rfl) rfl rfl rfl rfl nowR (by first|omega|(simp;omega)) (by decide) (by decide) (by exact rfl);exact rfl;exact rfl)|(apply c4 1;exact callK1 (θ := []) (hD := (l00Own_ok _ preB103));exact rfl;exact rfl;exact rfl;refine dM ?_)|(apply c4 1;exact callK1 (θ := []) (hD := (l30Next_ok _ _ _ _ _ _ preB103 preB103 preB103 preB103 preB103 preB103 preB103 preB103 preB103 preB103));exact rfl;exact rfl;exact rfl;refine dM ?_)|(apply c4 1;exact callK1 (θ := []) (hD := (l30Aside_ok _ _ _ _ _ _ preB103 preB103 preB103 preB103 preB103 preB103 preB103 preB103 preB103 preB103));exact rfl;exact rfl;exact rfl;refine dM ?_)|((first|refine o_gs rfl rfl (fun hc => ?_) (fun hc => ?_)|refine g_cond rfl (fun hc => ?_) (fun hc => ?_)) <;> (try simp only [dcB] at hc) <;> (try first|contradiction|(exfalso;omega)))
  refine g_loop_id ?_
  refine loopK [0,1,2,3,4,10,11,12,13] [1,2] (fun i : Nat => i < (p :: tl).length ∧ i ≤ 400) (fun _ => []) (fun i => [(1,.row 1 (rows eW ((p :: tl).take i))),(2,roI ((p :: tl).getD i []))]) (fun i => (p :: tl).length - i) (0 : Nat) [0,1,2] (hI := ?_) (hr := ?_)
  · exact ⟨by simp,by omega⟩
  · rintro i ⟨k0,k1⟩
    dsimp only [List.cons_append,List.nil_append] at *
    skip
    repeat' first|refine cdn ?_|((first|refine o_gs rfl rfl (fun hc => ?_) (fun hc => ?_)|refine g_cond rfl (fun hc => ?_) (fun hc => ?_)) <;> (try simp only [dcB] at hc) <;> (try first|contradiction|(exfalso;omega)))
    have hsn := take_snoc k0
    have hg : (p :: tl)[i]'k0 = (p :: tl).getD i [] := by rw [List.getD_eq_getElem?_getD,List.getElem?_eq_getElem k0]; rfl
    have hmem : (p :: tl).getD i [] ∈ p :: tl := by rw [← hg]; exact List.getElem_mem _
    have hql := hln _ hmem
    obtain ⟨y,hy⟩ := hpt _ hmem
    have hs := chn_get hch k0
    rw [hg] at hs
    have hlt : (((p :: tl).take i).length : Int) = i := by rw [List.length_take]; omega
    have hlt2 : (((p :: tl).take (i + 1)).length : Int) = i + 1 := by rw [List.length_take]; omega
    first | refine g_turn (t_frzR (d := 13) (i := 2) rfl rfl shutR) ?_ | refine o_turn (t_frzR (d := 13) (i := 2) rfl rfl shutR) ?_
    repeat' first|(apply n3;(first|exact a_litE eW [_] rfl rfl rfl rfl rfl rfl rfl rfl|exact a_appN (fP rfl) rfl rfl rfl nowR (by first|omega|(simp;omega)) (by decide) (by exact rfl));exact rfl;refine dA ?_)|(apply p3;exact pu1;exact rfl)|refine cdn ?_|refine g_reg (id := 3) ?_|(apply s3;exact a_appE (fP rfl) rfl rfl rfl rfl nowR (by first|omega|(simp;omega)) (by decide) (by decide) (by exact rfl);exact rfl;exact rfl)|((first|refine o_gs rfl rfl (fun hc => ?_) (fun hc => ?_)|refine g_cond rfl (fun hc => ?_) (fun hc => ?_)) <;> (try simp only [dcB] at hc) <;> (try first|contradiction|(exfalso;omega)))
    rw [hsn]
    repeat' first|(apply n3;(first|exact a_litE eW [_] rfl rfl rfl rfl rfl rfl rfl rfl|exact a_appN (fP rfl) rfl rfl rfl nowR (by first|omega|(simp;omega)) (by decide) (by exact rfl));exact rfl;refine dA ?_)|(apply p3;(first|exact pu1|exact puN|exact a_len_str rfl (fT rfl)|exact puC);exact rfl)|refine cdn ?_|refine g_reg (id := 3) ?_|refine g_reg (id := 4) ?_|(apply s3;exact a_appE (fP rfl) rfl rfl rfl rfl nowR (by first|omega|(simp;omega)) (by decide) (by decide) (by exact rfl);exact rfl;exact rfl)|((first|refine o_gs rfl rfl (fun hc => ?_) (fun hc => ?_)|refine g_cond rfl (fun hc => ?_) (fun hc => ?_)) <;> (try simp only [dcB] at hc) <;> (try first|contradiction|(exfalso;omega)))
    · have hn : ¬ ((p :: tl).length : Int) ≤ 400 := by omega
      rw [if_neg hn,decide_eq_false hn]
      repeat' first|(apply n3;exact a_nilO eW rfl;exact rfl)|(apply n3;(first|exact a_litE eW [_] rfl rfl rfl rfl rfl rfl rfl rfl|exact a_appN (fP rfl) rfl rfl rfl nowR (by first|omega|(simp;omega)) (by decide) (by exact rfl)|exact a_litE eI [] rfl rfl rfl rfl rfl rfl rfl rfl);exact rfl;refine dA ?_)|(apply p3;(first|exact pu1|exact puN|exact a_len_str rfl (fT rfl)|exact puC);exact rfl)|refine cd ?_|(apply s3;exact a_appE (fP rfl) rfl rfl rfl rfl nowR (by first|omega|(simp;omega)) (by decide) (by decide) (by exact rfl);exact rfl;exact rfl)|(apply c4 1;exact callK1 (θ := []) (hD := (l30Next_ok _ _ _ _ _ _ preB103 preB103 preB103 preB103 preB103 preB103 preB103 preB103 preB103 preB103));exact rfl;exact rfl;exact rfl;refine dM ?_)|(apply c4 1;exact callK1 (θ := []) (hD := (l30Aside_ok _ _ _ _ _ _ preB103 preB103 preB103 preB103 preB103 preB103 preB103 preB103 preB103 preB103));exact rfl;exact rfl;exact rfl;refine dM ?_)|((first|refine o_gs rfl rfl (fun hc => ?_) (fun hc => ?_)|refine g_cond rfl (fun hc => ?_) (fun hc => ?_)) <;> (try simp only [dcB] at hc) <;> (try first|contradiction|(exfalso;omega)))
      repeat refine cr ?_
      refine ends_id ?_
      refine endK [?_] (h2 := ?_) (h3 := ?_) (nd := ?_)
      rotate_left 1
      all_goals (repeat' first|exact ce0|refine ce ?_|refine ce2 ?_ ?_|(refine Or.inr (bx_eq rfl rfl ?_);(try dsimp only [C.ren,C.ren.all]);(try exact rfl))|exact SVLe.refl|refine ceb ?_)
      all_goals first | exact (show nodupB _ = true from rfl) | exact Or.inr rfl | (rfl)
    · have hq1 : (((p :: tl).getD i []).length : Int) ≤ 1048576 := by omega
      unfold suc at hs
      rw [hy,Option.bind_some] at hs
      have hl0 : ((p.length : Int)).toNat = p.length := Int.toNat_natCast _
      repeat' first|(apply n3;exact a_nilO eW rfl;exact rfl)|(apply n3;(first|exact a_litE eW [_] rfl rfl rfl rfl rfl rfl rfl rfl|exact a_appN (fP rfl) rfl rfl rfl nowR (by first|omega|(simp;omega)) (by decide) (by exact rfl)|exact a_litE eI [] rfl rfl rfl rfl rfl rfl rfl rfl);exact rfl;refine dA ?_)|(apply p3;(first|exact pu1|exact puN|exact a_len_str rfl (fT rfl)|exact puC);exact rfl)|refine cdn ?_|refine g_reg (id := 3) ?_|refine g_reg (id := 4) ?_|refine g_reg (id := 5) ?_|refine g_reg (id := 6) ?_|refine g_reg (id := 7) ?_|(apply s3;exact a_appE (fP rfl) rfl rfl rfl rfl nowR (by first|omega|(simp;omega)) (by decide) (by decide) (by exact rfl);exact rfl;exact rfl)|((first|refine o_gs rfl rfl (fun hc => ?_) (fun hc => ?_)|refine g_cond rfl (fun hc => ?_) (fun hc => ?_)) <;> (try simp only [dcB] at hc) <;> (try first|contradiction|(exfalso;omega)))
      · rw [if_pos (by omega),← hl0] at hs
        repeat' first|(apply n3;exact a_nilO eW rfl;exact rfl)|(apply n3;(first|exact a_litE eW [_] rfl rfl rfl rfl rfl rfl rfl rfl|exact a_appN (fP rfl) rfl rfl rfl nowR (by first|omega|(simp;omega)) (by decide) (by exact rfl)|exact a_litE eI [] rfl rfl rfl rfl rfl rfl rfl rfl);exact rfl;refine dA ?_)|(apply p3;(first|exact pu1|exact puN|exact a_len_str rfl (fT rfl)|exact puC);exact rfl)|refine cdn ?_|refine g_reg (id := 3) ?_|refine g_reg (id := 4) ?_|refine g_reg (id := 5) ?_|refine g_reg (id := 6) ?_|refine g_reg (id := 7) ?_|refine g_reg (id := 8) ?_|refine g_reg (id := 9) ?_|refine g_reg (id := 10) ?_|(apply s3;exact a_appE (fP rfl) rfl rfl rfl rfl nowR (by first|omega|(simp;omega)) (by decide) (by decide) (by exact rfl);exact rfl;exact rfl)|(apply c4 1;exact callK1 (θ := []) (hD := (l30Next_ok st sy B p.length ((p :: tl).getD i []) y preB103 preB103 preB103 preB103 preB103 preB103 preB103 preB103 preB103 hy));exact rfl;exact rfl;exact rfl;refine dM ?_)|(apply c4 1;exact callK1 (θ := []) (hD := (l30Aside_ok st sy B p.length ((p :: tl).getD i []) y preB103 preB103 preB103 preB103 preB103 preB103 preB103 preB103 preB103 hy));exact rfl;exact rfl;exact rfl;refine dM ?_)|((first|refine o_gs rfl rfl (fun hc => ?_) (fun hc => ?_)|refine g_cond rfl (fun hc => ?_) (fun hc => ?_)) <;> (try simp only [dcB] at hc) <;> (try first|contradiction|(exfalso;omega)))
        · have hn : ¬ i + 1 < (p :: tl).length := fun h => by
            rw [dif_pos h] at hs
            rw [hs] at hc
            exact absurd hc (by simp)
          have hall : List.take (i + 1) (p :: tl) = p :: tl := List.take_of_length_le (Nat.le_of_not_lt hn)
          have hle : ((p :: tl).length : Int) ≤ 400 := by
            have := congrArg List.length hall
            omega
          rw [hall,if_pos hle,decide_eq_true hle]
          repeat' first|(apply n3;exact a_nilO eW rfl;exact rfl)|(apply n3;(first|exact a_litE eW [_] rfl rfl rfl rfl rfl rfl rfl rfl|exact a_appN (fP rfl) rfl rfl rfl nowR (by first|omega|(simp;omega)) (by decide) (by exact rfl)|exact a_litE eI [] rfl rfl rfl rfl rfl rfl rfl rfl);exact rfl;refine dA ?_)|(apply p3;(first|exact pu1|exact puN|exact a_len_str rfl (fT rfl)|exact puC);exact rfl)|refine cd ?_|(apply s3;exact a_appE (fP rfl) rfl rfl rfl rfl nowR (by first|omega|(simp;omega)) (by decide) (by decide) (by exact rfl);exact rfl;exact rfl)|(apply c4 1;exact callK1 (θ := []) (hD := (l30Next_ok st sy B p.length ((p :: tl).getD i []) y preB103 preB103 preB103 preB103 preB103 preB103 preB103 preB103 preB103 hy));exact rfl;exact rfl;exact rfl;refine dM ?_)|(apply c4 1;exact callK1 (θ := []) (hD := (l30Aside_ok st sy B p.length ((p :: tl).getD i []) y preB103 preB103 preB103 preB103 preB103 preB103 preB103 preB103 preB103 hy));exact rfl;exact rfl;exact rfl;refine dM ?_)|((first|refine o_gs rfl rfl (fun hc => ?_) (fun hc => ?_)|refine g_cond rfl (fun hc => ?_) (fun hc => ?_)) <;> (try simp only [dcB] at hc) <;> (try first|contradiction|(exfalso;omega)))
          repeat refine cr ?_
          refine ends_id ?_
          refine endK [?_] (h2 := ?_) (h3 := ?_) (nd := ?_)
          rotate_left 1
          all_goals (repeat' first|exact ce0|refine ce ?_|refine ce2 ?_ ?_|(refine Or.inr (bx_eq rfl rfl ?_);(try dsimp only [C.ren,C.ren.all]);(try exact rfl))|exact SVLe.refl|refine ceb ?_)
          all_goals first | exact (show nodupB _ = true from rfl) | exact Or.inr rfl | (rfl)
        · have hn : i + 1 < (p :: tl).length := by
            refine Classical.byContradiction fun h => ?_
            rw [dif_neg h] at hs
            rw [hs] at hc
            exact absurd hc (by simp)
          rw [dif_pos hn] at hs
          have he : (p :: tl).getD (i + 1) [] = (p :: tl)[i + 1] := by rw [List.getD_eq_getElem?_getD,List.getElem?_eq_getElem hn]; rfl
          rw [hs,Option.getD_some,← he]
          repeat' first|(apply n3;exact a_nilO eW rfl;exact rfl)|(apply n3;(first|exact a_litE eW [_] rfl rfl rfl rfl rfl rfl rfl rfl|exact a_appN (fP rfl) rfl rfl rfl nowR (by first|omega|(simp;omega)) (by decide) (by exact rfl)|exact a_litE eI [] rfl rfl rfl rfl rfl rfl rfl rfl);exact rfl;refine dA ?_)|(apply p3;(first|exact pu1|exact puN|exact a_len_str rfl (fT rfl)|exact puC);exact rfl)|refine cd ?_|(apply s3;exact a_appE (fP rfl) rfl rfl rfl rfl nowR (by first|omega|(simp;omega)) (by decide) (by decide) (by exact rfl);exact rfl;exact rfl)|(apply c4 1;exact callK1 (θ := []) (hD := (l30Next_ok st sy B p.length ((p :: tl).getD i []) y preB103 preB103 preB103 preB103 preB103 preB103 preB103 preB103 preB103 hy));exact rfl;exact rfl;exact rfl;refine dM ?_)|(apply c4 1;exact callK1 (θ := []) (hD := (l30Aside_ok st sy B p.length ((p :: tl).getD i []) y preB103 preB103 preB103 preB103 preB103 preB103 preB103 preB103 preB103 hy));exact rfl;exact rfl;exact rfl;refine dM ?_)|((first|refine o_gs rfl rfl (fun hc => ?_) (fun hc => ?_)|refine g_cond rfl (fun hc => ?_) (fun hc => ?_)) <;> (try simp only [dcB] at hc) <;> (try first|contradiction|(exfalso;omega)))
          refine q_again (i + 1) [0,4,6] (by exact stk) ?_ ?_
          · exact ⟨hn,by omega⟩
          · omega
      · rw [if_neg (by omega),← hl0] at hs
        repeat' first|(apply n3;exact a_nilO eW rfl;exact rfl)|(apply n3;(first|exact a_litE eW [] rfl rfl rfl rfl rfl rfl rfl rfl|exact a_litE eW [_] rfl rfl rfl rfl rfl rfl rfl rfl|exact a_appN (fP rfl) rfl rfl rfl nowR (by first|omega|(simp;omega)) (by decide) (by exact rfl)|exact a_litE eI [] rfl rfl rfl rfl rfl rfl rfl rfl);exact rfl;refine dA ?_)|(apply p3;(first|exact pu1|exact puN|exact a_len_str rfl (fT rfl)|exact puC);exact rfl)|refine cdn ?_|refine g_reg (id := 0) ?_|refine g_reg (id := 1) ?_|refine g_reg (id := 2) ?_|refine g_reg (id := 3) ?_|refine g_reg (id := 4) ?_|refine g_reg (id := 5) ?_|refine g_reg (id := 6) ?_|refine g_reg (id := 7) ?_|refine g_reg (id := 8) ?_|refine g_reg (id := 9) ?_|refine g_reg (id := 10) ?_|(apply s3;exact a_appE (fP rfl) rfl rfl rfl rfl nowR (by first|omega|(simp;omega)) (by decide) (by decide) (by exact rfl);exact rfl;exact rfl)|(apply c4 1;exact callK1 (θ := []) (hD := (l00Own_ok _ preB103));exact rfl;exact rfl;exact rfl;refine dM ?_)|(apply c4 1;exact callK1 (θ := []) (hD := (l30Next_ok st sy B p.length ((p :: tl).getD i []) y preB103 preB103 preB103 preB103 preB103 preB103 preB103 preB103 preB103 hy));exact rfl;exact rfl;exact rfl;refine dM ?_)|(apply c4 1;exact callK1 (θ := []) (hD := (l30Aside_ok st sy B p.length ((p :: tl).getD i []) y preB103 preB103 preB103 preB103 preB103 preB103 preB103 preB103 preB103 hy));exact rfl;exact rfl;exact rfl;refine dM ?_)|((first|refine o_gs rfl rfl (fun hc => ?_) (fun hc => ?_)|refine g_cond rfl (fun hc => ?_) (fun hc => ?_)) <;> (try simp only [dcB] at hc) <;> (try first|contradiction|(exfalso;omega)))
        · have hn : ¬ i + 1 < (p :: tl).length := fun h => by
            rw [dif_pos h] at hs
            rw [hs] at hc
            exact absurd hc (by simp)
          have hall : List.take (i + 1) (p :: tl) = p :: tl := List.take_of_length_le (Nat.le_of_not_lt hn)
          have hle : ((p :: tl).length : Int) ≤ 400 := by
            have := congrArg List.length hall
            omega
          rw [hall,if_pos hle,decide_eq_true hle]
          repeat' first|(apply n3;exact a_nilO eW rfl;exact rfl)|(apply n3;(first|exact a_litE eW [] rfl rfl rfl rfl rfl rfl rfl rfl|exact a_litE eW [_] rfl rfl rfl rfl rfl rfl rfl rfl|exact a_appN (fP rfl) rfl rfl rfl nowR (by first|omega|(simp;omega)) (by decide) (by exact rfl)|exact a_litE eI [] rfl rfl rfl rfl rfl rfl rfl rfl);exact rfl;refine dA ?_)|(apply p3;(first|exact pu1|exact puN|exact a_len_str rfl (fT rfl)|exact puC);exact rfl)|refine cd ?_|(apply s3;exact a_appE (fP rfl) rfl rfl rfl rfl nowR (by first|omega|(simp;omega)) (by decide) (by decide) (by exact rfl);exact rfl;exact rfl)|(apply c4 1;exact callK1 (θ := []) (hD := (l00Own_ok _ preB103));exact rfl;exact rfl;exact rfl;refine dM ?_)|(apply c4 1;exact callK1 (θ := []) (hD := (l30Next_ok st sy B p.length ((p :: tl).getD i []) y preB103 preB103 preB103 preB103 preB103 preB103 preB103 preB103 preB103 hy));exact rfl;exact rfl;exact rfl;refine dM ?_)|(apply c4 1;exact callK1 (θ := []) (hD := (l30Aside_ok st sy B p.length ((p :: tl).getD i []) y preB103 preB103 preB103 preB103 preB103 preB103 preB103 preB103 preB103 hy));exact rfl;exact rfl;exact rfl;refine dM ?_)|((first|refine o_gs rfl rfl (fun hc => ?_) (fun hc => ?_)|refine g_cond rfl (fun hc => ?_) (fun hc => ?_)) <;> (try simp only [dcB] at hc) <;> (try first|contradiction|(exfalso;omega)))
          repeat refine cr ?_
          refine ends_id ?_
          refine endK [?_] (h2 := ?_) (h3 := ?_) (nd := ?_)
          rotate_left 1
          all_goals (repeat' first|exact ce0|refine ce ?_|refine ce2 ?_ ?_|(refine Or.inr (bx_eq rfl rfl ?_);(try dsimp only [C.ren,C.ren.all]);(try exact rfl))|exact SVLe.refl|refine ceb ?_)
          all_goals first | exact (show nodupB _ = true from rfl) | exact Or.inr rfl | (rfl)
        · have hn : i + 1 < (p :: tl).length := by
            refine Classical.byContradiction fun h => ?_
            rw [dif_neg h] at hs
            rw [hs] at hc
            exact absurd hc (by simp)
          rw [dif_pos hn] at hs
          have he : (p :: tl).getD (i + 1) [] = (p :: tl)[i + 1] := by rw [List.getD_eq_getElem?_getD,List.getElem?_eq_getElem hn]; rfl
          rw [hs,Option.getD_some,← he]
          repeat' first|(apply n3;exact a_nilO eW rfl;exact rfl)|(apply n3;(first|exact a_litE eW [] rfl rfl rfl rfl rfl rfl rfl rfl|exact a_litE eW [_] rfl rfl rfl rfl rfl rfl rfl rfl|exact a_appN (fP rfl) rfl rfl rfl nowR (by first|omega|(simp;omega)) (by decide) (by exact rfl)|exact a_litE eI [] rfl rfl rfl rfl rfl rfl rfl rfl);exact rfl;refine dA ?_)|(apply p3;(first|exact pu1|exact puN|exact a_len_str rfl (fT rfl)|exact puC);exact rfl)|refine cd ?_|(apply s3;exact a_appE (fP rfl) rfl rfl rfl rfl nowR (by first|omega|(simp;omega)) (by decide) (by decide) (by exact rfl);exact rfl;exact rfl)|(apply c4 1;exact callK1 (θ := []) (hD := (l00Own_ok _ preB103));exact rfl;exact rfl;exact rfl;refine dM ?_)|(apply c4 1;exact callK1 (θ := []) (hD := (l30Next_ok st sy B p.length ((p :: tl).getD i []) y preB103 preB103 preB103 preB103 preB103 preB103 preB103 preB103 preB103 hy));exact rfl;exact rfl;exact rfl;refine dM ?_)|(apply c4 1;exact callK1 (θ := []) (hD := (l30Aside_ok st sy B p.length ((p :: tl).getD i []) y preB103 preB103 preB103 preB103 preB103 preB103 preB103 preB103 preB103 hy));exact rfl;exact rfl;exact rfl;refine dM ?_)|((first|refine o_gs rfl rfl (fun hc => ?_) (fun hc => ?_)|refine g_cond rfl (fun hc => ?_) (fun hc => ?_)) <;> (try simp only [dcB] at hc) <;> (try first|contradiction|(exfalso;omega)))
          refine q_again (i + 1) [0,4,6] (by exact stk) ?_ ?_
          · exact ⟨hn,by omega⟩
          · omega
end Go.Proofs.YtcmdfohamphndaaGreatDoor
end
