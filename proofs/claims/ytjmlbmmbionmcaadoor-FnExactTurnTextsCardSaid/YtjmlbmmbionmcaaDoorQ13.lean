/- Parts of the proof (13 of 18). -/
import Derived.Maps.RangeRun
import Derived.Test.YtjmlbmmbionmcaaDoorQ12
section
set_option linter.unusedVariables false
set_option linter.unusedSimpArgs false
set_option maxRecDepth 100000
namespace Go.Proofs.YtjmlbmmbionmcaaDoor
open Go Foot MapKept
section
variable {P : Program} {g : Gh} {t : List (Nat × SV)} {h : List (Nat × GB)} {n : Nat} {Q : Exit → St → Prop} {ops : Array Oper} {l : List Oper}
variable {ty : TypeId} {pos : String} {after : Array Edge} {x : Operand} {T kt et : TypeId} {α β : Type}
variable {st : St} {dst : Option Tmp} {guard : Option (Nat × Bool)}
end
end Go.Proofs.YtjmlbmmbionmcaaDoor
end
section
set_option linter.unusedVariables false
set_option linter.unusedSimpArgs false
set_option maxRecDepth 100000
set_option maxHeartbeats 4000000
namespace Go.Proofs.YtjmlbmmbionmcaaDoor
open Go Foot
end Go.Proofs.YtjmlbmmbionmcaaDoor
end
section
set_option linter.unusedVariables false
set_option linter.unusedSimpArgs false
set_option maxRecDepth 100000
set_option maxHeartbeats 4000000
namespace Go.Proofs.YtjmlbmmbionmcaaDoor
open Go Foot
@[irreducible] def tgWord (n : Int) (l : List Int) : Bool := inAll 0 (n - 1) l && decide ((l.length : Int) ≤ 1000)
theorem preB44 {p : Prop} (h : p := by first | with_reducible assumption | omega | (simp only [List.length_append,List.length_cons,List.length_nil,List.length_set,List.length_replicate,List.length_take,List.length_drop,List.length_tail,List.length_dropLast,List.length_reverse] at *; omega) | exact mem_len (by assumption) (by omega) | (with_reducible refine Int.le_trans (Int.ofNat_le.2 (trimR_len _)) ?_; simp only [List.length_cons,List.length_tail]; omega) | (exact (ruAt_ok (by assumption) (by assumption) (by assumption)).2.1) | (exact (ruAt_ok (by assumption) (by assumption) (by assumption)).2.1) | (have := vMach_bd (by assumption); omega) | (simp only [mC_ch,mC_tu]; omega) | (with_reducible refine Int.le_trans (Int.ofNat_le.2 (pushL_len _ _)) ?_; simp only [List.length_dropLast]; omega) | exact (ask_ok (by assumption)).1 | exact (ask_ok (by assumption)).2.1 | exact (ask_ok (by assumption)).2.2.1 | exact (ask_ok (by assumption)).2.2.2 | trivial) : p := h
theorem l09Over_ok (l : List Int) (n : Int) (hx : (l.length : Int) ≤ 16777216) (h1 : -1000 ≤ n) (h2 : n ≤ 16777216) : Does Tryd.prog 58 [.one (shI l),.one (int n)] [] (.one (boo (tgWord n l))) [] := by
  refine does_of (k := 0) Tryd.func58 rfl Tryd.ntmps58 rfl rfl fun w F0 S0 ρ0 => ?_
  dsimp only [argT,argH]
  repeat' first|(apply p3;(exact pu1);exact rfl)|refine cd ?_
  refine g_loop_id ?_
  refine loopK [0,1,4] [] (fun i : Int => 0 ≤ i ∧ i ≤ l.length ∧ (l.take i.toNat).all (fun x => decide (0 ≤ x ∧ x ≤ n - 1)) = true) (fun i => [(5,.one (int i))]) (fun _ => []) (fun i => (l.length - i).toNat) (0 : Int) [] (hI := ?_) (hr := ?_)
  · exact ⟨by omega,by omega,rfl⟩
  · rintro i ⟨h0,h1,h2⟩
    dsimp only [List.cons_append,List.nil_append] at *
    skip
    repeat' first|(apply p3;(first|exact pu1|exact puN|exact puC|exact a_sub rfl rfl (by omega) (by omega)|exact a_add rfl rfl (by omega) (by omega)|exact puI);exact rfl)|refine cd ?_|(apply c4 0;exact callK1 (θ := []) (hD := (l00In_ok _ _ _));exact rfl;exact rfl;exact rfl;refine dM ?_)|((refine g_cond rfl (fun hc => ?_) (fun hc => ?_)) <;> (try simp only [dcB] at hc) <;> (try first|contradiction|(exfalso;omega)))
    · repeat refine cr ?_
      refine ends_id ?_
      refine endK [] (h2 := ?_) (h3 := ?_) (nd := ?_)
      all_goals (repeat' first|exact ce0|refine ce ?_|refine ce2 ?_ ?_|exact SVLe.refl|refine ceb ?_)
      all_goals first | exact (show nodupB _ = true from rfl) | exact Or.inr rfl | ((rw [tgWord,show inAll 0 (n - 1) l = false from by unfold inAll; exact all_no _ _ i.toNat (by omega) (by rw [decide_eq_true_eq]; exact hc)]; rfl))
    · refine q_again (i + 1) [] (by exact stk) ?_ ?_
      · exact ⟨by omega,by omega,all_snocI _ _ _ h0 (by omega) h2 (by rw [decide_eq_true_eq]; assumption)⟩
      · omega
    · repeat refine cr ?_
      refine ends_id ?_
      refine endK [] (h2 := ?_) (h3 := ?_) (nd := ?_)
      all_goals (repeat' first|exact ce0|refine ce ?_|refine ce2 ?_ ?_|exact SVLe.refl|refine ceb ?_)
      all_goals first | exact (show nodupB _ = true from rfl) | exact Or.inr rfl | ((rw [List.take_of_length_le (by omega)] at h2; rw [tgWord,show inAll 0 (n - 1) l = true from by unfold inAll; exact h2]; rfl))
theorem l09Good_ok (t : Tg) (l : List Int) (hx : (l.length : Int) ≤ 16777216) (ht : (t.wo.length : Int) ≤ 16777216) : Does Tryd.prog 41 [.one (tgB t),.one (shI l)] [] (.one (boo (tgWord t.wo.length l))) [] := by
  refine does_of (k := 0) Tryd.func41 rfl Tryd.ntmps41 rfl rfl fun w F0 S0 ρ0 => ?_
  dsimp only [argT,argH]
  repeat' first|(apply p3;(first|exact pu1|exact puN);exact rfl)|refine cd ?_|(apply c4 0;exact callK1 (θ := []) (hD := (l09Over_ok _ _ preB44 preB44 preB44));exact rfl;exact rfl;exact rfl;refine dM ?_)
  repeat refine cr ?_
  refine ends_id ?_
  refine endK [] (h2 := ?_) (h3 := ?_) (nd := ?_)
  all_goals (repeat' first|exact ce0|refine ce ?_|refine ce2 ?_ ?_|exact SVLe.refl|refine ceb ?_)
  all_goals first | exact (show nodupB _ = true from rfl) | exact Or.inr rfl | (rfl)
@[irreducible] def vTag (t : Tg) : Bool := decide (1 ≤ t.de ∧ t.de ≤ 4) && decide (1 ≤ (t.wo.length : Int) ∧ (t.wo.length : Int) ≤ 200) && (risesL t.ha && inAll 0 ((t.wo.length : Int) - 1) t.ha) && t.wo.all (tgWord t.wo.length)
theorem l09Is_ok (t : Tg) (hx : (t.ha.length : Int) ≤ 16777216) (hy : (t.wo.length : Int) ≤ 16777216) (hys : ∀ x ∈ t.wo,(x.length : Int) ≤ 16777216) : Does Tryd.prog 40 [.one (tgB t)] [] (.one (boo (vTag t))) [] := by
  refine does_of (k := 0) Tryd.func40 rfl Tryd.ntmps40 rfl rfl fun w F0 S0 ρ0 => ?_
  dsimp only [argT,argH]
  repeat' first|(apply p3;(first|exact pu1|exact puN);exact rfl)|refine cd ?_|(apply c4 0;exact callK1 (θ := []) (hD := (l00In_ok _ _ _));exact rfl;exact rfl;exact rfl;refine dM ?_)|refine o_no rfl rfl rfl rfl ?_|(apply py3;exact rfl;exact rfl;(first|exact pu1|exact a_sub rfl rfl (by omega) (by omega));exact rfl;exact rfl)|(apply cy4 0;exact rfl;exact rfl;exact callK1 (θ := []) (hD := (l00In_ok _ _ _));exact rfl;exact rfl;exact rfl;exact rfl;refine dM ?_)|(apply cy4 0;exact rfl;exact rfl;exact callK1 (θ := []) (hD := (l00Rises_ok _ _ _ preB44));exact rfl;exact rfl;exact rfl;exact rfl;refine dM ?_)|((first|refine o_gs rfl rfl (fun hc => ?_) (fun hc => ?_)|refine g_cond rfl (fun hc => ?_) (fun hc => ?_)) <;> (try simp only [dcB] at hc) <;> (try first|contradiction|(exfalso;omega)))
  · repeat refine cr ?_
    refine ends_id ?_
    refine endK [] (h2 := ?_) (h3 := ?_) (nd := ?_)
    all_goals (repeat' first|exact ce0|refine ce ?_|refine ce2 ?_ ?_|exact SVLe.refl|refine ceb ?_)
    all_goals first | exact (show nodupB _ = true from rfl) | exact Or.inr rfl | ((rw [vTag,decide_eq_false hc]; simp))
  · repeat refine cr ?_
    refine ends_id ?_
    refine endK [] (h2 := ?_) (h3 := ?_) (nd := ?_)
    all_goals (repeat' first|exact ce0|refine ce ?_|refine ce2 ?_ ?_|exact SVLe.refl|refine ceb ?_)
    all_goals first | exact (show nodupB _ = true from rfl) | exact Or.inr rfl | ((rw [vTag,decide_eq_false hc]; simp))
  · repeat refine cr ?_
    refine ends_id ?_
    refine endK [] (h2 := ?_) (h3 := ?_) (nd := ?_)
    all_goals (repeat' first|exact ce0|refine ce ?_|refine ce2 ?_ ?_|exact SVLe.refl|refine ceb ?_)
    all_goals first | exact (show nodupB _ = true from rfl) | exact Or.inr rfl | ((rw [vTag,hc]; simp))
  refine g_loop_id ?_
  refine loopK [0,2,3] [] (fun i : Int => 0 ≤ i ∧ i ≤ t.wo.length ∧ (t.wo.take i.toNat).all (tgWord t.wo.length) = true) (fun i => [(4,.one (int i))]) (fun _ => []) (fun i => (t.wo.length - i).toNat) (0 : Int) [] (hI := ?_) (hr := ?_)
  · exact ⟨by omega,by omega,rfl⟩
  · rintro i ⟨h0,h1,h2⟩
    dsimp only [List.cons_append,List.nil_append] at *
    skip
    repeat' first|(apply p3;(first|exact pu1|exact puN|exact puC|exact a_add rfl rfl (by omega) (by omega)|exact puI);exact rfl)|refine cd ?_|(apply c4 0;exact callK1 (θ := []) (hD := (l09Over_ok _ _ preB44 preB44 preB44));exact rfl;exact rfl;exact rfl;refine dM ?_)|((refine g_cond rfl (fun hc => ?_) (fun hc => ?_)) <;> (try simp only [dcB] at hc) <;> (try first|contradiction|(exfalso;omega)))
    · repeat refine cr ?_
      refine ends_id ?_
      refine endK [] (h2 := ?_) (h3 := ?_) (nd := ?_)
      all_goals (repeat' first|exact ce0|refine ce ?_|refine ce2 ?_ ?_|exact SVLe.refl|refine ceb ?_)
      all_goals first | exact (show nodupB _ = true from rfl) | exact Or.inr rfl | ((rw [vTag,all_no (tgWord t.wo.length) t.wo i.toNat (by omega) (by simp_all)]; simp))
    · refine q_again (i + 1) [] (by exact stk) ?_ ?_
      · exact ⟨by omega,by omega,all_snocI _ _ _ h0 (by omega) h2 (by assumption)⟩
      · omega
    · repeat refine cr ?_
      refine ends_id ?_
      refine endK [] (h2 := ?_) (h3 := ?_) (nd := ?_)
      all_goals (repeat' first|exact ce0|refine ce ?_|refine ce2 ?_ ?_|exact SVLe.refl|refine ceb ?_)
      all_goals first | exact (show nodupB _ = true from rfl) | exact Or.inr rfl | ((rw [List.take_of_length_le (by omega)] at h2; unfold vTag; simp_all))
theorem l09Ask_ok (t : Tg) (l : List Int) (hl : (l.length : Int) ≤ 16777216) (hx : (t.ha.length : Int) ≤ 16777216) (hy : (t.wo.length : Int) ≤ 16777216) (hys : ∀ x ∈ t.wo,(x.length : Int) ≤ 16777216) : Does Tryd.prog 18 [.one (tgB t),.one (shI l)] [] (.one (int (bif vTag t && tgWord t.wo.length l then 0 else 1))) [] := by
  refine does_of (k := 0) Tryd.func18 rfl Tryd.ntmps18 rfl rfl fun w F0 S0 ρ0 => ?_
  dsimp only [argT,argH]
  repeat' first|(apply p3;exact pu1;exact rfl)|refine cd ?_|(apply c4 0;exact callK1 (θ := []) (hD := (l09Is_ok _ preB44 preB44 preB44));exact rfl;exact rfl;exact rfl;refine dM ?_)|refine o_no rfl rfl rfl rfl ?_|(apply py3;exact rfl;exact rfl;exact pu1;exact rfl;exact rfl)|(apply cy4 0;exact rfl;exact rfl;exact callK1 (θ := []) (hD := (l09Good_ok _ _ preB44 preB44));exact rfl;exact rfl;exact rfl;exact rfl;refine dM ?_)|((first|refine o_gs rfl rfl (fun hc => ?_) (fun hc => ?_)|refine g_cond rfl (fun hc => ?_) (fun hc => ?_)) <;> (try simp only [dcB] at hc) <;> (try first|contradiction|(exfalso;omega)))
  all_goals
    repeat refine cr ?_
    refine ends_id ?_
    refine endK [] (h2 := ?_) (h3 := ?_) (nd := ?_)
    all_goals (repeat' first|exact ce0|refine ce ?_|refine ce2 ?_ ?_|exact SVLe.refl|refine ceb ?_)
    all_goals first | exact (show nodupB _ = true from rfl) | exact Or.inr rfl | (simp_all)
@[irreducible] def tgHalts (t : Tg) (w : List Int) : Bool := decide ((w.length : Int) < t.de) || decide (w.headD 0 ∈ t.ha)
@[irreducible] def tgOut (t : Tg) (w : List Int) : List Int := w ++ t.wo.getD (w.headD 0).toNat []
@[irreducible] def tgStep (t : Tg) (w : List Int) : List Int := (tgOut t w).drop t.de.toNat
@[irreducible] def tgOver (t : Tg) (w : List Int) : Bool := !decide (((tgOut t w).length : Int) ≤ 1000)
theorem vTag_bd {t : Tg} (h : vTag t = true) : (1 ≤ t.de ∧ t.de ≤ 4) ∧ 1 ≤ (t.wo.length : Int) ∧ (t.wo.length : Int) ≤ 200 := by
  unfold vTag at h
  simp only [Bool.and_eq_true,decide_eq_true_eq] at h
  omega
theorem vTag_w {t : Tg} (h : vTag t = true) {x : List Int} (hx : x ∈ t.wo) : (x.length : Int) ≤ 1000 ∧ ∀ y ∈ x,0 ≤ y ∧ y < t.wo.length := by
  unfold vTag at h
  simp only [Bool.and_eq_true,List.all_eq_true] at h
  have := h.2 x hx
  unfold tgWord inAll at this
  simp only [Bool.and_eq_true,List.all_eq_true,decide_eq_true_eq] at this
  exact ⟨this.2,fun y hy => by have := this.1 y hy; omega⟩
structure Gd (t : Tg) (q : List Int) : Prop where
  wd : ∀ y ∈ q,0 ≤ y ∧ y < t.wo.length
  le : (q.length : Int) ≤ 1000
theorem tgHalts_no {t : Tg} {q : List Int} (h : tgHalts t q = false) : t.de ≤ q.length := by
  unfold tgHalts at h
  simp at h
  omega
theorem tgHead {t : Tg} {q : List Int} (hv : vTag t = true) (hg : Gd t q) (h : tgHalts t q = false) : 0 ≤ q.headD 0 ∧ q.headD 0 < t.wo.length := by
  have h1 := tgHalts_no h
  have h2 := vTag_bd hv
  cases q with
  | nil => simp at h1; omega
  | cons a q => exact hg.wd a (by simp)
theorem tgStep_gd {t : Tg} {q : List Int} (hv : vTag t = true) (hg : Gd t q) (h : tgHalts t q = false) (ho : tgOver t q = false) : Gd t (tgStep t q) := by
  obtain ⟨h1,h2⟩ := tgHead hv hg h
  have hlt : (q.headD 0).toNat < t.wo.length := by omega
  have hout : tgOut t q = q ++ t.wo[(q.headD 0).toNat] := by unfold tgOut; rw [List.getD_eq_getElem?_getD,List.getElem?_eq_getElem hlt]; rfl
  refine ⟨fun y hy => ?_,?_⟩
  · unfold tgStep at hy
    have := List.mem_of_mem_drop hy
    rw [hout] at this
    rcases List.mem_append.1 this with hy | hy
    · exact hg.wd y hy
    · exact (vTag_w hv (List.getElem_mem hlt)).2 y hy
  · unfold tgOver at ho
    unfold tgStep
    simp at ho
    rw [List.length_drop]
    omega
section
variable {α : Type} {f : α → α} {h o : α → Bool} {x : α} {k : Nat}
end
section
variable {α : Type} [DecidableEq α] {f : α → α} {h o : α → Bool} {x y : α} {k p l : Nat}
end
end Go.Proofs.YtjmlbmmbionmcaaDoor
end
section
set_option linter.unusedVariables false
set_option linter.unusedSimpArgs false
set_option maxRecDepth 100000
set_option maxHeartbeats 4000000
namespace Go.Proofs.YtjmlbmmbionmcaaDoor
open Go Foot
theorem tgWord_gd {t : Tg} {q : List Int} (h : tgWord t.wo.length q = true) : Gd t q := by
  unfold tgWord inAll at h
  simp only [Bool.and_eq_true,List.all_eq_true,decide_eq_true_eq] at h
  exact ⟨fun y hy => by have := h.1 y hy; omega,h.2⟩
end Go.Proofs.YtjmlbmmbionmcaaDoor
end
section
set_option linter.unusedVariables false
set_option linter.unusedSimpArgs false
set_option maxRecDepth 100000
set_option maxHeartbeats 4000000
namespace Go.Proofs.YtjmlbmmbionmcaaDoor
open Go Foot
theorem preB46 {p : Prop} (h : p := by first | with_reducible assumption | omega | (simp only [List.length_append,List.length_cons,List.length_nil,List.length_set,List.length_replicate,List.length_take,List.length_drop,List.length_tail,List.length_dropLast,List.length_reverse] at *; omega) | exact mem_len (by assumption) (by omega) | (with_reducible refine Int.le_trans (Int.ofNat_le.2 (trimR_len _)) ?_; simp only [List.length_cons,List.length_tail]; omega) | (exact (ruAt_ok (by assumption) (by assumption) (by assumption)).2.1) | (exact (ruAt_ok (by assumption) (by assumption) (by assumption)).2.1) | (have := vMach_bd (by assumption); omega) | (simp only [mC_ch,mC_tu]; omega) | (have := vTag_bd (by assumption); omega) | (have := (‹Gd _ _›).le; omega) | (exact tgHalts_no (by assumption)) | (exact tgHead (by assumption) (by assumption) (by assumption)) | (exact Int.le_trans (tgStep_gd (by assumption) (by assumption) (by assumption) (by assumption)).le (by decide)) | (with_reducible refine Int.le_trans (Int.ofNat_le.2 (pushL_len _ _)) ?_; simp only [List.length_dropLast]; omega) | exact (ask_ok (by assumption)).1 | exact (ask_ok (by assumption)).2.1 | exact (ask_ok (by assumption)).2.2.1 | exact (ask_ok (by assumption)).2.2.2 | trivial) : p := h
theorem isTagWord_ok (l : List Int) (n : Int) (hx : (l.length : Int) ≤ 16777216) (h1 : -1000 ≤ n) (h2 : n ≤ 16777216) : Does Tryd.prog 47 [.one (shI l),.one (int n)] [] (.one (boo (tgWord n l))) [] := by
  refine does_of (k := 0) Tryd.func47 rfl Tryd.ntmps47 rfl rfl fun w F0 S0 ρ0 => ?_
  dsimp only [argT,argH]
  repeat' first|(apply p3;(first|exact pu1|exact puN|exact puC);exact rfl)|refine cd ?_|refine o_no rfl rfl rfl rfl ?_|(apply py3;exact rfl;exact rfl;(first|exact pu1|exact a_sub rfl rfl (by omega) (by omega));exact rfl;exact rfl)|(apply cy4 0;exact rfl;exact rfl;exact callK1 (θ := []) (hD := (allWithin_ok _ _ _ preB46));exact rfl;exact rfl;exact rfl;exact rfl;refine dM ?_)|((refine o_gs rfl rfl (fun hc => ?_) (fun hc => ?_)) <;> (try simp only [dcB] at hc) <;> (try first|contradiction|(exfalso;omega)))
  · repeat refine cr ?_
    refine ends_id ?_
    refine endK [] (h2 := ?_) (h3 := ?_) (nd := ?_)
    all_goals (repeat' first|exact ce0|refine ce ?_|refine ce2 ?_ ?_|exact SVLe.refl|refine ceb ?_)
    all_goals first | exact (show nodupB _ = true from rfl) | exact Or.inr rfl | ((unfold tgWord; simp_all))
  · repeat refine cr ?_
    refine ends_id ?_
    refine endK [] (h2 := ?_) (h3 := ?_) (nd := ?_)
    all_goals (repeat' first|exact ce0|refine ce ?_|refine ce2 ?_ ?_|exact SVLe.refl|refine ceb ?_)
    all_goals first | exact (show nodupB _ = true from rfl) | exact Or.inr rfl | ((unfold tgWord; simp_all))
theorem wordsOk1_ok (l : List Int) (n : Int) (hx : (l.length : Int) ≤ 16777216) (h1 : -1000 ≤ n) (h2 : n ≤ 16777216) : Does Tryd.prog 66 [.one (shI l),.one (.d (.bx false [.sc (.int .i64 n)]))] [] (.one (boo (!tgWord n l))) [] := by
  refine does_of (k := 0) Tryd.func66 rfl Tryd.ntmps66 rfl rfl fun w F0 S0 ρ0 => ?_
  dsimp only [argT,argH]
  repeat' first|(apply p3;(exact pu1);exact rfl)|refine cd ?_|(apply c4 0;exact callK1 (θ := []) (hD := (isTagWord_ok _ _ preB46 preB46 preB46));exact rfl;exact rfl;exact rfl;refine dM ?_)
  repeat refine cr ?_
  refine ends_id ?_
  refine endK [] (h2 := ?_) (h3 := ?_) (nd := ?_)
  all_goals (repeat' first|exact ce0|refine ce ?_|refine ce2 ?_ ?_|exact SVLe.refl|refine ceb ?_)
  all_goals first | exact (show nodupB _ = true from rfl) | exact Or.inr rfl | (rfl)
theorem hasWT_ok (xs : List (List Int)) (n : Int) (hx : (xs.length : Int) ≤ 16777216) (hxs : ∀ x ∈ xs,(x.length : Int) ≤ 16777216) (h1 : -1000 ≤ n) (h2 : n ≤ 16777216) : Does Tryd.prog 65 [.one (shW xs),.one (.d (.fn (.func 66) [.bx false [.sc (.int .i64 n)]]))] [] (.one (boo (xs.any fun w => !tgWord n w))) [] := hasWd_ok xs _ (.bx false [.sc (.int .i64 n)]) (fun w => !tgWord n w) hx hxs (fQ rfl) fun r hr => wordsOk1_ok r n hr h1 h2
theorem wordsOk_ok (xs : List (List Int)) (n : Int) (hx : (xs.length : Int) ≤ 16777216) (hxs : ∀ x ∈ xs,(x.length : Int) ≤ 16777216) (h1 : -1000 ≤ n) (h2 : n ≤ 16777216) : Does Tryd.prog 59 [.one (shW xs),.one (int n)] [] (.one (boo (xs.all (tgWord n)))) [] := by
  refine does_of (k := 0) Tryd.func59 rfl Tryd.ntmps59 rfl rfl fun w F0 S0 ρ0 => ?_
  dsimp only [argT,argH]
  repeat' first|(apply n3;exact a_new (gb := .bx _) rfl;exact rfl;refine dA ?_)|(apply p3;exact pu1;exact rfl)|refine cd ?_|(apply c4 0;exact callK1 (θ := []) (hD := (hasWT_ok _ _ preB46 preB46 preB46 preB46));exact rfl;exact rfl;exact rfl;refine dM ?_)
  repeat refine cr ?_
  refine ends_id ?_
  refine endK [] (h2 := ?_) (h3 := ?_) (nd := ?_)
  all_goals (repeat' first|exact ce0|refine ce ?_|refine ce2 ?_ ?_|exact SVLe.refl|refine ceb ?_)
  all_goals first | exact (show nodupB _ = true from rfl) | exact Or.inr rfl | (exact not_any_not _ _)
theorem ValidTag_ok (t : Tg) (hx : (t.ha.length : Int) ≤ 16777216) (hy : (t.wo.length : Int) ≤ 16777216) (hys : ∀ x ∈ t.wo,(x.length : Int) ≤ 16777216) : Does Tryd.prog 46 [.agg (tgC t)] [] (.one (boo (vTag t))) [] := by
  refine does_of (k := 0) Tryd.func46 rfl Tryd.ntmps46 rfl rfl fun w F0 S0 ρ0 => ?_
  dsimp only [argT,argH]
  repeat' first|(apply n3;exact a_new (gb := .bx _) rfl;exact rfl;refine dA ?_)|(apply p3;(exact pu1);exact rfl)|refine cd ?_|(apply c4 0;exact callK1 (θ := []) (hD := (sizeW_ok _ preB46));exact rfl;exact rfl;exact rfl;refine dM ?_)|(apply c4 0;exact callK1 (θ := []) (hD := (within_ok _ _ _));exact rfl;exact rfl;exact rfl;refine dM ?_)|refine o_no rfl rfl rfl rfl ?_|(apply py3;exact rfl;exact rfl;(first|exact pu1|exact a_sub rfl rfl (by omega) (by omega));exact rfl;exact rfl)|(apply cy4 0;exact rfl;exact rfl;exact callK1 (θ := []) (hD := (within_ok _ _ _));exact rfl;exact rfl;exact rfl;exact rfl;refine dM ?_)|(apply cy4 0;exact rfl;exact rfl;exact callK1 (θ := []) (hD := (wordsOk_ok _ _ preB46 preB46 preB46 preB46));exact rfl;exact rfl;exact rfl;exact rfl;refine dM ?_)|(apply cy4 0;exact rfl;exact rfl;exact callK1 (θ := []) (hD := (rising_ok _ preB46));exact rfl;exact rfl;exact rfl;exact rfl;refine dM ?_)|(apply cy4 0;exact rfl;exact rfl;exact callK1 (θ := []) (hD := (allWithin_ok _ _ _ preB46));exact rfl;exact rfl;exact rfl;exact rfl;refine dM ?_)|((refine o_gs rfl rfl (fun hc => ?_) (fun hc => ?_)) <;> (try simp only [dcB] at hc) <;> (try first|contradiction|(exfalso;omega)))
  all_goals
    repeat refine cr ?_
    refine ends_id ?_
    refine endK [] (h2 := ?_) (h3 := ?_) (nd := ?_)
    all_goals (repeat' first|exact ce0|refine ce ?_|refine ce2 ?_ ?_|exact SVLe.refl|refine ceb ?_)
    all_goals first | exact (show nodupB _ = true from rfl) | exact Or.inr rfl | ((unfold vTag; first | (rw [decide_eq_false hc]; simp; done) | (simp_all; done)))
theorem tagCode_ok (t : Tg) (l : List Int) (hl : (l.length : Int) ≤ 16777216) (hx : (t.ha.length : Int) ≤ 16777216) (hy : (t.wo.length : Int) ≤ 16777216) (hys : ∀ x ∈ t.wo,(x.length : Int) ≤ 16777216) : Does Tryd.prog 27 [.agg (tgC t),.one (shI l)] [] (.one (int (bif vTag t && tgWord t.wo.length l then 0 else 1))) [] := by
  refine does_of (k := 0) Tryd.func27 rfl Tryd.ntmps27 rfl rfl fun w F0 S0 ρ0 => ?_
  dsimp only [argT,argH]
  repeat' first|(apply n3;exact a_new (gb := .bx _) rfl;exact rfl;refine dA ?_)|(apply p3;(exact pu1);exact rfl)|refine cd ?_|(apply c4 0;exact callK1 (θ := []) (hD := (ValidTag_ok _ preB46 preB46 preB46));exact rfl;exact rfl;exact rfl;refine dM ?_)|refine o_no rfl rfl rfl rfl ?_|(apply py3;exact rfl;exact rfl;(exact pu1);exact rfl;exact rfl)|(apply cy4 0;exact rfl;exact rfl;exact callK1 (θ := []) (hD := (sizeW_ok _ preB46));exact rfl;exact rfl;exact rfl;exact rfl;refine dM ?_)|(apply cy4 0;exact rfl;exact rfl;exact callK1 (θ := []) (hD := (isTagWord_ok _ _ preB46 preB46 preB46));exact rfl;exact rfl;exact rfl;exact rfl;refine dM ?_)|((first|refine o_gs rfl rfl (fun hc => ?_) (fun hc => ?_)|refine g_cond rfl (fun hc => ?_) (fun hc => ?_)) <;> (try simp only [dcB] at hc) <;> (try first|contradiction|(exfalso;omega)))
  all_goals
    repeat refine cr ?_
    refine ends_id ?_
    refine endK [] (h2 := ?_) (h3 := ?_) (nd := ?_)
    all_goals (repeat' first|exact ce0|refine ce ?_|refine ce2 ?_ ?_|exact SVLe.refl|refine ceb ?_)
    all_goals first | exact (show nodupB _ = true from rfl) | exact Or.inr rfl | (simp_all)
theorem vTag_r {t : Tg} (h : vTag t = true) : risesL t.ha = true := by
  unfold vTag at h
  simp only [Bool.and_eq_true] at h
  exact h.1.2.1
end Go.Proofs.YtjmlbmmbionmcaaDoor
end
section
set_option linter.unusedVariables false
set_option linter.unusedSimpArgs false
set_option maxRecDepth 100000
set_option maxHeartbeats 4000000
namespace Go.Proofs.YtjmlbmmbionmcaaDoor
open Go Foot
end Go.Proofs.YtjmlbmmbionmcaaDoor
end
section
set_option linter.unusedVariables false
set_option linter.unusedSimpArgs false
set_option maxRecDepth 100000
namespace Go.Proofs.YtjmlbmmbionmcaaDoor
open Go Foot Go.Shelf Go.RowKit
end Go.Proofs.YtjmlbmmbionmcaaDoor
end
