/- Parts of the proof (11 of 18). -/
import Derived.Laws.Concat
import Derived.Laws.Cover1
import Derived.Laws.DeepStrings4
import Derived.Laws.IdiomStrings
import Derived.Laws.Runes
import Derived.Laws.Strings2
import Derived.Laws.Strings3
import Derived.Test.YtjmlbmmbionmcaaDoorQ10
section
set_option linter.unusedVariables false
set_option linter.unusedSimpArgs false
set_option maxRecDepth 100000
namespace Go.Proofs.YtjmlbmmbionmcaaDoor
open Go Foot
abbrev Bs := List UInt8
abbrev sv (l : Bs) : Value := .string ⟨l.toArray⟩
abbrev str (l : Bs) : C := .d (.sc (sv l))
abbrev u8 (n : Int) : C := .d (.sc (.int .u8 n))
abbrev eY : Enc Int := ⟨1,fun n => [.sc (.int .u8 n)],fun _ => rfl,by decide⟩
abbrev eS : Enc Bs := ⟨1,fun b => [.sc (sv b)],fun _ => rfl,by decide⟩
abbrev shS (l : List Bs) : C := .d (.sl false 1 (rows eS l))
theorem wrap8 {n : Int} (h1 : 0 ≤ n) (h2 : n < 256) : IntKind.u8.wrap n = n := by
  simp [IntKind.wrap,IntKind.bits,IntKind.signed]
  omega
theorem toL (l : Bs) : (ByteArray.mk l.toArray).toList = l := ByteArray.toList_mk l
theorem beq_dec (a b : Bs) : (a == b) = decide (a = b) := by cases h : decide (a = b) <;> simp_all
theorem sz_str (l : Bs) : (ByteArray.mk l.toArray).size = l.length := by simp [ByteArray.size]
theorem noOwnY (l : List Int) : D.noOwn.all (rows eY l) := noOwn_rows fun _ => ⟨trivial,trivial⟩
@[irreducible] def byt (l : List Int) : Bs := l.map fun n => UInt8.ofNat n.toNat
theorem reps_Y {w : World} {S F : Foot} : ∀ {l : List Int} {us : List Value},Reps w S (rows eY l) us F → us = l.map (Value.int .u8)
  | [],us,h => by simpa [rows,Reps] using h
  | n :: l,us,h => by
    have e : rows eY (n :: l) = .sc (.int .u8 n) :: rows eY l := rfl
    rw [e] at h
    simp only [Reps] at h
    obtain ⟨v,us',F1,F2,rfl,_,_,_,h1,h2⟩ := h
    simp only [Rep] at h1
    rw [h1.1,reps_Y h2,List.map_cons]
theorem fold_push : ∀ (l : List Int) (r : ByteArray),l.foldl (fun r n => r.push (UInt8.ofNat n.toNat)) r = ⟨r.data ++ (l.map fun n => UInt8.ofNat n.toNat).toArray⟩
  | [],r => by simp
  | b :: l,r => by
    simp only [List.foldl_cons,List.map_cons]
    rw [fold_push l]
    simp [ByteArray.push]
section
variable {P : Program} {g : Gh} {st : St}
variable {dst : Option Tmp} {ty : TypeId} {pos : String} {after : Array Edge} {guard : Option (Nat × Bool)} {x y : Operand} {T U e : TypeId} {a b : Bs} {m n : Int}
theorem a_addS (e1 : opd st x = .one (str a)) (e2 : opd st y = .one (str b)) (h : (a.length : Int) + b.length ≤ 9223372036854775807) : Acts P g ⟨dst,.binOp .add T x y U,ty,pos,after,guard⟩ st (.one (str (a ++ b))) [] [] := by
  have := a_bin (P := P) (g := g) (dst := dst) (T := T) (U := U) (ty := ty) (pos := pos) (after := after) (guard := guard) (op := .add) e1 e2 rfl (show (ByteArray.mk a.toArray).size + (ByteArray.mk b.toArray).size ≤ 9223372036854775807 by rw [sz_str,sz_str]; omega)
  rwa [ByteArray.mk_append_mk] at this
theorem a_neT (e1 : opd st x = .one (str a)) (e2 : opd st y = .one (str b)) : Acts P g ⟨dst,.binOp .neq T x y U,ty,pos,after,guard⟩ st (.one (boo (!decide (a = b)))) [] [] := by
  have := a_bin (P := P) (g := g) (dst := dst) (T := T) (U := U) (ty := ty) (pos := pos) (after := after) (guard := guard) (op := .neq) e1 e2 rfl trivial
  rw [toL,toL] at this
  rwa [beq_dec] at this
theorem a_to8 {k : IntKind} (e1 : opd st x = .one (.d (.sc (.int k m)))) (hT : P.underlying T = some (.int k)) (hU : P.underlying U = some (.int .u8)) (h1 : 0 ≤ m) (h2 : m < 256) : Acts P g ⟨dst,.convert T U x,ty,pos,after,guard⟩ st (.one (u8 m)) [] [] := by
  have := a_conv (P := P) (g := g) (dst := dst) (T := T) (U := U) (ty := ty) (pos := pos) (after := after) (guard := guard) e1 (by rw [hT]; rfl) hU
  rwa [wrap8 h1 h2] at this
theorem a_quoT (e1 : opd st x = .one (int m)) (e2 : opd st y = .one (int n)) (h1 : -9223372036854775808 < m) (h2 : m < 9223372036854775808) (h3 : 0 < n) : Acts P g ⟨dst,.binOp .quo T x y U,ty,pos,after,guard⟩ st (.one (int (m.tdiv n))) [] [] := by
  have := a_bin (P := P) (g := g) (dst := dst) (T := T) (U := U) (ty := ty) (pos := pos) (after := after) (guard := guard) (op := .quo) e1 e2 rfl (show n ≠ 0 by omega)
  have e := Int.natAbs_tdiv m n
  have e3 : m.natAbs.div n.natAbs ≤ m.natAbs := Nat.div_le_self _ _
  rwa [wrap64 (by omega) (by omega)] at this
theorem a_remT (e1 : opd st x = .one (int m)) (e2 : opd st y = .one (int n)) (h3 : 0 < n) : Acts P g ⟨dst,.binOp .rem T x y U,ty,pos,after,guard⟩ st (.one (int (m.tmod n))) [] [] :=
  a_bin (P := P) (g := g) (dst := dst) (T := T) (U := U) (ty := ty) (pos := pos) (after := after) (guard := guard) (op := .rem) e1 e2 rfl (show n ≠ 0 by omega)
theorem a_ld_rowY {i k : Nat} {c0 : C} {l : List Int} (hc : opd st x = .one c0) (ht : tgt st c0 = some (i,k)) (hg : lkG st.h i = .row 1 (rows eY l)) (hT : cellB P T = true) (hk : k < l.length) : Acts P g ⟨dst,.load T x,ty,pos,after,guard⟩ st (.one (u8 (l[k]'hk))) [] [] := by
  refine a_ld_row (c := .sc (.int .u8 (l[k]'hk))) hc ht hg hT ?_ trivial
  have := rows_nth (E := eY) (o := 0) hk (by decide)
  simpa using this
theorem a_toStr {l : List Int} {c : C} (hc : opd st x = .one c) (hs : slv st c = some (1,rows eY l)) (hT : P.underlying T = some (.slice e)) (he : P.underlying e = some (.int .u8)) (hU : P.underlying U = some .string) : Acts P g ⟨dst,.convert T U x,ty,pos,after,guard⟩ st (.one (str (byt l))) [] [] := by
  refine acts_of fun a w S ρ F h => ⟨sv (byt l),?_,⟨rfl,rfl⟩⟩
  obtain ⟨ad,len,cap,us,e1,e2,_,_,e3,e4⟩ := rel_src h (opd_one h hc) hs (noOwnY l)
  have hus := reps_Y e4
  have hlen : l.length = len := by rw [rows_len] at e2; simpa using e2
  show (do pure (.value (← convert T U (a.eval x))) : Sem Next).run P w = _
  rw [e1]
  have key : (convert T U (.slice ad len cap)).run P w = .ok (sv (byt l)) w := by
    rw [run_convert_bytes_string w T U e ad len cap hT he hU]
    have hb : sv (byt l) = .string (l.foldl (fun r n => r.push (UInt8.ofNat n.toNat)) ByteArray.empty) := by
      rw [fold_push]
      have he0 : ByteArray.empty.data = #[] := rfl
      rw [he0]
      unfold byt
      simp
    cases ad with
    | none =>
      rcases e3 with rfl | ⟨b,off,e5,_⟩
      · have : l = [] := List.eq_nil_of_length_eq_zero hlen
        subst this
        rw [hb]
        rfl
      · cases e5
    | some ad =>
      rw [hb]
      refine run_bytesToString w ad len cap l ?_
      have hl := run_loadCells_list (P := P) w ad (l.map (Value.int .u8)) (fun j v hj => by
        rcases e3 with rfl | ⟨b,off,e5,e6⟩
        · have : l = [] := List.eq_nil_of_length_eq_zero hlen
          subst this
          simp at hj
        · cases e5
          rw [hus] at e6
          have e7 : (⟨b,off,none⟩ : Addr).add j = ⟨b,off + j,none⟩ := by cases j <;> rfl
          rw [e7]
          exact e6 j v hj)
      rw [List.length_map,hlen] at hl
      exact hl
  simp [key]
end
end Go.Proofs.YtjmlbmmbionmcaaDoor
end
section
set_option linter.unusedVariables false
set_option linter.unusedSimpArgs false
set_option maxRecDepth 100000
set_option maxHeartbeats 4000000
namespace Go.Proofs.YtjmlbmmbionmcaaDoor
open Go Foot
theorem preA6 {p : Prop} (h : p := by first | with_reducible assumption | omega | (simp only [List.length_append,List.length_cons,List.length_nil,List.length_set,List.length_replicate,List.length_take,List.length_drop,List.length_tail,List.length_dropLast,List.length_reverse] at *; omega) | exact mem_len (by assumption) (by omega) | trivial) : p := h
theorem l00Own_ok (xs : List Int) (hx : (xs.length : Int) ≤ 16777216) : Does Tryd.prog 44 [.one (shI xs)] [] (.one (.gv 0)) [.row 1 (rows eI xs)] := by
  refine does_of (k := 0) Tryd.func44 rfl Tryd.ntmps44 rfl rfl fun w F0 S0 ρ0 => ?_
  dsimp only [argT,argH]
  repeat' first|(apply n3;exact a_nilO eI rfl;exact rfl)|(apply n3;(exact a_litE eI [] rfl rfl rfl rfl rfl rfl rfl rfl);exact rfl;refine dA ?_)|(apply p3;exact pu1;exact rfl)|refine cd ?_|(apply s3;exact a_appE (fP rfl) rfl rfl rfl rfl nowR (by (simp;omega)) (by decide) (by decide) (by exact rfl);exact rfl;exact rfl)
  repeat refine cr ?_
  refine ends_id ?_
  refine endK [?_] (h2 := ?_) (h3 := ?_) (nd := ?_)
  rotate_left 1
  all_goals (repeat' first|exact ce0|refine ce ?_|refine ce2 ?_ ?_|(refine Or.inr (bx_eq rfl rfl ?_);(try dsimp only [C.ren,C.ren.all]);(try exact rfl))|exact SVLe.refl|refine ceb ?_)
  all_goals first | exact (show nodupB _ = true from rfl) | exact Or.inr rfl | (rfl)
theorem all_snoc {α : Type} (p : α → Bool) (l : List α) (n : Nat) (h : n < l.length) : (l.take (n + 1)).all p = ((l.take n).all p && p l[n]) := by
  rw [List.take_succ_eq_append_getElem h,List.all_append]; simp
theorem all_snocI {α : Type} (p : α → Bool) (l : List α) (i : Int) (h0 : 0 ≤ i) (h : i < l.length) (h1 : (l.take i.toNat).all p = true) (h2 : p (l[i.toNat]'(by omega)) = true) : (l.take (i + 1).toNat).all p = true := by
  rw [show (i + 1).toNat = i.toNat + 1 by omega,all_snoc p l _ (by omega),h1,h2]; rfl
theorem all_no {α : Type} (p : α → Bool) (l : List α) (n : Nat) (h : n < l.length) (h2 : ¬ p l[n] = true) : l.all p = false := by
  rw [List.all_eq_false]
  exact ⟨l[n],List.getElem_mem h,by simpa using h2⟩
theorem sizeI_ok (xs : List Int) (hx : (xs.length : Int) ≤ 16777216) : Does Tryd.prog 48 [.one (shI xs)] [] (.one (int xs.length)) [] := by
  refine does_of (k := 0) Tryd.func48 rfl Tryd.ntmps48 rfl rfl fun w F0 S0 ρ0 => ?_
  dsimp only [argT,argH]
  repeat' first|(apply p3;(first|exact pu1|exact puN);exact rfl)|refine cd ?_
  repeat refine cr ?_
  refine ends_id ?_
  refine endK [] (h2 := ?_) (h3 := ?_) (nd := ?_)
  all_goals (repeat' first|exact ce0|refine ce ?_|refine ce2 ?_ ?_|exact SVLe.refl|refine ceb ?_)
  all_goals first | exact (show nodupB _ = true from rfl) | exact Or.inr rfl | (rfl)
@[irreducible] def idxF {α : Type} (p : α → Bool) (l : List α) : Int := match l.findIdx? p with | some i => i | none => -1
theorem idxF_stop {α : Type} (p : α → Bool) (l : List α) (i : Int) (h0 : 0 ≤ i) (h : i < l.length) (h1 : (l.take i.toNat).all (fun x => !p x) = true) (h2 : p (l[i.toNat]'(by omega)) = true) : idxF p l = i := by
  have : l.findIdx? p = some i.toNat := by
    rw [List.findIdx?_eq_some_iff_getElem]
    refine ⟨by omega,h2,fun j hj => ?_⟩
    rw [List.all_eq_true] at h1
    have := h1 (l[j]'(by omega)) (by rw [List.mem_take_iff_getElem]; exact ⟨j,by omega,rfl⟩)
    simpa using this
  unfold idxF
  rw [this]
  simp only
  omega
theorem idxF_none {α : Type} (p : α → Bool) (l : List α) (h1 : l.all (fun x => !p x) = true) : idxF p l = -1 := by
  have : l.findIdx? p = none := by
    rw [List.findIdx?_eq_none_iff]
    rw [List.all_eq_true] at h1
    intro x hx
    simpa using h1 x hx
  unfold idxF
  rw [this]
theorem idxF_any {α : Type} (p : α → Bool) (l : List α) : decide (0 ≤ idxF p l) = l.any p := by
  unfold idxF
  cases h : l.findIdx? p with
  | none =>
    rw [List.findIdx?_eq_none_iff] at h
    have : l.any p = false := by rw [List.any_eq_false]; intro x hx; simp [h x hx]
    rw [this]; rfl
  | some i =>
    obtain ⟨h1,h2,_⟩ := List.findIdx?_eq_some_iff_getElem.1 h
    have : l.any p = true := by rw [List.any_eq_true]; exact ⟨l[i],List.getElem_mem h1,h2⟩
    rw [this]
    simp
theorem not_any_not {α : Type} (p : α → Bool) (l : List α) : (!l.any fun x => !p x) = l.all p := by
  induction l with
  | nil => rfl
  | cons a l ih => simp only [List.any_cons,List.all_cons,Bool.not_or,Bool.not_not,ih]
@[irreducible] def inAll (lo hi : Int) (l : List Int) : Bool := l.all (fun x => decide (lo ≤ x ∧ x ≤ hi))
theorem allWithin_ok (xs : List Int) (lo hi : Int) (hx : (xs.length : Int) ≤ 16777216) : Does Tryd.prog 61 [.one (shI xs),.one (int lo),.one (int hi)] [] (.one (boo (inAll lo hi xs))) [] := by
  refine does_of (k := 0) Tryd.func61 rfl Tryd.ntmps61 rfl rfl fun w F0 S0 ρ0 => ?_
  dsimp only [argT,argH]
  repeat' first|(apply p3;(first|exact pu1|exact puN);exact rfl)|refine cd ?_
  refine g_loop_id ?_
  refine loopK [1,2,6,9,10] [] (fun i : Int => 0 ≤ i ∧ i ≤ xs.length ∧ (xs.take i.toNat).all (fun x => decide (lo ≤ x ∧ x ≤ hi)) = true) (fun i => [(11,.one (int i))]) (fun _ => []) (fun i => (xs.length - i).toNat) (0 : Int) [] (hI := ?_) (hr := ?_)
  · exact ⟨by omega,by omega,rfl⟩
  · rintro i ⟨h0,h1,h2⟩
    dsimp only [List.cons_append,List.nil_append] at *
    skip
    repeat' first|(apply p3;(first|exact pu1|exact puC|exact a_add rfl rfl (by omega) (by omega)|exact puI);exact rfl)|refine cd ?_|(apply c4 0;exact callK1 (θ := []) (hD := (within_ok _ _ _));exact rfl;exact rfl;exact rfl;refine dM ?_)|((refine g_cond rfl (fun hc => ?_) (fun hc => ?_)) <;> (try simp only [dcB] at hc) <;> (try first|contradiction|(exfalso;omega)))
    · repeat refine cr ?_
      refine ends_id ?_
      refine endK [] (h2 := ?_) (h3 := ?_) (nd := ?_)
      all_goals (repeat' first|exact ce0|refine ce ?_|refine ce2 ?_ ?_|exact SVLe.refl|refine ceb ?_)
      all_goals first | exact (show nodupB _ = true from rfl) | exact Or.inr rfl | ((unfold inAll; rw [all_no _ _ i.toNat (by omega) (by rw [decide_eq_true_eq]; exact hc)]))
    · refine q_again (i + 1) [] (by exact stk) ?_ ?_
      · exact ⟨by omega,by omega,all_snocI _ _ _ h0 (by omega) h2 (by rw [decide_eq_true_eq]; exact hc)⟩
      · omega
    · repeat refine cr ?_
      refine ends_id ?_
      refine endK [] (h2 := ?_) (h3 := ?_) (nd := ?_)
      all_goals (repeat' first|exact ce0|refine ce ?_|refine ce2 ?_ ?_|exact SVLe.refl|refine ceb ?_)
      all_goals first | exact (show nodupB _ = true from rfl) | exact Or.inr rfl | ((unfold inAll; rw [List.take_of_length_le (by omega)] at h2; exact h2.symm))
theorem clone_ok (xs : List Int) (hx : (xs.length : Int) ≤ 16777216) : Does Tryd.prog 50 [.one (shI xs)] [] (.one (.gv 0)) [.row 1 (rows eI xs)] := by
  refine does_of (k := 0) Tryd.func50 rfl Tryd.ntmps50 rfl rfl fun w F0 S0 ρ0 => ?_
  dsimp only [argT,argH]
  repeat' first|(apply n3;exact a_nilO eI rfl;exact rfl)|(apply n3;(exact a_litE eI [] rfl rfl rfl rfl rfl rfl rfl rfl);exact rfl;refine dA ?_)|(apply p3;(exact pu1);exact rfl)|refine cd ?_|(apply s3;exact a_appE (fP rfl) rfl rfl rfl rfl nowR (by (simp;omega)) (by decide) (by decide) (by exact rfl);exact rfl;exact rfl)|(apply o_isnil;exact rfl;exact rfl;exact (fE rfl);exact rfl;exact rfl;intro b hnil)|((refine g_cond rfl (fun hc => ?_) (fun hc => ?_)) <;> (try simp only [dcB] at hc) <;> (try first|contradiction|(exfalso;omega)))
  · repeat refine cr ?_
    refine ends_id ?_
    refine endK [?_] (h2 := ?_) (h3 := ?_) (nd := ?_)
    rotate_left 1
    all_goals (repeat' first|exact ce0|refine ce ?_|refine ce2 ?_ ?_|(refine Or.inr (bx_eq rfl rfl ?_);(try dsimp only [C.ren,C.ren.all]);(try exact rfl))|exact SVLe.refl|refine ceb ?_)
    all_goals first | exact (show nodupB _ = true from rfl) | exact Or.inr rfl | (exact (hnil hc).symm)
  · repeat refine cr ?_
    refine ends_id ?_
    refine endK [?_] (h2 := ?_) (h3 := ?_) (nd := ?_)
    rotate_left 1
    all_goals (repeat' first|exact ce0|refine ce ?_|refine ce2 ?_ ?_|(refine Or.inr (bx_eq rfl rfl ?_);(try dsimp only [C.ren,C.ren.all]);(try exact rfl))|exact SVLe.refl|refine ceb ?_)
    all_goals first | exact (show nodupB _ = true from rfl) | exact Or.inr rfl | (rfl)
theorem idxWd_ok (xs : List (List Int)) (k : Nat) (d : D) (p : List Int → Bool) (hx : (xs.length : Int) ≤ 16777216) (hxs : ∀ x ∈ xs,(x.length : Int) ≤ 16777216) (hE : entB Tryd.prog k = true) (hp : ∀ r,(r.length : Int) ≤ 16777216 → Does Tryd.prog k [.one (shI r),.one (.d d)] [] (.one (boo (p r))) []) : Does Tryd.prog 71 [.one (shW xs),.one (.d (.fn (.func k) [d]))] [] (.one (int (idxF p xs))) [] := by
  refine does_of (k := 0) Tryd.func71 rfl Tryd.ntmps71 rfl rfl fun w F0 S0 ρ0 => ?_
  dsimp only [argT,argH]
  repeat' first|(apply p3;(first|exact pu1|exact puN);exact rfl)|refine cd ?_
  refine g_loop_id ?_
  refine loopK [0,1,4,7] [] (fun i : Int => 0 ≤ i ∧ i ≤ xs.length ∧ (xs.take i.toNat).all (fun x => !p x) = true) (fun i => [(8,.one (int i))]) (fun _ => []) (fun i => (xs.length - i).toNat) (0 : Int) [] (hI := ?_) (hr := ?_)
  · exact ⟨by omega,by omega,rfl⟩
  · rintro i ⟨h0,h1,h2⟩
    dsimp only [List.cons_append,List.nil_append] at *
    skip
    repeat' first|(apply p3;(first|exact pu1|exact puC|exact a_add rfl rfl (by omega) (by omega)|exact puI);exact rfl)|refine cd ?_|(apply c4 0;exact callK0 (θ := []) (hE := hE) (hD := (hp _ preA6));exact rfl;exact rfl;exact rfl;refine dM ?_)|((refine g_cond rfl (fun hc => ?_) (fun hc => ?_)) <;> (try simp only [dcB] at hc) <;> (try first|contradiction|(exfalso;omega)))
    · repeat refine cr ?_
      refine ends_id ?_
      refine endK [] (h2 := ?_) (h3 := ?_) (nd := ?_)
      all_goals (repeat' first|exact ce0|refine ce ?_|refine ce2 ?_ ?_|exact SVLe.refl|refine ceb ?_)
      all_goals first | exact (show nodupB _ = true from rfl) | exact Or.inr rfl | (exact (idxF_stop p xs i h0 (by omega) h2 hc).symm)
    · refine q_again (i + 1) [] (by exact stk) ?_ ?_
      · exact ⟨by omega,by omega,all_snocI _ _ _ h0 (by omega) h2 (by simp [hc])⟩
      · omega
    · repeat refine cr ?_
      refine ends_id ?_
      refine endK [] (h2 := ?_) (h3 := ?_) (nd := ?_)
      all_goals (repeat' first|exact ce0|refine ce ?_|refine ce2 ?_ ?_|exact SVLe.refl|refine ceb ?_)
      all_goals first | exact (show nodupB _ = true from rfl) | exact Or.inr rfl | ((rw [List.take_of_length_le (by omega)] at h2; exact (idxF_none p xs h2).symm))
theorem hasWd_ok (xs : List (List Int)) (k : Nat) (d : D) (p : List Int → Bool) (hx : (xs.length : Int) ≤ 16777216) (hxs : ∀ x ∈ xs,(x.length : Int) ≤ 16777216) (hE : entB Tryd.prog k = true) (hp : ∀ r,(r.length : Int) ≤ 16777216 → Does Tryd.prog k [.one (shI r),.one (.d d)] [] (.one (boo (p r))) []) : Does Tryd.prog 65 [.one (shW xs),.one (.d (.fn (.func k) [d]))] [] (.one (boo (xs.any p))) [] := by
  refine does_of (k := 0) Tryd.func65 rfl Tryd.ntmps65 rfl rfl fun w F0 S0 ρ0 => ?_
  dsimp only [argT,argH]
  repeat' first|(apply p3;(first|exact pu1|exact puC);exact rfl)|refine cd ?_|(apply c4 0;exact callK1 (θ := []) (hD := (idxWd_ok _ _ _ _ preA6 preA6 preA6 preA6));exact rfl;exact rfl;exact rfl;refine dM ?_)
  repeat refine cr ?_
  refine ends_id ?_
  refine endK [] (h2 := ?_) (h3 := ?_) (nd := ?_)
  all_goals (repeat' first|exact ce0|refine ce ?_|refine ce2 ?_ ?_|exact SVLe.refl|refine ceb ?_)
  all_goals first | exact (show nodupB _ = true from rfl) | exact Or.inr rfl | (exact idxF_any p xs)
theorem sizeW_ok (xs : List (List Int)) (hx : (xs.length : Int) ≤ 16777216) : Does Tryd.prog 34 [.one (shW xs)] [] (.one (int xs.length)) [] := by
  refine does_of (k := 0) Tryd.func34 rfl Tryd.ntmps34 rfl rfl fun w F0 S0 ρ0 => ?_
  dsimp only [argT,argH]
  repeat' first|(apply p3;(first|exact pu1|exact puN);exact rfl)|refine cd ?_
  repeat refine cr ?_
  refine ends_id ?_
  refine endK [] (h2 := ?_) (h3 := ?_) (nd := ?_)
  all_goals (repeat' first|exact ce0|refine ce ?_|refine ce2 ?_ ?_|exact SVLe.refl|refine ceb ?_)
  all_goals first | exact (show nodupB _ = true from rfl) | exact Or.inr rfl | (rfl)
@[irreducible] def risesL (l : List Int) : Bool := (List.range (l.length - 1)).all fun i => decide (l.getD i 0 < l.getD (i + 1) 0)
theorem rises_no {l : List Int} {i : Int} (h1 : 1 ≤ i) (h : i < l.length) (hn : l[i.toNat]'(by omega) ≤ l[(i - 1).toNat]'(by omega)) : risesL l = false := by
  unfold risesL
  rw [List.all_eq_false]
  refine ⟨(i - 1).toNat,by rw [List.mem_range]; omega,?_⟩
  simp only [decide_eq_true_eq]
  rw [← get_getD l 0 _ (by omega),show (i - 1).toNat + 1 = i.toNat by omega,← get_getD l 0 _ (by omega)]
  omega
theorem rises_yes {l : List Int} {i : Int} (hi : (l.length : Int) ≤ i) (h : ∀ k : Nat,1 ≤ k → (k : Int) < i → k < l.length → l.getD (k - 1) 0 < l.getD k 0) : risesL l = true := by
  unfold risesL
  rw [List.all_eq_true]
  intro k hk
  rw [List.mem_range] at hk
  rw [decide_eq_true_eq]
  exact h (k + 1) (by omega) (by omega) (by omega)
theorem rising_ok (l : List Int) (hx : (l.length : Int) ≤ 16777216) : Does Tryd.prog 60 [.one (shI l)] [] (.one (boo (risesL l))) [] := by
  refine does_of (k := 0) Tryd.func60 rfl Tryd.ntmps60 rfl rfl fun w F0 S0 ρ0 => ?_
  dsimp only [argT,argH]
  repeat' first|(apply p3;(exact pu1);exact rfl)|refine cd ?_
  refine g_loop_id ?_
  refine loopK [0,2] [] (fun i : Int => 1 ≤ i ∧ (i ≤ l.length ∨ i = 1) ∧ ∀ k : Nat,1 ≤ k → (k : Int) < i → k < l.length → l.getD (k - 1) 0 < l.getD k 0) (fun i => [(3,.one (int i))]) (fun _ => []) (fun i => (l.length - i).toNat) (1 : Int) [] (hI := ?_) (hr := ?_)
  · exact ⟨by omega,by omega,fun k h1 h2 => by omega⟩
  · rintro i ⟨h0,h1,h2⟩
    dsimp only [List.cons_append,List.nil_append] at *
    skip
    repeat' first|(apply p3;(first|exact pu1|exact puN|exact puC|exact a_add rfl rfl (by omega) (by omega));exact rfl)|refine cd ?_|(apply g_drN (id := 4) okM [[],[],[1],[0,1,2],[0,1,2,3],[],[],[5,6],[5,6,7],[0,1,2,3,4,5,6,7,8]] [([],[]),([],[]),([],[]),([],[]),([],[]),([],[]),([],[]),([],[]),([],[]),([],[])] 0;(focus (refine dp 0 0 [11,12,15,16,17,18] [] pu1 ?_;refine dp 1 0 [10,15,16,17,18] [] pu1 ?_;refine dp 2 1 [10,15,16,17,18] [] (a_sub rfl rfl (by omega) (by omega)) ?_;refine dp 3 7 [15,16,17,18] [] puI ?_;refine dp 4 15 [15,16,17,18] [] puL ?_;refine dp 5 0 [10,11,12,13,14,16] [] pu1 ?_;refine dp 6 0 [10,11,12,13,14,15] [] pu1 ?_;refine dp 7 3 [10,11,12,13,14] [] puI ?_;refine dp 8 7 [10,11,12,13,14] [] puL ?_;refine dp 9 511 [] [] puC ?_;(refine d_nil ?_;refine dN ?_)));any_goals kernel_rfl)|((refine g_cond rfl (fun hc => ?_) (fun hc => ?_)) <;> (try simp only [dcB] at hc) <;> (try first|contradiction|(exfalso;omega)))
    · repeat refine cr ?_
      refine ends_id ?_
      refine endK [] (h2 := ?_) (h3 := ?_) (nd := ?_)
      all_goals (repeat' first|exact ce0|refine ce ?_|refine ce2 ?_ ?_|exact SVLe.refl|refine ceb ?_)
      all_goals first | exact (show nodupB _ = true from rfl) | exact Or.inr rfl | ((rw [rises_no h0 (by omega) (by omega)]))
    · refine q_again (i + 1) [] (by exact stk) ?_ ?_
      · refine ⟨by omega,by omega,fun k k1 k2 k3 => ?_⟩
        by_cases hk : (k : Int) < i
        · exact h2 k k1 hk k3
        · have e : k = i.toNat := by omega
          subst e
          rw [show i.toNat - 1 = (i - 1).toNat by omega,← get_getD l 0 _ (by omega),← get_getD l 0 _ k3]
          omega
      · omega
    · repeat refine cr ?_
      refine ends_id ?_
      refine endK [] (h2 := ?_) (h3 := ?_) (nd := ?_)
      all_goals (repeat' first|exact ce0|refine ce ?_|refine ce2 ?_ ?_|exact SVLe.refl|refine ceb ?_)
      all_goals first | exact (show nodupB _ = true from rfl) | exact Or.inr rfl | ((rw [rises_yes (by omega) h2]))
theorem l00Rises_ok (l : List Int) (lo hi : Int) (hx : (l.length : Int) ≤ 16777216) : Does Tryd.prog 57 [.one (shI l),.one (int lo),.one (int hi)] [] (.one (boo (risesL l && inAll lo hi l))) [] := by
  refine does_of (k := 0) Tryd.func57 rfl Tryd.ntmps57 rfl rfl fun w F0 S0 ρ0 => ?_
  dsimp only [argT,argH]
  repeat' first|(apply p3;(exact pu1);exact rfl)|refine cd ?_
  refine g_loop_id ?_
  refine loopK [0,1,2,6] [] (fun i : Int => 0 ≤ i ∧ i ≤ l.length ∧ (l.take i.toNat).all (fun x => decide (lo ≤ x ∧ x ≤ hi)) = true ∧ ∀ k : Nat,1 ≤ k → (k : Int) < i → k < l.length → l.getD (k - 1) 0 < l.getD k 0) (fun i => [(7,.one (int i))]) (fun _ => []) (fun i => (l.length - i).toNat) (0 : Int) [] (hI := ?_) (hr := ?_)
  · exact ⟨by omega,by omega,rfl,fun k h1 h2 => by omega⟩
  · rintro i ⟨h0,h1,h2,h3⟩
    dsimp only [List.cons_append,List.nil_append] at *
    skip
    repeat' first|(apply p3;(first|exact pu1|exact puN|exact puC|exact a_add rfl rfl (by omega) (by omega));exact rfl)|refine cd ?_|(apply g_drN (id := 4) okM [[],[],[0,1],[0,1,2],[],[],[0,1,2,3,4,5],[0,1,2,3,4,5,6],[0,1,2,3,4,5,6,7],[0,1,2,3,4,5,6,7,8],[0,1,2,3,4,5,6,7,8,9],[0,1,2,3,4,5,6,7,8,9,10],[0,1,2,3,4,5,6,7,8,9,10,11],[0,1,2,3,4,5,6,7,8,9,10,11],[0,1,2,3,4,5,6,7,8,9,10,11,13],[0,1,2,3,4,5,6,7,8,9,10,11,12,13,14],[0,1,2,3,4,5,6,7,8,9,10,11,12,13,14,15],[0,1,2,3,4,5,6,7,8,9,10,11],[0,1,2,3,4,5,6,7,8,9,10,11],[0,1,2,3,4,5,6,7,8,9,10,11,17,18],[0,1,2,3,4,5,6,7,8,9,10,11,17,18,19],[0,1,2,3,4,5,6,7,8,9,10,11,12,13,14,15,16,17,18,19,20],[0,1,2,3,4,5,6,7,8,9,10,11,12,13,14,15,16,17,18,19,20,21],[0,1,2,3,4,5,6,7,8,9,10,11,12,13,14,15,16,17,18,19,20,21,22]] [([],[]),([],[]),([],[]),([],[]),([],[]),([],[]),([],[]),([],[]),([],[]),([],[]),([],[]),([],[]),([],[]),([],[]),([],[]),([],[]),([],[]),([],[]),([],[]),([],[]),([],[]),([],[]),([],[]),([],[])] 0;(focus (all_goals refine dp 0 0 [15,18,19] [] pu1 ?_;all_goals refine dp 1 0 [14,18,19] [] pu1 ?_;all_goals refine dp 2 3 [18,19] [] puI ?_;all_goals refine dp 3 7 [18,19] [] puL ?_;all_goals refine dp 4 0 [14,15,16,17,19] [] pu1 ?_;all_goals refine dp 5 0 [14,15,16,17,18] [] pu1 ?_;all_goals refine dp 6 63 [] [] (callD1 (n := _) 0 (θ := []) (hD := (l00In_ok _ _ _))) ?_;all_goals refine dp 7 127 [] [] (a_pure (sv := .one _) rfl) ?_;all_goals (refine db 8 255 [] [] pu1 ?_ ?_ <;> (intro hc;first|cases hc|(try simp only [dcB] at hc);first|contradiction|(exfalso;omega)|skip));all_goals (first|refine dn 9 511 [] [] ?_|refine dpy 9 511 [] [] pu1 ?_);all_goals (first|refine dn 10 1023 [] [] ?_|refine dpy 10 1023 [] [] puC ?_);all_goals (first|refine dn 11 2047 [] [] ?_|(refine dby 11 2047 [] [] pu1 ?_ ?_ <;> (intro hc;first|cases hc|(try simp only [dcB] at hc);first|contradiction|(exfalso;omega)|skip)));all_goals (first|refine dn 12 4095 [27,28,31,32,33,34] [] ?_|refine dpy 12 4095 [27,28,31,32,33,34] [] pu1 ?_);all_goals (first|refine dn 13 8190 [26,31,32,33,34] [] ?_|refine dpy 13 8190 [26,31,32,33,34] [] pu1 ?_);all_goals (first|refine dn 14 16381 [26,31,32,33,34] [] ?_|refine dpy 14 16381 [26,31,32,33,34] [] (a_sub rfl rfl (by omega) (by omega)) ?_);all_goals (first|refine dn 15 32767 [31,32,33,34] [] ?_|refine dpy 15 32767 [31,32,33,34] [] puI ?_);all_goals (first|refine dn 16 65535 [31,32,33,34] [] ?_|refine dpy 16 65535 [31,32,33,34] [] puL ?_);all_goals (first|refine dn 17 131040 [26,27,28,29,30,32] [] ?_|refine dpy 17 131040 [26,27,28,29,30,32] [] pu1 ?_);all_goals (first|refine dn 18 262080 [26,27,28,29,30,31] [] ?_|refine dpy 18 262080 [26,27,28,29,30,31] [] pu1 ?_);all_goals (first|refine dn 19 524163 [26,27,28,29,30] [] ?_|refine dpy 19 524163 [26,27,28,29,30] [] puI ?_);all_goals (first|refine dn 20 1048327 [26,27,28,29,30] [] ?_|refine dpy 20 1048327 [26,27,28,29,30] [] puL ?_);all_goals (first|refine dn 21 2097151 [] [] ?_|refine dpy 21 2097151 [] [] puC ?_);all_goals (first|refine dn 22 4194303 [] [] ?_|refine dpy 22 4194303 [] [] (a_pure (sv := .one _) rfl) ?_);all_goals refine dp 23 8388607 [] [] (a_pure (sv := .one _) rfl) ?_;all_goals (refine d_nil ?_;refine dN ?_)));any_goals kernel_rfl)|((refine g_cond rfl (fun hc => ?_) (fun hc => ?_)) <;> (try simp only [dcB] at hc) <;> (try first|contradiction|(exfalso;omega)))
    · repeat refine cr ?_
      refine ends_id ?_
      refine endK [] (h2 := ?_) (h3 := ?_) (nd := ?_)
      all_goals (repeat' first|exact ce0|refine ce ?_|refine ce2 ?_ ?_|exact SVLe.refl|refine ceb ?_)
      all_goals first | exact (show nodupB _ = true from rfl) | exact Or.inr rfl | ((rw [show inAll lo hi l = false from by unfold inAll; exact all_no _ _ i.toNat (by omega) (by rw [decide_eq_true_eq]; exact hc)]; simp))
    · repeat refine cr ?_
      refine ends_id ?_
      refine endK [] (h2 := ?_) (h3 := ?_) (nd := ?_)
      all_goals (repeat' first|exact ce0|refine ce ?_|refine ce2 ?_ ?_|exact SVLe.refl|refine ceb ?_)
      all_goals first | exact (show nodupB _ = true from rfl) | exact Or.inr rfl | ((rw [rises_no (i := i) (by omega) (by omega) hc]; rfl))
    · refine q_again (i + 1) [] (by exact stk) ?_ ?_
      · refine ⟨by omega,by omega,all_snocI _ _ _ h0 (by omega) h2 (by rw [decide_eq_true_eq]; assumption),fun k k1 k2 k3 => ?_⟩
        by_cases hk : (k : Int) < i
        · exact h3 k k1 hk k3
        · have e : k = i.toNat := by omega
          subst e
          rw [show i.toNat - 1 = (i - 1).toNat by omega,← get_getD l 0 _ (by omega),← get_getD l 0 _ k3]
          omega
      · omega
    · refine q_again (i + 1) [] (by exact stk) ?_ ?_
      · exact ⟨by omega,by omega,all_snocI _ _ _ h0 (by omega) h2 (by rw [decide_eq_true_eq]; assumption),fun k k1 k2 k3 => by omega⟩
      · omega
    · repeat refine cr ?_
      refine ends_id ?_
      refine endK [] (h2 := ?_) (h3 := ?_) (nd := ?_)
      all_goals (repeat' first|exact ce0|refine ce ?_|refine ce2 ?_ ?_|exact SVLe.refl|refine ceb ?_)
      all_goals first | exact (show nodupB _ = true from rfl) | exact Or.inr rfl | ((rw [rises_yes (by omega) h3,List.take_of_length_le (by omega)] at *; unfold inAll; rw [h2]; rfl))
end Go.Proofs.YtjmlbmmbionmcaaDoor
end
section
set_option linter.unusedVariables false
set_option linter.unusedSimpArgs false
set_option maxRecDepth 100000
set_option maxHeartbeats 4000000
namespace Go.Proofs.YtjmlbmmbionmcaaDoor
open Go Foot
structure Tg where
  de : Int
  wo : List (List Int)
  ha : List Int
abbrev tgC (t : Tg) : List C := [int t.de,shW t.wo,shI t.ha]
abbrev tgD (t : Tg) : D := .bx false [.sc (.int .i64 t.de),.sl false 1 (rows eW t.wo),.sl false 1 (rows eI t.ha)]
abbrev tgB (t : Tg) : C := .d (tgD t)
@[irreducible] def szG (t : Tg) (left : Int) : Int := if szWW t.wo left < 0 then -1 else szL t.ha.length (szWW t.wo left)
theorem szW_le : ∀ {xs : List (List Int)} {l : Int},l ≤ 1048576 → szW xs l ≤ 1048576
  | [],l,h => by unfold szW; exact h
  | x :: xs,l,h => by
    unfold szW
    split
    · omega
    · exact szW_le (szL_le h)
theorem szWW_le {xs : List (List Int)} {l : Int} (h : l ≤ 1048576) : szWW xs l ≤ 1048576 := by
  unfold szWW
  split
  · omega
  · exact szW_le (by omega)
theorem preA7 {p : Prop} (h : p := by first | with_reducible assumption | omega | (simp only [List.length_append,List.length_cons,List.length_nil,List.length_set,List.length_replicate,List.length_take,List.length_drop,List.length_tail,List.length_dropLast,List.length_reverse] at *; omega) | exact mem_len (by assumption) (by omega) | trivial) : p := h
theorem szTag_ok (t : Tg) (left : Int) (h1 : left ≤ 1048576) (h2 : 0 ≤ left) (hx : (t.ha.length : Int) ≤ 9223372036854775807) (hy : (t.wo.length : Int) ≤ 9223372036854775807) (hys : ∀ x ∈ t.wo,(x.length : Int) ≤ 9223372036854775807) : Does Tryd.prog 4 [.agg (tgC t),.one (int left)] [] (.one (int (szG t left))) [] := by
  have h3 := szWW_le (xs := t.wo) h1
  refine does_of (k := 0) Tryd.func4 rfl Tryd.ntmps4 rfl rfl fun w F0 S0 ρ0 => ?_
  dsimp only [argT,argH]
  repeat' first|(apply n3;exact a_new (gb := .bx _) rfl;exact rfl;refine dA ?_)|(apply p3;(first|exact pu1|exact puC);exact rfl)|refine cd ?_|(apply c4 0;exact callK1 (θ := []) (hD := (szInt64SS_ok _ _ preA7 preA7 preA7 preA7));exact rfl;exact rfl;exact rfl;refine dM ?_)|(apply c4 0;exact callK1 (θ := []) (hD := (szInt64S_ok _ _ preA7 preA7 preA7));exact rfl;exact rfl;exact rfl;refine dM ?_)|((refine g_cond rfl (fun hc => ?_) (fun hc => ?_)) <;> (try simp only [dcB] at hc) <;> (try first|contradiction|(exfalso;omega)))
  · repeat refine cr ?_
    refine ends_id ?_
    refine endK [] (h2 := ?_) (h3 := ?_) (nd := ?_)
    all_goals (repeat' first|exact ce0|refine ce ?_|refine ce2 ?_ ?_|exact SVLe.refl|refine ceb ?_)
    all_goals first | exact (show nodupB _ = true from rfl) | exact Or.inr rfl | ((unfold szG; simp [*]))
  · repeat refine cr ?_
    refine ends_id ?_
    refine endK [] (h2 := ?_) (h3 := ?_) (nd := ?_)
    all_goals (repeat' first|exact ce0|refine ce ?_|refine ce2 ?_ ?_|exact SVLe.refl|refine ceb ?_)
    all_goals first | exact (show nodupB _ = true from rfl) | exact Or.inr rfl | ((rw [szG,if_neg (by assumption)]; exact (szL_neg (by assumption)).symm))
  · repeat refine cr ?_
    refine ends_id ?_
    refine endK [] (h2 := ?_) (h3 := ?_) (nd := ?_)
    all_goals (repeat' first|exact ce0|refine ce ?_|refine ce2 ?_ ?_|exact SVLe.refl|refine ceb ?_)
    all_goals first | exact (show nodupB _ = true from rfl) | exact Or.inr rfl | ((unfold szG; simp [*]))
@[irreducible] def eqG (a b : Tg) : Bool := decide (a.de = b.de ∧ a.wo = b.wo ∧ a.ha = b.ha)
theorem eqTag_ok (a b : Tg) (h1 : (a.ha.length : Int) ≤ 1048576) (h2 : (b.ha.length : Int) ≤ 1048576) (h3 : (a.wo.length : Int) ≤ 1048576) (h4 : (b.wo.length : Int) ≤ 1048576) (h5 : ∀ x ∈ a.wo,(x.length : Int) ≤ 1048576) (h6 : ∀ x ∈ b.wo,(x.length : Int) ≤ 1048576) : Does Tryd.prog 10 [.agg (tgC a),.agg (tgC b)] [] (.one (boo (eqG a b))) [] := by
  refine does_of (k := 0) Tryd.func10 rfl Tryd.ntmps10 rfl rfl fun w F0 S0 ρ0 => ?_
  dsimp only [argT,argH]
  repeat' first|(apply n3;exact a_new (gb := .bx _) rfl;exact rfl;refine dA ?_)|(apply p3;(first|exact a_ne rfl rfl|exact puL);exact rfl)|refine cd ?_|(apply c4 0;exact callK1 (θ := []) (hD := (eqInt64SS_ok _ _ preA7 preA7 preA7 preA7));exact rfl;exact rfl;exact rfl;refine dM ?_)|(apply c4 0;exact callK1 (θ := []) (hD := (eqInt64S_ok _ _ preA7 preA7));exact rfl;exact rfl;exact rfl;refine dM ?_)|((refine g_cond rfl (fun hc => ?_) (fun hc => ?_)) <;> (try simp only [dcB] at hc) <;> (try first|contradiction|(exfalso;omega)))
  all_goals
    repeat refine cr ?_
    refine ends_id ?_
    refine endK [] (h2 := ?_) (h3 := ?_) (nd := ?_)
    all_goals (repeat' first|exact ce0|refine ce ?_|refine ce2 ?_ ?_|exact SVLe.refl|refine ceb ?_)
    all_goals first | exact (show nodupB _ = true from rfl) | exact Or.inr rfl | ((symm; unfold eqG; (try unfold eqI at *); (try unfold eqWs at *); simp_all))
end Go.Proofs.YtjmlbmmbionmcaaDoor
end
section
set_option linter.unusedVariables false
set_option linter.unusedSimpArgs false
set_option linter.unusedSectionVars false
namespace Go.Proofs.YtjmlbmmbionmcaaDoor
section
variable {α : Type} [DecidableEq α] (f : α → α) (h o : α → Bool)
def itr : Nat → α → α
  | 0,x => x
  | n + 1,x => itr n (f x)
theorem itr_succ (n : Nat) (x : α) : itr f (n + 1) x = f (itr f n x) := by
  induction n generalizing x with
  | zero => rfl
  | succ n ih => rw [itr,ih,itr]
def cSt : Nat → α → α → Nat
  | 0,_,_ => 0
  | k + 1,a,b => bif decide (a = b) then 0 else cSt k (f a) (f b) + 1
variable {f h o}
section
variable {x : α} {i n b B : Nat}
structure Cyc (f : α → α) (x : α) (i b : Nat) : Prop where
  pos : 0 < b
  eq : itr f i x = itr f (i + b) x
  inj : ∀ j k,j < k → k < i + b → itr f j x ≠ itr f k x
theorem itr_add (m n : Nat) (x : α) : itr f (m + n) x = itr f n (itr f m x) := by
  induction m generalizing x with
  | zero => simp [itr]
  | succ m ih => rw [Nat.succ_add,itr,ih,itr]
theorem Cyc.per (c : Cyc f x i b) (m : Nat) (hm : i ≤ m) : itr f (m + b) x = itr f m x := by
  obtain ⟨d,rfl⟩ := Nat.exists_eq_add_of_le hm
  rw [show i + d + b = i + b + d by omega,itr_add (i + b) d,← c.eq,← itr_add]
theorem Cyc.red (c : Cyc f x i b) : ∀ (d : Nat),itr f (i + d) x = itr f (i + d % b) x := by
  intro d
  induction d using Nat.strongRecOn with
  | _ d ih =>
    by_cases hd : d < b
    · rw [Nat.mod_eq_of_lt hd]
    · have := c.per (i + (d - b)) (by omega)
      rw [show i + (d - b) + b = i + d by omega] at this
      rw [this,ih (d - b) (by have := c.pos; omega),← Nat.mod_eq_sub_mod (by omega)]
theorem Cyc.ne (c : Cyc f x i b) {s l : Nat} (hl : 1 ≤ l) (e : itr f s x = itr f (s + l) x) : i ≤ s ∧ b ≤ l := by
  have hb := c.pos
  by_cases hs : i ≤ s
  · refine ⟨hs,?_⟩
    obtain ⟨d,rfl⟩ := Nat.exists_eq_add_of_le hs
    rw [c.red d,show i + d + l = i + (d + l) by omega,c.red (d + l)] at e
    have h1 := Nat.mod_lt d hb
    have h2 := Nat.mod_lt (d + l) hb
    have h3 : d % b = (d + l) % b := by
      rcases Nat.lt_trichotomy (d % b) ((d + l) % b) with h | h | h
      · exact absurd e (c.inj _ _ (by omega) (by omega))
      · exact h
      · exact absurd e.symm (c.inj _ _ (by omega) (by omega))
    have h4 : (d + l - d) % b = 0 := Nat.sub_mod_eq_zero_of_mod_eq h3.symm
    rw [show d + l - d = l by omega] at h4
    exact Nat.le_of_dvd (by omega) (Nat.dvd_of_mod_eq_zero h4)
  · exfalso
    by_cases hn : s + l < i + b
    · exact c.inj s (s + l) (by omega) hn e
    · have h1 : s + l = i + (s + l - i) := by omega
      rw [h1,c.red] at e
      have h2 := Nat.mod_lt (s + l - i) hb
      exact c.inj s _ (by omega) (by omega) e
theorem Cyc.st (c : Cyc f x i b) : ∀ (K s : Nat),s ≤ i → i - s < K → cSt f K (itr f s x) (itr f (s + b) x) = i - s := by
  intro K
  induction K with
  | zero => intro s _ h; omega
  | succ K ih =>
    intro s hs hK
    rw [cSt,← itr_succ f,← itr_succ f]
    by_cases e : itr f s x = itr f (s + b) x
    · have := (c.ne c.pos e).1
      rw [decide_eq_true e]
      simp only [cond_true]
      omega
    · rw [decide_eq_false e]
      have hne : s ≠ i := fun e' => e (by rw [e']; exact c.eq)
      simp only [cond_false]
      rw [show s + b + 1 = s + 1 + b by omega,ih (s + 1) (by omega) (by omega)]
      omega
end
end
end Go.Proofs.YtjmlbmmbionmcaaDoor
end
