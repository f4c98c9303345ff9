/- Parts of the proof (11 of 23). -/
import Derived.Laws.Concat
import Derived.Laws.Cover1
import Derived.Laws.DeepStrings4
import Derived.Laws.IdiomStrings
import Derived.Laws.Runes
import Derived.Laws.Strings2
import Derived.Laws.Strings3
import Derived.Test.YtnkeamihfiobdaaGreatDoorQ10
section
set_option linter.unusedVariables false
set_option linter.unusedSimpArgs false
set_option maxRecDepth 100000
namespace Go.Proofs.YtnkeamihfiobdaaGreatDoor
open Go Foot
abbrev Bs := List UInt8
abbrev sv (l : Bs) : Value := .string ⟨l.toArray⟩
abbrev str (l : Bs) : C := .d (.sc (sv l))
abbrev u8 (n : Int) : C := .d (.sc (.int .u8 n))
abbrev eY : Enc Int := ⟨1,fun n => [.sc (.int .u8 n)],fun _ => rfl,by decide⟩
abbrev eS : Enc Bs := ⟨1,fun b => [.sc (sv b)],fun _ => rfl,by decide⟩
abbrev shS (l : List Bs) : C := .d (.sl false 1 (rows eS l))
theorem wrap8 {n : Int} (h1 : 0 ≤ n) (h2 : n < 256) : IntKind.u8.wrap n = n := by
  simp [IntKind.wrap,IntKind.bits,IntKind.signed]
  omega
theorem toL (l : Bs) : (ByteArray.mk l.toArray).toList = l := ByteArray.toList_mk l
theorem beq_dec (a b : Bs) : (a == b) = decide (a = b) := by cases h : decide (a = b) <;> simp_all
theorem sz_str (l : Bs) : (ByteArray.mk l.toArray).size = l.length := by simp [ByteArray.size]
theorem noOwnY (l : List Int) : D.noOwn.all (rows eY l) := noOwn_rows fun _ => ⟨trivial,trivial⟩
@[irreducible] def byt (l : List Int) : Bs := l.map fun n => UInt8.ofNat n.toNat
theorem reps_Y {w : World} {S F : Foot} : ∀ {l : List Int} {us : List Value},Reps w S (rows eY l) us F → us = l.map (Value.int .u8)
  | [],us,h => by simpa [rows,Reps] using h
  | n :: l,us,h => by
    have e : rows eY (n :: l) = .sc (.int .u8 n) :: rows eY l := rfl
    rw [e] at h
    simp only [Reps] at h
    obtain ⟨v,us',F1,F2,rfl,_,_,_,h1,h2⟩ := h
    simp only [Rep] at h1
    rw [h1.1,reps_Y h2,List.map_cons]
theorem fold_push : ∀ (l : List Int) (r : ByteArray),l.foldl (fun r n => r.push (UInt8.ofNat n.toNat)) r = ⟨r.data ++ (l.map fun n => UInt8.ofNat n.toNat).toArray⟩
  | [],r => by simp
  | b :: l,r => by
    simp only [List.foldl_cons,List.map_cons]
    rw [fold_push l]
    simp [ByteArray.push]
section
variable {P : Program} {g : Gh} {st : St}
variable {dst : Option Tmp} {ty : TypeId} {pos : String} {after : Array Edge} {guard : Option (Nat × Bool)} {x y : Operand} {T U e : TypeId} {a b : Bs} {m n : Int}
theorem a_addS (e1 : opd st x = .one (str a)) (e2 : opd st y = .one (str b)) (h : (a.length : Int) + b.length ≤ 9223372036854775807) : Acts P g ⟨dst,.binOp .add T x y U,ty,pos,after,guard⟩ st (.one (str (a ++ b))) [] [] := by
  have := a_bin (P := P) (g := g) (dst := dst) (T := T) (U := U) (ty := ty) (pos := pos) (after := after) (guard := guard) (op := .add) e1 e2 rfl (show (ByteArray.mk a.toArray).size + (ByteArray.mk b.toArray).size ≤ 9223372036854775807 by rw [sz_str,sz_str]; omega)
  rwa [ByteArray.mk_append_mk] at this
theorem a_eqT (e1 : opd st x = .one (str a)) (e2 : opd st y = .one (str b)) : Acts P g ⟨dst,.binOp .eql T x y U,ty,pos,after,guard⟩ st (.one (boo (decide (a = b)))) [] [] := by
  have := a_bin (P := P) (g := g) (dst := dst) (T := T) (U := U) (ty := ty) (pos := pos) (after := after) (guard := guard) (op := .eql) e1 e2 rfl trivial
  rw [toL,toL] at this
  rwa [beq_dec] at this
theorem a_neT (e1 : opd st x = .one (str a)) (e2 : opd st y = .one (str b)) : Acts P g ⟨dst,.binOp .neq T x y U,ty,pos,after,guard⟩ st (.one (boo (!decide (a = b)))) [] [] := by
  have := a_bin (P := P) (g := g) (dst := dst) (T := T) (U := U) (ty := ty) (pos := pos) (after := after) (guard := guard) (op := .neq) e1 e2 rfl trivial
  rw [toL,toL] at this
  rwa [beq_dec] at this
theorem a_lenT (e1 : opd st x = .one (str a)) (hT : P.underlying T = some .string) : Acts P g ⟨dst,.call { callee := .builtin .len,args := #[x],argTypes := #[T] },ty,pos,after,guard⟩ st (.one (int a.length)) [] [] := by
  have := a_len_str (P := P) (g := g) (dst := dst) (ty := ty) (pos := pos) (after := after) (guard := guard) e1 hT
  rwa [sz_str] at this
theorem a_to8 {k : IntKind} (e1 : opd st x = .one (.d (.sc (.int k m)))) (hT : P.underlying T = some (.int k)) (hU : P.underlying U = some (.int .u8)) (h1 : 0 ≤ m) (h2 : m < 256) : Acts P g ⟨dst,.convert T U x,ty,pos,after,guard⟩ st (.one (u8 m)) [] [] := by
  have := a_conv (P := P) (g := g) (dst := dst) (T := T) (U := U) (ty := ty) (pos := pos) (after := after) (guard := guard) e1 (by rw [hT]; rfl) hU
  rwa [wrap8 h1 h2] at this
theorem a_of8 (e1 : opd st x = .one (u8 m)) (hT : P.underlying T = some (.int .u8)) (hU : P.underlying U = some (.int .i64)) (h1 : 0 ≤ m) (h2 : m < 256) : Acts P g ⟨dst,.convert T U x,ty,pos,after,guard⟩ st (.one (int m)) [] [] := by
  have := a_conv (P := P) (g := g) (dst := dst) (T := T) (U := U) (ty := ty) (pos := pos) (after := after) (guard := guard) e1 (by rw [hT]; rfl) hU
  rwa [wrap64 (by omega) (by omega)] at this
theorem a_to32 {k : IntKind} (e1 : opd st x = .one (.d (.sc (.int k m)))) (hT : P.underlying T = some (.int k)) (hU : P.underlying U = some (.int .i32)) (h1 : -2147483648 ≤ m) (h2 : m < 2147483648) : Acts P g ⟨dst,.convert T U x,ty,pos,after,guard⟩ st (.one (.d (.sc (.int .i32 m)))) [] [] := by
  have := a_conv (P := P) (g := g) (dst := dst) (T := T) (U := U) (ty := ty) (pos := pos) (after := after) (guard := guard) e1 (by rw [hT]; rfl) hU
  have e : IntKind.i32.wrap m = m := by simp [IntKind.wrap,IntKind.bits,IntKind.signed]; omega
  rwa [e] at this
theorem a_add32 (e1 : opd st x = .one (.d (.sc (.int .i32 m)))) (e2 : opd st y = .one (.d (.sc (.int .i32 n)))) (h1 : -2147483648 ≤ m + n) (h2 : m + n < 2147483648) : Acts P g ⟨dst,.binOp .add T x y U,ty,pos,after,guard⟩ st (.one (.d (.sc (.int .i32 (m + n))))) [] [] := by
  have := a_bin (P := P) (g := g) (dst := dst) (T := T) (U := U) (ty := ty) (pos := pos) (after := after) (guard := guard) (op := .add) e1 e2 rfl trivial
  have e : IntKind.i32.wrap (m + n) = m + n := by simp [IntKind.wrap,IntKind.bits,IntKind.signed]; omega
  rwa [e] at this
@[irreducible] def xorI (a b : Int) : Int := IntKind.i64.wrap ((BitVec.ofInt 64 a ^^^ BitVec.ofInt 64 b).toNat : Nat)
@[irreducible] def andI (a b : Int) : Int := IntKind.i64.wrap ((BitVec.ofInt 64 a &&& BitVec.ofInt 64 b).toNat : Nat)
theorem a_xorI (e1 : opd st x = .one (int m)) (e2 : opd st y = .one (int n)) : Acts P g ⟨dst,.binOp .xor T x y U,ty,pos,after,guard⟩ st (.one (int (xorI m n))) [] [] := by
  have := a_bin (P := P) (g := g) (dst := dst) (T := T) (U := U) (ty := ty) (pos := pos) (after := after) (guard := guard) (op := .xor) e1 e2 rfl trivial
  unfold xorI
  exact this
theorem a_andI (e1 : opd st x = .one (int m)) (e2 : opd st y = .one (int n)) : Acts P g ⟨dst,.binOp .and T x y U,ty,pos,after,guard⟩ st (.one (int (andI m n))) [] [] := by
  have := a_bin (P := P) (g := g) (dst := dst) (T := T) (U := U) (ty := ty) (pos := pos) (after := after) (guard := guard) (op := .and) e1 e2 rfl trivial
  unfold andI
  exact this
theorem ofInt_nat {a : Nat} (h : a < 2 ^ 64) : (BitVec.ofInt 64 (a : Int)).toNat = a := by simp; omega
theorem xorI_bd {a b : Int} (h0 : 0 ≤ a) (h1 : a < 65536) (h2 : 0 ≤ b) (h3 : b < 65536) : 0 ≤ xorI a b ∧ xorI a b < 65536 := by
  obtain ⟨n,rfl⟩ := Int.eq_ofNat_of_zero_le h0
  obtain ⟨k,rfl⟩ := Int.eq_ofNat_of_zero_le h2
  have hx : (n ^^^ k) < 2 ^ 16 := Nat.xor_lt_two_pow (by omega) (by omega)
  unfold xorI
  rw [BitVec.toNat_xor,ofInt_nat (by omega),ofInt_nat (by omega),wrap64 (by omega) (by omega)]
  omega
theorem andI_bd {a : Int} (h0 : 0 ≤ a) (h1 : a < 131072) : 0 ≤ andI a 65535 ∧ andI a 65535 < 65536 := by
  obtain ⟨n,rfl⟩ := Int.eq_ofNat_of_zero_le h0
  have hx : (n &&& 65535) ≤ 65535 := Nat.and_le_right
  unfold andI
  rw [BitVec.toNat_and,ofInt_nat (by omega),show (65535 : Int) = ((65535 : Nat) : Int) from rfl,ofInt_nat (by omega),wrap64 (by omega) (by omega)]
  omega
theorem a_shlC {k : Nat} (e1 : opd st x = .one (int m)) (e2 : opd st y = .one (.d (.sc (.int .u64 (k : Int))))) (hk : k < 64) (h1 : -9223372036854775808 ≤ m * 2 ^ k) (h2 : m * 2 ^ k < 9223372036854775808) : Acts P g ⟨dst,.binOp .shl T x y U,ty,pos,after,guard⟩ st (.one (int (m * 2 ^ k))) [] [] := by
  have := a_bin (P := P) (g := g) (dst := dst) (T := T) (U := U) (ty := ty) (pos := pos) (after := after) (guard := guard) (op := .shl) e1 e2 rfl (show (0 : Int) ≤ (k : Int) by omega)
  have e : min (k : Int).toNat IntKind.i64.bits = k := by show min (k : Int).toNat 64 = k; omega
  rw [e,wrap64 h1 h2] at this
  exact this
theorem a_shl8 (e1 : opd st x = .one (int m)) (e2 : opd st y = .one (.d (.sc (.int .u64 8)))) (h1 : 0 ≤ m) (h2 : m < 1000000) : Acts P g ⟨dst,.binOp .shl T x y U,ty,pos,after,guard⟩ st (.one (int (m * 256))) [] [] :=
  a_shlC (k := 8) e1 e2 (by decide) (by omega) (by omega)
theorem a_shl1 (e1 : opd st x = .one (int m)) (e2 : opd st y = .one (.d (.sc (.int .u64 1)))) (h1 : 0 ≤ m) (h2 : m < 1000000) : Acts P g ⟨dst,.binOp .shl T x y U,ty,pos,after,guard⟩ st (.one (int (m * 2))) [] [] :=
  a_shlC (k := 1) e1 e2 (by decide) (by omega) (by omega)
theorem a_idxS (e1 : opd st x = .one (str a)) (e2 : opd st y = .one (int m)) (hT : P.underlying T = some .string) (h0 : 0 ≤ m) (h1 : m < a.length) : Acts P g ⟨dst,.index T x y,ty,pos,after,guard⟩ st (.one (u8 ((a.getD m.toNat 0).toNat : Nat))) [] [] := by
  refine acts_of fun ac w S ρ F h => ⟨.int .u8 ((a.getD m.toNat 0).toNat : Nat),?_,⟨rfl,rfl⟩⟩
  show (do pure (.value (← Instr.index T (ac.eval x) (ac.eval y))) : Sem Next).run P w = _
  rw [opd_sc h e1,opd_sc h e2]
  have hb : 0 ≤ m ∧ m < ((⟨a.toArray⟩ : ByteArray).size : Int) := ⟨h0,by rw [sz_str]; exact h1⟩
  have hs : ((⟨a.toArray⟩ : ByteArray)[m.toNat]'(by have := hb.2; omega)) = a.getD m.toNat 0 := by
    rw [List.getD_eq_getElem?_getD,List.getElem?_eq_getElem (by omega)]
    simp [ByteArray.getElem_eq_getElem_data]
  have key : (Instr.index T (sv a) (.int .i64 m)).run P w = .ok (.int .u8 ((a.getD m.toNat 0).toNat : Nat)) w := by
    rw [run_index_string w T _ _ _ hT,dif_pos hb,hs]
  simp [key]
theorem a_quoT (e1 : opd st x = .one (int m)) (e2 : opd st y = .one (int n)) (h1 : -9223372036854775808 < m) (h2 : m < 9223372036854775808) (h3 : 0 < n) : Acts P g ⟨dst,.binOp .quo T x y U,ty,pos,after,guard⟩ st (.one (int (m.tdiv n))) [] [] := by
  have := a_bin (P := P) (g := g) (dst := dst) (T := T) (U := U) (ty := ty) (pos := pos) (after := after) (guard := guard) (op := .quo) e1 e2 rfl (show n ≠ 0 by omega)
  have e := Int.natAbs_tdiv m n
  have e3 : m.natAbs.div n.natAbs ≤ m.natAbs := Nat.div_le_self _ _
  rwa [wrap64 (by omega) (by omega)] at this
theorem a_remT (e1 : opd st x = .one (int m)) (e2 : opd st y = .one (int n)) (h3 : 0 < n) : Acts P g ⟨dst,.binOp .rem T x y U,ty,pos,after,guard⟩ st (.one (int (m.tmod n))) [] [] :=
  a_bin (P := P) (g := g) (dst := dst) (T := T) (U := U) (ty := ty) (pos := pos) (after := after) (guard := guard) (op := .rem) e1 e2 rfl (show n ≠ 0 by omega)
theorem a_ld_rowY {i k : Nat} {c0 : C} {l : List Int} (hc : opd st x = .one c0) (ht : tgt st c0 = some (i,k)) (hg : lkG st.h i = .row 1 (rows eY l)) (hT : cellB P T = true) (hk : k < l.length) : Acts P g ⟨dst,.load T x,ty,pos,after,guard⟩ st (.one (u8 (l[k]'hk))) [] [] := by
  refine a_ld_row (c := .sc (.int .u8 (l[k]'hk))) hc ht hg hT ?_ trivial
  have := rows_nth (E := eY) (o := 0) hk (by decide)
  simpa using this
theorem a_ld_rowS {i k : Nat} {c0 : C} {l : List Bs} (hc : opd st x = .one c0) (ht : tgt st c0 = some (i,k)) (hg : lkG st.h i = .row 1 (rows eS l)) (hT : cellB P T = true) (hk : k < l.length) : Acts P g ⟨dst,.load T x,ty,pos,after,guard⟩ st (.one (str (l[k]'hk))) [] [] := by
  refine a_ld_row (c := .sc (sv (l[k]'hk))) hc ht hg hT ?_ trivial
  have := rows_nth (E := eS) (o := 0) hk (by decide)
  simpa using this
theorem a_toStr {l : List Int} {c : C} (hc : opd st x = .one c) (hs : slv st c = some (1,rows eY l)) (hT : P.underlying T = some (.slice e)) (he : P.underlying e = some (.int .u8)) (hU : P.underlying U = some .string) : Acts P g ⟨dst,.convert T U x,ty,pos,after,guard⟩ st (.one (str (byt l))) [] [] := by
  refine acts_of fun a w S ρ F h => ⟨sv (byt l),?_,⟨rfl,rfl⟩⟩
  obtain ⟨ad,len,cap,us,e1,e2,_,_,e3,e4⟩ := rel_src h (opd_one h hc) hs (noOwnY l)
  have hus := reps_Y e4
  have hlen : l.length = len := by rw [rows_len] at e2; simpa using e2
  show (do pure (.value (← convert T U (a.eval x))) : Sem Next).run P w = _
  rw [e1]
  have key : (convert T U (.slice ad len cap)).run P w = .ok (sv (byt l)) w := by
    rw [run_convert_bytes_string w T U e ad len cap hT he hU]
    have hb : sv (byt l) = .string (l.foldl (fun r n => r.push (UInt8.ofNat n.toNat)) ByteArray.empty) := by
      rw [fold_push]
      have he0 : ByteArray.empty.data = #[] := rfl
      rw [he0]
      unfold byt
      simp
    cases ad with
    | none =>
      rcases e3 with rfl | ⟨b,off,e5,_⟩
      · have : l = [] := List.eq_nil_of_length_eq_zero hlen
        subst this
        rw [hb]
        rfl
      · cases e5
    | some ad =>
      rw [hb]
      refine run_bytesToString w ad len cap l ?_
      have hl := run_loadCells_list (P := P) w ad (l.map (Value.int .u8)) (fun j v hj => by
        rcases e3 with rfl | ⟨b,off,e5,e6⟩
        · have : l = [] := List.eq_nil_of_length_eq_zero hlen
          subst this
          simp at hj
        · cases e5
          rw [hus] at e6
          have e7 : (⟨b,off,none⟩ : Addr).add j = ⟨b,off + j,none⟩ := by cases j <;> rfl
          rw [e7]
          exact e6 j v hj)
      rw [List.length_map,hlen] at hl
      exact hl
  simp [key]
end
abbrev mSI : MapE Bs Int := ⟨.string,fun a => sv a,fun b => .int .i64 b,fun _ => trivial,fun a b h => by simpa [sv] using h,fun _ => rfl⟩
end Go.Proofs.YtnkeamihfiobdaaGreatDoor
end
section
set_option linter.unusedVariables false
set_option linter.unusedSimpArgs false
set_option maxRecDepth 100000
set_option maxHeartbeats 4000000
namespace Go.Proofs.YtnkeamihfiobdaaGreatDoor
open Go Foot
theorem preA6 {p : Prop} (h : p := by first | with_reducible assumption | omega | (simp only [List.length_append,List.length_cons,List.length_nil,List.length_set,List.length_replicate,List.length_take,List.length_drop,List.length_tail,List.length_dropLast,List.length_reverse] at *; omega) | exact mem_len (by assumption) (by omega) | trivial) : p := h
theorem l00Own_ok (xs : List Int) (hx : (xs.length : Int) ≤ 16777216) : Does Tryz.prog 203 [.one (shI xs)] [] (.one (.gv 0)) [.row 1 (rows eI xs)] := by
  refine does_of (k := 0) Tryz.func203 rfl Tryz.ntmps203 rfl rfl fun w F0 S0 ρ0 => ?_
  dsimp only [argT,argH]
  repeat' first|(apply n3;exact a_nilO eI rfl;exact rfl)|(apply n3;(exact a_litE eI [] rfl rfl rfl rfl rfl rfl rfl rfl);exact rfl;refine dA ?_)|(apply p3;exact pu1;exact rfl)|refine cd ?_|(apply s3;exact a_appE (fP rfl) rfl rfl rfl rfl nowR (by (simp <;> omega)) (by decide) (by decide) (by exact rfl);exact rfl;exact rfl)|fail
  repeat refine cr ?_
  refine ends_id ?_
  refine endK [?_] (h2 := ?_) (h3 := ?_) (nd := ?_)
  rotate_left 1
  all_goals (repeat' first|exact ce0|refine ce ?_|refine ce2 ?_ ?_|(refine Or.inr (bx_eq rfl rfl ?_);(try dsimp only [C.ren,C.ren.all]);(try exact rfl))|exact SVLe.refl|refine ceb ?_)
  all_goals first | exact (show nodupB _ = true from rfl) | exact Or.inr rfl | (rfl)
theorem all_snoc {α : Type} (p : α → Bool) (l : List α) (n : Nat) (h : n < l.length) : (l.take (n + 1)).all p = ((l.take n).all p && p l[n]) := by
  rw [List.take_succ_eq_append_getElem h,List.all_append]; simp
theorem all_snocI {α : Type} (p : α → Bool) (l : List α) (i : Int) (h0 : 0 ≤ i) (h : i < l.length) (h1 : (l.take i.toNat).all p = true) (h2 : p (l[i.toNat]'(by omega)) = true) : (l.take (i + 1).toNat).all p = true := by
  rw [show (i + 1).toNat = i.toNat + 1 by omega,all_snoc p l _ (by omega),h1,h2]; rfl
theorem all_no {α : Type} (p : α → Bool) (l : List α) (n : Nat) (h : n < l.length) (h2 : ¬ p l[n] = true) : l.all p = false := by
  rw [List.all_eq_false]
  exact ⟨l[n],List.getElem_mem h,by simpa using h2⟩
@[irreducible] def idxF {α : Type} (p : α → Bool) (l : List α) : Int := match l.findIdx? p with | some i => i | none => -1
theorem idxF_stop {α : Type} (p : α → Bool) (l : List α) (i : Int) (h0 : 0 ≤ i) (h : i < l.length) (h1 : (l.take i.toNat).all (fun x => !p x) = true) (h2 : p (l[i.toNat]'(by omega)) = true) : idxF p l = i := by
  have : l.findIdx? p = some i.toNat := by
    rw [List.findIdx?_eq_some_iff_getElem]
    refine ⟨by omega,h2,fun j hj => ?_⟩
    rw [List.all_eq_true] at h1
    have := h1 (l[j]'(by omega)) (by rw [List.mem_take_iff_getElem]; exact ⟨j,by omega,rfl⟩)
    simpa using this
  unfold idxF
  rw [this]
  simp only
  omega
theorem idxF_none {α : Type} (p : α → Bool) (l : List α) (h1 : l.all (fun x => !p x) = true) : idxF p l = -1 := by
  have : l.findIdx? p = none := by
    rw [List.findIdx?_eq_none_iff]
    rw [List.all_eq_true] at h1
    intro x hx
    simpa using h1 x hx
  unfold idxF
  rw [this]
theorem idxF_any {α : Type} (p : α → Bool) (l : List α) : decide (0 ≤ idxF p l) = l.any p := by
  unfold idxF
  cases h : l.findIdx? p with
  | none =>
    rw [List.findIdx?_eq_none_iff] at h
    have : l.any p = false := by rw [List.any_eq_false]; intro x hx; simp [h x hx]
    rw [this]; rfl
  | some i =>
    obtain ⟨h1,h2,_⟩ := List.findIdx?_eq_some_iff_getElem.1 h
    have : l.any p = true := by rw [List.any_eq_true]; exact ⟨l[i],List.getElem_mem h1,h2⟩
    rw [this]
    simp
theorem not_any_not {α : Type} (p : α → Bool) (l : List α) : (!l.any fun x => !p x) = l.all p := by
  induction l with
  | nil => rfl
  | cons a l ih => simp only [List.any_cons,List.all_cons,Bool.not_or,Bool.not_not,ih]
@[irreducible] def inAll (lo hi : Int) (l : List Int) : Bool := l.all (fun x => decide (lo ≤ x ∧ x ≤ hi))
theorem allWithin_ok (xs : List Int) (lo hi : Int) (hx : (xs.length : Int) ≤ 16777216) : Does Tryz.prog 84 [.one (shI xs),.one (int lo),.one (int hi)] [] (.one (boo (inAll lo hi xs))) [] := by
  refine does_of (k := 0) Tryz.func84 rfl Tryz.ntmps84 rfl rfl fun w F0 S0 ρ0 => ?_
  dsimp only [argT,argH]
  repeat' first|(apply p3;(first|exact pu1|exact puN);exact rfl)|refine cd ?_|fail
  refine g_loop_id ?_
  refine loopK [1,2,6,9,10] [] (fun i : Int => 0 ≤ i ∧ i ≤ xs.length ∧ (xs.take i.toNat).all (fun x => decide (lo ≤ x ∧ x ≤ hi)) = true) (fun i => [(11,.one (int i))]) (fun _ => []) (fun i => (xs.length - i).toNat) (0 : Int) [] (hI := ?_) (hr := ?_)
  · exact ⟨by omega,by omega,rfl⟩
  · rintro i ⟨h0,h1,h2⟩
    dsimp only [List.cons_append,List.nil_append] at *
    skip
    repeat' first|(apply p3;(first|exact pu1|exact puC|exact a_add rfl rfl (by omega) (by omega)|exact puI);exact rfl)|refine cd ?_|(apply c4 0;exact callK1 (θ := []) (hD := (within_ok _ _ _));exact rfl;exact rfl;exact rfl;refine dM ?_)|((refine g_cond rfl (fun hc => ?_) (fun hc => ?_)) <;> (try simp only [dcB] at hc) <;> (try first|contradiction|(exfalso;omega)))|fail
    · repeat refine cr ?_
      refine ends_id ?_
      refine endK [] (h2 := ?_) (h3 := ?_) (nd := ?_)
      all_goals (repeat' first|exact ce0|refine ce ?_|refine ce2 ?_ ?_|exact SVLe.refl|refine ceb ?_)
      all_goals first | exact (show nodupB _ = true from rfl) | exact Or.inr rfl | ((unfold inAll; rw [all_no _ _ i.toNat (by omega) (by rw [decide_eq_true_eq]; exact hc)]))
    · refine q_again (i + 1) [] (by exact stk) ?_ ?_
      · exact ⟨by omega,by omega,all_snocI _ _ _ h0 (by omega) h2 (by rw [decide_eq_true_eq]; exact hc)⟩
      · omega
    · repeat refine cr ?_
      refine ends_id ?_
      refine endK [] (h2 := ?_) (h3 := ?_) (nd := ?_)
      all_goals (repeat' first|exact ce0|refine ce ?_|refine ce2 ?_ ?_|exact SVLe.refl|refine ceb ?_)
      all_goals first | exact (show nodupB _ = true from rfl) | exact Or.inr rfl | ((unfold inAll; rw [List.take_of_length_le (by omega)] at h2; exact h2.symm))
theorem clone_ok (xs : List Int) (hx : (xs.length : Int) ≤ 16777216) : Does Tryz.prog 121 [.one (shI xs)] [] (.one (.gv 0)) [.row 1 (rows eI xs)] := by
  refine does_of (k := 0) Tryz.func121 rfl Tryz.ntmps121 rfl rfl fun w F0 S0 ρ0 => ?_
  dsimp only [argT,argH]
  repeat' first|(apply n3;exact a_nilO eI rfl;exact rfl)|(apply n3;(exact a_litE eI [] rfl rfl rfl rfl rfl rfl rfl rfl);exact rfl;refine dA ?_)|(apply p3;(exact pu1);exact rfl)|refine cd ?_|(apply s3;exact a_appE (fP rfl) rfl rfl rfl rfl nowR (by (simp <;> omega)) (by decide) (by decide) (by exact rfl);exact rfl;exact rfl)|(apply o_isnil;exact rfl;exact rfl;exact (fE rfl);exact rfl;exact rfl;intro b hnil)|((refine g_cond rfl (fun hc => ?_) (fun hc => ?_)) <;> (try simp only [dcB] at hc) <;> (try first|contradiction|(exfalso;omega)))|fail
  · repeat refine cr ?_
    refine ends_id ?_
    refine endK [?_] (h2 := ?_) (h3 := ?_) (nd := ?_)
    rotate_left 1
    all_goals (repeat' first|exact ce0|refine ce ?_|refine ce2 ?_ ?_|(refine Or.inr (bx_eq rfl rfl ?_);(try dsimp only [C.ren,C.ren.all]);(try exact rfl))|exact SVLe.refl|refine ceb ?_)
    all_goals first | exact (show nodupB _ = true from rfl) | exact Or.inr rfl | (exact (hnil hc).symm)
  · repeat refine cr ?_
    refine ends_id ?_
    refine endK [?_] (h2 := ?_) (h3 := ?_) (nd := ?_)
    rotate_left 1
    all_goals (repeat' first|exact ce0|refine ce ?_|refine ce2 ?_ ?_|(refine Or.inr (bx_eq rfl rfl ?_);(try dsimp only [C.ren,C.ren.all]);(try exact rfl))|exact SVLe.refl|refine ceb ?_)
    all_goals first | exact (show nodupB _ = true from rfl) | exact Or.inr rfl | (rfl)
theorem idxW_ok (xs : List (List Int)) (k : Nat) (p : List Int → Bool) (hx : (xs.length : Int) ≤ 16777216) (hxs : ∀ x ∈ xs,(x.length : Int) ≤ 16777216) (hE : entB Tryz.prog k = true) (hp : ∀ r,(r.length : Int) ≤ 16777216 → Does Tryz.prog k [.one (shI r)] [] (.one (boo (p r))) []) : Does Tryz.prog 237 [.one (shW xs),.one (.d (.fn (.func k) []))] [] (.one (int (idxF p xs))) [] := by
  refine does_of (k := 0) Tryz.func237 rfl Tryz.ntmps237 rfl rfl fun w F0 S0 ρ0 => ?_
  dsimp only [argT,argH]
  repeat' first|(apply p3;(first|exact pu1|exact puN);exact rfl)|refine cd ?_|fail
  refine g_loop_id ?_
  refine loopK [0,1,4,7] [] (fun i : Int => 0 ≤ i ∧ i ≤ xs.length ∧ (xs.take i.toNat).all (fun x => !p x) = true) (fun i => [(8,.one (int i))]) (fun _ => []) (fun i => (xs.length - i).toNat) (0 : Int) [] (hI := ?_) (hr := ?_)
  · exact ⟨by omega,by omega,rfl⟩
  · rintro i ⟨h0,h1,h2⟩
    dsimp only [List.cons_append,List.nil_append] at *
    skip
    repeat' first|(apply p3;(first|exact pu1|exact puC|exact a_add rfl rfl (by omega) (by omega)|exact puI);exact rfl)|refine cd ?_|(apply c4 0;exact callK0 (θ := []) (hE := hE) (hD := (hp _ preA6));exact rfl;exact rfl;exact rfl;refine dM ?_)|((refine g_cond rfl (fun hc => ?_) (fun hc => ?_)) <;> (try simp only [dcB] at hc) <;> (try first|contradiction|(exfalso;omega)))|fail
    · repeat refine cr ?_
      refine ends_id ?_
      refine endK [] (h2 := ?_) (h3 := ?_) (nd := ?_)
      all_goals (repeat' first|exact ce0|refine ce ?_|refine ce2 ?_ ?_|exact SVLe.refl|refine ceb ?_)
      all_goals first | exact (show nodupB _ = true from rfl) | exact Or.inr rfl | (exact (idxF_stop p xs i h0 (by omega) h2 hc).symm)
    · refine q_again (i + 1) [] (by exact stk) ?_ ?_
      · exact ⟨by omega,by omega,all_snocI _ _ _ h0 (by omega) h2 (by simp [hc])⟩
      · omega
    · repeat refine cr ?_
      refine ends_id ?_
      refine endK [] (h2 := ?_) (h3 := ?_) (nd := ?_)
      all_goals (repeat' first|exact ce0|refine ce ?_|refine ce2 ?_ ?_|exact SVLe.refl|refine ceb ?_)
      all_goals first | exact (show nodupB _ = true from rfl) | exact Or.inr rfl | ((rw [List.take_of_length_le (by omega)] at h2; exact (idxF_none p xs h2).symm))
theorem hasW_ok (xs : List (List Int)) (k : Nat) (p : List Int → Bool) (hx : (xs.length : Int) ≤ 16777216) (hxs : ∀ x ∈ xs,(x.length : Int) ≤ 16777216) (hE : entB Tryz.prog k = true) (hp : ∀ r,(r.length : Int) ≤ 16777216 → Does Tryz.prog k [.one (shI r)] [] (.one (boo (p r))) []) : Does Tryz.prog 170 [.one (shW xs),.one (.d (.fn (.func k) []))] [] (.one (boo (xs.any p))) [] := by
  refine does_of (k := 0) Tryz.func170 rfl Tryz.ntmps170 rfl rfl fun w F0 S0 ρ0 => ?_
  dsimp only [argT,argH]
  repeat' first|(apply p3;(first|exact pu1|exact puC);exact rfl)|refine cd ?_|(apply c4 0;exact callK1 (θ := []) (hD := (idxW_ok _ _ _ preA6 preA6 preA6 preA6));exact rfl;exact rfl;exact rfl;refine dM ?_)|fail
  repeat refine cr ?_
  refine ends_id ?_
  refine endK [] (h2 := ?_) (h3 := ?_) (nd := ?_)
  all_goals (repeat' first|exact ce0|refine ce ?_|refine ce2 ?_ ?_|exact SVLe.refl|refine ceb ?_)
  all_goals first | exact (show nodupB _ = true from rfl) | exact Or.inr rfl | (exact idxF_any p xs)
end Go.Proofs.YtnkeamihfiobdaaGreatDoor
end
section
set_option linter.unusedVariables false
set_option linter.unusedSimpArgs false
set_option maxRecDepth 100000
set_option maxHeartbeats 4000000
namespace Go.Proofs.YtnkeamihfiobdaaGreatDoor
open Go Foot
end Go.Proofs.YtnkeamihfiobdaaGreatDoor
end
section
set_option linter.unusedVariables false
set_option linter.unusedSimpArgs false
set_option linter.unusedSectionVars false
namespace Go.Proofs.YtnkeamihfiobdaaGreatDoor
section
variable {α : Type} [DecidableEq α] (f : α → α) (h o : α → Bool)
def itr : Nat → α → α
  | 0,x => x
  | n + 1,x => itr n (f x)
theorem itr_succ (n : Nat) (x : α) : itr f (n + 1) x = f (itr f n x) := by
  induction n generalizing x with
  | zero => rfl
  | succ n ih => rw [itr,ih,itr]
def cBr : Nat → α → α → Nat → Nat → Nat
  | 0,_,_,_,_ => 0
  | k + 1,sl,fa,p,l => bif h fa then 0 else bif o fa then 0 else
      bif decide (l = p) then (bif decide (fa = f fa) then 1 else cBr k fa (f fa) (p * 2) 1)
      else (bif decide (sl = f fa) then l + 1 else cBr k sl (f fa) p (l + 1))
def cSt : Nat → α → α → Nat
  | 0,_,_ => 0
  | k + 1,a,b => bif decide (a = b) then 0 else cSt k (f a) (f b) + 1
variable {f h o}
section
variable {x : α} {i n b B : Nat}
structure Cyc (f : α → α) (x : α) (i b : Nat) : Prop where
  pos : 0 < b
  eq : itr f i x = itr f (i + b) x
  inj : ∀ j k,j < k → k < i + b → itr f j x ≠ itr f k x
theorem itr_add (m n : Nat) (x : α) : itr f (m + n) x = itr f n (itr f m x) := by
  induction m generalizing x with
  | zero => simp [itr]
  | succ m ih => rw [Nat.succ_add,itr,ih,itr]
theorem Cyc.per (c : Cyc f x i b) (m : Nat) (hm : i ≤ m) : itr f (m + b) x = itr f m x := by
  obtain ⟨d,rfl⟩ := Nat.exists_eq_add_of_le hm
  rw [show i + d + b = i + b + d by omega,itr_add (i + b) d,← c.eq,← itr_add]
theorem Cyc.red (c : Cyc f x i b) : ∀ (d : Nat),itr f (i + d) x = itr f (i + d % b) x := by
  intro d
  induction d using Nat.strongRecOn with
  | _ d ih =>
    by_cases hd : d < b
    · rw [Nat.mod_eq_of_lt hd]
    · have := c.per (i + (d - b)) (by omega)
      rw [show i + (d - b) + b = i + d by omega] at this
      rw [this,ih (d - b) (by have := c.pos; omega),← Nat.mod_eq_sub_mod (by omega)]
theorem Cyc.ne (c : Cyc f x i b) {s l : Nat} (hl : 1 ≤ l) (e : itr f s x = itr f (s + l) x) : i ≤ s ∧ b ≤ l := by
  have hb := c.pos
  by_cases hs : i ≤ s
  · refine ⟨hs,?_⟩
    obtain ⟨d,rfl⟩ := Nat.exists_eq_add_of_le hs
    rw [c.red d,show i + d + l = i + (d + l) by omega,c.red (d + l)] at e
    have h1 := Nat.mod_lt d hb
    have h2 := Nat.mod_lt (d + l) hb
    have h3 : d % b = (d + l) % b := by
      rcases Nat.lt_trichotomy (d % b) ((d + l) % b) with h | h | h
      · exact absurd e (c.inj _ _ (by omega) (by omega))
      · exact h
      · exact absurd e.symm (c.inj _ _ (by omega) (by omega))
    have h4 : (d + l - d) % b = 0 := Nat.sub_mod_eq_zero_of_mod_eq h3.symm
    rw [show d + l - d = l by omega] at h4
    exact Nat.le_of_dvd (by omega) (Nat.dvd_of_mod_eq_zero h4)
  · exfalso
    by_cases hn : s + l < i + b
    · exact c.inj s (s + l) (by omega) hn e
    · have h1 : s + l = i + (s + l - i) := by omega
      rw [h1,c.red] at e
      have h2 := Nat.mod_lt (s + l - i) hb
      exact c.inj s _ (by omega) (by omega) e
def PrevOk (f : α → α) (x : α) (p : Nat) : Prop := p = 1 ∨ ∃ p',1 ≤ p' ∧ p = 2 * p' ∧ ∀ j,1 ≤ j → j ≤ p' → itr f (p' - 1) x ≠ itr f (p' - 1 + j) x
theorem Cyc.br (c : Cyc f x i b) (hc : ∀ m,h (itr f m x) = false ∧ o (itr f m x) = false) (hB : i + b ≤ B) : ∀ (K p l : Nat),1 ≤ p → l ≤ p → K + (p - 1 + l) = 4 * B + 4 →
    (∀ j,1 ≤ j → j ≤ l → itr f (p - 1) x ≠ itr f (p - 1 + j) x) → PrevOk f x p →
    cBr f h o K (itr f (p - 1) x) (itr f (p - 1 + l) x) p l = b := by
  have hb := c.pos
  have hit : ∀ s,i ≤ s → itr f s x = itr f (s + b) x := fun s hs => (c.per s hs).symm
  intro K
  induction K with
  | zero =>
    intro p l hp hl hK hno hprev
    exfalso
    by_cases hlb : b ≤ l
    · exact hno b (by omega) hlb (hit _ (by omega))
    · rcases hprev with rfl | ⟨p',h1,rfl,h3⟩
      · omega
      · exact h3 b (by omega) (by omega) (hit _ (by omega))
  | succ K ih =>
    intro p l hp hl hK hno hprev
    have key : ∀ q l',itr f (q - 1) x = itr f (q - 1 + (l' + 1)) x → (∀ j,1 ≤ j → j ≤ l' → itr f (q - 1) x ≠ itr f (q - 1 + j) x) → l' + 1 = b := by
      intro q l' e hn
      obtain ⟨h1,h2⟩ := c.ne (by omega) e
      by_cases hlt : b ≤ l'
      · exact absurd (hit _ h1) (hn b (by omega) hlt)
      · omega
    rw [cBr,(hc _).1,(hc _).2,← itr_succ f]
    by_cases e : l = p
    · subst e
      simp only [decide_true,cond_true,cond_false]
      by_cases e2 : itr f (l - 1 + l) x = itr f (l - 1 + l + 1) x
      · rw [decide_eq_true e2]
        have := key (2 * l) 0 (by rw [show 2 * l - 1 = l - 1 + l by omega]; exact e2) (fun j h1 h2 => by omega)
        simpa using this
      · rw [decide_eq_false e2]
        simp only [cond_false]
        have := ih (l * 2) 1 (by omega) (by omega) (by omega) (fun j h1 h2 => by
          have : j = 1 := by omega
          subst this
          rw [show l * 2 - 1 = l - 1 + l by omega]
          exact e2) (.inr ⟨l,hp,by omega,hno⟩)
        rw [show l * 2 - 1 = l - 1 + l by omega] at this
        exact this
    · rw [decide_eq_false e]
      simp only [cond_false]
      by_cases e2 : itr f (p - 1) x = itr f (p - 1 + l + 1) x
      · rw [decide_eq_true e2]
        exact key p l e2 hno
      · rw [decide_eq_false e2]
        simp only [cond_false]
        exact ih p (l + 1) hp (by omega) (by omega) (fun j h1 h2 => by
          by_cases ej : j = l + 1
          · subst ej; exact e2
          · exact hno j h1 (by omega)) hprev
theorem Cyc.st (c : Cyc f x i b) : ∀ (K s : Nat),s ≤ i → i - s < K → cSt f K (itr f s x) (itr f (s + b) x) = i - s := by
  intro K
  induction K with
  | zero => intro s _ h; omega
  | succ K ih =>
    intro s hs hK
    rw [cSt,← itr_succ f,← itr_succ f]
    by_cases e : itr f s x = itr f (s + b) x
    · have := (c.ne c.pos e).1
      rw [decide_eq_true e]
      simp only [cond_true]
      omega
    · rw [decide_eq_false e]
      have hne : s ≠ i := fun e' => e (by rw [e']; exact c.eq)
      simp only [cond_false]
      rw [show s + b + 1 = s + 1 + b by omega,ih (s + 1) (by omega) (by omega)]
      omega
end
end
end Go.Proofs.YtnkeamihfiobdaaGreatDoor
end
