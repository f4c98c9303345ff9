/- Parts of the proof (19 of 21). -/
import Derived.Laws.Slices
import Derived.Test.YtnkeamihfiobdaaGreatDoorQ18
section
set_option linter.unusedVariables false
set_option linter.unusedSimpArgs false
set_option maxRecDepth 100000
namespace Go.Proofs.YtnkeamihfiobdaaGreatDoor
open Go Foot
theorem ext_str (l : Bs) (a b : Nat) : (ByteArray.mk l.toArray).extract a b = ⟨((l.drop a).take (b - a)).toArray⟩ := by
  apply ByteArray.ext
  rw [ByteArray.data_extract]
  simp [List.extract_toArray,List.extract]
section
variable {P : Program} {g : Gh} {st : St} {dst : Option Tmp} {ty : TypeId} {pos : String} {after : Array Edge} {guard : Option (Nat × Bool)} {x lo hi : Operand} {T : TypeId} {a : Bs} {m n : Int}
theorem a_slSl (e1 : opd st x = .one (str a)) (e2 : opd st lo = .one (int m)) (hT : P.underlying T = some .string) (h0 : 0 ≤ m) (h1 : m ≤ a.length) : Acts P g ⟨dst,.slice T x (some lo) none none,ty,pos,after,guard⟩ st (.one (str (a.drop m.toNat))) [] [] := by
  refine acts_of fun ac w S ρ F h => ⟨sv (a.drop m.toNat),?_,⟨rfl,rfl⟩⟩
  show (do pure (.value (← Instr.sliceAt T (ac.eval x) (some (ac.eval lo)) none none)) : Sem Next).run P w = _
  rw [opd_sc h e1,opd_sc h e2]
  have key := run_slice_string_l (P := P) w T (ByteArray.mk a.toArray) hT .i64 m h0 (by rw [sz_str]; exact h1)
  rw [ext_str] at key
  have e : (List.drop m.toNat a).take ((ByteArray.mk a.toArray).size - m.toNat) = a.drop m.toNat := by rw [sz_str,List.take_of_length_le]; rw [List.length_drop]; exact Nat.le_refl _
  rw [e,← run_sliceAt_string (P := P) (w := w) T _ _ _ _ hT] at key
  simp only [Sem.run_bind,key]
  rfl
theorem a_slSm (e1 : opd st x = .one (str a)) (e2 : opd st lo = .one (int m)) (e3 : opd st hi = .one (int n)) (hT : P.underlying T = some .string) (h0 : 0 ≤ m) (h1 : m ≤ n) (h2 : n ≤ a.length) : Acts P g ⟨dst,.slice T x (some lo) (some hi) none,ty,pos,after,guard⟩ st (.one (str ((a.drop m.toNat).take (n.toNat - m.toNat)))) [] [] := by
  refine acts_of fun ac w S ρ F h => ⟨sv ((a.drop m.toNat).take (n.toNat - m.toNat)),?_,⟨rfl,rfl⟩⟩
  show (do pure (.value (← Instr.sliceAt T (ac.eval x) (some (ac.eval lo)) (some (ac.eval hi)) none)) : Sem Next).run P w = _
  rw [opd_sc h e1,opd_sc h e2,opd_sc h e3]
  have key := run_slice_string (P := P) (w := w) T (ByteArray.mk a.toArray) .i64 .i64 m n hT h0 h1 (by rw [sz_str]; exact h2)
  rw [ext_str] at key
  rw [← run_sliceAt_string (P := P) (w := w) T _ _ _ _ hT] at key
  simp only [Sem.run_bind,key]
  rfl
end
end Go.Proofs.YtnkeamihfiobdaaGreatDoor
end
section
set_option linter.unusedVariables false
set_option linter.unusedSimpArgs false
set_option maxRecDepth 100000
set_option maxHeartbeats 1000000
namespace Go.Proofs.YtnkeamihfiobdaaGreatDoor
open Go Foot Go.RowKit
def spZ (c : UInt8) : Bs → List Bs
  | [] => [[]]
  | x :: s => if x = c then [] :: spZ c s else match spZ c s with
    | [] => [[x]]
    | p :: r => (x :: p) :: r
theorem spZ_no {c : UInt8} : ∀ {s : Bs},c ∉ s → spZ c s = [s]
  | [],_ => rfl
  | x :: s,h => by
    rw [spZ,if_neg (fun e => h (by simp [e])),spZ_no (fun q => h (by simp [q]))]
theorem spZ_app {c : UInt8} {b : Bs} : ∀ {a : Bs},c ∉ a → spZ c (a ++ c :: b) = a :: spZ c b
  | [],_ => by simp [spZ]
  | x :: a,h => by
    rw [List.cons_append,spZ,if_neg (fun e => h (by simp [e])),spZ_app (fun q => h (by simp [q]))]
theorem drop_splitZ {s : Bs} {f i : Nat} (hf : f ≤ i) (hi : i < s.length) : s.drop f = (s.take i).drop f ++ s[i] :: s.drop (i + 1) := by
  have e : s.take i ++ s[i] :: s.drop (i + 1) = s := by
    rw [← List.drop_eq_getElem_cons hi,List.take_append_drop]
  conv => lhs; rw [← e]
  rw [List.drop_append_of_le_length (by rw [List.length_take]; omega)]
theorem take_extZ {s : Bs} {f i : Nat} (hf : f ≤ i) (hi : i < s.length) : (s.take (i + 1)).drop f = (s.take i).drop f ++ [s[i]] := by
  rw [List.take_succ_eq_append_getElem hi,List.drop_append_of_le_length (by rw [List.length_take]; omega)]
theorem preB225 {p : Prop} (h : p := by first | with_reducible assumption | omega | (simp only [List.length_append,List.length_cons,List.length_nil,List.length_set,List.length_replicate,List.length_take,List.length_drop,List.length_tail,List.length_dropLast,List.length_reverse] at *; omega) | exact mem_len (by assumption) (by omega) | (with_reducible refine Int.le_trans (Int.ofNat_le.2 (trimR_len _)) ?_; simp only [List.length_cons,List.length_tail]; omega) | (exact (ruAt_ok (by assumption) (by assumption) (by assumption)).2.1) | (exact (ruAt_ok (by assumption) (by assumption) (by assumption)).2.1) | (have := vMach_bd (by assumption); omega) | (simp only [List.length_append,List.length_cons,List.length_nil,repW_len,seN_len] at *; omega) | (simp only [mC_ch,mC_tu]; omega) | (have := vTag_bd (by assumption); omega) | (have := (‹Gd _ _›).le; omega) | (exact tgHalts_no (by assumption)) | (exact tgHead (by assumption) (by assumption) (by assumption)) | (exact Int.le_trans (tgStep_gd (by assumption) (by assumption) (by assumption) (by assumption)).le (by decide)) | (exact vTag_r (by assumption)) | (with_reducible refine Int.le_trans (Int.ofNat_le.2 (pushL_len _ _)) ?_; simp only [List.length_dropLast]; omega) | exact ls_at (by assumption) (by omega) | exact pt_gd (by assumption) | exact lv_at (by assumption) (by omega) | exact pt_gd (lv_at (by assumption) (by omega)) | exact (ask_ok (by assumption)).1 | exact (ask_ok (by assumption)).2.1 | exact (ask_ok (by assumption)).2.2.1 | exact (ask_ok (by assumption)).2.2.2 | trivial) : p := h
theorem splitZ_ok (s : Bs) (c : UInt8) (hs : (s.length : Int) ≤ 1048576) : Does Tryz.prog 100 [.one (str s),.one (u8 ((c.toNat : Nat) : Int))] [] (.one (.gv 0)) [.row 1 (rows eS (spZ c s))] := by
  refine does_of (k := 0) Tryz.func100 rfl Tryz.ntmps100 rfl rfl fun w F0 S0 ρ0 => ?_
  dsimp only [argT,argH]
  repeat' first|(apply n3;exact a_nilO eS rfl;exact rfl)|(apply n3;(exact a_litE eS [] rfl rfl rfl rfl rfl rfl rfl rfl);exact rfl;refine dA ?_)|(apply p3;(exact pu1);exact rfl)|refine cd ?_|fail
  refine g_loop_id ?_
  refine loopK [0,1,4] [1] (fun y : Int × Int × List Bs => 0 ≤ y.1 ∧ y.1 ≤ y.2.1 ∧ y.2.1 ≤ s.length ∧ spZ c s = y.2.2 ++ spZ c (s.drop y.1.toNat) ∧ c ∉ (s.take y.2.1.toNat).drop y.1.toNat ∧ (y.2.2.length : Int) ≤ y.1) (fun y => [(6,.one (int y.1)),(7,.one (int y.2.1)),(5,.one (.gv 1))]) (fun y => [(1,.row 1 (rows eS y.2.2))]) (fun y => (s.length - y.2.1).toNat) ((0 : Int),(0 : Int),([] : List Bs)) [0,1] (hI := ?_) (hr := ?_)
  · exact ⟨by simp,by simp,by simp,by simp,by simp,by simp⟩
  · rintro ⟨f,i,l⟩ ⟨h0,h1,h2,h3,h4,h5⟩
    dsimp only [List.cons_append,List.nil_append] at *
    skip
    repeat' first|(apply n3;(exact a_litE eS [_] rfl rfl rfl rfl rfl rfl rfl rfl);exact rfl;refine dA ?_)|(apply p3;(first|exact pu1|exact a_lenT rfl (fT rfl)|exact puC|exact a_idxS rfl rfl (fT rfl) (by omega) bnd|exact a_cmp8 rfl rfl rfl trivial rfl|exact a_slSm rfl rfl rfl (fT rfl) (by omega) (by omega) bnd|exact a_add rfl rfl (by omega) (by omega)|exact a_slSl rfl rfl (fT rfl) (by omega) bnd);exact rfl)|refine cd ?_|(apply s3;exact a_appE (fP rfl) rfl rfl rfl rfl nowR (by (simp <;> omega)) (by decide) (by decide) (by exact rfl);exact rfl;exact rfl)|((refine g_cond rfl (fun hc => ?_) (fun hc => ?_)) <;> (try simp only [dcB] at hc) <;> (try first|contradiction|(exfalso;omega)))|fail
    · have hi : i.toNat < s.length := by omega
      have hg : s.getD i.toNat 0 = s[i.toNat]'hi := by rw [List.getD_eq_getElem?_getD,List.getElem?_eq_getElem]; rfl
      have hcc : s[i.toNat]'hi = c := by
        rw [← hg]
        apply UInt8.toNat_inj.1
        omega
      have e1 := drop_splitZ (f := f.toNat) (i := i.toNat) (by omega) hi
      rw [hcc] at e1
      rw [e1,spZ_app h4,List.drop_take] at h3
      refine q_again (i + 1,i + 1,l ++ [(s.drop f.toNat).take (i.toNat - f.toNat)]) [0,3] (by exact stk) ?_ ?_
      · refine ⟨by dsimp only; omega,by dsimp only; omega,by dsimp only; omega,?_,by simp,by simp; omega⟩
        dsimp only
        rw [show (i + 1).toNat = i.toNat + 1 by omega,h3]
        simp
      · dsimp only; omega
    · have hi : i.toNat < s.length := by omega
      have hg : s.getD i.toNat 0 = s[i.toNat]'hi := by rw [List.getD_eq_getElem?_getD,List.getElem?_eq_getElem]; rfl
      have hcc : s[i.toNat]'hi ≠ c := by
        rw [← hg]
        intro q
        rw [q] at hc
        omega
      refine q_again (f,i + 1,l) [0,1] (by exact stk) ?_ ?_
      · refine ⟨by dsimp only; omega,by dsimp only; omega,by dsimp only; omega,h3,?_,h5⟩
        dsimp only
        rw [show (i + 1).toNat = i.toNat + 1 by omega,take_extZ (by omega) hi]
        intro q
        rcases List.mem_append.1 q with q | q
        · exact h4 q
        · exact hcc (List.mem_singleton.1 q).symm
      · dsimp only; omega
    · have hin : i = s.length := by omega
      rw [hin,show ((s.length : Int)).toNat = s.length by omega,List.take_length] at h4
      rw [spZ_no h4] at h3
      rw [h3]
      repeat refine cr ?_
      refine ends_id ?_
      refine endK [?_] (h2 := ?_) (h3 := ?_) (nd := ?_)
      rotate_left 1
      all_goals (repeat' first|exact ce0|refine ce ?_|refine ce2 ?_ ?_|(refine Or.inr (bx_eq rfl rfl ?_);(try dsimp only [C.ren,C.ren.all]);(try exact rfl))|exact SVLe.refl|refine ceb ?_)
      all_goals first | exact (show nodupB _ = true from rfl) | exact Or.inr rfl | (rfl)
theorem digitZ_ok (n : Int) (h0 : 48 ≤ n) (h1 : n ≤ 57) : Does Tryz.prog 173 [.one (u8 n)] [] (.one (boo true)) [] := by
  have e := decide_eq_true h1
  refine does_of (k := 0) Tryz.func173 rfl Tryz.ntmps173 rfl rfl fun w F0 S0 ρ0 => ?_
  dsimp only [argT,argH]
  repeat' first|(apply p3;(first|exact pu1|exact a_cmp8 rfl rfl rfl trivial rfl);exact rfl)|refine cd ?_|(apply py3;exact rfl;exact rfl;(first|exact pu1|exact a_cmp8 rfl rfl rfl trivial rfl);exact rfl;exact rfl)|((refine o_gs rfl rfl (fun hc => ?_) (fun hc => ?_)) <;> (try simp only [dcB] at hc) <;> (try first|contradiction|(exfalso;omega)))|fail
  repeat refine cr ?_
  refine ends_id ?_
  refine endK [] (h2 := ?_) (h3 := ?_) (nd := ?_)
  all_goals (repeat' first|exact ce0|refine ce ?_|refine ce2 ?_ ?_|exact SVLe.refl|refine ceb ?_)
  all_goals first | exact (show nodupB _ = true from rfl) | exact Or.inr rfl | ((rw [e]))
theorem numberZ_ok (s : Bs) (hl : s.length = 1) (h0 : 48 ≤ (((s.getD 0 0).toNat : Nat) : Int)) (h1 : (((s.getD 0 0).toNat : Nat) : Int) ≤ 57) : Does Tryz.prog 174 [.one (str s)] [] (.tup [(false,[int ((((s.getD 0 0).toNat : Nat) : Int) - 48)]),(false,[boo true])]) [] := by
  have e0 : s.getD (0 : Int).toNat 0 = s.getD 0 0 := rfl
  rw [← e0] at h0 h1
  rw [← e0]
  by_cases h48 : (((s.getD (0 : Int).toNat 0).toNat : Nat) : Int) = 48
  · skip
    refine does_of (k := 0) Tryz.func174 rfl Tryz.ntmps174 rfl rfl fun w F0 S0 ρ0 => ?_
    dsimp only [argT,argH]
    repeat' first|(apply p3;(first|exact pu1|exact a_lenT rfl (fT rfl)|exact puC);exact rfl)|refine cd ?_|(apply py3;exact rfl;exact rfl;(first|exact pu1|exact a_lenT rfl (fT rfl)|exact puC|exact a_idxS rfl rfl (fT rfl) (by omega) bnd|exact a_cmp8 rfl rfl rfl trivial rfl|exact a_sub rfl rfl (by omega) (by omega));exact rfl;exact rfl)|((first|refine o_gs rfl rfl (fun hc => ?_) (fun hc => ?_)|refine g_cond rfl (fun hc => ?_) (fun hc => ?_)) <;> (try simp only [dcB] at hc) <;> (try first|contradiction|(exfalso;omega)))|fail
    refine g_loop_id ?_
    refine loopK [0,2,3,4] [] (fun y : Int × Int => 0 ≤ y.1 ∧ ((y.1 = 0 ∧ y.2 = 0) ∨ (y.1 = 1 ∧ y.2 = (((s.getD (0 : Int).toNat 0).toNat : Nat) : Int) - 48))) (fun y => [(6,.one (int y.1)),(5,.one (int y.2))]) (fun _ => []) (fun y => (s.length - y.1).toNat) ((0 : Int),(0 : Int)) [] (hI := ?_) (hr := ?_)
    · exact ⟨by simp,.inl ⟨rfl,rfl⟩⟩
    · rintro ⟨i,n⟩ ⟨k0,k1⟩
      dsimp only [List.cons_append,List.nil_append] at *
      skip
      repeat' first|(apply p3;(first|exact pu1|exact a_lenT rfl (fT rfl)|exact puC);exact rfl)|refine cdn ?_|refine g_reg (id := 8) ?_|refine g_reg (id := 13) ?_|refine g_reg (id := 15) ?_|((refine g_cond rfl (fun hc => ?_) (fun hc => ?_)) <;> (try simp only [dcB] at hc) <;> (try first|contradiction|(exfalso;omega)))|fail
      · have hi : i = 0 := by omega
        have hn : n = 0 := by omega
        subst hi hn
        repeat' first|(apply p3;(first|exact pu1|exact a_idxS rfl rfl (fT rfl) (by omega) bnd|exact a_mulB rfl rfl (by omega) (by omega) (by omega) (by omega)|exact a_sub8 rfl rfl (by omega) (by omega)|exact a_of8 rfl Tryz.underlying5 Tryz.underlying2 (by omega) (by first|omega|exact byte_lt _)|exact a_add rfl rfl (by omega) (by omega));exact rfl)|refine cd ?_|(apply c4 0;exact callK1 (θ := []) (hD := (digitZ_ok _ preB225 preB225));exact rfl;exact rfl;exact rfl;refine dM ?_)|fail
        refine q_again ((1 : Int),(((s.getD (0 : Int).toNat 0).toNat : Nat) : Int) - 48) [] (by exact stk) ?_ ?_
        · dsimp only
          exact ⟨by omega,.inr ⟨rfl,rfl⟩⟩
        · dsimp only; omega
      · have hn : n = (((s.getD (0 : Int).toNat 0).toNat : Nat) : Int) - 48 := by omega
        subst hn
        repeat refine cr ?_
        refine ends_id ?_
        refine endK [] (h2 := ?_) (h3 := ?_) (nd := ?_)
        all_goals (repeat' first|exact ce0|refine ce ?_|refine ce2 ?_ ?_|exact SVLe.refl|refine ceb ?_)
        all_goals first | exact (show nodupB _ = true from rfl) | exact Or.inr rfl | (rfl)
  · skip
    refine does_of (k := 0) Tryz.func174 rfl Tryz.ntmps174 rfl rfl fun w F0 S0 ρ0 => ?_
    dsimp only [argT,argH]
    repeat' first|(apply p3;(first|exact pu1|exact a_lenT rfl (fT rfl)|exact puC);exact rfl)|refine cd ?_|refine o_no rfl rfl rfl rfl ?_|(apply py3;exact rfl;exact rfl;(first|exact pu1|exact a_lenT rfl (fT rfl)|exact puC|exact a_idxS rfl rfl (fT rfl) (by omega) bnd|exact a_cmp8 rfl rfl rfl trivial rfl|exact a_sub rfl rfl (by omega) (by omega));exact rfl;exact rfl)|((first|refine o_gs rfl rfl (fun hc => ?_) (fun hc => ?_)|refine g_cond rfl (fun hc => ?_) (fun hc => ?_)) <;> (try simp only [dcB] at hc) <;> (try first|contradiction|(exfalso;omega)))|fail
    refine g_loop_id ?_
    refine loopK [0,2,3,4] [] (fun y : Int × Int => 0 ≤ y.1 ∧ ((y.1 = 0 ∧ y.2 = 0) ∨ (y.1 = 1 ∧ y.2 = (((s.getD (0 : Int).toNat 0).toNat : Nat) : Int) - 48))) (fun y => [(6,.one (int y.1)),(5,.one (int y.2))]) (fun _ => []) (fun y => (s.length - y.1).toNat) ((0 : Int),(0 : Int)) [] (hI := ?_) (hr := ?_)
    · exact ⟨by simp,.inl ⟨rfl,rfl⟩⟩
    · rintro ⟨i,n⟩ ⟨k0,k1⟩
      dsimp only [List.cons_append,List.nil_append] at *
      skip
      repeat' first|(apply p3;(first|exact pu1|exact a_lenT rfl (fT rfl)|exact puC);exact rfl)|refine cdn ?_|refine g_reg (id := 8) ?_|refine g_reg (id := 13) ?_|refine g_reg (id := 15) ?_|((refine g_cond rfl (fun hc => ?_) (fun hc => ?_)) <;> (try simp only [dcB] at hc) <;> (try first|contradiction|(exfalso;omega)))|fail
      · have hi : i = 0 := by omega
        have hn : n = 0 := by omega
        subst hi hn
        repeat' first|(apply p3;(first|exact pu1|exact a_idxS rfl rfl (fT rfl) (by omega) bnd|exact a_mulB rfl rfl (by omega) (by omega) (by omega) (by omega)|exact a_sub8 rfl rfl (by omega) (by omega)|exact a_of8 rfl Tryz.underlying5 Tryz.underlying2 (by omega) (by first|omega|exact byte_lt _)|exact a_add rfl rfl (by omega) (by omega));exact rfl)|refine cd ?_|(apply c4 0;exact callK1 (θ := []) (hD := (digitZ_ok _ preB225 preB225));exact rfl;exact rfl;exact rfl;refine dM ?_)|fail
        refine q_again ((1 : Int),(((s.getD (0 : Int).toNat 0).toNat : Nat) : Int) - 48) [] (by exact stk) ?_ ?_
        · dsimp only
          exact ⟨by omega,.inr ⟨rfl,rfl⟩⟩
        · dsimp only; omega
      · have hn : n = (((s.getD (0 : Int).toNat 0).toNat : Nat) : Int) - 48 := by omega
        subst hn
        repeat refine cr ?_
        refine ends_id ?_
        refine endK [] (h2 := ?_) (h3 := ?_) (nd := ?_)
        all_goals (repeat' first|exact ce0|refine ce ?_|refine ce2 ?_ ?_|exact SVLe.refl|refine ceb ?_)
        all_goals first | exact (show nodupB _ = true from rfl) | exact Or.inr rfl | (rfl)
end Go.Proofs.YtnkeamihfiobdaaGreatDoor
end
section
set_option linter.unusedVariables false
set_option linter.unusedSimpArgs false
set_option maxRecDepth 100000
set_option maxHeartbeats 1000000
namespace Go.Proofs.YtnkeamihfiobdaaGreatDoor
open Go Foot Go.RowKit
structure RzOk (s : Bs) : Prop where
  l : s.length = 3
  a0 : 48 ≤ (((s.getD (0 : Int).toNat 0).toNat : Nat) : Int)
  a1 : (((s.getD (0 : Int).toNat 0).toNat : Nat) : Int) ≤ 57
  b : (((s.getD (1 : Int).toNat 0).toNat : Nat) : Int) = 76 ∨ (((s.getD (1 : Int).toNat 0).toNat : Nat) : Int) = 82
  c0 : 48 ≤ (((s.getD 2 0).toNat : Nat) : Int)
  c1 : (((s.getD 2 0).toNat : Nat) : Int) ≤ 57
@[irreducible] def rzR (s : Bs) : Rule' := ⟨(((s.getD (0 : Int).toNat 0).toNat : Nat) : Int) - 48,if (((s.getD (1 : Int).toNat 0).toNat : Nat) : Int) = 76 then -1 else 1,(((s.getD 2 0).toNat : Nat) : Int) - 48⟩
@[irreducible] def isDgZ (n : Int) : Bool := decide (48 ≤ n ∧ n ≤ 57)
theorem isDgZ_y {n : Int} (h : 48 ≤ n) (h1 : n ≤ 57) : isDgZ n = true := by unfold isDgZ; exact decide_eq_true ⟨h,h1⟩
theorem digitG_ok (n : Int) : Does Tryz.prog 173 [.one (u8 n)] [] (.one (boo (isDgZ n))) [] := by
  by_cases h : 48 ≤ n
  · have e : isDgZ n = decide (n ≤ 57) := by unfold isDgZ; simp [h]
    rw [e]
    refine does_of (k := 0) Tryz.func173 rfl Tryz.ntmps173 rfl rfl fun w F0 S0 ρ0 => ?_
    dsimp only [argT,argH]
    repeat' first|(apply p3;(first|exact pu1|exact a_cmp8 rfl rfl rfl trivial rfl);exact rfl)|refine cd ?_|(apply py3;exact rfl;exact rfl;(first|exact pu1|exact a_cmp8 rfl rfl rfl trivial rfl);exact rfl;exact rfl)|((refine o_gs rfl rfl (fun hc => ?_) (fun hc => ?_)) <;> (try simp only [dcB] at hc) <;> (try first|contradiction|(exfalso;omega)))|fail
    repeat refine cr ?_
    refine ends_id ?_
    refine endK [] (h2 := ?_) (h3 := ?_) (nd := ?_)
    all_goals (repeat' first|exact ce0|refine ce ?_|refine ce2 ?_ ?_|exact SVLe.refl|refine ceb ?_)
    all_goals first | exact (show nodupB _ = true from rfl) | exact Or.inr rfl | (rfl)
  · have e : isDgZ n = false := by unfold isDgZ; simp [h]
    rw [e]
    refine does_of (k := 0) Tryz.func173 rfl Tryz.ntmps173 rfl rfl fun w F0 S0 ρ0 => ?_
    dsimp only [argT,argH]
    repeat' first|(apply p3;(first|exact pu1|exact a_cmp8 rfl rfl rfl trivial rfl);exact rfl)|refine cd ?_|refine o_no rfl rfl rfl rfl ?_|((refine o_gs rfl rfl (fun hc => ?_) (fun hc => ?_)) <;> (try simp only [dcB] at hc) <;> (try first|contradiction|(exfalso;omega)))|fail
    repeat refine cr ?_
    refine ends_id ?_
    refine endK [] (h2 := ?_) (h3 := ?_) (nd := ?_)
    all_goals (repeat' first|exact ce0|refine ce ?_|refine ce2 ?_ ?_|exact SVLe.refl|refine ceb ?_)
    all_goals first | exact (show nodupB _ = true from rfl) | exact Or.inr rfl | (rfl)
theorem ruleZ_ok (s : Bs) (g : RzOk s) : Does Tryz.prog 101 [.one (str s)] [] (.tup [(true,ruC (rzR s)),(false,[boo true])]) [] := by
  have h3 : ¬ s = [45,45,45] := by
    rintro rfl
    exact absurd g.a0 (by decide)
  have hl : ¬ (s.length : Int) < 3 := by have := g.l; omega
  have hd := isDgZ_y g.a0 g.a1
  have hdn : ¬ isDgZ (((s.getD (0 : Int).toNat 0).toNat : Nat) : Int) = false := by rw [hd]; decide
  have hdl : (s.drop (2 : Int).toNat).length = 1 := by rw [List.length_drop,g.l]; rfl
  have hdq : (s.drop (2 : Int).toNat).getD 0 0 = s.getD 2 0 := by
    rw [List.getD_eq_getElem?_getD,List.getD_eq_getElem?_getD,List.getElem?_drop]
    rfl
  by_cases h76 : (((s.getD (1 : Int).toNat 0).toNat : Nat) : Int) = 76
  · have e : rzR s = ⟨(((s.getD (0 : Int).toNat 0).toNat : Nat) : Int) - 48,-1,(((s.getD 2 0).toNat : Nat) : Int) - 48⟩ := by unfold rzR; rw [if_pos h76]
    rw [e]
    clear e
    refine does_of (k := 0) Tryz.func101 rfl Tryz.ntmps101 rfl rfl fun w F0 S0 ρ0 => ?_
    dsimp only [argT,argH]
    repeat' first|(apply n3;exact a_new (gb := .bx _) rfl;exact rfl;refine dA ?_)|(apply p3;(first|exact pu1|exact a_eqT rfl rfl|exact a_lenT rfl (fT rfl)|exact puC);exact rfl)|refine cdn ?_|refine g_reg (id := 0) ?_|refine g_reg (id := 1) ?_|refine g_reg (id := 3) ?_|refine o_no rfl rfl rfl rfl ?_|(apply py3;exact rfl;exact rfl;(first|exact pu1|exact a_idxS rfl rfl (fT rfl) (by omega) bnd|exact a_ne8 rfl rfl);exact rfl;exact rfl)|(apply cy4 0;exact rfl;exact rfl;exact callK1 (θ := []) (hD := (digitG_ok _));exact rfl;exact rfl;exact rfl;exact rfl;refine dM ?_)|((first|refine o_gs rfl rfl (fun hc => ?_) (fun hc => ?_)|refine g_cond rfl (fun hc => ?_) (fun hc => ?_)) <;> (try simp only [dcB] at hc) <;> (try first|contradiction|(exfalso;omega)))|fail
    have a0 := g.a0
    have a1 := g.a1
    have c0 := g.c0
    have c1 := g.c1
    have d0 : 48 ≤ ((((s.drop (2 : Int).toNat).getD 0 0).toNat : Nat) : Int) := by rw [hdq]; exact c0
    have d1 : ((((s.drop (2 : Int).toNat).getD 0 0).toNat : Nat) : Int) ≤ 57 := by rw [hdq]; exact c1
    repeat' first|(apply p3;(first|exact pu1|exact a_slSl rfl rfl (fT rfl) (by omega) bnd);exact rfl)|refine cdn ?_|refine g_reg (id := 5) ?_|(apply c4 0;exact callK1 (θ := []) (hD := (numberZ_ok _ hdl d0 d1));exact rfl;exact rfl;exact rfl;refine dM ?_)|fail
    rw [hdq]
    repeat' first|(apply n3;exact a_new (gb := .bx _) rfl;exact rfl;refine dA ?_)|(apply p3;(first|exact pu1|exact a_idxS rfl rfl (fT rfl) (by omega) bnd|exact a_sub8 rfl rfl (by omega) (by omega)|exact a_of8 rfl Tryz.underlying5 Tryz.underlying2 (by omega) (by first|omega|exact byte_lt _)|exact a_cmp8 rfl rfl rfl trivial rfl);exact rfl)|refine cd ?_|(apply w3;(exact a_st_bx rfl rfl rfl rfl (fN rfl rfl) (Nat.le_of_ble_eq_true rfl) rfl);exact rfl;refine dS ?_)|(apply py3;exact rfl;exact rfl;(first|exact pu1|exact puC);exact rfl;exact rfl)|((refine g_cond rfl (fun hc => ?_) (fun hc => ?_)) <;> (try simp only [dcB] at hc) <;> (try first|contradiction|(exfalso;omega)))|fail
    repeat refine cr ?_
    refine ends_id ?_
    refine endK [] (h2 := ?_) (h3 := ?_) (nd := ?_)
    all_goals (repeat' first|exact ce0|refine ce ?_|refine ce2 ?_ ?_|exact SVLe.refl|refine ceb ?_)
    all_goals first | exact (show nodupB _ = true from rfl) | exact Or.inr rfl | ((first | rfl | (symm; rw [decide_eq_true_eq]; omega) | (rw [decide_eq_true_eq]; omega)))
  · have h82 := g.b.resolve_left h76
    have e : rzR s = ⟨(((s.getD (0 : Int).toNat 0).toNat : Nat) : Int) - 48,1,(((s.getD 2 0).toNat : Nat) : Int) - 48⟩ := by unfold rzR; rw [if_neg h76]
    rw [e]
    clear e
    refine does_of (k := 0) Tryz.func101 rfl Tryz.ntmps101 rfl rfl fun w F0 S0 ρ0 => ?_
    dsimp only [argT,argH]
    repeat' first|(apply n3;exact a_new (gb := .bx _) rfl;exact rfl;refine dA ?_)|(apply p3;(first|exact pu1|exact a_eqT rfl rfl|exact a_lenT rfl (fT rfl)|exact puC);exact rfl)|refine cdn ?_|refine g_reg (id := 0) ?_|refine g_reg (id := 1) ?_|refine g_reg (id := 3) ?_|(apply py3;exact rfl;exact rfl;(first|exact pu1|exact a_idxS rfl rfl (fT rfl) (by omega) bnd|exact a_ne8 rfl rfl);exact rfl;exact rfl)|(apply cy4 0;exact rfl;exact rfl;exact callK1 (θ := []) (hD := (digitG_ok _));exact rfl;exact rfl;exact rfl;exact rfl;refine dM ?_)|((first|refine o_gs rfl rfl (fun hc => ?_) (fun hc => ?_)|refine g_cond rfl (fun hc => ?_) (fun hc => ?_)) <;> (try simp only [dcB] at hc) <;> (try first|contradiction|(exfalso;omega)))|fail
    have a0 := g.a0
    have a1 := g.a1
    have c0 := g.c0
    have c1 := g.c1
    have d0 : 48 ≤ ((((s.drop (2 : Int).toNat).getD 0 0).toNat : Nat) : Int) := by rw [hdq]; exact c0
    have d1 : ((((s.drop (2 : Int).toNat).getD 0 0).toNat : Nat) : Int) ≤ 57 := by rw [hdq]; exact c1
    repeat' first|(apply p3;(first|exact pu1|exact a_slSl rfl rfl (fT rfl) (by omega) bnd);exact rfl)|refine cdn ?_|refine g_reg (id := 5) ?_|(apply c4 0;exact callK1 (θ := []) (hD := (numberZ_ok _ hdl d0 d1));exact rfl;exact rfl;exact rfl;refine dM ?_)|fail
    rw [hdq]
    repeat' first|(apply n3;exact a_new (gb := .bx _) rfl;exact rfl;refine dA ?_)|(apply p3;(first|exact pu1|exact a_idxS rfl rfl (fT rfl) (by omega) bnd|exact a_sub8 rfl rfl (by omega) (by omega)|exact a_of8 rfl Tryz.underlying5 Tryz.underlying2 (by omega) (by first|omega|exact byte_lt _)|exact a_cmp8 rfl rfl rfl trivial rfl);exact rfl)|refine cd ?_|(apply w3;(exact a_st_bx rfl rfl rfl rfl (fN rfl rfl) (Nat.le_of_ble_eq_true rfl) rfl);exact rfl;refine dS ?_)|(apply py3;exact rfl;exact rfl;(first|exact pu1|exact puC);exact rfl;exact rfl)|((refine g_cond rfl (fun hc => ?_) (fun hc => ?_)) <;> (try simp only [dcB] at hc) <;> (try first|contradiction|(exfalso;omega)))|fail
    repeat refine cr ?_
    refine ends_id ?_
    refine endK [] (h2 := ?_) (h3 := ?_) (nd := ?_)
    all_goals (repeat' first|exact ce0|refine ce ?_|refine ce2 ?_ ?_|exact SVLe.refl|refine ceb ?_)
    all_goals first | exact (show nodupB _ = true from rfl) | exact Or.inr rfl | ((first | rfl | (symm; rw [decide_eq_true_eq]; omega) | (rw [decide_eq_true_eq]; omega)))
theorem ruleZN_ok (s : Bs) (h : s = [45,45,45]) : Does Tryz.prog 101 [.one (str s)] [] (.tup [(true,ruC noR),(false,[boo true])]) [] := by
  refine does_of (k := 0) Tryz.func101 rfl Tryz.ntmps101 rfl rfl fun w F0 S0 ρ0 => ?_
  dsimp only [argT,argH]
  repeat' first|(apply n3;exact a_new (gb := .bx _) rfl;exact rfl;refine dA ?_)|(apply p3;(first|exact pu1|exact a_eqT rfl rfl);exact rfl)|refine cd ?_|(apply w3;(exact a_st_bx rfl rfl rfl rfl (fN rfl rfl) (Nat.le_of_ble_eq_true rfl) rfl);exact rfl;refine dS ?_)|(apply c4 0;exact callK1 (θ := []) (hD := l05None_ok);exact rfl;exact rfl;exact rfl;refine dM ?_)|((refine g_cond rfl (fun hc => ?_) (fun hc => ?_)) <;> (try simp only [dcB] at hc) <;> (try first|contradiction|(exfalso;omega)))|fail
  repeat refine cr ?_
  refine ends_id ?_
  refine endK [] (h2 := ?_) (h3 := ?_) (nd := ?_)
  all_goals (repeat' first|exact ce0|refine ce ?_|refine ce2 ?_ ?_|exact SVLe.refl|refine ceb ?_)
  all_goals first | exact (show nodupB _ = true from rfl) | exact Or.inr rfl | (rfl)
end Go.Proofs.YtnkeamihfiobdaaGreatDoor
end
section
set_option linter.unusedVariables false
set_option linter.unusedSimpArgs false
set_option maxRecDepth 100000
set_option maxHeartbeats 1000000
namespace Go.Proofs.YtnkeamihfiobdaaGreatDoor
open Go Foot Go.RowKit
@[irreducible] def rzX (s : Bs) : Rule' := if s = [45,45,45] then noR else rzR s
structure CeOk (s : Bs) : Prop where
  o : s = [45,45,45] ∨ RzOk s
theorem ruleX_ok (s : Bs) (h : CeOk s) : Does Tryz.prog 101 [.one (str s)] [] (.tup [(true,ruC (rzX s)),(false,[boo true])]) [] := by
  by_cases h1 : s = [45,45,45]
  · have e : rzX s = noR := by unfold rzX; rw [if_pos h1]
    rw [e]
    exact ruleZN_ok s h1
  · have e : rzX s = rzR s := by unfold rzX; rw [if_neg h1]
    rw [e]
    exact ruleZ_ok s (h.o.resolve_left h1)
def rwZ (ps : List Bs) : List Rule' := ps.flatMap fun r => (spZ 44 r).map rzX
theorem rwZ_snoc (ps : List Bs) (r : Bs) : rwZ (ps ++ [r]) = rwZ ps ++ (spZ 44 r).map rzX := by unfold rwZ; rw [List.flatMap_append,List.flatMap_singleton]
structure TxOk (ps : List Bs) : Prop where
  n : ps.length = 2
  c : ∀ r ∈ ps,(r.length : Int) ≤ 100 ∧ (spZ 44 r).length = 2 ∧ ∀ x ∈ spZ 44 r,CeOk x
  v : vMach ⟨2,2,rwZ ps⟩ = true
theorem rwZ_len {ps : List Bs} (g : TxOk ps) : ∀ k,k ≤ 2 → (rwZ (ps.take k)).length = 2 * k
  | 0,_ => rfl
  | k + 1,h => by
    have hk : k < ps.length := by have := g.n; omega
    rw [List.take_succ_eq_append_getElem hk,rwZ_snoc,List.length_append,rwZ_len g k (by omega),List.length_map,(g.c _ (List.getElem_mem hk)).2.1]
    omega
theorem readZ_ok (s : Bs) (ps : List Bs) (hs : (s.length : Int) ≤ 1048576) (eps : ps = spZ 59 s) (g : TxOk ps) : Does Tryz.prog 38 [.one (str s)] [] (.tup [(true,[int 2,int 2,.gv 0]),(false,[boo true])]) [.row 3 (rows eR (rwZ ps))] := by
  have hp := g.n
  have hp0 : 0 < ps.length := by omega
  have hz := g.c _ (List.getElem_mem hp0)
  have hz1 : ((ps[(0 : Int).toNat * 1]'hp0).length : Int) ≤ 1048576 := by show ((ps[0]'hp0).length : Int) ≤ 1048576; omega
  have hf : ((spZ 44 (ps[(0 : Int).toNat * 1]'hp0)).length : Int) = 2 := by
    show ((spZ 44 (ps[0]'hp0)).length : Int) = 2
    omega
  have hpl : (ps.length : Int) = 2 := by omega
  refine does_of (k := 0) Tryz.func38 rfl Tryz.ntmps38 rfl rfl fun w F0 S0 ρ0 => ?_
  dsimp only [argT,argH]
  repeat' first|(apply n3;exact a_new (gb := .bx _) rfl;exact rfl;refine dA ?_)|(apply p3;exact pu1;exact rfl)|refine cdn ?_|refine g_reg (id := 0) ?_|refine g_reg (id := 1) ?_|(apply c4 1;exact callK1 (θ := []) (hD := (splitZ_ok s 59 hs));exact rfl;exact rfl;exact rfl;refine dM ?_)|fail
  rw [← eps]
  repeat' first|(apply n3;exact a_new (gb := .bx _) rfl;exact rfl;refine dA ?_)|(apply p3;(first|exact pu1|exact puN|exact puC|exact a_ld_rowS rfl rfl rfl (fC rfl) bnd|exact puI);exact rfl)|refine cdn ?_|refine g_reg (id := 2) ?_|refine g_reg (id := 4) ?_|(apply w3;(exact a_st_bx rfl rfl rfl rfl (fN rfl rfl) (Nat.le_of_ble_eq_true rfl) rfl);exact rfl;refine dS ?_)|(apply c4 1;exact callK1 (θ := []) (hD := (splitZ_ok _ 44 hz1));exact rfl;exact rfl;exact rfl;refine dM ?_)|((refine g_cond rfl (fun hc => ?_) (fun hc => ?_)) <;> (try simp only [dcB] at hc) <;> (try first|contradiction|(exfalso;omega)))|fail
  refine g_conv (t_nilB (i := 3) (k := 2) (z := 3) rfl rfl rfl (by decide)) ?_
  try dsimp only [setRow,List.map_cons,List.map_nil,scC,List.set_cons_zero,List.set_cons_succ,Nat.reduceAdd]
  try simp only [setRow,List.map_cons,List.map_nil,scC,List.set_cons_zero,List.set_cons_succ,Nat.zero_add,List.getElem?_cons_zero,List.getElem?_cons_succ,List.take_succ_cons,List.take_zero,List.drop_zero]
  rw [hf,hpl]
  repeat' first|(apply p3;(exact pu1);exact rfl)|refine cd ?_|fail
  refine g_loop_id ?_
  refine loopK [2,3,4,5] [3,4] (fun y : Int × List Rule' => 0 ≤ y.1 ∧ y.1 ≤ ps.length ∧ y.2 = rwZ (ps.take y.1.toNat)) (fun y => [(6,.one (int y.1))]) (fun y => [(3,.bx [int 2,int 2,.gv 4]),(4,.row 3 (rows eR y.2))]) (fun y => (ps.length - y.1).toNat) ((0 : Int),([] : List Rule')) [0,1,2,3,4] (hI := ?_) (hr := ?_)
  · exact ⟨by simp,by simp,by simp [rwZ]⟩
  · rintro ⟨i,l⟩ ⟨h0,h1,h3⟩
    dsimp only [List.cons_append,List.nil_append] at *
    skip
    repeat' first|(apply p3;(first|exact pu1|exact puN|exact puC);exact rfl)|refine cdn ?_|refine g_reg (id := 6) ?_|refine g_reg (id := 18) ?_|((refine g_cond rfl (fun hc => ?_) (fun hc => ?_)) <;> (try simp only [dcB] at hc) <;> (try first|contradiction|(exfalso;omega)))|fail
    · have hi : i.toNat < ps.length := by omega
      have hx := g.c _ (List.getElem_mem hi)
      have hi1 : i.toNat * 1 < ps.length := by omega
      have hx2 : ((ps[i.toNat * 1]'hi1).length : Int) ≤ 1048576 := by simp only [Nat.mul_one]; omega
      obtain ⟨cs,ecs⟩ : ∃ cs,cs = spZ 44 (ps[i.toNat]'hi) := ⟨_,rfl⟩
      rw [← ecs] at hx
      obtain ⟨hxa,hcl,hce⟩ := hx
      have hnext : rwZ (ps.take (i + 1).toNat) = l ++ cs.map rzX := by
        rw [show (i + 1).toNat = i.toNat + 1 by omega,List.take_succ_eq_append_getElem hi,rwZ_snoc,← h3,ecs]
      have hll : l.length = 2 * i.toNat := by rw [h3]; exact rwZ_len g _ (by omega)
      have hcl2 : (cs.length : Int) = 2 := by omega
      repeat' first|(apply p3;(first|exact pu1|exact a_ld_rowS rfl rfl rfl (fC rfl) bnd|exact puI);exact rfl)|refine cdn ?_|refine g_reg (id := 8) ?_|(apply c4 1;exact callK1 (θ := []) (hD := (splitZ_ok (ps[i.toNat * 1]'hi1) 44 hx2));exact rfl;exact rfl;exact rfl;refine dM ?_)|fail
      simp only [Nat.mul_one]
      rw [← ecs]
      repeat' first|(apply p3;(first|exact pu1|exact puN|exact a_ne rfl rfl);exact rfl)|refine cd ?_|(apply py3;exact rfl;exact rfl;(first|exact pu1|exact puC);exact rfl;exact rfl)|((refine o_gs rfl rfl (fun hc => ?_) (fun hc => ?_)) <;> (try simp only [dcB] at hc) <;> (try first|contradiction|(exfalso;omega)))|fail
      try simp only [setRow,List.map_cons,List.map_nil,scC,List.set_cons_zero,List.set_cons_succ,Nat.zero_add,List.getElem?_cons_zero,List.getElem?_cons_succ,List.take_succ_cons,List.take_zero,List.drop_zero]
      refine g_loop_id ?_
      refine loopK [2,3,4,5,6,7] [3,4] (fun z : Int × List Rule' => 0 ≤ z.1 ∧ z.1 ≤ cs.length ∧ z.2 = l ++ (cs.take z.1.toNat).map rzX) (fun z => [(8,.one (int z.1))]) (fun z => [(3,.bx [int 2,int 2,.gv 4]),(4,.row 3 (rows eR z.2))]) (fun z => (cs.length - z.1).toNat) ((0 : Int),l) [0,1,2,3,4,5] (hI := ?_) (hr := ?_)
      · exact ⟨by simp,by simp,by simp⟩
      · rintro ⟨j,u⟩ ⟨j0,j1,j3⟩
        dsimp only [List.cons_append,List.nil_append] at *
        skip
        repeat' first|(apply p3;(first|exact pu1|exact puN|exact puC|exact a_add rfl rfl (by omega) (by omega));exact rfl)|refine cdn ?_|refine g_reg (id := 12) ?_|refine g_reg (id := 7) ?_|((refine g_cond rfl (fun hc => ?_) (fun hc => ?_)) <;> (try simp only [dcB] at hc) <;> (try first|contradiction|(exfalso;omega)))|fail
        · have hj : j.toNat < cs.length := by omega
          have hj2 : j.toNat * 1 < cs.length := by omega
          have hy : CeOk (cs[j.toNat * 1]'hj2) := hce _ (List.getElem_mem hj2)
          have hul : (u.length : Int) ≤ 16777216 := by rw [j3,List.length_append,List.length_map,List.length_take]; omega
          repeat' first|(apply n3;exact a_new (gb := .bx _) rfl;exact rfl;refine dA ?_)|(apply p3;(first|exact pu1|exact a_ld_rowS rfl rfl rfl (fC rfl) bnd|exact puI);exact rfl)|refine cdn ?_|refine g_reg (id := 14) ?_|(apply w3;(exact a_st_bx rfl rfl rfl rfl (fN rfl rfl) (Nat.le_of_ble_eq_true rfl) rfl);exact rfl;refine dS ?_)|(apply c4 0;exact callK1 (θ := []) (hD := (ruleX_ok (cs[j.toNat * 1]'hj2) hy));exact rfl;exact rfl;exact rfl;refine dM ?_)|fail
          simp only [Nat.mul_one]
          repeat' first|(apply n3;(exact a_litE eR [⟨_,_,_⟩] rfl rfl rfl rfl rfl rfl rfl rfl);exact rfl;refine dA ?_)|(apply p3;(first|exact pu1|exact a_add rfl rfl (by omega) (by omega));exact rfl)|refine cd ?_|(apply s3;exact a_appE (fP rfl) rfl rfl rfl rfl nowR (by (simp <;> omega)) (by decide) (by decide) (by exact rfl);exact rfl;exact rfl)|(apply w3;(exact a_st_bx rfl rfl rfl rfl (fN rfl rfl) (Nat.le_of_ble_eq_true rfl) rfl);exact rfl;refine dS ?_)|fail
          try simp only [setRow,List.map_cons,List.map_nil,scC,List.set_cons_zero,List.set_cons_succ,Nat.zero_add,List.getElem?_cons_zero,List.getElem?_cons_succ,List.take_succ_cons,List.take_zero,List.drop_zero]
          refine q_again (j + 1,u ++ [rzX (cs[j.toNat]'hj)]) [0,1,2,3,8,5] (by exact stk) ?_ ?_
          · refine ⟨by dsimp only; omega,by dsimp only; omega,?_⟩
            dsimp only
            rw [j3,show (j + 1).toNat = j.toNat + 1 by omega,List.take_succ_eq_append_getElem hj,List.map_append,List.append_assoc]
            rfl
          · dsimp only; omega
        · rw [List.take_of_length_le (by omega)] at j3
          subst j3
          refine q_again (i + 1,l ++ cs.map rzX) [0,1,2,3,4] (by exact stk) ?_ ?_
          · exact ⟨by dsimp only; omega,by dsimp only; omega,hnext.symm⟩
          · dsimp only; omega
    · rw [List.take_of_length_le (by omega)] at h3
      subst h3
      have hM : ((rwZ ps).length : Int) ≤ 16777216 := by
        have := rwZ_len g 2 (by omega)
        rw [List.take_of_length_le (by omega)] at this
        omega
      try simp only [setRow,List.map_cons,List.map_nil,scC,List.set_cons_zero,List.set_cons_succ,Nat.zero_add,List.getElem?_cons_zero,List.getElem?_cons_succ,List.take_succ_cons,List.take_zero,List.drop_zero]
      have hv := g.v
      have hvn : ¬ vMach ⟨2,2,rwZ ps⟩ = false := by rw [hv]; decide
      repeat' first|(apply p3;(exact pu1);exact rfl)|refine cd ?_|(apply w3;(exact a_st_bx rfl rfl rfl rfl (fN rfl rfl) (Nat.le_of_ble_eq_true rfl) rfl);exact rfl;refine dS ?_)|(apply c4 0;exact callK1 (θ := []) (hD := (l05Is_ok ⟨2,2,rwZ ps⟩ hM));exact rfl;exact rfl;exact rfl;refine dM ?_)|((refine g_cond rfl (fun hc => ?_) (fun hc => ?_)) <;> (try simp only [dcB] at hc) <;> (try first|contradiction|(exfalso;omega)))|fail
      repeat refine cr ?_
      refine ends_id ?_
      refine endK [?_] (h2 := ?_) (h3 := ?_) (nd := ?_)
      rotate_left 1
      all_goals (repeat' first|exact ce0|refine ce ?_|refine ce2 ?_ ?_|(refine Or.inr (bx_eq rfl rfl ?_);(try dsimp only [C.ren,C.ren.all]);(try exact rfl))|exact SVLe.refl|refine ceb ?_)
      all_goals first | exact (show nodupB _ = true from rfl) | exact Or.inr rfl | (rfl)
end Go.Proofs.YtnkeamihfiobdaaGreatDoor
end
section
set_option linter.unusedVariables false
set_option linter.unusedSimpArgs false
set_option maxRecDepth 100000
set_option maxHeartbeats 4000000
namespace Go.Proofs.YtnkeamihfiobdaaGreatDoor
open Go Foot
structure DsOk (s : Src) (sy st : Int) : Prop where
  src : SrOk (dsO s sy st).2
  lo : s.pl ≤ (dsO s sy st).2.pl
  hi : (dsO s sy st).2.pl ≤ s.pl + 8 * (sy * st)
  len : ((dsO s sy st).1.length : Int) = sy * st
  ok : ∀ x ∈ (dsO s sy st).1,okRule sy st x = true
theorem dsO_ok {s : Src} {sy st : Int} (g : SrOk s) (h : s.pl ≤ 100000000000000000) (h1 : 1 ≤ sy) (h3 : 1 ≤ st) (hN : 0 ≤ sy * st) (hN2 : sy * st ≤ 36) : DsOk s sy st := by
  have k1 := dsF_ok h1 h3 (sy * st).toNat s [] g (by omega) (by simp)
  have k2 := dsF_pl sy st (sy * st).toNat s []
  have k3 := dsF_len sy st (sy * st).toNat s []
  rw [List.length_nil] at k3
  have e : dsF sy st (sy * st).toNat s [] = dsO s sy st := by unfold dsO; rfl
  rw [e] at k1 k2 k3
  exact ⟨k1.1,k2.1,by omega,by omega,k1.2⟩
end Go.Proofs.YtnkeamihfiobdaaGreatDoor
end
section
set_option linter.unusedVariables false
set_option linter.unusedSimpArgs false
set_option maxRecDepth 100000
set_option maxHeartbeats 1000000
namespace Go.Proofs.YtnkeamihfiobdaaGreatDoor
open Go Foot Go.RowKit
abbrev txR : Bs := [49,82,49,44,49,76,49,59,49,76,48,44,45,45,45]
abbrev ruA : List Rule' := [⟨1,1,1⟩,⟨1,-1,1⟩,⟨1,-1,0⟩,noR]
theorem rz_1 : rzX [49,82,49] = ⟨1,1,1⟩ := by
  unfold rzX
  rw [if_neg (by decide)]
  unfold rzR
  rfl
theorem rz_2 : rzX [49,76,49] = ⟨1,-1,1⟩ := by
  unfold rzX
  rw [if_neg (by decide)]
  unfold rzR
  rfl
theorem rz_3 : rzX [49,76,48] = ⟨1,-1,0⟩ := by
  unfold rzX
  rw [if_neg (by decide)]
  unfold rzR
  rfl
theorem rz_4 : rzX [45,45,45] = noR := by
  unfold rzX
  rw [if_pos rfl]
theorem sp_1 : spZ 59 txR = [[49,82,49,44,49,76,49],[49,76,48,44,45,45,45]] := by decide
theorem sp_2 : spZ 44 [49,82,49,44,49,76,49] = [[49,82,49],[49,76,49]] := by decide
theorem sp_3 : spZ 44 [49,76,48,44,45,45,45] = [[49,76,48],[45,45,45]] := by decide
theorem rwA : rwZ [[49,82,49,44,49,76,49],[49,76,48,44,45,45,45]] = ruA := by
  unfold rwZ
  rw [List.flatMap_cons,List.flatMap_cons,List.flatMap_nil,sp_2,sp_3,List.map_cons,List.map_cons,List.map_nil,List.map_cons,List.map_cons,List.map_nil,rz_1,rz_2,rz_3,rz_4]
  rfl
theorem txOk : TxOk [[49,82,49,44,49,76,49],[49,76,48,44,45,45,45]] := by
  refine ⟨rfl,fun r hr => ?_,?_⟩
  · rcases List.mem_cons.1 hr with h | h
    · subst h
      refine ⟨by decide,by rw [sp_2]; rfl,fun x hx => ?_⟩
      rw [sp_2] at hx
      rcases List.mem_cons.1 hx with h | h
      · subst h; exact ⟨.inr ⟨rfl,by decide,by decide,.inr rfl,by decide,by decide⟩⟩
      · rw [List.mem_singleton.1 h]; exact ⟨.inr ⟨rfl,by decide,by decide,.inl rfl,by decide,by decide⟩⟩
    · rw [List.mem_singleton.1 h]
      refine ⟨by decide,by rw [sp_3]; rfl,fun x hx => ?_⟩
      rw [sp_3] at hx
      rcases List.mem_cons.1 hx with h | h
      · subst h; exact ⟨.inr ⟨rfl,by decide,by decide,.inl rfl,by decide,by decide⟩⟩
      · rw [List.mem_singleton.1 h]; exact ⟨.inl rfl⟩
  · rw [rwA]
    unfold vMach
    simp [okRule]
theorem preB228 {p : Prop} (h : p := by first | with_reducible assumption | omega | (simp only [List.length_append,List.length_cons,List.length_nil,List.length_set,List.length_replicate,List.length_take,List.length_drop,List.length_tail,List.length_dropLast,List.length_reverse] at *; omega) | exact mem_len (by assumption) (by omega) | (with_reducible refine Int.le_trans (Int.ofNat_le.2 (trimR_len _)) ?_; simp only [List.length_cons,List.length_tail]; omega) | (exact (ruAt_ok (by assumption) (by assumption) (by assumption)).2.1) | (exact (ruAt_ok (by assumption) (by assumption) (by assumption)).2.1) | (have := vMach_bd (by assumption); omega) | (simp only [List.length_append,List.length_cons,List.length_nil,repW_len,seN_len] at *; omega) | (simp only [mC_ch,mC_tu]; omega) | (have := vTag_bd (by assumption); omega) | (have := (‹Gd _ _›).le; omega) | (exact tgHalts_no (by assumption)) | (exact tgHead (by assumption) (by assumption) (by assumption)) | (exact Int.le_trans (tgStep_gd (by assumption) (by assumption) (by assumption) (by assumption)).le (by decide)) | (exact vTag_r (by assumption)) | (with_reducible refine Int.le_trans (Int.ofNat_le.2 (pushL_len _ _)) ?_; simp only [List.length_dropLast]; omega) | exact ls_at (by assumption) (by omega) | exact pt_gd (by assumption) | exact lv_at (by assumption) (by omega) | exact pt_gd (lv_at (by assumption) (by omega)) | exact (ask_ok (by assumption)).1 | exact (ask_ok (by assumption)).2.1 | exact (ask_ok (by assumption)).2.2.1 | exact (ask_ok (by assumption)).2.2.2 | trivial) : p := h
theorem readA_ok : Does Tryz.prog 38 [.one (str txR)] [] (.tup [(true,[int 2,int 2,.gv 0]),(false,[boo true])]) [.row 3 (rows eR ruA)] := by
  have := readZ_ok txR _ (by decide) sp_1.symm txOk
  rw [rwA] at this
  exact this
@[irreducible] def e8t (s : Src) : Int := 1 + pkV s 3
@[irreducible] def e81 (s : Src) : Src := pkS s 3
@[irreducible] def e82 (s : Src) : Src := (dsO (e81 s) 2 (e8t s)).2
@[irreducible] def e83 (s : Src) : Src := pkS (e82 s) 4
@[irreducible] def e8M (s : Src) : Mach := if pkV (e82 s) 4 = 0 then ⟨2,2,ruA⟩ else ⟨2,e8t s,(dsO (e81 s) 2 (e8t s)).1⟩
@[irreducible] def e8q (s : Src) : Int := pkV (e83 s) (e8M s).st
@[irreducible] def e84 (s : Src) : Src := pkS (e83 s) (e8M s).st
@[irreducible] def e8l (s : Src) : Int := pkV (e84 s) 7
@[irreducible] def e8r (s : Src) : Int := pkV (pkS (e84 s) 7) 7
theorem R8Small_ok (l : List Int) (g : SrOk ⟨l,0,0⟩) : Does Tryz.prog 7 [.one (shY l)] [] (.tup [(true,[int 2,int (e8M ⟨l,0,0⟩).st,.gv 0]),(true,[int (e8q ⟨l,0,0⟩),.gv 1,.gv 2])]) [.row 3 (rows eR (e8M ⟨l,0,0⟩).ru),roI (btS (e8l ⟨l,0,0⟩)),roI (btS (e8r ⟨l,0,0⟩))] := by
  have z1 := pkS_pl ⟨l,0,0⟩ 3
  dsimp only at z1
  have g1 := sr_pick (n := 3) g (by dsimp only; omega)
  have b1 := pkV_bd (n := 3) g (by omega)
  have hD := dsO_ok (sy := 2) (st := 1 + pkV ⟨l,0,0⟩ 3) g1 (by omega) (by omega) (by omega) (by omega) (by omega)
  have d1 := hD.lo
  have d2 := hD.hi
  have g2 := hD.src
  have hM : e8M ⟨l,0,0⟩ = if pkV (dsO (pkS ⟨l,0,0⟩ 3) 2 (1 + pkV ⟨l,0,0⟩ 3)).2 4 = 0 then ⟨2,2,ruA⟩ else ⟨2,1 + pkV ⟨l,0,0⟩ 3,(dsO (pkS ⟨l,0,0⟩ 3) 2 (1 + pkV ⟨l,0,0⟩ 3)).1⟩ := by unfold e8M e82 e81 e8t; rfl
  have h3 : e83 ⟨l,0,0⟩ = pkS (dsO (pkS ⟨l,0,0⟩ 3) 2 (1 + pkV ⟨l,0,0⟩ 3)).2 4 := by unfold e83 e82 e81 e8t; rfl
  have hq : e8q ⟨l,0,0⟩ = pkV (e83 ⟨l,0,0⟩) (e8M ⟨l,0,0⟩).st := by unfold e8q; rfl
  have h4 : e84 ⟨l,0,0⟩ = pkS (e83 ⟨l,0,0⟩) (e8M ⟨l,0,0⟩).st := by unfold e84; rfl
  have hl : e8l ⟨l,0,0⟩ = pkV (e84 ⟨l,0,0⟩) 7 := by unfold e8l; rfl
  have hr : e8r ⟨l,0,0⟩ = pkV (pkS (e84 ⟨l,0,0⟩) 7) 7 := by unfold e8r; rfl
  rw [hl,hr,hq,h4,h3]
  clear hl hr hq h4 h3
  have hst : (e8M ⟨l,0,0⟩).st = if pkV (dsO (pkS ⟨l,0,0⟩ 3) 2 (1 + pkV ⟨l,0,0⟩ 3)).2 4 = 0 then 2 else 1 + pkV ⟨l,0,0⟩ 3 := by rw [hM]; split <;> rfl
  refine does_of (k := 0) Tryz.func7 rfl Tryz.ntmps7 rfl rfl fun w F0 S0 ρ0 => ?_
  dsimp only [argT,argH]
  repeat' first|(apply n3;exact a_new (gb := .bx _) rfl;exact rfl;refine dA ?_)|(apply p3;(first|exact pu1|exact a_add rfl rfl (by omega) (by omega));exact rfl)|refine cdn ?_|refine g_reg (id := 0) ?_|refine g_reg (id := 1) ?_|refine g_reg (id := 2) ?_|(apply w3;(exact a_st_bx rfl rfl rfl rfl (fN rfl rfl) (Nat.le_of_ble_eq_true rfl) rfl);exact rfl;refine dS ?_)|(apply c4 1;exact callK0 (θ := []) (hD := (srcFrom_ok _));exact rfl;exact rfl;exact rfl;refine dM ?_)|(apply c4 0;exact callK0 (θ := [_]) (hD := (srcPick_ok ⟨l,0,0⟩ 3 g (by dsimp only;omega) (by omega)));exact rfl;exact rfl;exact rfl;refine dM ?_)|(apply c4 1;exact callK0 (θ := [_]) (hD := (drawSize_ok _ _ _ preB228 preB228 preB228 preB228 preB228 preB228 preB228 preB228));exact rfl;exact rfl;exact rfl;refine dM ?_)|fail
  clear hD
  have bT : 1 ≤ 1 + pkV ⟨l,0,0⟩ 3 ∧ 1 + pkV ⟨l,0,0⟩ 3 ≤ 3 := by omega
  generalize (dsO (pkS ⟨l,0,0⟩ 3) 2 (1 + pkV ⟨l,0,0⟩ 3)).2 = sD at *
  generalize (dsO (pkS ⟨l,0,0⟩ 3) 2 (1 + pkV ⟨l,0,0⟩ 3)).1 = RU at *
  generalize 1 + pkV ⟨l,0,0⟩ 3 = T at *
  have z3 := pkS_pl sD 4
  have g3 := sr_pick (n := 4) g2 (by omega)
  have b3 := pkV_bd (n := 4) g2 (by omega)
  by_cases h0 : pkV sD 4 = 0
  · rw [if_pos h0] at hM hst
    rw [hM]
    dsimp only
    have z4 := pkS_pl (pkS sD 4) 2
    have g4 := sr_pick (n := 2) g3 (by omega)
    have b4 := pkV_bd (n := 2) g3 (by omega)
    have z5 := pkS_pl (pkS (pkS sD 4) 2) 7
    have g5 := sr_pick (n := 7) g4 (by omega)
    have b5 := pkV_bd (n := 7) g4 (by omega)
    have b6 := pkV_bd (n := 7) g5 (by omega)
    repeat' first|(apply p3;(exact pu1);exact rfl)|refine cdn ?_|refine g_reg (id := 3) ?_|refine g_reg (id := 4) ?_|(apply w3;(exact a_st_bx rfl rfl rfl rfl (fN rfl rfl) (Nat.le_of_ble_eq_true rfl) rfl);exact rfl;refine dS ?_)|(apply c4 0;exact callK0 (θ := [_]) (hD := (srcOne_ok sD 4 g2 (by omega) (by omega)));exact rfl;exact rfl;exact rfl;refine dM ?_)|(apply c4 1;exact callK1 (θ := []) (hD := readA_ok);exact rfl;exact rfl;exact rfl;refine dM ?_)|((refine g_cond rfl (fun hc => ?_) (fun hc => ?_)) <;> (try simp only [dcB] at hc) <;> (try first|contradiction|(exfalso;omega)))|fail
    try simp only [setRow,List.map_cons,List.map_nil,scC,List.set_cons_zero,List.set_cons_succ,Nat.zero_add,List.getElem?_cons_zero,List.getElem?_cons_succ,List.take_succ_cons,List.take_zero,List.drop_zero]
    repeat' first|refine cd ?_|(apply g_drN (id := 5) okM [[],[],[],[2],[1,2,3],[],[1,2,3,4,5],[1,2,3,4,5,6],[],[1,2,3,4,5,6,7,8],[1,2,3,4,5,6,7,8,9],[1,2,3,4,5,6,7,8,9,10],[0,1,2,3,4,5,6,7,8,9,10],[0,1,2,3,4,5,6,7,8,9,10,11,12]] [([],[]),([],[]),([],[]),([],[]),([],[2]),([],[]),([],[2]),([0],[]),([],[]),([],[2]),([1],[]),([],[]),([],[0]),([],[1])] 2;(focus (refine dp 0 0 [20,21,22,23,24,25,26,27,28,29,30] [(false,2),(false,2),(true,0),(false,2),(true,1)] puL ?_;refine dp 1 0 [19,21,22,24,27] [] pu1 ?_;refine dp 2 0 [19,20,24,27] [] (a_pure (sv := .one _) rfl) ?_;refine dp 3 1 [19,20,24,27] [] puL ?_;refine duN 4 7 [19,24,27] [] (callD0 (n := _) 0 (θ := [_]) (hD := (srcPick_ok _ _ preB228 preB228 preB228))) (by exact rfl) (by exact rfl) ?_;refine dp 5 0 [19,20,21,22,23,27] [(false,2)] pu1 ?_;refine duN 6 31 [19,27] [] (callD0 (n := _) 0 (θ := [_]) (hD := (srcPick_ok _ _ preB228 preB228 preB228))) (by exact rfl) (by exact rfl) ?_;refine duN 7 63 [19,27] [] (callD1 (n := _) 0 (θ := []) (hD := (l15Side_ok _ preB228 preB228))) (by exact rfl) (by exact rfl) ?_;refine dp 8 0 [19,20,21,22,23,24,25,26] [(false,2),(false,2),(true,0)] pu1 ?_;refine duN 9 255 [19] [] (callD0 (n := _) 1 (θ := [_]) (hD := (srcPick_ok _ _ preB228 preB228 preB228))) (by exact rfl) (by exact rfl) ?_;refine duN 10 511 [19] [] (callD1 (n := _) 1 (θ := []) (hD := (l15Side_ok _ preB228 preB228))) (by exact rfl) (by exact rfl) ?_;refine dp 11 1023 [19] [(false,0)] (a_pure (sv := .agg _) rfl) ?_;refine duE 12 4094 [30] [] (by exact a_st_bx rfl rfl rfl rfl (fN rfl rfl) (Nat.le_of_ble_eq_true rfl) rfl) (by exact rfl) (by exact rfl) ?_;refine duE 13 8191 [] [] (by exact a_st_bx rfl rfl rfl rfl (fN rfl rfl) (Nat.le_of_ble_eq_true rfl) rfl) (by exact rfl) (by exact rfl) ?_;(refine d_nil ?_;refine dN ?_)));any_goals kernel_rfl)|fail
    repeat refine cr ?_
    refine ends_id ?_
    refine endK [?_,?_,?_] (h2 := ?_) (h3 := ?_) (nd := ?_)
    rotate_left 3
    all_goals (repeat' first|exact ce0|refine ce ?_|refine ce2 ?_ ?_|(refine Or.inr (bx_eq rfl rfl ?_);(try dsimp only [C.ren,C.ren.all]);(try exact rfl))|exact SVLe.refl|refine ceb ?_)
    all_goals first | exact (show nodupB _ = true from rfl) | exact Or.inr rfl | (rfl)
  · rw [if_neg h0] at hM hst
    rw [hM]
    dsimp only
    have z4 := pkS_pl (pkS sD 4) T
    have g4 := sr_pick (n := T) g3 (by omega)
    have b4 := pkV_bd (n := T) g3 (by omega)
    have z5 := pkS_pl (pkS (pkS sD 4) T) 7
    have g5 := sr_pick (n := 7) g4 (by omega)
    have b5 := pkV_bd (n := 7) g4 (by omega)
    have b6 := pkV_bd (n := 7) g5 (by omega)
    repeat' first|(apply p3;(exact pu1);exact rfl)|refine cdn ?_|refine g_reg (id := 3) ?_|(apply c4 0;exact callK0 (θ := [_]) (hD := (srcOne_ok _ _ preB228 preB228 preB228));exact rfl;exact rfl;exact rfl;refine dM ?_)|((refine g_cond rfl (fun hc => ?_) (fun hc => ?_)) <;> (try simp only [dcB] at hc) <;> (try first|contradiction|(exfalso;omega)))|fail
    try simp only [setRow,List.map_cons,List.map_nil,scC,List.set_cons_zero,List.set_cons_succ,Nat.zero_add,List.getElem?_cons_zero,List.getElem?_cons_succ,List.take_succ_cons,List.take_zero,List.drop_zero]
    repeat' first|refine cd ?_|(apply g_drN (id := 5) okM [[],[],[],[2],[1,2,3],[],[1,2,3,4,5],[1,2,3,4,5,6],[],[1,2,3,4,5,6,7,8],[1,2,3,4,5,6,7,8,9],[1,2,3,4,5,6,7,8,9,10],[0,1,2,3,4,5,6,7,8,9,10],[0,1,2,3,4,5,6,7,8,9,10,11,12]] [([],[]),([],[]),([],[]),([],[]),([],[2]),([],[]),([],[2]),([0],[]),([],[]),([],[2]),([1],[]),([],[]),([],[0]),([],[1])] 2;(focus (refine dp 0 0 [20,21,22,23,24,25,26,27,28,29,30] [(false,2),(false,2),(true,0),(false,2),(true,1)] puL ?_;refine dp 1 0 [19,21,22,24,27] [] pu1 ?_;refine dp 2 0 [19,20,24,27] [] (a_pure (sv := .one _) rfl) ?_;refine dp 3 1 [19,20,24,27] [] puL ?_;refine duN 4 7 [19,24,27] [] (callD0 (n := _) 0 (θ := [_]) (hD := (srcPick_ok _ _ preB228 preB228 preB228))) (by exact rfl) (by exact rfl) ?_;refine dp 5 0 [19,20,21,22,23,27] [(false,2)] pu1 ?_;refine duN 6 31 [19,27] [] (callD0 (n := _) 0 (θ := [_]) (hD := (srcPick_ok _ _ preB228 preB228 preB228))) (by exact rfl) (by exact rfl) ?_;refine duN 7 63 [19,27] [] (callD1 (n := _) 0 (θ := []) (hD := (l15Side_ok _ preB228 preB228))) (by exact rfl) (by exact rfl) ?_;refine dp 8 0 [19,20,21,22,23,24,25,26] [(false,2),(false,2),(true,0)] pu1 ?_;refine duN 9 255 [19] [] (callD0 (n := _) 1 (θ := [_]) (hD := (srcPick_ok _ _ preB228 preB228 preB228))) (by exact rfl) (by exact rfl) ?_;refine duN 10 511 [19] [] (callD1 (n := _) 1 (θ := []) (hD := (l15Side_ok _ preB228 preB228))) (by exact rfl) (by exact rfl) ?_;refine dp 11 1023 [19] [(false,0)] (a_pure (sv := .agg _) rfl) ?_;refine duE 12 4094 [30] [] (by exact a_st_bx rfl rfl rfl rfl (fN rfl rfl) (Nat.le_of_ble_eq_true rfl) rfl) (by exact rfl) (by exact rfl) ?_;refine duE 13 8191 [] [] (by exact a_st_bx rfl rfl rfl rfl (fN rfl rfl) (Nat.le_of_ble_eq_true rfl) rfl) (by exact rfl) (by exact rfl) ?_;(refine d_nil ?_;refine dN ?_)));any_goals kernel_rfl)|fail
    repeat refine cr ?_
    refine ends_id ?_
    refine endK [?_,?_,?_] (h2 := ?_) (h3 := ?_) (nd := ?_)
    rotate_left 3
    all_goals (repeat' first|exact ce0|refine ce ?_|refine ce2 ?_ ?_|(refine Or.inr (bx_eq rfl rfl ?_);(try dsimp only [C.ren,C.ren.all]);(try exact rfl))|exact SVLe.refl|refine ceb ?_)
    all_goals first | exact (show nodupB _ = true from rfl) | exact Or.inr rfl | (rfl)
end Go.Proofs.YtnkeamihfiobdaaGreatDoor
end
section
set_option linter.unusedVariables false
set_option linter.unusedSimpArgs false
set_option maxRecDepth 100000
set_option maxHeartbeats 1000000
namespace Go.Proofs.YtnkeamihfiobdaaGreatDoor
open Go Foot Go.RowKit
theorem coT_ne (c : Conf) : coT c ≠ [] := by
  unfold coT
  intro h
  have := congrArg List.length h
  simp at this
theorem trA_seg {t : Tg} {P : List Int → Prop} : ∀ (k n : Nat) (w z : List Int) (l : List (List Int)),Seg t P k w z → trA t (k + n) l w = trA t n (l ++ (List.range k).map (fun i => stF t i w)) z
  | 0,n,w,z,l,s => by
    have := s.e
    rw [stF] at this
    rw [this,Nat.zero_add]
    simp
  | k + 1,n,w,z,l,s => by
    have h0 := s.h 0 (by omega)
    rw [stF] at h0
    have s2 : Seg t (fun _ => True) k (tgStep t w) z := ⟨s.e,fun i hi => s.h (i + 1) (by omega),fun _ _ _ => trivial⟩
    rw [show k + 1 + n = k + n + 1 by omega,trA_s h0.1 h0.2,trA_seg k n _ z _ s2,List.range_succ_eq_map,List.map_cons,List.map_map,List.append_assoc]
    rfl
theorem seg_tx {m : Mach} {k q L R : Nat} {z : List Int} (s : SegC m k (shA q L R) z) (hk : 1 ≤ k) : ((List.range k).map fun i => stF (tmT m) i (shA q L R)).map (tgX m) = coT (cfN q L R) :: List.replicate (k - 1) [] := by
  obtain ⟨j,rfl⟩ : ∃ j,k = j + 1 := ⟨k - 1,by omega⟩
  rw [List.range_succ_eq_map,List.map_cons,List.map_map,List.map_cons,List.map_map]
  congr 1
  · rw [stF]; exact tgX_shA m q L R
  · rw [List.eq_replicate_iff]
    refine ⟨by simp,fun b hb => ?_⟩
    obtain ⟨i,hi,rfl⟩ := List.mem_map.1 hb
    rw [List.mem_range] at hi
    exact tgX_none (s.p (i + 1) (by omega) (by omega))
theorem fsF_skip {S : List Bs} {a : List Int} (h : a.length < S.length) (hne : S[a.length] ≠ []) : ∀ (n : Nat) (T : List Bs) (i : Int),fsF S (List.replicate n [] ++ T) i a = fsF S T (i + n) a
  | 0,T,i => by rw [List.replicate_zero,List.nil_append]; congr 1; omega
  | n + 1,T,i => by
    rw [List.replicate_succ,List.cons_append,fsF_miss h (fun e => hne e.symm),fsF_skip h hne n T (i + 1)]
    congr 1
    omega
structure Stp (m : Mach) (q L R p L2 R2 k : Nat) : Prop where
  hq : q < m.st.toNat
  hl : L ≤ 40
  hr : R ≤ 40
  hn : ruN m q (R % 2) ≠ noR
  hk : k = coN (ruN m q (R % 2)) L R
  ha : ruAt m (cfN q L R) ≠ noR
  he : stepS (ruAt m (cfN q L R)) (cfN q L R) = cfN p L2 R2
  hp : p < m.st.toNat
  hs : SegC m k (shA q L R) (shA p L2 R2)
  k1 : 1 ≤ k
  k2 : k ≤ 450
  ho : roomS (stepS (ruAt m (cfN q L R)) (cfN q L R)) = true
theorem stp_mk {m : Mach} (g : TmOk m) {q L R : Nat} (hq : q < m.st.toNat) (hL : L ≤ 15) (hR : R ≤ 15) (hr : ruAt m (cfN q L R) ≠ noR) : ∃ p L2 R2 k,Stp m q L R p L2 R2 k ∧ L2 ≤ 2 * L + 1 ∧ R2 ≤ 2 * R + 3 := by
  rw [ruAt_cf g.y] at hr
  obtain ⟨p,h1,h2,h3⟩ := stepS_cf g (L := L) hq hr
  obtain ⟨c1,c2,_⟩ := ruM_cases g hq (by omega) hr
  have s := seg_step g (L := L) (R := R) hq (by omega) (by omega) hr
  rw [h1] at s
  have b1 : nxL (ruN m q (R % 2)) L ≤ 2 * L + 1 := by unfold nxL; split <;> omega
  have b2 : nxR (ruN m q (R % 2)) L R ≤ 2 * R + 3 := by unfold nxR; split <;> omega
  have b3 : 1 ≤ coN (ruN m q (R % 2)) L R := by unfold coN; omega
  have b4 : coN (ruN m q (R % 2)) L R ≤ 450 := by unfold coN; split <;> omega
  have ec : ruAt m (cfN q L R) = ruN m q (R % 2) := ruAt_cf g.y q L R
  refine ⟨p,_,_,_,⟨hq,by omega,by omega,hr,rfl,by rw [ec]; exact hr,by rw [ec]; exact h3,h2,s,b3,b4,?_⟩,b1,b2⟩
  rw [ec,h3]
  have l1 := btS_len ((nxL (ruN m q (R % 2)) L : Nat) : Int)
  have l2 := btS_len ((nxR (ruN m q (R % 2)) L R : Nat) : Int)
  unfold roomS
  rw [decide_eq_true_eq]
  dsimp only
  omega
structure SimO (m : Mach) (c : Conf) (CF : List Conf) (KS A : List Int) (T : List Bs) : Prop where
  cf : cfR m 2 c = CF
  room : RoomK m 2 c
  len : CF.length = KS.length + 1
  kl : KS.length ≤ 2
  st : ∀ i,i < KS.length → ∃ q L R p L2 R2 k,Stp m q L R p L2 R2 k ∧ CF[i]? = some (cfN q L R) ∧ KS[i]? = some (k : Int) ∧ CF[i + 1]? = some (cfN p L2 R2)
  tg : KS.sum ≤ 599 → tgO m c KS.sum = (T,0)
  tl : (T.length : Int) = KS.sum + 1
  fs : fsF (CF.map coT) T 0 [] = A
  t0 : T[0]? = (CF.map coT)[0]?
  al : A.length = CF.length
  a0 : A[0]? = some 0
  ar : risesL A = true
  ab : ∀ x ∈ A,0 ≤ x ∧ x ≤ 1000
  ag : gpL A = KS
  ne : [] ∉ CF.map coT
  k0 : 0 ≤ KS.sum
theorem tgO_tr {m : Mach} (g : TmOk m) {q L R : Nat} (hq : q < m.st.toNat) (hL : L ≤ 15) (hR : R ≤ 15) {n : Int} {W : List (List Int)} (h0 : 0 ≤ n) (h1 : n ≤ 599) (h : trA (tmT m) n.toNat [] (shA q L R) = (W,true)) : tgO m (cfN q L R) n = (W.map (tgX m),0) := by
  unfold tgO
  rw [if_pos ⟨g.v,vConf_cf g.y hq (by omega) (by omega)⟩,if_pos ⟨h0,h1⟩,if_pos g.y,enO_cf g (by omega) (by omega)]
  dsimp only [Option.elim]
  rw [tgW_eq,h]
  rfl
theorem coT_map_ne (CF : List Conf) : [] ∉ CF.map coT := fun h => by
  obtain ⟨c,_,e⟩ := List.mem_map.1 h
  exact coT_ne c e
theorem sim_0 {m : Mach} (g : TmOk m) {q L R : Nat} (hq : q < m.st.toNat) (hL : L ≤ 6) (hR : R ≤ 6) (h : ruAt m (cfN q L R) = noR) : SimO m (cfN q L R) [cfN q L R] [] [0] [coT (cfN q L R)] where
  cf := cfR_n h 2
  room := fun h1 => absurd h h1
  len := rfl
  kl := by simp
  st := fun i hi => absurd hi (by simp)
  tg := fun _ => by
    rw [tgO_tr g hq (by omega) (by omega) (by simp) (by simp) (W := [shA q L R]) (by
      show trA (tmT m) 0 [] _ = _
      rw [trA_0]; rfl),List.map_cons,List.map_nil,tgX_shA]
  tl := rfl
  fs := by
    rw [List.map_cons,List.map_nil]
    exact (fsF_hit (by simp) rfl).trans rfl
  t0 := rfl
  al := rfl
  a0 := rfl
  ar := by unfold risesL; rfl
  ab := fun x hx => by rw [List.mem_singleton.1 hx]; omega
  ag := by unfold gpL; rfl
  ne := coT_map_ne _
  k0 := by simp
theorem sim_1 {m : Mach} (g : TmOk m) {q L R p L2 R2 k : Nat} (hL : L ≤ 6) (hR : R ≤ 6) (s : Stp m q L R p L2 R2 k) (h : ruAt m (cfN p L2 R2) = noR) : SimO m (cfN q L R) [cfN q L R,cfN p L2 R2] [(k : Int)] [0,(k : Int)] (coT (cfN q L R) :: (List.replicate (k - 1) [] ++ [coT (cfN p L2 R2)])) where
  cf := by rw [cfR_s s.ha,s.he,cfR_n h]
  room := fun _ => ⟨s.ho,by rw [s.he]; exact fun h1 => absurd h h1⟩
  len := rfl
  kl := by simp
  st := fun i hi => by
    have : i = 0 := by simpa using hi
    subst this
    exact ⟨q,L,R,p,L2,R2,k,s,rfl,rfl,rfl⟩
  tg := fun h9 => by
    have hs : ([(k : Int)] : List Int).sum = k := by simp
    rw [hs] at h9 ⊢
    rw [tgO_tr g s.hq (by omega) (by omega) (by omega) h9 (W := (List.range k).map (fun i => stF (tmT m) i (shA q L R)) ++ [shA p L2 R2]) (by
      rw [Int.toNat_natCast]
      have := trA_seg k 0 _ _ [] s.hs
      rw [Nat.add_zero] at this
      rw [this,trA_0,List.nil_append]),List.map_append,seg_tx s.hs s.k1,List.map_cons,List.map_nil,tgX_shA]
    rfl
  tl := by
    have := s.k1
    simp
    omega
  fs := by
    have := s.k1
    rw [List.map_cons,List.map_cons,List.map_nil]
    refine (fsF_hit (by simp) rfl).trans ?_
    rw [List.nil_append]
    refine (fsF_skip (by simp) (coT_ne _) _ _ _).trans ?_
    refine (fsF_hit (by simp) rfl).trans ?_
    rw [fsF_end (by simp)]
    simp
    omega
  t0 := rfl
  al := rfl
  a0 := rfl
  ar := by
    have := s.k1
    unfold risesL
    simp [List.range_succ]
    omega
  ab := fun x hx => by
    have := s.k2
    rcases List.mem_cons.1 hx with hx | hx
    · omega
    · rw [List.mem_singleton.1 hx]; omega
  ag := by unfold gpL; simp [List.range_succ]
  ne := coT_map_ne _
  k0 := by simp
theorem sim_2 {m : Mach} (g : TmOk m) {q L R p L2 R2 k p' L3 R3 k' : Nat} (hL : L ≤ 6) (hR : R ≤ 6) (s : Stp m q L R p L2 R2 k) (u : Stp m p L2 R2 p' L3 R3 k') : SimO m (cfN q L R) [cfN q L R,cfN p L2 R2,cfN p' L3 R3] [(k : Int),(k' : Int)] [0,(k : Int),(k + k' : Nat)] (coT (cfN q L R) :: (List.replicate (k - 1) [] ++ (coT (cfN p L2 R2) :: (List.replicate (k' - 1) [] ++ [coT (cfN p' L3 R3)])))) where
  cf := by
    rw [cfR_s s.ha,s.he,cfR_s u.ha,u.he]
    rfl
  room := fun _ => ⟨s.ho,by rw [s.he]; exact fun _ => ⟨u.ho,trivial⟩⟩
  len := rfl
  kl := by simp
  st := fun i hi => by
    have : i = 0 ∨ i = 1 := by simp at hi; omega
    rcases this with h | h
    · subst h
      exact ⟨q,L,R,p,L2,R2,k,s,rfl,rfl,rfl⟩
    · subst h
      exact ⟨p,L2,R2,p',L3,R3,k',u,rfl,rfl,rfl⟩
  tg := fun h9 => by
    have hs : ([(k : Int),(k' : Int)] : List Int).sum = ((k + k' : Nat) : Int) := by simp
    rw [hs] at h9 ⊢
    rw [tgO_tr g s.hq (by omega) (by omega) (by omega) h9 (W := ((List.range k).map (fun i => stF (tmT m) i (shA q L R)) ++ (List.range k').map (fun i => stF (tmT m) i (shA p L2 R2))) ++ [shA p' L3 R3]) (by
      rw [Int.toNat_natCast,trA_seg k k' _ _ [] s.hs]
      have := trA_seg k' 0 _ _ ([] ++ (List.range k).map (fun i => stF (tmT m) i (shA q L R))) u.hs
      rw [Nat.add_zero] at this
      rw [this,trA_0,List.nil_append]),List.map_append,List.map_append,seg_tx s.hs s.k1,seg_tx u.hs u.k1,List.map_cons,List.map_nil,tgX_shA]
    simp
  tl := by
    have := s.k1
    have := u.k1
    simp
    omega
  fs := by
    have := s.k1
    have := u.k1
    rw [List.map_cons,List.map_cons,List.map_cons,List.map_nil]
    refine (fsF_hit (by simp) rfl).trans ?_
    rw [List.nil_append]
    refine (fsF_skip (by simp) (coT_ne _) _ _ _).trans ?_
    refine (fsF_hit (by simp) rfl).trans ?_
    refine (fsF_skip (by simp) (coT_ne _) _ _ _).trans ?_
    refine (fsF_hit (by simp) rfl).trans ?_
    rw [fsF_end (by simp)]
    simp
    omega
  t0 := rfl
  al := rfl
  a0 := rfl
  ar := by
    have := s.k1
    have := u.k1
    unfold risesL
    simp [List.range_succ]
    omega
  ab := fun x hx => by
    have := s.k2
    have := u.k2
    simp only [List.mem_cons,List.not_mem_nil,or_false] at hx
    rcases hx with hx | hx | hx <;> omega
  ag := by
    unfold gpL
    simp [List.range_succ]
    omega
  ne := coT_map_ne _
  k0 := by simp; omega
theorem sim_ok {m : Mach} (g : TmOk m) {q L R : Nat} (hq : q < m.st.toNat) (hL : L ≤ 6) (hR : R ≤ 6) : ∃ CF KS A T,SimO m (cfN q L R) CF KS A T := by
  by_cases h : ruAt m (cfN q L R) = noR
  · exact ⟨_,_,_,_,sim_0 g hq hL hR h⟩
  · obtain ⟨p,L2,R2,k,s,b1,b2⟩ := stp_mk g hq (by omega) (by omega) h
    by_cases h2 : ruAt m (cfN p L2 R2) = noR
    · exact ⟨_,_,_,_,sim_1 g hL hR s h2⟩
    · obtain ⟨p',L3,R3,k',u,_,_⟩ := stp_mk g s.hp (by omega) (by omega) h2
      exact ⟨_,_,_,_,sim_2 g hL hR s u⟩
end Go.Proofs.YtnkeamihfiobdaaGreatDoor
end
section
set_option linter.unusedVariables false
set_option linter.unusedSimpArgs false
set_option maxRecDepth 100000
set_option maxHeartbeats 1000000
namespace Go.Proofs.YtnkeamihfiobdaaGreatDoor
open Go Foot Go.RowKit
structure E8Ok (m : Mach) (q L R : Int) : Prop where
  t : TmOk m
  q0 : 0 ≤ q
  q1 : q < m.st
  l0 : 0 ≤ L
  l1 : L ≤ 6
  r0 : 0 ≤ R
  r1 : R ≤ 6
theorem e8_ok (s : Src) (g : SrOk s) (p0 : s.pl = 0) : E8Ok (e8M s) (e8q s) (e8l s) (e8r s) := by
  have z1 := pkS_pl s 3
  have g1 := sr_pick (n := 3) g (by omega)
  have b1 := pkV_bd (n := 3) g (by omega)
  have hD := dsO_ok (sy := 2) (st := 1 + pkV s 3) g1 (by omega) (by omega) (by omega) (by omega) (by omega)
  have d1 := hD.lo
  have d2 := hD.hi
  have d3 := hD.len
  have d4 := hD.ok
  have g2 := hD.src
  have hM : e8M s = if pkV (dsO (pkS s 3) 2 (1 + pkV s 3)).2 4 = 0 then ⟨2,2,ruA⟩ else ⟨2,1 + pkV s 3,(dsO (pkS s 3) 2 (1 + pkV s 3)).1⟩ := by unfold e8M e82 e81 e8t; rfl
  have h3 : e83 s = pkS (dsO (pkS s 3) 2 (1 + pkV s 3)).2 4 := by unfold e83 e82 e81 e8t; rfl
  have z3 := pkS_pl (dsO (pkS s 3) 2 (1 + pkV s 3)).2 4
  have g3 := sr_pick (n := 4) g2 (by omega)
  rw [← h3] at z3 g3
  have hm : TmOk (e8M s) ∧ 1 ≤ (e8M s).st ∧ (e8M s).st ≤ 3 := by
    rw [hM]
    by_cases h0 : pkV (dsO (pkS s 3) 2 (1 + pkV s 3)).2 4 = 0
    · rw [if_pos h0]
      refine ⟨⟨?_,rfl,by dsimp only; omega⟩,by dsimp only; omega,by dsimp only; omega⟩
      unfold vMach
      simp [okRule]
    · rw [if_neg h0]
      refine ⟨⟨?_,rfl,by dsimp only; omega⟩,by dsimp only; omega,by dsimp only; omega⟩
      unfold vMach
      rw [Bool.and_eq_true,decide_eq_true_eq,List.all_eq_true]
      exact ⟨⟨by dsimp only; omega,by dsimp only; omega,by dsimp only; omega⟩,d4⟩
  have hq : e8q s = pkV (e83 s) (e8M s).st := by unfold e8q; rfl
  have h4 : e84 s = pkS (e83 s) (e8M s).st := by unfold e84; rfl
  have hl : e8l s = pkV (e84 s) 7 := by unfold e8l; rfl
  have hr : e8r s = pkV (pkS (e84 s) 7) 7 := by unfold e8r; rfl
  have z4 := pkS_pl (e83 s) (e8M s).st
  have g4 := sr_pick (n := (e8M s).st) g3 (by omega)
  have b4 := pkV_bd (n := (e8M s).st) g3 (by omega)
  rw [← h4] at z4 g4
  have z5 := pkS_pl (e84 s) 7
  have g5 := sr_pick (n := 7) g4 (by omega)
  have b5 := pkV_bd (n := 7) g4 (by omega)
  have b6 := pkV_bd (n := 7) g5 (by omega)
  rw [← hl] at b5
  rw [← hr] at b6
  rw [← hq] at b4
  exact ⟨hm.1,b4.1,b4.2,b5.1,by omega,b6.1,by omega⟩
@[irreducible] def e8C (s : Src) : Conf := cfN (e8q s).toNat (e8l s).toNat (e8r s).toNat
theorem preB230 {p : Prop} (h : p := by first | with_reducible assumption | omega | (simp only [List.length_append,List.length_cons,List.length_nil,List.length_set,List.length_replicate,List.length_take,List.length_drop,List.length_tail,List.length_dropLast,List.length_reverse] at *; omega) | exact mem_len (by assumption) (by omega) | (with_reducible refine Int.le_trans (Int.ofNat_le.2 (trimR_len _)) ?_; simp only [List.length_cons,List.length_tail]; omega) | (exact (ruAt_ok (by assumption) (by assumption) (by assumption)).2.1) | (exact (ruAt_ok (by assumption) (by assumption) (by assumption)).2.1) | (have := vMach_bd (by assumption); omega) | (simp only [List.length_append,List.length_cons,List.length_nil,repW_len,seN_len] at *; omega) | (simp only [mC_ch,mC_tu]; omega) | (have := vTag_bd (by assumption); omega) | (have := (‹Gd _ _›).le; omega) | (exact tgHalts_no (by assumption)) | (exact tgHead (by assumption) (by assumption) (by assumption)) | (exact Int.le_trans (tgStep_gd (by assumption) (by assumption) (by assumption) (by assumption)).le (by decide)) | (exact vTag_r (by assumption)) | (with_reducible refine Int.le_trans (Int.ofNat_le.2 (pushL_len _ _)) ?_; simp only [List.length_dropLast]; omega) | exact ls_at (by assumption) (by omega) | exact pt_gd (by assumption) | exact lv_at (by assumption) (by omega) | exact pt_gd (lv_at (by assumption) (by omega)) | exact (ask_ok (by assumption)).1 | exact (ask_ok (by assumption)).2.1 | exact (ask_ok (by assumption)).2.2.1 | exact (ask_ok (by assumption)).2.2.2 | trivial) : p := h
theorem R8S_ok (l : List Int) (g : SrOk ⟨l,0,0⟩) : Does Tryz.prog 7 [.one (shY l)] [] (.tup [(true,[int (e8M ⟨l,0,0⟩).sy,int (e8M ⟨l,0,0⟩).st,.gv 0]),(true,[int (e8C ⟨l,0,0⟩).st,.gv 1,.gv 2])]) [.row 3 (rows eR (e8M ⟨l,0,0⟩).ru),roI (e8C ⟨l,0,0⟩).le,roI (e8C ⟨l,0,0⟩).ri] := by
  have h := e8_ok _ g rfl
  have e : e8C ⟨l,0,0⟩ = ⟨e8q ⟨l,0,0⟩,btS (e8l ⟨l,0,0⟩),btS (e8r ⟨l,0,0⟩)⟩ := by
    have h1 := h.q0
    have h2 := h.l0
    have h3 := h.r0
    unfold e8C cfN
    rw [Int.toNat_of_nonneg h1,Int.toNat_of_nonneg h2,Int.toNat_of_nonneg h3]
  have k := R8Small_ok l g
  rw [h.t.y,e]
  exact k
theorem TagCostS_ok (m : Mach) (q L R p L2 R2 k : Nat) (g : TmOk m) (s : Stp m q L R p L2 R2 k) : Does Tryz.prog 9 [.agg (maC m),.agg (coC (cfN q L R))] [] (.tup [(false,[int k]),(false,[int 0])]) [] := by
  have h := TagCost_ok m q L R g s.hq s.hl s.hr s.hn
  rw [← s.hk] at h
  exact h
theorem StepS_ok (m : Mach) (q L R p L2 R2 k : Nat) (g : TmOk m) (s : Stp m q L R p L2 R2 k) : Does Tryz.prog 10 [.agg (maC m),.agg (coC (cfN q L R))] [] (.tup [(true,coC (cfN p L2 R2)),(false,[int 0])]) [] := by
  have hl := s.hl
  have hr := s.hr
  have h := stepMI_ok m (cfN q L R) g.v (vConf_cf g.y s.hq (by omega) (by omega)) s.ha s.ho
  rw [s.he] at h
  exact h
theorem r8LongZ_ok (c m : List Int) (hc : (c.length : Int) ≤ 9223372036854775807) (hm : (m.length : Int) ≤ 9223372036854775807) : Does Tryz.prog 6 [.one (shY c),.one (shY m)] [] (.one (boo (decide ((c.length : Int) > 1048576 ∨ (m.length : Int) > 1048576)))) [] := by
  by_cases h : (c.length : Int) > 1048576 ∨ (m.length : Int) > 1048576
  · rw [decide_eq_true h]
    refine does_of (k := 0) Tryz.func6 rfl Tryz.ntmps6 rfl rfl fun w F0 S0 ρ0 => ?_
    dsimp only [argT,argH]
    repeat' first|(apply p3;(first|exact pu1|exact puN|exact puC);exact rfl)|refine cd ?_|refine o_no rfl rfl rfl rfl ?_|(apply py3;exact rfl;exact rfl;(first|exact pu1|exact puN|exact puC);exact rfl;exact rfl)|((refine o_gs rfl rfl (fun hc => ?_) (fun hc => ?_)) <;> (try simp only [dcB] at hc) <;> (try first|contradiction|(exfalso;omega)))|fail
    all_goals
      repeat refine cr ?_
      refine ends_id ?_
      refine endK [] (h2 := ?_) (h3 := ?_) (nd := ?_)
      all_goals (repeat' first|exact ce0|refine ce ?_|refine ce2 ?_ ?_|exact SVLe.refl|refine ceb ?_)
      all_goals first | exact (show nodupB _ = true from rfl) | exact Or.inr rfl | ((first | rfl | (simp; omega) | (simp_all; done)))
  · rw [decide_eq_false h]
    refine does_of (k := 0) Tryz.func6 rfl Tryz.ntmps6 rfl rfl fun w F0 S0 ρ0 => ?_
    dsimp only [argT,argH]
    repeat' first|(apply p3;(first|exact pu1|exact puN|exact puC);exact rfl)|refine cd ?_|(apply py3;exact rfl;exact rfl;(first|exact pu1|exact puN|exact puC);exact rfl;exact rfl)|((refine o_gs rfl rfl (fun hc => ?_) (fun hc => ?_)) <;> (try simp only [dcB] at hc) <;> (try first|contradiction|(exfalso;omega)))|fail
    all_goals
      repeat refine cr ?_
      refine ends_id ?_
      refine endK [] (h2 := ?_) (h3 := ?_) (nd := ?_)
      all_goals (repeat' first|exact ce0|refine ce ?_|refine ce2 ?_ ?_|exact SVLe.refl|refine ceb ?_)
      all_goals first | exact (show nodupB _ = true from rfl) | exact Or.inr rfl | ((first | rfl | (simp; omega) | (simp_all; done)))
theorem lawTagSimulates (c m : List Int) (hc : (c.length : Int) ≤ 9223372036854775807) (hm : (m.length : Int) ≤ 9223372036854775807) (hcb : ∀ x ∈ c,0 ≤ x ∧ x ≤ 255) (hmb : ∀ x ∈ m,0 ≤ x ∧ x ≤ 255) : Does Tryz.prog 3 [.one (shY c),.one (shY m)] [] (.one (boo true)) [] := by
  by_cases hL : (c.length : Int) > 1048576 ∨ (m.length : Int) > 1048576
  · refine does_of (k := 0) Tryz.func3 rfl Tryz.ntmps3 rfl rfl fun w F0 S0 ρ0 => ?_
    dsimp only [argT,argH]
    repeat' first|(apply p3;(exact pu1);exact rfl)|refine cd ?_|(apply c4 0;exact callK1 (θ := []) (hD := (r8LongZ_ok _ _ preB230 preB230));exact rfl;exact rfl;exact rfl;refine dM ?_)|((refine g_cond rfl (fun hc => ?_) (fun hc => ?_)) <;> (try simp only [dcB] at hc) <;> (try first|contradiction|(exfalso;omega)))|fail
    repeat refine cr ?_
    refine ends_id ?_
    refine endK [] (h2 := ?_) (h3 := ?_) (nd := ?_)
    all_goals (repeat' first|exact ce0|refine ce ?_|refine ce2 ?_ ?_|exact SVLe.refl|refine ceb ?_)
    all_goals first | exact (show nodupB _ = true from rfl) | exact Or.inr rfl | (rfl)
  have g : SrOk ⟨c,0,0⟩ := ⟨hc,⟨by dsimp only; omega,by dsimp only; omega⟩,hcb⟩
  have E := e8_ok _ g rfl
  refine does_of (k := 0) Tryz.func3 rfl Tryz.ntmps3 rfl rfl fun w F0 S0 ρ0 => ?_
  dsimp only [argT,argH]
  repeat' first|(apply n3;exact a_new (gb := .bx _) rfl;exact rfl;refine dA ?_)|(apply p3;exact pu1;exact rfl)|refine cdn ?_|refine g_reg (id := 0) ?_|refine g_reg (id := 1) ?_|refine g_reg (id := 3) ?_|(apply w3;(exact a_st_bx rfl rfl rfl rfl (fN rfl rfl) (Nat.le_of_ble_eq_true rfl) rfl);exact rfl;refine dS ?_)|(apply c4 0;exact callK1 (θ := []) (hD := (r8LongZ_ok _ _ preB230 preB230));exact rfl;exact rfl;exact rfl;refine dM ?_)|(apply c4 0;exact callF (hD := (R8S_ok c g));exact rfl;exact rfl;exact rfl;refine dM ?_)|((refine g_cond rfl (fun hc => ?_) (fun hc => ?_)) <;> (try simp only [dcB] at hc) <;> (try first|contradiction|(exfalso;omega)))|fail
  have hC : e8C ⟨c,0,0⟩ = cfN (e8q ⟨c,0,0⟩).toNat (e8l ⟨c,0,0⟩).toNat (e8r ⟨c,0,0⟩).toNat := by unfold e8C; rfl
  have hq : (e8q ⟨c,0,0⟩).toNat < (e8M ⟨c,0,0⟩).st.toNat := by have := E.q0; have := E.q1; omega
  have hvC := vConf_cf E.t.y hq (L := (e8l ⟨c,0,0⟩).toNat) (R := (e8r ⟨c,0,0⟩).toNat) (by have := E.l1; omega) (by have := E.r1; omega)
  obtain ⟨CF,KS,aX,tX,Z⟩ := sim_ok E.t hq (L := (e8l ⟨c,0,0⟩).toNat) (R := (e8r ⟨c,0,0⟩).toNat) (by have := E.l1; omega) (by have := E.r1; omega)
  have gM := E.t
  rw [← hC] at hvC Z
  clear hC hq E
  generalize e8C ⟨c,0,0⟩ = cX at *
  generalize e8M ⟨c,0,0⟩ = mX at *
  have hroom : RoomK mX (2 : Int).toNat cX := Z.room
  have hcf : cfR mX (2 : Int).toNat cX = CF := Z.cf
  have hv := gM.v
  have hsy := gM.y
  have hmb := vMach_bd hv
  have hcb2 := at_bd hv hvC
  have hlen := Z.len
  have hkl := Z.kl
  have hk0 := Z.k0
  simp only [setRow,C.frz.all,C.frz,SV.frz,tFrz,List.map_cons,List.map_nil,scC,List.set_cons_zero,List.set_cons_succ,Nat.zero_add,List.getElem?_cons_zero,List.getElem?_cons_succ,List.take_succ_cons,List.take_zero,List.drop_zero]
  repeat' first|(apply p3;(exact pu1);exact rfl)|refine cdn ?_|refine g_reg (id := 4) ?_|(apply c4 0;exact callF (hD := (MachineTexts_ok mX cX 2 hv hsy hvC (by omega) (by omega) hroom));exact rfl;exact rfl;exact rfl;refine dM ?_)|fail
  rw [hcf]
  have hsl : ((CF.map coT).length : Int) = KS.length + 1 := by rw [List.length_map]; omega
  have hfs := Z.fs
  have ht0 := Z.t0
  have hne := Z.ne
  generalize CF.map coT = sX at *
  repeat' first|(apply n3;(first|exact a_new (gb := .bx _) rfl|exact a_litE eI [] rfl rfl rfl rfl rfl rfl rfl rfl);exact rfl;refine dA ?_)|(apply p3;(first|exact pu1|exact a_ne rfl rfl);exact rfl)|refine cd ?_|(apply w3;(exact a_st_bx rfl rfl rfl rfl (fN rfl rfl) (Nat.le_of_ble_eq_true rfl) rfl);exact rfl;refine dS ?_)|(apply py3;exact rfl;exact rfl;(first|exact pu1|exact puN|exact puC);exact rfl;exact rfl)|((first|refine o_gs rfl rfl (fun hc => ?_) (fun hc => ?_)|refine g_cond rfl (fun hc => ?_) (fun hc => ?_)) <;> (try simp only [dcB] at hc) <;> (try first|contradiction|(exfalso;omega)))|fail
  simp only [setRow,C.frz.all,C.frz,SV.frz,tFrz,List.map_cons,List.map_nil,scC,List.set_cons_zero,List.set_cons_succ,Nat.zero_add,List.getElem?_cons_zero,List.getElem?_cons_succ,List.take_succ_cons,List.take_zero,List.drop_zero]
  refine g_loop_id ?_
  refine loopK [4,5,6,7,11] [2,3] (fun y : Int × Conf × List Int × Int => 1 ≤ y.1 ∧ y.1 ≤ CF.length ∧ CF[(y.1 - 1).toNat]? = some y.2.1 ∧ y.2.2.1 = KS.take (y.1 - 1).toNat ∧ y.2.2.2 = (KS.take (y.1 - 1).toNat).sum ∧ 0 ≤ y.2.2.2 ∧ y.2.2.2 ≤ 450 * (y.1 - 1)) (fun y => [(12,.one (int y.1)),(9,.one (.gv 2)),(10,.one (int y.2.2.2))]) (fun y => [(2,roI y.2.2.1),(3,.bx (coC y.2.1))]) (fun y => (CF.length - y.1).toNat) ((1 : Int),cX,([] : List Int),(0 : Int)) [0,1,2,3] (hI := ?_) (hr := ?_)
  · have h0 : CF[0]? = some cX := by
      rw [← hcf]
      show (cfR mX 2 cX)[0]? = _
      rw [cfR]
      split <;> rfl
    exact ⟨by simp,by dsimp only; omega,h0,rfl,rfl,by simp,by simp⟩
  · rintro ⟨i,x,ks,sm⟩ ⟨k0,k1,k2,k3,k4,k5,k6⟩
    dsimp only [List.cons_append,List.nil_append] at *
    skip
    repeat' first|(apply p3;(first|exact pu1|exact puN|exact puC);exact rfl)|refine cdn ?_|refine g_reg (id := 11) ?_|refine g_reg (id := 20) ?_|refine g_reg (id := 21) ?_|((refine g_cond rfl (fun hc => ?_) (fun hc => ?_)) <;> (try simp only [dcB] at hc) <;> (try first|contradiction|(exfalso;omega)))|fail
    · have hj : (i - 1).toNat < KS.length := by omega
      obtain ⟨q,L,R,p,L2,R2,k,s,hz1,hz2,hz3⟩ := Z.st _ hj
      rw [k2] at hz1
      have ex : x = cfN q L R := Option.some.inj hz1
      subst ex
      have hk1 := s.k1
      have hk2 := s.k2
      have e1 : KS.take (i + 1 - 1).toNat = ks ++ [(k : Int)] := by
        rw [show (i + 1 - 1).toNat = (i - 1).toNat + 1 by omega,List.take_add_one,hz2,← k3]
        rfl
      have e2 : CF[(i + 1 - 1).toNat]? = some (cfN p L2 R2) := by rw [show (i + 1 - 1).toNat = (i - 1).toNat + 1 by omega]; exact hz3
      have hkl2 : (ks.length : Int) ≤ 2 := by rw [k3,List.length_take]; omega
      repeat' first|(apply n3;(first|exact a_new (gb := .bx _) rfl|exact a_litE eI [_] rfl rfl rfl rfl rfl rfl rfl rfl);exact rfl;refine dA ?_)|(apply p3;(first|exact pu1|exact a_ne rfl rfl|exact a_add rfl rfl (by omega) (by omega));exact rfl)|refine cd ?_|(apply s3;exact a_appE (fP rfl) rfl rfl rfl rfl nowR (by (simp <;> omega)) (by decide) (by decide) (by exact rfl);exact rfl;exact rfl)|(apply w3;(exact a_st_bx rfl rfl rfl rfl (fN rfl rfl) (Nat.le_of_ble_eq_true rfl) rfl);exact rfl;refine dS ?_)|(apply c4 0;exact callK1 (θ := []) (hD := (TagCostS_ok mX q L R p L2 R2 k gM s));exact rfl;exact rfl;exact rfl;refine dM ?_)|(apply c4 0;exact callK0 (θ := []) (hD := (StepS_ok mX q L R p L2 R2 k gM s));exact rfl;exact rfl;exact rfl;refine dM ?_)|(apply py3;exact rfl;exact rfl;(first|exact pu1|exact puC|exact a_ne rfl rfl);exact rfl;exact rfl)|((refine g_cond rfl (fun hc => ?_) (fun hc => ?_)) <;> (try simp only [dcB] at hc) <;> (try first|contradiction|(exfalso;omega)))|fail
      refine q_again (i + 1,cfN p L2 R2,ks ++ [(k : Int)],sm + k) [0,1,6,3] (by exact stk) ?_ ?_
      · refine ⟨by dsimp only; omega,by dsimp only; omega,e2,e1.symm,?_,by dsimp only; omega,by dsimp only; omega⟩
        dsimp only
        rw [e1,k3,k4]
        simp
      · dsimp only; omega
    · have hi : i = KS.length + 1 := by omega
      rw [show (i - 1).toNat = KS.length by omega,List.take_length] at k3 k4
      subst k3 k4
      repeat refine cr ?_
      refine ends_id ?_
      refine endK [] (h2 := ?_) (h3 := ?_) (nd := ?_)
      all_goals (repeat' first|exact ce0|refine ce ?_|refine ce2 ?_ ?_|exact SVLe.refl|refine ceb ?_)
      all_goals first | exact (show nodupB _ = true from rfl) | exact Or.inr rfl | (rfl)
    · have hi : i = KS.length + 1 := by omega
      rw [show (i - 1).toNat = KS.length by omega,List.take_length] at k3 k4
      have hs9 : sm ≤ 599 := by omega
      have htg := Z.tg (by omega)
      rw [← k4] at htg
      have htl := Z.tl
      have hal := Z.al
      have s1l : 1 ≤ sX.length := by omega
      have t1l : 1 ≤ tX.length := by omega
      have a1l : 1 ≤ aX.length := by omega
      have h00 : tX[0]'t1l = sX[0]'s1l := by
        rw [List.getElem?_eq_getElem t1l,List.getElem?_eq_getElem s1l] at ht0
        exact Option.some.inj ht0
      have ha0 : aX[0]'a1l = 0 := by
        have := Z.a0
        rw [List.getElem?_eq_getElem a1l] at this
        exact Option.some.inj this
      have hgl : ((gpL aX).length : Int) ≤ 10 := by rw [Z.ag]; omega
      repeat' first|(apply p3;(exact pu1);exact rfl)|refine cdn ?_|refine g_reg (id := 22) ?_|(apply c4 0;exact callF (hD := (iTagTexts_ok _ _ _ preB230 preB230 preB230));exact rfl;exact rfl;exact rfl;refine dM ?_)|fail
      rw [htg]
      repeat' first|(apply p3;(exact pu1);exact rfl)|refine cdn ?_|refine g_reg (id := 23) ?_|refine g_reg (id := 24) ?_|(apply c4 0;exact callF (hD := (FindSimulation_ok sX tX aX s1l (by omega) hne t1l (by omega) h00 hfs (by omega)));exact rfl;exact rfl;exact rfl;refine dM ?_)|(apply c4 0;exact callF (hD := (GapsOf_ok aX a1l (by omega) ha0 Z.ar Z.ab));exact rfl;exact rfl;exact rfl;refine dM ?_)|fail
      rw [Z.ag,← k3]
      simp only [setRow,C.frz.all,C.frz,SV.frz,tFrz,List.map_cons,List.map_nil,scC,List.set_cons_zero,List.set_cons_succ,Nat.zero_add,List.getElem?_cons_zero,List.getElem?_cons_succ,List.take_succ_cons,List.take_zero,List.drop_zero]
      have hks : (ks.length : Int) ≤ 1048576 := by rw [k3]; omega
      have kS : ¬ eqI ks ks = false := by simp [eqI]
      rw [← k4] at htl
      repeat' first|(apply p3;(first|exact pu1|exact puC);exact rfl)|refine cd ?_|(apply py3;exact rfl;exact rfl;(first|exact pu1|exact puN|exact puC|exact a_add rfl rfl (by omega) (by omega));exact rfl;exact rfl)|(apply cy4 0;exact rfl;exact rfl;exact callK1 (θ := []) (hD := (r8SameZ_ok ks ks hks hks));exact rfl;exact rfl;exact rfl;exact rfl;refine dM ?_)|((refine o_gs rfl rfl (fun hc => ?_) (fun hc => ?_)) <;> (try simp only [dcB] at hc) <;> (try first|contradiction|(exfalso;omega)))|fail
      repeat refine cr ?_
      refine ends_id ?_
      refine endK [] (h2 := ?_) (h3 := ?_) (nd := ?_)
      all_goals (repeat' first|exact ce0|refine ce ?_|refine ce2 ?_ ?_|exact SVLe.refl|refine ceb ?_)
      all_goals first | exact (show nodupB _ = true from rfl) | exact Or.inr rfl | ((first | rfl | (simp [htl]; done) | (rw [decide_eq_true_eq]; omega)))
end Go.Proofs.YtnkeamihfiobdaaGreatDoor
end
