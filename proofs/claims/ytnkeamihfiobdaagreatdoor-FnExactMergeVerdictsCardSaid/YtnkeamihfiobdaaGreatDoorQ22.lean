/- Parts of the proof (22 of 23). -/
import Derived.Shelf.SlSortCmp.NoneTotal
import Derived.Test.YtnkeamihfiobdaaGreatDoorQ21
section
namespace Go.Proofs
open Go.Shelf
def Tryz.sortV_ren : Go.Shelf.Ren := ⟨fun | 6 => 70 | 15 => 147 | 14 => 146 | 28 => 220 | 29 => 221 | 20 => 212 | 21 => 213 | 22 => 214 | 23 => 215 | 24 => 216 | 25 => 217 | 26 => 218 | 27 => 219 | 46 => 259 | 47 => 260 | 48 => 261 | 49 => 262 | 50 => 263 | 57 => 289 | n => n,fun | 22 => 45 | 24 => 109 | 25 => 119 | 3 => 3 | 39 => 203 | 0 => 0 | 53 => 260 | 55 => 144 | 4 => 4 | 46 => 254 | 45 => 253 | 50 => 114 | 5 => 5 | 9 => 9 | 66 => 290 | 70 => 294 | 76 => 316 | 77 => 317 | n => n,fun | n => n⟩
theorem Tryz.sortV : Go.Proofs.SlLaysF0.n6 Tryz.prog Tryz.sortV_ren := {
  mixed := by kernel_rfl
  f6 := ⟨Tryz.f70.name,by decide,Tryz.func70.trans (congrArg some (by kernel_rfl))⟩
  f14 := ⟨Tryz.f146.name,by decide,Tryz.func146.trans (congrArg some (by kernel_rfl))⟩
  f15 := Tryz.func147.trans (congrArg some (by kernel_rfl))
  f20 := ⟨Tryz.f212.name,by decide,Tryz.func212.trans (congrArg some (by kernel_rfl))⟩
  f21 := ⟨Tryz.f213.name,by decide,Tryz.func213.trans (congrArg some (by kernel_rfl))⟩
  f22 := ⟨Tryz.f214.name,by decide,Tryz.func214.trans (congrArg some (by kernel_rfl))⟩
  f23 := ⟨Tryz.f215.name,by decide,Tryz.func215.trans (congrArg some (by kernel_rfl))⟩
  f24 := ⟨Tryz.f216.name,by decide,Tryz.func216.trans (congrArg some (by kernel_rfl))⟩
  f25 := ⟨Tryz.f217.name,by decide,Tryz.func217.trans (congrArg some (by kernel_rfl))⟩
  f26 := ⟨Tryz.f218.name,by decide,Tryz.func218.trans (congrArg some (by kernel_rfl))⟩
  f27 := ⟨Tryz.f219.name,by decide,Tryz.func219.trans (congrArg some (by kernel_rfl))⟩
  f28 := Tryz.func220.trans (congrArg some (by kernel_rfl))
  f29 := Tryz.func221.trans (congrArg some (by kernel_rfl))
  f46 := ⟨Tryz.f259.name,by decide,Tryz.func259.trans (congrArg some (by kernel_rfl))⟩
  f47 := Tryz.func260.trans (congrArg some (by kernel_rfl))
  f48 := Tryz.func261.trans (congrArg some (by kernel_rfl))
  f49 := ⟨Tryz.f262.name,by decide,Tryz.func262.trans (congrArg some (by kernel_rfl))⟩
  f50 := ⟨Tryz.f263.name,by decide,Tryz.func263.trans (congrArg some (by kernel_rfl))⟩
  f57 := ⟨Tryz.f289.name,by decide,Tryz.func289.trans (congrArg some (by kernel_rfl))⟩
  t0 := Tryz.underlying0
  a0 := Tryz.isAgg0
  z0 := Tryz.sizeOf0
  v0 := Tryz.zeroValue0
  t3 := Tryz.underlying3
  a3 := Tryz.isAgg3
  z3 := Tryz.sizeOf3
  v3 := Tryz.zeroValue3
  t4 := Tryz.underlying4
  a4 := Tryz.isAgg4
  z4 := Tryz.sizeOf4
  v4 := Tryz.zeroValue4
  t5 := Tryz.underlying5
  a5 := Tryz.isAgg5
  z5 := Tryz.sizeOf5
  v5 := Tryz.zeroValue5
  t9 := Tryz.underlying9
  a9 := Tryz.isAgg9
  z9 := Tryz.sizeOf9
  v9 := Tryz.zeroValue9
  t22 := Tryz.underlying45
  a22 := Tryz.isAgg45
  z22 := Tryz.sizeOf45
  v22 := Tryz.zeroValue45
  t25 := Tryz.underlying119
  a25 := Tryz.isAgg119
  z25 := Tryz.sizeOf119
  v25 := Tryz.zeroValue119
  t39 := Tryz.underlying203
  a39 := Tryz.isAgg203
  z39 := Tryz.sizeOf203
  v39 := Tryz.zeroValue203
  t45 := Tryz.underlying253
  a45 := Tryz.isAgg253
  z45 := Tryz.sizeOf253
  v45 := Tryz.zeroValue253
  t46 := Tryz.underlying254
  a46 := Tryz.isAgg254
  z46 := Tryz.sizeOf254
  v46 := Tryz.zeroValue254
  t50 := Tryz.underlying114
  a50 := Tryz.isAgg114
  z50 := Tryz.sizeOf114
  v50 := Tryz.zeroValue114
  t53 := Tryz.underlying260
  a53 := Tryz.isAgg260
  z53 := Tryz.sizeOf260
  v53 := Tryz.zeroValue260
  t55 := Tryz.underlying144
  a55 := Tryz.isAgg144
  z55 := Tryz.sizeOf144
  v55 := Tryz.zeroValue144
  t66 := Tryz.underlying290
  a66 := Tryz.isAgg290
  z66 := Tryz.sizeOf290
  v66 := Tryz.zeroValue290
  t70 := Tryz.underlying294
  a70 := Tryz.isAgg294
  z70 := Tryz.sizeOf294
  v70 := Tryz.zeroValue294
  t76 := Tryz.underlying316
  a76 := Tryz.isAgg316
  z76 := Tryz.sizeOf316
  v76 := Tryz.zeroValue316
  t77 := Tryz.underlying317
  a77 := Tryz.isAgg317
  z77 := Tryz.sizeOf317
  v77 := Tryz.zeroValue317 }
end Go.Proofs
end
section
set_option linter.unusedVariables false
set_option linter.unusedSimpArgs false
set_option maxRecDepth 100000
set_option maxHeartbeats 4000000
namespace Go.Proofs.YtnkeamihfiobdaaGreatDoor
open Go Foot Go.RowKit Go.Sort
theorem sortV_c : SortC Tryz.prog 70 71 6 where
  nul p cap fv w := AnyF.slices_SortFunc_none (P := Tryz.prog) (ρ := Tryz.sortV_ren) Tryz.sortV p cap fv w
  sort enc hk h1 cf hO blk off cap d w hcmp hH hblk hsz := AnyQ.slices_SortFunc (P := Tryz.prog) (ρ := Tryz.sortV_ren) Tryz.sortV 6 (fun w => by kernel_rfl) (fun w => by kernel_rfl) enc hk h1 cf hO _ #[] blk off cap d w (enters_of Tryz.func71 (by kernel_rfl) rfl) hcmp hH hblk hsz
theorem mergeV1_ok (x y : Verd) (hx : okV x = true) (hy : okV y = true) : Does Tryz.prog 71 [.agg (veC x),.agg (veC y)] [] (.one (int (cmpS (kT x) (kT y)))) [] := by
  have bx := vMach_bd (okV_m hx)
  have by_ := vMach_bd (okV_m hy)
  have mx := okV_m hx
  have my := okV_m hy
  refine does_of (k := 0) Tryz.func71 rfl Tryz.ntmps71 rfl rfl fun w F0 S0 ρ0 => ?_
  dsimp only [argT,argH]
  repeat' first|(apply n3;exact a_new (gb := .bx _) rfl;exact rfl;refine dA ?_)|(apply p3;exact a_pure (sv := .one _) rfl;exact rfl)|refine cd ?_|(apply g_drN (id := 1) okM [[],[0],[0,1],[],[3],[0,1,2,3,4],[0,1,2,3,4,5],[0,1,2,3,4,5,6]] [([],[]),([],[]),([],[]),([],[]),([],[]),([],[]),([],[]),([],[])] 0;(focus (refine dp 0 0 [8,9] [] (by exact a_pure (sv := .one _) rfl) ?_;refine dp 1 1 [8,9] [] puL ?_;refine dp 2 3 [8,9] [] (by exact callD1 (n := _) 0 (θ := []) (hD := (MachineText_ok x.m mx))) ?_;refine dp 3 0 [5,6,7] [] (by exact a_pure (sv := .one _) rfl) ?_;refine dp 4 1 [5,6,7] [] puL ?_;refine dp 5 31 [] [] (by exact callD1 (n := _) 0 (θ := []) (hD := (MachineText_ok y.m my))) ?_;refine dp 6 63 [] [] (callD1 (n := _) 0 (θ := []) (hD := (CompareS_ok (kT x) (kT y)))) ?_;refine dp 7 127 [] [] pu1 ?_;(refine d_nil ?_;refine dN ?_)));any_goals kernel_rfl)|fail
  repeat refine cr ?_
  refine ends_id ?_
  refine endK [] (h2 := ?_) (h3 := ?_) (nd := ?_)
  all_goals (repeat' first|exact ce0|refine ce ?_|refine ce2 ?_ ?_|exact SVLe.refl|refine ceb ?_)
  all_goals first | exact (show nodupB _ = true from rfl) | exact Or.inr rfl | (rfl)
theorem cmp_lt (a b : Bs) : decide (cmpS a b < 0) = ltB a b := by
  unfold cmpS
  split
  · next h => rw [h]; rfl
  · next h =>
    have : ltB a b = false := by simpa using h
    rw [this]
    split <;> rfl
theorem swo_kT : SWO (ltOf fun x y : Verd => cmpS (kT x) (kT y)) where
  irrefl x := by unfold ltOf; rw [cmp_lt]; exact lt_irr _
  trans x y z h1 h2 := by unfold ltOf at *; rw [cmp_lt] at *; exact lt_trans _ _ _ h1 h2
  ntrans x y z h1 h2 := by
    unfold ltOf at *
    rw [cmp_lt] at *
    by_cases e1 : kT x = kT y
    · rw [e1]; exact h2
    · have a1 := lt_tri _ _ h1 e1
      by_cases e2 : kT y = kT z
      · rw [← e2]; exact h1
      · have a2 := lt_tri _ _ h2 e2
        have a3 := lt_trans _ _ _ a2 a1
        cases h : ltB (kT x) (kT z) with
        | false => rfl
        | true =>
          have := lt_trans _ _ _ a3 h
          rw [lt_irr] at this
          cases this
theorem sort_to {l l' : List Verd} (hd : DisV l) (hp : l.Perm l') (hs : SrtV l') : ∀ m : List Verd,m.Perm l → m.Pairwise (fun x y => ltOf (fun x y : Verd => cmpS (kT x) (kT y)) y x = false) → m = l' := by
  intro m hm hso
  have hdm : DisV m := hm.symm.pairwise hd (fun h e => h e.symm)
  have hsm : SrtV m := by
    refine (List.pairwise_and_iff.2 ⟨hdm,hso⟩).imp ?_
    rintro a b ⟨h1,h2⟩
    unfold ltOf at h2
    rw [cmp_lt] at h2
    exact lt_tri _ _ h2 (fun e => h1 e.symm)
  refine List.Perm.eq_of_pairwise (le := fun a b => ltB (kT a) (kT b) = true) ?_ hsm hs (hm.trans hp)
  intro a b _ _ h1 h2
  have := lt_trans _ _ _ h1 h2
  rw [lt_irr] at this
  cases this
theorem shut_eVn (v : Verd) : ShutL (eVn.enc v) (eV.enc v) := shutR
theorem SortV_ok (l l' : List Verd) (hn : (l.length : Int) ≤ 1048576) (hl : ∀ x ∈ l,okV x = true) (hd : DisV l) (hp : l.Perm l') (hs : SrtV l') : Does Tryz.prog 70 [.one (.gv 0),.one (.d (.fn (.func 71) []))] [roVn l] (.tup []) [roVn l'] :=
  does_sort (E := eVn) (E0 := eV) sortV_c (fun v => veC v) (fun v => rfl) shut_eVn (fun x y => cmpS (kT x) (kT y)) swo_kT l l' (fun x hx y hy => mergeV1_ok x y (hl x hx) (hl y hy)) (by omega) (sort_to hd hp hs)
end Go.Proofs.YtnkeamihfiobdaaGreatDoor
end
section
set_option linter.unusedVariables false
set_option linter.unusedSimpArgs false
set_option maxRecDepth 100000
set_option maxHeartbeats 4000000
namespace Go.Proofs.YtnkeamihfiobdaaGreatDoor
open Go Foot Go.RowKit
abbrev eVV : Enc (List Verd) := ⟨1,fun l => [.sl false 6 (rows eV l)],fun _ => rfl,by decide⟩
abbrev shVV (ls : List (List Verd)) : C := .d (.sl false 1 (rows eVV ls))
theorem preB255 {p : Prop} (h : p := by first | with_reducible assumption | omega | (simp only [List.length_append,List.length_cons,List.length_nil,List.length_set,List.length_replicate,List.length_take,List.length_drop,List.length_tail,List.length_dropLast,List.length_reverse] at *; omega) | exact mem_len (by assumption) (by omega) | (with_reducible refine Int.le_trans (Int.ofNat_le.2 (trimR_len _)) ?_; simp only [List.length_cons,List.length_tail]; omega) | (exact (ruAt_ok (by assumption) (by assumption) (by assumption)).2.1) | (exact (ruAt_ok (by assumption) (by assumption) (by assumption)).2.1) | (have := vMach_bd (by assumption); omega) | (simp only [List.length_append,List.length_cons,List.length_nil,repW_len,seN_len] at *; omega) | (simp only [mC_ch,mC_tu]; omega) | (have := vTag_bd (by assumption); omega) | (have := (‹Gd _ _›).le; omega) | (exact tgHalts_no (by assumption)) | (exact tgHead (by assumption) (by assumption) (by assumption)) | (exact Int.le_trans (tgStep_gd (by assumption) (by assumption) (by assumption) (by assumption)).le (by decide)) | (exact vTag_r (by assumption)) | (with_reducible refine Int.le_trans (Int.ofNat_le.2 (pushL_len _ _)) ?_; simp only [List.length_dropLast]; omega) | exact ls_at (by assumption) (by omega) | exact pt_gd (by assumption) | exact lv_at (by assumption) (by omega) | exact pt_gd (lv_at (by assumption) (by omega)) | exact (ask_ok (by assumption)).1 | exact (ask_ok (by assumption)).2.1 | exact (ask_ok (by assumption)).2.2.1 | exact (ask_ok (by assumption)).2.2.2 | trivial) : p := h
theorem growV_ok (n : Int) (h0 : 0 ≤ n) (h1 : n ≤ 16777216) : Does Tryz.prog 140 [.one nilC,.one (int n)] [] (.one (.gv 0)) [roV []] := by
  refine does_of (k := 0) Tryz.func140 rfl Tryz.ntmps140 rfl rfl fun w F0 S0 ρ0 => ?_
  dsimp only [argT,argH]
  repeat' first|(apply n3;exact a_nilO eV rfl;exact rfl)|(apply p3;(first|exact pu1|exact puC|exact a_cap0 rfl (fE rfl)|exact a_sub rfl rfl (by omega) (by omega));exact rfl)|refine cdn ?_|refine g_reg (id := 0) ?_|refine g_reg (id := 1) ?_|refine g_reg (id := 3) ?_|refine g_reg (id := 4) ?_|((refine g_cond rfl (fun hc => ?_) (fun hc => ?_)) <;> (try simp only [dcB] at hc) <;> (try first|contradiction|(exfalso;omega)))|fail
  · repeat' first|(apply p3;(first|exact pu1|exact a_cap0 rfl (fE rfl)|exact a_sl0 rfl rfl (fS rfl));exact rfl)|refine cd ?_|(apply s3;exact a_slHO rfl rfl rfl (fS rfl) (by omega) (by omega) (by exact rfl) (by decide);exact rfl;exact rfl)|(apply n3;exact a_appZ (zz := 6) (bytes := 96) (n := (n - (0 - 0)).toNat) (row := rows eVo (List.replicate (n - (0 - 0)).toNat none)) (fE rfl) (fK rfl) (fZ rfl) (fP rfl) (by decide) rfl rfl (by omega) rfl (by omega) (by omega) (rows_rep eVo none _);exact rfl)|fail
    repeat refine cr ?_
    refine ends_id ?_
    refine endK [?_] (h2 := ?_) (h3 := ?_) (nd := ?_)
    rotate_left 1
    all_goals (repeat' first|exact ce0|refine ce ?_|refine ce2 ?_ ?_|exact SVLe.refl|refine ceb ?_)
    all_goals first | exact (show nodupB _ = true from rfl) | exact Or.inr rfl | (rfl)
  · repeat' first|(apply n3;exact a_nilO eV rfl;exact rfl)|(apply p3;(exact pu1);exact rfl)|refine cd ?_|fail
    repeat refine cr ?_
    refine ends_id ?_
    refine endK [?_] (h2 := ?_) (h3 := ?_) (nd := ?_)
    rotate_left 1
    all_goals (repeat' first|exact ce0|refine ce ?_|refine ce2 ?_ ?_|exact SVLe.refl|refine ceb ?_)
    all_goals first | exact (show nodupB _ = true from rfl) | exact Or.inr rfl | (rfl)
theorem concatV_ok (ls : List (List Verd)) (hn : (ls.length : Int) ≤ 16777216) (hl : ∀ x ∈ ls,(x.length : Int) ≤ 16777216) (ht : (ls.flatten.length : Int) ≤ 16777216) : Does Tryz.prog 66 [.one (shVV ls)] [] (.one (.gv 0)) [roV ls.flatten] := by
  have key : ∀ i : Nat,(ls.take i).flatten.length ≤ ls.flatten.length := fun i => by
    have := congrArg (fun l => l.flatten.length) (List.take_append_drop i ls)
    simp only [List.flatten_append,List.length_append] at this
    omega
  have nx : ∀ (i : Int) (h0 : 0 ≤ i) (h : i.toNat < ls.length),(ls.take (i + 1).toNat).flatten = (ls.take i.toNat).flatten ++ ls[i.toNat] := fun i h0 h => by
    rw [show (i + 1).toNat = i.toNat + 1 by omega,List.take_succ_eq_append_getElem h,List.flatten_append,List.flatten_cons,List.flatten_nil,List.append_nil]
  refine does_of (k := 0) Tryz.func66 rfl Tryz.ntmps66 rfl rfl fun w F0 S0 ρ0 => ?_
  dsimp only [argT,argH]
  repeat' first|(apply n3;exact a_nilO eV rfl;exact rfl)|(apply p3;(first|exact pu1|exact puN);exact rfl)|refine cd ?_|fail
  refine g_loop_id ?_
  refine loopK [0,2,9,10] [] (fun y : Int × Int => 0 ≤ y.1 ∧ y.1 ≤ ls.length ∧ y.2 = (ls.take y.1.toNat).flatten.length) (fun y => [(11,.one (int y.1)),(3,.one (int y.2))]) (fun y => []) (fun y => (ls.length - y.1).toNat) ((0 : Int),(0 : Int)) [0] (hI := ?_) (hr := ?_)
  · exact ⟨by simp,by simp,by simp⟩
  · rintro ⟨i,s⟩ ⟨h0,h1,h2⟩
    dsimp only [List.cons_append,List.nil_append] at *
    skip
    repeat' first|(apply p3;(exact puC);exact rfl)|refine cdn ?_|refine g_reg (id := 3) ?_|((refine g_cond rfl (fun hc => ?_) (fun hc => ?_)) <;> (try simp only [dcB] at hc) <;> (try first|contradiction|(exfalso;omega)))|fail
    · have hk := key i.toNat
      have hk2 := key (i + 1).toNat
      have hx := nx i h0 (by omega)
      have hv := hl _ (List.getElem_mem (show i.toNat < ls.length by omega))
      have hx2 := congrArg List.length hx
      rw [List.length_append] at hx2
      repeat' first|(apply p3;(first|exact pu1|exact puC|exact puN|exact a_add rfl rfl (by omega) (by omega)|exact puI);exact rfl)|refine cd ?_|((refine g_cond rfl (fun hc => ?_) (fun hc => ?_)) <;> (try simp only [dcB] at hc) <;> (try first|contradiction|(exfalso;omega)))|fail
      refine q_again (i + 1,_) [0] (by exact stk) ?_ ?_
      · exact ⟨by dsimp only; omega,by dsimp only; omega,by dsimp only; omega⟩
      · dsimp only; omega
    · have hk := key i.toNat
      repeat' first|(apply p3;(first|exact pu1|exact puN);exact rfl)|refine cd ?_|(apply c4 1;exact callK0 (θ := []) (hD := (growV_ok _ preB255 preB255));exact rfl;exact rfl;exact rfl;refine dM ?_)|fail
      refine g_loop_id ?_
      refine loopK [2,6,25,26] [1] (fun y : Int × List Verd => 0 ≤ y.1 ∧ y.1 ≤ ls.length ∧ y.2 = (ls.take y.1.toNat).flatten) (fun y => [(27,.one (int y.1))]) (fun y => [(1,roV y.2)]) (fun y => (ls.length - y.1).toNat) ((0 : Int),([] : List Verd)) [0,1] (hI := ?_) (hr := ?_)
      · exact ⟨by simp,by simp,by simp⟩
      · rintro ⟨j,o⟩ ⟨j0,j1,j2⟩
        dsimp only [List.cons_append,List.nil_append] at *
        skip
        repeat' first|(apply p3;(exact puC);exact rfl)|refine cdn ?_|refine g_reg (id := 11) ?_|((refine g_cond rfl (fun hc => ?_) (fun hc => ?_)) <;> (try simp only [dcB] at hc) <;> (try first|contradiction|(exfalso;omega)))|fail
        · have hk2 := key (j + 1).toNat
          have hx := nx j j0 (by omega)
          have hv := hl _ (List.getElem_mem (show j.toNat < ls.length by omega))
          have hx2 := congrArg List.length hx
          rw [List.length_append] at hx2
          have hx3 := congrArg List.length j2
          repeat' first|(apply p3;(first|exact pu1|exact a_add rfl rfl (by omega) (by omega)|exact puI);exact rfl)|refine cd ?_|(apply s3;exact a_appE (fP rfl) rfl rfl rfl rfl nowR (by omega) (by decide) (by decide) (by exact rfl);exact rfl;exact rfl)|fail
          refine q_again (j + 1,_) [0,2] (by exact stk) ?_ ?_
          · exact ⟨by dsimp only; omega,by dsimp only; omega,by dsimp only; rw [hx,j2]⟩
          · dsimp only; omega
        · rw [List.take_of_length_le (by omega)] at j2
          rw [← j2]
          repeat' first|(apply p3;(exact pu1);exact rfl)|refine cd ?_|fail
          repeat refine cr ?_
          refine ends_id ?_
          refine endK [?_] (h2 := ?_) (h3 := ?_) (nd := ?_)
          rotate_left 1
          all_goals (repeat' first|exact ce0|refine ce ?_|refine ce2 ?_ ?_|exact SVLe.refl|refine ceb ?_)
          all_goals first | exact (show nodupB _ = true from rfl) | exact Or.inr rfl | (rfl)
end Go.Proofs.YtnkeamihfiobdaaGreatDoor
end
section
set_option linter.unusedVariables false
set_option linter.unusedSimpArgs false
set_option maxRecDepth 100000
namespace Go.Proofs.YtnkeamihfiobdaaGreatDoor
open Go Foot
theorem row_part {α : Type} {E : Enc α} {l : List α} {i o n : Nat} (hi : i < l.length) (ho : o + n ≤ E.z) : ((rows E l).drop (i * E.z + o)).take n = ((E.enc l[i]).drop o).take n := by
  have hl : (rows E (l.take i)).length = i * E.z := rows_pre rfl (Nat.le_of_lt hi)
  have he := E.len l[i]
  rw [rows_mid hi,List.append_assoc,List.drop_append,hl,List.drop_of_length_le (by omega),List.nil_append,show i * E.z + o - i * E.z = o by omega]
  rw [List.drop_append_of_le_length (by omega),List.take_append_of_le_length (by rw [List.length_drop]; omega)]
section
variable {P : Program} {g : Gh} {st : St} {dst : Option Tmp} {ty : TypeId} {pos : String} {after : Array Edge} {guard : Option (Nat × Bool)} {x y : Operand} {α : Type} {E : Enc α} {l : List α} {z r k i : Nat} {c0 : C}
theorem a_ldsE {T n : Nat} {ys : List D} {cs : List C} (o : Nat) (hc : opd st x = .one c0) (ht : tgt st c0 = some (r,k)) (hg : lkG st.h r = .row z (rows E l)) (hT : aggB P T n = true) (hz : E.z = z) (hk : k = i * z + o) (hn : 0 < n) (ho : o + n ≤ z) (hi : i < l.length) (hq : ((E.enc l[i]).drop o).take n = ys) (hno : D.noOwn.all ys) (hcs : ys.map C.d = cs) :
    Acts P g ⟨dst,.load T x,ty,pos,after,guard⟩ st (.agg cs) [] [] := by
  subst hz
  subst hk
  refine a_lds_row hc ht hg hT hn ?_ (by rw [row_part hi ho]; exact hq) hno hcs
  rw [rows_len]
  have : (i + 1) * E.z ≤ l.length * E.z := Nat.mul_le_mul_right _ hi
  rw [Nat.add_mul,Nat.one_mul] at this
  omega
end
end Go.Proofs.YtnkeamihfiobdaaGreatDoor
end
section
set_option linter.unusedVariables false
set_option linter.unusedSimpArgs false
namespace Go.Proofs.YtnkeamihfiobdaaGreatDoor
open Go Foot
theorem CLe.lendQ {h : List (Nat × GB)} {ld : List Nat} {g o n z i k : Nat} {α : Type} {E : Enc α} {l : List α} {ys : List D} (hg : memB g ld = true) (e : lkG h g = .row z (rows E l)) (hz : E.z = z) (ho : i * z + k = o) (hi : i < l.length) (hk : k + n ≤ z) (hn : 0 < n) (hx : ((E.enc (l[i]'hi)).drop k).take n = ys) (hno : D.noOwn.all ys) : CLe h ld (.gp g o) (.d (.bx false ys)) := by
  subst hz
  subst ho
  refine CLe.lendR (n := n) (memB_iff.1 hg) e hn ?_ ?_
  · rw [rows_len]
    have : (i + 1) * E.z ≤ l.length * E.z := Nat.mul_le_mul_right _ hi
    rw [Nat.add_mul,Nat.one_mul] at this
    omega
  · rw [row_part hi hk,hx]
    exact ShutL.no hno
end Go.Proofs.YtnkeamihfiobdaaGreatDoor
end
section
set_option linter.unusedVariables false
set_option linter.unusedSimpArgs false
set_option maxRecDepth 100000
set_option maxHeartbeats 4000000
namespace Go.Proofs.YtnkeamihfiobdaaGreatDoor
open Go Foot Go.RowKit
theorem preB147 {p : Prop} (h : p := by first | with_reducible assumption | omega | (simp only [List.length_append,List.length_cons,List.length_nil,List.length_set,List.length_replicate,List.length_take,List.length_drop,List.length_tail,List.length_dropLast,List.length_reverse] at *; omega) | exact mem_len (by assumption) (by omega) | (with_reducible refine Int.le_trans (Int.ofNat_le.2 (trimR_len _)) ?_; simp only [List.length_cons,List.length_tail]; omega) | (exact (ruAt_ok (by assumption) (by assumption) (by assumption)).2.1) | (exact (ruAt_ok (by assumption) (by assumption) (by assumption)).2.1) | (have := vMach_bd (by assumption); omega) | (simp only [mC_ch,mC_tu]; omega) | (have := vTag_bd (by assumption); omega) | (have := (‹Gd _ _›).le; omega) | (exact tgHalts_no (by assumption)) | (exact tgHead (by assumption) (by assumption) (by assumption)) | (exact Int.le_trans (tgStep_gd (by assumption) (by assumption) (by assumption) (by assumption)).le (by decide)) | (exact vTag_r (by assumption)) | (with_reducible refine Int.le_trans (Int.ofNat_le.2 (pushL_len _ _)) ?_; simp only [List.length_dropLast]; omega) | exact ls_at (by assumption) (by omega) | exact pt_gd (by assumption) | exact lv_at (by assumption) (by omega) | exact pt_gd (lv_at (by assumption) (by omega)) | exact (ask_ok (by assumption)).1 | exact (ask_ok (by assumption)).2.1 | exact (ask_ok (by assumption)).2.2.1 | exact (ask_ok (by assumption)).2.2.2 | trivial) : p := h
theorem l29CopyZ_ok (xs : List (List Int)) (hx : (xs.length : Int) ≤ 16777216) (hy : ∀ x ∈ xs,(x.length : Int) ≤ 16777216) : Does Tryz.prog 204 [.one (shW xs)] [] (.one (shW xs)) [] := by
  refine does_of (k := 0) Tryz.func204 rfl Tryz.ntmps204 rfl rfl fun w F0 S0 ρ0 => ?_
  dsimp only [argT,argH]
  repeat' first|(apply n3;(exact a_litE eW [] rfl rfl rfl rfl rfl rfl rfl rfl);exact rfl;refine dA ?_)|(apply p3;(exact pu1);exact rfl)|refine cd ?_|fail
  refine g_loop_id ?_
  refine loopK [0,2] [0] (fun y : Int × List (List Int) => 0 ≤ y.1 ∧ y.1 ≤ xs.length ∧ y.2 = xs.take y.1.toNat) (fun y => [(4,.one (int y.1)),(3,.one (.gv 0))]) (fun y => [(0,.row 1 (rows eW y.2))]) (fun y => (xs.length - y.1).toNat) ((0 : Int),([] : List (List Int))) [0] (hI := ?_) (hr := ?_)
  · exact ⟨by simp,by simp,by simp⟩
  · rintro ⟨i,l⟩ ⟨h0,h1,h2⟩
    dsimp only [List.cons_append,List.nil_append] at *
    skip
    repeat' first|(apply p3;(first|exact pu1|exact puN|exact puC);exact rfl)|refine cdn ?_|refine g_reg (id := 3) ?_|refine g_reg (id := 6) ?_|((refine g_cond rfl (fun hc => ?_) (fun hc => ?_)) <;> (try simp only [dcB] at hc) <;> (try first|contradiction|(exfalso;omega)))|fail
    · have hi : i.toNat < xs.length := by omega
      have hc1 := hy _ (List.getElem_mem hi)
      have hll : l.length ≤ xs.length := by rw [h2,List.length_take]; omega
      repeat' first|(apply n3;(exact a_litE eW [_] rfl rfl rfl rfl rfl rfl rfl rfl);exact rfl;refine dA ?_)|(apply p3;(first|exact pu1|exact a_add rfl rfl (by omega) (by omega)|exact puI);exact rfl)|refine cd ?_|(apply s3;exact a_appE (fP rfl) rfl rfl rfl rfl nowR (by (simp <;> omega)) (by decide) (by decide) (by exact rfl);exact rfl;exact rfl)|(apply c4 0;exact callF (hD := (l00Own_ok _ preB147));exact rfl;exact rfl;exact rfl;refine dM ?_)|fail
      refine q_again (i + 1,l ++ [xs[i.toNat]'hi]) [2] (by exact stk) ?_ ?_
      · refine ⟨by dsimp only; omega,by dsimp only; omega,?_⟩
        dsimp only
        rw [h2,show (i + 1).toNat = i.toNat + 1 by omega,List.take_succ_eq_append_getElem hi]
      · dsimp only; omega
    · have e : l = xs := by rw [h2,List.take_of_length_le (by omega)]
      rw [e]
      refine g_turn (t_freeze (i := 0) rfl nowR) ?_
      repeat refine cr ?_
      refine ends_id ?_
      refine endK [] (h2 := ?_) (h3 := ?_) (nd := ?_)
      all_goals (repeat' first|exact ce0|refine ce ?_|refine ce2 ?_ ?_|exact SVLe.refl|refine ceb ?_)
      all_goals first | exact (show nodupB _ = true from rfl) | exact Or.inr rfl | (rfl)
theorem l31OwnZ_ok (v : Verd) (g : VeGd v) : Does Tryz.prog 134 [.one (veB v)] [] (.agg (veC v)) [] := by
  obtain ⟨g1,g2,g3,g4⟩ := g
  refine does_of (k := 0) Tryz.func134 rfl Tryz.ntmps134 rfl rfl fun w F0 S0 ρ0 => ?_
  dsimp only [argT,argH]
  repeat' first|(apply n3;exact a_new (gb := .bx _) rfl;exact rfl;refine dA ?_)|(apply p3;(first|exact a_fa_immT 3 (T := 109) (f := 0) (off := 0) rfl (by kernel_rfl) rfl|exact pu1);exact rfl)|refine cd ?_|(apply w3;(exact a_st_bx rfl rfl rfl rfl (fN rfl rfl) (Nat.le_of_ble_eq_true rfl) rfl);exact rfl;refine dS ?_)|(apply c4 0;exact callF (hD := (l05Own_ok v.m g1));exact rfl;exact rfl;exact rfl;refine dM ?_)|(apply g_drN (id := 2) okM [[],[0],[0,1],[0,1,2],[0,1,2,3],[],[5],[5,6],[5,6,7],[5,6,7,8],[5,6,7,8,9],[],[11],[11,12],[11,12,13],[11,12,13,14],[5,6,7,8,9,10,11,12,13,14,15],[0,1,2,3,4,5,6,7,8,9,10,11,12,13,14,15,16],[0,1,2,3,4,5,6,7,8,9,10,11,12,13,14,15,16,17],[0,1,2,3,4,5,6,7,8,9,10,11,12,13,14,15,16,17,18]] [([],[]),([],[]),([],[]),([],[]),([],[]),([],[]),([],[]),([],[]),([],[]),([],[]),([],[]),([],[]),([],[]),([],[]),([],[]),([],[]),([],[]),([],[]),([],[]),([],[1])] 0;(focus (refine dp 0 0 [14,15,16,17,18,19,20,21,22,23,24,25] [] pu1 ?_;refine dp 1 1 [14,15,16,17,18,19,20,21,22,23,24,25] [] (a_pure (sv := .one _) rfl) ?_;refine dp 2 3 [14,15,16,17,18,19,20,21,22,23,24,25] [] (by exact a_fa_immT 3 (T := 109) (f := 1) (off := 3) rfl (by kernel_rfl) rfl) ?_;refine dp 3 7 [14,15,16,17,18,19,20,21,22,23,24,25] [] (a_pure (sv := .one _) rfl) ?_;refine dp 4 15 [14,15,16,17,18,19,20,21,22,23,24,25] [] puL ?_;refine dp 5 0 [9,10,11,12,13,20,21,22,23,24] [] pu1 ?_;refine dp 6 1 [9,10,11,12,13,20,21,22,23,24] [] (a_pure (sv := .one _) rfl) ?_;refine dp 7 3 [9,10,11,12,13,20,21,22,23,24] [] (by exact a_fa_immT 3 (T := 109) (f := 1) (off := 3) rfl (by kernel_rfl) rfl) ?_;refine dp 8 7 [9,10,11,12,13,20,21,22,23,24] [] (a_pure (sv := .one _) rfl) ?_;refine dp 9 15 [9,10,11,12,13,20,21,22,23,24] [] puL ?_;refine dp 10 31 [9,10,11,12,13,20,21,22,23,24] [] (callFD 0 (hD := (l00Own_ok v.p.nu g2))) ?_;refine dp 11 0 [9,10,11,12,13,14,15,16,17,18,19] [] pu1 ?_;refine dp 12 1 [9,10,11,12,13,14,15,16,17,18,19] [] (a_pure (sv := .one _) rfl) ?_;refine dp 13 3 [9,10,11,12,13,14,15,16,17,18,19] [] (by exact a_fa_immT 3 (T := 109) (f := 1) (off := 3) rfl (by kernel_rfl) rfl) ?_;refine dp 14 7 [9,10,11,12,13,14,15,16,17,18,19] [] (a_pure (sv := .one _) rfl) ?_;refine dp 15 15 [9,10,11,12,13,14,15,16,17,18,19] [] puL ?_;refine dp 16 2047 [9,10,11,12,13] [] (callD0 (n := _) 0 (θ := []) (hD := (l29CopyZ_ok v.p.wo g3 g4))) ?_;refine dp 17 131071 [] [] (a_pure (sv := .agg _) rfl) ?_;refine dp 18 262143 [] [] (by exact a_pure (sv := .one _) rfl) ?_;refine duE 19 524287 [] [] (a_st_bx rfl rfl rfl rfl (fN rfl rfl) (Nat.le_of_ble_eq_true rfl) rfl) (by exact rfl) (by exact rfl) ?_;(refine d_nil ?_;refine dN ?_)));any_goals kernel_rfl)|fail
  repeat refine cr ?_
  refine ends_id ?_
  refine endK [] (h2 := ?_) (h3 := ?_) (nd := ?_)
  all_goals (repeat' first|exact ce0|refine ce ?_|refine ce2 ?_ ?_|exact SVLe.refl|refine ceb ?_)
  all_goals first | exact (show nodupB _ = true from rfl) | exact Or.inr rfl | (rfl)
theorem gt_lt (a b : Bs) : (!(ltB a b || decide (a = b))) = ltB b a := by
  by_cases e : a = b
  · subst e
    rw [lt_irr]
    simp
  · rw [decide_eq_false e,Bool.or_false]
    cases h : ltB a b with
    | false => rw [lt_tri a b h e]; rfl
    | true =>
      cases h2 : ltB b a with
      | false => rfl
      | true => exact absurd rfl (lt_ne (lt_trans _ _ _ h h2))
theorem gap_at {l : List Verd} {k : Int} {x : Option Verd} (h0 : 0 < k) (h1 : k ≤ l.length) (h : (k - 1).toNat < (List.map some (List.take k.toNat l) ++ x :: List.map some (List.drop k.toNat l)).length) (hl : (k - 1).toNat < l.length) : (List.map some (List.take k.toNat l) ++ x :: List.map some (List.drop k.toNat l))[(k - 1).toNat]'h = some (l[(k - 1).toNat]'hl) := by
  rw [List.getElem_append_left (by simp only [List.length_map,List.length_take]; omega)]
  simp only [List.getElem_map,List.getElem_take]
theorem gap_set {l : List Verd} {k : Int} {x : Option Verd} (h0 : 0 < k) (h1 : k ≤ l.length) (hl : (k - 1).toNat < l.length) : (List.map some (List.take k.toNat l) ++ x :: List.map some (List.drop k.toNat l)).set k.toNat (some (l[(k - 1).toNat]'hl)) = List.map some (List.take (k - 1).toNat l) ++ some (l[(k - 1).toNat]'hl) :: List.map some (List.drop (k - 1).toNat l) := by
  have e : k.toNat = (k - 1).toNat + 1 := by omega
  have el : (List.map some (List.take k.toNat l)).length = k.toNat := by rw [List.length_map,List.length_take]; omega
  rw [List.set_append_right _ _ (by omega),el,Nat.sub_self,List.set_cons_zero]
  have eR : List.map some (List.drop (k - 1).toNat l) = some (l[(k - 1).toNat]'hl) :: List.map some (List.drop ((k - 1).toNat + 1) l) := by rw [List.drop_eq_getElem_cons hl,List.map_cons]
  rw [eR,e,List.take_succ_eq_append_getElem hl,List.map_append]
  simp only [List.map_cons,List.map_nil,List.append_assoc,List.singleton_append]
theorem gap_end {l : List Verd} {k : Int} {x : Option Verd} {v : Verd} (h1 : k ≤ l.length) : (List.map some (List.take k.toNat l) ++ x :: List.map some (List.drop k.toNat l)).set k.toNat (some v) = (l.take k.toNat ++ v :: l.drop k.toNat).map some := by
  have el : (List.map some (List.take k.toNat l)).length = (l.take k.toNat).length := by rw [List.length_map]
  by_cases hk : k.toNat ≤ l.length
  · have el2 : (l.take k.toNat).length = k.toNat := by rw [List.length_take]; omega
    rw [List.set_append_right _ _ (by omega),el,el2,Nat.sub_self,List.set_cons_zero]
    simp
  · omega
theorem nowVo (x : Option Verd) : D.noOwn.all (eVo.enc x) := by
  cases x <;> (repeat (first | exact trivial | exact rfl | refine And.intro ?_ ?_))
theorem l31AddNew_ok (l : List Verd) (v : Verd) (hn : (l.length : Int) ≤ 1048576) (hs : SrtV l) (hl : ∀ x ∈ l,okV x = true) (hv : okV v = true) (gv : VeGd v) (h : ¬ (0 < posV (kT v) l ∧ ∃ hl : posV (kT v) l - 1 < l.length,kT (l[posV (kT v) l - 1]) = kT v)) : Does Tryz.prog 63 [.one (.gv 0),.one (veB v)] [roV l] (.one (.gv 2)) [.dead,.dead,roV (insV l v)] := by
  have hm := okV_m hv
  refine does_of (k := 1) Tryz.func63 rfl Tryz.ntmps63 rfl rfl fun w F0 S0 ρ0 => ?_
  dsimp only [argT,argH]
  repeat' first|(apply p3;(first|exact a_fa_immT 3 (T := 109) (f := 0) (off := 0) rfl (by kernel_rfl) rfl|exact pu1|exact puN);exact rfl)|refine cd ?_|(apply c4 0;exact callK1 (θ := []) (hD := (l05Text_ok v.m hm));exact rfl;exact rfl;exact rfl;refine dM ?_)|fail
  have hple := posV_le (kT v) l
  refine g_loop_id ?_
  refine loopK [0,1,4,5] [] (fun a : Int => (posV (kT v) l : Int) ≤ a ∧ a ≤ l.length) (fun a => [(6,.one (int a))]) (fun _ => []) (fun a => a.toNat) (l.length : Int) [0] (hI := ?_) (hr := ?_)
  · exact ⟨by omega,by omega⟩
  · rintro a ⟨a0,a1⟩
    dsimp only [List.cons_append,List.nil_append] at *
    skip
    repeat' first|refine cdn ?_|fail
    by_cases ha : 0 < a
    · have hi : (a - 1).toNat < l.length := by omega
      have hmx := okV_m (hl _ (List.getElem_mem hi))
      have cG : ltB (kT v) (kT (l[(a - 1).toNat]'hi)) = !(ltB (kT (l[(a - 1).toNat]'hi)) (kT v) || decide (kT (l[(a - 1).toNat]'hi) = kT v)) := (gt_lt _ _).symm
      have p1 := posV_lt (t := kT v) hi
      have p2 := posV_ge (t := kT v) hs hi
      repeat' first|(apply p3;(first|exact pu1|exact puC|exact a_sub rfl rfl (by omega) (by omega));exact rfl)|refine cdn ?_|refine g_reg (id := 3) ?_|refine g_reg (id := 4) ?_|(apply py3;exact rfl;exact rfl;(first|exact pu1|exact a_sub rfl rfl (by omega) (by omega)|exact a_gtT rfl rfl|exact puI);exact rfl;exact rfl)|(apply cy4 0;exact rfl;exact rfl;exact callK1 (θ := []) (hD := (l05Text_ok (l[(a - 1).toNat]'hi).m hmx)) (ha := (ASLe.cons (SVLe.one (CLe.lendQ (E := eV) (l := l) (i := (a - 1).toNat) (k := 0) (n := 3) rfl rfl rfl rfl hi (by decide) (by decide) rfl (by repeat (first|exact trivial|exact rfl|refine And.intro ?_ ?_)))) ASLe.nil));exact rfl;exact rfl;exact rfl;exact rfl;refine dM ?_)|((first|refine o_gs rfl rfl (fun hc => ?_) (fun hc => ?_)|refine g_cond rfl (fun hc => ?_) (fun hc => ?_)) <;> (try simp only [dcB] at hc) <;> (try first|contradiction|(exfalso;omega)))|fail
      · refine q_again (a - 1) [0] (by exact stk) ?_ ?_
        · refine ⟨?_,by omega⟩
          rcases Nat.lt_or_ge (a - 1).toNat (posV (kT v) l) with q | q
          · have := p1 q
            rw [cG] at this
            simp_all
          · omega
        · omega
      · have hap : a = posV (kT v) l := by
          rcases Nat.lt_or_ge (a - 1).toNat (posV (kT v) l) with q | q
          · omega
          · have := p2 q
            rw [cG] at this
            simp_all
        have hne : ¬ macT (l[(a - 1).toNat]'hi).m = macT v.m := fun e => h ⟨by omega,by omega,by
          have e2 : posV (kT v) l - 1 = (a - 1).toNat := by omega
          simp only [e2]
          exact e⟩
        repeat' first|(apply p3;(first|exact pu1|exact puC);exact rfl)|refine cdn ?_|refine g_reg (id := 5) ?_|(apply py3;exact rfl;exact rfl;(first|exact pu1|exact a_sub rfl rfl (by omega) (by omega)|exact a_eqT rfl rfl|exact puI);exact rfl;exact rfl)|(apply cy4 0;exact rfl;exact rfl;exact callK1 (θ := []) (hD := (l05Text_ok (l[(a - 1).toNat]'hi).m hmx)) (ha := (ASLe.cons (SVLe.one (CLe.lendQ (E := eV) (l := l) (i := (a - 1).toNat) (k := 0) (n := 3) rfl rfl rfl rfl hi (by decide) (by decide) rfl (by repeat (first|exact trivial|exact rfl|refine And.intro ?_ ?_)))) ASLe.nil));exact rfl;exact rfl;exact rfl;exact rfl;refine dM ?_)|((first|refine o_gs rfl rfl (fun hc => ?_) (fun hc => ?_)|refine g_cond rfl (fun hc => ?_) (fun hc => ?_)) <;> (try simp only [dcB] at hc) <;> (try first|contradiction|(exfalso;omega)))|fail
        rw [← rows_vo]
        have eL : ((List.map some l ++ [none]).length : Int) = l.length + 1 := by simp
        repeat' first|(apply n3;(exact a_litE eVo [none] rfl rfl rfl rfl rfl rfl rfl rfl);exact rfl;refine dA ?_)|(apply p3;(first|exact pu1|exact a_sub rfl rfl (by omega) (by omega)|exact puN);exact rfl)|refine cdn ?_|refine g_reg (id := 9) ?_|refine g_reg (id := 10) ?_|(apply s3;exact a_appE (fP rfl) rfl rfl rfl rfl (nowR nowVo) (by (simp <;> omega)) (by decide) (by decide) (by exact rfl);exact rfl;exact rfl)|fail
        rw [eL]
        refine g_loop_id ?_
        refine loopK [1,4] [2] (fun y : Int × List (Option Verd) × Option Verd => a ≤ y.1 ∧ y.1 ≤ l.length ∧ y.2.1 = (l.take y.1.toNat).map some ++ y.2.2 :: (l.drop y.1.toNat).map some) (fun y => [(8,.one (int y.1)),(7,.one (.gv 2)),(6,.one (int a))]) (fun y => [(2,.row 6 (rows eVo y.2.1))]) (fun y => y.1.toNat) ((l.length : Int) + 1 - 1,l.map some ++ [none],(none : Option Verd)) [0,1,2] (hI := ?_) (hr := ?_)
        · exact ⟨by dsimp only; omega,by dsimp only; omega,by dsimp only; rw [show ((l.length : Int) + 1 - 1).toNat = l.length by omega,List.take_length,List.drop_length]; rfl⟩
        · rintro ⟨k,X,x⟩ ⟨k0,k1,k2⟩
          dsimp only [List.cons_append,List.nil_append] at *
          skip
          repeat' first|(apply p3;(first|exact pu1|exact puC);exact rfl)|refine cdn ?_|refine g_reg (id := 11) ?_|((refine g_cond rfl (fun hc => ?_) (fun hc => ?_)) <;> (try simp only [dcB] at hc) <;> (try first|contradiction|(exfalso;omega)))|fail
          · have eX : (X.length : Int) = l.length + 1 := by
              rw [k2]
              simp only [List.length_append,List.length_map,List.length_cons,List.length_take,List.length_drop]
              omega
            have hk0 : 0 < k := by omega
            have hk1 : (k - 1).toNat < X.length := by omega
            have hkl : (k - 1).toNat < l.length := by omega
            have hXk : X[(k - 1).toNat]'hk1 = some (l[(k - 1).toNat]'hkl) := by
              subst k2
              exact gap_at hk0 k1 hk1 hkl
            repeat' first|(apply p3;(first|exact pu1|exact a_sub rfl rfl (by omega) (by omega)|exact puI);exact rfl)|refine cd ?_|(apply w3;(exact a_stE (E := eVo) (some (l[(k - 1).toNat]'hkl)) rfl rfl rfl rfl (fN rfl rfl) bnd (by exact rfl));exact rfl;refine dS ?_)|(apply p3;exact a_ldsE (E := eVo) (ys := eVo.enc (some (l[(k - 1).toNat]'hkl))) 0 rfl rfl rfl (fA rfl) rfl rfl (Nat.le_of_ble_eq_true rfl) (Nat.le_of_ble_eq_true rfl) hk1 (by rw [hXk];rfl) (nowVo _) rfl;exact rfl)|fail
            refine q_again (k - 1,X.set k.toNat (some (l[(k - 1).toNat]'hkl)),some (l[(k - 1).toNat]'hkl)) [0,1,2] (by exact stk) ?_ ?_
            · refine ⟨by dsimp only; omega,by dsimp only; omega,?_⟩
              dsimp only
              rw [k2]
              exact gap_set hk0 k1 hkl
            · dsimp only; omega
          · have hka : k = a := by omega
            have eX : (X.length : Int) = l.length + 1 := by
              rw [k2]
              simp only [List.length_append,List.length_map,List.length_cons,List.length_take,List.length_drop]
              omega
            repeat' first|(apply p3;(first|exact pu1|exact puI);exact rfl)|refine cd ?_|(apply w3;(exact a_stE (E := eVo) (some v) rfl rfl rfl rfl (fN rfl rfl) bnd (by exact rfl));exact rfl;refine dS ?_)|(apply c4 0;exact callK0 (θ := []) (hD := (l31OwnZ_ok _ preB147));exact rfl;exact rfl;exact rfl;refine dM ?_)|fail
            have eE : X.set a.toNat (some v) = (insV l v).map some := by
              rw [k2,hka,gap_end a1,insV_pos hs,dif_neg h,show a.toNat = posV (kT v) l by omega]
            rw [eE,rows_vo]
            repeat refine cr ?_
            refine ends_id ?_
            refine endK [1,2] (h2 := ?_) (h3 := ?_) (nd := ?_)
            all_goals (repeat' first|exact ce0|refine ce ?_|refine ce2 ?_ ?_|(refine Or.inr (bx_eq rfl rfl ?_);(try dsimp only [C.ren,C.ren.all]);(try exact rfl))|exact SVLe.refl|refine ceb ?_)
            all_goals first | exact (show nodupB _ = true from rfl) | exact Or.inr rfl | (rfl)
    · skip
      have hap : a = posV (kT v) l := by omega
      repeat' first|(apply p3;(first|exact pu1|exact puC);exact rfl)|refine cdn ?_|refine g_reg (id := 3) ?_|refine g_reg (id := 5) ?_|refine o_no rfl rfl rfl rfl ?_|((refine o_gs rfl rfl (fun hc => ?_) (fun hc => ?_)) <;> (try simp only [dcB] at hc) <;> (try first|contradiction|(exfalso;omega)))|fail
      rw [← rows_vo]
      have eL : ((List.map some l ++ [none]).length : Int) = l.length + 1 := by simp
      repeat' first|(apply n3;(exact a_litE eVo [none] rfl rfl rfl rfl rfl rfl rfl rfl);exact rfl;refine dA ?_)|(apply p3;(first|exact pu1|exact puN|exact a_sub rfl rfl (by omega) (by omega));exact rfl)|refine cdn ?_|refine g_reg (id := 9) ?_|refine g_reg (id := 10) ?_|(apply s3;exact a_appE (fP rfl) rfl rfl rfl rfl (nowR nowVo) (by (simp <;> omega)) (by decide) (by decide) (by exact rfl);exact rfl;exact rfl)|fail
      rw [eL]
      refine g_loop_id ?_
      refine loopK [1,4] [2] (fun y : Int × List (Option Verd) × Option Verd => a ≤ y.1 ∧ y.1 ≤ l.length ∧ y.2.1 = (l.take y.1.toNat).map some ++ y.2.2 :: (l.drop y.1.toNat).map some) (fun y => [(8,.one (int y.1)),(7,.one (.gv 2)),(6,.one (int a))]) (fun y => [(2,.row 6 (rows eVo y.2.1))]) (fun y => y.1.toNat) ((l.length : Int) + 1 - 1,l.map some ++ [none],(none : Option Verd)) [0,1,2] (hI := ?_) (hr := ?_)
      · exact ⟨by dsimp only; omega,by dsimp only; omega,by dsimp only; rw [show ((l.length : Int) + 1 - 1).toNat = l.length by omega,List.take_length,List.drop_length]; rfl⟩
      · rintro ⟨k,X,x⟩ ⟨k0,k1,k2⟩
        dsimp only [List.cons_append,List.nil_append] at *
        skip
        repeat' first|(apply p3;(first|exact pu1|exact puC);exact rfl)|refine cdn ?_|refine g_reg (id := 11) ?_|((refine g_cond rfl (fun hc => ?_) (fun hc => ?_)) <;> (try simp only [dcB] at hc) <;> (try first|contradiction|(exfalso;omega)))|fail
        · have eX : (X.length : Int) = l.length + 1 := by
            rw [k2]
            simp only [List.length_append,List.length_map,List.length_cons,List.length_take,List.length_drop]
            omega
          have hk0 : 0 < k := by omega
          have hk1 : (k - 1).toNat < X.length := by omega
          have hkl : (k - 1).toNat < l.length := by omega
          have hXk : X[(k - 1).toNat]'hk1 = some (l[(k - 1).toNat]'hkl) := by
            subst k2
            exact gap_at hk0 k1 hk1 hkl
          repeat' first|(apply p3;(first|exact pu1|exact a_sub rfl rfl (by omega) (by omega)|exact puI);exact rfl)|refine cd ?_|(apply w3;(exact a_stE (E := eVo) (some (l[(k - 1).toNat]'hkl)) rfl rfl rfl rfl (fN rfl rfl) bnd (by exact rfl));exact rfl;refine dS ?_)|(apply p3;exact a_ldsE (E := eVo) (ys := eVo.enc (some (l[(k - 1).toNat]'hkl))) 0 rfl rfl rfl (fA rfl) rfl rfl (Nat.le_of_ble_eq_true rfl) (Nat.le_of_ble_eq_true rfl) hk1 (by rw [hXk];rfl) (nowVo _) rfl;exact rfl)|fail
          refine q_again (k - 1,X.set k.toNat (some (l[(k - 1).toNat]'hkl)),some (l[(k - 1).toNat]'hkl)) [0,1,2] (by exact stk) ?_ ?_
          · refine ⟨by dsimp only; omega,by dsimp only; omega,?_⟩
            dsimp only
            rw [k2]
            exact gap_set hk0 k1 hkl
          · dsimp only; omega
        · have hka : k = a := by omega
          have eX : (X.length : Int) = l.length + 1 := by
            rw [k2]
            simp only [List.length_append,List.length_map,List.length_cons,List.length_take,List.length_drop]
            omega
          repeat' first|(apply p3;(first|exact pu1|exact puI);exact rfl)|refine cd ?_|(apply w3;(exact a_stE (E := eVo) (some v) rfl rfl rfl rfl (fN rfl rfl) bnd (by exact rfl));exact rfl;refine dS ?_)|(apply c4 0;exact callK0 (θ := []) (hD := (l31OwnZ_ok _ preB147));exact rfl;exact rfl;exact rfl;refine dM ?_)|fail
          have eE : X.set a.toNat (some v) = (insV l v).map some := by
            rw [k2,hka,gap_end a1,insV_pos hs,dif_neg h,show a.toNat = posV (kT v) l by omega]
          rw [eE,rows_vo]
          repeat refine cr ?_
          refine ends_id ?_
          refine endK [1,2] (h2 := ?_) (h3 := ?_) (nd := ?_)
          all_goals (repeat' first|exact ce0|refine ce ?_|refine ce2 ?_ ?_|(refine Or.inr (bx_eq rfl rfl ?_);(try dsimp only [C.ren,C.ren.all]);(try exact rfl))|exact SVLe.refl|refine ceb ?_)
          all_goals first | exact (show nodupB _ = true from rfl) | exact Or.inr rfl | (rfl)
theorem l31AddAt_ok (l : List Verd) (v : Verd) (hn : (l.length : Int) ≤ 1048576) (hs : SrtV l) (hl : ∀ x ∈ l,okV x = true) (hv : okV v = true) (gv : VeGd v) (h : 0 < posV (kT v) l ∧ ∃ hl : posV (kT v) l - 1 < l.length,kT (l[posV (kT v) l - 1]) = kT v) : Does Tryz.prog 63 [.one (.gv 0),.one (veB v)] [roV l] (.one (.gv 0)) [roV (insV l v)] := by
  have hm := okV_m hv
  refine does_of (k := 1) Tryz.func63 rfl Tryz.ntmps63 rfl rfl fun w F0 S0 ρ0 => ?_
  dsimp only [argT,argH]
  repeat' first|(apply p3;(first|exact a_fa_immT 3 (T := 109) (f := 0) (off := 0) rfl (by kernel_rfl) rfl|exact pu1|exact puN);exact rfl)|refine cd ?_|(apply c4 0;exact callK1 (θ := []) (hD := (l05Text_ok v.m hm));exact rfl;exact rfl;exact rfl;refine dM ?_)|fail
  have hple := posV_le (kT v) l
  refine g_loop_id ?_
  refine loopK [0,1,4,5] [] (fun a : Int => (posV (kT v) l : Int) ≤ a ∧ a ≤ l.length) (fun a => [(6,.one (int a))]) (fun _ => []) (fun a => a.toNat) (l.length : Int) [0] (hI := ?_) (hr := ?_)
  · exact ⟨by omega,by omega⟩
  · rintro a ⟨a0,a1⟩
    dsimp only [List.cons_append,List.nil_append] at *
    skip
    repeat' first|refine cdn ?_|fail
    have ha : 0 < a := by omega
    have hi : (a - 1).toNat < l.length := by omega
    have hmx := okV_m (hl _ (List.getElem_mem hi))
    have cG : ltB (kT v) (kT (l[(a - 1).toNat]'hi)) = !(ltB (kT (l[(a - 1).toNat]'hi)) (kT v) || decide (kT (l[(a - 1).toNat]'hi) = kT v)) := (gt_lt _ _).symm
    have p1 := posV_lt (t := kT v) hi
    have p2 := posV_ge (t := kT v) hs hi
    repeat' first|(apply p3;(first|exact pu1|exact puC|exact a_sub rfl rfl (by omega) (by omega));exact rfl)|refine cdn ?_|refine g_reg (id := 3) ?_|refine g_reg (id := 4) ?_|(apply py3;exact rfl;exact rfl;(first|exact pu1|exact a_sub rfl rfl (by omega) (by omega)|exact a_gtT rfl rfl|exact puI);exact rfl;exact rfl)|(apply cy4 0;exact rfl;exact rfl;exact callK1 (θ := []) (hD := (l05Text_ok (l[(a - 1).toNat]'hi).m hmx)) (ha := (ASLe.cons (SVLe.one (CLe.lendQ (E := eV) (l := l) (i := (a - 1).toNat) (k := 0) (n := 3) rfl rfl rfl rfl hi (by decide) (by decide) rfl (by repeat (first|exact trivial|exact rfl|refine And.intro ?_ ?_)))) ASLe.nil));exact rfl;exact rfl;exact rfl;exact rfl;refine dM ?_)|((first|refine o_gs rfl rfl (fun hc => ?_) (fun hc => ?_)|refine g_cond rfl (fun hc => ?_) (fun hc => ?_)) <;> (try simp only [dcB] at hc) <;> (try first|contradiction|(exfalso;omega)))|fail
    · refine q_again (a - 1) [0] (by exact stk) ?_ ?_
      · refine ⟨?_,by omega⟩
        rcases Nat.lt_or_ge (a - 1).toNat (posV (kT v) l) with q | q
        · have := p1 q
          rw [cG] at this
          simp_all
        · omega
      · omega
    · have hap : a = posV (kT v) l := by
        rcases Nat.lt_or_ge (a - 1).toNat (posV (kT v) l) with q | q
        · omega
        · have := p2 q
          rw [cG] at this
          simp_all
      have e2 : posV (kT v) l - 1 = (a - 1).toNat := by omega
      have heq : macT (l[(a - 1).toNat]'hi).m = macT v.m := by
        have h2 := h.2.2
        simp only [e2] at h2
        exact h2
      have hpos := insV_pos (v := v) hs
      rw [dif_pos h] at hpos
      simp only [e2] at hpos
      repeat' first|(apply p3;(first|exact pu1|exact puC|exact a_sub rfl rfl (by omega) (by omega)|exact puI);exact rfl)|refine cd ?_|(apply w3;(exact a_stE (E := eV) v rfl rfl rfl rfl (fN rfl rfl) bnd (by exact rfl));exact rfl;refine dS ?_)|(apply c4 0;exact callK1 (θ := []) (hD := (l31None_ok (l[(a - 1).toNat]'hi).p)) (ha := (ASLe.cons (SVLe.one (CLe.lendQ (E := eV) (l := l) (i := (a - 1).toNat) (k := 3) (n := 3) rfl rfl rfl rfl hi (by decide) (by decide) rfl (by repeat (first|exact trivial|exact rfl|refine And.intro ?_ ?_)))) ASLe.nil));exact rfl;exact rfl;exact rfl;refine dM ?_)|(apply c4 0;exact callK0 (θ := []) (hD := (l31OwnZ_ok _ preB147));exact rfl;exact rfl;exact rfl;refine dM ?_)|(apply py3;exact rfl;exact rfl;(first|exact pu1|exact a_sub rfl rfl (by omega) (by omega)|exact a_eqT rfl rfl|exact puI);exact rfl;exact rfl)|(apply cy4 0;exact rfl;exact rfl;exact callK1 (θ := []) (hD := (l05Text_ok (l[(a - 1).toNat]'hi).m hmx)) (ha := (ASLe.cons (SVLe.one (CLe.lendQ (E := eV) (l := l) (i := (a - 1).toNat) (k := 0) (n := 3) rfl rfl rfl rfl hi (by decide) (by decide) rfl (by repeat (first|exact trivial|exact rfl|refine And.intro ?_ ?_)))) ASLe.nil));exact rfl;exact rfl;exact rfl;exact rfl;refine dM ?_)|((first|refine o_gs rfl rfl (fun hc => ?_) (fun hc => ?_)|refine g_cond rfl (fun hc => ?_) (fun hc => ?_)) <;> (try simp only [dcB] at hc) <;> (try first|contradiction|(exfalso;omega)))|fail
      · rw [if_pos hc] at hpos
        rw [hpos]
        repeat refine cr ?_
        refine ends_id ?_
        refine endK [] (h2 := ?_) (h3 := ?_) (nd := ?_)
        all_goals (repeat' first|exact ce0|refine ce ?_|refine ce2 ?_ ?_|(refine Or.inr (bx_eq rfl rfl ?_);(try dsimp only [C.ren,C.ren.all]);(try exact rfl))|exact SVLe.refl|refine ceb ?_)
        all_goals first | exact (show nodupB _ = true from rfl) | exact Or.inr rfl | (rfl)
      · rw [if_neg (by rw [hc]; decide)] at hpos
        rw [hpos]
        repeat refine cr ?_
        refine ends_id ?_
        refine endK [] (h2 := ?_) (h3 := ?_) (nd := ?_)
        all_goals (repeat' first|exact ce0|refine ce ?_|refine ce2 ?_ ?_|(refine Or.inr (bx_eq rfl rfl ?_);(try dsimp only [C.ren,C.ren.all]);(try exact rfl))|exact SVLe.refl|refine ceb ?_)
        all_goals first | exact (show nodupB _ = true from rfl) | exact Or.inr rfl | (rfl)
theorem insV_ok {l : List Verd} {v : Verd} (hl : ∀ x ∈ l,okV x = true) (hv : okV v = true) : ∀ x ∈ insV l v,okV x = true := fun x hx => by
  rcases insV_key hx with rfl | hx
  · exact hv
  · exact hl x hx
theorem insV_len : ∀ (l : List Verd) (v : Verd),(insV l v).length ≤ l.length + 1
  | [],v => by simp [insV]
  | x :: l,v => by
    have := insV_len l v
    rw [insV]
    (repeat' split) <;> simp only [List.length_cons] <;> omega
abbrev insA (a : List Verd) (l : List Verd) : List Verd := a.foldl insV l
theorem insA_take {a : List Verd} {i : Nat} (h : i < a.length) (l : List Verd) : insA (a.take (i + 1)) l = insV (insA (a.take i) l) a[i] := by
  unfold insA
  rw [List.take_succ_eq_append_getElem h,List.foldl_append]
  rfl
theorem insA_all : ∀ (a l : List Verd),SrtV l → (∀ x ∈ l,okV x = true) → (∀ x ∈ a,okV x = true) → SrtV (insA a l) ∧ (∀ x ∈ insA a l,okV x = true) ∧ (insA a l).length ≤ l.length + a.length
  | [],l,h1,h2,_ => ⟨h1,h2,Nat.le_refl _⟩
  | v :: a,l,h1,h2,h3 => by
    obtain ⟨i1,i2,i3⟩ := insA_all a (insV l v) (insV_srt h1) (insV_ok h2 (h3 v (by simp))) (fun x hx => h3 x (by simp [hx]))
    have := insV_len l v
    exact ⟨i1,i2,by show (insA a (insV l v)).length ≤ _; simp only [List.length_cons]; omega⟩
end Go.Proofs.YtnkeamihfiobdaaGreatDoor
end
section
set_option linter.unusedVariables false
set_option linter.unusedSimpArgs false
set_option maxRecDepth 100000
set_option maxHeartbeats 4000000
namespace Go.Proofs.YtnkeamihfiobdaaGreatDoor
open Go Foot Go.RowKit
@[irreducible] def mgX (a b : List Verd) : List Verd × Int := if okVs a = true ∧ okVs b = true then (if ((insA b (insA a [])).length : Int) > 40 then ([],5) else (insA b (insA a []),0)) else ([],1)
theorem okVs_of {a : List Verd} (h : okVs a = true) : (a.length : Int) ≤ 40 ∧ ∀ x ∈ a,okV x = true := by
  unfold okVs at h
  simp only [Bool.and_eq_true,decide_eq_true_eq,List.all_eq_true] at h
  exact h
theorem sMerge_ok (a b : List Verd) (ga : LsGd a) (gb : LsGd b) : Does Tryz.prog 16 [.one (shV a),.one (shV b)] [] (.tup [(false,[.gv 0]),(false,[int (mgX a b).2])]) [roV (mgX a b).1] := by
  by_cases hab : okVs a = true ∧ okVs b = true
  · obtain ⟨ha,hb⟩ := hab
    obtain ⟨a1,a2⟩ := okVs_of ha
    obtain ⟨b1,b2⟩ := okVs_of hb
    have eM : mgX a b = if ((insA b (insA a [])).length : Int) > 40 then ([],5) else (insA b (insA a []),0) := by unfold mgX; rw [if_pos ⟨ha,hb⟩]
    have na : ¬ okVs a = false := by rw [ha]; decide
    have nb : ¬ okVs b = false := by rw [hb]; decide
    refine does_of (k := 0) Tryz.func16 rfl Tryz.ntmps16 rfl rfl fun w F0 S0 ρ0 => ?_
    dsimp only [argT,argH]
    repeat' first|(apply n3;exact a_nilO eV rfl;exact rfl)|(apply n3;exact a_litE eV [] rfl rfl rfl rfl rfl rfl rfl rfl;exact rfl;refine dA ?_)|(apply p3;(exact pu1);exact rfl)|refine cd ?_|(apply c4 0;exact callK1 (θ := []) (hD := (l31List_ok a ga));exact rfl;exact rfl;exact rfl;refine dM ?_)|(apply py3;exact rfl;exact rfl;(exact pu1);exact rfl;exact rfl)|(apply cy4 0;exact rfl;exact rfl;exact callK1 (θ := []) (hD := (l31List_ok b gb));exact rfl;exact rfl;exact rfl;exact rfl;refine dM ?_)|((first|refine o_gs rfl rfl (fun hc => ?_) (fun hc => ?_)|refine g_cond rfl (fun hc => ?_) (fun hc => ?_)) <;> (try simp only [dcB] at hc) <;> (try first|contradiction|(exfalso;omega)))|fail
    refine g_loop_id ?_
    refine loopK [0,1,4,5] [1] (fun y : Int × List Verd => 0 ≤ y.1 ∧ y.1 ≤ a.length ∧ y.2 = insA (a.take y.1.toNat) []) (fun y => [(7,.one (int y.1)),(6,.one (.gv 1))]) (fun y => [(1,roV y.2)]) (fun y => (a.length - y.1).toNat) ((0 : Int),([] : List Verd)) [0,1] (hI := ?_) (hr := ?_)
    · exact ⟨by simp,by simp,by simp⟩
    · rintro ⟨i,l⟩ ⟨h0,h1,h2⟩
      dsimp only [List.cons_append,List.nil_append] at *
      skip
      repeat' first|(apply p3;(first|exact pu1|exact puN|exact puC);exact rfl)|refine cdn ?_|refine g_reg (id := 5) ?_|((refine g_cond rfl (fun hc => ?_) (fun hc => ?_)) <;> (try simp only [dcB] at hc) <;> (try first|contradiction|(exfalso;omega)))|fail
      · have hi : i.toNat < a.length := by omega
        have hv := a2 _ (List.getElem_mem hi)
        have gv := ga.a _ (List.getElem_mem hi)
        obtain ⟨l1,l2,l3⟩ := insA_all (a.take i.toNat) [] List.Pairwise.nil (fun x hx => by cases hx) (fun x hx => a2 x (List.mem_of_mem_take hx))
        rw [← h2,List.length_take] at l3
        rw [← h2] at l1 l2
        have hn : (l.length : Int) ≤ 1048576 := by simp only [List.length_nil] at l3; omega
        have es : insV l (a[i.toNat]'hi) = insA (a.take (i + 1).toNat) [] := by rw [show (i + 1).toNat = i.toNat + 1 by omega,insA_take hi,← h2]
        by_cases h : 0 < posV (kT (a[i.toNat]'hi)) l ∧ ∃ hl : posV (kT (a[i.toNat]'hi)) l - 1 < l.length,kT (l[posV (kT (a[i.toNat]'hi)) l - 1]) = kT (a[i.toNat]'hi)
        · skip
          repeat' first|(apply p3;(first|exact pu1|exact a_add rfl rfl (by omega) (by omega)|exact puI);exact rfl)|refine cd ?_|(apply c4 0;exact callK0 (θ := [_]) (hD := (l31AddAt_ok l (a[i.toNat]'hi) hn l1 l2 hv gv h));exact rfl;exact rfl;exact rfl;refine dM ?_)|fail
          refine q_again (i + 1,insV l (a[i.toNat]'hi)) [0,1] (by exact stk) ?_ ?_
          · exact ⟨by dsimp only; omega,by dsimp only; omega,es⟩
          · dsimp only; omega
        · skip
          repeat' first|(apply p3;(first|exact pu1|exact a_add rfl rfl (by omega) (by omega)|exact puI);exact rfl)|refine cd ?_|(apply c4 2;exact callK0 (θ := [_]) (hD := (l31AddNew_ok l (a[i.toNat]'hi) hn l1 l2 hv gv h));exact rfl;exact rfl;exact rfl;refine dM ?_)|fail
          refine q_again (i + 1,insV l (a[i.toNat]'hi)) [0,3] (by exact stk) ?_ ?_
          · exact ⟨by dsimp only; omega,by dsimp only; omega,es⟩
          · dsimp only; omega
      · have el : l = insA a [] := by rw [h2,List.take_of_length_le (by omega)]
        obtain ⟨s1,s2,s3⟩ := insA_all a [] List.Pairwise.nil (fun x hx => by cases hx) a2
        rw [← el] at s1 s2 s3
        repeat' first|(apply p3;(exact pu1);exact rfl)|refine cd ?_|fail
        refine g_loop_id ?_
        refine loopK [1,4,5] [1] (fun y : Int × List Verd => 0 ≤ y.1 ∧ y.1 ≤ b.length ∧ y.2 = insA (b.take y.1.toNat) l) (fun y => [(8,.one (int y.1)),(6,.one (.gv 1))]) (fun y => [(1,roV y.2)]) (fun y => (b.length - y.1).toNat) ((0 : Int),l) [0,1] (hI := ?_) (hr := ?_)
        · exact ⟨by simp,by simp,by simp⟩
        · rintro ⟨j,q⟩ ⟨j0,j1,j2⟩
          dsimp only [List.cons_append,List.nil_append] at *
          skip
          repeat' first|(apply p3;(first|exact pu1|exact puN|exact puC);exact rfl)|refine cdn ?_|refine g_reg (id := 9) ?_|((refine g_cond rfl (fun hc => ?_) (fun hc => ?_)) <;> (try simp only [dcB] at hc) <;> (try first|contradiction|(exfalso;omega)))|fail
          · have hj : j.toNat < b.length := by omega
            have hv := b2 _ (List.getElem_mem hj)
            have gv := gb.a _ (List.getElem_mem hj)
            obtain ⟨l1,l2,l3⟩ := insA_all (b.take j.toNat) l s1 s2 (fun x hx => b2 x (List.mem_of_mem_take hx))
            rw [← j2,List.length_take] at l3
            rw [← j2] at l1 l2
            have hn : (q.length : Int) ≤ 1048576 := by simp only [List.length_nil] at s3; omega
            have es : insV q (b[j.toNat]'hj) = insA (b.take (j + 1).toNat) l := by rw [show (j + 1).toNat = j.toNat + 1 by omega,insA_take hj,← j2]
            by_cases h : 0 < posV (kT (b[j.toNat]'hj)) q ∧ ∃ hl : posV (kT (b[j.toNat]'hj)) q - 1 < q.length,kT (q[posV (kT (b[j.toNat]'hj)) q - 1]) = kT (b[j.toNat]'hj)
            · skip
              repeat' first|(apply p3;(first|exact pu1|exact a_add rfl rfl (by omega) (by omega)|exact puI);exact rfl)|refine cd ?_|(apply c4 0;exact callK0 (θ := [_]) (hD := (l31AddAt_ok q (b[j.toNat]'hj) hn l1 l2 hv gv h));exact rfl;exact rfl;exact rfl;refine dM ?_)|fail
              refine q_again (j + 1,insV q (b[j.toNat]'hj)) [0,1] (by exact stk) ?_ ?_
              · exact ⟨by dsimp only; omega,by dsimp only; omega,es⟩
              · dsimp only; omega
            · skip
              repeat' first|(apply p3;(first|exact pu1|exact a_add rfl rfl (by omega) (by omega)|exact puI);exact rfl)|refine cd ?_|(apply c4 2;exact callK0 (θ := [_]) (hD := (l31AddNew_ok q (b[j.toNat]'hj) hn l1 l2 hv gv h));exact rfl;exact rfl;exact rfl;refine dM ?_)|fail
              refine q_again (j + 1,insV q (b[j.toNat]'hj)) [0,3] (by exact stk) ?_ ?_
              · exact ⟨by dsimp only; omega,by dsimp only; omega,es⟩
              · dsimp only; omega
          · have eq : q = insA b l := by rw [j2,List.take_of_length_le (by omega)]
            rw [← el,← eq] at eM
            repeat' first|(apply n3;exact a_nilO eV rfl;exact rfl)|(apply p3;(first|exact pu1|exact puN|exact puC);exact rfl)|refine cd ?_|((refine g_cond rfl (fun hc => ?_) (fun hc => ?_)) <;> (try simp only [dcB] at hc) <;> (try first|contradiction|(exfalso;omega)))|fail
            · rw [if_pos (by omega)] at eM
              rw [eM]
              repeat refine cr ?_
              refine ends_id ?_
              refine endK [?_] (h2 := ?_) (h3 := ?_) (nd := ?_)
              rotate_left 1
              all_goals (repeat' first|exact ce0|refine ce ?_|refine ce2 ?_ ?_|(refine Or.inr (bx_eq rfl rfl ?_);(try dsimp only [C.ren,C.ren.all]);(try exact rfl))|exact SVLe.refl|refine ceb ?_)
              all_goals first | exact (show nodupB _ = true from rfl) | exact Or.inr rfl | (rfl)
            · rw [if_neg (by omega)] at eM
              rw [eM]
              repeat refine cr ?_
              refine ends_id ?_
              refine endK [?_] (h2 := ?_) (h3 := ?_) (nd := ?_)
              rotate_left 1
              all_goals (repeat' first|exact ce0|refine ce ?_|refine ce2 ?_ ?_|(refine Or.inr (bx_eq rfl rfl ?_);(try dsimp only [C.ren,C.ren.all]);(try exact rfl))|exact SVLe.refl|refine ceb ?_)
              all_goals first | exact (show nodupB _ = true from rfl) | exact Or.inr rfl | (rfl)
  · have eM : mgX a b = ([],1) := by unfold mgX; rw [if_neg hab]
    rw [eM]
    by_cases ha : okVs a = true
    · have nb : ¬ okVs b = true := fun q => hab ⟨ha,q⟩
      have na : ¬ okVs a = false := by rw [ha]; decide
      refine does_of (k := 0) Tryz.func16 rfl Tryz.ntmps16 rfl rfl fun w F0 S0 ρ0 => ?_
      dsimp only [argT,argH]
      repeat' first|(apply n3;exact a_nilO eV rfl;exact rfl)|(apply p3;(exact pu1);exact rfl)|refine cd ?_|(apply c4 0;exact callK1 (θ := []) (hD := (l31List_ok a ga));exact rfl;exact rfl;exact rfl;refine dM ?_)|(apply py3;exact rfl;exact rfl;(exact pu1);exact rfl;exact rfl)|(apply cy4 0;exact rfl;exact rfl;exact callK1 (θ := []) (hD := (l31List_ok b gb));exact rfl;exact rfl;exact rfl;exact rfl;refine dM ?_)|((first|refine o_gs rfl rfl (fun hc => ?_) (fun hc => ?_)|refine g_cond rfl (fun hc => ?_) (fun hc => ?_)) <;> (try simp only [dcB] at hc) <;> (try first|contradiction|(exfalso;omega)))|fail
      repeat refine cr ?_
      refine ends_id ?_
      refine endK [?_] (h2 := ?_) (h3 := ?_) (nd := ?_)
      rotate_left 1
      all_goals (repeat' first|exact ce0|refine ce ?_|refine ce2 ?_ ?_|(refine Or.inr (bx_eq rfl rfl ?_);(try dsimp only [C.ren,C.ren.all]);(try exact rfl))|exact SVLe.refl|refine ceb ?_)
      all_goals first | exact (show nodupB _ = true from rfl) | exact Or.inr rfl | (rfl)
    · skip
      refine does_of (k := 0) Tryz.func16 rfl Tryz.ntmps16 rfl rfl fun w F0 S0 ρ0 => ?_
      dsimp only [argT,argH]
      repeat' first|(apply n3;exact a_nilO eV rfl;exact rfl)|(apply p3;(exact pu1);exact rfl)|refine cd ?_|(apply c4 0;exact callK1 (θ := []) (hD := (l31List_ok a ga));exact rfl;exact rfl;exact rfl;refine dM ?_)|refine o_no rfl rfl rfl rfl ?_|((refine o_gs rfl rfl (fun hc => ?_) (fun hc => ?_)) <;> (try simp only [dcB] at hc) <;> (try first|contradiction|(exfalso;omega)))|fail
      repeat refine cr ?_
      refine ends_id ?_
      refine endK [?_] (h2 := ?_) (h3 := ?_) (nd := ?_)
      rotate_left 1
      all_goals (repeat' first|exact ce0|refine ce ?_|refine ce2 ?_ ?_|(refine Or.inr (bx_eq rfl rfl ?_);(try dsimp only [C.ren,C.ren.all]);(try exact rfl))|exact SVLe.refl|refine ceb ?_)
      all_goals first | exact (show nodupB _ = true from rfl) | exact Or.inr rfl | (rfl)
end Go.Proofs.YtnkeamihfiobdaaGreatDoor
end
section
set_option linter.unusedVariables false
set_option linter.unusedSimpArgs false
set_option maxRecDepth 100000
set_option maxHeartbeats 4000000
namespace Go.Proofs.YtnkeamihfiobdaaGreatDoor
open Go Foot Go.RowKit
def esV (k : Int) : List Verd → List (Bs × Int)
  | [] => []
  | v :: r => (kT v,k) :: esV (k + 1) r
theorem esV_none {v : Verd} : ∀ {l : List Verd} {k : Int},getA (esV k l) (kT v) = none → addI l v = l ++ [v] ∧ setA (esV k l) (kT v) (k + l.length) = esV k (l ++ [v])
  | [],k,h => by simp [addI,esV,setA]
  | x :: l,k,h => by
    rw [esV,getA] at h
    split at h
    · cases h
    · next hne =>
      obtain ⟨h1,h2⟩ := esV_none h
      refine ⟨by rw [addI,if_neg hne,h1]; rfl,?_⟩
      rw [esV,setA,if_neg hne]
      simp only [List.cons_append,esV,List.length_cons]
      rw [← h2]
      congr 2
      omega
theorem esV_some {v : Verd} : ∀ {l : List Verd} {k i : Int},getA (esV k l) (kT v) = some i → ∃ (j : Nat) (hj : j < l.length),i = k + j ∧ kT l[j] = kT v ∧ addI l v = (if isZ (l[j]).p = true ∧ isZ v.p = false then l.set j v else l)
  | [],k,i,h => by cases h
  | x :: l,k,i,h => by
    rw [esV,getA] at h
    split at h
    · next e =>
      cases h
      refine ⟨0,by simp,by simp,e,?_⟩
      rw [addI,if_pos e]
      rfl
    · next hne =>
      obtain ⟨j,hj,h1,h2,h3⟩ := esV_some h
      refine ⟨j + 1,by simpa using hj,by omega,h2,?_⟩
      rw [addI,if_neg hne,h3]
      simp only [List.getElem_cons_succ,List.set_cons_succ]
      split <;> rfl
theorem esV_some0 {v : Verd} {l : List Verd} {i : Int} (h : getA (esV 0 l) (kT v) = some i) : ∃ (_ : 0 ≤ i) (hj : i.toNat < l.length),kT l[i.toNat] = kT v ∧ addI l v = (if isZ (l[i.toNat]).p = true ∧ isZ v.p = false then l.set i.toNat v else l) := by
  obtain ⟨j,hj,h1,h2,h3⟩ := esV_some h
  have e : i.toNat = j := by omega
  subst e
  exact ⟨by omega,hj,h2,h3⟩
theorem esV_set {v : Verd} : ∀ {l : List Verd} {k : Int} {j : Nat} (hj : j < l.length),kT l[j] = kT v → esV k (l.set j v) = esV k l
  | x :: l,k,0,hj,h => by
    simp only [List.getElem_cons_zero] at h
    simp only [List.set_cons_zero,esV,h]
  | x :: l,k,j + 1,hj,h => by
    simp only [List.set_cons_succ,esV]
    rw [esV_set (l := l) (by simpa using hj) h]
abbrev adA (a l : List Verd) : List Verd := a.foldl addI l
theorem adA_take {a : List Verd} {i : Nat} (h : i < a.length) (l : List Verd) : adA (a.take (i + 1)) l = addI (adA (a.take i) l) a[i] := by
  unfold adA
  rw [List.take_succ_eq_append_getElem h,List.foldl_append]
  rfl
theorem addI_len : ∀ (l : List Verd) (v : Verd),(addI l v).length ≤ l.length + 1
  | [],v => by simp [addI]
  | x :: l,v => by
    have := addI_len l v
    rw [addI]
    (repeat' split) <;> simp only [List.length_cons] <;> omega
theorem adA_len : ∀ (a l : List Verd),(adA a l).length ≤ l.length + a.length
  | [],l => Nat.le_refl _
  | v :: a,l => by
    have h1 := adA_len a (addI l v)
    have h2 := addI_len l v
    show (adA a (addI l v)).length ≤ _
    simp only [List.length_cons]
    omega
theorem Merge_ok (a b : List Verd) (ga : LsGd a) (gb : LsGd b) : Does Tryz.prog 18 [.one (shV a),.one (shV b)] [] (.tup [(false,[.gv 0]),(false,[int (mgX a b).2])]) [roVn (mgX a b).1] := by
  by_cases hab : okVs a = true ∧ okVs b = true
  · obtain ⟨ha,hb⟩ := hab
    obtain ⟨a1,a2⟩ := okVs_of ha
    obtain ⟨b1,b2⟩ := okVs_of hb
    have na : ¬ okVs a = false := by rw [ha]; decide
    have nb : ¬ okVs b = false := by rw [hb]; decide
    have eM : mgX a b = if ((insA b (insA a [])).length : Int) > 40 then ([],5) else (insA b (insA a []),0) := by unfold mgX; rw [if_pos ⟨ha,hb⟩]
    obtain ⟨xs,exs⟩ : ∃ xs,xs = a ++ b := ⟨_,rfl⟩
    have hxl : (xs.length : Int) ≤ 80 := by rw [exs,List.length_append]; omega
    have hxo : ∀ x ∈ xs,okV x = true := fun x hx => by rw [exs] at hx; exact (List.mem_append.1 hx).elim (a2 x) (b2 x)
    have hxg : ∀ x ∈ xs,VeGd x := fun x hx => by rw [exs] at hx; exact (List.mem_append.1 hx).elim (ga.a x) (gb.a x)
    have ef : [a,b].flatten = xs := by rw [exs]; simp
    have hfl : (([a,b] : List (List Verd)).flatten.length : Int) ≤ 16777216 := by rw [ef]; omega
    refine does_of (k := 0) Tryz.func18 rfl Tryz.ntmps18 rfl rfl fun w F0 S0 ρ0 => ?_
    dsimp only [argT,argH]
    repeat' first|(apply n3;exact a_nilO eVn rfl;exact rfl)|(apply n3;(first|exact a_mkMapE mSI|exact a_litE eVn [] rfl rfl rfl rfl rfl rfl rfl rfl);exact rfl;refine dA ?_)|(apply p3;exact pu1;exact rfl)|refine cdn ?_|refine g_reg (id := 0) ?_|refine g_reg (id := 1) ?_|refine g_reg (id := 3) ?_|(apply c4 0;exact callK1 (θ := []) (hD := (areVerdicts_ok a ga));exact rfl;exact rfl;exact rfl;refine dM ?_)|(apply py3;exact rfl;exact rfl;exact pu1;exact rfl;exact rfl)|(apply cy4 0;exact rfl;exact rfl;exact callK1 (θ := []) (hD := (areVerdicts_ok b gb));exact rfl;exact rfl;exact rfl;exact rfl;refine dM ?_)|((first|refine o_gs rfl rfl (fun hc => ?_) (fun hc => ?_)|refine g_cond rfl (fun hc => ?_) (fun hc => ?_)) <;> (try simp only [dcB] at hc) <;> (try first|contradiction|(exfalso;omega)))|fail
    repeat' first|(apply p3;exact a_litF (dst := some 25) eVV [_,_] rfl rfl rfl rfl rfl rfl rfl rfl nowR;exact rfl)|(apply p3;(first|exact pu1|exact puN);exact rfl)|refine cd ?_|(apply c4 1;exact callK0 (θ := []) (hD := (concatV_ok [a,b] (by simp) (fun x hx => by simp at hx;rcases hx with rfl|rfl <;> omega) hfl));exact rfl;exact rfl;exact rfl;refine dM ?_)|fail
    rw [ef]
    refine g_loop_id ?_
    refine loopK [4,5,6,26,27] [1,2] (fun y : Int × List Verd => 0 ≤ y.1 ∧ y.1 ≤ xs.length ∧ y.2 = adA (xs.take y.1.toNat) []) (fun y => [(28,.one (int y.1)),(7,.one (.gv 2))]) (fun y => [(1,mpOf mSI (esV 0 y.2)),(2,roVn y.2)]) (fun y => (xs.length - y.1).toNat) ((0 : Int),([] : List Verd)) [0,1,2,3] (hI := ?_) (hr := ?_)
    · exact ⟨by simp,by simp,by simp⟩
    · rintro ⟨i,l⟩ ⟨h0,h1,h2⟩
      dsimp only [List.cons_append,List.nil_append] at *
      skip
      repeat' first|(apply p3;(exact puC);exact rfl)|refine cdn ?_|refine g_reg (id := 5) ?_|((refine g_cond rfl (fun hc => ?_) (fun hc => ?_)) <;> (try simp only [dcB] at hc) <;> (try first|contradiction|(exfalso;omega)))|fail
      · have hi : i.toNat < xs.length := by omega
        have hv := hxo _ (List.getElem_mem hi)
        have gv := hxg _ (List.getElem_mem hi)
        have hm := okV_m hv
        have hll : l.length ≤ xs.length := by
          have := adA_len (xs.take i.toNat) []
          rw [← h2,List.length_take] at this
          simp only [List.length_nil] at this
          omega
        have es : addI l (xs[i.toNat]'hi) = adA (xs.take (i + 1).toNat) [] := by rw [show (i + 1).toNat = i.toNat + 1 by omega,adA_take hi,← h2]
        repeat' first|(apply n3;exact a_new (gb := .bx _) rfl;exact rfl;refine dA ?_)|(apply p3;(first|exact pu1|exact a_lookOk (M := mSI) 0 rfl rfl rfl Tryz.underlying111 (by kernel_rfl) (by kernel_rfl)|exact puI);exact rfl)|refine cdn ?_|refine g_reg (id := 6) ?_|refine g_reg (id := 7) ?_|refine g_reg (id := 8) ?_|(apply w3;(exact a_st_bx rfl rfl rfl rfl (fN rfl rfl) (Nat.le_of_ble_eq_true rfl) rfl);exact rfl;refine dS ?_)|(apply c4 0;exact callK1 (θ := []) (hD := (MachineText_ok (xs[i.toNat]'hi).m hm));exact rfl;exact rfl;exact rfl;refine dM ?_)|(apply p3;exact a_ldsE (E := eV) 0 rfl rfl rfl (fA rfl) rfl rfl (Nat.le_of_ble_eq_true rfl) (Nat.le_of_ble_eq_true rfl) bnd rfl (by repeat (first|exact trivial|exact rfl|refine And.intro ?_ ?_)) rfl;exact rfl)|fail
        simp only [setRow,List.map_cons,List.map_nil,scC,List.set_cons_zero,List.set_cons_succ,Nat.zero_add,List.getElem?_cons_zero,List.getElem?_cons_succ,List.take_succ_cons,List.take_zero,List.drop_zero]
        cases hg : getA (esV 0 l) (macT (xs[i.toNat]'hi).m) with
        | none =>
          obtain ⟨e1,e2⟩ := esV_none (v := xs[i.toNat]'hi) hg
          rw [e1] at es
          rw [Int.zero_add] at e2
          simp only [Option.isSome_none,Option.getD_none]
          repeat' first|(apply p3;(first|exact pu1|exact puN);exact rfl)|refine cdn ?_|refine g_reg (id := 9) ?_|refine g_reg (id := 10) ?_|(apply w3;(exact a_mapUpd (M := mSI) rfl rfl rfl rfl Tryz.underlying111 (by kernel_rfl));exact rfl;refine dS ?_)|fail
          rw [show setA (esV 0 l) (macT (xs[i.toNat]'hi).m) (l.length : Int) = esV 0 (l ++ [xs[i.toNat]'hi]) from e2]
          repeat' first|(apply n3;(exact (by exact a_litQ (fP rfl) (by decide) rfl (by decide) rfl rfl rfl));exact rfl;refine dA ?_)|(apply p3;(exact pu1);exact rfl)|refine cdn ?_|refine g_reg (id := 11) ?_|(apply s3;exact a_appQ (fP rfl) rfl rfl rfl rfl qno bndQ bndQ (by decide);exact rfl;exact rfl)|(apply c4 3;exact callK1 (θ := []) (hD := (copyVerdict_ok (xs[i.toNat]'hi) gv));exact rfl;exact rfl;exact rfl;refine dM ?_)|fail
          first | refine g_conv (t_close1 (i := 9) (j := 5) (k := 2) (m := 0) rfl rfl rfl rfl rfl) ?_ | refine o_conv (t_close1 (i := 9) (j := 5) (k := 2) (m := 0) rfl rfl rfl rfl rfl) ?_
          try dsimp only [List.map_cons,List.map_nil,List.set_cons_zero,List.set_cons_succ,List.length_cons,List.length_nil,List.cons_append,List.nil_append,Nat.reduceAdd,setRow]
          first | refine g_conv (t_close1 (i := 9) (j := 6) (k := 4) (m := 1) rfl rfl rfl rfl rfl) ?_ | refine o_conv (t_close1 (i := 9) (j := 6) (k := 4) (m := 1) rfl rfl rfl rfl rfl) ?_
          try dsimp only [List.map_cons,List.map_nil,List.set_cons_zero,List.set_cons_succ,List.length_cons,List.length_nil,List.cons_append,List.nil_append,Nat.reduceAdd,setRow]
          first | refine g_conv (t_close1 (i := 9) (j := 7) (k := 5) (m := 2) rfl rfl rfl rfl rfl) ?_ | refine o_conv (t_close1 (i := 9) (j := 7) (k := 5) (m := 2) rfl rfl rfl rfl rfl) ?_
          try dsimp only [List.map_cons,List.map_nil,List.set_cons_zero,List.set_cons_succ,List.length_cons,List.length_nil,List.cons_append,List.nil_append,Nat.reduceAdd,setRow]
          first | refine g_conv (t_uA (i := 9) [xs[i.toNat]'hi] rfl rfl) ?_ | refine o_conv (t_uA (i := 9) [xs[i.toNat]'hi] rfl rfl) ?_
          repeat' first|(apply p3;(first|exact pu1|exact a_add rfl rfl (by omega) (by omega));exact rfl)|refine cd ?_|fail
          refine q_again (i + 1,l ++ [xs[i.toNat]'hi]) [0,1,9,3] (by exact stk) ?_ ?_
          · exact ⟨by dsimp only; omega,by dsimp only; omega,es⟩
          · dsimp only; omega
        | some k =>
          obtain ⟨k0,hk,e2,e3⟩ := esV_some0 (v := xs[i.toNat]'hi) hg
          rw [e3] at es
          simp only [Option.isSome_some,Option.getD_some]
          repeat' first|(apply p3;(exact pu1);exact rfl)|refine cdn ?_|refine g_reg (id := 9) ?_|fail
          first | refine g_conv (t_qE (i := 2) (k.toNat) bnd rfl) ?_ | refine o_conv (t_qE (i := 2) (k.toNat) bnd rfl) ?_
          try dsimp only [List.map_cons,List.map_nil,List.set_cons_zero,List.set_cons_succ,List.length_cons,List.length_nil,List.cons_append,List.nil_append,Nat.reduceAdd,setRow]
          first | refine g_conv (t_open1 (i := 2) (k := 2) rfl rfl rfl) ?_ | refine o_conv (t_open1 (i := 2) (k := 2) rfl rfl rfl) ?_
          try dsimp only [List.map_cons,List.map_nil,List.set_cons_zero,List.set_cons_succ,List.length_cons,List.length_nil,List.cons_append,List.nil_append,Nat.reduceAdd,setRow]
          first | refine g_conv (t_open1 (i := 2) (k := 4) rfl rfl rfl) ?_ | refine o_conv (t_open1 (i := 2) (k := 4) rfl rfl rfl) ?_
          try dsimp only [List.map_cons,List.map_nil,List.set_cons_zero,List.set_cons_succ,List.length_cons,List.length_nil,List.cons_append,List.nil_append,Nat.reduceAdd,setRow]
          first | refine g_conv (t_open1 (i := 2) (k := 5) rfl rfl rfl) ?_ | refine o_conv (t_open1 (i := 2) (k := 5) rfl rfl rfl) ?_
          try dsimp only [List.map_cons,List.map_nil,List.set_cons_zero,List.set_cons_succ,List.length_cons,List.length_nil,List.cons_append,List.nil_append,Nat.reduceAdd,setRow]
          repeat' first|(apply p3;(first|exact pu1|exact puX|exact puQ);exact rfl)|refine cdn ?_|refine g_reg (id := 12) ?_|(apply c4 0;exact callK1 (θ := []) (hD := (isZero_ok _));exact rfl;exact rfl;exact rfl;refine dM ?_)|refine o_no rfl rfl rfl rfl ?_|(apply py3;exact rfl;exact rfl;(exact pu1);exact rfl;exact rfl)|(apply cy4 0;exact rfl;exact rfl;exact callK1 (θ := []) (hD := (isZero_ok _));exact rfl;exact rfl;exact rfl;exact rfl;refine dM ?_)|(refine o_gs rfl rfl (fun hc => ?_) (fun hc => ?_) <;> (try simp only [dcB] at hc) <;> (try first|contradiction|(exfalso;omega)))|fail
          · repeat' first|refine cdn ?_|((refine g_cond rfl (fun hc => ?_) (fun hc => ?_)) <;> (try simp only [dcB] at hc) <;> (try first|contradiction|(exfalso;omega)))|fail
            · repeat' first|(apply p3;(first|exact pu1|exact puX);exact rfl)|refine cdn ?_|refine g_reg (id := 13) ?_|(apply w3;(exact a_stQE 0 rfl rfl rfl rfl (fN rfl rfl) (Nat.le_of_ble_eq_true rfl) (Nat.le_of_ble_eq_true rfl) rfl bnd bnd);exact rfl;refine dS ?_)|(apply c4 3;exact callK1 (θ := []) (hD := (copyVerdict_ok (xs[i.toNat]'hi) gv));exact rfl;exact rfl;exact rfl;refine dM ?_)|fail
              rw [if_pos ⟨by assumption,hc⟩] at es
              first | refine g_conv (t_close1 (i := 2) (j := 8) (k := 2) (m := 3) rfl rfl rfl rfl rfl) ?_ | refine o_conv (t_close1 (i := 2) (j := 8) (k := 2) (m := 3) rfl rfl rfl rfl rfl) ?_
              try dsimp only [List.map_cons,List.map_nil,List.set_cons_zero,List.set_cons_succ,List.length_cons,List.length_nil,List.cons_append,List.nil_append,Nat.reduceAdd,setRow]
              first | refine g_conv (t_close1 (i := 2) (j := 9) (k := 4) (m := 4) rfl rfl rfl rfl rfl) ?_ | refine o_conv (t_close1 (i := 2) (j := 9) (k := 4) (m := 4) rfl rfl rfl rfl rfl) ?_
              try dsimp only [List.map_cons,List.map_nil,List.set_cons_zero,List.set_cons_succ,List.length_cons,List.length_nil,List.cons_append,List.nil_append,Nat.reduceAdd,setRow]
              first | refine g_conv (t_close1 (i := 2) (j := 10) (k := 5) (m := 5) rfl rfl rfl rfl rfl) ?_ | refine o_conv (t_close1 (i := 2) (j := 10) (k := 5) (m := 5) rfl rfl rfl rfl rfl) ?_
              try dsimp only [List.map_cons,List.map_nil,List.set_cons_zero,List.set_cons_succ,List.length_cons,List.length_nil,List.cons_append,List.nil_append,Nat.reduceAdd,setRow]
              first | refine g_conv (t_uE (i := 2) (xs[i.toNat]'hi) bnd rfl rfl) ?_ | refine o_conv (t_uE (i := 2) (xs[i.toNat]'hi) bnd rfl rfl) ?_
              repeat' first|(apply p3;(first|exact pu1|exact a_add rfl rfl (by omega) (by omega));exact rfl)|refine cd ?_|fail
              rw [← esV_set hk e2]
              refine q_again (i + 1,l.set k.toNat (xs[i.toNat]'hi)) [0,1,2,3] (by exact stk) ?_ ?_
              · exact ⟨by dsimp only; omega,by dsimp only; omega,es⟩
              · dsimp only; omega
            · rw [if_neg (by rw [hc]; simp)] at es
              first | refine g_conv (t_close1 (i := 2) (j := 5) (k := 2) (m := 0) rfl rfl rfl rfl rfl) ?_ | refine o_conv (t_close1 (i := 2) (j := 5) (k := 2) (m := 0) rfl rfl rfl rfl rfl) ?_
              try dsimp only [List.map_cons,List.map_nil,List.set_cons_zero,List.set_cons_succ,List.length_cons,List.length_nil,List.cons_append,List.nil_append,Nat.reduceAdd,setRow]
              first | refine g_conv (t_close1 (i := 2) (j := 6) (k := 4) (m := 1) rfl rfl rfl rfl rfl) ?_ | refine o_conv (t_close1 (i := 2) (j := 6) (k := 4) (m := 1) rfl rfl rfl rfl rfl) ?_
              try dsimp only [List.map_cons,List.map_nil,List.set_cons_zero,List.set_cons_succ,List.length_cons,List.length_nil,List.cons_append,List.nil_append,Nat.reduceAdd,setRow]
              first | refine g_conv (t_close1 (i := 2) (j := 7) (k := 5) (m := 2) rfl rfl rfl rfl rfl) ?_ | refine o_conv (t_close1 (i := 2) (j := 7) (k := 5) (m := 2) rfl rfl rfl rfl rfl) ?_
              try dsimp only [List.map_cons,List.map_nil,List.set_cons_zero,List.set_cons_succ,List.length_cons,List.length_nil,List.cons_append,List.nil_append,Nat.reduceAdd,setRow]
              first | refine g_conv (t_uE (i := 2) (l[k.toNat]'hk) bnd rfl rfl) ?_ | refine o_conv (t_uE (i := 2) (l[k.toNat]'hk) bnd rfl rfl) ?_
              rw [List.set_getElem_self]
              repeat' first|(apply p3;(first|exact pu1|exact a_add rfl rfl (by omega) (by omega));exact rfl)|refine cd ?_|fail
              refine q_again (i + 1,l) [0,1,2,3] (by exact stk) ?_ ?_
              · exact ⟨by dsimp only; omega,by dsimp only; omega,es⟩
              · dsimp only; omega
          · rw [if_neg (by rw [hc]; simp)] at es
            first | refine g_conv (t_close1 (i := 2) (j := 5) (k := 2) (m := 0) rfl rfl rfl rfl rfl) ?_ | refine o_conv (t_close1 (i := 2) (j := 5) (k := 2) (m := 0) rfl rfl rfl rfl rfl) ?_
            try dsimp only [List.map_cons,List.map_nil,List.set_cons_zero,List.set_cons_succ,List.length_cons,List.length_nil,List.cons_append,List.nil_append,Nat.reduceAdd,setRow]
            first | refine g_conv (t_close1 (i := 2) (j := 6) (k := 4) (m := 1) rfl rfl rfl rfl rfl) ?_ | refine o_conv (t_close1 (i := 2) (j := 6) (k := 4) (m := 1) rfl rfl rfl rfl rfl) ?_
            try dsimp only [List.map_cons,List.map_nil,List.set_cons_zero,List.set_cons_succ,List.length_cons,List.length_nil,List.cons_append,List.nil_append,Nat.reduceAdd,setRow]
            first | refine g_conv (t_close1 (i := 2) (j := 7) (k := 5) (m := 2) rfl rfl rfl rfl rfl) ?_ | refine o_conv (t_close1 (i := 2) (j := 7) (k := 5) (m := 2) rfl rfl rfl rfl rfl) ?_
            try dsimp only [List.map_cons,List.map_nil,List.set_cons_zero,List.set_cons_succ,List.length_cons,List.length_nil,List.cons_append,List.nil_append,Nat.reduceAdd,setRow]
            first | refine g_conv (t_uE (i := 2) (l[k.toNat]'hk) bnd rfl rfl) ?_ | refine o_conv (t_uE (i := 2) (l[k.toNat]'hk) bnd rfl rfl) ?_
            rw [List.set_getElem_self]
            repeat' first|(apply p3;(first|exact pu1|exact a_add rfl rfl (by omega) (by omega));exact rfl)|refine cd ?_|fail
            refine q_again (i + 1,l) [0,1,2,3] (by exact stk) ?_ ?_
            · exact ⟨by dsimp only; omega,by dsimp only; omega,es⟩
            · dsimp only; omega
      · have el : l = adA xs [] := by rw [h2,List.take_of_length_le (by omega)]
        obtain ⟨q1,q2,q3,q4⟩ := fold_perm xs [] [] (List.Perm.refl _) List.Pairwise.nil List.Pairwise.nil (fun x hx => by cases hx) hxo
        obtain ⟨r,hr⟩ : ∃ r,r = insA xs [] := ⟨_,rfl⟩
        have hrI : insA b (insA a []) = r := by rw [hr,exs]; unfold insA; rw [List.foldl_append]
        have pz1 : l.Perm r := by rw [el,hr]; exact q1
        have pz2 : DisV l := by rw [el]; exact q2
        have pz3 : SrtV r := by rw [hr]; exact q3
        have pz4 : ∀ x ∈ l,okV x = true := by rw [el]; exact q4
        have pl := pz1.length_eq
        rw [hrI,← pl] at eM
        repeat' first|(apply n3;exact a_nilO eVn rfl;exact rfl)|(apply p3;(first|exact pu1|exact puC|exact puN);exact rfl)|refine cdn ?_|refine g_reg (id := 15) ?_|refine g_reg (id := 16) ?_|((refine g_cond rfl (fun hc => ?_) (fun hc => ?_)) <;> (try simp only [dcB] at hc) <;> (try first|contradiction|(exfalso;omega)))|fail
        · rw [if_pos (by omega)] at eM
          rw [eM]
          repeat refine cr ?_
          refine ends_id ?_
          refine endK [?_] (h2 := ?_) (h3 := ?_) (nd := ?_)
          rotate_left 1
          all_goals (repeat' first|exact ce0|refine ce ?_|refine ce2 ?_ ?_|(refine Or.inr (bx_eq rfl rfl ?_);(try dsimp only [C.ren,C.ren.all]);(try exact rfl))|exact SVLe.refl|refine ceb ?_)
          all_goals first | exact (show nodupB _ = true from rfl) | exact Or.inr rfl | (rfl)
        · rw [if_neg (by omega)] at eM
          rw [eM]
          repeat' first|(apply p3;(exact pu1);exact rfl)|refine cd ?_|(apply c4 0;exact callK1 (θ := [_]) (hD := (SortV_ok l r (by omega) pz4 pz2 pz1 pz3));exact rfl;exact rfl;exact rfl;refine dM ?_)|fail
          repeat refine cr ?_
          refine ends_id ?_
          refine endK [?_] (h2 := ?_) (h3 := ?_) (nd := ?_)
          rotate_left 1
          all_goals (repeat' first|exact ce0|refine ce ?_|refine ce2 ?_ ?_|(refine Or.inr (bx_eq rfl rfl ?_);(try dsimp only [C.ren,C.ren.all]);(try exact rfl))|exact SVLe.refl|refine ceb ?_)
          all_goals first | exact (show nodupB _ = true from rfl) | exact Or.inr rfl | (rfl)
  · have eM : mgX a b = ([],1) := by unfold mgX; rw [if_neg hab]
    rw [eM]
    by_cases ha : okVs a = true
    · have nb : ¬ okVs b = true := fun q => hab ⟨ha,q⟩
      have na : ¬ okVs a = false := by rw [ha]; decide
      refine does_of (k := 0) Tryz.func18 rfl Tryz.ntmps18 rfl rfl fun w F0 S0 ρ0 => ?_
      dsimp only [argT,argH]
      repeat' first|(apply n3;exact a_nilO eVn rfl;exact rfl)|(apply p3;(exact pu1);exact rfl)|refine cd ?_|(apply c4 0;exact callK1 (θ := []) (hD := (areVerdicts_ok a ga));exact rfl;exact rfl;exact rfl;refine dM ?_)|(apply py3;exact rfl;exact rfl;(exact pu1);exact rfl;exact rfl)|(apply cy4 0;exact rfl;exact rfl;exact callK1 (θ := []) (hD := (areVerdicts_ok b gb));exact rfl;exact rfl;exact rfl;exact rfl;refine dM ?_)|((first|refine o_gs rfl rfl (fun hc => ?_) (fun hc => ?_)|refine g_cond rfl (fun hc => ?_) (fun hc => ?_)) <;> (try simp only [dcB] at hc) <;> (try first|contradiction|(exfalso;omega)))|fail
      repeat refine cr ?_
      refine ends_id ?_
      refine endK [?_] (h2 := ?_) (h3 := ?_) (nd := ?_)
      rotate_left 1
      all_goals (repeat' first|exact ce0|refine ce ?_|refine ce2 ?_ ?_|(refine Or.inr (bx_eq rfl rfl ?_);(try dsimp only [C.ren,C.ren.all]);(try exact rfl))|exact SVLe.refl|refine ceb ?_)
      all_goals first | exact (show nodupB _ = true from rfl) | exact Or.inr rfl | (rfl)
    · skip
      refine does_of (k := 0) Tryz.func18 rfl Tryz.ntmps18 rfl rfl fun w F0 S0 ρ0 => ?_
      dsimp only [argT,argH]
      repeat' first|(apply n3;exact a_nilO eVn rfl;exact rfl)|(apply p3;(exact pu1);exact rfl)|refine cd ?_|(apply c4 0;exact callK1 (θ := []) (hD := (areVerdicts_ok a ga));exact rfl;exact rfl;exact rfl;refine dM ?_)|refine o_no rfl rfl rfl rfl ?_|((refine o_gs rfl rfl (fun hc => ?_) (fun hc => ?_)) <;> (try simp only [dcB] at hc) <;> (try first|contradiction|(exfalso;omega)))|fail
      repeat refine cr ?_
      refine ends_id ?_
      refine endK [?_] (h2 := ?_) (h3 := ?_) (nd := ?_)
      rotate_left 1
      all_goals (repeat' first|exact ce0|refine ce ?_|refine ce2 ?_ ?_|(refine Or.inr (bx_eq rfl rfl ?_);(try dsimp only [C.ren,C.ren.all]);(try exact rfl))|exact SVLe.refl|refine ceb ?_)
      all_goals first | exact (show nodupB _ = true from rfl) | exact Or.inr rfl | (rfl)
end Go.Proofs.YtnkeamihfiobdaaGreatDoor
end
section
set_option linter.unusedVariables false
set_option linter.unusedSimpArgs false
set_option maxRecDepth 100000
set_option maxHeartbeats 4000000
namespace Go.Proofs.YtnkeamihfiobdaaGreatDoor
open Go Foot
theorem mkL_get {α : Type} (sz : α → Int) (mk : Int → α → α) : ∀ (k : Int) (xs : List α) (i : Nat) (h : i < xs.length),(mkL sz mk k xs)[i]? = some (mk (k + totL sz (xs.take i)) xs[i])
  | k,[],i,h => by simp at h
  | k,x :: xs,0,h => by simp [mkL,totL]
  | k,x :: xs,i + 1,h => by
    have := mkL_get sz mk (k + sz x) xs i (by simpa using h)
    simp only [mkL,List.getElem?_cons_succ,this,List.take_succ_cons,totL,List.getElem_cons_succ,Int.add_assoc]
theorem mksW_len (k : Int) (T : List (List Int)) : (mksW k T).length = T.length := by unfold mksW; rw [mkL_len]
theorem mksW_get (k : Int) (T : List (List Int)) (i : Nat) (h : i < (mksW k T).length) (h' : i < T.length) : (mksW k T)[i]'h = marks (k + totL szw (T.take i)) (T[i]'h').length := by
  have e := mkL_get szw mkw k T i h'
  have e2 : mksW k T = mkL szw mkw k T := by unfold mksW; rfl
  rw [← e2,List.getElem?_eq_getElem h] at e
  exact Option.some.inj e
theorem preD9 {p : Prop} (h : p := by first | with_reducible assumption | omega | (simp only [List.length_append,List.length_cons,List.length_nil,List.length_set,List.length_replicate,List.length_take,List.length_drop,List.length_tail,List.length_dropLast,List.length_reverse] at *; omega) | exact mem_len (by assumption) (by omega) | (with_reducible refine Int.le_trans (Int.ofNat_le.2 (trimR_len _)) ?_; simp only [List.length_cons,List.length_tail]; omega) | (exact (ruAt_ok (by assumption) (by assumption) (by assumption)).2.1) | (exact (ruAt_ok (by assumption) (by assumption) (by assumption)).2.1) | (have := vMach_bd (by assumption); omega) | (simp only [List.length_append,List.length_cons,List.length_nil,repW_len,seN_len] at *; omega) | (simp only [mC_ch,mC_tu]; omega) | (have := vTag_bd (by assumption); omega) | (have := (‹Gd _ _›).le; omega) | (exact tgHalts_no (by assumption)) | (exact tgHead (by assumption) (by assumption) (by assumption)) | (exact Int.le_trans (tgStep_gd (by assumption) (by assumption) (by assumption) (by assumption)).le (by decide)) | (exact vTag_r (by assumption)) | (with_reducible refine Int.le_trans (Int.ofNat_le.2 (pushL_len _ _)) ?_; simp only [List.length_dropLast]; omega) | exact ls_at (by assumption) (by omega) | exact pt_gd (by assumption) | exact lv_at (by assumption) (by omega) | exact pt_gd (lv_at (by assumption) (by omega)) | exact (ask_ok (by assumption)).1 | exact (ask_ok (by assumption)).2.1 | exact (ask_ok (by assumption)).2.2.1 | exact (ask_ok (by assumption)).2.2.2 | (simp only [marks_len]; omega) | (simp only [marksR_len]; omega) | exact lns_at (by assumption) (by omega) | exact bgs_at (by assumption) (by omega) | trivial) : p := h
theorem heldMarksW_ok (T : List (List Int)) (k : Int) (h1 : 0 ≤ k) (h2 : k + totW T ≤ 4611686018427387904) (hx : (T.length : Int) ≤ 4611686018427) (hxs : ∀ x ∈ T,(x.length : Int) ≤ 4611686018427) : Does Tryz.prog 79 [.one (shW (mksW k T)),.one (int k)] [] (.one (int (k + totW T))) [] := by
  have hl := mksW_len k T
  refine does_of (k := 0) Tryz.func79 rfl Tryz.ntmps79 rfl rfl fun w F0 S0 ρ0 => ?_
  dsimp only [argT,argH]
  repeat' first|(apply p3;(exact pu1);exact rfl)|refine cd ?_|fail
  refine g_loop_id ?_
  refine loopK [0,4] [] (fun y : Int × Int => 0 ≤ y.1 ∧ y.1 ≤ T.length ∧ y.2 = k + totL szw (T.take y.1.toNat)) (fun y => [(5,.one (int y.1)),(1,.one (int y.2))]) (fun _ => []) (fun y => (T.length - y.1).toNat) ((0 : Int),k) [] (hI := ?_) (hr := ?_)
  · exact ⟨by simp,by simp,by simp [totL]⟩
  · rintro ⟨i,k'⟩ ⟨k1,k2,k3⟩
    dsimp only [List.cons_append,List.nil_append] at *
    skip
    repeat' first|(apply p3;(first|exact pu1|exact puN|exact puC);exact rfl)|refine cdn ?_|refine g_reg (id := 2) ?_|refine g_reg (id := 7) ?_|((refine g_cond rfl (fun hc => ?_) (fun hc => ?_)) <;> (try simp only [dcB] at hc) <;> (try first|contradiction|(exfalso;omega)))|fail
    · have hi : i.toNat < T.length := by omega
      have hg := mksW_get k T i.toNat (by omega) hi
      rw [← k3] at hg
      have hh : held k' ((mksW k T)[i.toNat]'(by omega)) = k' + (T[i.toNat]'hi).length := by rw [hg,held_marks]
      have hgl : ((mksW k T)[i.toNat]'(by omega)).length = (T[i.toNat]'hi).length := by rw [hg,marks_len]
      have hb := totL_bd szw 4611686018427 (xs := T.take i.toNat) (fun x hx => ⟨by unfold szw; omega,hxs x (List.mem_of_mem_take hx)⟩)
      have hx2 := hxs _ (List.getElem_mem hi)
      have hn := totL_next szw k1 (xs := T) hi
      have ht := totL_app szw (T.take (i + 1).toNat) (T.drop (i + 1).toNat)
      have hd := totL_bd szw 4611686018427 (xs := T.drop (i + 1).toNat) (fun x hx => ⟨by unfold szw; omega,hxs x (List.mem_of_mem_drop hx)⟩)
      rw [List.take_append_drop] at ht
      unfold totW at h2
      have hs : szw T[i.toNat] = (T[i.toNat].length : Int) := rfl
      repeat' first|(apply p3;(first|exact pu1|exact puI);exact rfl)|refine cdn ?_|refine g_reg (id := 4) ?_|(apply c4 0;exact callK1 (θ := []) (hD := (heldInt64S_ok _ _ preD9 preD9 preD9));exact rfl;exact rfl;exact rfl;refine dM ?_)|fail
      simp only [hh]
      repeat' first|(apply p3;(first|exact pu1|exact puC|exact a_add rfl rfl (by omega) (by omega));exact rfl)|refine cd ?_|((refine g_cond rfl (fun hc => ?_) (fun hc => ?_)) <;> (try simp only [dcB] at hc) <;> (try first|contradiction|(exfalso;omega)))|fail
      refine q_again (i + 1,k' + (T[i.toNat]'hi).length) [] (by exact stk) ?_ ?_
      · exact ⟨by dsimp only; omega,by dsimp only; omega,by dsimp only; omega⟩
      · dsimp only; omega
    · have hi : i.toNat = T.length := by omega
      rw [hi,List.take_length] at k3
      have e1 : totW T = totL szw T := by unfold totW; rfl
      rw [e1,← k3]
      skip
      repeat refine cr ?_
      refine ends_id ?_
      refine endK [] (h2 := ?_) (h3 := ?_) (nd := ?_)
      all_goals (repeat' first|exact ce0|refine ce ?_|refine ce2 ?_ ?_|exact SVLe.refl|refine ceb ?_)
      all_goals first | exact (show nodupB _ = true from rfl) | exact Or.inr rfl | (rfl)
end Go.Proofs.YtnkeamihfiobdaaGreatDoor
end
section
set_option linter.unusedVariables false
set_option linter.unusedSimpArgs false
set_option maxRecDepth 100000
set_option maxHeartbeats 4000000
namespace Go.Proofs.YtnkeamihfiobdaaGreatDoor
open Go Foot
@[irreducible] def heldR (k : Int) (xs : List Rule') : Int := if xs = marksR k xs.length then k + 3 * xs.length else -1
theorem heldR_marks (k : Int) (n : Nat) : heldR k (marksR k n) = k + 3 * n := by unfold heldR; rw [marksR_len,if_pos rfl]
theorem notR {k : Int} {xs : List Rule'} (i : Nat) (h : i < xs.length) (hn : (xs[i]).w ≠ k + 3 * i ∨ (xs[i]).m ≠ k + 3 * i + 1 ∨ (xs[i]).n ≠ k + 3 * i + 2) : heldR k xs = -1 := by
  unfold heldR
  rw [if_neg]
  intro e
  have e1 := marksR_get k xs.length i h
  rw [← e,List.getElem?_eq_getElem h] at e1
  simp only [Option.some.injEq] at e1
  rw [e1] at hn
  simp at hn
theorem heldRuleS_ok (xs : List Rule') (k : Int) (h1 : 0 ≤ k) (h2 : k ≤ 4611686018427387904) (hx : (xs.length : Int) ≤ 4611686018427) : Does Tryz.prog 77 [.one (shR xs),.one (int k)] [] (.one (int (heldR k xs))) [] := by
  refine does_of (k := 0) Tryz.func77 rfl Tryz.ntmps77 rfl rfl fun w F0 S0 ρ0 => ?_
  dsimp only [argT,argH]
  repeat' first|(apply p3;(exact pu1);exact rfl)|refine cd ?_|fail
  refine g_loop_id ?_
  refine loopK [0,4] [] (fun i : Int => 0 ≤ i ∧ i ≤ xs.length ∧ ∀ (j : Nat),(j : Int) < i → xs[j]? = some ⟨k + 3 * j,k + 3 * j + 1,k + 3 * j + 2⟩) (fun i => [(5,.one (int i)),(1,.one (int (k + 3 * i)))]) (fun _ => []) (fun i => (xs.length - i).toNat) (0 : Int) [] (hI := ?_) (hr := ?_)
  · exact ⟨by simp,by simp,fun j h' => by omega⟩
  · rintro i ⟨k1,k2,k4⟩
    dsimp only [List.cons_append,List.nil_append] at *
    skip
    repeat' first|(apply p3;(first|exact pu1|exact puN|exact puC|exact a_ne rfl rfl|exact a_add rfl rfl (by omega) (by omega)|exact puI);exact rfl)|refine cd ?_|((refine g_cond rfl (fun hc => ?_) (fun hc => ?_)) <;> (try simp only [dcB] at hc) <;> (try first|contradiction|(exfalso;omega)))|fail
    · have hn := notR (k := k) (xs := xs) i.toNat (by omega) (.inl (by rw [show ((i.toNat : Nat) : Int) = i by omega]; assumption))
      rw [hn]
      repeat refine cr ?_
      refine ends_id ?_
      refine endK [] (h2 := ?_) (h3 := ?_) (nd := ?_)
      all_goals (repeat' first|exact ce0|refine ce ?_|refine ce2 ?_ ?_|exact SVLe.refl|refine ceb ?_)
      all_goals first | exact (show nodupB _ = true from rfl) | exact Or.inr rfl | (rfl)
    · have hn := notR (k := k) (xs := xs) i.toNat (by omega) (.inr (.inl (by rw [show ((i.toNat : Nat) : Int) = i by omega]; assumption)))
      rw [hn]
      repeat refine cr ?_
      refine ends_id ?_
      refine endK [] (h2 := ?_) (h3 := ?_) (nd := ?_)
      all_goals (repeat' first|exact ce0|refine ce ?_|refine ce2 ?_ ?_|exact SVLe.refl|refine ceb ?_)
      all_goals first | exact (show nodupB _ = true from rfl) | exact Or.inr rfl | (rfl)
    · have hn := notR (k := k) (xs := xs) i.toNat (by omega) (.inr (.inr (by rw [show ((i.toNat : Nat) : Int) = i by omega]; omega)))
      rw [hn]
      repeat refine cr ?_
      refine ends_id ?_
      refine endK [] (h2 := ?_) (h3 := ?_) (nd := ?_)
      all_goals (repeat' first|exact ce0|refine ce ?_|refine ce2 ?_ ?_|exact SVLe.refl|refine ceb ?_)
      all_goals first | exact (show nodupB _ = true from rfl) | exact Or.inr rfl | (rfl)
    · refine q_again (i + 1) [] (by exact stk) ?_ ?_
      · refine ⟨by omega,by omega,fun j h => ?_⟩
        by_cases hj : (j : Int) < i
        · exact k4 j hj
        · have : j = i.toNat := by omega
          subst this
          rw [List.getElem?_eq_getElem (by omega),show ((i.toNat : Nat) : Int) = i by omega]
          have e1 : xs[i.toNat].w = k + 3 * i := by assumption
          have e2 : xs[i.toNat].m = k + 3 * i + 1 := by assumption
          have e3 : xs[i.toNat].n = k + 3 * i + 2 := by omega
          rw [← e3,← e2,← e1]
      · omega
    · have hi : i = xs.length := by omega
      subst hi
      have hl := markR_end (k := k) (xs := xs) rfl fun j hj => k4 j (by omega)
      have hh : heldR k xs = k + 3 * xs.length := by unfold heldR; exact if_pos hl
      rw [hh]
      repeat refine cr ?_
      refine ends_id ?_
      refine endK [] (h2 := ?_) (h3 := ?_) (nd := ?_)
      all_goals (repeat' first|exact ce0|refine ce ?_|refine ce2 ?_ ?_|exact SVLe.refl|refine ceb ?_)
      all_goals first | exact (show nodupB _ = true from rfl) | exact Or.inr rfl | (rfl)
end Go.Proofs.YtnkeamihfiobdaaGreatDoor
end
section
set_option linter.unusedVariables false
set_option linter.unusedSimpArgs false
set_option maxRecDepth 100000
set_option maxHeartbeats 4000000
namespace Go.Proofs.YtnkeamihfiobdaaGreatDoor
open Go Foot
theorem totW_le {xs : List (List Int)} (h1 : (xs.length : Int) ≤ 1048576) (h : ∀ x ∈ xs,(x.length : Int) ≤ 1048576) : 0 ≤ totW xs ∧ totW xs ≤ 1099511627776 := by
  have := totW_bd 1048576 h
  omega
end Go.Proofs.YtnkeamihfiobdaaGreatDoor
end
section
set_option linter.unusedVariables false
set_option linter.unusedSimpArgs false
set_option maxRecDepth 100000
set_option maxHeartbeats 4000000
namespace Go.Proofs.YtnkeamihfiobdaaGreatDoor
open Go Foot
theorem mksV_len (k : Int) (T : List Verd) : (mksV k T).length = T.length := by unfold mksV; rw [mkL_len]
theorem mksV_get (k : Int) (T : List Verd) (i : Nat) (h : i < (mksV k T).length) (h' : i < T.length) : (mksV k T)[i]'h = mkv (k + totL szv (T.take i)) (T[i]'h') := by
  have e := mkL_get szv mkv k T i h'
  have e2 : mksV k T = mkL szv mkv k T := by unfold mksV; rfl
  rw [← e2,List.getElem?_eq_getElem h] at e
  exact Option.some.inj e
theorem heldVerdictSn_ok (T : List Verd) (k : Int) (g : BgsOk T) (h1 : 0 ≤ k) (h2 : k ≤ 1152921504606846976) : Does Tryz.prog 21 [.one (shV (mksV k T)),.one (int k)] [] (.one (int (k + totV T))) [] := by
  have hx := g.n
  have hl := mksV_len k T
  refine does_of (k := 0) Tryz.func21 rfl Tryz.ntmps21 rfl rfl fun w F0 S0 ρ0 => ?_
  dsimp only [argT,argH]
  repeat' first|(apply p3;(exact pu1);exact rfl)|refine cd ?_|fail
  refine g_loop_id ?_
  refine loopK [0,4] [] (fun y : Int × Int => 0 ≤ y.1 ∧ y.1 ≤ T.length ∧ y.2 = k + totL szv (T.take y.1.toNat)) (fun y => [(5,.one (int y.1)),(1,.one (int y.2))]) (fun _ => []) (fun y => (T.length - y.1).toNat) ((0 : Int),k) [] (hI := ?_) (hr := ?_)
  · exact ⟨by simp,by simp,by simp [totL]⟩
  · rintro ⟨i,k'⟩ ⟨k1,k2,k3⟩
    dsimp only [List.cons_append,List.nil_append] at *
    skip
    repeat' first|(apply p3;(first|exact pu1|exact puN|exact puC);exact rfl)|refine cdn ?_|refine g_reg (id := 2) ?_|refine g_reg (id := 22) ?_|((refine g_cond rfl (fun hc => ?_) (fun hc => ?_)) <;> (try simp only [dcB] at hc) <;> (try first|contradiction|(exfalso;omega)))|fail
    · have hi : i.toNat < T.length := by omega
      have hi2 : i.toNat < (mksV k T).length := by omega
      have hg := mksV_get k T i.toNat hi2 hi
      rw [← k3] at hg
      have hb := totV_bd (xs := T.take i.toNat) (fun v hv => g.a v (List.mem_of_mem_take hv))
      have hbl : ((T.take i.toNat).length : Int) ≤ 1048576 := by rw [List.length_take]; omega
      have hk : 0 ≤ k' ∧ k' ≤ 3458764513820540928 := by
        have := Int.mul_le_mul_of_nonneg_right hbl (show (0 : Int) ≤ 1099517000000 by omega)
        omega
      have hn := totL_next szv k1 (xs := T) hi
      obtain ⟨v,ev⟩ : ∃ v,T[i.toNat]'hi = v := ⟨_,rfl⟩
      have gv : BigOk v := by rw [← ev]; exact g.a _ (List.getElem_mem hi)
      rw [ev] at hn
      have hsz : szv v = 3 + 3 * v.m.ru.length + v.p.nu.length + totW v.p.wo := by unfold szv; rfl
      obtain ⟨g1,g2,g3,g4⟩ := gv
      have ht := totW_le (xs := v.p.wo) (by omega) g4
      obtain ⟨V,eV⟩ : ∃ V,(mksV k T)[i.toNat]'hi2 = V := ⟨_,rfl⟩
      rw [ev,eV] at hg
      have q1 : V.m.sy = k' := by rw [hg]; unfold mkv; rfl
      have q2 : V.m.st = k' + 1 := by rw [hg]; unfold mkv; rfl
      have q3 : V.m.ru = marksR (k' + 1 + 1) v.m.ru.length := by rw [hg]; unfold mkv; rfl
      have q4 : V.p.k = k' + 1 + 1 + 3 * v.m.ru.length := by rw [hg]; unfold mkv; rfl
      have q5 : V.p.nu = marks (k' + 1 + 1 + 3 * v.m.ru.length + 1) v.p.nu.length := by rw [hg]; unfold mkv; rfl
      have q6 : V.p.wo = mksW (k' + 1 + 1 + 3 * v.m.ru.length + 1 + v.p.nu.length) v.p.wo := by rw [hg]; unfold mkv; rfl
      have q7 : heldR (k' + 1 + 1) V.m.ru = k' + 1 + 1 + 3 * v.m.ru.length := by rw [q3,heldR_marks]
      have q8 : held (k' + 1 + 1 + 3 * v.m.ru.length + 1) V.p.nu = k' + 1 + 1 + 3 * v.m.ru.length + 1 + v.p.nu.length := by rw [q5,held_marks]
      have l3 : (V.m.ru.length : Int) ≤ 4611686018427 := by rw [q3,marksR_len]; omega
      have l5 : (V.p.nu.length : Int) ≤ 4611686018427 := by rw [q5,marks_len]; omega
      have l6 : ∀ x ∈ v.p.wo,(x.length : Int) ≤ 4611686018427 := fun x hx => by have := g4 x hx; omega
      rw [← eV] at q1 q2 q4 q6 q7 q8 l3 l5
      repeat' first|(apply p3;(first|exact a_fa_immT 3 (T := 109) (f := 0) (off := 0) rfl (by kernel_rfl) rfl|exact pu1|exact a_ne rfl rfl|exact a_add rfl rfl (by omega) (by omega)|exact puI);exact rfl)|refine cdn ?_|refine g_reg (id := 4) ?_|refine g_reg (id := 6) ?_|refine g_reg (id := 7) ?_|refine g_reg (id := 9) ?_|((refine g_cond rfl (fun hc => ?_) (fun hc => ?_)) <;> (try simp only [dcB] at hc) <;> (try first|contradiction|(exfalso;omega)))|fail
      repeat' first|(apply p3;(first|exact a_fa_immT 3 (T := 109) (f := 0) (off := 0) rfl (by kernel_rfl) rfl|exact pu1|exact puI);exact rfl)|refine cdn ?_|refine g_reg (id := 10) ?_|(apply c4 0;exact callK1 (θ := []) (hD := (heldRuleS_ok ((mksV k T)[i.toNat]'hi2).m.ru (k' + 1 + 1) (by omega) (by omega) l3));exact rfl;exact rfl;exact rfl;refine dM ?_)|fail
      simp only [q7]
      repeat' first|(apply p3;(first|exact a_fa_immT 3 (T := 109) (f := 1) (off := 3) rfl (by kernel_rfl) rfl|exact pu1|exact puC|exact a_ne rfl rfl|exact a_add rfl rfl (by omega) (by omega)|exact puI);exact rfl)|refine cdn ?_|refine g_reg (id := 11) ?_|refine g_reg (id := 13) ?_|refine g_reg (id := 15) ?_|refine g_reg (id := 16) ?_|(apply c4 0;exact callK1 (θ := []) (hD := (heldInt64S_ok ((mksV k T)[i.toNat]'hi2).p.nu (k' + 1 + 1 + 3 * v.m.ru.length + 1) (by omega) (by omega) l5));exact rfl;exact rfl;exact rfl;refine dM ?_)|((refine g_cond rfl (fun hc => ?_) (fun hc => ?_)) <;> (try simp only [dcB] at hc) <;> (try first|contradiction|(exfalso;omega)))|fail
      simp only [q8]
      repeat' first|(apply p3;(first|exact a_fa_immT 3 (T := 109) (f := 1) (off := 3) rfl (by kernel_rfl) rfl|exact pu1|exact puC|exact puI);exact rfl)|refine cd ?_|((refine g_cond rfl (fun hc => ?_) (fun hc => ?_)) <;> (try simp only [dcB] at hc) <;> (try first|contradiction|(exfalso;omega)))|fail
      simp only [q6]
      repeat' first|(apply p3;(first|exact pu1|exact puC|exact a_add rfl rfl (by omega) (by omega));exact rfl)|refine cd ?_|(apply c4 0;exact callK1 (θ := []) (hD := (heldMarksW_ok v.p.wo (k' + 1 + 1 + 3 * v.m.ru.length + 1 + v.p.nu.length) (by omega) (by omega) (by omega) l6));exact rfl;exact rfl;exact rfl;refine dM ?_)|((refine g_cond rfl (fun hc => ?_) (fun hc => ?_)) <;> (try simp only [dcB] at hc) <;> (try first|contradiction|(exfalso;omega)))|fail
      refine q_again (i + 1,k' + szv v) [] (by exact stk) ?_ ?_
      · exact ⟨by dsimp only; omega,by dsimp only; omega,by dsimp only; omega⟩
      · dsimp only; omega
    · have hi : i.toNat = T.length := by omega
      rw [hi,List.take_length] at k3
      have e1 : totV T = totL szv T := by unfold totV; rfl
      rw [e1,← k3]
      skip
      repeat refine cr ?_
      refine ends_id ?_
      refine endK [] (h2 := ?_) (h3 := ?_) (nd := ?_)
      all_goals (repeat' first|exact ce0|refine ce ?_|refine ce2 ?_ ?_|exact SVLe.refl|refine ceb ?_)
      all_goals first | exact (show nodupB _ = true from rfl) | exact Or.inr rfl | (rfl)
end Go.Proofs.YtnkeamihfiobdaaGreatDoor
end
section
set_option linter.unusedVariables false
set_option linter.unusedSimpArgs false
set_option maxRecDepth 100000
set_option maxHeartbeats 4000000
namespace Go.Proofs.YtnkeamihfiobdaaGreatDoor
open Go Foot
theorem szVl_le : ∀ {xs : List Verd} {l : Int},l ≤ 1048576 → szVl xs l ≤ 1048576
  | [],l,h => by unfold szVl; exact h
  | x :: xs,l,h => by
    unfold szVl
    split
    · omega
    · exact szVl_le (szV_le h)
theorem szVs_le {xs : List Verd} {l : Int} (h : l ≤ 1048576) : szVs xs l ≤ 1048576 := by
  unfold szVs
  split
  · omega
  · exact szVl_le (by omega)
theorem szVs_geL {xs : List Verd} {l : Int} (h1 : l ≤ 1048576) (h : ¬ szVs xs l < 0) : BgsOk xs := by
  unfold szVs at h
  split at h
  · omega
  · rename_i h2
    exact ⟨by omega,szVl_ge (by omega) (by omega) h⟩
theorem szW_tot : ∀ {xs : List (List Int)} {l : Int},¬ szW xs l < 0 → totL szw xs ≤ l - szW xs l
  | [],l,h => by
    unfold szW
    simp only [totL]
    omega
  | x :: xs,l,h => by
    unfold szW at h ⊢
    split at h
    · omega
    · next h1 =>
      rw [if_neg h1]
      have ih := szW_tot h
      unfold szL at h1 ih ⊢
      simp only [totL,szw]
      split at h1
      · omega
      · next h2 =>
        rw [if_neg h2] at ih ⊢
        omega
theorem szP_tot {p : Prf} {l : Int} (h : ¬ szP p l < 0) : p.nu.length + totW p.wo ≤ l - szP p l := by
  unfold szP at h ⊢
  split at h
  · omega
  · next h1 =>
    rw [if_neg h1]
    unfold szWW at h ⊢
    split at h
    · omega
    · next h2 =>
      rw [if_neg h2]
      have := szW_tot h
      unfold totW
      unfold szL at h1 h2 this ⊢
      split at h1
      · omega
      · next h3 =>
        rw [if_neg h3] at this ⊢
        omega
theorem szV_tot {v : Verd} {l : Int} (h : ¬ szV v l < 0) : szv v ≤ 3 + 3 * (l - szV v l) := by
  have hp0 := Int.natCast_nonneg v.p.nu.length
  have hw : 0 ≤ totW v.p.wo := by
    unfold totW
    have : ∀ xs : List (List Int),0 ≤ totL szw xs := by
      intro xs
      induction xs with
      | nil => simp [totL]
      | cons x xs ih => simp only [totL,szw]; omega
    exact this _
  unfold szV at h ⊢
  split at h
  · omega
  · next h1 =>
    rw [if_neg h1]
    have := szP_tot h
    unfold szv
    unfold szL at h1 this ⊢
    split at h1
    · omega
    · next h3 =>
      rw [if_neg h3] at this ⊢
      omega
theorem szVl_tot : ∀ {xs : List Verd} {l : Int},¬ szVl xs l < 0 → totL szv xs ≤ 3 * xs.length + 3 * (l - szVl xs l)
  | [],l,h => by
    unfold szVl
    simp only [totL,List.length_nil]
    omega
  | x :: xs,l,h => by
    unfold szVl at h ⊢
    split at h
    · omega
    · next h1 =>
      rw [if_neg h1]
      have ih := szVl_tot h
      have := szV_tot h1
      simp only [totL,List.length_cons]
      omega
theorem szVs_tot {xs : List Verd} {l : Int} (h : ¬ szVs xs l < 0) : totV xs ≤ 3 * (l - szVs xs l) := by
  unfold szVs at h ⊢
  split at h
  · omega
  · next h1 =>
    rw [if_neg h1]
    have := szVl_tot h
    unfold totV
    omega
theorem preD15 {p : Prop} (h : p := by first | with_reducible assumption | omega | (simp only [List.length_append,List.length_cons,List.length_nil,List.length_set,List.length_replicate,List.length_take,List.length_drop,List.length_tail,List.length_dropLast,List.length_reverse] at *; omega) | exact mem_len (by assumption) (by omega) | (with_reducible refine Int.le_trans (Int.ofNat_le.2 (trimR_len _)) ?_; simp only [List.length_cons,List.length_tail]; omega) | (exact (ruAt_ok (by assumption) (by assumption) (by assumption)).2.1) | (exact (ruAt_ok (by assumption) (by assumption) (by assumption)).2.1) | (have := vMach_bd (by assumption); omega) | (simp only [List.length_append,List.length_cons,List.length_nil,repW_len,seN_len] at *; omega) | (simp only [mC_ch,mC_tu]; omega) | (have := vTag_bd (by assumption); omega) | (have := (‹Gd _ _›).le; omega) | (exact tgHalts_no (by assumption)) | (exact tgHead (by assumption) (by assumption) (by assumption)) | (exact Int.le_trans (tgStep_gd (by assumption) (by assumption) (by assumption) (by assumption)).le (by decide)) | (exact vTag_r (by assumption)) | (with_reducible refine Int.le_trans (Int.ofNat_le.2 (pushL_len _ _)) ?_; simp only [List.length_dropLast]; omega) | exact ls_at (by assumption) (by omega) | exact pt_gd (by assumption) | exact lv_at (by assumption) (by omega) | exact pt_gd (lv_at (by assumption) (by omega)) | exact (ask_ok (by assumption)).1 | exact (ask_ok (by assumption)).2.1 | exact (ask_ok (by assumption)).2.2.1 | exact (ask_ok (by assumption)).2.2.2 | (simp only [marks_len]; omega) | (simp only [marksR_len]; omega) | exact lns_at (by assumption) (by omega) | exact bgs_at (by assumption) (by omega) | trivial) : p := h
theorem toVerdictSZ_ok (xs : List Verd) (g : BgsOk xs) : Does Tryz.prog 17 [.one (shV xs)] [] (.one (shV xs)) [] := by
  have hx := g.n
  refine does_of (k := 0) Tryz.func17 rfl Tryz.ntmps17 rfl rfl fun w F0 S0 ρ0 => ?_
  dsimp only [argT,argH]
  repeat' first|(apply n3;exact a_make (fE rfl) (fZ rfl) (fP rfl) (by decide) rfl rfl (by omega) rfl (by omega) (by omega) (rows_rep eVo none _);exact rfl;refine dA ?_)|(apply p3;(first|exact pu1|exact puN);exact rfl)|refine cd ?_|fail
  first | refine g_conv (t_nilR (i := 0) (E' := eVn) verd0 rfl (by repeat (first | exact trivial | exact nilOwn (by decide) | exact (fun _ _ _ _ h => h) | refine And.intro ?_ ?_))) ?_ | refine o_conv (t_nilR (i := 0) (E' := eVn) verd0 rfl (by repeat (first | exact trivial | exact nilOwn (by decide) | exact (fun _ _ _ _ h => h) | refine And.intro ?_ ?_))) ?_
  refine g_loop_id ?_
  refine loopK [0,2,3] [0] (fun x : Int × List Verd => 0 ≤ x.1 ∧ x.1 ≤ xs.length ∧ x.2.length = xs.length ∧ ∀ k (h : k < xs.length),k < x.1 → x.2[k]? = some xs[k]) (fun x => [(4,.one (int x.1))]) (fun x => [(0,roVn x.2)]) (fun x => (xs.length - x.1).toNat) ((0 : Int),List.replicate xs.length verd0) [0] (hI := ?_) (hr := ?_)
  · exact ⟨by simp,by simp,by simp,by intro k h h'; simp at h'; omega⟩
  · rintro ⟨i,l⟩ ⟨h0,h1,h2,h3⟩
    dsimp only [List.cons_append,List.nil_append] at *
    skip
    repeat' first|(apply p3;(first|exact pu1|exact puN|exact puC);exact rfl)|refine cdn ?_|refine g_reg (id := 3) ?_|refine g_reg (id := 6) ?_|((refine g_cond rfl (fun hc => ?_) (fun hc => ?_)) <;> (try simp only [dcB] at hc) <;> (try first|contradiction|(exfalso;omega)))|fail
    · first | refine g_conv (t_qE (i := 0) (i.toNat) bnd rfl) ?_ | refine o_conv (t_qE (i := 0) (i.toNat) bnd rfl) ?_
      try dsimp only [List.map_cons,List.map_nil,List.set_cons_zero,List.set_cons_succ,List.length_cons,List.length_nil,List.cons_append,List.nil_append,Nat.reduceAdd,setRow]
      repeat' first|(apply p3;(first|exact pu1|exact puX|exact puI);exact rfl)|refine cdn ?_|refine g_reg (id := 5) ?_|(apply w3;(exact a_stQE 0 rfl rfl rfl rfl (fN rfl rfl) (Nat.le_of_ble_eq_true rfl) (Nat.le_of_ble_eq_true rfl) rfl bnd bnd);exact rfl;refine dS ?_)|(apply c4 3;exact callK1 (θ := []) (hD := (toVerdictn_ok _ preD15));exact rfl;exact rfl;exact rfl;refine dM ?_)|fail
      first | refine g_conv (t_close1 (i := 0) (j := 1) (k := 2) (m := 0) rfl rfl rfl rfl rfl) ?_ | refine o_conv (t_close1 (i := 0) (j := 1) (k := 2) (m := 0) rfl rfl rfl rfl rfl) ?_
      try dsimp only [List.map_cons,List.map_nil,List.set_cons_zero,List.set_cons_succ,List.length_cons,List.length_nil,List.cons_append,List.nil_append,Nat.reduceAdd,setRow]
      first | refine g_conv (t_close1 (i := 0) (j := 2) (k := 4) (m := 1) rfl rfl rfl rfl rfl) ?_ | refine o_conv (t_close1 (i := 0) (j := 2) (k := 4) (m := 1) rfl rfl rfl rfl rfl) ?_
      try dsimp only [List.map_cons,List.map_nil,List.set_cons_zero,List.set_cons_succ,List.length_cons,List.length_nil,List.cons_append,List.nil_append,Nat.reduceAdd,setRow]
      first | refine g_conv (t_close1 (i := 0) (j := 3) (k := 5) (m := 2) rfl rfl rfl rfl rfl) ?_ | refine o_conv (t_close1 (i := 0) (j := 3) (k := 5) (m := 2) rfl rfl rfl rfl rfl) ?_
      try dsimp only [List.map_cons,List.map_nil,List.set_cons_zero,List.set_cons_succ,List.length_cons,List.length_nil,List.cons_append,List.nil_append,Nat.reduceAdd,setRow]
      first | refine g_conv (t_uE (i := 0) (xs[i.toNat]'(by omega)) bnd rfl rfl) ?_ | refine o_conv (t_uE (i := 0) (xs[i.toNat]'(by omega)) bnd rfl rfl) ?_
      repeat' first|(apply p3;(first|exact pu1|exact a_add rfl rfl (by omega) (by omega));exact rfl)|refine cd ?_|fail
      refine q_again (i + 1,l.set i.toNat (xs[i.toNat]'(by omega))) [0] (by exact stk) ?_ ?_
      · refine ⟨by dsimp only; omega,by dsimp only; omega,by simp [h2],fun k h h' => ?_⟩
        dsimp only at h' ⊢
        rw [List.getElem?_set]
        split
        · rename_i e
          subst e
          rw [if_pos (by omega)]
        · exact h3 k h (by omega)
      · dsimp only; omega
    · have hl : l = xs := by
        apply List.ext_getElem?
        intro k
        by_cases hk : k < xs.length
        · rw [h3 k hk (by omega),List.getElem?_eq_getElem hk]
        · rw [List.getElem?_eq_none (by omega),List.getElem?_eq_none (by omega)]
      subst hl
      skip
      refine g_turn (t_freezeD (i := 0) (ys := rows eV l) rfl (ShutL.rows fun _ => shutR)) ?_
      repeat refine cr ?_
      refine ends_id ?_
      refine endK [] (h2 := ?_) (h3 := ?_) (nd := ?_)
      all_goals (repeat' first|exact ce0|refine ce ?_|refine ce2 ?_ ?_|exact SVLe.refl|refine ceb ?_)
      all_goals first | exact (show nodupB _ = true from rfl) | exact Or.inr rfl | (rfl)
end Go.Proofs.YtnkeamihfiobdaaGreatDoor
end
