/- Parts of the proof (9 of 15). -/
import Derived.Laws.Append
import Derived.Laws.IdiomCopy
import Derived.Test.YtbekdojhcokalaaQ8
section
set_option linter.unusedVariables false
set_option linter.unusedSimpArgs false
set_option maxRecDepth 100000
namespace Go.Proofs.Ytbekdojhcokalaa
open Go Foot
section
variable {P : Program} {g : Gh} {st : St}
variable {dst : Option Tmp} {ty : TypeId} {pos : String} {after : Array Edge} {guard : Option (Nat × Bool)} {x y : Operand} {T : TypeId}
end
end Go.Proofs.Ytbekdojhcokalaa
end
section
set_option linter.unusedVariables false
set_option linter.unusedSimpArgs false
set_option maxRecDepth 100000
namespace Go.Proofs.Ytbekdojhcokalaa
open Go Foot
abbrev u64 (n : Int) : C := .d (.sc (.int .u64 n))
theorem wrapU {n : Int} (h1 : 0 ≤ n) (h2 : n < 18446744073709551616) : IntKind.u64.wrap n = n := by
  simp [IntKind.wrap, IntKind.bits, IntKind.signed]
  omega
section
variable {P : Program} {g : Gh} {st : St}
variable {dst : Option Tmp} {ty : TypeId} {pos : String} {after : Array Edge} {guard : Option (Nat × Bool)} {x y : Operand} {T U : TypeId} {a b : Int}
theorem u_shr (e1 : opd st x = .one (u64 a)) (e2 : opd st y = .one (.d (.sc (.int .u64 32)))) (h1 : 0 ≤ a) (h2 : a ≤ 4294967295) : Acts P g ⟨dst, .binOp .shr T x y U, ty, pos, after, guard⟩ st (.one (u64 0)) [] [] := by
  have := a_bin (P := P) (g := g) (dst := dst) (T := T) (U := U) (ty := ty) (pos := pos) (after := after) (guard := guard) (op := .shr) e1 e2 rfl (show (0 : Int) ≤ 32 by decide)
  have e : a.fdiv (2 ^ min (32 : Int).toNat IntKind.u64.bits) = 0 := by
    show a.fdiv (2 ^ min 32 64) = 0
    rw [show min 32 64 = 32 from rfl, Int.fdiv_eq_ediv_of_nonneg _ (by decide)]
    omega
  rwa [e] at this
theorem u_conv (e1 : opd st x = .one (int a)) (hT : P.underlying T = some (.int .i64)) (hU : P.underlying U = some (.int .u64)) (h1 : 0 ≤ a) (h2 : a < 9223372036854775808) : Acts P g ⟨dst, .convert T U x, ty, pos, after, guard⟩ st (.one (u64 a)) [] [] := by
  have := a_conv (P := P) (g := g) (dst := dst) (T := T) (U := U) (ty := ty) (pos := pos) (after := after) (guard := guard) e1 (by rw [hT]; rfl) hU
  rwa [wrapU h1 (by omega)] at this
theorem u_vnoc (e1 : opd st x = .one (u64 a)) (hT : P.underlying T = some (.int .u64)) (hU : P.underlying U = some (.int .i64)) (h1 : 0 ≤ a) (h2 : a < 9223372036854775808) : Acts P g ⟨dst, .convert T U x, ty, pos, after, guard⟩ st (.one (int a)) [] [] := by
  have := a_conv (P := P) (g := g) (dst := dst) (T := T) (U := U) (ty := ty) (pos := pos) (after := after) (guard := guard) e1 (by rw [hT]; rfl) hU
  rwa [wrap64 (by omega) h2] at this
end
end Go.Proofs.Ytbekdojhcokalaa
end
section
set_option linter.unusedVariables false
set_option linter.unusedSimpArgs false
set_option maxRecDepth 100000
namespace Go.Proofs.Ytbekdojhcokalaa
open Go Foot
theorem nowR {α : Type} {E : Enc α} {l : List α} (h : ∀ x, D.noOwn.all (E.enc x) := by intro _; repeat (first | exact trivial | exact rfl | refine And.intro ?_ ?_)) : D.noOwn.all (rows E l) := noOwn_rows h
theorem bnd {p : Prop} (h : p := by first | omega | (simp only [List.length_append, List.length_cons, List.length_nil, List.length_set, List.length_replicate, List.length_take, List.length_drop, List.length_tail, List.length_dropLast, List.length_reverse]; omega)) : p := h
section
variable {g : Gh} {dst : Option Tmp} {ty : TypeId} {pos : String} {after : Array Edge} {guard : Option (Nat × Bool)} {x : Operand} {f : Nat} {c0 : C} {cap : List C} {xs : List Operand} {Ts : Array TypeId} {ags : List SV} {H H' : List GB} {res : SV} {θ : List Nat} {t : List (Nat × SV)} {h : List (Nat × GB)} {n : Nat}
theorem callK0 (hc : opd ⟨t, h, n⟩ x = .one c0 := by exact rfl) (hv : fnv c0 = some (.func f, cap) := by exact rfl) (hE : entB Try.prog f = true := by exact fQ rfl) (ha : ASLe h [] (xs.map (opd ⟨t, h, n⟩) ++ cap.map .one) (ags.map (SV.ren (calF θ n))) := by (repeat (first | exact ASLe.nil | refine ASLe.cons ?_ ?_ | exact SVLe.refl | refine SVLe.one ?_ | refine SVLe.agg ?_ | exact CsLe.nil | refine CsLe.cons ?_ ?_ | exact CLe.refl | exact CLe.sh rfl | exact CLe.nil (by decide) | refine CLe.fn ?_ | refine CLe.fnD ?_ | refine CLe.ifc ?_ | refine CLe.ifcD ?_)); first | done | fail) (hH : rootsEq (calF θ n) ⟨t, h, n⟩ 0 H := by repeat (first | exact trivial | refine And.intro ?_ ?_ | exact rfl)) (hD : Does Try.prog f ags H res H')
    (hk : H.length = θ.length := by exact rfl) (hθ : nodupB θ = true := by exact rfl) (hm : θ.all (fun t => Nat.blt t n) = true := by exact rfl)
    (hlt : ltA H.length ags = true := by exact rfl) (hltH : allG H.length H = true := by exact rfl) (hltr : res.lt H'.length = true := by exact rfl) (hltH' : allG H'.length H' = true := by exact rfl) :
    Acts Try.prog g ⟨dst, .call { callee := .value x, args := xs.toArray, argTypes := Ts }, ty, pos, after, guard⟩ ⟨t, h, n⟩ (res.ren (calF θ n)) θ (upOf (calF θ n) 0 H') :=
  a_call0 hc hv hE ha hH hD hk hθ hm hlt hltH hltr hltH'
theorem callK1 (hc : opd ⟨t, h, n⟩ x = .one c0 := by exact rfl) (hv : fnv c0 = some (.func f, cap) := by exact rfl) (hE : entB Try.prog f = true := by exact fQ rfl) (ha : ASLe h (rest n θ) (xs.map (opd ⟨t, h, n⟩) ++ cap.map .one) (ags.map (SV.ren (calF θ n))) := by (repeat (first | exact ASLe.nil | refine ASLe.cons ?_ ?_ | exact SVLe.refl | refine SVLe.one ?_ | refine SVLe.agg ?_ | exact CsLe.nil | refine CsLe.cons ?_ ?_ | exact CLe.refl | exact CLe.sh rfl | exact CLe.nil (by decide) | refine CLe.fn ?_ | refine CLe.fnD ?_ | refine CLe.ifc ?_ | refine CLe.ifcD ?_ | exact CLe.lendA rfl rfl nowR | refine CLe.lendVA rfl rfl ?_ | refine CLe.lendPA rfl rfl rfl ?_)); first | done | fail) (hH : rootsEq (calF θ n) ⟨t, h, n⟩ 0 H := by repeat (first | exact trivial | refine And.intro ?_ ?_ | exact rfl)) (hD : Does Try.prog f ags H res H')
    (hk : H.length = θ.length := by exact rfl) (hθ : nodupB θ = true := by exact rfl) (hm : θ.all (fun t => Nat.blt t n) = true := by exact rfl) (hp : res.plain := by repeat (first | exact trivial | exact plain_rows (fun _ => by repeat (first | exact trivial | refine And.intro ?_ ?_)) | refine And.intro ?_ ?_)) (hp' : plainH H' := by repeat (first | exact trivial | exact plain_rows (fun _ => by repeat (first | exact trivial | refine And.intro ?_ ?_)) | refine And.intro ?_ ?_))
    (hlt : ltA H.length ags = true := by exact rfl) (hltH : allG H.length H = true := by exact rfl) (hltr : res.lt H'.length = true := by exact rfl) (hltH' : allG H'.length H' = true := by exact rfl) :
    Acts Try.prog g ⟨dst, .call { callee := .value x, args := xs.toArray, argTypes := Ts }, ty, pos, after, guard⟩ ⟨t, h, n⟩ (res.ren (calF θ n)) θ (upOf (calF θ n) 0 H') :=
  a_call1 hc hv hE ha hH hD hk hθ hm hp hp' hlt hltH hltr hltH'
variable {rs : List Rs} {fs : List Bool} {u uk : List Nat}
theorem callD0 (m : Nat) (hc : opd (visSt ⟨t, h, n⟩ rs fs u uk) x = .one c0 := by exact rfl) (hv : fnv c0 = some (.func f, cap) := by exact rfl) (hE : entB Try.prog f = true := by exact fQ rfl) (ha : ASLe (visSt ⟨t, h, n⟩ rs fs u uk).h [] (xs.map (opd (visSt ⟨t, h, n⟩ rs fs u uk)) ++ cap.map .one) (ags.map (SV.ren (calF θ (n + m)))) := by (repeat (first | exact ASLe.nil | refine ASLe.cons ?_ ?_ | exact SVLe.refl | refine SVLe.one ?_ | refine SVLe.agg ?_ | exact CsLe.nil | refine CsLe.cons ?_ ?_ | exact CLe.refl | exact CLe.sh rfl | exact CLe.nil (by decide) | refine CLe.fn ?_ | refine CLe.fnD ?_ | refine CLe.ifc ?_ | refine CLe.ifcD ?_)); first | done | fail) (hH : rootsEq (calF θ (n + m)) (visSt ⟨t, h, n⟩ rs fs u uk) 0 H := by repeat (first | exact trivial | refine And.intro ?_ ?_ | exact rfl)) (hD : Does Try.prog f ags H res H')
    (hk : H.length = θ.length := by exact rfl) (hθ : nodupB θ = true := by exact rfl) (hm : θ.all (fun t => Nat.blt t (n + m)) = true := by exact rfl)
    (hlt : ltA H.length ags = true := by exact rfl) (hltH : allG H.length H = true := by exact rfl) (hltr : res.lt H'.length = true := by exact rfl) (hltH' : allG H'.length H' = true := by exact rfl) :
    Acts Try.prog g ⟨dst, .call { callee := .value x, args := xs.toArray, argTypes := Ts }, ty, pos, after, guard⟩ (visSt ⟨t, h, n⟩ rs fs u uk) (res.ren (calF θ (n + m))) θ (upOf (calF θ (n + m)) 0 H') :=
  a_call0D m hc hv hE ha hH hD hk hθ hm hlt hltH hltr hltH'
theorem callD1 (m : Nat) (hc : opd (visSt ⟨t, h, n⟩ rs fs u uk) x = .one c0 := by exact rfl) (hv : fnv c0 = some (.func f, cap) := by exact rfl) (hE : entB Try.prog f = true := by exact fQ rfl) (ha : ASLe (visSt ⟨t, h, n⟩ rs fs u uk).h (rest (n + m) θ) (xs.map (opd (visSt ⟨t, h, n⟩ rs fs u uk)) ++ cap.map .one) (ags.map (SV.ren (calF θ (n + m)))) := by (repeat (first | exact ASLe.nil | refine ASLe.cons ?_ ?_ | exact SVLe.refl | refine SVLe.one ?_ | refine SVLe.agg ?_ | exact CsLe.nil | refine CsLe.cons ?_ ?_ | exact CLe.refl | exact CLe.sh rfl | exact CLe.nil (by decide) | refine CLe.fn ?_ | refine CLe.fnD ?_ | refine CLe.ifc ?_ | refine CLe.ifcD ?_ | exact CLe.lendA rfl rfl nowR | refine CLe.lendVA rfl rfl ?_ | refine CLe.lendPA rfl rfl rfl ?_)); first | done | fail) (hH : rootsEq (calF θ (n + m)) (visSt ⟨t, h, n⟩ rs fs u uk) 0 H := by repeat (first | exact trivial | refine And.intro ?_ ?_ | exact rfl)) (hD : Does Try.prog f ags H res H')
    (hk : H.length = θ.length := by exact rfl) (hθ : nodupB θ = true := by exact rfl) (hm : θ.all (fun t => Nat.blt t (n + m)) = true := by exact rfl) (hp : res.plain := by repeat (first | exact trivial | exact plain_rows (fun _ => by repeat (first | exact trivial | refine And.intro ?_ ?_)) | refine And.intro ?_ ?_)) (hp' : plainH H' := by repeat (first | exact trivial | exact plain_rows (fun _ => by repeat (first | exact trivial | refine And.intro ?_ ?_)) | refine And.intro ?_ ?_))
    (hlt : ltA H.length ags = true := by exact rfl) (hltH : allG H.length H = true := by exact rfl) (hltr : res.lt H'.length = true := by exact rfl) (hltH' : allG H'.length H' = true := by exact rfl) :
    Acts Try.prog g ⟨dst, .call { callee := .value x, args := xs.toArray, argTypes := Ts }, ty, pos, after, guard⟩ (visSt ⟨t, h, n⟩ rs fs u uk) (res.ren (calF θ (n + m))) θ (upOf (calF θ (n + m)) 0 H') :=
  a_call1D m hc hv hE ha hH hD hk hθ hm hp hp' hlt hltH hltr hltH'
end
section
variable {g : Gh} {dst : Option Tmp} {ty : TypeId} {pos : String} {after : Array Edge} {guard : Option (Nat × Bool)} {x : Operand} {f Ty : Nat} {c1 : C} {name : String} {xs : List Operand} {Ts : Array TypeId} {ags : List SV} {H H' : List GB} {res : SV} {θ : List Nat} {t : List (Nat × SV)} {h : List (Nat × GB)} {n : Nat}
end
section
variable {P : Program} {g : Gh} {Q : Exit → St → Prop} {t t0 : List (Nat × SV)} {h h0 : List (Nat × GB)} {n : Nat} {st : St}
theorem stk {k m : Nat} {θ : List Nat} {st : St} {t' : List (Nat × SV)} {h' : List (Nat × GB)} (h1 : leT (thF θ) st t' := by repeat (first | exact trivial | refine And.intro ?_ ?_ | exact SVLe.refl | exact SVLe.any | exact SVLe.one (.sh rfl) | exact SVLe.one (.nil (by decide)) | exact SVLe.agg (by repeat (first | exact CsLe.nil | refine CsLe.cons ?_ ?_ | exact CLe.refl | exact CLe.sh rfl | exact CLe.nil (by decide))) | (refine sle_i ?_; omega))) (h2 : leH (thF θ) m st h' := by repeat (first | exact trivial | refine And.intro ?_ ?_ | exact rfl)) (hn : m = θ.length := by exact rfl) (hpin : pinB k θ = true := by exact rfl) (nd : nodupB θ = true := by exact rfl) (lt : allT m t' = true := by exact rfl) (lh : allH m h' = true := by exact rfl) : StLe k θ st ⟨t', h', m⟩ := stle h1 h2 hn hpin nd lt lh
theorem loopK {α : Type} (live ex : List Nat) (I : α → Prop) (ut : α → List (Nat × SV)) (uh : α → List (Nat × GB)) (μ : α → Nat) (x0 : α) (θ : List Nat) {c : Code} (hp : Pick live t t0 := by repeat (first | exact Pick.nil | apply Pick.one rfl | apply Pick.agg rfl | apply Pick.tup rfl | apply Pick.any)) (hq : PickH ex h n h0 := by repeat (first | exact PickH.zero | apply PickH.row rfl rfl | apply PickH.sh rfl rfl | apply PickH.bx rfl rfl | apply PickH.mp rfl rfl | apply PickH.lp rfl rfl | apply PickH.bld rfl rfl | apply PickH.opq rfl rfl | apply PickH.out)) (hin : StLe g.k θ ⟨t, h, n⟩ ⟨ut x0 ++ t0, uh x0 ++ h0, n⟩ := by exact stk) (hI : I x0)
    (hr : ∀ x, I x → GWp P g c ⟨ut x ++ t0, uh x ++ h0, n⟩ (qLoop g.k I (fun x => ⟨ut x ++ t0, uh x ++ h0, n⟩) μ (μ x) Q)) : GWp P g (.loop c) ⟨t, h, n⟩ Q := g_loopU live ex I ut uh μ x0 θ hp hq hin hI hr
theorem endK {fn : Func} {k : Nat} {l : List (Bool × List C)} {res : SV} {H' : List GB} {e : Exit} (ids : List Nat) (he : e = .normal ∨ e = .ret := by first | exact .inr rfl | exact .inl rfl) (h1 : RessOk Try.prog st fn.results.toList l := by repeat (first | exact RessOk.nil | apply RessOk.cons | exact ResOk.one rfl | exact ResOk.agg rfl | exact ResOk.cell rfl rfl rfl (fC rfl) rfl | exact ResOk.cells rfl rfl rfl (fA rfl) (Nat.le_of_ble_eq_true rfl) rfl)) (h2 : SVLe st.h [] (resSV l) (res.ren (resF k ids))) (h3 : rootsLe (resF k ids) st 0 H') (hl : H'.length = k + ids.length := by exact rfl) (nd : nodupB (liveIds (resF k ids) 0 H') = true := by exact rfl) (lt : res.lt H'.length = true := by exact rfl) (lh : allG H'.length H' = true := by exact rfl) : Ends Try.prog fn k res H' e st := ends_m ids he h1 h2 h3 hl nd lt lh
end
section
/-- The flags of what lies behind, as1 a number. -/
def bitL : Nat → Nat → List Bool
  | 0, _ => []
  | i + 1, m => Nat.beq (m % 2) 1 :: bitL i (m / 2)
variable {P : Program} {g : Gh} {bf : List (List Nat)} {off : List (List Nat × List Nat)} {ops : List Oper} {t : List (Nat × SV)} {hp : List (Nat × GB)} {n n' : Nat} {Q : Exit → St → Prop} {l : List Oper} {rs : List Rs}
theorem dp (i m : Nat) (u : List Nat) (o : List (Bool × Nat)) {d : Nat} {op : Op} {ty : TypeId} {pos : String} {after : Array Edge} {sv : SV} (ha : Acts P g ⟨some d, op, ty, pos, after, none⟩ (visSt ⟨t, hp, n⟩ rs (bitL i m) u (offL n o)) sv [] []) (h : DR P g bf (offK n off) ops ⟨t, hp, n⟩ n' Q l (⟨some d, sv, [], []⟩ :: rs)) (hi : rs.length = i := by exact rfl) (hf : flags (fun k => memB k (bf.getD i [])) i = bitL i m := by kernel_rfl) (hu : unordD bf i 0 ops = u := by kernel_rfl) (hk : unordK bf (offK n off) i 0 ops = offL n o := by kernel_rfl) (hd : Nat.blt d g.n = true := by exact rfl) (hc : (offK n off).ck i = [] := by exact rfl) : DR P g bf (offK n off) ops ⟨t, hp, n⟩ n' Q (⟨some d, op, ty, pos, after, none⟩ :: l) rs := d_pN ha hi hf hu hk hd hc h
theorem duN (i m : Nat) (u : List Nat) (o : List (Bool × Nat)) {dst : Option Nat} {op : Op} {ty : TypeId} {pos : String} {after : Array Edge} {sv : SV} {ch : List Nat} {up : List (Nat × GB)} (ha : Acts P g ⟨dst, op, ty, pos, after, none⟩ (visSt ⟨t, hp, n⟩ rs (bitL i m) u (offL n o)) sv ch up) (hc : (offK n off).ck i = ch) (hup : upInB ((offK n off).nw i ++ (offK n off).ck i) up = true) (h : DR P g bf (offK n off) ops ⟨t, hp, n⟩ n' Q l (⟨dst, sv, ch, up⟩ :: rs)) (hi : rs.length = i := by exact rfl) (hf : flags (fun k => memB k (bf.getD i [])) i = bitL i m := by kernel_rfl) (hu : unordD bf i 0 ops = u := by kernel_rfl) (hk : unordK bf (offK n off) i 0 ops = offL n o := by kernel_rfl) (hd : ∀ d, dst = some d → d < g.n := by first | exact dst_some rfl | exact dst_none) : DR P g bf (offK n off) ops ⟨t, hp, n⟩ n' Q (⟨dst, op, ty, pos, after, none⟩ :: l) rs := d_uN ha hi hf hu hk hd hc hup h
theorem duE (i m : Nat) (u : List Nat) (o : List (Bool × Nat)) {dst : Option Nat} {op : Op} {ty : TypeId} {pos : String} {after : Array Edge} {sv : SV} {ch : List Nat} {up : List (Nat × GB)} (ha : Acts P g ⟨dst, op, ty, pos, after, none⟩ (visSt ⟨t, hp, n⟩ rs (bitL i m) u (offL n o)) sv ch up) (hc : (offK n off).ck i = ch) (hup : up.map (·.1) = (offK n off).nw i ++ (offK n off).ck i) (h : DR P g bf (offK n off) ops ⟨t, hp, n⟩ n' Q l (⟨dst, sv, ch, up⟩ :: rs)) (hi : rs.length = i := by exact rfl) (hf : flags (fun k => memB k (bf.getD i [])) i = bitL i m := by kernel_rfl) (hu : unordD bf i 0 ops = u := by kernel_rfl) (hk : unordK bf (offK n off) i 0 ops = offL n o := by kernel_rfl) (hd : ∀ d, dst = some d → d < g.n := by first | exact dst_some rfl | exact dst_none) : DR P g bf (offK n off) ops ⟨t, hp, n⟩ n' Q (⟨dst, op, ty, pos, after, none⟩ :: l) rs := d_uE ha hi hf hu hk hd hc hup h
theorem db (i m : Nat) (u : List Nat) (o : List (Bool × Nat)) {d : Nat} {op : Op} {ty : TypeId} {pos : String} {after : Array Edge} {b : Bool} (ha : Acts P g ⟨some d, op, ty, pos, after, none⟩ (visSt ⟨t, hp, n⟩ rs (bitL i m) u (offL n o)) (.one (boo b)) [] []) (ht : b = true → DR P g bf (offK n off) ops ⟨t, hp, n⟩ n' Q l (⟨some d, .one (boo true), [], []⟩ :: rs)) (hff : b = false → DR P g bf (offK n off) ops ⟨t, hp, n⟩ n' Q l (⟨some d, .one (boo false), [], []⟩ :: rs)) (hi : rs.length = i := by exact rfl) (hf : flags (fun k => memB k (bf.getD i [])) i = bitL i m := by kernel_rfl) (hu : unordD bf i 0 ops = u := by kernel_rfl) (hk : unordK bf (offK n off) i 0 ops = offL n o := by kernel_rfl) (hd : Nat.blt d g.n = true := by exact rfl) (hc : (offK n off).ck i = [] := by exact rfl) : DR P g bf (offK n off) ops ⟨t, hp, n⟩ n' Q (⟨some d, op, ty, pos, after, none⟩ :: l) rs := d_bN ha hi hf hu hk hd hc ht hff
theorem dpy (i m : Nat) (u : List Nat) (o : List (Bool × Nat)) {j d' : Nat} {b : Bool} {d : Nat} {op : Op} {ty : TypeId} {pos : String} {after : Array Edge} {sv : SV} (ha : Acts P g ⟨some d, op, ty, pos, after, some (j, b)⟩ (visSt ⟨t, hp, n⟩ rs (bitL i m) u (offL n o)) sv [] []) (h : DR P g bf (offK n off) ops ⟨t, hp, n⟩ n' Q l (⟨some d, sv, [], []⟩ :: rs)) (hj : ((ops.toArray)[j]?).bind (·.dst) = some d' := by exact rfl) (hb : lkS (visSt ⟨t, hp, n⟩ rs (bitL i m) u (offL n o)).t d' = .one (boo b) := by exact rfl) (hi : rs.length = i := by exact rfl) (hf : flags (fun k => memB k (bf.getD i [])) i = bitL i m := by kernel_rfl) (hu : unordD bf i 0 ops = u := by kernel_rfl) (hk : unordK bf (offK n off) i 0 ops = offL n o := by kernel_rfl) (hdd : Nat.blt d' g.n = true := by exact rfl) (hd : Nat.blt d g.n = true := by exact rfl) (hc : (offK n off).ck i = [] := by exact rfl) : DR P g bf (offK n off) ops ⟨t, hp, n⟩ n' Q (⟨some d, op, ty, pos, after, some (j, b)⟩ :: l) rs := d_pyN hj hb ha hi hf hu hk hdd hd hc h
theorem dby (i m : Nat) (u : List Nat) (o : List (Bool × Nat)) {j d' : Nat} {b b0 : Bool} {d : Nat} {op : Op} {ty : TypeId} {pos : String} {after : Array Edge} (ha : Acts P g ⟨some d, op, ty, pos, after, some (j, b0)⟩ (visSt ⟨t, hp, n⟩ rs (bitL i m) u (offL n o)) (.one (boo b)) [] []) (ht : b = true → DR P g bf (offK n off) ops ⟨t, hp, n⟩ n' Q l (⟨some d, .one (boo true), [], []⟩ :: rs)) (hff : b = false → DR P g bf (offK n off) ops ⟨t, hp, n⟩ n' Q l (⟨some d, .one (boo false), [], []⟩ :: rs)) (hj : ((ops.toArray)[j]?).bind (·.dst) = some d' := by exact rfl) (hb : lkS (visSt ⟨t, hp, n⟩ rs (bitL i m) u (offL n o)).t d' = .one (boo b0) := by exact rfl) (hi : rs.length = i := by exact rfl) (hf : flags (fun k => memB k (bf.getD i [])) i = bitL i m := by kernel_rfl) (hu : unordD bf i 0 ops = u := by kernel_rfl) (hk : unordK bf (offK n off) i 0 ops = offL n o := by kernel_rfl) (hdd : Nat.blt d' g.n = true := by exact rfl) (hd : Nat.blt d g.n = true := by exact rfl) (hc : (offK n off).ck i = [] := by exact rfl) : DR P g bf (offK n off) ops ⟨t, hp, n⟩ n' Q (⟨some d, op, ty, pos, after, some (j, b0)⟩ :: l) rs := d_byN hj hb ha hi hf hu hk hdd hd hc ht hff
theorem dn (i m : Nat) (u : List Nat) (o : List (Bool × Nat)) {j d' : Nat} {b : Bool} {dst : Option Nat} {op : Op} {ty : TypeId} {pos : String} {after : Array Edge} (h : DR P g bf (offK n off) ops ⟨t, hp, n⟩ n' Q l (⟨dst, .tup [], [], []⟩ :: rs)) (hj : ((ops.toArray)[j]?).bind (·.dst) = some d' := by exact rfl) (hb : skips b (lkS (visSt ⟨t, hp, n⟩ rs (bitL i m) u (offL n o)).t d') = true := by exact rfl) (hi : rs.length = i := by exact rfl) (hf : flags (fun k => memB k (bf.getD i [])) i = bitL i m := by kernel_rfl) (hu : unordD bf i 0 ops = u := by kernel_rfl) (hk : unordK bf (offK n off) i 0 ops = offL n o := by kernel_rfl) (hdd : Nat.blt d' g.n = true := by exact rfl) (hd : ∀ d, dst = some d → d < g.n := by first | exact dst_some rfl | exact dst_none) (hc : (offK n off).ck i = [] := by exact rfl) : DR P g bf (offK n off) ops ⟨t, hp, n⟩ n' Q (⟨dst, op, ty, pos, after, some (j, b)⟩ :: l) rs := d_noN hj hb hi hf hu hk hdd hd hc h
end
section
variable {g : Gh} {o : Oper} {st : St} {sv : SV}
theorem pu1 (h : Acts Try.prog g o st sv [] [] := by first | exact a_pure (sv := .one _) rfl | exact a_pure (sv := .agg _) rfl | exact a_pure (sv := .tup _) rfl) : Acts Try.prog g o st sv [] [] := h
theorem pu2 (h : Acts Try.prog g o st sv [] [] := by first | exact a_pure (sv := .one _) rfl | exact a_pure (sv := .agg _) rfl) : Acts Try.prog g o st sv [] [] := h
theorem puL (h : Acts Try.prog g o st sv [] [] := by first | exact a_pure (sv := .one _) rfl | exact a_pure (sv := .agg _) rfl | exact a_ld_rowI rfl rfl rfl (fC rfl) bnd) : Acts Try.prog g o st sv [] [] := h
theorem puI (h : Acts Try.prog g o st sv [] [] := by first | exact a_iaE rfl rfl rfl (fS rfl) (by omega) bnd (by exact rfl) | exact a_iaO1 rfl rfl rfl (fS rfl) (by omega) bnd | exact a_iaO rfl rfl rfl (fS rfl) (by omega) bnd (by exact rfl)) : Acts Try.prog g o st sv [] [] := h
theorem puN (h : Acts Try.prog g o st sv [] [] := by exact a_lenE rfl rfl (fS rfl) (by exact rfl)) : Acts Try.prog g o st sv [] [] := h
theorem puC (h : Acts Try.prog g o st sv [] [] := by exact a_cmp rfl rfl rfl trivial rfl) : Acts Try.prog g o st sv [] [] := h
end
end Go.Proofs.Ytbekdojhcokalaa
end
