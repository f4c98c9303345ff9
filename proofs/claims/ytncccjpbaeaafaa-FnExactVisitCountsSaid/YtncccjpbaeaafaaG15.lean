/- Walks of drawn regions with what may be leaned on laid open. No program in sight. -/
import Derived.Test.YtncccjpbaeaafaaG14
set_option linter.unusedVariables false
set_option linter.unusedSimpArgs false
namespace Go.Proofs.Ytncccjpbaeaafaa
open Go Foot

def flags (D : Nat → Bool) : Nat → List Bool
  | 0 => []
  | n + 1 => D n :: flags D n
/-- What the chosen operations (the last one first) have set. -/
def selT : List Bool → List Rs → List (Nat × SV) → List (Nat × SV)
  | true :: fs, r :: rs, t => (match r.dst with | some d => (d, r.sv) :: selT fs rs t | none => selT fs rs t)
  | false :: fs, _ :: rs, t => selT fs rs t
  | _, _, t => t
def selH : List Bool → List Rs → List (Nat × GB) → List (Nat × GB)
  | true :: fs, r :: rs, t => r.up ++ selH fs rs t
  | false :: fs, _ :: rs, t => selH fs rs t
  | _, _, t => t
theorem mixT_rev (D : Nat → Bool) (t : List (Nat × SV)) : ∀ (rs : List Rs), mixT D 0 rs.reverse t = selT (flags D rs.length) rs t
  | [] => rfl
  | r :: rs => by
    rw [List.reverse_cons, mixT_app, mixT_rev D t rs]
    simp only [mixT, List.length_reverse, Nat.zero_add, List.length_cons, flags]
    cases D rs.length with
    | true => simp only [cond_true, selT]; cases r.dst <;> rfl
    | false => rfl
theorem mixH_rev (D : Nat → Bool) (t : List (Nat × GB)) : ∀ (rs : List Rs), mixH D 0 rs.reverse t = selH (flags D rs.length) rs t
  | [] => rfl
  | r :: rs => by
    rw [List.reverse_cons, mixH_app, mixH_rev D t rs]
    simp only [mixH, List.length_reverse, Nat.zero_add, List.length_cons, flags]
    cases D rs.length with
    | true => rfl
    | false => rfl
def anyL : List Nat → List (Nat × SV) → List (Nat × SV)
  | [], t => t
  | x :: l, t => (x, .any) :: anyL l t
def unordD (bf : List (List Nat)) (i : Nat) : Nat → List Oper → List Nat
  | _, [] => []
  | j, o :: l => bif unord bf i j then (match o.dst with | some d => d :: unordD bf i (j + 1) l | none => unordD bf i (j + 1) l) else unordD bf i (j + 1) l
def unordK (bf : List (List Nat)) (kk : Keys) (i : Nat) : Nat → List Oper → List Nat
  | _, [] => []
  | j, o :: l => bif unord bf i j then (kk.nw j ++ kk.ck j) ++ unordK bf kk i (j + 1) l else unordK bf kk i (j + 1) l
theorem maskT_eq {bf : List (List Nat)} {i : Nat} {t : List (Nat × SV)} : ∀ {l : List Oper} {j : Nat}, maskT bf i j l t = anyL (unordD bf i j l) t
  | [], j => rfl
  | o :: l, j => by
    simp only [maskT, unordD]
    cases unord bf i j with
    | true => simp only [cond_true]; cases o.dst <;> simp only [anyL, maskT_eq]
    | false => simp only [cond_false]; exact maskT_eq
theorem deadL_app (t : List (Nat × GB)) : ∀ (a b : List Nat), deadL (a ++ b) t = deadL a (deadL b t)
  | [], _ => rfl
  | x :: a, b => by simp only [List.cons_append, deadL, deadL_app t a b]
theorem maskH_eq {bf : List (List Nat)} {kk : Keys} {i : Nat} {t : List (Nat × GB)} : ∀ {l : List Oper} {j : Nat}, maskH bf kk i j l t = deadL (unordK bf kk i j l) t
  | [], j => rfl
  | o :: l, j => by
    simp only [maskH, unordK]
    cases unord bf i j with
    | true => simp only [cond_true]; rw [deadL_app t, maskH_eq]
    | false => simp only [cond_false]; exact maskH_eq
/-- What operation `i` may lean on. -/
def visSt (st : St) (rs : List Rs) (fs : List Bool) (u uk : List Nat) : St := ⟨anyL u (selT fs rs st.t), deadL uk (selH fs rs st.h), st.n⟩
theorem visSt_eq {bf : List (List Nat)} {kk : Keys} {ops : List Oper} {st : St} {rs : List Rs} {i : Nat} {fs : List Bool} {u uk : List Nat} (hi : rs.length = i) (hf : flags (fun k => memB k (bf.getD i [])) i = fs) (hu : unordD bf i 0 ops = u) (hk : unordK bf kk i 0 ops = uk) :
    minSt bf kk ops st rs.reverse rs.reverse.length = visSt st rs fs u uk := by
  subst hi hf hu hk
  simp only [minSt, visSt, List.length_reverse, mixT_rev, mixH_rev, maskT_eq, maskH_eq]
section
variable {P : Program} {g : Gh} {bf : List (List Nat)} {kk : Keys} {ops : List Oper} {st : St} {n' : Nat} {Q : Exit → St → Prop} {l : List Oper} {rs : List Rs}
structure DR (P : Program) (g : Gh) (bf : List (List Nat)) (kk : Keys) (ops : List Oper) (st : St) (n' : Nat) (Q : Exit → St → Prop) (l : List Oper) (rs : List Rs) : Prop where
  run : GDraw P g bf kk ops st n' Q l rs.reverse
theorem g_dr {id : Nat} {t : List (Nat × SV)} {h : List (Nat × GB)} {n : Nat} (hm : P.follows .mixedOrders = true) (bf : List (List Nat)) (kk : Keys) (n' : Nat) {ops : List Oper} (hbf : befOk bf 0 ops = true) (hin : indepOk bf kk ops 0 ops = true) (hnw : newOk n n' kk = true)
    (hd : DR P g bf kk ops ⟨t, h, n⟩ n' Q ops []) : GWp P g (.region id ops.toArray true) ⟨t, h, n⟩ Q := g_draw hm bf kk n' hbf hin hnw hd.run
def trues : List Rs → List Bool
  | [] => []
  | _ :: l => true :: trues l
theorem flags_true : ∀ (rs : List Rs), flags (fun _ => true) rs.length = trues rs
  | [] => rfl
  | _ :: l => by simp only [List.length_cons, flags, trues, flags_true l]
theorem d_nil (h : Q .normal ⟨selT (trues rs) rs st.t, selH (trues rs) rs st.h, n'⟩) : DR P g bf kk ops st n' Q [] rs := ⟨by
  show Q .normal ⟨mixT _ 0 rs.reverse st.t, mixH _ 0 rs.reverse st.h, n'⟩
  rw [mixT_rev, mixH_rev, flags_true]
  exact h⟩
/-- An operation without guard. -/
theorem d_u {i : Nat} {fs : List Bool} {u uk : List Nat} {dst : Option Nat} {op : Op} {ty : TypeId} {pos : String} {after : Array Edge} {sv : SV} {ch : List Nat} {up : List (Nat × GB)} (ha : Acts P g ⟨dst, op, ty, pos, after, none⟩ (visSt st rs fs u uk) sv ch up)
    (hi : rs.length = i) (hf : flags (fun k => memB k (bf.getD i [])) i = fs) (hu : unordD bf i 0 ops = u) (hk : unordK bf kk i 0 ops = uk) (hd : ∀ d, dst = some d → d < g.n) (hc : kk.ck i = ch) (hup : upIn (kk.nw i ++ kk.ck i) up)
    (h : DR P g bf kk ops st n' Q l (⟨dst, sv, ch, up⟩ :: rs)) : DR P g bf kk ops st n' Q (⟨dst, op, ty, pos, after, none⟩ :: l) rs := by
  refine ⟨dr_u (ch := ch) (up := up) (sv := sv) hd (by rw [List.length_reverse, hi]; exact hc) (by rw [List.length_reverse, hi]; exact hup) (by rw [visSt_eq hi hf hu hk]; exact ha) ?_⟩
  have := h.run
  rwa [List.reverse_cons] at this
theorem d_p {i : Nat} {fs : List Bool} {u uk : List Nat} {d : Nat} {op : Op} {ty : TypeId} {pos : String} {after : Array Edge} {sv : SV} (ha : Acts P g ⟨some d, op, ty, pos, after, none⟩ (visSt st rs fs u uk) sv [] [])
    (hi : rs.length = i) (hf : flags (fun k => memB k (bf.getD i [])) i = fs) (hu : unordD bf i 0 ops = u) (hk : unordK bf kk i 0 ops = uk) (hd : Nat.blt d g.n = true) (hc : kk.ck i = [])
    (h : DR P g bf kk ops st n' Q l (⟨some d, sv, [], []⟩ :: rs)) : DR P g bf kk ops st n' Q (⟨some d, op, ty, pos, after, none⟩ :: l) rs := d_u ha hi hf hu hk (dst_some hd) hc trivial h
/-- A truth value that guards later operations: part on it. -/
theorem d_b {i : Nat} {fs : List Bool} {u uk : List Nat} {d : Nat} {op : Op} {ty : TypeId} {pos : String} {after : Array Edge} {b : Bool} (ha : Acts P g ⟨some d, op, ty, pos, after, none⟩ (visSt st rs fs u uk) (.one (boo b)) [] [])
    (hi : rs.length = i) (hf : flags (fun k => memB k (bf.getD i [])) i = fs) (hu : unordD bf i 0 ops = u) (hk : unordK bf kk i 0 ops = uk) (hd : Nat.blt d g.n = true) (hc : kk.ck i = [])
    (ht : b = true → DR P g bf kk ops st n' Q l (⟨some d, .one (boo true), [], []⟩ :: rs)) (hff : b = false → DR P g bf kk ops st n' Q l (⟨some d, .one (boo false), [], []⟩ :: rs)) : DR P g bf kk ops st n' Q (⟨some d, op, ty, pos, after, none⟩ :: l) rs := by
  refine d_p ha hi hf hu hk hd hc ?_
  cases b with
  | true => exact ht rfl
  | false => exact hff rfl
theorem d_uy {i j d' : Nat} {fs : List Bool} {u uk : List Nat} {b : Bool} {dst : Option Nat} {op : Op} {ty : TypeId} {pos : String} {after : Array Edge} {sv : SV} {ch : List Nat} {up : List (Nat × GB)} (hj : ((ops.toArray)[j]?).bind (·.dst) = some d') (hb : lkS (visSt st rs fs u uk).t d' = .one (boo b)) (ha : Acts P g ⟨dst, op, ty, pos, after, some (j, b)⟩ (visSt st rs fs u uk) sv ch up)
    (hi : rs.length = i) (hf : flags (fun k => memB k (bf.getD i [])) i = fs) (hu : unordD bf i 0 ops = u) (hk : unordK bf kk i 0 ops = uk) (hdd : Nat.blt d' g.n = true) (hd : ∀ d, dst = some d → d < g.n) (hc : kk.ck i = ch) (hup : upIn (kk.nw i ++ kk.ck i) up)
    (h : DR P g bf kk ops st n' Q l (⟨dst, sv, ch, up⟩ :: rs)) : DR P g bf kk ops st n' Q (⟨dst, op, ty, pos, after, some (j, b)⟩ :: l) rs := by
  have e := visSt_eq (bf := bf) (kk := kk) (ops := ops) (st := st) hi hf hu hk
  refine ⟨dr_uy (ch := ch) (up := up) (sv := sv) hj (by rw [e]; exact hb) hdd hd (by rw [List.length_reverse, hi]; exact hc) (by rw [List.length_reverse, hi]; exact hup) (by rw [e]; exact ha) ?_⟩
  have := h.run
  rwa [List.reverse_cons] at this
theorem d_py {i j d' : Nat} {fs : List Bool} {u uk : List Nat} {b : Bool} {d : Nat} {op : Op} {ty : TypeId} {pos : String} {after : Array Edge} {sv : SV} (hj : ((ops.toArray)[j]?).bind (·.dst) = some d') (hb : lkS (visSt st rs fs u uk).t d' = .one (boo b)) (ha : Acts P g ⟨some d, op, ty, pos, after, some (j, b)⟩ (visSt st rs fs u uk) sv [] [])
    (hi : rs.length = i) (hf : flags (fun k => memB k (bf.getD i [])) i = fs) (hu : unordD bf i 0 ops = u) (hk : unordK bf kk i 0 ops = uk) (hdd : Nat.blt d' g.n = true) (hd : Nat.blt d g.n = true) (hc : kk.ck i = [])
    (h : DR P g bf kk ops st n' Q l (⟨some d, sv, [], []⟩ :: rs)) : DR P g bf kk ops st n' Q (⟨some d, op, ty, pos, after, some (j, b)⟩ :: l) rs := d_uy hj hb ha hi hf hu hk hdd (dst_some hd) hc trivial h
theorem d_by {i j d' : Nat} {fs : List Bool} {u uk : List Nat} {b b0 : Bool} {d : Nat} {op : Op} {ty : TypeId} {pos : String} {after : Array Edge} (hj : ((ops.toArray)[j]?).bind (·.dst) = some d') (hb : lkS (visSt st rs fs u uk).t d' = .one (boo b0)) (ha : Acts P g ⟨some d, op, ty, pos, after, some (j, b0)⟩ (visSt st rs fs u uk) (.one (boo b)) [] [])
    (hi : rs.length = i) (hf : flags (fun k => memB k (bf.getD i [])) i = fs) (hu : unordD bf i 0 ops = u) (hk : unordK bf kk i 0 ops = uk) (hdd : Nat.blt d' g.n = true) (hd : Nat.blt d g.n = true) (hc : kk.ck i = [])
    (ht : b = true → DR P g bf kk ops st n' Q l (⟨some d, .one (boo true), [], []⟩ :: rs)) (hff : b = false → DR P g bf kk ops st n' Q l (⟨some d, .one (boo false), [], []⟩ :: rs)) : DR P g bf kk ops st n' Q (⟨some d, op, ty, pos, after, some (j, b0)⟩ :: l) rs := by
  refine d_py hj hb ha hi hf hu hk hdd hd hc ?_
  cases b with
  | true => exact ht rfl
  | false => exact hff rfl
theorem d_no {i j d' : Nat} {fs : List Bool} {u uk : List Nat} {b : Bool} {dst : Option Nat} {op : Op} {ty : TypeId} {pos : String} {after : Array Edge} (hj : ((ops.toArray)[j]?).bind (·.dst) = some d') (hb : skips b (lkS (visSt st rs fs u uk).t d') = true)
    (hi : rs.length = i) (hf : flags (fun k => memB k (bf.getD i [])) i = fs) (hu : unordD bf i 0 ops = u) (hk : unordK bf kk i 0 ops = uk) (hdd : Nat.blt d' g.n = true) (hd : ∀ d, dst = some d → d < g.n) (hc : kk.ck i = [])
    (h : DR P g bf kk ops st n' Q l (⟨dst, .tup [], [], []⟩ :: rs)) : DR P g bf kk ops st n' Q (⟨dst, op, ty, pos, after, some (j, b)⟩ :: l) rs := by
  have e := visSt_eq (bf := bf) (kk := kk) (ops := ops) (st := st) hi hf hu hk
  refine ⟨dr_no hj (by rw [e]; exact hb) hdd hd (by rw [List.length_reverse, hi]; exact hc) trivial ?_⟩
  have := h.run
  rwa [List.reverse_cons] at this
end
end Go.Proofs.Ytncccjpbaeaafaa
