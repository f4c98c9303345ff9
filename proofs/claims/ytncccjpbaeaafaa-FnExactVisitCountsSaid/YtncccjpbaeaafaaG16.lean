/- Shapes for a printed walk: calls whose arguments are found, drawn regions with numbers from where the walk stands, loops that keep what they do not write. No program in sight. -/
import Derived.Test.YtncccjpbaeaafaaG15
set_option linter.unusedVariables false
set_option linter.unusedSimpArgs false
namespace Go.Proofs.Ytncccjpbaeaafaa
open Go Foot

def upB (n n' : Nat) (ch : List Nat) : List (Nat × GB) → Bool
  | [] => Nat.ble n n'
  | (i, _) :: r => (memB i ch || (Nat.ble n i && Nat.blt i n')) && upB n n' ch r
theorem upB_ok {n n' : Nat} {ch : List Nat} : ∀ {up : List (Nat × GB)}, upB n n' ch up = true → upOk n n' ch up
  | [], h => Nat.le_of_ble_eq_true h
  | (i, _) :: r, h => by
    simp only [upB, Bool.and_eq_true, Bool.or_eq_true] at h
    exact ⟨h.1.imp memB_iff.1 fun h => ⟨Nat.le_of_ble_eq_true h.1, blt_lt h.2⟩, upB_ok h.2⟩
def downs : Nat → List Nat
  | 0 => []
  | n + 1 => n :: downs n
/-- All roots but those that are handed over. -/
def rest (n : Nat) (θ : List Nat) : List Nat := (downs n).filter fun i => !memB i θ
theorem rest_ok (n : Nat) (θ : List Nat) : (rest n θ).all (fun i => !(θ.any (Nat.beq i))) = true := by
  rw [List.all_eq_true]
  intro i hi
  have := (List.mem_filter.1 hi).2
  exact this
section
variable {h : List (Nat × GB)} {ld : List Nat}
theorem CLe.lendA {g z : Nat} {xs : List D} (hg : memB g ld = true) (e : lkG h g = .row z xs) (hno : D.noOwn.all xs) : CLe h ld (.gv g) (.d (.sl false z xs)) := .lend (memB_iff.1 hg) e hno
theorem CLe.lendVA {g : Nat} {cs : List C} {xs : List D} (hg : memB g ld = true) (e : lkG h g = .bx cs) (a : CsLe h ld cs (xs.map C.d)) : CLe h ld (.gv g) (.d (.bx false xs)) := .lendV (memB_iff.1 hg) e a
theorem CLe.lendPA {g o : Nat} {cs cs' : List C} {ys : List D} (hg : memB g ld = true) (e : lkG h g = .bx cs) (hy : cs.drop o = cs') (a : CsLe h ld cs' (ys.map C.d)) : CLe h ld (.gp g o) (.d (.bx false ys)) := .lendP (memB_iff.1 hg) e hy a
end
section
variable {P : Program} {g : Gh} {t : List (Nat × SV)} {h : List (Nat × GB)} {n : Nat} {Q : Exit → St → Prop} {ops : Array Oper} {l : List Oper}
/-- An operation with some new roots. -/
theorem c4 (k : Nat) {d : Nat} {op : Op} {ty : TypeId} {pos : String} {after : Array Edge} {sv : SV} {θ : List Nat} {up : List (Nat × GB)} (ha : Acts P g ⟨some d, op, ty, pos, after, none⟩ ⟨t, h, n⟩ sv θ up) (hd : Nat.blt d g.n = true) (hl : θ.all (fun i => (lkG h i).lives) = true) (hu : upB n (n + k) θ up = true) (hk : GOps P g ops l ⟨(d, sv) :: t, up ++ h, n + k⟩ Q) : GOps P g ops (⟨some d, op, ty, pos, after, none⟩ :: l) ⟨t, h, n⟩ Q := o_c hd hl ha (upB_ok hu) hk
theorem c4n (k : Nat) {op : Op} {ty : TypeId} {pos : String} {after : Array Edge} {sv : SV} {θ : List Nat} {up : List (Nat × GB)} (ha : Acts P g ⟨none, op, ty, pos, after, none⟩ ⟨t, h, n⟩ sv θ up) (hl : θ.all (fun i => (lkG h i).lives) = true) (hu : upB n (n + k) θ up = true) (hk : GOps P g ops l ⟨t, up ++ h, n + k⟩ Q) : GOps P g ops (⟨none, op, ty, pos, after, none⟩ :: l) ⟨t, h, n⟩ Q :=
  o_act (n := n + k) rfl ha (fun d' e => by cases e) (fun j hj e => by have := (List.all_eq_true.1 hl) j hj; simp only [e] at this; cases this) (upB_ok hu) hk
theorem cy4 (k : Nat) {d j d' : Nat} {b : Bool} {op : Op} {ty : TypeId} {pos : String} {after : Array Edge} {sv : SV} {θ : List Nat} {up : List (Nat × GB)} (hj : (ops[j]?).bind (·.dst) = some d') (hb : lkS t d' = .one (boo b)) (ha : Acts P g ⟨some d, op, ty, pos, after, some (j, b)⟩ ⟨t, h, n⟩ sv θ up) (hdd : Nat.blt d' g.n = true) (hd : Nat.blt d g.n = true) (hl : θ.all (fun i => (lkG h i).lives) = true) (hu : upB n (n + k) θ up = true) (hk : GOps P g ops l ⟨(d, sv) :: t, up ++ h, n + k⟩ Q) : GOps P g ops (⟨some d, op, ty, pos, after, some (j, b)⟩ :: l) ⟨t, h, n⟩ Q := o_cy hj hb hdd hd hl ha (upB_ok hu) hk
end
section
variable {P : Program} {g : Gh} {dst : Option Tmp} {ty : TypeId} {pos : String} {after : Array Edge} {guard : Option (Nat × Bool)} {x : Operand} {f : Nat} {c0 : C} {cap : List C} {xs : List Operand} {Ts : Array TypeId} {as : List SV} {H H' : List GB} {res : SV} {θ : List Nat} {t : List (Nat × SV)} {h : List (Nat × GB)} {n : Nat}
/-- A call that lends nothing. -/
theorem a_call0 (hc : opd ⟨t, h, n⟩ x = .one c0) (hv : fnv c0 = some (.func f, cap)) (hE : entB P f = true) (ha : ASLe h [] (xs.map (opd ⟨t, h, n⟩) ++ cap.map .one) (as.map (SV.ren (calF θ n)))) (hH : rootsEq (calF θ n) ⟨t, h, n⟩ 0 H) (hD : Does P f as H res H')
    (hk : H.length = θ.length) (hθ : nodupB θ = true) (hm : θ.all (fun t => Nat.blt t n) = true)
    (hlt : ltA H.length as = true) (hltH : allG H.length H = true) (hltr : res.lt H'.length = true) (hltH' : allG H'.length H' = true) :
    Acts P g ⟨dst, .call { callee := .value x, args := xs.toArray, argTypes := Ts }, ty, pos, after, guard⟩ ⟨t, h, n⟩ (res.ren (calF θ n)) θ (upOf (calF θ n) 0 H') :=
  a_callS hD hc hv hE ha hH hk hθ hm rfl (.inl rfl) hlt hltH hltr hltH'
/-- A call that lends all roots that it does not hand over. -/
theorem a_call1 (hc : opd ⟨t, h, n⟩ x = .one c0) (hv : fnv c0 = some (.func f, cap)) (hE : entB P f = true) (ha : ASLe h (rest n θ) (xs.map (opd ⟨t, h, n⟩) ++ cap.map .one) (as.map (SV.ren (calF θ n)))) (hH : rootsEq (calF θ n) ⟨t, h, n⟩ 0 H) (hD : Does P f as H res H')
    (hk : H.length = θ.length) (hθ : nodupB θ = true) (hm : θ.all (fun t => Nat.blt t n) = true) (hp : res.plain) (hp' : plainH H')
    (hlt : ltA H.length as = true) (hltH : allG H.length H = true) (hltr : res.lt H'.length = true) (hltH' : allG H'.length H' = true) :
    Acts P g ⟨dst, .call { callee := .value x, args := xs.toArray, argTypes := Ts }, ty, pos, after, guard⟩ ⟨t, h, n⟩ (res.ren (calF θ n)) θ (upOf (calF θ n) 0 H') :=
  a_callS hD hc hv hE ha hH hk hθ hm (rest_ok n θ) (.inr ⟨hp, hp'⟩) hlt hltH hltr hltH'
variable {rs : List Rs} {fs : List Bool} {u uk : List Nat}
theorem a_call0D (m : Nat) (hc : opd (visSt ⟨t, h, n⟩ rs fs u uk) x = .one c0) (hv : fnv c0 = some (.func f, cap)) (hE : entB P f = true) (ha : ASLe (visSt ⟨t, h, n⟩ rs fs u uk).h [] (xs.map (opd (visSt ⟨t, h, n⟩ rs fs u uk)) ++ cap.map .one) (as.map (SV.ren (calF θ (n + m))))) (hH : rootsEq (calF θ (n + m)) (visSt ⟨t, h, n⟩ rs fs u uk) 0 H) (hD : Does P f as H res H')
    (hk : H.length = θ.length) (hθ : nodupB θ = true) (hm : θ.all (fun t => Nat.blt t (n + m)) = true)
    (hlt : ltA H.length as = true) (hltH : allG H.length H = true) (hltr : res.lt H'.length = true) (hltH' : allG H'.length H' = true) :
    Acts P g ⟨dst, .call { callee := .value x, args := xs.toArray, argTypes := Ts }, ty, pos, after, guard⟩ (visSt ⟨t, h, n⟩ rs fs u uk) (res.ren (calF θ (n + m))) θ (upOf (calF θ (n + m)) 0 H') :=
  a_call hD hc hv hE ha hH hk hθ hm rfl (.inl rfl) hlt hltH hltr hltH' rfl rfl
theorem a_call1D (m : Nat) (hc : opd (visSt ⟨t, h, n⟩ rs fs u uk) x = .one c0) (hv : fnv c0 = some (.func f, cap)) (hE : entB P f = true) (ha : ASLe (visSt ⟨t, h, n⟩ rs fs u uk).h (rest (n + m) θ) (xs.map (opd (visSt ⟨t, h, n⟩ rs fs u uk)) ++ cap.map .one) (as.map (SV.ren (calF θ (n + m))))) (hH : rootsEq (calF θ (n + m)) (visSt ⟨t, h, n⟩ rs fs u uk) 0 H) (hD : Does P f as H res H')
    (hk : H.length = θ.length) (hθ : nodupB θ = true) (hm : θ.all (fun t => Nat.blt t (n + m)) = true) (hp : res.plain) (hp' : plainH H')
    (hlt : ltA H.length as = true) (hltH : allG H.length H = true) (hltr : res.lt H'.length = true) (hltH' : allG H'.length H' = true) :
    Acts P g ⟨dst, .call { callee := .value x, args := xs.toArray, argTypes := Ts }, ty, pos, after, guard⟩ (visSt ⟨t, h, n⟩ rs fs u uk) (res.ren (calF θ (n + m))) θ (upOf (calF θ (n + m)) 0 H') :=
  a_call hD hc hv hE ha hH hk hθ hm (rest_ok _ θ) (.inr ⟨hp, hp'⟩) hlt hltH hltr hltH' rfl rfl
end
section
variable {P : Program} {g : Gh} {dst : Option Tmp} {ty : TypeId} {pos : String} {after : Array Edge} {guard : Option (Nat × Bool)} {x : Operand} {f Ty : Nat} {c1 : C} {name : String} {xs : List Operand} {Ts : Array TypeId} {as : List SV} {H H' : List GB} {res : SV} {θ : List Nat} {t : List (Nat × SV)} {h : List (Nat × GB)} {n : Nat}
/-- A call of a method through an interface value; all roots that it does not hand over are lent. -/
theorem a_inv1 (hc : opd ⟨t, h, n⟩ x = .one (.ifc Ty false [c1])) (ha : ASLe h (rest n θ) (.one c1 :: xs.map (opd ⟨t, h, n⟩)) (as.map (SV.ren (calF θ n)))) (hH : rootsEq (calF θ n) ⟨t, h, n⟩ 0 H) (hD : Does P f as H res H')
    (hM : ∀ (v : Value) (w : World), (method (P.types.size + Made.depth) Ty v name).run P w = .ok (f, v) w) (hE : entB P f = true)
    (hk : H.length = θ.length) (hθ : nodupB θ = true) (hm : θ.all (fun t => Nat.blt t n) = true) (hp : res.plain) (hp' : plainH H')
    (hlt : ltA H.length as = true) (hltH : allG H.length H = true) (hltr : res.lt H'.length = true) (hltH' : allG H'.length H' = true) :
    Acts P g ⟨dst, .call { callee := .invoke x name, args := xs.toArray, argTypes := Ts }, ty, pos, after, guard⟩ ⟨t, h, n⟩ (res.ren (calF θ n)) θ (upOf (calF θ n) 0 H') :=
  a_invk hD hc hM hE ha hH hk hθ hm (rest_ok n θ) (.inr ⟨hp, hp'⟩) hlt hltH hltr hltH' rfl rfl
end
/-! Drawn regions. -/
def offK (n : Nat) : List (List Nat × List Nat) → Keys
  | [] => []
  | (l, c) :: r => (l.map (n + ·), c) :: offK n r
def offL (n : Nat) : List (Bool × Nat) → List Nat
  | [] => []
  | (true, k) :: r => (n + k) :: offL n r
  | (false, k) :: r => k :: offL n r
def upInB (l : List Nat) : List (Nat × GB) → Bool
  | [] => true
  | (i, _) :: r => memB i l && upInB l r
theorem upInB_ok {l : List Nat} : ∀ {up : List (Nat × GB)}, upInB l up = true → upIn l up
  | [], _ => trivial
  | (i, _) :: r, h => by
    simp only [upInB, Bool.and_eq_true] at h
    exact ⟨memB_iff.1 h.1, upInB_ok h.2⟩
theorem upIn_all : ∀ {up : List (Nat × GB)} {l : List Nat}, (∀ x ∈ up, x.1 ∈ l) → upIn l up
  | [], _, _ => trivial
  | x :: r, l, h => ⟨h x (by simp), upIn_all fun y hy => h y (by simp [hy])⟩
theorem upIn_eq {l : List Nat} {up : List (Nat × GB)} (h : up.map (·.1) = l) : upIn l up := by
  subst h
  exact upIn_all fun x hx => List.mem_map_of_mem hx
section
variable {P : Program} {g : Gh} {bf : List (List Nat)} {kk : Keys} {ops : List Oper} {Q : Exit → St → Prop} {l : List Oper} {rs : List Rs} {t : List (Nat × SV)} {h : List (Nat × GB)} {n n' : Nat}
theorem g_drN {id : Nat} (hm : P.follows .mixedOrders = true) (bf : List (List Nat)) (off : List (List Nat × List Nat)) (k : Nat) {ops : List Oper}
    (hd : DR P g bf (offK n off) ops ⟨t, h, n⟩ (n + k) Q ops []) (hbf : befOk bf 0 ops = true) (hin : indepOk bf (offK n off) ops 0 ops = true) (hnw : newOk n (n + k) (offK n off) = true) : GWp P g (.region id ops.toArray true) ⟨t, h, n⟩ Q := g_dr hm bf (offK n off) (n + k) hbf hin hnw hd
end
section
variable {P : Program} {g : Gh} {bf : List (List Nat)} {off : List (List Nat × List Nat)} {ops : List Oper} {t : List (Nat × SV)} {hp : List (Nat × GB)} {n n' : Nat} {Q : Exit → St → Prop} {l : List Oper} {rs : List Rs}
theorem d_uN {i : Nat} {fs : List Bool} {u : List Nat} {o : List (Bool × Nat)} {dst : Option Nat} {op : Op} {ty : TypeId} {pos : String} {after : Array Edge} {sv : SV} {ch : List Nat} {up : List (Nat × GB)} (ha : Acts P g ⟨dst, op, ty, pos, after, none⟩ (visSt ⟨t, hp, n⟩ rs fs u (offL n o)) sv ch up)
    (hi : rs.length = i) (hf : flags (fun k => memB k (bf.getD i [])) i = fs) (hu : unordD bf i 0 ops = u) (hk : unordK bf (offK n off) i 0 ops = offL n o) (hd : ∀ d, dst = some d → d < g.n) (hc : (offK n off).ck i = ch) (hup : upInB ((offK n off).nw i ++ (offK n off).ck i) up = true)
    (h : DR P g bf (offK n off) ops ⟨t, hp, n⟩ n' Q l (⟨dst, sv, ch, up⟩ :: rs)) : DR P g bf (offK n off) ops ⟨t, hp, n⟩ n' Q (⟨dst, op, ty, pos, after, none⟩ :: l) rs := d_u ha hi hf hu hk hd hc (upInB_ok hup) h
theorem d_uE {i : Nat} {fs : List Bool} {u : List Nat} {o : List (Bool × Nat)} {dst : Option Nat} {op : Op} {ty : TypeId} {pos : String} {after : Array Edge} {sv : SV} {ch : List Nat} {up : List (Nat × GB)} (ha : Acts P g ⟨dst, op, ty, pos, after, none⟩ (visSt ⟨t, hp, n⟩ rs fs u (offL n o)) sv ch up)
    (hi : rs.length = i) (hf : flags (fun k => memB k (bf.getD i [])) i = fs) (hu : unordD bf i 0 ops = u) (hk : unordK bf (offK n off) i 0 ops = offL n o) (hd : ∀ d, dst = some d → d < g.n) (hc : (offK n off).ck i = ch) (hup : up.map (·.1) = (offK n off).nw i ++ (offK n off).ck i)
    (h : DR P g bf (offK n off) ops ⟨t, hp, n⟩ n' Q l (⟨dst, sv, ch, up⟩ :: rs)) : DR P g bf (offK n off) ops ⟨t, hp, n⟩ n' Q (⟨dst, op, ty, pos, after, none⟩ :: l) rs := d_u ha hi hf hu hk hd hc (upIn_eq hup) h
theorem d_pN {i : Nat} {fs : List Bool} {u : List Nat} {o : List (Bool × Nat)} {d : Nat} {op : Op} {ty : TypeId} {pos : String} {after : Array Edge} {sv : SV} (ha : Acts P g ⟨some d, op, ty, pos, after, none⟩ (visSt ⟨t, hp, n⟩ rs fs u (offL n o)) sv [] [])
    (hi : rs.length = i) (hf : flags (fun k => memB k (bf.getD i [])) i = fs) (hu : unordD bf i 0 ops = u) (hk : unordK bf (offK n off) i 0 ops = offL n o) (hd : Nat.blt d g.n = true) (hc : (offK n off).ck i = [])
    (h : DR P g bf (offK n off) ops ⟨t, hp, n⟩ n' Q l (⟨some d, sv, [], []⟩ :: rs)) : DR P g bf (offK n off) ops ⟨t, hp, n⟩ n' Q (⟨some d, op, ty, pos, after, none⟩ :: l) rs := d_p ha hi hf hu hk hd hc h
theorem d_bN {i : Nat} {fs : List Bool} {u : List Nat} {o : List (Bool × Nat)} {d : Nat} {op : Op} {ty : TypeId} {pos : String} {after : Array Edge} {b : Bool} (ha : Acts P g ⟨some d, op, ty, pos, after, none⟩ (visSt ⟨t, hp, n⟩ rs fs u (offL n o)) (.one (boo b)) [] [])
    (hi : rs.length = i) (hf : flags (fun k => memB k (bf.getD i [])) i = fs) (hu : unordD bf i 0 ops = u) (hk : unordK bf (offK n off) i 0 ops = offL n o) (hd : Nat.blt d g.n = true) (hc : (offK n off).ck i = [])
    (ht : b = true → DR P g bf (offK n off) ops ⟨t, hp, n⟩ n' Q l (⟨some d, .one (boo true), [], []⟩ :: rs)) (hff : b = false → DR P g bf (offK n off) ops ⟨t, hp, n⟩ n' Q l (⟨some d, .one (boo false), [], []⟩ :: rs)) : DR P g bf (offK n off) ops ⟨t, hp, n⟩ n' Q (⟨some d, op, ty, pos, after, none⟩ :: l) rs := d_b ha hi hf hu hk hd hc ht hff
theorem d_uyN {i j d' : Nat} {fs : List Bool} {u : List Nat} {o : List (Bool × Nat)} {b : Bool} {dst : Option Nat} {op : Op} {ty : TypeId} {pos : String} {after : Array Edge} {sv : SV} {ch : List Nat} {up : List (Nat × GB)} (hj : ((ops.toArray)[j]?).bind (·.dst) = some d') (hb : lkS (visSt ⟨t, hp, n⟩ rs fs u (offL n o)).t d' = .one (boo b)) (ha : Acts P g ⟨dst, op, ty, pos, after, some (j, b)⟩ (visSt ⟨t, hp, n⟩ rs fs u (offL n o)) sv ch up)
    (hi : rs.length = i) (hf : flags (fun k => memB k (bf.getD i [])) i = fs) (hu : unordD bf i 0 ops = u) (hk : unordK bf (offK n off) i 0 ops = offL n o) (hdd : Nat.blt d' g.n = true) (hd : ∀ d, dst = some d → d < g.n) (hc : (offK n off).ck i = ch) (hup : upInB ((offK n off).nw i ++ (offK n off).ck i) up = true)
    (h : DR P g bf (offK n off) ops ⟨t, hp, n⟩ n' Q l (⟨dst, sv, ch, up⟩ :: rs)) : DR P g bf (offK n off) ops ⟨t, hp, n⟩ n' Q (⟨dst, op, ty, pos, after, some (j, b)⟩ :: l) rs := d_uy hj hb ha hi hf hu hk hdd hd hc (upInB_ok hup) h
theorem d_uyE {i j d' : Nat} {fs : List Bool} {u : List Nat} {o : List (Bool × Nat)} {b : Bool} {dst : Option Nat} {op : Op} {ty : TypeId} {pos : String} {after : Array Edge} {sv : SV} {ch : List Nat} {up : List (Nat × GB)} (hj : ((ops.toArray)[j]?).bind (·.dst) = some d') (hb : lkS (visSt ⟨t, hp, n⟩ rs fs u (offL n o)).t d' = .one (boo b)) (ha : Acts P g ⟨dst, op, ty, pos, after, some (j, b)⟩ (visSt ⟨t, hp, n⟩ rs fs u (offL n o)) sv ch up)
    (hi : rs.length = i) (hf : flags (fun k => memB k (bf.getD i [])) i = fs) (hu : unordD bf i 0 ops = u) (hk : unordK bf (offK n off) i 0 ops = offL n o) (hdd : Nat.blt d' g.n = true) (hd : ∀ d, dst = some d → d < g.n) (hc : (offK n off).ck i = ch) (hup : up.map (·.1) = (offK n off).nw i ++ (offK n off).ck i)
    (h : DR P g bf (offK n off) ops ⟨t, hp, n⟩ n' Q l (⟨dst, sv, ch, up⟩ :: rs)) : DR P g bf (offK n off) ops ⟨t, hp, n⟩ n' Q (⟨dst, op, ty, pos, after, some (j, b)⟩ :: l) rs := d_uy hj hb ha hi hf hu hk hdd hd hc (upIn_eq hup) h
theorem d_pyN {i j d' : Nat} {fs : List Bool} {u : List Nat} {o : List (Bool × Nat)} {b : Bool} {d : Nat} {op : Op} {ty : TypeId} {pos : String} {after : Array Edge} {sv : SV} (hj : ((ops.toArray)[j]?).bind (·.dst) = some d') (hb : lkS (visSt ⟨t, hp, n⟩ rs fs u (offL n o)).t d' = .one (boo b)) (ha : Acts P g ⟨some d, op, ty, pos, after, some (j, b)⟩ (visSt ⟨t, hp, n⟩ rs fs u (offL n o)) sv [] [])
    (hi : rs.length = i) (hf : flags (fun k => memB k (bf.getD i [])) i = fs) (hu : unordD bf i 0 ops = u) (hk : unordK bf (offK n off) i 0 ops = offL n o) (hdd : Nat.blt d' g.n = true) (hd : Nat.blt d g.n = true) (hc : (offK n off).ck i = [])
    (h : DR P g bf (offK n off) ops ⟨t, hp, n⟩ n' Q l (⟨some d, sv, [], []⟩ :: rs)) : DR P g bf (offK n off) ops ⟨t, hp, n⟩ n' Q (⟨some d, op, ty, pos, after, some (j, b)⟩ :: l) rs := d_py hj hb ha hi hf hu hk hdd hd hc h
theorem d_byN {i j d' : Nat} {fs : List Bool} {u : List Nat} {o : List (Bool × Nat)} {b b0 : Bool} {d : Nat} {op : Op} {ty : TypeId} {pos : String} {after : Array Edge} (hj : ((ops.toArray)[j]?).bind (·.dst) = some d') (hb : lkS (visSt ⟨t, hp, n⟩ rs fs u (offL n o)).t d' = .one (boo b0)) (ha : Acts P g ⟨some d, op, ty, pos, after, some (j, b0)⟩ (visSt ⟨t, hp, n⟩ rs fs u (offL n o)) (.one (boo b)) [] [])
    (hi : rs.length = i) (hf : flags (fun k => memB k (bf.getD i [])) i = fs) (hu : unordD bf i 0 ops = u) (hk : unordK bf (offK n off) i 0 ops = offL n o) (hdd : Nat.blt d' g.n = true) (hd : Nat.blt d g.n = true) (hc : (offK n off).ck i = [])
    (ht : b = true → DR P g bf (offK n off) ops ⟨t, hp, n⟩ n' Q l (⟨some d, .one (boo true), [], []⟩ :: rs)) (hff : b = false → DR P g bf (offK n off) ops ⟨t, hp, n⟩ n' Q l (⟨some d, .one (boo false), [], []⟩ :: rs)) : DR P g bf (offK n off) ops ⟨t, hp, n⟩ n' Q (⟨some d, op, ty, pos, after, some (j, b0)⟩ :: l) rs := d_by hj hb ha hi hf hu hk hdd hd hc ht hff
theorem d_noN {i j d' : Nat} {fs : List Bool} {u : List Nat} {o : List (Bool × Nat)} {b : Bool} {dst : Option Nat} {op : Op} {ty : TypeId} {pos : String} {after : Array Edge} (hj : ((ops.toArray)[j]?).bind (·.dst) = some d') (hb : skips b (lkS (visSt ⟨t, hp, n⟩ rs fs u (offL n o)).t d') = true)
    (hi : rs.length = i) (hf : flags (fun k => memB k (bf.getD i [])) i = fs) (hu : unordD bf i 0 ops = u) (hk : unordK bf (offK n off) i 0 ops = offL n o) (hdd : Nat.blt d' g.n = true) (hd : ∀ d, dst = some d → d < g.n) (hc : (offK n off).ck i = [])
    (h : DR P g bf (offK n off) ops ⟨t, hp, n⟩ n' Q l (⟨dst, .tup [], [], []⟩ :: rs)) : DR P g bf (offK n off) ops ⟨t, hp, n⟩ n' Q (⟨dst, op, ty, pos, after, some (j, b)⟩ :: l) rs := d_no hj hb hi hf hu hk hdd hd hc h
end
section
variable {P : Program} {g : Gh} {o : Oper} {t : List (Nat × SV)} {hp : List (Nat × GB)} {n : Nat} {rs : List Rs} {fs : List Bool} {u uk : List Nat} {gb : GB}
theorem atN (m : Nat) (h : ∀ i, Acts P g o (visSt ⟨t, hp, n⟩ rs fs u uk) (.one (.gv i)) [] [(i, gb)]) : Acts P g o (visSt ⟨t, hp, n⟩ rs fs u uk) (.one (.gv (n + m))) [] [(n + m, gb)] := h _
theorem atS (m : Nat) {i : Nat} (h : ∀ j, ¬ j = i → Acts P g o (visSt ⟨t, hp, n⟩ rs fs u uk) (.one (.gv j)) [i] [(j, gb), (i, .dead)]) (hne : ¬ n + m = i) : Acts P g o (visSt ⟨t, hp, n⟩ rs fs u uk) (.one (.gv (n + m))) [i] [(n + m, gb), (i, .dead)] := h _ hne
end
section
variable {P : Program} {g : Gh} {t : List (Nat × SV)} {h : List (Nat × GB)} {n : Nat} {Q : Exit → St → Prop} {ops : Array Oper} {l : List Oper}
theorem isnil_run {T e : TypeId} {w : World} {ad : Option Addr} {len cap : Nat} (hU : P.underlying T = some (.slice e)) : (Op.equal T (.slice ad len cap) (.slice none 0 0)).run P w = .ok ad.isNone w := by
  have key : ∀ d, (Op.equalIn (d + 1) T (.slice ad len cap) (.slice none 0 0)).run P w = .ok ad.isNone w := by
    intro d
    cases ad with
    | none => simp [Op.equalIn, run_underlying hU]
    | some a => simp [Op.equalIn, run_underlying hU]
  exact key 9999
/-- Is a slice nil? It then has no elements. -/
theorem o_isnil {α : Type} {E : Enc α} {xs : List α} {x : Operand} {c : C} {d zz T U e : Nat} {ty : TypeId} {pos : String} {after : Array Edge} (hc : opd ⟨t, h, n⟩ x = .one c) (hs : slv ⟨t, h, n⟩ c = some (zz, rows E xs)) (hU : P.underlying T = some (.slice e)) (hd : Nat.blt d g.n = true) (hz : E.z = zz)
    (hk : ∀ b, (b = true → xs = []) → GOps P g ops l ⟨(d, .one (boo b)) :: t, h, n⟩ Q) : GOps P g ops (⟨some d, .binOp .eql T x (.const (.slice none 0 0)) U, ty, pos, after, none⟩ :: l) ⟨t, h, n⟩ Q := by
  subst hz
  refine ⟨fun a w S ρ F hr hf => ?_⟩
  obtain ⟨ow, G, hrep⟩ := hr.slv (opd_one hr hc) hs
  have hrep' := hrep
  obtain ⟨ad, len, cap, hv, h1, h2, h3, h4⟩ := sl_len hrep
  have hx : ad = none → xs = [] := by
    rintro rfl
    rw [hv] at hrep'
    simp only [Rep] at hrep'
    obtain ⟨a', l', c', e', h5, h6, h7, h8⟩ := hrep'
    simp only [Value.slice.injEq] at e'
    obtain ⟨rfl, rfl, rfl⟩ := e'
    rcases h8 with ⟨_, h8⟩ | ⟨b, off, vs, G', h8, _⟩
    · rw [rows_len] at h1
      have : len = 0 := by omega
      rw [this, Nat.zero_mul] at h1
      exact List.eq_nil_of_length_eq_zero ((Nat.mul_eq_zero.1 h1).resolve_right (by omega))
    · cases h8
  refine wpList_plain rfl fun K hK => ?_
  unfold Oper.wp
  have hrun : (execOp a.eval ⟨some d, .binOp .eql T x (.const (.slice none 0 0)) U, ty, pos, after, none⟩).run P w = .ok (.value (.bool ad.isNone)) w := by
    show (do pure (.value (← (do eqGuard .eql T x (.const (.slice none 0 0)) (a.eval x) (.slice none 0 0); binOp .eql T (a.eval x) (.slice none 0 0)))) : Sem Next).run P w = _
    rw [hv]
    simp [eqGuard, binOp, isnil_run hU]
  rw [hrun, Oper.upon_value]
  refine hK _ _ ((hk ad.isNone (fun e => hx (by simpa using e))).run _ _ _ _ _ (hr.done (n := n) (Done.nil w S ρ F) (dst := some d) (sv := .one (boo ad.isNone)) (fun d' e => by cases e; exact blt_lt hd) ⟨rfl, rfl⟩) (fun i hi => hf i hi))
end
/-! Loops. -/
inductive Pick : List Nat → List (Nat × SV) → List (Nat × SV) → Prop where
  | nil {t : List (Nat × SV)} : Pick [] t []
  | one {i : Nat} {l : List Nat} {t r : List (Nat × SV)} {c : C} (e : lkS t i = .one c) (h : Pick l t r) : Pick (i :: l) t ((i, .one c) :: r)
  | agg {i : Nat} {l : List Nat} {t r : List (Nat × SV)} {c : List C} (e : lkS t i = .agg c) (h : Pick l t r) : Pick (i :: l) t ((i, .agg c) :: r)
  | tup {i : Nat} {l : List Nat} {t r : List (Nat × SV)} {c : List (Bool × List C)} (e : lkS t i = .tup c) (h : Pick l t r) : Pick (i :: l) t ((i, .tup c) :: r)
  | any {i : Nat} {l : List Nat} {t r : List (Nat × SV)} (h : Pick l t r) : Pick (i :: l) t r
/-- The roots but those in `ex`. -/
inductive PickH (ex : List Nat) (t : List (Nat × GB)) : Nat → List (Nat × GB) → Prop where
  | zero : PickH ex t 0 []
  | row {i z : Nat} {xs : List D} {r : List (Nat × GB)} (hx : memB i ex = false) (e : lkG t i = .row z xs) (h : PickH ex t i r) : PickH ex t (i + 1) ((i, .row z xs) :: r)
  | sh {i z : Nat} {xs : List D} {r : List (Nat × GB)} (hx : memB i ex = false) (e : lkG t i = .sh z xs) (h : PickH ex t i r) : PickH ex t (i + 1) ((i, .sh z xs) :: r)
  | bx {i : Nat} {cs : List C} {r : List (Nat × GB)} (hx : memB i ex = false) (e : lkG t i = .bx cs) (h : PickH ex t i r) : PickH ex t (i + 1) ((i, .bx cs) :: r)
  | mp {i : Nat} {kv : List (Value × Value)} {r : List (Nat × GB)} (hx : memB i ex = false) (e : lkG t i = .mp kv) (h : PickH ex t i r) : PickH ex t (i + 1) ((i, .mp kv) :: r)
  | isv {i : Nat} {v : Value} {r : List (Nat × GB)} (hx : memB i ex = false) (e : lkG t i = .isv v) (h : PickH ex t i r) : PickH ex t (i + 1) ((i, .isv v) :: r)
  | out {i : Nat} {r : List (Nat × GB)} (h : PickH ex t i r) : PickH ex t (i + 1) r
section
variable {P : Program} {g : Gh} {Q : Exit → St → Prop} {t t0 : List (Nat × SV)} {h h0 : List (Nat × GB)} {n : Nat}
theorem g_loop_id {c : Code} {st : St} (h : GWp P g (.loop c) st Q) : GWp P g (.loop c) st Q := h
/-- A loop: `ut`, `uh`: the slots and roots that its state tells by the datum; all else (that is live) is as it was. -/
theorem g_loopU {α : Type} (live ex : List Nat) (I : α → Prop) (ut : α → List (Nat × SV)) (uh : α → List (Nat × GB)) (μ : α → Nat) (x0 : α) (θ : List Nat) {c : Code} (hp : Pick live t t0) (hq : PickH ex h n h0) (hin : StLe g.k θ ⟨t, h, n⟩ ⟨ut x0 ++ t0, uh x0 ++ h0, n⟩) (hI : I x0)
    (hr : ∀ x, I x → GWp P g c ⟨ut x ++ t0, uh x ++ h0, n⟩ (qLoop g.k I (fun x => ⟨ut x ++ t0, uh x ++ h0, n⟩) μ (μ x) Q)) : GWp P g (.loop c) ⟨t, h, n⟩ Q :=
  g_loop I (fun x => ⟨ut x ++ t0, uh x ++ h0, n⟩) μ x0 θ hI hin hr
/-- A cut behind a piece of code: what it leaves is told anew. -/
theorem g_cutAt {α : Type} (live ex : List Nat) (I : α → Prop) (ut : α → List (Nat × SV)) (uh : α → List (Nat × GB)) {c : Code} (hp : Pick live t t0) (hq : PickH ex h n h0)
    (hc : GWp P g c ⟨t, h, n⟩ (qCut g.k I (fun x => ⟨ut x ++ t0, uh x ++ h0, n⟩) Q)) (hk : ∀ x, I x → Q .normal ⟨ut x ++ t0, uh x ++ h0, n⟩) : GWp P g c ⟨t, h, n⟩ Q := ⟨fun a w S ρ F hr hf =>
  wp_mono (hc.run a w S ρ F hr hf) fun e a w ⟨st, S, ρ, F, h1, h2, h3⟩ => by
    cases h3 with
    | here x θ hI hl =>
      obtain ⟨ρ', F', h4, h5⟩ := hl.rel h1
      exact ⟨_, _, ρ', F', h4, h5, hk x hI⟩
    | out hne h3 => exact ⟨st, S, ρ, F, h1, h2, h3⟩⟩
theorem q_here {α : Type} {k : Nat} {I : α → Prop} {T : α → St} {st : St} (x : α) (θ : List Nat) (hl : StLe k θ st (T x)) (hI : I x) : qCut k I T Q .normal st := .here x θ hI hl
theorem q_again {α : Type} {k : Nat} {I : α → Prop} {T : α → St} {μ : α → Nat} {m : Nat} {st : St} (x : α) (θ : List Nat) (hl : StLe k θ st (T x)) (hI : I x) (hm : μ x < m) : qLoop k I T μ m Q .normal st := .again x θ hI hm hl
theorem stle {k m : Nat} {θ : List Nat} {st : St} {t' : List (Nat × SV)} {h' : List (Nat × GB)} (h1 : leT (thF θ) st t') (h2 : leH (thF θ) m st h') (hn : m = θ.length) (hpin : pinB k θ = true) (nd : nodupB θ = true) (lt : allT m t' = true) (lh : allH m h' = true) : StLe k θ st ⟨t', h', m⟩ := ⟨hpin, nd, hn, h1, h2, lt, lh⟩
end
/-! What is known, told in another way. -/
def Conv (g : Gh) (st st' : St) : Prop := ∀ a w S ρ F, Rel g st a w S ρ F → Fresh st ρ → ∃ S' ρ' F', Rel g st' a w S' ρ' F' ∧ Fresh st' ρ'
theorem g_conv {P : Program} {g : Gh} {st st' : St} {c : Code} {Q : Exit → St → Prop} (h : Conv g st st') (hk : GWp P g c st' Q) : GWp P g c st Q := ⟨fun a w S ρ F hr hf =>
  let ⟨S', ρ', F', h1, h2⟩ := h a w S ρ F hr hf; hk.run a w S' ρ' F' h1 h2⟩
theorem o_conv {P : Program} {g : Gh} {st st' : St} {ops : Array Oper} {l : List Oper} {Q : Exit → St → Prop} (h : Conv g st st') (hk : GOps P g ops l st' Q) : GOps P g ops l st Q := ⟨fun a w S ρ F hr hf =>
  let ⟨S', ρ', F', h1, h2⟩ := h a w S ρ F hr hf; hk.run a w S' ρ' F' h1 h2⟩
abbrev nilC : C := .d (.sc (.slice none 0 0))
theorem rep_nil {w : World} {S F : Foot} {z : Nat} (hz : 0 < z) : Rep w S (.sl true z []) (.slice none 0 0) F := by
  simp only [Rep]
  exact ⟨none, 0, 0, rfl, by simp, hz, Nat.le_refl _, .inl ⟨rfl, fun _ => rfl⟩⟩
section
variable {g : Gh} {t : List (Nat × SV)} {h : List (Nat × GB)} {n : Nat} {a : Act} {w : World} {S : Foot} {ρ : Env} {F : Nat → Foot}
/-- nil as an own slice without elements. -/
theorem Rel.nilRoot {z : Nat} (hz : 0 < z) (hr : Rel g ⟨t, h, n⟩ a w S ρ F) (hf : Fresh ⟨t, h, n⟩ ρ) :
    ∃ ρ' F', Rel g ⟨t, (n, .row z []) :: h, n + 1⟩ a w S ρ' F' ∧ Fresh ⟨t, (n, .row z []) :: h, n + 1⟩ ρ' ∧ ρ' n = some (.slice none 0 0) := by
  have hn : ρ n = none := hf n (Nat.le_refl n)
  have hle : Env.le ρ (fun j => if j = n then some (.slice none 0 0) else ρ j) := fun i u hi => by
    have : i ≠ n := fun e => by rw [e, hn] at hi; cases hi
    simp only [this, if_false]; exact hi
  refine ⟨fun j => if j = n then some (.slice none 0 0) else ρ j, fun j => if j = n then no else F j, ⟨hr.size, hr.defers, fun j => (hr.slot j).keep (Agree.refl _ _) (le_refl _) hle, fun j => ?_, fun j k hjk => ?_, fun j => ?_, fun j => ?_, fun j b o hb => ?_, hr.exS, hr.old, hr.inS, hr.newS, fun i u hi hu => hle _ _ (hr.pin i u hi hu)⟩, fun i hi => ?_, by simp⟩
  · simp only [lkG]
    by_cases hj : j = n
    · subst hj
      have hb : Nat.beq j j = true := by simp
      simp only [hb, cond_true, if_true]
      exact .inr ⟨_, rfl, rep_nil hz⟩
    · simp only [beq_ne hj, cond_false, if_neg hj]
      rcases hr.root j with h0 | ⟨u, r1, r2⟩
      · exact .inl h0
      · exact .inr ⟨u, r1, r2.keep (Agree.refl _ _) (Agree.refl _ _) (le_refl _) hle (le_refl _)⟩
  · by_cases hj : j = n
    · simp only [hj, if_true]; exact no_dis _
    · by_cases hk : k = n
      · simp only [hk, if_true]; exact dis_no _
      · simp only [if_neg hj, if_neg hk]; exact hr.dis j k hjk
  · by_cases hj : j = n
    · simp only [hj, if_true]; exact no_dis _
    · simp only [if_neg hj]; exact hr.disS j
  · by_cases hj : j = n
    · simp only [hj, if_true]; exact no_le _
    · simp only [if_neg hj]; exact hr.own j
  · by_cases hj : j = n
    · simp only [hj, if_true] at hb; exact hb.elim
    · simp only [if_neg hj] at hb; exact hr.ex j b o hb
  · have hi' : n + 1 ≤ i := hi
    have : i ≠ n := by omega
    simp only [this, if_false]
    exact hf i (by show n ≤ i; omega)
theorem lkS_cons (d : Nat) (sv : SV) (t : List (Nat × SV)) (i : Nat) : lkS ((d, sv) :: t) i = if i = d then sv else lkS t i := by
  simp only [lkS]
  by_cases hi : i = d
  · subst hi; simp
  · simp [beq_ne hi, hi]
theorem Rel.setSlot {st : St} {d : Nat} {sv : SV} (hr : Rel g st a w S ρ F) (hv : RepS w S ρ sv (a.tmps.getD d undef)) : Rel g ⟨(d, sv) :: st.t, st.h, st.n⟩ a w S ρ F :=
  ⟨hr.size, hr.defers, fun i => by rw [lkS_cons]; rcases Decidable.em (i = d) with e | e <;> simp only [e, if_true, if_false] <;> first | exact hv | exact hr.slot i, hr.root, hr.dis, hr.disS, hr.own, hr.ex, hr.exS, hr.old, hr.inS, hr.newS, hr.pin⟩
theorem t_nil1 {d z : Nat} (hd : lkS t d = .one nilC) (hz : 0 < z) : Conv g ⟨t, h, n⟩ ⟨(d, .one (.gv n)) :: t, (n, .row z []) :: h, n + 1⟩ := by
  intro a w S ρ F hr hf
  obtain ⟨ρ', F', h1, h2, h3⟩ := hr.nilRoot hz hf
  have hs := h1.slot d
  rw [hd] at hs
  have e : a.tmps.getD d undef = .slice none 0 0 := hs.1
  exact ⟨S, ρ', F', h1.setSlot (d := d) (sv := .one (.gv n)) (by rw [e]; exact ⟨h3, rfl⟩), h2⟩
theorem repCs_nil {w : World} {S : Foot} {ρ : Env} {n : Nat} (hn : ρ n = some (.slice none 0 0)) : ∀ {cs : List C} {vs : List Value} {k : Nat}, RepCs w S ρ cs vs → cs[k]? = some nilC → RepCs w S ρ (cs.set k (.gv n)) vs
  | [], _, _, _, h => by simp at h
  | c0 :: cs, vs, 0, h, hk => by
    simp only [RepCs] at h
    obtain ⟨v, us, rfl, h1, h2⟩ := h
    simp at hk
    subst hk
    exact ⟨v, us, rfl, ⟨by rw [hn, show v = .slice none 0 0 from h1.1], by rw [show v = .slice none 0 0 from h1.1]; rfl⟩, h2⟩
  | c0 :: cs, vs, k + 1, h, hk => by
    simp only [RepCs] at h
    obtain ⟨v, us, rfl, h1, h2⟩ := h
    exact ⟨v, us, rfl, h1, repCs_nil hn h2 (by simpa using hk)⟩
theorem t_nilA {d k z : Nat} {cs : List C} (hd : lkS t d = .agg cs) (hk : cs[k]? = some nilC) (hz : 0 < z) : Conv g ⟨t, h, n⟩ ⟨(d, .agg (cs.set k (.gv n))) :: t, (n, .row z []) :: h, n + 1⟩ := by
  intro a w S ρ F hr hf
  obtain ⟨ρ', F', h1, h2, h3⟩ := hr.nilRoot hz hf
  have hs := h1.slot d
  rw [hd] at hs
  obtain ⟨vs, e1, e2⟩ := hs
  exact ⟨S, ρ', F', h1.setSlot (d := d) (sv := .agg (cs.set k (.gv n))) ⟨vs, e1, repCs_nil h3 e2 hk⟩, h2⟩
theorem t_nilB {i k z : Nat} {cs : List C} (hd : lkG h i = .bx cs) (hi : Nat.blt i n = true) (hk : cs[k]? = some nilC) (hz : 0 < z) : Conv g ⟨t, h, n⟩ ⟨t, (i, .bx (cs.set k (.gv n))) :: (n, .row z []) :: h, n + 1⟩ := by
  intro a w S ρ F hr hf
  obtain ⟨ρ', F', h1, h2, h3⟩ := hr.nilRoot hz hf
  have hin : i ≠ n := by have := blt_lt hi; omega
  refine ⟨S, ρ', F', ⟨h1.size, h1.defers, h1.slot, fun j => ?_, h1.dis, h1.disS, h1.own, h1.ex, h1.exS, h1.old, h1.inS, h1.newS, h1.pin⟩, h2⟩
  have hj0 := h1.root j
  by_cases hj : j = i
  · subst hj
    have hb : Nat.beq j j = true := by simp
    have hb' := beq_ne hin
    simp only [lkG, hb, cond_true]
    simp only [lkG, hb', cond_false] at hj0
    rw [hd] at hj0
    rcases hj0 with h0 | ⟨u, r1, r2⟩
    · cases h0
    · refine .inr ⟨u, r1, ?_⟩
      simp only [RepG] at r2 ⊢
      obtain ⟨b, off, vs, q1, q2, q3, q4, q5⟩ := r2
      exact ⟨b, off, vs, q1, q2, repCs_nil h3 q3 hk, by simpa using q4, by simpa using q5⟩
  · have hb := beq_ne hj
    simp only [lkG, hb, cond_false]
    simp only [lkG] at hj0
    exact hj0
end
/-! Ends. -/
section
variable {P : Program} {st : St}
theorem ends_id {fn : Func} {k : Nat} {res : SV} {H' : List GB} {e : Exit} (h : Ends P fn k res H' e st) : Ends P fn k res H' e st := h
theorem ends_m {fn : Func} {k : Nat} {l : List (Bool × List C)} {res : SV} {H' : List GB} {e : Exit} (ids : List Nat) (he : e = .normal ∨ e = .ret) (h1 : RessOk P st fn.results.toList l) (h2 : SVLe st.h [] (resSV l) (res.ren (resF k ids))) (h3 : rootsLe (resF k ids) st 0 H') (hl : H'.length = k + ids.length) (nd : nodupB (liveIds (resF k ids) 0 H') = true) (lt : res.lt H'.length = true) (lh : allG H'.length H' = true) : Ends P fn k res H' e st :=
  ⟨he, l, ids, h1, h2, h3, hl, nd, lt, lh⟩
theorem cle_i {hh : List (Nat × GB)} {ld : List Nat} {b b' : Int} (e : b = b') : CLe hh ld (int b) (int b') := by subst e; exact .refl
theorem cle_b {hh : List (Nat × GB)} {ld : List Nat} {b b' : Bool} (e : b = b') : CLe hh ld (boo b) (boo b') := by subst e; exact .refl
theorem cle_eq {hh : List (Nat × GB)} {ld : List Nat} {b b' : C} (e : b = b') : CLe hh ld b b' := by subst e; exact .refl
theorem bx_eq {gb gb' : GB} {cs cs' : List C} (e1 : gb = .bx cs) (e2 : gb' = .bx cs') (e : cs = cs') : gb = gb' := by subst e1 e2 e; rfl
theorem row_eq {α : Type} {E : Enc α} {z : Nat} {l l' : List α} (e : l = l') : GB.row z (rows E l) = GB.row z (rows E l') := by subst e; rfl
end
end Go.Proofs.Ytncccjpbaeaafaa
