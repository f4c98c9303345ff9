/- Parts of the proof (6 of 19). -/
import Derived.KernelRfl
import Derived.Test.YtegpggobfdcafaaGreatProg
import Derived.Test.YtegpggobfdcafaaGreatQ5
section
namespace Go.Proofs.YtegpggobfdcafaaGreat
open Go
def tabF : List (Nat × Nat × Nat) := [(24,2,2),(27,1,1),(27,2,2),(24,0,0),(34,0,0),(24,1,1),(34,1,1),(34,2,2),(27,0,0),(36,0,0),(36,1,1),(36,2,2),(80,1,1),(80,0,0),(49,1,1),(49,2,2),(49,0,0),(52,0,0),(52,1,1),(52,2,2),(133,0,0),(131,1,1),(129,2,2),(142,1,1),(142,0,0),(142,2,2),(166,1,3),(166,2,4),(166,3,5),(95,1,1),(95,0,0),(113,3,3),(113,4,4),(113,2,2),(113,1,1),(115,1,1),(113,5,5),(115,2,7),(115,0,0),(205,3,3),(205,1,1),(205,2,2),(205,4,4),(129,1,1),(129,0,0),(148,0,0),(148,1,1),(148,2,2),(223,0,0),(226,0,0),(166,0,0),(162,1,1),(162,0,0),(162,2,2),(174,1,1),(174,0,0),(174,2,2),(174,3,3),(113,0,0),(115,3,8),(205,0,0),(223,1,1),(295,2,2),(133,2,3),(131,0,0),(133,1,2)]
def tabC : List Nat := [1,2,3,4,5,9,22,25,32,41,47,64,65,75,78,83,84,89,90,99,103,107,123,126,134,135,150,151,153,155,160,176,185,191,203,206,221,224,231,233,242,271,274,284,285,287,293]
def tabA : List (Nat × Nat) := [(24,3),(27,3),(34,3),(36,3),(49,3),(52,3),(80,2),(95,2),(113,6),(115,11),(129,5),(131,2),(133,4),(142,3),(148,3),(162,3),(166,6),(174,4),(205,5),(223,2),(226,1),(295,3)]
def tabS : List (Nat × Nat) := [(22,3),(25,1),(32,3),(41,1),(47,1),(75,4),(126,5),(151,1),(203,3),(206,1),(221,1),(231,1),(271,3),(274,1),(285,1)]
def tabP : List (Nat × Nat × Nat) := [(22,3,24),(25,1,8),(32,3,24),(41,1,1),(47,1,24),(75,4,32),(126,5,72),(151,1,8),(203,3,56),(206,1,8),(221,1,8),(231,1,8),(271,3,24),(274,1,24),(285,1,8)]
def tabE : List (Nat × Nat) := [(22,148),(25,2),(32,142),(41,5),(47,25),(75,174),(126,129),(151,224),(203,36),(206,3),(221,1),(231,233),(271,295),(274,271),(285,284)]
def tabN : List (Nat × Nat) := [(1,1),(2,1),(3,1),(4,1),(5,1),(9,1),(22,1),(24,3),(25,1),(27,3),(32,1),(34,3),(36,3),(41,1),(47,1),(49,3),(52,3),(64,1),(65,1),(75,1),(78,1),(80,2),(83,1),(84,1),(89,1),(90,1),(95,2),(99,1),(103,1),(107,1),(113,6),(115,11),(123,1),(126,1),(129,5),(131,2),(133,4),(134,1),(135,1),(142,3),(148,3),(150,1),(151,1),(153,1),(155,1),(160,1),(162,3),(166,6),(174,4),(176,1),(185,1),(191,1),(203,1),(205,5),(206,1),(221,1),(223,2),(224,1),(226,1),(231,1),(233,1),(242,1),(271,1),(274,1),(284,1),(285,1),(287,1),(293,1),(295,3)]
def tabZ : List (Nat × List Value) := [(1,[.nilFunc]),(2,[.int .i64 0]),(3,[.int .i64 0]),(4,[.bool false]),(5,[.int .u8 0]),(9,[.string .empty]),(22,[.slice none 0 0]),(24,[.int .i64 0,.int .i64 0,.slice none 0 0]),(25,[.slice none 0 0]),(27,[.int .i64 0,.slice none 0 0,.slice none 0 0]),(32,[.slice none 0 0]),(34,[.int .i64 0,.int .i64 0,.slice none 0 0]),(36,[.int .i64 0,.slice none 0 0,.slice none 0 0]),(41,[.slice none 0 0]),(47,[.slice none 0 0]),(49,[.int .i64 0,.slice none 0 0,.slice none 0 0]),(52,[.int .i64 0,.slice none 0 0,.slice none 0 0]),(64,[.pointer none]),(65,[.pointer none]),(75,[.slice none 0 0]),(78,[.pointer none]),(80,[.int .i64 0,.bool false]),(83,[.nilFunc]),(84,[.pointer none]),(89,[.nilFunc]),(90,[.pointer none]),(95,[.int .i64 0,.slice none 0 0]),(99,[.pointer none]),(103,[.nilFunc]),(107,[.pointer none]),(113,[.int .i64 0,.int .i64 0,.int .i64 0,.slice none 0 0,.slice none 0 0,.slice none 0 0]),(115,[.int .i64 0,.int .i64 0,.int .i64 0,.int .i64 0,.slice none 0 0,.slice none 0 0,.slice none 0 0,.slice none 0 0,.int .i64 0,.slice none 0 0,.slice none 0 0]),(123,[.pointer none]),(126,[.slice none 0 0]),(129,[.int .i64 0,.int .i64 0,.int .i64 0,.slice none 0 0,.slice none 0 0]),(131,[.slice none 0 0,.slice none 0 0]),(133,[.slice none 0 0,.slice none 0 0,.int .i64 0,.int .i64 0]),(134,[.nilFunc]),(135,[.map none]),(142,[.int .i64 0,.int .i64 0,.int .i64 0]),(148,[.int .i64 0,.int .i64 0,.int .i64 0]),(150,[.pointer none]),(151,[.slice none 0 0]),(153,[.nilFunc]),(155,[.nilIface]),(160,[.int .u64 0]),(162,[.slice none 0 0,.int .i64 0,.int .u64 0]),(166,[.int .i64 0,.int .i64 0,.slice none 0 0,.int .i64 0,.slice none 0 0,.slice none 0 0]),(174,[.int .i64 0,.int .i64 0,.int .i64 0,.int .i64 0]),(176,[.int .u64 0]),(185,[.pointer none]),(191,[.nilFunc]),(203,[.slice none 0 0]),(205,[.slice none 0 0,.slice none 0 0,.slice none 0 0,.bool false,.bool false]),(206,[.slice none 0 0]),(221,[.slice none 0 0]),(223,[.slice none 0 0,.slice none 0 0]),(224,[.pointer none]),(226,[.int .i64 0]),(231,[.slice none 0 0]),(233,[.nilFunc]),(242,[.nilFunc]),(271,[.slice none 0 0]),(274,[.slice none 0 0]),(284,[.nilFunc]),(285,[.slice none 0 0]),(287,[.int .u32 0]),(293,[.pointer none]),(295,[.int .i64 0,.int .i64 0,.int .i64 0])]
def tabU : List (Nat × List (Nat × Nat)) := [(24,[(0,1),(1,1),(2,1)]),(27,[(0,1),(1,1),(2,1)]),(34,[(0,1),(1,1),(2,1)]),(36,[(0,1),(1,1),(2,1)]),(49,[(0,1),(1,1),(2,1)]),(52,[(0,1),(1,1),(2,1)]),(80,[(0,1),(1,1)]),(95,[(0,1),(1,1)]),(113,[(0,1),(1,1),(2,1),(3,1),(4,1),(5,1)]),(115,[(0,1),(1,6),(7,1),(8,3)]),(129,[(0,1),(1,1),(2,3)]),(131,[(0,1),(1,1)]),(133,[(0,2),(2,1),(3,1)]),(142,[(0,1),(1,1),(2,1)]),(148,[(0,1),(1,1),(2,1)]),(162,[(0,1),(1,1),(2,1)]),(166,[(0,3),(3,1),(4,1),(5,1)]),(174,[(0,1),(1,1),(2,1),(3,1)]),(205,[(0,1),(1,1),(2,1),(3,1),(4,1)]),(223,[(0,1),(1,1)]),(226,[(0,1)]),(295,[(0,1),(1,1),(2,1)])]
def tabI : List Nat := [1,2,3,4,5,9,22,24,25,27,32,34,36,41,47,49,52,64,65,75,78,80,83,84,89,90,95,99,103,107,113,115,123,126,129,131,133,134,135,142,148,150,151,153,160,162,166,174,176,185,191,203,205,206,221,223,224,226,231,233,242,271,274,284,285,287,293,295]
def tabT : List Nat := [9]
def tabQ : List Nat := [2,3,4,5,6,7,8,9,10,11,12,13,14,15,16,17,18,19,20,21,22,23,24,25,26,27,28,29,30,31,32,33,34,35,36,37,38,39,40,41,42,43,44,45,46,47,48,49,50,51,52,53,54,55,56,57,58,59,60,61,62,63,64,65,66,67,68,69,70,71,72,73,74,75,76,77,78,79,80,81,82,83,84,85,86,87,88,89,90,91,92,93,94,95,96,97,98,99,100,101,102,103,104,105,106,107,108,109,110,111,112,113,114,115,116,117,118,119,120,121,122,123,124,125,126,127,128,129,130,131,132,133,134,135,136,137,138,139,140,141,142,143,144,145,146,147,148,149,150,151,152,153,154,155,156,157,158,159,160,161,162,163,164,165,166,167,168,169,170,171,172,173,174,175,176,177,178,179,180,181,182,183,184,185,186,187,188,189,190,191,192,193,194,195,196,197,198,199,200,201,202,203,204,205,206,207,208,209,210,211,212,213,214,215,216,217,218,219,220,221,222,223,224,225,226,227,228,229,230,231,232,233,234,235,236,237,238,239,240,241,257,258,259,260,261,262]
theorem okF : tabF.all (fun x => fieldB Tryz.prog x.1 x.2.1 x.2.2) = true := by kernel_rfl
theorem okC : tabC.all (fun x => cellB Tryz.prog x) = true := by kernel_rfl
theorem okA : tabA.all (fun x => aggB Tryz.prog x.1 x.2) = true := by kernel_rfl
theorem okS : tabS.all (fun x => sliceB Tryz.prog x.1 x.2) = true := by kernel_rfl
theorem okP : tabP.all (fun x => appB Tryz.prog x.1 x.2.1 x.2.2) = true := by kernel_rfl
theorem okE : tabE.all (fun x => elemB Tryz.prog x.1 x.2) = true := by kernel_rfl
theorem okN : tabN.all (fun x => sizeB Tryz.prog x.1 x.2) = true := by kernel_rfl
theorem okZ : allZ Tryz.prog tabZ := by repeat (first | exact trivial | refine And.intro (by kernel_rfl) ?_)
theorem okU : tabU.all (fun x => fieldsB Tryz.prog x.1 x.2) = true := by kernel_rfl
theorem okI : tabI.all (fun x => noIfc Tryz.prog x) = true := by kernel_rfl
theorem okT : tabT.all (fun x => strB Tryz.prog x) = true := by kernel_rfl
theorem okQ : tabQ.all (fun x => entB Tryz.prog x) = true := by kernel_rfl
theorem okM : Tryz.prog.follows .mixedOrders = true := by kernel_rfl
theorem fF {T f off : Nat} (h : lk3 tabF T f = some off) : fieldB Tryz.prog T f off = true := lk3_all okF h
theorem fC {T : Nat} (h : lk1 tabC T = true) : cellB Tryz.prog T = true := lk1_all okC h
theorem fA {T n : Nat} (h : lk2 tabA T = some n) : aggB Tryz.prog T n = true := lk2_all okA h
theorem fS {T n : Nat} (h : lk2 tabS T = some n) : sliceB Tryz.prog T n = true := lk2_all okS h
theorem fP {T z b : Nat} (h : lk2 tabP T = some (z,b)) : appB Tryz.prog T z b = true := lk22_all okP h
theorem fE {T e : Nat} (h : lk2 tabE T = some e) : Tryz.prog.underlying T = some (.slice e) := elemB_spec (lk2_all okE h)
theorem fN {T n m : Nat} (h : lk2 tabN T = some m) (e : m = n) : sizeB Tryz.prog T n = true := e ▸ lk2_all okN h
theorem fZ {T : Nat} {vs : List Value} (h : lk2 tabZ T = some vs) : zeroC Tryz.prog T = some vs := allZ_get okZ h
theorem fU {T : Nat} {l : List (Nat × Nat)} (h : lk2 tabU T = some l) : fieldsB Tryz.prog T l = true := lk2_all okU h
theorem fI {T : Nat} (h : lk1 tabI T = true) : noIfc Tryz.prog T = true := lk1_all okI h
theorem fT {T : Nat} (h : lk1 tabT T = true) : Tryz.prog.underlying T = some .string := strB_spec (lk1_all okT h)
theorem fQ {f : Nat} (h : lk1 tabQ f = true) : entB Tryz.prog f = true := lk1_all okQ h
end Go.Proofs.YtegpggobfdcafaaGreat
end
section
set_option linter.unusedVariables false
set_option linter.unusedSimpArgs false
namespace Go.Proofs.YtegpggobfdcafaaGreat
open Go Foot
section
variable {P : Program} {g : Gh} {bf : List (List Nat)} {kk : Keys} {ops : List Oper} {st : St} {n' : Nat} {Q : Exit → St → Prop} {l : List Oper} {rs : List Rs}
theorem dr_no {dst : Option Nat} {j d' : Nat} {b : Bool} {op : Op} {ty : TypeId} {pos : String} {after : Array Edge} (hj : ((ops.toArray)[j]?).bind (·.dst) = some d') (hb : skips b (lkS (minSt bf kk ops st rs rs.length).t d') = true) (hdd : Nat.blt d' g.n = true) (hd : ∀ d,dst = some d → d < g.n) (hc : kk.ck rs.length = []) (hnw : upIn (kk.nw rs.length ++ kk.ck rs.length) [])
    (hk : GDraw P g bf kk ops st n' Q l (rs ++ [⟨dst,.tup [],[],[]⟩])) : GDraw P g bf kk ops st n' Q (⟨dst,op,ty,pos,after,some (j,b)⟩ :: l) rs :=
  ⟨⟨dst,.tup [],[],[]⟩,⟨rfl,hd,hc.symm,hnw,.inr (.inr ⟨j,d',b,rfl,hj,blt_lt hdd,hb,rfl,rfl,rfl⟩)⟩,hk⟩
theorem dr_u {dst : Option Nat} {op : Op} {ty : TypeId} {pos : String} {after : Array Edge} {sv : SV} {ch : List Nat} {up : List (Nat × GB)} (hd : ∀ d,dst = some d → d < g.n) (hc : kk.ck rs.length = ch) (hu : upIn (kk.nw rs.length ++ kk.ck rs.length) up) (ha : Acts P g ⟨dst,op,ty,pos,after,none⟩ (minSt bf kk ops st rs rs.length) sv ch up)
    (hk : GDraw P g bf kk ops st n' Q l (rs ++ [⟨dst,sv,ch,up⟩])) : GDraw P g bf kk ops st n' Q (⟨dst,op,ty,pos,after,none⟩ :: l) rs :=
  ⟨⟨dst,sv,ch,up⟩,⟨rfl,hd,hc.symm,hu,.inl ⟨rfl,ha⟩⟩,hk⟩
theorem dr_uy {dst : Option Nat} {j d' : Nat} {b : Bool} {op : Op} {ty : TypeId} {pos : String} {after : Array Edge} {sv : SV} {ch : List Nat} {up : List (Nat × GB)} (hj : ((ops.toArray)[j]?).bind (·.dst) = some d') (hb : lkS (minSt bf kk ops st rs rs.length).t d' = .one (boo b)) (hdd : Nat.blt d' g.n = true) (hd : ∀ d,dst = some d → d < g.n) (hc : kk.ck rs.length = ch) (hu : upIn (kk.nw rs.length ++ kk.ck rs.length) up) (ha : Acts P g ⟨dst,op,ty,pos,after,some (j,b)⟩ (minSt bf kk ops st rs rs.length) sv ch up)
    (hk : GDraw P g bf kk ops st n' Q l (rs ++ [⟨dst,sv,ch,up⟩])) : GDraw P g bf kk ops st n' Q (⟨dst,op,ty,pos,after,some (j,b)⟩ :: l) rs :=
  ⟨⟨dst,sv,ch,up⟩,⟨rfl,hd,hc.symm,hu,.inr (.inl ⟨j,d',b,rfl,hj,blt_lt hdd,hb,ha⟩)⟩,hk⟩
theorem dst_some {n d : Nat} (h : Nat.blt d n = true) : ∀ d',some d = some d' → d' < n := fun d' e => by cases e; exact blt_lt h
theorem dst_none {n : Nat} : ∀ d',(none : Option Nat) = some d' → d' < n := fun d' e => by cases e
end
section
variable {P : Program} {g : Gh} {t : List (Nat × SV)} {h : List (Nat × GB)} {n : Nat} {Q : Exit → St → Prop} {ops : Array Oper} {l : List Oper}
end
section
variable {P : Program} {g : Gh} {t : List (Nat × SV)} {h : List (Nat × GB)} {n : Nat} {Q : Exit → St → Prop} {ops : Array Oper} {l : List Oper}
theorem p3 {d : Nat} {op : Op} {ty : TypeId} {pos : String} {after : Array Edge} {sv : SV} (ha : Acts P g ⟨some d,op,ty,pos,after,none⟩ ⟨t,h,n⟩ sv [] []) (hd : Nat.blt d g.n = true) (hk : GOps P g ops l ⟨(d,sv) :: t,h,n⟩ Q) : GOps P g ops (⟨some d,op,ty,pos,after,none⟩ :: l) ⟨t,h,n⟩ Q := o_p hd ha hk
theorem n3 {d : Nat} {op : Op} {ty : TypeId} {pos : String} {after : Array Edge} {sv : SV} {gb : GB} (ha : Acts P g ⟨some d,op,ty,pos,after,none⟩ ⟨t,h,n⟩ sv [] [(n,gb)]) (hd : Nat.blt d g.n = true) (hk : GOps P g ops l ⟨(d,sv) :: t,(n,gb) :: h,n + 1⟩ Q) : GOps P g ops (⟨some d,op,ty,pos,after,none⟩ :: l) ⟨t,h,n⟩ Q := o_n hd ha hk
theorem s3 {d i : Nat} {op : Op} {ty : TypeId} {pos : String} {after : Array Edge} {sv : SV} {gb : GB} (ha : Acts P g ⟨some d,op,ty,pos,after,none⟩ ⟨t,h,n⟩ sv [i] [(n,gb),(i,.dead)]) (hd : Nat.blt d g.n = true) (hl : (lkG h i).lives = true) (hk : GOps P g ops l ⟨(d,sv) :: t,(n,gb) :: (i,.dead) :: h,n + 1⟩ Q) : GOps P g ops (⟨some d,op,ty,pos,after,none⟩ :: l) ⟨t,h,n⟩ Q := o_s hd hl ha hk
theorem w3 {i : Nat} {op : Op} {ty : TypeId} {pos : String} {after : Array Edge} {gb : GB} (ha : Acts P g ⟨none,op,ty,pos,after,none⟩ ⟨t,h,n⟩ .any [i] [(i,gb)]) (hl : (lkG h i).lives = true) (hk : GOps P g ops l ⟨t,(i,gb) :: h,n⟩ Q) : GOps P g ops (⟨none,op,ty,pos,after,none⟩ :: l) ⟨t,h,n⟩ Q := o_w hl ha hk
theorem py3 {d j d' : Nat} {b : Bool} {op : Op} {ty : TypeId} {pos : String} {after : Array Edge} {sv : SV} (hj : (ops[j]?).bind (·.dst) = some d') (hb : lkS t d' = .one (boo b)) (ha : Acts P g ⟨some d,op,ty,pos,after,some (j,b)⟩ ⟨t,h,n⟩ sv [] []) (hdd : Nat.blt d' g.n = true) (hd : Nat.blt d g.n = true) (hk : GOps P g ops l ⟨(d,sv) :: t,h,n⟩ Q) : GOps P g ops (⟨some d,op,ty,pos,after,some (j,b)⟩ :: l) ⟨t,h,n⟩ Q := o_py hj hb hdd hd ha hk
theorem c3 {d : Nat} {op : Op} {ty : TypeId} {pos : String} {after : Array Edge} {sv : SV} {θ : List Nat} {up : List (Nat × GB)} {n' : Nat} (ha : Acts P g ⟨some d,op,ty,pos,after,none⟩ ⟨t,h,n⟩ sv θ up) (hd : Nat.blt d g.n = true) (hl : θ.all (fun i => (lkG h i).lives) = true) (hu : upOk n n' θ up) (hk : GOps P g ops l ⟨(d,sv) :: t,up ++ h,n'⟩ Q) : GOps P g ops (⟨some d,op,ty,pos,after,none⟩ :: l) ⟨t,h,n⟩ Q := o_c hd hl ha hu hk
end
section
variable {P : Program} {g : Gh} {bf : List (List Nat)} {kk : Keys} {ops : List Oper} {st : St} {n' : Nat} {Q : Exit → St → Prop} {l : List Oper} {rs : List Rs}
end
theorem rows_set {α : Type} (E : Enc α) : ∀ (l : List α) (k : Nat) (v : α),k < l.length → setRow (rows E l) (k * E.z) (E.enc v) = rows E (l.set k v)
  | [],k,v,h => by simp at h
  | x :: l,0,v,_ => by
    have e : ∀ y,rows E (y :: l) = E.enc y ++ rows E l := fun y => by simp [rows]
    have := setRow_mid (E.enc v) [] (E.enc x ++ rows E l) (by simp [E.len])
    simp only [List.nil_append,List.length_nil] at this
    rw [e,Nat.zero_mul,List.set_cons_zero,this,e]
    congr 1
    rw [List.drop_append,List.drop_of_length_le (by simp [E.len])]
    simp [E.len]
  | x :: l,k + 1,v,h => by
    have e : ∀ y m,rows E (y :: m) = E.enc y ++ rows E m := fun y m => by simp [rows]
    have key : ∀ (us p r : List D) (off : Nat),setRow (p ++ r) (p.length + off) us = p ++ setRow r off us := by
      intro us
      induction us with
      | nil => intro p r off; rfl
      | cons u us ih =>
        intro p r off
        simp only [setRow]
        rw [List.set_append_right _ _ (by omega),show p.length + off - p.length = off by omega,show p.length + off + 1 = p.length + (off + 1) by omega,ih]
    rw [e,List.set_cons_succ,e,show (k + 1) * E.z = (E.enc x).length + k * E.z by rw [E.len,Nat.add_mul,Nat.one_mul]; omega,key,rows_set E l k v (by simpa using h)]
theorem rows_rep {α : Type} (E : Enc α) (x : α) (n : Nat) : repRow (E.enc x) n = rows E (List.replicate n x) := by
  unfold repRow rows
  induction n with
  | zero => rfl
  | succ n ih => simp [List.replicate_succ,ih]
theorem rows_nth {α : Type} {E : Enc α} {l : List α} {k o : Nat} (h : k < l.length) (ho : o < E.z) : (rows E l)[k * E.z + o]? = (E.enc l[k])[o]? := by
  have h1 := elem_rows' (E := E) h
  have h2 : (rows E l)[k * E.z + o]? = (elem E.z (rows E l) k)[o]? := by
    unfold elem
    rw [List.getElem?_take,if_pos ho,List.getElem?_drop]
  rw [h2,h1]
section
variable {P : Program} {g : Gh} {st : St} {dst : Option Tmp} {ty : TypeId} {pos : String} {after : Array Edge} {guard : Option (Nat × Bool)} {x y z : Operand} {T U : TypeId}
theorem a_ne {a b : Int} (e1 : opd st x = .one (int a)) (e2 : opd st y = .one (int b)) : Acts P g ⟨dst,.binOp .neq T x y U,ty,pos,after,guard⟩ st (.one (boo (!decide (a = b)))) [] [] := a_bin e1 e2 rfl trivial
theorem a_lenE {α : Type} {E : Enc α} {l : List α} {zz zz' : Nat} {c : C} (hc : opd st x = .one c) (hs : slv st c = some (zz,rows E l)) (hT : sliceB P T zz' = true) (hz : E.z = zz) :
    Acts P g ⟨dst,.call { callee := .builtin .len,args := #[x],argTypes := #[T] },ty,pos,after,guard⟩ st (.one (int l.length)) [] [] := by
  subst hz
  exact a_len hc hs hT (cnt_rows E l)
theorem a_iaE {α : Type} {E : Enc α} {l : List α} {zz : Nat} {c : C} {k : IntKind} {i : Int} (hc : opd st x = .one c) (hs : shv st c = some (zz,rows E l)) (hi : opd st y = .one (.d (.sc (.int k i)))) (hT : sliceB P T zz = true) (h0 : 0 ≤ i) (hn : i < l.length) (hz : E.z = zz) :
    Acts P g ⟨dst,.indexAddr T x y,ty,pos,after,guard⟩ st (.one (.d (.bx false (E.enc (l[i.toNat]'(by omega)))))) [] [] := by
  subst hz
  exact a_ia_imm hc hs hi hT h0 (cnt_lt hn) (elem_rows (by omega))
theorem a_iaO {α : Type} {E : Enc α} {l : List α} {zz j : Nat} {k : IntKind} {i : Int} (hc : opd st x = .one (.gv j)) (hg : lkG st.h j = .row zz (rows E l)) (hi : opd st y = .one (.d (.sc (.int k i)))) (hT : sliceB P T zz = true) (h0 : 0 ≤ i) (hn : i < l.length) (hz : E.z = zz) :
    Acts P g ⟨dst,.indexAddr T x y,ty,pos,after,guard⟩ st (.one (.gp j (i.toNat * zz))) [] [] := by
  subst hz
  exact a_ia_own hc hg hi hT h0 (cnt_lt hn) rfl
theorem a_iaO1 {l : List Int} {j : Nat} {k : IntKind} {i : Int} (hc : opd st x = .one (.gv j)) (hg : lkG st.h j = .row 1 (rows eI l)) (hi : opd st y = .one (.d (.sc (.int k i)))) (hT : sliceB P T 1 = true) (h0 : 0 ≤ i) (hn : i < l.length) :
    Acts P g ⟨dst,.indexAddr T x y,ty,pos,after,guard⟩ st (.one (.gp j i.toNat)) [] [] := a_ia_own hc hg hi hT h0 (cnt_lt (E := eI) hn) (Nat.mul_one _)
theorem a_appE {α : Type} {E : Enc α} {l m : List α} {i j zz bytes : Nat} {c2 : C} (hT : appB P T zz bytes = true) (hx : opd st x = .one (.gv i)) (hg : lkG st.h i = .row zz (rows E l)) (hy : opd st y = .one c2) (hs : slv st c2 = some (zz,rows E m)) (hno : D.noOwn.all (rows E m)) (hby : (l.length + m.length) * bytes ≤ 140737488355328) (hb : 0 < bytes) (hji : ¬ j = i) (hz : E.z = zz) :
    Acts P g ⟨dst,.call { callee := .builtin .append,args := #[x,y],argTypes := #[T,T] },ty,pos,after,guard⟩ st (.one (.gv j)) [i] [(j,.row zz (rows E (l ++ m))),(i,.dead)] := by
  subst hz
  have : l.length + m.length ≤ (l.length + m.length) * bytes := Nat.le_mul_of_pos_right _ hb
  exact a_app hT hx hg hy hs hno (by rw [cnt_rows',cnt_rows']; omega) (by rw [cnt_rows',cnt_rows']; exact hby) (rows_app E l m) hji
theorem a_ld_rowI {i k : Nat} {c0 : C} {l : List Int} (hc : opd st x = .one c0) (ht : tgt st c0 = some (i,k)) (hg : lkG st.h i = .row 1 (rows eI l)) (hT : cellB P T = true) (hk : k < l.length) : Acts P g ⟨dst,.load T x,ty,pos,after,guard⟩ st (.one (int (l[k]'hk))) [] [] := by
  refine a_ld_row (c := .sc (.int .i64 (l[k]'hk))) hc ht hg hT ?_ trivial
  have := rows_nth (E := eI) (o := 0) hk (by decide)
  simpa using this
theorem a_stE {α : Type} {E : Enc α} {l : List α} (v : α) {j k zz : Nat} {xs : List C} (hc : opd st x = .one (.gp j (k * zz))) (hg : lkG st.h j = .row zz (rows E l)) (hs : (opd st y).cells = some xs) (hd : allD st.h xs = some (E.enc v)) (hT : sizeB P T zz = true) (hk : k < l.length) (hz : E.z = zz) :
    Acts P g ⟨none,.store T x y,ty,pos,after,guard⟩ st .any [j] [(j,.row zz (rows E (l.set k v)))] := by
  subst hz
  have hlen := rows_len E l
  have hmul : k * E.z + E.z ≤ l.length * E.z := by
    have := Nat.mul_le_mul_right E.z (Nat.succ_le_of_lt hk)
    rw [Nat.succ_mul] at this
    exact this
  refine a_st_row (ds := E.enc v) hc rfl hg hs hd (by rw [E.len]; exact hT) (by rw [E.len]; exact E.pos) (by rw [E.len,hlen]; exact hmul) (rows_set E l k v hk)
theorem a_st_rowI {i k : Nat} {c0 : C} {l : List Int} {v : Int} (hc : opd st x = .one c0) (ht : tgt st c0 = some (i,k)) (hg : lkG st.h i = .row 1 (rows eI l)) (hs : opd st y = .one (int v)) (hT : sizeB P T 1 = true) (hk : k < l.length) :
    Acts P g ⟨none,.store T x y,ty,pos,after,guard⟩ st .any [i] [(i,.row 1 (rows eI (l.set k v)))] := by
  refine a_st_row (ds := [.sc (.int .i64 v)]) (xs := [int v]) hc ht hg (by rw [hs]; rfl) rfl hT (by simp) ?_ ?_
  · have := rows_len eI l
    simp at this
    simp [this]
    omega
  · have := rows_set eI l k v hk
    simpa using this
end
end Go.Proofs.YtegpggobfdcafaaGreat
end
section
set_option linter.unusedVariables false
set_option linter.unusedSimpArgs false
namespace Go.Proofs.YtegpggobfdcafaaGreat
open Go Foot
def flags (D : Nat → Bool) : Nat → List Bool
  | 0 => []
  | n + 1 => D n :: flags D n
def selT : List Bool → List Rs → List (Nat × SV) → List (Nat × SV)
  | true :: fs,r :: rs,t => (match r.dst with | some d => (d,r.sv) :: selT fs rs t | none => selT fs rs t)
  | false :: fs,_ :: rs,t => selT fs rs t
  | _,_,t => t
def selH : List Bool → List Rs → List (Nat × GB) → List (Nat × GB)
  | true :: fs,r :: rs,t => r.up ++ selH fs rs t
  | false :: fs,_ :: rs,t => selH fs rs t
  | _,_,t => t
theorem mixT_rev (D : Nat → Bool) (t : List (Nat × SV)) : ∀ (rs : List Rs),mixT D 0 rs.reverse t = selT (flags D rs.length) rs t
  | [] => rfl
  | r :: rs => by
    rw [List.reverse_cons,mixT_app,mixT_rev D t rs]
    simp only [mixT,List.length_reverse,Nat.zero_add,List.length_cons,flags]
    cases D rs.length with
    | true => simp only [cond_true,selT]; cases r.dst <;> rfl
    | false => rfl
theorem mixH_rev (D : Nat → Bool) (t : List (Nat × GB)) : ∀ (rs : List Rs),mixH D 0 rs.reverse t = selH (flags D rs.length) rs t
  | [] => rfl
  | r :: rs => by
    rw [List.reverse_cons,mixH_app,mixH_rev D t rs]
    simp only [mixH,List.length_reverse,Nat.zero_add,List.length_cons,flags]
    cases D rs.length with
    | true => rfl
    | false => rfl
def anyL : List Nat → List (Nat × SV) → List (Nat × SV)
  | [],t => t
  | x :: l,t => (x,.any) :: anyL l t
def unordD (bf : List (List Nat)) (i : Nat) : Nat → List Oper → List Nat
  | _,[] => []
  | j,o :: l => bif unord bf i j then (match o.dst with | some d => d :: unordD bf i (j + 1) l | none => unordD bf i (j + 1) l) else unordD bf i (j + 1) l
def unordK (bf : List (List Nat)) (kk : Keys) (i : Nat) : Nat → List Oper → List Nat
  | _,[] => []
  | j,o :: l => bif unord bf i j then (kk.nw j ++ kk.ck j) ++ unordK bf kk i (j + 1) l else unordK bf kk i (j + 1) l
theorem maskT_eq {bf : List (List Nat)} {i : Nat} {t : List (Nat × SV)} : ∀ {l : List Oper} {j : Nat},maskT bf i j l t = anyL (unordD bf i j l) t
  | [],j => rfl
  | o :: l,j => by
    simp only [maskT,unordD]
    cases unord bf i j with
    | true => simp only [cond_true]; cases o.dst <;> simp only [anyL,maskT_eq]
    | false => simp only [cond_false]; exact maskT_eq
theorem deadL_app (t : List (Nat × GB)) : ∀ (a b : List Nat),deadL (a ++ b) t = deadL a (deadL b t)
  | [],_ => rfl
  | x :: a,b => by simp only [List.cons_append,deadL,deadL_app t a b]
theorem maskH_eq {bf : List (List Nat)} {kk : Keys} {i : Nat} {t : List (Nat × GB)} : ∀ {l : List Oper} {j : Nat},maskH bf kk i j l t = deadL (unordK bf kk i j l) t
  | [],j => rfl
  | o :: l,j => by
    simp only [maskH,unordK]
    cases unord bf i j with
    | true => simp only [cond_true]; rw [deadL_app t,maskH_eq]
    | false => simp only [cond_false]; exact maskH_eq
def visSt (st : St) (rs : List Rs) (fs : List Bool) (u uk : List Nat) : St := ⟨anyL u (selT fs rs st.t),deadL uk (selH fs rs st.h),st.n⟩
theorem visSt_eq {bf : List (List Nat)} {kk : Keys} {ops : List Oper} {st : St} {rs : List Rs} {i : Nat} {fs : List Bool} {u uk : List Nat} (hi : rs.length = i) (hf : flags (fun k => memB k (bf.getD i [])) i = fs) (hu : unordD bf i 0 ops = u) (hk : unordK bf kk i 0 ops = uk) :
    minSt bf kk ops st rs.reverse rs.reverse.length = visSt st rs fs u uk := by
  subst hi hf hu hk
  simp only [minSt,visSt,List.length_reverse,mixT_rev,mixH_rev,maskT_eq,maskH_eq]
section
variable {P : Program} {g : Gh} {bf : List (List Nat)} {kk : Keys} {ops : List Oper} {st : St} {n' : Nat} {Q : Exit → St → Prop} {l : List Oper} {rs : List Rs}
structure DR (P : Program) (g : Gh) (bf : List (List Nat)) (kk : Keys) (ops : List Oper) (st : St) (n' : Nat) (Q : Exit → St → Prop) (l : List Oper) (rs : List Rs) : Prop where
  run : GDraw P g bf kk ops st n' Q l rs.reverse
theorem g_dr {id : Nat} {t : List (Nat × SV)} {h : List (Nat × GB)} {n : Nat} (hm : P.follows .mixedOrders = true) (bf : List (List Nat)) (kk : Keys) (n' : Nat) {ops : List Oper} (hbf : befOk bf 0 ops = true) (hin : indepOk bf kk ops 0 ops = true) (hnw : newOk n n' kk = true)
    (hd : DR P g bf kk ops ⟨t,h,n⟩ n' Q ops []) : GWp P g (.region id ops.toArray true) ⟨t,h,n⟩ Q := g_draw hm bf kk n' hbf hin hnw hd.run
def trues : List Rs → List Bool
  | [] => []
  | _ :: l => true :: trues l
theorem flags_true : ∀ (rs : List Rs),flags (fun _ => true) rs.length = trues rs
  | [] => rfl
  | _ :: l => by simp only [List.length_cons,flags,trues,flags_true l]
theorem d_nil (h : Q .normal ⟨selT (trues rs) rs st.t,selH (trues rs) rs st.h,n'⟩) : DR P g bf kk ops st n' Q [] rs := ⟨by
  show Q .normal ⟨mixT _ 0 rs.reverse st.t,mixH _ 0 rs.reverse st.h,n'⟩
  rw [mixT_rev,mixH_rev,flags_true]
  exact h⟩
theorem d_u {i : Nat} {fs : List Bool} {u uk : List Nat} {dst : Option Nat} {op : Op} {ty : TypeId} {pos : String} {after : Array Edge} {sv : SV} {ch : List Nat} {up : List (Nat × GB)} (ha : Acts P g ⟨dst,op,ty,pos,after,none⟩ (visSt st rs fs u uk) sv ch up)
    (hi : rs.length = i) (hf : flags (fun k => memB k (bf.getD i [])) i = fs) (hu : unordD bf i 0 ops = u) (hk : unordK bf kk i 0 ops = uk) (hd : ∀ d,dst = some d → d < g.n) (hc : kk.ck i = ch) (hup : upIn (kk.nw i ++ kk.ck i) up)
    (h : DR P g bf kk ops st n' Q l (⟨dst,sv,ch,up⟩ :: rs)) : DR P g bf kk ops st n' Q (⟨dst,op,ty,pos,after,none⟩ :: l) rs := by
  refine ⟨dr_u (ch := ch) (up := up) (sv := sv) hd (by rw [List.length_reverse,hi]; exact hc) (by rw [List.length_reverse,hi]; exact hup) (by rw [visSt_eq hi hf hu hk]; exact ha) ?_⟩
  have := h.run
  rwa [List.reverse_cons] at this
theorem d_p {i : Nat} {fs : List Bool} {u uk : List Nat} {d : Nat} {op : Op} {ty : TypeId} {pos : String} {after : Array Edge} {sv : SV} (ha : Acts P g ⟨some d,op,ty,pos,after,none⟩ (visSt st rs fs u uk) sv [] [])
    (hi : rs.length = i) (hf : flags (fun k => memB k (bf.getD i [])) i = fs) (hu : unordD bf i 0 ops = u) (hk : unordK bf kk i 0 ops = uk) (hd : Nat.blt d g.n = true) (hc : kk.ck i = [])
    (h : DR P g bf kk ops st n' Q l (⟨some d,sv,[],[]⟩ :: rs)) : DR P g bf kk ops st n' Q (⟨some d,op,ty,pos,after,none⟩ :: l) rs := d_u ha hi hf hu hk (dst_some hd) hc trivial h
theorem d_b {i : Nat} {fs : List Bool} {u uk : List Nat} {d : Nat} {op : Op} {ty : TypeId} {pos : String} {after : Array Edge} {b : Bool} (ha : Acts P g ⟨some d,op,ty,pos,after,none⟩ (visSt st rs fs u uk) (.one (boo b)) [] [])
    (hi : rs.length = i) (hf : flags (fun k => memB k (bf.getD i [])) i = fs) (hu : unordD bf i 0 ops = u) (hk : unordK bf kk i 0 ops = uk) (hd : Nat.blt d g.n = true) (hc : kk.ck i = [])
    (ht : b = true → DR P g bf kk ops st n' Q l (⟨some d,.one (boo true),[],[]⟩ :: rs)) (hff : b = false → DR P g bf kk ops st n' Q l (⟨some d,.one (boo false),[],[]⟩ :: rs)) : DR P g bf kk ops st n' Q (⟨some d,op,ty,pos,after,none⟩ :: l) rs := by
  refine d_p ha hi hf hu hk hd hc ?_
  cases b with
  | true => exact ht rfl
  | false => exact hff rfl
theorem d_uy {i j d' : Nat} {fs : List Bool} {u uk : List Nat} {b : Bool} {dst : Option Nat} {op : Op} {ty : TypeId} {pos : String} {after : Array Edge} {sv : SV} {ch : List Nat} {up : List (Nat × GB)} (hj : ((ops.toArray)[j]?).bind (·.dst) = some d') (hb : lkS (visSt st rs fs u uk).t d' = .one (boo b)) (ha : Acts P g ⟨dst,op,ty,pos,after,some (j,b)⟩ (visSt st rs fs u uk) sv ch up)
    (hi : rs.length = i) (hf : flags (fun k => memB k (bf.getD i [])) i = fs) (hu : unordD bf i 0 ops = u) (hk : unordK bf kk i 0 ops = uk) (hdd : Nat.blt d' g.n = true) (hd : ∀ d,dst = some d → d < g.n) (hc : kk.ck i = ch) (hup : upIn (kk.nw i ++ kk.ck i) up)
    (h : DR P g bf kk ops st n' Q l (⟨dst,sv,ch,up⟩ :: rs)) : DR P g bf kk ops st n' Q (⟨dst,op,ty,pos,after,some (j,b)⟩ :: l) rs := by
  have e := visSt_eq (bf := bf) (kk := kk) (ops := ops) (st := st) hi hf hu hk
  refine ⟨dr_uy (ch := ch) (up := up) (sv := sv) hj (by rw [e]; exact hb) hdd hd (by rw [List.length_reverse,hi]; exact hc) (by rw [List.length_reverse,hi]; exact hup) (by rw [e]; exact ha) ?_⟩
  have := h.run
  rwa [List.reverse_cons] at this
theorem d_py {i j d' : Nat} {fs : List Bool} {u uk : List Nat} {b : Bool} {d : Nat} {op : Op} {ty : TypeId} {pos : String} {after : Array Edge} {sv : SV} (hj : ((ops.toArray)[j]?).bind (·.dst) = some d') (hb : lkS (visSt st rs fs u uk).t d' = .one (boo b)) (ha : Acts P g ⟨some d,op,ty,pos,after,some (j,b)⟩ (visSt st rs fs u uk) sv [] [])
    (hi : rs.length = i) (hf : flags (fun k => memB k (bf.getD i [])) i = fs) (hu : unordD bf i 0 ops = u) (hk : unordK bf kk i 0 ops = uk) (hdd : Nat.blt d' g.n = true) (hd : Nat.blt d g.n = true) (hc : kk.ck i = [])
    (h : DR P g bf kk ops st n' Q l (⟨some d,sv,[],[]⟩ :: rs)) : DR P g bf kk ops st n' Q (⟨some d,op,ty,pos,after,some (j,b)⟩ :: l) rs := d_uy hj hb ha hi hf hu hk hdd (dst_some hd) hc trivial h
theorem d_no {i j d' : Nat} {fs : List Bool} {u uk : List Nat} {b : Bool} {dst : Option Nat} {op : Op} {ty : TypeId} {pos : String} {after : Array Edge} (hj : ((ops.toArray)[j]?).bind (·.dst) = some d') (hb : skips b (lkS (visSt st rs fs u uk).t d') = true)
    (hi : rs.length = i) (hf : flags (fun k => memB k (bf.getD i [])) i = fs) (hu : unordD bf i 0 ops = u) (hk : unordK bf kk i 0 ops = uk) (hdd : Nat.blt d' g.n = true) (hd : ∀ d,dst = some d → d < g.n) (hc : kk.ck i = [])
    (h : DR P g bf kk ops st n' Q l (⟨dst,.tup [],[],[]⟩ :: rs)) : DR P g bf kk ops st n' Q (⟨dst,op,ty,pos,after,some (j,b)⟩ :: l) rs := by
  have e := visSt_eq (bf := bf) (kk := kk) (ops := ops) (st := st) hi hf hu hk
  refine ⟨dr_no hj (by rw [e]; exact hb) hdd hd (by rw [List.length_reverse,hi]; exact hc) trivial ?_⟩
  have := h.run
  rwa [List.reverse_cons] at this
end
end Go.Proofs.YtegpggobfdcafaaGreat
end
section
set_option linter.unusedVariables false
set_option linter.unusedSimpArgs false
namespace Go.Proofs.YtegpggobfdcafaaGreat
open Go Foot
def upB (n n' : Nat) (ch : List Nat) : List (Nat × GB) → Bool
  | [] => Nat.ble n n'
  | (i,_) :: r => (memB i ch || (Nat.ble n i && Nat.blt i n')) && upB n n' ch r
theorem upB_ok {n n' : Nat} {ch : List Nat} : ∀ {up : List (Nat × GB)},upB n n' ch up = true → upOk n n' ch up
  | [],h => Nat.le_of_ble_eq_true h
  | (i,_) :: r,h => by
    simp only [upB,Bool.and_eq_true,Bool.or_eq_true] at h
    exact ⟨h.1.imp memB_iff.1 fun h => ⟨Nat.le_of_ble_eq_true h.1,blt_lt h.2⟩,upB_ok h.2⟩
def downs : Nat → List Nat
  | 0 => []
  | n + 1 => n :: downs n
def rest (n : Nat) (θ : List Nat) : List Nat := (downs n).filter fun i => !memB i θ
theorem rest_ok (n : Nat) (θ : List Nat) : (rest n θ).all (fun i => !(θ.any (Nat.beq i))) = true := by
  rw [List.all_eq_true]
  intro i hi
  have := (List.mem_filter.1 hi).2
  exact this
section
variable {h : List (Nat × GB)} {ld : List Nat}
theorem CLe.lendA {g z : Nat} {xs : List D} (hg : memB g ld = true) (e : lkG h g = .row z xs) (hno : D.noOwn.all xs) : CLe h ld (.gv g) (.d (.sl false z xs)) := .lend (memB_iff.1 hg) e hno
theorem CLe.lendDA {g z : Nat} {xs ys : List D} (hg : memB g ld = true) (e : lkG h g = .row z xs) (hs : ShutL xs ys) : CLe h ld (.gv g) (.d (.sl false z ys)) := .lendD (memB_iff.1 hg) e hs
theorem CLe.lendRA {g o z i : Nat} {α : Type} {E : Enc α} {l : List α} {ys : List D} (hg : memB g ld = true) (e : lkG h g = .row z (rows E l)) (hz : E.z = z) (ho : i * z = o) (hi : i < l.length) (hno : D.noOwn.all (rows E l)) (he : E.enc (l[i]'hi) = ys) : CLe h ld (.gp g o) (.d (.bx false ys)) := by
  subst hz ho he
  have h1 : i * E.z + E.z ≤ (rows E l).length := by
    rw [rows_len,← Nat.succ_mul]
    exact Nat.mul_le_mul_right _ hi
  refine .lendR (memB_iff.1 hg) e E.pos h1 ?_
  have h2 : ((rows E l).drop (i * E.z)).take E.z = E.enc l[i] := elem_rows' hi
  rw [h2]
  refine ShutL.no (noOwn_mem fun x hx => noOwn_of_mem hno x ?_)
  rw [← h2] at hx
  exact List.mem_of_mem_drop (List.mem_of_mem_take hx)
theorem CLe.lendVA {g : Nat} {cs : List C} {xs : List D} (hg : memB g ld = true) (e : lkG h g = .bx cs) (a : CsLe h ld cs (xs.map C.d)) : CLe h ld (.gv g) (.d (.bx false xs)) := .lendV (memB_iff.1 hg) e a
theorem CLe.lendPA {g o : Nat} {cs cs' : List C} {ys : List D} (hg : memB g ld = true) (e : lkG h g = .bx cs) (hy : cs.drop o = cs') (a : CsLe h ld cs' (ys.map C.d)) : CLe h ld (.gp g o) (.d (.bx false ys)) := .lendP (memB_iff.1 hg) e hy a
end
section
variable {P : Program} {g : Gh} {t : List (Nat × SV)} {h : List (Nat × GB)} {n : Nat} {Q : Exit → St → Prop} {ops : Array Oper} {l : List Oper}
theorem c4 (k : Nat) {d : Nat} {op : Op} {ty : TypeId} {pos : String} {after : Array Edge} {sv : SV} {θ : List Nat} {up : List (Nat × GB)} (ha : Acts P g ⟨some d,op,ty,pos,after,none⟩ ⟨t,h,n⟩ sv θ up) (hd : Nat.blt d g.n = true) (hl : θ.all (fun i => (lkG h i).lives) = true) (hu : upB n (n + k) θ up = true) (hk : GOps P g ops l ⟨(d,sv) :: t,up ++ h,n + k⟩ Q) : GOps P g ops (⟨some d,op,ty,pos,after,none⟩ :: l) ⟨t,h,n⟩ Q := o_c hd hl ha (upB_ok hu) hk
theorem cy4 (k : Nat) {d j d' : Nat} {b : Bool} {op : Op} {ty : TypeId} {pos : String} {after : Array Edge} {sv : SV} {θ : List Nat} {up : List (Nat × GB)} (hj : (ops[j]?).bind (·.dst) = some d') (hb : lkS t d' = .one (boo b)) (ha : Acts P g ⟨some d,op,ty,pos,after,some (j,b)⟩ ⟨t,h,n⟩ sv θ up) (hdd : Nat.blt d' g.n = true) (hd : Nat.blt d g.n = true) (hl : θ.all (fun i => (lkG h i).lives) = true) (hu : upB n (n + k) θ up = true) (hk : GOps P g ops l ⟨(d,sv) :: t,up ++ h,n + k⟩ Q) : GOps P g ops (⟨some d,op,ty,pos,after,some (j,b)⟩ :: l) ⟨t,h,n⟩ Q := o_cy hj hb hdd hd hl ha (upB_ok hu) hk
end
section
variable {P : Program} {g : Gh} {dst : Option Tmp} {ty : TypeId} {pos : String} {after : Array Edge} {guard : Option (Nat × Bool)} {x : Operand} {f : Nat} {c0 : C} {cap : List C} {xs : List Operand} {Ts : Array TypeId} {as1 : List SV} {H H' : List GB} {res : SV} {θ : List Nat} {t : List (Nat × SV)} {h : List (Nat × GB)} {n : Nat}
theorem a_call0 (hc : opd ⟨t,h,n⟩ x = .one c0) (hv : fnv c0 = some (.func f,cap)) (hE : entB P f = true) (ha : ASLe h [] (xs.map (opd ⟨t,h,n⟩) ++ cap.map .one) (as1.map (SV.ren (calF θ n)))) (hH : rootsEq (calF θ n) ⟨t,h,n⟩ 0 H) (hD : Does P f as1 H res H')
    (hk : H.length = θ.length) (hθ : nodupB θ = true) (hm : θ.all (fun t => Nat.blt t n) = true)
    (hlt : ltA H.length as1 = true) (hltH : allG H.length H = true) (hltr : res.lt H'.length = true) (hltH' : allG H'.length H' = true) :
    Acts P g ⟨dst,.call { callee := .value x,args := xs.toArray,argTypes := Ts },ty,pos,after,guard⟩ ⟨t,h,n⟩ (res.ren (calF θ n)) θ (upOf (calF θ n) 0 H') :=
  a_callS hD hc hv hE ha hH hk hθ hm rfl (.inl rfl) hlt hltH hltr hltH'
theorem a_call1 (hc : opd ⟨t,h,n⟩ x = .one c0) (hv : fnv c0 = some (.func f,cap)) (hE : entB P f = true) (ha : ASLe h (rest n θ) (xs.map (opd ⟨t,h,n⟩) ++ cap.map .one) (as1.map (SV.ren (calF θ n)))) (hH : rootsEq (calF θ n) ⟨t,h,n⟩ 0 H) (hD : Does P f as1 H res H')
    (hk : H.length = θ.length) (hθ : nodupB θ = true) (hm : θ.all (fun t => Nat.blt t n) = true) (hp : res.plain) (hp' : plainH H')
    (hlt : ltA H.length as1 = true) (hltH : allG H.length H = true) (hltr : res.lt H'.length = true) (hltH' : allG H'.length H' = true) :
    Acts P g ⟨dst,.call { callee := .value x,args := xs.toArray,argTypes := Ts },ty,pos,after,guard⟩ ⟨t,h,n⟩ (res.ren (calF θ n)) θ (upOf (calF θ n) 0 H') :=
  a_callS hD hc hv hE ha hH hk hθ hm (rest_ok n θ) (.inr ⟨hp,hp'⟩) hlt hltH hltr hltH'
variable {rs : List Rs} {fs : List Bool} {u uk : List Nat}
theorem a_call0D (m : Nat) (hc : opd (visSt ⟨t,h,n⟩ rs fs u uk) x = .one c0) (hv : fnv c0 = some (.func f,cap)) (hE : entB P f = true) (ha : ASLe (visSt ⟨t,h,n⟩ rs fs u uk).h [] (xs.map (opd (visSt ⟨t,h,n⟩ rs fs u uk)) ++ cap.map .one) (as1.map (SV.ren (calF θ (n + m))))) (hH : rootsEq (calF θ (n + m)) (visSt ⟨t,h,n⟩ rs fs u uk) 0 H) (hD : Does P f as1 H res H')
    (hk : H.length = θ.length) (hθ : nodupB θ = true) (hm : θ.all (fun t => Nat.blt t (n + m)) = true)
    (hlt : ltA H.length as1 = true) (hltH : allG H.length H = true) (hltr : res.lt H'.length = true) (hltH' : allG H'.length H' = true) :
    Acts P g ⟨dst,.call { callee := .value x,args := xs.toArray,argTypes := Ts },ty,pos,after,guard⟩ (visSt ⟨t,h,n⟩ rs fs u uk) (res.ren (calF θ (n + m))) θ (upOf (calF θ (n + m)) 0 H') :=
  a_call hD hc hv hE ha hH hk hθ hm rfl (.inl rfl) hlt hltH hltr hltH' rfl rfl
theorem a_call1D (m : Nat) (hc : opd (visSt ⟨t,h,n⟩ rs fs u uk) x = .one c0) (hv : fnv c0 = some (.func f,cap)) (hE : entB P f = true) (ha : ASLe (visSt ⟨t,h,n⟩ rs fs u uk).h (rest (n + m) θ) (xs.map (opd (visSt ⟨t,h,n⟩ rs fs u uk)) ++ cap.map .one) (as1.map (SV.ren (calF θ (n + m))))) (hH : rootsEq (calF θ (n + m)) (visSt ⟨t,h,n⟩ rs fs u uk) 0 H) (hD : Does P f as1 H res H')
    (hk : H.length = θ.length) (hθ : nodupB θ = true) (hm : θ.all (fun t => Nat.blt t (n + m)) = true) (hp : res.plain) (hp' : plainH H')
    (hlt : ltA H.length as1 = true) (hltH : allG H.length H = true) (hltr : res.lt H'.length = true) (hltH' : allG H'.length H' = true) :
    Acts P g ⟨dst,.call { callee := .value x,args := xs.toArray,argTypes := Ts },ty,pos,after,guard⟩ (visSt ⟨t,h,n⟩ rs fs u uk) (res.ren (calF θ (n + m))) θ (upOf (calF θ (n + m)) 0 H') :=
  a_call hD hc hv hE ha hH hk hθ hm (rest_ok _ θ) (.inr ⟨hp,hp'⟩) hlt hltH hltr hltH' rfl rfl
end
section
variable {P : Program} {g : Gh} {dst : Option Tmp} {ty : TypeId} {pos : String} {after : Array Edge} {guard : Option (Nat × Bool)} {x : Operand} {f Ty : Nat} {c1 : C} {name : String} {xs : List Operand} {Ts : Array TypeId} {as1 : List SV} {H H' : List GB} {res : SV} {θ : List Nat} {t : List (Nat × SV)} {h : List (Nat × GB)} {n : Nat}
theorem a_inv1 (hc : opd ⟨t,h,n⟩ x = .one (.ifc Ty false [c1])) (ha : ASLe h (rest n θ) (.one c1 :: xs.map (opd ⟨t,h,n⟩)) (as1.map (SV.ren (calF θ n)))) (hH : rootsEq (calF θ n) ⟨t,h,n⟩ 0 H) (hD : Does P f as1 H res H')
    (hM : ∀ (v : Value) (w : World),(method (P.types.size + Made.depth) Ty v name).run P w = .ok (f,v) w) (hE : entB P f = true)
    (hk : H.length = θ.length) (hθ : nodupB θ = true) (hm : θ.all (fun t => Nat.blt t n) = true) (hp : res.plain) (hp' : plainH H')
    (hlt : ltA H.length as1 = true) (hltH : allG H.length H = true) (hltr : res.lt H'.length = true) (hltH' : allG H'.length H' = true) :
    Acts P g ⟨dst,.call { callee := .invoke x name,args := xs.toArray,argTypes := Ts },ty,pos,after,guard⟩ ⟨t,h,n⟩ (res.ren (calF θ n)) θ (upOf (calF θ n) 0 H') :=
  a_invk hD hc hM hE ha hH hk hθ hm (rest_ok n θ) (.inr ⟨hp,hp'⟩) hlt hltH hltr hltH' rfl rfl
end
def offK (n : Nat) : List (List Nat × List Nat) → Keys
  | [] => []
  | (l,c) :: r => (l.map (n + ·),c) :: offK n r
def offL (n : Nat) : List (Bool × Nat) → List Nat
  | [] => []
  | (true,k) :: r => (n + k) :: offL n r
  | (false,k) :: r => k :: offL n r
def upInB (l : List Nat) : List (Nat × GB) → Bool
  | [] => true
  | (i,_) :: r => memB i l && upInB l r
theorem upInB_ok {l : List Nat} : ∀ {up : List (Nat × GB)},upInB l up = true → upIn l up
  | [],_ => trivial
  | (i,_) :: r,h => by
    simp only [upInB,Bool.and_eq_true] at h
    exact ⟨memB_iff.1 h.1,upInB_ok h.2⟩
theorem upIn_all : ∀ {up : List (Nat × GB)} {l : List Nat},(∀ x ∈ up,x.1 ∈ l) → upIn l up
  | [],_,_ => trivial
  | x :: r,l,h => ⟨h x (by simp),upIn_all fun y hy => h y (by simp [hy])⟩
theorem upIn_eq {l : List Nat} {up : List (Nat × GB)} (h : up.map (·.1) = l) : upIn l up := by
  subst h
  exact upIn_all fun x hx => List.mem_map_of_mem hx
section
variable {P : Program} {g : Gh} {bf : List (List Nat)} {kk : Keys} {ops : List Oper} {Q : Exit → St → Prop} {l : List Oper} {rs : List Rs} {t : List (Nat × SV)} {h : List (Nat × GB)} {n n' : Nat}
theorem g_drN {id : Nat} (hm : P.follows .mixedOrders = true) (bf : List (List Nat)) (off : List (List Nat × List Nat)) (k : Nat) {ops : List Oper}
    (hd : DR P g bf (offK n off) ops ⟨t,h,n⟩ (n + k) Q ops []) (hbf : befOk bf 0 ops = true) (hin : indepOk bf (offK n off) ops 0 ops = true) (hnw : newOk n (n + k) (offK n off) = true) : GWp P g (.region id ops.toArray true) ⟨t,h,n⟩ Q := g_dr hm bf (offK n off) (n + k) hbf hin hnw hd
end
section
variable {P : Program} {g : Gh} {bf : List (List Nat)} {off : List (List Nat × List Nat)} {ops : List Oper} {t : List (Nat × SV)} {hp : List (Nat × GB)} {n n' : Nat} {Q : Exit → St → Prop} {l : List Oper} {rs : List Rs}
theorem d_uN {i : Nat} {fs : List Bool} {u : List Nat} {o : List (Bool × Nat)} {dst : Option Nat} {op : Op} {ty : TypeId} {pos : String} {after : Array Edge} {sv : SV} {ch : List Nat} {up : List (Nat × GB)} (ha : Acts P g ⟨dst,op,ty,pos,after,none⟩ (visSt ⟨t,hp,n⟩ rs fs u (offL n o)) sv ch up)
    (hi : rs.length = i) (hf : flags (fun k => memB k (bf.getD i [])) i = fs) (hu : unordD bf i 0 ops = u) (hk : unordK bf (offK n off) i 0 ops = offL n o) (hd : ∀ d,dst = some d → d < g.n) (hc : (offK n off).ck i = ch) (hup : upInB ((offK n off).nw i ++ (offK n off).ck i) up = true)
    (h : DR P g bf (offK n off) ops ⟨t,hp,n⟩ n' Q l (⟨dst,sv,ch,up⟩ :: rs)) : DR P g bf (offK n off) ops ⟨t,hp,n⟩ n' Q (⟨dst,op,ty,pos,after,none⟩ :: l) rs := d_u ha hi hf hu hk hd hc (upInB_ok hup) h
theorem d_uE {i : Nat} {fs : List Bool} {u : List Nat} {o : List (Bool × Nat)} {dst : Option Nat} {op : Op} {ty : TypeId} {pos : String} {after : Array Edge} {sv : SV} {ch : List Nat} {up : List (Nat × GB)} (ha : Acts P g ⟨dst,op,ty,pos,after,none⟩ (visSt ⟨t,hp,n⟩ rs fs u (offL n o)) sv ch up)
    (hi : rs.length = i) (hf : flags (fun k => memB k (bf.getD i [])) i = fs) (hu : unordD bf i 0 ops = u) (hk : unordK bf (offK n off) i 0 ops = offL n o) (hd : ∀ d,dst = some d → d < g.n) (hc : (offK n off).ck i = ch) (hup : up.map (·.1) = (offK n off).nw i ++ (offK n off).ck i)
    (h : DR P g bf (offK n off) ops ⟨t,hp,n⟩ n' Q l (⟨dst,sv,ch,up⟩ :: rs)) : DR P g bf (offK n off) ops ⟨t,hp,n⟩ n' Q (⟨dst,op,ty,pos,after,none⟩ :: l) rs := d_u ha hi hf hu hk hd hc (upIn_eq hup) h
theorem d_pN {i : Nat} {fs : List Bool} {u : List Nat} {o : List (Bool × Nat)} {d : Nat} {op : Op} {ty : TypeId} {pos : String} {after : Array Edge} {sv : SV} (ha : Acts P g ⟨some d,op,ty,pos,after,none⟩ (visSt ⟨t,hp,n⟩ rs fs u (offL n o)) sv [] [])
    (hi : rs.length = i) (hf : flags (fun k => memB k (bf.getD i [])) i = fs) (hu : unordD bf i 0 ops = u) (hk : unordK bf (offK n off) i 0 ops = offL n o) (hd : Nat.blt d g.n = true) (hc : (offK n off).ck i = [])
    (h : DR P g bf (offK n off) ops ⟨t,hp,n⟩ n' Q l (⟨some d,sv,[],[]⟩ :: rs)) : DR P g bf (offK n off) ops ⟨t,hp,n⟩ n' Q (⟨some d,op,ty,pos,after,none⟩ :: l) rs := d_p ha hi hf hu hk hd hc h
theorem d_bN {i : Nat} {fs : List Bool} {u : List Nat} {o : List (Bool × Nat)} {d : Nat} {op : Op} {ty : TypeId} {pos : String} {after : Array Edge} {b : Bool} (ha : Acts P g ⟨some d,op,ty,pos,after,none⟩ (visSt ⟨t,hp,n⟩ rs fs u (offL n o)) (.one (boo b)) [] [])
    (hi : rs.length = i) (hf : flags (fun k => memB k (bf.getD i [])) i = fs) (hu : unordD bf i 0 ops = u) (hk : unordK bf (offK n off) i 0 ops = offL n o) (hd : Nat.blt d g.n = true) (hc : (offK n off).ck i = [])
    (ht : b = true → DR P g bf (offK n off) ops ⟨t,hp,n⟩ n' Q l (⟨some d,.one (boo true),[],[]⟩ :: rs)) (hff : b = false → DR P g bf (offK n off) ops ⟨t,hp,n⟩ n' Q l (⟨some d,.one (boo false),[],[]⟩ :: rs)) : DR P g bf (offK n off) ops ⟨t,hp,n⟩ n' Q (⟨some d,op,ty,pos,after,none⟩ :: l) rs := d_b ha hi hf hu hk hd hc ht hff
theorem d_pyN {i j d' : Nat} {fs : List Bool} {u : List Nat} {o : List (Bool × Nat)} {b : Bool} {d : Nat} {op : Op} {ty : TypeId} {pos : String} {after : Array Edge} {sv : SV} (hj : ((ops.toArray)[j]?).bind (·.dst) = some d') (hb : lkS (visSt ⟨t,hp,n⟩ rs fs u (offL n o)).t d' = .one (boo b)) (ha : Acts P g ⟨some d,op,ty,pos,after,some (j,b)⟩ (visSt ⟨t,hp,n⟩ rs fs u (offL n o)) sv [] [])
    (hi : rs.length = i) (hf : flags (fun k => memB k (bf.getD i [])) i = fs) (hu : unordD bf i 0 ops = u) (hk : unordK bf (offK n off) i 0 ops = offL n o) (hdd : Nat.blt d' g.n = true) (hd : Nat.blt d g.n = true) (hc : (offK n off).ck i = [])
    (h : DR P g bf (offK n off) ops ⟨t,hp,n⟩ n' Q l (⟨some d,sv,[],[]⟩ :: rs)) : DR P g bf (offK n off) ops ⟨t,hp,n⟩ n' Q (⟨some d,op,ty,pos,after,some (j,b)⟩ :: l) rs := d_py hj hb ha hi hf hu hk hdd hd hc h
theorem d_noN {i j d' : Nat} {fs : List Bool} {u : List Nat} {o : List (Bool × Nat)} {b : Bool} {dst : Option Nat} {op : Op} {ty : TypeId} {pos : String} {after : Array Edge} (hj : ((ops.toArray)[j]?).bind (·.dst) = some d') (hb : skips b (lkS (visSt ⟨t,hp,n⟩ rs fs u (offL n o)).t d') = true)
    (hi : rs.length = i) (hf : flags (fun k => memB k (bf.getD i [])) i = fs) (hu : unordD bf i 0 ops = u) (hk : unordK bf (offK n off) i 0 ops = offL n o) (hdd : Nat.blt d' g.n = true) (hd : ∀ d,dst = some d → d < g.n) (hc : (offK n off).ck i = [])
    (h : DR P g bf (offK n off) ops ⟨t,hp,n⟩ n' Q l (⟨dst,.tup [],[],[]⟩ :: rs)) : DR P g bf (offK n off) ops ⟨t,hp,n⟩ n' Q (⟨dst,op,ty,pos,after,some (j,b)⟩ :: l) rs := d_no hj hb hi hf hu hk hdd hd hc h
end
section
variable {P : Program} {g : Gh} {o : Oper} {t : List (Nat × SV)} {hp : List (Nat × GB)} {n : Nat} {rs : List Rs} {fs : List Bool} {u uk : List Nat} {gb : GB}
theorem atN (m : Nat) (h : ∀ i,Acts P g o (visSt ⟨t,hp,n⟩ rs fs u uk) (.one (.gv i)) [] [(i,gb)]) : Acts P g o (visSt ⟨t,hp,n⟩ rs fs u uk) (.one (.gv (n + m))) [] [(n + m,gb)] := h _
theorem atS (m : Nat) {i : Nat} (h : ∀ j,¬ j = i → Acts P g o (visSt ⟨t,hp,n⟩ rs fs u uk) (.one (.gv j)) [i] [(j,gb),(i,.dead)]) (hne : ¬ n + m = i) : Acts P g o (visSt ⟨t,hp,n⟩ rs fs u uk) (.one (.gv (n + m))) [i] [(n + m,gb),(i,.dead)] := h _ hne
end
section
variable {P : Program} {g : Gh} {t : List (Nat × SV)} {h : List (Nat × GB)} {n : Nat} {Q : Exit → St → Prop} {ops : Array Oper} {l : List Oper}
theorem isnil_run {T e : TypeId} {w : World} {ad : Option Addr} {len cap : Nat} (hU : P.underlying T = some (.slice e)) : (Op.equal T (.slice ad len cap) (.slice none 0 0)).run P w = .ok ad.isNone w := by
  have key : ∀ d,(Op.equalIn (d + 1) T (.slice ad len cap) (.slice none 0 0)).run P w = .ok ad.isNone w := by
    intro d
    cases ad with
    | none => simp [Op.equalIn,run_underlying hU]
    | some a => simp [Op.equalIn,run_underlying hU]
  exact key 9999
theorem o_isnil {α : Type} {E : Enc α} {xs : List α} {x : Operand} {c : C} {d zz T U e : Nat} {ty : TypeId} {pos : String} {after : Array Edge} (hc : opd ⟨t,h,n⟩ x = .one c) (hs : slv ⟨t,h,n⟩ c = some (zz,rows E xs)) (hU : P.underlying T = some (.slice e)) (hd : Nat.blt d g.n = true) (hz : E.z = zz)
    (hk : ∀ b,(b = true → xs = []) → GOps P g ops l ⟨(d,.one (boo b)) :: t,h,n⟩ Q) : GOps P g ops (⟨some d,.binOp .eql T x (.const (.slice none 0 0)) U,ty,pos,after,none⟩ :: l) ⟨t,h,n⟩ Q := by
  subst hz
  refine ⟨fun a w S ρ F hr hf => ?_⟩
  obtain ⟨ow,G,hrep⟩ := hr.slv (opd_one hr hc) hs
  have hrep' := hrep
  obtain ⟨ad,len,cap,hv,h1,h2,h3,h4⟩ := sl_len hrep
  have hx : ad = none → xs = [] := by
    rintro rfl
    rw [hv] at hrep'
    simp only [Rep] at hrep'
    obtain ⟨a',l',c',e',h5,h6,h7,h8⟩ := hrep'
    simp only [Value.slice.injEq] at e'
    obtain ⟨rfl,rfl,rfl⟩ := e'
    rcases h8 with ⟨_,h8⟩ | ⟨b,off,vs,G',h8,_⟩
    · rw [rows_len] at h1
      have : len = 0 := by omega
      rw [this,Nat.zero_mul] at h1
      exact List.eq_nil_of_length_eq_zero ((Nat.mul_eq_zero.1 h1).resolve_right (by omega))
    · cases h8
  refine wpListIn_plain rfl fun K hK => ?_
  refine oper_in (fun _ h => nomatch h) ?_
  have hrun : (execOp a.eval ⟨some d,.binOp .eql T x (.const (.slice none 0 0)) U,ty,pos,after,none⟩).run P w = .ok (.value (.bool ad.isNone)) w := by
    show (do pure (.value (← (do eqGuard .eql T x (.const (.slice none 0 0)) (a.eval x) (.slice none 0 0); binOp .eql T (a.eval x) (.slice none 0 0)))) : Sem Next).run P w = _
    rw [hv]
    simp [eqGuard,binOp,isnil_run hU]
  rw [hrun,Oper.uponIn_value]
  refine hK _ _ ((hk ad.isNone (fun e => hx (by simpa using e))).run _ _ _ _ _ (hr.done (n := n) (Done.nil w S ρ F) (dst := some d) (sv := .one (boo ad.isNone)) (fun d' e => by cases e; exact blt_lt hd) ⟨rfl,rfl⟩) (fun i hi => hf i hi))
end
inductive Pick : List Nat → List (Nat × SV) → List (Nat × SV) → Prop where
  | nil {t : List (Nat × SV)} : Pick [] t []
  | one {i : Nat} {l : List Nat} {t r : List (Nat × SV)} {c : C} (e : lkS t i = .one c) (h : Pick l t r) : Pick (i :: l) t ((i,.one c) :: r)
  | agg {i : Nat} {l : List Nat} {t r : List (Nat × SV)} {c : List C} (e : lkS t i = .agg c) (h : Pick l t r) : Pick (i :: l) t ((i,.agg c) :: r)
  | tup {i : Nat} {l : List Nat} {t r : List (Nat × SV)} {c : List (Bool × List C)} (e : lkS t i = .tup c) (h : Pick l t r) : Pick (i :: l) t ((i,.tup c) :: r)
  | any {i : Nat} {l : List Nat} {t r : List (Nat × SV)} (h : Pick l t r) : Pick (i :: l) t r
inductive PickH (ex : List Nat) (t : List (Nat × GB)) : Nat → List (Nat × GB) → Prop where
  | zero : PickH ex t 0 []
  | row {i z : Nat} {xs : List D} {r : List (Nat × GB)} (hx : memB i ex = false) (e : lkG t i = .row z xs) (h : PickH ex t i r) : PickH ex t (i + 1) ((i,.row z xs) :: r)
  | sh {i z : Nat} {xs : List D} {r : List (Nat × GB)} (hx : memB i ex = false) (e : lkG t i = .sh z xs) (h : PickH ex t i r) : PickH ex t (i + 1) ((i,.sh z xs) :: r)
  | bx {i : Nat} {cs : List C} {r : List (Nat × GB)} (hx : memB i ex = false) (e : lkG t i = .bx cs) (h : PickH ex t i r) : PickH ex t (i + 1) ((i,.bx cs) :: r)
  | mp {i : Nat} {kv : List (Value × Value)} {r : List (Nat × GB)} (hx : memB i ex = false) (e : lkG t i = .mp kv) (h : PickH ex t i r) : PickH ex t (i + 1) ((i,.mp kv) :: r)
  | isv {i : Nat} {v : Value} {r : List (Nat × GB)} (hx : memB i ex = false) (e : lkG t i = .isv v) (h : PickH ex t i r) : PickH ex t (i + 1) ((i,.isv v) :: r)
  | opq {i : Nat} {R : Opq} {cs : List Nat} {r : List (Nat × GB)} (hx : memB i ex = false) (e : lkG t i = .opq R cs) (h : PickH ex t i r) : PickH ex t (i + 1) ((i,.opq R cs) :: r)
  | bld {i T k : Nat} {l : List UInt8} {r : List (Nat × GB)} (hx : memB i ex = false) (e : lkG t i = .bld T k l) (h : PickH ex t i r) : PickH ex t (i + 1) ((i,.bld T k l) :: r)
  | lp {i l : Nat} {v : Loop} {r : List (Nat × GB)} (hx : memB i ex = false) (e : lkG t i = .lp l v) (h : PickH ex t i r) : PickH ex t (i + 1) ((i,.lp l v) :: r)
  | out {i : Nat} {r : List (Nat × GB)} (h : PickH ex t i r) : PickH ex t (i + 1) r
section
variable {P : Program} {g : Gh} {Q : Exit → St → Prop} {t t0 : List (Nat × SV)} {h h0 : List (Nat × GB)} {n : Nat}
theorem g_loop_id {c : Code} {st : St} (h : GWp P g (.loop c) st Q) : GWp P g (.loop c) st Q := h
theorem g_loopU {α : Type} (live ex : List Nat) (I : α → Prop) (ut : α → List (Nat × SV)) (uh : α → List (Nat × GB)) (μ : α → Nat) (x0 : α) (θ : List Nat) {c : Code} (hp : Pick live t t0) (hq : PickH ex h n h0) (hin : StLe g.k θ ⟨t,h,n⟩ ⟨ut x0 ++ t0,uh x0 ++ h0,n⟩) (hI : I x0)
    (hr : ∀ x,I x → GWp P g c ⟨ut x ++ t0,uh x ++ h0,n⟩ (qLoop g.k I (fun x => ⟨ut x ++ t0,uh x ++ h0,n⟩) μ (μ x) Q)) : GWp P g (.loop c) ⟨t,h,n⟩ Q :=
  g_loop I (fun x => ⟨ut x ++ t0,uh x ++ h0,n⟩) μ x0 θ hI hin hr
theorem q_again {α : Type} {k : Nat} {I : α → Prop} {T : α → St} {μ : α → Nat} {m : Nat} {st : St} (x : α) (θ : List Nat) (hl : StLe k θ st (T x)) (hI : I x) (hm : μ x < m) : qLoop k I T μ m Q .normal st := .again x θ hI hm hl
theorem stle {k m : Nat} {θ : List Nat} {st : St} {t' : List (Nat × SV)} {h' : List (Nat × GB)} (h1 : leT (thF θ) st t') (h2 : leH (thF θ) m st h') (hn : m = θ.length) (hpin : pinB k θ = true) (nd : nodupB θ = true) (lt : allT m t' = true) (lh : allH m h' = true) : StLe k θ st ⟨t',h',m⟩ := ⟨hpin,nd,hn,h1,h2,lt,lh⟩
end
def Conv (g : Gh) (st st' : St) : Prop := ∀ a w S ρ F,Rel g st a w S ρ F → Fresh st ρ → ∃ S' ρ' F',Rel g st' a w S' ρ' F' ∧ Fresh st' ρ'
theorem g_conv {P : Program} {g : Gh} {st st' : St} {c : Code} {Q : Exit → St → Prop} (h : Conv g st st') (hk : GWp P g c st' Q) : GWp P g c st Q := ⟨fun a w S ρ F hr hf =>
  let ⟨S',ρ',F',h1,h2⟩ := h a w S ρ F hr hf; hk.run a w S' ρ' F' h1 h2⟩
theorem o_conv {P : Program} {g : Gh} {st st' : St} {ops : Array Oper} {l : List Oper} {Q : Exit → St → Prop} (h : Conv g st st') (hk : GOps P g ops l st' Q) : GOps P g ops l st Q := ⟨fun a w S ρ F hr hf =>
  let ⟨S',ρ',F',h1,h2⟩ := h a w S ρ F hr hf; hk.run a w S' ρ' F' h1 h2⟩
abbrev nilC : C := .d (.sc (.slice none 0 0))
theorem rep_nil {w : World} {S F : Foot} {z : Nat} (hz : 0 < z) : Rep w S (.sl true z []) (.slice none 0 0) F := by
  simp only [Rep]
  exact ⟨none,0,0,rfl,by simp,hz,Nat.le_refl _,.inl ⟨rfl,fun _ => rfl⟩⟩
section
variable {g : Gh} {t : List (Nat × SV)} {h : List (Nat × GB)} {n : Nat} {a : Act} {w : World} {S : Foot} {ρ : Env} {F : Nat → Foot}
theorem Rel.nilRoot {z : Nat} (hz : 0 < z) (hr : Rel g ⟨t,h,n⟩ a w S ρ F) (hf : Fresh ⟨t,h,n⟩ ρ) :
    ∃ ρ' F',Rel g ⟨t,(n,.row z []) :: h,n + 1⟩ a w S ρ' F' ∧ Fresh ⟨t,(n,.row z []) :: h,n + 1⟩ ρ' ∧ ρ' n = some (.slice none 0 0) := by
  have hn : ρ n = none := hf n (Nat.le_refl n)
  have hle : Env.le ρ (fun j => if j = n then some (.slice none 0 0) else ρ j) := fun i u hi => by
    have : i ≠ n := fun e => by rw [e,hn] at hi; cases hi
    simp only [this,if_false]; exact hi
  refine ⟨fun j => if j = n then some (.slice none 0 0) else ρ j,fun j => if j = n then no else F j,⟨hr.size,hr.defers.same fun j r o hj => ⟨j,by split at hj; exact hj.elim; exact hj⟩,fun j => (hr.slot j).keep (Agree.refl _ _) (le_refl _) hle,fun j => ?_,fun j k hjk => ?_,fun j => ?_,fun j => ?_,fun j b o hb => ?_,hr.exS,hr.old,hr.inS,hr.newS,fun i u hi hu => hle _ _ (hr.pin i u hi hu),hr.tab,(fun ⟨N,hN⟩ => ⟨max N (n + 1),fun i hi => by rw [if_neg (by omega)]; exact hN i (by omega)⟩) hr.fin⟩,fun i hi => ?_,by simp⟩
  · simp only [lkG]
    by_cases hj : j = n
    · subst hj
      have hb : Nat.beq j j = true := by simp
      simp only [hb,cond_true,if_true]
      exact .inr ⟨_,rfl,rep_nil hz⟩
    · simp only [beq_ne hj,cond_false,if_neg hj]
      rcases hr.root j with h0 | ⟨u,r1,r2⟩
      · exact .inl h0
      · exact .inr ⟨u,r1,r2.keep (Agree.refl _ _) (Agree.refl _ _) (le_refl _) hle (le_refl _)⟩
  · by_cases hj : j = n
    · simp only [hj,if_true]; exact no_dis _
    · by_cases hk : k = n
      · simp only [hk,if_true]; exact dis_no _
      · simp only [if_neg hj,if_neg hk]; exact hr.dis j k hjk
  · by_cases hj : j = n
    · simp only [hj,if_true]; exact no_dis _
    · simp only [if_neg hj]; exact hr.disS j
  · by_cases hj : j = n
    · simp only [hj,if_true]; exact no_le _
    · simp only [if_neg hj]; exact hr.own j
  · by_cases hj : j = n
    · simp only [hj,if_true] at hb; exact hb.elim
    · simp only [if_neg hj] at hb; exact hr.ex j b o hb
  · have hi' : n + 1 ≤ i := hi
    have : i ≠ n := by omega
    simp only [this,if_false]
    exact hf i (by show n ≤ i; omega)
theorem lkS_cons (d : Nat) (sv : SV) (t : List (Nat × SV)) (i : Nat) : lkS ((d,sv) :: t) i = if i = d then sv else lkS t i := by
  simp only [lkS]
  by_cases hi : i = d
  · subst hi; simp
  · simp [beq_ne hi,hi]
theorem Rel.setSlot {st : St} {d : Nat} {sv : SV} (hr : Rel g st a w S ρ F) (hv : RepS w S ρ sv (a.tmps.getD d undef)) : Rel g ⟨(d,sv) :: st.t,st.h,st.n⟩ a w S ρ F :=
  ⟨hr.size,hr.defers,fun i => by rw [lkS_cons]; rcases Decidable.em (i = d) with e | e <;> simp only [e,if_true,if_false] <;> first | exact hv | exact hr.slot i,hr.root,hr.dis,hr.disS,hr.own,hr.ex,hr.exS,hr.old,hr.inS,hr.newS,hr.pin,hr.tab,hr.fin⟩
theorem t_nil1 {d z : Nat} (hd : lkS t d = .one nilC) (hz : 0 < z) : Conv g ⟨t,h,n⟩ ⟨(d,.one (.gv n)) :: t,(n,.row z []) :: h,n + 1⟩ := by
  intro a w S ρ F hr hf
  obtain ⟨ρ',F',h1,h2,h3⟩ := hr.nilRoot hz hf
  have hs := h1.slot d
  rw [hd] at hs
  have e : a.tmps.getD d undef = .slice none 0 0 := hs.1
  exact ⟨S,ρ',F',h1.setSlot (d := d) (sv := .one (.gv n)) (by rw [e]; exact ⟨h3,rfl⟩),h2⟩
theorem repCs_nil {w : World} {S : Foot} {ρ : Env} {n : Nat} (hn : ρ n = some (.slice none 0 0)) : ∀ {cs : List C} {vs : List Value} {k : Nat},RepCs w S ρ cs vs → cs[k]? = some nilC → RepCs w S ρ (cs.set k (.gv n)) vs
  | [],_,_,_,h => by simp at h
  | c0 :: cs,vs,0,h,hk => by
    simp only [RepCs] at h
    obtain ⟨v,us,rfl,h1,h2⟩ := h
    simp at hk
    subst hk
    exact ⟨v,us,rfl,⟨by rw [hn,show v = .slice none 0 0 from h1.1],by rw [show v = .slice none 0 0 from h1.1]; rfl⟩,h2⟩
  | c0 :: cs,vs,k + 1,h,hk => by
    simp only [RepCs] at h
    obtain ⟨v,us,rfl,h1,h2⟩ := h
    exact ⟨v,us,rfl,h1,repCs_nil hn h2 (by simpa using hk)⟩
theorem t_nilB {i k z : Nat} {cs : List C} (hd : lkG h i = .bx cs) (hi : Nat.blt i n = true) (hk : cs[k]? = some nilC) (hz : 0 < z) : Conv g ⟨t,h,n⟩ ⟨t,(i,.bx (cs.set k (.gv n))) :: (n,.row z []) :: h,n + 1⟩ := by
  intro a w S ρ F hr hf
  obtain ⟨ρ',F',h1,h2,h3⟩ := hr.nilRoot hz hf
  have hin : i ≠ n := by have := blt_lt hi; omega
  refine ⟨S,ρ',F',⟨h1.size,h1.defers,h1.slot,fun j => ?_,h1.dis,h1.disS,h1.own,h1.ex,h1.exS,h1.old,h1.inS,h1.newS,h1.pin,h1.tab,h1.fin⟩,h2⟩
  have hj0 := h1.root j
  by_cases hj : j = i
  · subst hj
    have hb : Nat.beq j j = true := by simp
    have hb' := beq_ne hin
    simp only [lkG,hb,cond_true]
    simp only [lkG,hb',cond_false] at hj0
    rw [hd] at hj0
    rcases hj0 with h0 | ⟨u,r1,r2⟩
    · cases h0
    · refine .inr ⟨u,r1,?_⟩
      simp only [RepG] at r2 ⊢
      obtain ⟨b,off,vs,q1,q2,q3,q4,q5⟩ := r2
      exact ⟨b,off,vs,q1,q2,repCs_nil h3 q3 hk,by simpa using q4,by simpa using q5⟩
  · have hb := beq_ne hj
    simp only [lkG,hb,cond_false]
    simp only [lkG] at hj0
    exact hj0
end
section
variable {P : Program} {st : St}
theorem ends_id {fn : Func} {k : Nat} {res : SV} {H' : List GB} {e : Exit} (h : Ends P fn k res H' e st) : Ends P fn k res H' e st := h
theorem ends_m {fn : Func} {k : Nat} {l : List (Bool × List C)} {res : SV} {H' : List GB} {e : Exit} (ids : List Nat) (he : e = .normal ∨ e = .ret) (h1 : RessOk P st fn.results.toList l) (h2 : SVLe st.h [] (resSV l) (res.ren (resF k ids))) (h3 : rootsLe (resF k ids) st 0 H') (hl : H'.length = k + ids.length) (nd : nodupB (liveIds (resF k ids) 0 H') = true) (lt : res.lt H'.length = true) (lh : allG H'.length H' = true) : Ends P fn k res H' e st :=
  ⟨he,l,ids,h1,h2,h3,hl,nd,lt,lh⟩
theorem cle_i {hh : List (Nat × GB)} {ld : List Nat} {b b' : Int} (e : b = b') : CLe hh ld (int b) (int b') := by subst e; exact .refl
theorem cle_b {hh : List (Nat × GB)} {ld : List Nat} {b b' : Bool} (e : b = b') : CLe hh ld (boo b) (boo b') := by subst e; exact .refl
theorem bx_eq {gb gb' : GB} {cs cs' : List C} (e1 : gb = .bx cs) (e2 : gb' = .bx cs') (e : cs = cs') : gb = gb' := by subst e1 e2 e; rfl
theorem row_eq {α : Type} {E : Enc α} {z : Nat} {l l' : List α} (e : l = l') : GB.row z (rows E l) = GB.row z (rows E l') := by subst e; rfl
end
end Go.Proofs.YtegpggobfdcafaaGreat
end
section
set_option linter.unusedVariables false
set_option linter.unusedSimpArgs false
set_option maxRecDepth 100000
namespace Go.Proofs.YtegpggobfdcafaaGreat
open Go Foot
def ldRow (row : List D) (T : Nat) : Option SV := bif lk1 tabC T then (match row with | c :: _ => some (.one (.d c)) | [] => none) else match lk2 tabA T with
  | some n => bif Nat.ble n row.length then some (.agg ((row.take n).map C.d)) else none
  | none => none
def ldBx (st : St) (c : C) (T : Nat) : Option SV := match tgt st c with
  | some (i,k) => match lkG st.h i with
    | .bx cs => bif lk1 tabC T then (match cs[k]? with | some c => some (.one c) | none => none) else match lk2 tabA T with
      | some n => bif Nat.ble (k + n) cs.length then some (.agg ((cs.drop k).take n)) else none
      | none => none
    | _ => none
  | none => none
def faP (st : St) (T f : Nat) (c : C) : Option SV := match lk3 tabF T f with
  | some off => match c with
    | .gp i k => some (.one (.gp i (k + off)))
    | .gv i => match lkG st.h i with
      | .bx _ => some (.one (.gp i off))
      | _ => none
    | .d (.bx false row) => some (.one (.d (.bx false (row.drop off))))
    | _ => none
  | none => none
def ldP (st : St) (T : Nat) (c : C) : Option SV := match c with
  | .d (.bx false row) => ldRow row T
  | .gv i => ldBx st (.gv i) T
  | .gp i k => ldBx st (.gp i k) T
  | _ => none
def stepP (st : St) : Op → Option SV
  | .move x => some (opd st x)
  | .assign x => some (opd st x)
  | .pick x y z => match opd st x with
    | .one (.d (.sc (.bool b))) => some (bif b then opd st y else opd st z)
    | _ => none
  | .nilCheck x => match opd st x with
    | .one c => bif isPtr st c then some (.one c) else none
    | _ => none
  | .fieldAddr T x f => match opd st x with
    | .one c => faP st T f c
    | _ => none
  | .load T x => match opd st x with
    | .one c => ldP st T c
    | _ => none
  | .extract x k => match opd st x with
    | .tup l => match l[k]? with
      | some (true,cs) => some (.agg cs)
      | some (false,[c]) => some (.one c)
      | _ => none
    | _ => none
  | .unOp .not _ x => match opd st x with
    | .one (.d (.sc (.bool b))) => some (.one (boo (!b)))
    | _ => none
  | .build T ps => match lk2 tabZ T,lk2 tabU T with
    | some vs,some l => match partCells st l ps.toList with
      | some r => match fillC (vs.map scC) r with
        | some cs => some (.agg cs)
        | none => none
      | none => none
    | _,_ => none
  | .makeInterface T x => bif lk1 tabI T then (match opd st x with
      | .one c => some (.one (.ifc T false [c]))
      | .agg cs => some (.one (.ifc T true cs))
      | _ => none) else none
  | .makeFunc f ⟨[]⟩ cap => match oneCells st cap.toList with
    | some cs => some (.one (.fn f cs))
    | none => none
  | .call ⟨.builtin .len,⟨[x]⟩,⟨[T]⟩⟩ => match lk2 tabS T,opd st x with
    | some _,.one (.d (.sc (.slice none 0 0))) => some (.one (int 0))
    | _,_ => none
  | _ => none
section
variable {g : Gh} {st : St} {dst : Option Tmp} {ty : TypeId} {pos : String} {after : Array Edge} {guard : Option (Nat × Bool)} {op : Op} {sv : SV}
theorem pure_ld {T : Nat} {x : Operand} {c : C} (hc : opd st x = .one c) (h : ldP st T c = some sv) : Acts Tryz.prog g ⟨dst,.load T x,ty,pos,after,guard⟩ st sv [] [] := by
  have hbx : ∀ {c : C},opd st x = .one c → ldBx st c T = some sv → Acts Tryz.prog g ⟨dst,.load T x,ty,pos,after,guard⟩ st sv [] [] := by
    intro c hc h
    unfold ldBx at h
    split at h
    · rename_i i k ht
      split at h
      · rename_i cs hg
        cases hC : lk1 tabC T with
        | true =>
          rw [hC] at h
          simp only [cond_true] at h
          split at h
          · rename_i c' hr
            cases h
            exact a_ld_bx hc ht hg (fC hC) hr
          · cases h
        | false =>
          rw [hC] at h
          simp only [cond_false] at h
          split at h
          · rename_i n hA
            cases hb : Nat.ble (k + n) cs.length with
            | true => rw [hb] at h; simp only [cond_true,Option.some.injEq] at h; subst h; exact a_lds_bx hc ht hg (fA hA) (Nat.le_of_ble_eq_true hb) rfl
            | false => rw [hb] at h; cases h
          · cases h
      · cases h
    · cases h
  unfold ldP at h
  split at h
  · rename_i row
    unfold ldRow at h
    cases hC : lk1 tabC T with
    | true =>
      rw [hC] at h
      simp only [cond_true] at h
      split at h
      · cases h; exact a_ld_imm hc (fC hC) rfl
      · cases h
    | false =>
      rw [hC] at h
      simp only [cond_false] at h
      split at h
      · rename_i n hA
        cases hb : Nat.ble n row.length with
        | true => rw [hb] at h; simp only [cond_true,Option.some.injEq] at h; subst h; exact a_lds_imm hc (fA hA) (Nat.le_of_ble_eq_true hb) rfl
        | false => rw [hb] at h; cases h
      · cases h
  · exact hbx hc h
  · exact hbx hc h
  · cases h
theorem a_pure (h : stepP st op = some sv) : Acts Tryz.prog g ⟨dst,op,ty,pos,after,guard⟩ st sv [] [] := by
  unfold stepP at h
  split at h
  · cases h; exact a_move rfl
  · cases h; exact a_assign rfl
  · split at h
    · rename_i b hb; cases h; exact a_pick hb rfl
    · cases h
  · split at h
    · rename_i c hc
      cases hp : isPtr st c with
      | true => rw [hp] at h; cases h; exact a_nil hc hp
      | false => rw [hp] at h; cases h
    · cases h
  · split at h
    · rename_i c hc
      unfold faP at h
      split at h
      · rename_i off hF
        split at h
        · cases h; exact a_fa_gp hc (fF hF) rfl
        · split at h
          · rename_i hg; cases h; exact a_fa_gv hc hg (fF hF)
          · cases h
        · cases h; exact a_fa_imm hc (fF hF) rfl
        · cases h
      · cases h
    · cases h
  · split at h
    · rename_i c hc; exact pure_ld hc h
    · cases h
  · split at h
    · rename_i l hc
      split at h
      · rename_i cs hk; cases h; exact a_extract hc hk rfl
      · rename_i c hk; cases h; exact a_extract hc hk rfl
      · cases h
    · cases h
  · split at h
    · rename_i b hc; cases h; exact a_un hc rfl
    · cases h
  · rename_i T ps
    split at h
    · rename_i vs l hZ hU
      split at h
      · rename_i r hr
        split at h
        · rename_i cs hf; cases h; exact a_build (ps := ps.toList) (fZ hZ) (fU hU) hr hf
        · cases h
      · cases h
    · cases h
  · rename_i T x
    cases hI : lk1 tabI T with
    | true =>
      rw [hI] at h
      simp only [cond_true] at h
      split at h
      · rename_i c hc; cases h; exact a_ifc hc (fI hI)
      · rename_i cs hc; cases h; exact a_ifcs hc (fI hI)
      · cases h
    | false => rw [hI] at h; cases h
  · rename_i f cap
    split at h
    · rename_i cs hc; cases h; exact a_fn (cap := cap.toList) hc
    · cases h
  · rename_i x T
    split at h
    · rename_i hS hc; cases h; exact a_len_nil hc (fS hS)
    · cases h
  · cases h
def newP (st : St) : Op → Option GB
  | .alloc T => match lk2 tabZ T with
    | some vs => some (.bx (vs.map scC))
    | none => none
  | .box _ x => match (opd st x).cells with
    | some cs => some (.bx cs)
    | none => none
  | _ => none
theorem a_new {i : Nat} {gb : GB} (h : newP st op = some gb) : Acts Tryz.prog g ⟨dst,op,ty,pos,after,guard⟩ st (.one (.gv i)) [] [(i,gb)] := by
  unfold newP at h
  split at h
  · split at h
    · rename_i vs hZ; cases h; exact a_alloc (fZ hZ) rfl
    · cases h
  · split at h
    · rename_i cs hs; cases h; exact a_box hs
    · cases h
  · cases h
theorem a_litE {α : Type} {i : Nat} (E : Enc α) (l : List α) {T z b n : Nat} {ps : List (Nat × Operand)} {cs : List C} {row : List D} (hP : lk2 tabP T = some (z,b)) (hn : ps.length = n) (ho : inOrder 0 ps = true) (hc : catCells st z ps = some cs) (hd : allD st.h cs = some row) (hrow : rows E l = row) (hz : E.z = z) (hsm : Nat.ble (n * z) 16777216 = true) :
    Acts Tryz.prog g ⟨dst,.buildSlice T n ps.toArray,ty,pos,after,guard⟩ st (.one (.gv i)) [] [(i,.row z (rows E l))] := by
  subst hz hrow
  exact a_lit (fP hP) E.pos hn (Nat.le_of_ble_eq_true hsm) ho hc hd
theorem a_quo {x y : Operand} {T U : TypeId} {a b : Int} (e1 : opd st x = .one (int a)) (e2 : opd st y = .one (int b)) (h1 : 0 ≤ a) (h2 : 0 < b) (h3 : a < 9223372036854775808) : Acts Tryz.prog g ⟨dst,.binOp .quo T x y U,ty,pos,after,guard⟩ st (.one (int (a / b))) [] [] := by
  have := a_bin (P := Tryz.prog) (g := g) (dst := dst) (T := T) (U := U) (ty := ty) (pos := pos) (after := after) (guard := guard) (op := .quo) e1 e2 rfl (show b ≠ 0 by omega)
  have h4 : 0 ≤ a / b := Int.ediv_nonneg h1 (by omega)
  have h5 : a / b ≤ a := Int.ediv_le_self b h1
  rwa [Int.tdiv_eq_ediv_of_nonneg h1,wrap64 (by omega) (by omega)] at this
theorem a_rem {x y : Operand} {T U : TypeId} {a b : Int} (e1 : opd st x = .one (int a)) (e2 : opd st y = .one (int b)) (h1 : 0 ≤ a) (h2 : 0 < b) (h3 : b < 9223372036854775808) : Acts Tryz.prog g ⟨dst,.binOp .rem T x y U,ty,pos,after,guard⟩ st (.one (int (a % b))) [] [] := by
  have := a_bin (P := Tryz.prog) (g := g) (dst := dst) (T := T) (U := U) (ty := ty) (pos := pos) (after := after) (guard := guard) (op := .rem) e1 e2 rfl (show b ≠ 0 by omega)
  have h4 : 0 ≤ a % b := Int.emod_nonneg a (by omega)
  have h5 : a % b < b := Int.emod_lt_of_pos a h2
  rwa [Int.tmod_eq_emod_of_nonneg h1] at this
theorem mul_bd {a b : Int} (h1 : -3037000499 ≤ a) (h2 : a ≤ 3037000499) (h3 : -3037000499 ≤ b) (h4 : b ≤ 3037000499) : -9223372036854775808 ≤ a * b ∧ a * b < 9223372036854775808 := by
  have h : (a * b).natAbs ≤ 3037000499 * 3037000499 := by rw [Int.natAbs_mul]; exact Nat.mul_le_mul (by omega) (by omega)
  omega
theorem a_mulB {x y : Operand} {T U : TypeId} {a b : Int} (e1 : opd st x = .one (int a)) (e2 : opd st y = .one (int b)) (h1 : -3037000499 ≤ a) (h2 : a ≤ 3037000499) (h3 : -3037000499 ≤ b) (h4 : b ≤ 3037000499) : Acts Tryz.prog g ⟨dst,.binOp .mul T x y U,ty,pos,after,guard⟩ st (.one (int (a * b))) [] [] :=
  a_mul e1 e2 (mul_bd h1 h2 h3 h4).1 (mul_bd h1 h2 h3 h4).2
theorem a_nilO {α : Type} (E : Enc α) {x : Operand} {i : Nat} (hc : opd st x = .one nilC) : Acts Tryz.prog g ⟨dst,.assign x,ty,pos,after,guard⟩ st (.one (.gv i)) [] [(i,.row E.z (rows E []))] := by
  refine ⟨fun a w S ρ F h hn K Q hK => ?_⟩
  have hn' : ρ i = none := by simpa using hn (i,.row E.z (rows E [])) (by simp)
  have hx := opd_sc h hc
  have hrun : (execOp a.eval ⟨dst,.assign x,ty,pos,after,guard⟩).run Tryz.prog w = .ok (.value (.slice none 0 0)) w := by rw [← hx]; rfl
  refine oper_in (fun _ h => nomatch h) ?_
  rw [hrun,Oper.uponIn_value]
  exact hK _ w no _ _ (Done.new (S1 := no) (G := no) (Keeps.refl _ _) hn' (fun ρ' hl _ => rep_nil E.pos) (fun _ _ h => h.elim)) ⟨by simp,rfl⟩
theorem bnd_no {d : Nat} : bndOk st d none d := rfl
theorem bnd_i {d : Nat} {x : Operand} {i : Int} (e : opd st x = .one (int i)) (h : 0 ≤ i) : bndOk st d (some x) i.toNat := ⟨_,i,e,h,rfl⟩
theorem sl_tail {α : Type} (E : Enc α) (l : List α) (a : Nat) : ((rows E l).drop (a * E.z)).take ((l.length - a) * E.z) = rows E (l.drop a) := by
  rw [rows_drop,← List.length_drop,rows_take,List.take_length]
theorem sl_head {α : Type} (E : Enc α) (l : List α) (b : Nat) : ((rows E l).drop (0 * E.z)).take ((b - 0) * E.z) = rows E (l.take b) := by
  rw [rows_drop,rows_take]; simp
theorem a_slT {α : Type} {E : Enc α} {l : List α} {x lo : Operand} {T zz : Nat} {c : C} {a : Int} (hc : opd st x = .one c) (hs : shv st c = some (zz,rows E l)) (hlo : opd st lo = .one (int a)) (hT : sliceB Tryz.prog T zz = true) (h0 : 0 ≤ a) (h1 : a ≤ l.length) (hz : E.z = zz) :
    Acts Tryz.prog g ⟨dst,.slice T x (some lo) none none,ty,pos,after,guard⟩ st (.one (.d (.sl false zz (rows E (l.drop a.toNat))))) [] [] := by
  subst hz
  exact a_slice_imm hc hs (bnd_i hlo h0) (by rw [cnt_rows']; exact bnd_no) hT (by omega) (by rw [cnt_rows']; exact Nat.le_refl _) (sl_tail E l _)
theorem a_slH {α : Type} {E : Enc α} {l : List α} {x hi : Operand} {T zz : Nat} {c : C} {b : Int} (hc : opd st x = .one c) (hs : shv st c = some (zz,rows E l)) (hhi : opd st hi = .one (int b)) (hT : sliceB Tryz.prog T zz = true) (h0 : 0 ≤ b) (h1 : b ≤ l.length) (hz : E.z = zz) :
    Acts Tryz.prog g ⟨dst,.slice T x none (some hi) none,ty,pos,after,guard⟩ st (.one (.d (.sl false zz (rows E (l.take b.toNat))))) [] [] := by
  subst hz
  exact a_slice_imm hc hs bnd_no (bnd_i hhi h0) hT (by omega) (by rw [cnt_rows']; omega) (sl_head E l _)
theorem a_slHO {α : Type} {E : Enc α} {l : List α} {x hi : Operand} {T zz i j : Nat} {b : Int} (hc : opd st x = .one (.gv i)) (hg : lkG st.h i = .row zz (rows E l)) (hhi : opd st hi = .one (int b)) (hT : sliceB Tryz.prog T zz = true) (h0 : 0 ≤ b) (h1 : b ≤ l.length) (hz : E.z = zz) (hji : ¬ j = i) :
    Acts Tryz.prog g ⟨dst,.slice T x none (some hi) none,ty,pos,after,guard⟩ st (.one (.gv j)) [i] [(j,.row zz (rows E (l.take b.toNat))),(i,.dead)] := by
  subst hz
  exact a_slice_own hc hg bnd_no (bnd_i hhi h0) hT (by omega) (by rw [cnt_rows']; omega) (sl_head E l _) hji
end
end Go.Proofs.YtegpggobfdcafaaGreat
end
