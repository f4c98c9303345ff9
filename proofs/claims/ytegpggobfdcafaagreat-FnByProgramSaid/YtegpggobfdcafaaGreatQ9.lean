/- Parts of the proof (9 of 19). -/
import Derived.Laws.Append
import Derived.Laws.IdiomCopy
import Derived.Test.YtegpggobfdcafaaGreatQ8
section
set_option linter.unusedVariables false
set_option linter.unusedSimpArgs false
set_option maxRecDepth 100000
namespace Go.Proofs.YtegpggobfdcafaaGreat
open Go Foot
section
variable {P : Program} {g : Gh} {st : St}
variable {dst : Option Tmp} {ty : TypeId} {pos : String} {after : Array Edge} {guard : Option (Nat × Bool)} {x y : Operand} {T : TypeId}
theorem rel_row {a : Act} {w : World} {S : Foot} {ρ : Env} {F : Nat → Foot} {z i : Nat} {ys : List D} (h : Rel g st a w S ρ F) (hg : lkG st.h i = .row z ys) :
    ∃ ad len cap,ρ i = some (.slice ad len cap) ∧ ys.length = len * z ∧ 0 < z ∧ len ≤ cap ∧ ((cap = 0 ∧ ad = none) ∨ ∃ b off vs G,ad = some ⟨b,off,none⟩ ∧ lies w b off vs ∧ Reps w S ys vs G ∧ le (rng b off (cap * z)) (F i) ∧ le G (F i) ∧ dis (rng b off (cap * z)) G ∧ free w b off (cap * z)) := by
  rcases h.root i with h0 | ⟨u,r1,r2⟩
  · rw [hg] at h0; cases h0
  rw [hg] at r2
  simp only [RepG,Rep,if_true] at r2
  obtain ⟨ad,len,cap,rfl,e1,e2,e3,e4⟩ := r2
  refine ⟨ad,len,cap,r1,e1,e2,e3,e4.imp (fun h => ⟨h.1,h.2 trivial⟩) fun ⟨b,off,vs,G,h⟩ => ⟨b,off,vs,G,h⟩⟩
theorem a_slG {zz l u i : Nat} {row : List D} {lo hi : Option Operand} (hx : opd st x = .one (.gv i)) (hg : lkG st.h i = .row zz row) (hlo : bndOk st 0 lo l) (hhi : bndOk st (cnt zz row) hi u) (hT : sliceB P T zz = true) (h1 : l ≤ u) (h2 : u ≤ cnt zz row) :
    Acts P g ⟨dst,.slice T x lo hi none,ty,pos,after,guard⟩ st (.one (.gs i zz l u)) [] [] := by
  refine acts_of fun a w S ρ F h => ?_
  obtain ⟨ad,len,cap,r1,e1,e2,e3,_⟩ := rel_row h hg
  have hx1 := (opd_one h hx).1
  rw [r1] at hx1
  simp only [Option.some.injEq] at hx1
  have hcn : cnt zz row = len := by unfold cnt; rw [e1]; exact Nat.mul_div_cancel _ e2
  rw [hcn] at hhi h2
  refine ⟨.slice (if cap = l then ad else ad.map (·.add (l * zz))) (u - l) (cap - l),?_,⟨ad,len,cap,r1,h1,by omega,rfl⟩⟩
  show (do pure (.value (← Instr.sliceAt T (a.eval x) (lo.map a.eval) (hi.map a.eval) (none.map a.eval))) : Sem Next).run P w = _
  rw [← hx1]
  have := run_slice (P := P) (w := w) (ad := ad) (cap := cap) hT (bnd_eval h hlo) (bnd_eval h hhi) h1 h2 e3
  simp only [Option.map_none,Sem.run_bind,this]
  rfl
theorem a_slTG {α : Type} {E : Enc α} {l : List α} {lo : Operand} {zz i : Nat} {a : Int} (hc : opd st x = .one (.gv i)) (hg : lkG st.h i = .row zz (rows E l)) (hlo : opd st lo = .one (int a)) (hT : sliceB P T zz = true) (h0 : 0 ≤ a) (h1 : a ≤ l.length) (hz : E.z = zz) :
    Acts P g ⟨dst,.slice T x (some lo) none none,ty,pos,after,guard⟩ st (.one (.gs i zz a.toNat l.length)) [] [] := by
  subst hz
  exact a_slG hc hg ⟨_,a,hlo,h0,rfl⟩ (by show l.length = _; rw [cnt_rows']) hT (by omega) (by rw [cnt_rows']; omega)
theorem a_slHG {α : Type} {E : Enc α} {l : List α} {hi : Operand} {zz i : Nat} {b : Int} (hc : opd st x = .one (.gv i)) (hg : lkG st.h i = .row zz (rows E l)) (hhi : opd st hi = .one (int b)) (hT : sliceB P T zz = true) (h0 : 0 ≤ b) (h1 : b ≤ l.length) (hz : E.z = zz) :
    Acts P g ⟨dst,.slice T x none (some hi) none,ty,pos,after,guard⟩ st (.one (.gs i zz 0 b.toNat)) [] [] := by
  subst hz
  exact a_slG hc hg rfl ⟨_,b,hhi,h0,rfl⟩ hT (by omega) (by rw [cnt_rows']; omega)
theorem run_copyZ {w : World} {z : Nat} {sT ty : TypeId} {b o dLen dCap sLen sCap n : Nat} {a : Addr} {cs : List Value} (hT : sliceB P T z = true) (hn : Nat.min sLen dLen = n) (hl : cs.length = n * z)
    (hsrc : ∀ j v,cs[j]? = some v → w.cell? (a.add j) = some v) (hf : free w b o cs.length) (h1 : ∀ v ∈ cs,v.oneCell' = true) :
    (Builtin.copy_ #[T,sT] ty #[.slice (some ⟨b,o,none⟩) dLen dCap,.slice (some a) sLen sCap]).run P w = .ok (goInt n) (w.setCells b o cs) := by
  unfold sliceB at hT
  split at hT
  · rename_i e hu
    split at hT
    · rename_i i hi
      have hs := Nat.eq_of_beq_eq_true hT
      subst hs
      have h2 := run_firstCells_some (P := P) w i.size n a sLen sCap cs hl hsrc
      have h3 := run_storeCells_cells (P := P) b o cs 0 w (fun j hj => by rw [Nat.add_zero]; exact (hf j hj).1) (fun j hj => by rw [Nat.add_zero]; exact (hf j hj).2) h1
      rw [Nat.add_zero] at h3
      simp [Builtin.copy_,run_underlying hu,Builtin.lenOf,sizeOf,typeInfo,hi,hn,h2,h3]
    · cases hT
  · cases hT
theorem run_copy0 {w : World} {z : Nat} {sT ty : TypeId} {d a : Option Addr} {dLen dCap sLen sCap : Nat} (hT : sliceB P T z = true) (hn : Nat.min sLen dLen = 0) :
    (Builtin.copy_ #[T,sT] ty #[.slice d dLen dCap,.slice a sLen sCap]).run P w = .ok (goInt 0) w := by
  unfold sliceB at hT
  split at hT
  · rename_i e hu
    split at hT
    · rename_i i hi
      have hl : ∀ (x : Addr),(loadCells x 0).run P w = .ok #[] w := fun x => by simpa using run_loadCells_list (P := P) w x [] (by simp)
      cases d <;> cases a <;> simp [Builtin.copy_,run_underlying hu,Builtin.lenOf,Builtin.firstCells,sizeOf,typeInfo,hi,hn,storeCells,hl]
    · cases hT
  · cases hT
theorem setRow_all {α : Type} {b ds : List α} (h : b.length = ds.length) : setRow b 0 ds = ds := by
  apply List.ext_getElem?
  intro i
  rw [setRow_get ds b 0 i (by omega)]
  split
  · simp
  · rw [List.getElem?_eq_none (by omega),List.getElem?_eq_none (by omega)]
theorem rows_copy {α : Type} (E : Enc α) {l k : List α} {lo : Nat} (h : lo + k.length ≤ l.length) : setRow (rows E l) (lo * E.z) (rows E k) = rows E (l.take lo ++ k ++ l.drop (lo + k.length)) := by
  have h0 : l = l.take lo ++ ((l.drop lo).take k.length ++ l.drop (lo + k.length)) := by rw [← List.drop_drop,List.take_append_drop,List.take_append_drop]
  have h1 : rows E l = rows E (l.take lo) ++ (rows E ((l.drop lo).take k.length) ++ rows E (l.drop (lo + k.length))) := by
    conv => lhs; rw [h0]
    rw [← rows_app,← rows_app]
  have h2 : lo * E.z = (rows E (l.take lo)).length + 0 := by rw [rows_len,List.length_take,Nat.add_zero]; congr 1; omega
  have h3 : (rows E ((l.drop lo).take k.length)).length = (rows E k).length := by rw [rows_len,rows_len,List.length_take,List.length_drop]; congr 1; omega
  rw [h1,h2,setRow_app (rows E k) _ _ _ 0 (by omega),setRow_all h3,← rows_app,← rows_app,List.append_assoc]
theorem copy_core {α : Type} {E : Enc α} {l k : List α} {a : Act} {w : World} {S : Foot} {ρ : Env} {F : Nat → Foot} {i lo b off len cap : Nat} {vs us : List Value} {G : Foot} (h : Rel g st a w S ρ F) (hk : lo + k.length ≤ l.length) (hus : Reps w S (rows E k) us no)
    (r1 : ρ i = some (.slice (some ⟨b,off,none⟩) len cap)) (e1 : (rows E l).length = len * E.z) (e3 : len ≤ cap) (f1 : lies w b off vs) (f2 : Reps w S (rows E l) vs G) (f3 : le (rng b off (cap * E.z)) (F i)) (f4 : le G (F i)) (f5 : dis (rng b off (cap * E.z)) G) (f6 : free w b off (cap * E.z)) (hpos : 0 < k.length) :
    Done w (w.setCells b (off + lo * E.z) us) S no ρ ρ F (fun j => if j = i then F i else F j) [i] [(i,.row E.z (rows E (l.take lo ++ k ++ l.drop (lo + k.length))))] := by
  have hul := hus.length
  rw [rows_len] at hul e1
  have hvl := f2.length
  rw [rows_len] at hvl
  have hz := E.pos
  have hlen : l.length = len := Nat.eq_of_mul_eq_mul_right hz e1
  have hm1 : lo * E.z + k.length * E.z ≤ l.length * E.z := by rw [← Nat.add_mul]; exact Nat.mul_le_mul_right _ hk
  have hm2 : l.length * E.z ≤ cap * E.z := by rw [hlen]; exact Nat.mul_le_mul_right _ e3
  have hkz : 0 < k.length * E.z := Nat.mul_pos hpos hz
  have hfr : free w b (off + lo * E.z) us.length := by
    intro j hj
    have := f6 (lo * E.z + j) (by omega)
    rwa [← Nat.add_assoc] at this
  have hks := keeps_sets b us (off + lo * E.z) w
  have hin : le (rng b (off + lo * E.z) us.length) (F i) := fun b' o' ⟨q1,q2,q3⟩ => f3 b' o' ⟨q1,by omega,by omega⟩
  have hk' := hks.mono hin
  have hbl : b < w.heap.size := block_lt (f6 0 (by omega)).1
  have hagS : Agree w (w.setCells b (off + lo * E.z) us) S := hk'.agree h.exS (fun b o hb hf => h.disS i b o hf hb)
  have hagG : Agree w (w.setCells b (off + lo * E.z) us) G := hks.agree (fun b o hb => h.ex i b o (f4 b o hb)) (fun b' o' hb ⟨q1,q2,q3⟩ => f5 b' o' ⟨q1,by omega,by omega⟩ hb)
  have r3 : ∀ j u,us[j]? = some u → (w.setCells b (off + lo * E.z) us).cell? ⟨b,off + lo * E.z + j,none⟩ = some u := by
    intro j u hj
    obtain ⟨hj',rfl⟩ := List.getElem?_eq_some_iff.1 hj
    exact World.cell?_setCells_in b us (off + lo * E.z) w (fun j hj => (hfr j hj).1) j hj'
  have r4 : ∀ b' o',(w.setCells b (off + lo * E.z) us).frozen? ⟨b',o',none⟩ = w.frozen? ⟨b',o',none⟩ := fun b' o' => World.frozen?_setCells b us _ w _
  refine Done.chg (G := F i) hk' r1 ?_ (fun b o hb => ⟨.inl hb,Nat.lt_of_lt_of_le (h.ex i b o hb) hk'.size⟩)
  rw [← rows_copy E hk]
  simp only [RepG,Rep,if_true]
  refine ⟨_,len,cap,rfl,by rw [setRow_length,rows_len]; exact e1,hz,e3,.inr ⟨b,off,setRow vs (lo * E.z) us,G,rfl,lies_stored (F0 := no) f1 (fun _ => hbl) hks r3 (by omega),(Reps.setRow f2 hus (by rw [rows_len,rows_len]; exact hm1)).keep hagG hagS (le_refl _) (le_refl _),f3,f4,f5,?_⟩⟩
  exact free_stored f6 (fun _ => hbl) hks r3 r4
theorem copy_same {α : Type} {E : Enc α} {l k : List α} {a : Act} {w : World} {S : Foot} {ρ : Env} {F : Nat → Foot} {i lo : Nat} (h : Rel g st a w S ρ F) (hg : lkG st.h i = .row E.z (rows E l)) (hk : k.length = 0) : Done w w S no ρ ρ F (fun j => if j = i then F i else F j) [i] [(i,.row E.z (rows E (l.take lo ++ k ++ l.drop (lo + k.length))))] := by
  have hk0 : k = [] := List.eq_nil_of_length_eq_zero hk
  subst hk0
  rcases h.root i with h0 | ⟨u,r1,r2⟩
  · rw [hg] at h0; cases h0
  rw [hg] at r2
  refine Done.chg (G := F i) (Keeps.refl _ _) r1 ?_ (fun b o hb => ⟨.inl hb,h.ex i b o hb⟩)
  simp only [List.append_nil,List.length_nil,Nat.add_zero,List.take_append_drop]
  exact r2
theorem run_cp {a : Act} {w w' : World} {sT : Nat} {v v1 v2 : Value} (e1 : a.eval x = v1) (e2 : a.eval y = v2) (h : (Builtin.copy_ #[T,sT] ty #[v1,v2]).run P w = .ok v w') : (execOp a.eval ⟨dst,.call { callee := .builtin .copy,args := #[x,y],argTypes := #[T,sT] },ty,pos,after,guard⟩).run P w = .ok (.value v) w' := by
  simp only [execOp,resolve,invoke,builtin]
  simp [e1,e2,h,builtin]
theorem a_copyG {α : Type} {E : Enc α} {l l' : List α} {i zz lo hi c d n : Nat} {sT : TypeId} {r : Int} (hx : opd st x = .one (.gs i zz lo hi)) (hy : opd st y = .one (.gs i zz c d)) (hg : lkG st.h i = .row zz (rows E l)) (hT : sliceB P T zz = true) (hz : E.z = zz) (hno : D.noOwn.all (rows E l)) (h1 : hi ≤ l.length) (h2 : d ≤ l.length) (hn : Nat.min (d - c) (hi - lo) = n) (hr : (n : Int) = r) (he : l.take lo ++ (l.drop c).take n ++ l.drop (lo + n) = l') :
    Acts P g ⟨dst,.call { callee := .builtin .copy,args := #[x,y],argTypes := #[T,sT] },ty,pos,after,guard⟩ st (.one (int r)) [i] [(i,.row zz (rows E l'))] := by
  subst hz hr he
  refine ⟨fun a w S ρ F h _ K Q hK => ?_⟩
  obtain ⟨ad,len,cap,r1,e1,e2,e3,e4⟩ := rel_row h hg
  obtain ⟨ad1,len1,cap1,q1,q2,q3,q4⟩ := opd_one h hx
  obtain ⟨ad2,len2,cap2,p1,p2,p3,p4⟩ := opd_one h hy
  rw [r1] at q1 p1
  simp only [Option.some.injEq,Value.slice.injEq] at q1 p1
  obtain ⟨rfl,rfl,rfl⟩ := q1
  obtain ⟨rfl,rfl,rfl⟩ := p1
  rw [rows_len] at e1
  have hlen : l.length = len := Nat.eq_of_mul_eq_mul_right e2 e1
  have hnl : n ≤ d - c := by rw [← hn]; exact Nat.min_le_left _ _
  have hnr : n ≤ hi - lo := by rw [← hn]; exact Nat.min_le_right _ _
  have hkl : ((l.drop c).take n).length = n := by rw [List.length_take,List.length_drop]; omega
  refine oper_in (fun _ h => nomatch h) ?_
  by_cases h0 : n = 0
  · have hrun := run_cp (dst := dst) (pos := pos) (after := after) (guard := guard) q4 p4 (run_copy0 (P := P) (w := w) (T := T) (sT := sT) (ty := ty) (d := if cap = lo then ad else ad.map (·.add (lo * E.z))) (a := if cap = c then ad else ad.map (·.add (c * E.z))) (dLen := hi - lo) (dCap := cap - lo) (sLen := d - c) (sCap := cap - c) hT (hn.trans h0))
    rw [hrun,Oper.uponIn_value]
    have := copy_same (k := (l.drop c).take n) (lo := lo) h hg (by omega)
    rw [hkl] at this
    exact hK _ w no ρ _ this ⟨by rw [h0]; rfl,rfl⟩
  · rcases e4 with ⟨e5,_⟩ | ⟨b,off,vs,G,rfl,f1,f2,f3,f4,f5,f6⟩
    · omega
    have hvl := f2.length
    rw [rows_len] at hvl
    have hcl : ¬ cap = lo := by omega
    have hcc : ¬ cap = c := by omega
    have hadd : ∀ k,(Addr.mk b off none).add k = ⟨b,off + k,none⟩ := by intro k; unfold Addr.add; split <;> simp_all
    rw [if_neg hcl] at q4
    rw [if_neg hcc] at p4
    simp only [Option.map_some,hadd] at q4 p4
    have hus : Reps w S (rows E ((l.drop c).take n)) ((vs.drop (c * E.z)).take (n * E.z)) no := by
      have := ((f2.noOwn hno).drop (c * E.z)).take (n * E.z)
      rwa [rows_drop,rows_take] at this
    have hul := hus.length
    rw [rows_len,hkl] at hul
    have hmul : lo * E.z + n * E.z ≤ cap * E.z := by rw [← Nat.add_mul]; exact Nat.mul_le_mul_right _ (by omega)
    have hsrc : ∀ j v,((vs.drop (c * E.z)).take (n * E.z))[j]? = some v → w.cell? ((Addr.mk b (off + c * E.z) none).add j) = some v := by
      intro j v hv
      have h3 := ((f1.drop (c * E.z)).take (n * E.z)) j v hv
      have h4 : (Addr.mk b (off + c * E.z) none).add j = ⟨b,off + c * E.z + j,none⟩ := by unfold Addr.add; split <;> simp_all
      rw [h4]
      exact h3
    have hrun := run_cp (dst := dst) (pos := pos) (after := after) (guard := guard) q4 p4 (run_copyZ (P := P) (w := w) (T := T) (sT := sT) (ty := ty) (n := n) (dCap := cap - lo) (sCap := cap - c) hT hn hul hsrc (fun j hj => by rw [Nat.add_assoc]; exact f6 _ (by omega)) hus.one)
    rw [hrun,Oper.uponIn_value]
    have := copy_core (k := (l.drop c).take n) (lo := lo) h (by omega) hus r1 (by rw [rows_len]; exact e1) e3 f1 f2 f3 f4 f5 f6 (by omega)
    rw [hkl] at this
    exact hK _ _ no ρ _ this ⟨rfl,rfl⟩
theorem a_copyV {α : Type} {E : Enc α} {l m l' : List α} {i zz n : Nat} {c2 : C} {sT : TypeId} {r : Int} (hx : opd st x = .one (.gv i)) (hy : opd st y = .one c2) (hs : slv st c2 = some (zz,rows E m)) (hg : lkG st.h i = .row zz (rows E l)) (hT : sliceB P T zz = true) (hz : E.z = zz) (hno : D.noOwn.all (rows E m)) (hn : Nat.min m.length l.length = n) (hr : (n : Int) = r) (he : m.take n ++ l.drop n = l') :
    Acts P g ⟨dst,.call { callee := .builtin .copy,args := #[x,y],argTypes := #[T,sT] },ty,pos,after,guard⟩ st (.one (int r)) [i] [(i,.row zz (rows E l'))] := by
  subst hz hr he
  refine ⟨fun a w S ρ F h _ K Q hK => ?_⟩
  obtain ⟨ad,len,cap,r1,e1,e2,e3,e4⟩ := rel_row h hg
  have q4 := (opd_one h hx).1
  rw [r1] at q4
  simp only [Option.some.injEq] at q4
  obtain ⟨ad2,len2,cap2,us,p4,p5,p6,p7,p8,p9⟩ := rel_src h (opd_one h hy) hs hno
  rw [rows_len] at e1 p5
  have hlen : l.length = len := Nat.eq_of_mul_eq_mul_right e2 e1
  have hlen2 : m.length = len2 := Nat.eq_of_mul_eq_mul_right e2 p5
  have hnl : n ≤ m.length := by rw [← hn]; exact Nat.min_le_left _ _
  have hnr : n ≤ l.length := by rw [← hn]; exact Nat.min_le_right _ _
  have hkl : (m.take n).length = n := by rw [List.length_take]; omega
  have hl' : l.take 0 ++ m.take n ++ l.drop (0 + n) = m.take n ++ l.drop n := by simp
  refine oper_in (fun _ h => nomatch h) ?_
  by_cases h0 : n = 0
  · have hrun := run_cp (dst := dst) (pos := pos) (after := after) (guard := guard) q4.symm p4 (run_copy0 (P := P) (w := w) (T := T) (sT := sT) (ty := ty) (dCap := cap) (sCap := cap2) hT (by rw [← hlen,← hlen2,hn,h0]))
    rw [hrun,Oper.uponIn_value]
    have := copy_same (k := m.take n) (lo := 0) h hg (by omega)
    rw [hkl,hl'] at this
    exact hK _ w no ρ _ this ⟨by rw [h0]; rfl,rfl⟩
  · rcases e4 with ⟨e5,_⟩ | ⟨b,off,vs,G,rfl,f1,f2,f3,f4,f5,f6⟩
    · omega
    rcases p8 with p8 | ⟨b2,off2,rfl,hl2⟩
    · omega
    have hus : Reps w S (rows E (m.take n)) (us.take (n * E.z)) no := by
      have := p9.take (n * E.z)
      rwa [rows_take] at this
    have hul := hus.length
    rw [rows_len,hkl] at hul
    have hmul : n * E.z ≤ cap * E.z := Nat.mul_le_mul_right _ (by omega)
    have hsrc : ∀ j v,(us.take (n * E.z))[j]? = some v → w.cell? ((Addr.mk b2 off2 none).add j) = some v := by
      intro j v hv
      have h4 : (Addr.mk b2 off2 none).add j = ⟨b2,off2 + j,none⟩ := by unfold Addr.add; split <;> simp_all
      rw [h4]
      exact (hl2.take (n * E.z)) j v hv
    have hrun := run_cp (dst := dst) (pos := pos) (after := after) (guard := guard) q4.symm p4 (run_copyZ (P := P) (w := w) (T := T) (sT := sT) (ty := ty) (n := n) (dCap := cap) (sCap := cap2) hT (by rw [← hlen,← hlen2,hn]) hul hsrc (fun j hj => f6 _ (by omega)) hus.one)
    rw [hrun,Oper.uponIn_value]
    have := copy_core (k := m.take n) (lo := 0) h (by omega) hus r1 (by rw [rows_len]; exact e1) e3 f1 f2 f3 f4 f5 f6 (by omega)
    rw [hkl,hl'] at this
    simp only [Nat.zero_mul,Nat.add_zero] at this
    exact hK _ _ no ρ _ this ⟨rfl,rfl⟩
end
end Go.Proofs.YtegpggobfdcafaaGreat
end
section
set_option linter.unusedVariables false
set_option linter.unusedSimpArgs false
set_option maxRecDepth 100000
namespace Go.Proofs.YtegpggobfdcafaaGreat
open Go Foot
abbrev u64 (n : Int) : C := .d (.sc (.int .u64 n))
theorem wrapU {n : Int} (h1 : 0 ≤ n) (h2 : n < 18446744073709551616) : IntKind.u64.wrap n = n := by
  simp [IntKind.wrap,IntKind.bits,IntKind.signed]
  omega
section
variable {P : Program} {g : Gh} {st : St}
variable {dst : Option Tmp} {ty : TypeId} {pos : String} {after : Array Edge} {guard : Option (Nat × Bool)} {x y : Operand} {T U : TypeId} {a b : Int}
theorem u_add (e1 : opd st x = .one (u64 a)) (e2 : opd st y = .one (u64 b)) (h1 : 0 ≤ a + b) (h2 : a + b < 18446744073709551616) : Acts P g ⟨dst,.binOp .add T x y U,ty,pos,after,guard⟩ st (.one (u64 (a + b))) [] [] := by
  have := a_bin (P := P) (g := g) (dst := dst) (T := T) (U := U) (ty := ty) (pos := pos) (after := after) (guard := guard) (op := .add) e1 e2 rfl trivial
  rwa [wrapU h1 h2] at this
theorem u_mul (e1 : opd st x = .one (u64 a)) (e2 : opd st y = .one (u64 b)) (h1 : 0 ≤ a * b) (h2 : a * b < 18446744073709551616) : Acts P g ⟨dst,.binOp .mul T x y U,ty,pos,after,guard⟩ st (.one (u64 (a * b))) [] [] := by
  have := a_bin (P := P) (g := g) (dst := dst) (T := T) (U := U) (ty := ty) (pos := pos) (after := after) (guard := guard) (op := .mul) e1 e2 rfl trivial
  rwa [wrapU h1 h2] at this
theorem u_and (e1 : opd st x = .one (u64 a)) (e2 : opd st y = .one (u64 4294967295)) (h1 : 0 ≤ a) (h2 : a ≤ 4294967295) : Acts P g ⟨dst,.binOp .and T x y U,ty,pos,after,guard⟩ st (.one (u64 a)) [] [] := by
  have := a_bin (P := P) (g := g) (dst := dst) (T := T) (U := U) (ty := ty) (pos := pos) (after := after) (guard := guard) (op := .and) e1 e2 rfl trivial
  have e : IntKind.u64.wrap ((BitVec.ofInt IntKind.u64.bits a &&& BitVec.ofInt IntKind.u64.bits 4294967295).toNat : Nat) = a := by
    obtain ⟨n,rfl⟩ := Int.eq_ofNat_of_zero_le h1
    have hn : n < 2 ^ 32 := by omega
    have h3 : (BitVec.ofInt IntKind.u64.bits (n : Int) &&& BitVec.ofInt IntKind.u64.bits 4294967295).toNat = n := by
      show (BitVec.ofInt 64 (n : Int) &&& BitVec.ofInt 64 4294967295).toNat = n
      rw [BitVec.toNat_and]
      have h4 : (BitVec.ofInt 64 (n : Int)).toNat = n := by simp; omega
      have h5 : (BitVec.ofInt 64 4294967295).toNat = 2 ^ 32 - 1 := by decide
      rw [h4,h5,Nat.and_two_pow_sub_one_eq_mod,Nat.mod_eq_of_lt hn]
    rw [h3]
    exact wrapU (by omega) (by omega)
  rwa [e] at this
theorem u_shr (e1 : opd st x = .one (u64 a)) (e2 : opd st y = .one (.d (.sc (.int .u64 32)))) (h1 : 0 ≤ a) (h2 : a ≤ 4294967295) : Acts P g ⟨dst,.binOp .shr T x y U,ty,pos,after,guard⟩ st (.one (u64 0)) [] [] := by
  have := a_bin (P := P) (g := g) (dst := dst) (T := T) (U := U) (ty := ty) (pos := pos) (after := after) (guard := guard) (op := .shr) e1 e2 rfl (show (0 : Int) ≤ 32 by decide)
  have e : a.fdiv (2 ^ min (32 : Int).toNat IntKind.u64.bits) = 0 := by
    show a.fdiv (2 ^ min 32 64) = 0
    rw [show min 32 64 = 32 from rfl,Int.fdiv_eq_ediv_of_nonneg _ (by decide)]
    omega
  rwa [e] at this
theorem u_conv (e1 : opd st x = .one (int a)) (hT : P.underlying T = some (.int .i64)) (hU : P.underlying U = some (.int .u64)) (h1 : 0 ≤ a) (h2 : a < 9223372036854775808) : Acts P g ⟨dst,.convert T U x,ty,pos,after,guard⟩ st (.one (u64 a)) [] [] := by
  have := a_conv (P := P) (g := g) (dst := dst) (T := T) (U := U) (ty := ty) (pos := pos) (after := after) (guard := guard) e1 (by rw [hT]; rfl) hU
  rwa [wrapU h1 (by omega)] at this
theorem u_vnoc (e1 : opd st x = .one (u64 a)) (hT : P.underlying T = some (.int .u64)) (hU : P.underlying U = some (.int .i64)) (h1 : 0 ≤ a) (h2 : a < 9223372036854775808) : Acts P g ⟨dst,.convert T U x,ty,pos,after,guard⟩ st (.one (int a)) [] [] := by
  have := a_conv (P := P) (g := g) (dst := dst) (T := T) (U := U) (ty := ty) (pos := pos) (after := after) (guard := guard) e1 (by rw [hT]; rfl) hU
  rwa [wrap64 (by omega) h2] at this
theorem u_gtr (e1 : opd st x = .one (u64 a)) (e2 : opd st y = .one (u64 b)) : Acts P g ⟨dst,.binOp .gtr T x y U,ty,pos,after,guard⟩ st (.one (boo (decide (b < a)))) [] [] :=
  a_bin (P := P) (g := g) (dst := dst) (T := T) (U := U) (ty := ty) (pos := pos) (after := after) (guard := guard) (op := .gtr) e1 e2 rfl trivial
end
end Go.Proofs.YtegpggobfdcafaaGreat
end
section
set_option linter.unusedVariables false
set_option linter.unusedSimpArgs false
set_option maxRecDepth 100000
namespace Go.Proofs.YtegpggobfdcafaaGreat
open Go Foot
inductive Qc where
  | d (x : D)
  | r (m : Nat)
def Qc.sub (us : List Value) : Qc → D
  | .d x => x
  | .r m => .sc (us.getD m undef)
def Qc.ok (n : Nat) : Qc → Prop
  | .d _ => True
  | .r m => m < n
def rowQ (z : Nat) (pre : List D) (qs : List Qc) (post : List D) : Opq where
  p w S us F := ∃ v r,us = v :: r ∧ (∀ q ∈ qs,q.ok r.length) ∧ Rep w S (.sl true z (pre ++ qs.map (Qc.sub r) ++ post)) v F
  keep := fun ⟨v,r,e,h1,h2⟩ hF hS hle hf => ⟨v,r,e,h1,h2.keep hF hS hle hf⟩
section
variable {w : World} {S F : Foot} {ρ : Env} {v : Value} {z i : Nat} {pre post : List D} {qs : List Qc} {js : List Nat}
theorem repQ_elim (h : RepG w S ρ (.opq (rowQ z pre qs post) (i :: js)) v F) (hv : ρ i = some v) : ∃ r,js.map ρ = r.map some ∧ (∀ q ∈ qs,q.ok r.length) ∧ Rep w S (.sl true z (pre ++ qs.map (Qc.sub r) ++ post)) v F := by
  obtain ⟨us,h1,v',r,rfl,h2,h3⟩ := h
  simp only [List.map_cons,List.cons.injEq] at h1
  obtain ⟨h0,h1⟩ := h1
  rw [hv] at h0
  cases h0
  exact ⟨r,h1,h2,h3⟩
theorem Reps.out : ∀ {cs : List D} {vs : List Value} {F : Foot} {k : Nat} {c : D},Reps w S cs vs F → cs[k]? = some c → ∃ v F1 F2,vs[k]? = some v ∧ le F1 F ∧ le F2 F ∧ dis F1 F2 ∧ Rep w S c v F1 ∧ Reps w S (cs.set k (.sc v)) vs F2
  | [],_,_,_,_,_,h => by simp at h
  | c0 :: cs,vs,F,0,c,hr,hk => by
    simp only [Reps] at hr
    obtain ⟨v0,us,F1,F2,rfl,h1,h2,h3,h4,h5⟩ := hr
    simp at hk
    subst hk
    exact ⟨v0,F1,F2,by simp,h1,h2,h3,h4,v0,us,no,F2,rfl,no_le _,le_refl _,no_dis _,⟨rfl,h4.one⟩,h5⟩
  | c0 :: cs,vs,F,k + 1,c,hr,hk => by
    simp only [Reps] at hr
    obtain ⟨v0,us,F1,F2,rfl,h1,h2,h3,h4,h5⟩ := hr
    simp at hk
    obtain ⟨v,G1,G2,e1,e2,e3,e4,e5,e6⟩ := Reps.out h5 hk
    refine ⟨v,G1,F1.or G2,by simpa using e1,e2.trans h2,or_le h1 (e3.trans h2),fun b o x y => y.elim (fun y => h3 b o y (e2 b o x)) (fun y => e4 b o x y),e5,v0,us,F1,G2,rfl,le_or_left _ _,le_or_right _ _,h3.le (le_refl _) e3,h4,e6⟩
end
section
variable {P : Program} {g : Gh} {st : St} {a : Act} {w : World} {S : Foot} {ρ : Env} {F : Nat → Foot}
theorem Rel.tgt_q (h : Rel g st a w S ρ F) {v : Value} {i k z : Nat} {pre post : List D} {qs : List Qc} {js : List Nat} (hc : RepC w S ρ (.gp i k) v) (hg : lkG st.h i = .opq (rowQ z pre qs post) (i :: js)) (hk : k < pre.length + qs.length + post.length) :
    ∃ r b off vs G len cap,js.map ρ = r.map some ∧ (∀ q ∈ qs,q.ok r.length) ∧ v = .pointer (some ⟨b,off + k,none⟩) ∧ ρ i = some (.slice (some ⟨b,off,none⟩) len cap) ∧ (pre ++ qs.map (Qc.sub r) ++ post).length = len * z ∧ 0 < z ∧ len ≤ cap ∧ lies w b off vs ∧ Reps w S (pre ++ qs.map (Qc.sub r) ++ post) vs G ∧ le (rng b off (cap * z)) (F i) ∧ le G (F i) ∧ Foot.dis (rng b off (cap * z)) G ∧ free w b off (cap * z) := by
  rcases h.root i with h0 | ⟨u,h1,h2⟩
  · rw [hg] at h0; cases h0
  rw [hg] at h2
  obtain ⟨r,q1,q2,q3⟩ := repQ_elim h2 h1
  simp only [Rep,if_true] at q3
  obtain ⟨ad,len,cap,rfl,e1,e2,e3,e4⟩ := q3
  rcases e4 with ⟨rfl,_⟩ | ⟨b,off,vs,G,rfl,f1,f2,f3,f4,f5,f6⟩
  · have : len = 0 := by omega
    subst this
    simp at e1
    obtain ⟨rfl,rfl,rfl⟩ := e1
    simp at hk
  simp only [RepC] at hc
  obtain ⟨u,b',off',k1,k2,rfl⟩ := hc
  rw [h1] at k1
  cases k1
  simp only [base,Option.some.injEq,Prod.mk.injEq] at k2
  obtain ⟨rfl,rfl⟩ := k2
  exact ⟨r,b,off,vs,G,len,cap,q1,q2,rfl,h1,e1,e2,e3,f1,f2,f3,f4,f5,f6⟩
def Qc.noOwn : Qc → Prop
  | .d x => x.noOwn
  | .r _ => True
section
variable {dst : Option Tmp} {ty : TypeId} {pos : String} {after : Array Edge} {guard : Option (Nat × Bool)} {x y : Operand} {z i k o : Nat} {pre post : List D} {qs : List Qc} {js : List Nat}
end
section
variable {dst : Option Tmp} {ty : TypeId} {pos : String} {after : Array Edge} {guard : Option (Nat × Bool)} {x y : Operand}
end
end
section
variable {g : Gh} {t : List (Nat × SV)} {h : List (Nat × GB)} {n : Nat}
end
end Go.Proofs.YtegpggobfdcafaaGreat
end
section
set_option linter.unusedVariables false
set_option linter.unusedSimpArgs false
set_option maxRecDepth 100000
namespace Go.Proofs.YtegpggobfdcafaaGreat
open Go Foot
theorem rows_cons {α : Type} {E : Enc α} (x : α) (l : List α) : rows E (x :: l) = E.enc x ++ rows E l := by simp [rows]
theorem rows_mid {α : Type} {E : Enc α} {l : List α} {m : Nat} (h : m < l.length) : rows E l = rows E (l.take m) ++ E.enc l[m] ++ rows E (l.drop (m + 1)) := by
  conv => lhs; rw [← List.take_append_drop m l,List.drop_eq_getElem_cons h,← rows_app,rows_cons,← List.append_assoc]
theorem rows_pre {α : Type} {E : Enc α} {l : List α} {m z : Nat} (hz : E.z = z) (h : m ≤ l.length) : (rows E (l.take m)).length = m * z := by
  rw [rows_len,List.length_take,Nat.min_eq_left h,hz]
section
variable {P : Program} {g : Gh} {st : St} {dst : Option Tmp} {ty : TypeId} {pos : String} {after : Array Edge} {guard : Option (Nat × Bool)} {x y : Operand} {α : Type} {E : Enc α} {l : List α} {z i k m : Nat} {qs : List Qc} {js : List Nat}
end
section
variable {g : Gh} {t : List (Nat × SV)} {h : List (Nat × GB)} {n : Nat} {α : Type} {E : Enc α} {l : List α} {z i : Nat}
end
def NilP : List D → List D → Prop
  | [],[] => True
  | x :: xs,y :: ys => (∀ (w : World) (S : Foot) (v : Value) (F : Foot),Rep w S x v F → Rep w S y v F) ∧ NilP xs ys
  | _,_ => False
theorem NilP.rep : ∀ {xs ys : List D},NilP xs ys → ∀ (w : World) (S : Foot) (vs : List Value) (F : Foot),Reps w S xs vs F → Reps w S ys vs F
  | [],[],_,_,_,_,_,h => h
  | x :: xs,y :: ys,h,w,S,vs,F,hr => by
    simp only [Reps] at hr ⊢
    obtain ⟨v,us,F1,F2,rfl,h1,h2,h3,h4,h5⟩ := hr
    exact ⟨v,us,F1,F2,rfl,h1,h2,h3,h.1 _ _ _ _ h4,NilP.rep h.2 _ _ _ _ h5⟩
theorem NilP.app : ∀ {xs ys xs' ys' : List D},NilP xs ys → NilP xs' ys' → NilP (xs ++ xs') (ys ++ ys')
  | [],[],_,_,_,h => h
  | _ :: _,_ :: _,_,_,h,h' => ⟨h.1,NilP.app h.2 h'⟩
theorem NilP.rows {α β : Type} {E : Enc α} {E' : Enc β} {a : α} {b : β} (h : NilP (E.enc a) (E'.enc b)) : ∀ n,NilP (rows E (List.replicate n a)) (rows E' (List.replicate n b))
  | 0 => trivial
  | n + 1 => by
    rw [List.replicate_succ,List.replicate_succ,rows_cons,rows_cons]
    exact NilP.app h (NilP.rows h n)
theorem t_frzB {g : Gh} {t : List (Nat × SV)} {h : List (Nat × GB)} {n i d : Nat} {cs : List C} {ds : List D} (hd : lkS t d = .one (.gv i)) (hg : lkG h i = .bx cs) (hc : allD h cs = some ds) : Turn g ⟨t,h,n⟩ ⟨(d,.one (.d (.bx false ds))) :: t,(i,.dead) :: h,n⟩ := by
  refine ⟨Nat.le_refl _,fun a w S ρ F hr => ⟨S.or (F i),fun j => if j = i then no else F j,?_⟩⟩
  have hS : le S (S.or (F i)) := le_or_left _ _
  have hnew : RepS w (S.or (F i)) ρ (.one (.d (.bx false ds))) (a.tmps.getD d undef) := by
    have h1 := hr.slot d
    simp only at h1
    rw [hd] at h1
    rcases hr.root i with h0 | ⟨u,r1,r2⟩
    · simp only [hg] at h0; cases h0
    · simp only [hg] at r2
      have h2 := h1.1
      rw [r1] at h2
      cases h2
      obtain ⟨b,off,vs,q1,q2,q3,q4,q5⟩ := r2
      have h3 := rel_allD hr q3 hc
      have h4 := h3.length
      have h5 := q3.length
      show Rep w (S.or (F i)) (.bx false ds) _ no
      simp only [Rep,Bool.false_eq_true,if_false]
      refine ⟨b,off,vs,no,q1,q2,h3.keep Agree.no (Agree.refl _ _) hS (le_refl _),?_,rfl⟩
      exact (rng_le (by omega)).trans (q4.trans (le_or_right _ _))
  refine ⟨hr.size,hr.defers.keep fun r _ m => ⟨m.at_,fun j o hj => (by split at hj; exact hj.elim; exact m.F j o hj),fun o ho => ho.elim (m.S o) (m.F i o),m.lo⟩,fun j => ?_,fun j => ?_,fun j k hjk => ?_,fun j => ?_,fun j => ?_,fun j b o hb => ?_,fun b o hb => ?_,hr.old,hr.inS.trans hS,fun b o hb => ?_,hr.pin,hr.tab.keep (Agree.refl _ _) hS,hr.fin⟩
  · rw [lkS_cons]
    rcases Decidable.em (j = d) with e | e
    · rw [if_pos e,e]; exact hnew
    · rw [if_neg e]; exact (hr.slot j).keep (Agree.refl _ _) hS (Env.le.refl _)
  · simp only [lkG]
    by_cases hj : j = i
    · subst hj
      have hb : Nat.beq j j = true := by simp
      simp only [hb,cond_true]
      exact .inl trivial
    · have hb : Nat.beq j i = false := beq_ne hj
      simp only [hb,cond_false,if_neg hj]
      rcases hr.root j with h0 | ⟨u,r1,r2⟩
      · exact .inl h0
      · exact .inr ⟨u,r1,r2.keep (Agree.refl _ _) (Agree.refl _ _) hS (Env.le.refl _) (le_refl _)⟩
  · by_cases hj : j = i
    · simp only [hj,if_true]; exact no_dis _
    · by_cases hk : k = i
      · simp only [hk,if_true]; exact dis_no _
      · simp only [if_neg hj,if_neg hk]; exact hr.dis j k hjk
  · by_cases hj : j = i
    · simp only [hj,if_true]; exact no_dis _
    · simp only [if_neg hj]
      exact fun b o hb hs => hs.elim (fun hs => hr.disS j b o hb hs) (fun hs => hr.dis j i hj b o hb hs)
  · by_cases hj : j = i
    · simp only [hj,if_true]; exact no_le _
    · simp only [if_neg hj]; exact hr.own j
  · by_cases hj : j = i
    · simp only [hj,if_true] at hb; exact hb.elim
    · simp only [if_neg hj] at hb; exact hr.ex j b o hb
  · exact hb.elim (hr.exS b o) (hr.ex i b o)
  · exact hb.elim (hr.newS b o) (fun hb => .inr (hr.own i b o hb))
theorem t_frzR {g : Gh} {t : List (Nat × SV)} {h : List (Nat × GB)} {n i d z : Nat} {xs ys : List D} (hd : lkS t d = .one (.gv i)) (hg : lkG h i = .row z xs) (hc : ShutL xs ys) : Turn g ⟨t,h,n⟩ ⟨(d,.one (.d (.sl false z ys))) :: t,(i,.dead) :: h,n⟩ := by
  refine ⟨Nat.le_refl _,fun a w S ρ F hr => ⟨S.or (F i),fun j => if j = i then no else F j,?_⟩⟩
  have hS : le S (S.or (F i)) := le_or_left _ _
  have hnew : RepS w (S.or (F i)) ρ (.one (.d (.sl false z ys))) (a.tmps.getD d undef) := by
    have h1 := hr.slot d
    simp only at h1
    rw [hd] at h1
    rcases hr.root i with h0 | ⟨u,r1,r2⟩
    · simp only [hg] at h0; cases h0
    · simp only [hg] at r2
      have h2 := h1.1
      rw [r1] at h2
      cases h2
      exact Shut1.sl hc _ _ _ _ _ r2 (le_refl _)
  refine ⟨hr.size,hr.defers.keep fun r _ m => ⟨m.at_,fun j o hj => (by split at hj; exact hj.elim; exact m.F j o hj),fun o ho => ho.elim (m.S o) (m.F i o),m.lo⟩,fun j => ?_,fun j => ?_,fun j k hjk => ?_,fun j => ?_,fun j => ?_,fun j b o hb => ?_,fun b o hb => ?_,hr.old,hr.inS.trans hS,fun b o hb => ?_,hr.pin,hr.tab.keep (Agree.refl _ _) hS,hr.fin⟩
  · rw [lkS_cons]
    rcases Decidable.em (j = d) with e | e
    · rw [if_pos e,e]; exact hnew
    · rw [if_neg e]; exact (hr.slot j).keep (Agree.refl _ _) hS (Env.le.refl _)
  · simp only [lkG]
    by_cases hj : j = i
    · subst hj
      have hb : Nat.beq j j = true := by simp
      simp only [hb,cond_true]
      exact .inl trivial
    · have hb : Nat.beq j i = false := beq_ne hj
      simp only [hb,cond_false,if_neg hj]
      rcases hr.root j with h0 | ⟨u,r1,r2⟩
      · exact .inl h0
      · exact .inr ⟨u,r1,r2.keep (Agree.refl _ _) (Agree.refl _ _) hS (Env.le.refl _) (le_refl _)⟩
  · by_cases hj : j = i
    · simp only [hj,if_true]; exact no_dis _
    · by_cases hk : k = i
      · simp only [hk,if_true]; exact dis_no _
      · simp only [if_neg hj,if_neg hk]; exact hr.dis j k hjk
  · by_cases hj : j = i
    · simp only [hj,if_true]; exact no_dis _
    · simp only [if_neg hj]
      exact fun b o hb hs => hs.elim (fun hs => hr.disS j b o hb hs) (fun hs => hr.dis j i hj b o hb hs)
  · by_cases hj : j = i
    · simp only [hj,if_true]; exact no_le _
    · simp only [if_neg hj]; exact hr.own j
  · by_cases hj : j = i
    · simp only [hj,if_true] at hb; exact hb.elim
    · simp only [if_neg hj] at hb; exact hr.ex j b o hb
  · exact hb.elim (hr.exS b o) (hr.ex i b o)
  · exact hb.elim (hr.newS b o) (fun hb => .inr (hr.own i b o hb))
end Go.Proofs.YtegpggobfdcafaaGreat
end
section
set_option linter.unusedVariables false
set_option linter.unusedSimpArgs false
set_option maxRecDepth 100000
namespace Go.Proofs.YtegpggobfdcafaaGreat
open Go Foot
theorem nowR {α : Type} {E : Enc α} {l : List α} (h : ∀ x,D.noOwn.all (E.enc x) := by intro _; repeat (first | exact trivial | exact rfl | refine And.intro ?_ ?_)) : D.noOwn.all (rows E l) := noOwn_rows h
theorem shutR {xs ys : List D} (h : ShutL xs ys := by repeat' (first | exact ShutL.nil | exact ShutL.no nowR | (refine ShutL.rows (fun _ => ?_)) | (refine ShutL.cons ?_ ?_) | exact Shut1.no trivial | exact Shut1.no rfl | refine Shut1.sl ?_ | refine Shut1.bx ?_)) : ShutL xs ys := h
theorem plR {xs : List D} (h : D.plain.all xs := by repeat' (first | exact trivial | exact rfl | (refine plain_rows (fun _ => ?_)) | refine And.intro ?_ ?_)) : D.plain.all xs := h
theorem bnd {p : Prop} (h : p := by first | omega | (simp only [List.length_append,List.length_cons,List.length_nil,List.length_set,List.length_replicate,List.length_take,List.length_drop,List.length_tail,List.length_dropLast,List.length_reverse]; omega)) : p := h
section
variable {g : Gh} {dst : Option Tmp} {ty : TypeId} {pos : String} {after : Array Edge} {guard : Option (Nat × Bool)} {x : Operand} {f : Nat} {c0 : C} {cap : List C} {xs : List Operand} {Ts : Array TypeId} {ags : List SV} {H H' : List GB} {res : SV} {θ : List Nat} {t : List (Nat × SV)} {h : List (Nat × GB)} {n : Nat}
theorem callK0 (hc : opd ⟨t,h,n⟩ x = .one c0 := by exact rfl) (hv : fnv c0 = some (.func f,cap) := by exact rfl) (hE : entB Tryz.prog f = true := by exact fQ rfl) (ha : ASLe h [] (xs.map (opd ⟨t,h,n⟩) ++ cap.map .one) (ags.map (SV.ren (calF θ n))) := by (repeat (first | exact ASLe.nil | refine ASLe.cons ?_ ?_ | exact SVLe.refl | refine SVLe.one ?_ | refine SVLe.agg ?_ | exact CsLe.nil | refine CsLe.cons ?_ ?_ | exact CLe.refl | exact CLe.sh rfl | exact CLe.nil (by decide) | refine CLe.fn ?_ | refine CLe.fnD ?_ | refine CLe.ifc ?_ | refine CLe.ifcD ?_)); first | done | fail) (hH : rootsEq (calF θ n) ⟨t,h,n⟩ 0 H := by repeat (first | exact trivial | refine And.intro ?_ ?_ | exact rfl)) (hD : Does Tryz.prog f ags H res H')
    (hk : H.length = θ.length := by exact rfl) (hθ : nodupB θ = true := by exact rfl) (hm : θ.all (fun t => Nat.blt t n) = true := by exact rfl)
    (hlt : ltA H.length ags = true := by exact rfl) (hltH : allG H.length H = true := by exact rfl) (hltr : res.lt H'.length = true := by exact rfl) (hltH' : allG H'.length H' = true := by exact rfl) :
    Acts Tryz.prog g ⟨dst,.call { callee := .value x,args := xs.toArray,argTypes := Ts },ty,pos,after,guard⟩ ⟨t,h,n⟩ (res.ren (calF θ n)) θ (upOf (calF θ n) 0 H') :=
  a_call0 hc hv hE ha hH hD hk hθ hm hlt hltH hltr hltH'
theorem callK1 (hc : opd ⟨t,h,n⟩ x = .one c0 := by exact rfl) (hv : fnv c0 = some (.func f,cap) := by exact rfl) (hE : entB Tryz.prog f = true := by exact fQ rfl) (ha : ASLe h (rest n θ) (xs.map (opd ⟨t,h,n⟩) ++ cap.map .one) (ags.map (SV.ren (calF θ n))) := by (repeat (first | exact ASLe.nil | refine ASLe.cons ?_ ?_ | exact SVLe.refl | refine SVLe.one ?_ | refine SVLe.agg ?_ | exact CsLe.nil | refine CsLe.cons ?_ ?_ | exact CLe.refl | exact CLe.sh rfl | exact CLe.nil (by decide) | refine CLe.fn ?_ | refine CLe.fnD ?_ | refine CLe.ifc ?_ | refine CLe.ifcD ?_ | exact CLe.lendA rfl rfl nowR | exact CLe.lendDA rfl rfl shutR | exact CLe.lendRA rfl rfl rfl rfl bnd nowR rfl | refine CLe.lendVA rfl rfl ?_ | refine CLe.lendPA rfl rfl rfl ?_)); first | done | fail) (hH : rootsEq (calF θ n) ⟨t,h,n⟩ 0 H := by repeat (first | exact trivial | refine And.intro ?_ ?_ | exact rfl)) (hD : Does Tryz.prog f ags H res H')
    (hk : H.length = θ.length := by exact rfl) (hθ : nodupB θ = true := by exact rfl) (hm : θ.all (fun t => Nat.blt t n) = true := by exact rfl) (hp : res.plain := by repeat (first | exact trivial | exact plR | refine And.intro ?_ ?_)) (hp' : plainH H' := by repeat (first | exact trivial | exact plR | refine And.intro ?_ ?_))
    (hlt : ltA H.length ags = true := by exact rfl) (hltH : allG H.length H = true := by exact rfl) (hltr : res.lt H'.length = true := by exact rfl) (hltH' : allG H'.length H' = true := by exact rfl) :
    Acts Tryz.prog g ⟨dst,.call { callee := .value x,args := xs.toArray,argTypes := Ts },ty,pos,after,guard⟩ ⟨t,h,n⟩ (res.ren (calF θ n)) θ (upOf (calF θ n) 0 H') :=
  a_call1 hc hv hE ha hH hD hk hθ hm hp hp' hlt hltH hltr hltH'
variable {rs : List Rs} {fs : List Bool} {u uk : List Nat}
theorem callD0 (m : Nat) (hc : opd (visSt ⟨t,h,n⟩ rs fs u uk) x = .one c0 := by exact rfl) (hv : fnv c0 = some (.func f,cap) := by exact rfl) (hE : entB Tryz.prog f = true := by exact fQ rfl) (ha : ASLe (visSt ⟨t,h,n⟩ rs fs u uk).h [] (xs.map (opd (visSt ⟨t,h,n⟩ rs fs u uk)) ++ cap.map .one) (ags.map (SV.ren (calF θ (n + m)))) := by (repeat (first | exact ASLe.nil | refine ASLe.cons ?_ ?_ | exact SVLe.refl | refine SVLe.one ?_ | refine SVLe.agg ?_ | exact CsLe.nil | refine CsLe.cons ?_ ?_ | exact CLe.refl | exact CLe.sh rfl | exact CLe.nil (by decide) | refine CLe.fn ?_ | refine CLe.fnD ?_ | refine CLe.ifc ?_ | refine CLe.ifcD ?_)); first | done | fail) (hH : rootsEq (calF θ (n + m)) (visSt ⟨t,h,n⟩ rs fs u uk) 0 H := by repeat (first | exact trivial | refine And.intro ?_ ?_ | exact rfl)) (hD : Does Tryz.prog f ags H res H')
    (hk : H.length = θ.length := by exact rfl) (hθ : nodupB θ = true := by exact rfl) (hm : θ.all (fun t => Nat.blt t (n + m)) = true := by exact rfl)
    (hlt : ltA H.length ags = true := by exact rfl) (hltH : allG H.length H = true := by exact rfl) (hltr : res.lt H'.length = true := by exact rfl) (hltH' : allG H'.length H' = true := by exact rfl) :
    Acts Tryz.prog g ⟨dst,.call { callee := .value x,args := xs.toArray,argTypes := Ts },ty,pos,after,guard⟩ (visSt ⟨t,h,n⟩ rs fs u uk) (res.ren (calF θ (n + m))) θ (upOf (calF θ (n + m)) 0 H') :=
  a_call0D m hc hv hE ha hH hD hk hθ hm hlt hltH hltr hltH'
theorem callD1 (m : Nat) (hc : opd (visSt ⟨t,h,n⟩ rs fs u uk) x = .one c0 := by exact rfl) (hv : fnv c0 = some (.func f,cap) := by exact rfl) (hE : entB Tryz.prog f = true := by exact fQ rfl) (ha : ASLe (visSt ⟨t,h,n⟩ rs fs u uk).h (rest (n + m) θ) (xs.map (opd (visSt ⟨t,h,n⟩ rs fs u uk)) ++ cap.map .one) (ags.map (SV.ren (calF θ (n + m)))) := by (repeat (first | exact ASLe.nil | refine ASLe.cons ?_ ?_ | exact SVLe.refl | refine SVLe.one ?_ | refine SVLe.agg ?_ | exact CsLe.nil | refine CsLe.cons ?_ ?_ | exact CLe.refl | exact CLe.sh rfl | exact CLe.nil (by decide) | refine CLe.fn ?_ | refine CLe.fnD ?_ | refine CLe.ifc ?_ | refine CLe.ifcD ?_ | exact CLe.lendA rfl rfl nowR | exact CLe.lendDA rfl rfl shutR | exact CLe.lendRA rfl rfl rfl rfl bnd nowR rfl | refine CLe.lendVA rfl rfl ?_ | refine CLe.lendPA rfl rfl rfl ?_)); first | done | fail) (hH : rootsEq (calF θ (n + m)) (visSt ⟨t,h,n⟩ rs fs u uk) 0 H := by repeat (first | exact trivial | refine And.intro ?_ ?_ | exact rfl)) (hD : Does Tryz.prog f ags H res H')
    (hk : H.length = θ.length := by exact rfl) (hθ : nodupB θ = true := by exact rfl) (hm : θ.all (fun t => Nat.blt t (n + m)) = true := by exact rfl) (hp : res.plain := by repeat (first | exact trivial | exact plR | refine And.intro ?_ ?_)) (hp' : plainH H' := by repeat (first | exact trivial | exact plR | refine And.intro ?_ ?_))
    (hlt : ltA H.length ags = true := by exact rfl) (hltH : allG H.length H = true := by exact rfl) (hltr : res.lt H'.length = true := by exact rfl) (hltH' : allG H'.length H' = true := by exact rfl) :
    Acts Tryz.prog g ⟨dst,.call { callee := .value x,args := xs.toArray,argTypes := Ts },ty,pos,after,guard⟩ (visSt ⟨t,h,n⟩ rs fs u uk) (res.ren (calF θ (n + m))) θ (upOf (calF θ (n + m)) 0 H') :=
  a_call1D m hc hv hE ha hH hD hk hθ hm hp hp' hlt hltH hltr hltH'
end
section
variable {g : Gh} {dst : Option Tmp} {ty : TypeId} {pos : String} {after : Array Edge} {guard : Option (Nat × Bool)} {x : Operand} {f Ty : Nat} {c1 : C} {name : String} {xs : List Operand} {Ts : Array TypeId} {ags : List SV} {H H' : List GB} {res : SV} {θ : List Nat} {t : List (Nat × SV)} {h : List (Nat × GB)} {n : Nat}
theorem callM (hc : opd ⟨t,h,n⟩ x = .one (.ifc Ty false [c1]) := by exact rfl) (ha : ASLe h (rest n θ) (.one c1 :: xs.map (opd ⟨t,h,n⟩)) (ags.map (SV.ren (calF θ n))) := by (repeat (first | exact ASLe.nil | refine ASLe.cons ?_ ?_ | exact SVLe.refl | refine SVLe.one ?_ | refine SVLe.agg ?_ | exact CsLe.nil | refine CsLe.cons ?_ ?_ | exact CLe.refl | exact CLe.sh rfl | exact CLe.nil (by decide) | refine CLe.fn ?_ | refine CLe.fnD ?_ | refine CLe.ifc ?_ | refine CLe.ifcD ?_ | exact CLe.lendA rfl rfl nowR | exact CLe.lendDA rfl rfl shutR | exact CLe.lendRA rfl rfl rfl rfl bnd nowR rfl | refine CLe.lendVA rfl rfl ?_ | refine CLe.lendPA rfl rfl rfl ?_)); first | done | fail) (hH : rootsEq (calF θ n) ⟨t,h,n⟩ 0 H := by repeat (first | exact trivial | refine And.intro ?_ ?_ | exact rfl)) (hD : Does Tryz.prog f ags H res H')
    (hM : ∀ (v : Value) (w : World),(method (Tryz.prog.types.size + Made.depth) Ty v name).run Tryz.prog w = .ok (f,v) w := by intro _ _; kernel_rfl) (hE : entB Tryz.prog f = true := by exact fQ rfl)
    (hk : H.length = θ.length := by exact rfl) (hθ : nodupB θ = true := by exact rfl) (hm : θ.all (fun t => Nat.blt t n) = true := by exact rfl) (hp : res.plain := by repeat (first | exact trivial | exact plR | refine And.intro ?_ ?_)) (hp' : plainH H' := by repeat (first | exact trivial | exact plR | refine And.intro ?_ ?_))
    (hlt : ltA H.length ags = true := by exact rfl) (hltH : allG H.length H = true := by exact rfl) (hltr : res.lt H'.length = true := by exact rfl) (hltH' : allG H'.length H' = true := by exact rfl) :
    Acts Tryz.prog g ⟨dst,.call { callee := .invoke x name,args := xs.toArray,argTypes := Ts },ty,pos,after,guard⟩ ⟨t,h,n⟩ (res.ren (calF θ n)) θ (upOf (calF θ n) 0 H') :=
  a_inv1 hc ha hH hD hM hE hk hθ hm hp hp' hlt hltH hltr hltH'
end
section
variable {P : Program} {g : Gh} {Q : Exit → St → Prop} {t t0 : List (Nat × SV)} {h h0 : List (Nat × GB)} {n : Nat} {st : St}
theorem stk {k m : Nat} {θ : List Nat} {st : St} {t' : List (Nat × SV)} {h' : List (Nat × GB)} (h1 : leT (thF θ) st t' := by repeat (first | exact trivial | refine And.intro ?_ ?_ | exact SVLe.refl | exact SVLe.any | exact SVLe.one (.sh rfl) | exact SVLe.one (.nil (by decide)) | exact SVLe.agg (by repeat (first | exact CsLe.nil | refine CsLe.cons ?_ ?_ | exact CLe.refl | exact CLe.sh rfl | exact CLe.nil (by decide))) | (refine sle_i ?_; omega))) (h2 : leH (thF θ) m st h' := by repeat (first | exact trivial | refine And.intro ?_ ?_ | exact rfl)) (hn : m = θ.length := by exact rfl) (hpin : pinB k θ = true := by exact rfl) (nd : nodupB θ = true := by exact rfl) (lt : allT m t' = true := by exact rfl) (lh : allH m h' = true := by exact rfl) : StLe k θ st ⟨t',h',m⟩ := stle h1 h2 hn hpin nd lt lh
theorem loopK {α : Type} (live ex : List Nat) (I : α → Prop) (ut : α → List (Nat × SV)) (uh : α → List (Nat × GB)) (μ : α → Nat) (x0 : α) (θ : List Nat) {c : Code} (hp : Pick live t t0 := by repeat (first | exact Pick.nil | apply Pick.one rfl | apply Pick.agg rfl | apply Pick.tup rfl | apply Pick.any)) (hq : PickH ex h n h0 := by repeat (first | exact PickH.zero | apply PickH.row rfl rfl | apply PickH.sh rfl rfl | apply PickH.bx rfl rfl | apply PickH.mp rfl rfl | apply PickH.lp rfl rfl | apply PickH.bld rfl rfl | apply PickH.opq rfl rfl | apply PickH.out)) (hin : StLe g.k θ ⟨t,h,n⟩ ⟨ut x0 ++ t0,uh x0 ++ h0,n⟩ := by exact stk) (hI : I x0)
    (hr : ∀ x,I x → GWp P g c ⟨ut x ++ t0,uh x ++ h0,n⟩ (qLoop g.k I (fun x => ⟨ut x ++ t0,uh x ++ h0,n⟩) μ (μ x) Q)) : GWp P g (.loop c) ⟨t,h,n⟩ Q := g_loopU live ex I ut uh μ x0 θ hp hq hin hI hr
theorem endK {fn : Func} {k : Nat} {l : List (Bool × List C)} {res : SV} {H' : List GB} {e : Exit} (ids : List Nat) (he : e = .normal ∨ e = .ret := by first | exact .inr rfl | exact .inl rfl) (h1 : RessOk Tryz.prog st fn.results.toList l := by repeat (first | exact RessOk.nil | apply RessOk.cons | exact ResOk.one rfl | exact ResOk.agg rfl | exact ResOk.cell rfl rfl rfl (fC rfl) rfl | exact ResOk.cells rfl rfl rfl (fA rfl) (Nat.le_of_ble_eq_true rfl) rfl)) (h2 : SVLe st.h [] (resSV l) (res.ren (resF k ids))) (h3 : rootsLe (resF k ids) st 0 H') (hl : H'.length = k + ids.length := by exact rfl) (nd : nodupB (liveIds (resF k ids) 0 H') = true := by exact rfl) (lt : res.lt H'.length = true := by exact rfl) (lh : allG H'.length H' = true := by exact rfl) : Ends Tryz.prog fn k res H' e st := ends_m ids he h1 h2 h3 hl nd lt lh
end
theorem dcB : (∀ (p : Prop) [Decidable p],(decide p = true) = p) ∧ (∀ (p : Prop) [Decidable p],(decide p = false) ↔ ¬ p) ∧ (∀ b : Bool,((!b) = true) = (b = false)) ∧ (∀ b : Bool,((!b) = false) = (b = true)) ∧ (∀ b : Bool,(¬ (b = true)) = (b = false)) ∧ (∀ b : Bool,(¬ (b = false)) = (b = true)) ∧ (∀ a b : Bool,((a && b) = true) = (a = true ∧ b = true)) ∧ (∀ a b : Bool,((a || b) = false) ↔ (a = false ∧ b = false)) ∧ (∀ b : Bool,(!(!b)) = b) :=
  ⟨fun _ _ => decide_eq_true_eq,fun _ _ => decide_eq_false_iff_not,fun _ => Bool.not_eq_true' _,fun _ => Bool.not_eq_false' _,fun _ => Bool.not_eq_true _,fun _ => Bool.not_eq_false _,fun _ _ => Bool.and_eq_true _ _,fun _ _ => Bool.or_eq_false_iff,fun _ => Bool.not_not _⟩
theorem dN {G G' : Prop} (hk : G') (e : G = G' := by (try dsimp only [selT,selH,trues,SV.ren,C.ren,C.ren.all,tRen,GB.ren,calF,upOf,List.cons_append,List.nil_append,Nat.reduceAdd,setRow,List.map_cons,List.map_nil,scC,List.set_cons_zero,List.set_cons_succ,List.take_succ_cons,List.take_zero,List.drop_succ_cons,List.drop_zero]); (try exact rfl)) : G := e ▸ hk
theorem dM {G G' : Prop} (hk : G') (e : G = G' := by (try dsimp only [SV.ren,C.ren,C.ren.all,tRen,GB.ren,calF,upOf,List.cons_append,List.nil_append,Nat.reduceAdd]); (try exact rfl)) : G := e ▸ hk
theorem dS {G G' : Prop} (hk : G') (e : G = G' := by (try dsimp only [setRow,List.map_cons,List.map_nil,scC,List.set_cons_zero,List.set_cons_succ,List.take_succ_cons,List.take_zero,List.drop_succ_cons,List.drop_zero,Nat.reduceAdd]); (try exact rfl)) : G := e ▸ hk
theorem dA {G G' : Prop} (hk : G') (e : G = G' := by (try dsimp only [List.map_cons,List.map_nil,scC,Nat.reduceAdd]); (try exact rfl)) : G := e ▸ hk
theorem cd {G G' : Prop} (hk : G') (h : G' → G := by first | exact o_nil | exact g_seq | exact g_reg | exact q_s | exact g_skip | exact g_exit | exact g_block | exact g_if_t rfl | exact g_if_f rfl | exact q_se | exact q_b | exact q_be rfl | exact q_bn rfl | exact q_le | exact q_ce) : G := h hk
theorem cdn {G G' : Prop} (hk : G') (h : G' → G := by first | exact o_nil | exact g_seq | exact q_s | exact g_skip | exact g_exit | exact g_block | exact g_if_t rfl | exact g_if_f rfl | exact q_se | exact q_b | exact q_be rfl | exact q_bn rfl | exact q_le | exact q_ce) : G := h hk
theorem cr {G G' : Prop} (hk : G') (h : G' → G := by first | exact g_ret | exact q_sr | exact q_br | exact q_lr | exact q_cr) : G := h hk
theorem ce0 {G : Prop} (h : G := by first | with_reducible exact SVLe.refl | exact SVLe.any | exact SVLe.one (.sh rfl) | exact SVLe.one (.nil (by decide)) | exact TLe.nil | exact CsLe.nil | exact CLe.refl | exact CLe.sh rfl | exact CLe.nil (by decide) | exact trivial | exact Or.inl rfl | exact Or.inr rfl) : G := h
theorem ce {G G' : Prop} (hk : G') (h : G' → G := by first | exact SVLe.agg | exact SVLe.tup | exact cle_i | exact cle_b | exact fun h => Or.inr (row_eq h)) : G := h hk
theorem ceb {G G' : Prop} (hk : G') (h : G' → G := by first | exact sle_i | exact sle_b) : G := h hk
theorem ce2 {G G' G2 : Prop} (hk : G') (hk2 : G2) (h : G' → G2 → G := by first | exact TLe.cons | exact CsLe.cons | exact And.intro) : G := h hk hk2
section
def bitL : Nat → Nat → List Bool
  | 0,_ => []
  | i + 1,m => Nat.beq (m % 2) 1 :: bitL i (m / 2)
variable {P : Program} {g : Gh} {bf : List (List Nat)} {off : List (List Nat × List Nat)} {ops : List Oper} {t : List (Nat × SV)} {hp : List (Nat × GB)} {n n' : Nat} {Q : Exit → St → Prop} {l : List Oper} {rs : List Rs}
theorem dp (i m : Nat) (u : List Nat) (o : List (Bool × Nat)) {d : Nat} {op : Op} {ty : TypeId} {pos : String} {after : Array Edge} {sv : SV} (ha : Acts P g ⟨some d,op,ty,pos,after,none⟩ (visSt ⟨t,hp,n⟩ rs (bitL i m) u (offL n o)) sv [] []) (h : DR P g bf (offK n off) ops ⟨t,hp,n⟩ n' Q l (⟨some d,sv,[],[]⟩ :: rs)) (hi : rs.length = i := by exact rfl) (hf : flags (fun k => memB k (bf.getD i [])) i = bitL i m := by kernel_rfl) (hu : unordD bf i 0 ops = u := by kernel_rfl) (hk : unordK bf (offK n off) i 0 ops = offL n o := by kernel_rfl) (hd : Nat.blt d g.n = true := by exact rfl) (hc : (offK n off).ck i = [] := by exact rfl) : DR P g bf (offK n off) ops ⟨t,hp,n⟩ n' Q (⟨some d,op,ty,pos,after,none⟩ :: l) rs := d_pN ha hi hf hu hk hd hc h
theorem duN (i m : Nat) (u : List Nat) (o : List (Bool × Nat)) {dst : Option Nat} {op : Op} {ty : TypeId} {pos : String} {after : Array Edge} {sv : SV} {ch : List Nat} {up : List (Nat × GB)} (ha : Acts P g ⟨dst,op,ty,pos,after,none⟩ (visSt ⟨t,hp,n⟩ rs (bitL i m) u (offL n o)) sv ch up) (hc : (offK n off).ck i = ch) (hup : upInB ((offK n off).nw i ++ (offK n off).ck i) up = true) (h : DR P g bf (offK n off) ops ⟨t,hp,n⟩ n' Q l (⟨dst,sv,ch,up⟩ :: rs)) (hi : rs.length = i := by exact rfl) (hf : flags (fun k => memB k (bf.getD i [])) i = bitL i m := by kernel_rfl) (hu : unordD bf i 0 ops = u := by kernel_rfl) (hk : unordK bf (offK n off) i 0 ops = offL n o := by kernel_rfl) (hd : ∀ d,dst = some d → d < g.n := by first | exact dst_some rfl | exact dst_none) : DR P g bf (offK n off) ops ⟨t,hp,n⟩ n' Q (⟨dst,op,ty,pos,after,none⟩ :: l) rs := d_uN ha hi hf hu hk hd hc hup h
theorem duE (i m : Nat) (u : List Nat) (o : List (Bool × Nat)) {dst : Option Nat} {op : Op} {ty : TypeId} {pos : String} {after : Array Edge} {sv : SV} {ch : List Nat} {up : List (Nat × GB)} (ha : Acts P g ⟨dst,op,ty,pos,after,none⟩ (visSt ⟨t,hp,n⟩ rs (bitL i m) u (offL n o)) sv ch up) (hc : (offK n off).ck i = ch) (hup : up.map (·.1) = (offK n off).nw i ++ (offK n off).ck i) (h : DR P g bf (offK n off) ops ⟨t,hp,n⟩ n' Q l (⟨dst,sv,ch,up⟩ :: rs)) (hi : rs.length = i := by exact rfl) (hf : flags (fun k => memB k (bf.getD i [])) i = bitL i m := by kernel_rfl) (hu : unordD bf i 0 ops = u := by kernel_rfl) (hk : unordK bf (offK n off) i 0 ops = offL n o := by kernel_rfl) (hd : ∀ d,dst = some d → d < g.n := by first | exact dst_some rfl | exact dst_none) : DR P g bf (offK n off) ops ⟨t,hp,n⟩ n' Q (⟨dst,op,ty,pos,after,none⟩ :: l) rs := d_uE ha hi hf hu hk hd hc hup h
theorem db (i m : Nat) (u : List Nat) (o : List (Bool × Nat)) {d : Nat} {op : Op} {ty : TypeId} {pos : String} {after : Array Edge} {b : Bool} (ha : Acts P g ⟨some d,op,ty,pos,after,none⟩ (visSt ⟨t,hp,n⟩ rs (bitL i m) u (offL n o)) (.one (boo b)) [] []) (ht : b = true → DR P g bf (offK n off) ops ⟨t,hp,n⟩ n' Q l (⟨some d,.one (boo true),[],[]⟩ :: rs)) (hff : b = false → DR P g bf (offK n off) ops ⟨t,hp,n⟩ n' Q l (⟨some d,.one (boo false),[],[]⟩ :: rs)) (hi : rs.length = i := by exact rfl) (hf : flags (fun k => memB k (bf.getD i [])) i = bitL i m := by kernel_rfl) (hu : unordD bf i 0 ops = u := by kernel_rfl) (hk : unordK bf (offK n off) i 0 ops = offL n o := by kernel_rfl) (hd : Nat.blt d g.n = true := by exact rfl) (hc : (offK n off).ck i = [] := by exact rfl) : DR P g bf (offK n off) ops ⟨t,hp,n⟩ n' Q (⟨some d,op,ty,pos,after,none⟩ :: l) rs := d_bN ha hi hf hu hk hd hc ht hff
theorem dpy (i m : Nat) (u : List Nat) (o : List (Bool × Nat)) {j d' : Nat} {b : Bool} {d : Nat} {op : Op} {ty : TypeId} {pos : String} {after : Array Edge} {sv : SV} (ha : Acts P g ⟨some d,op,ty,pos,after,some (j,b)⟩ (visSt ⟨t,hp,n⟩ rs (bitL i m) u (offL n o)) sv [] []) (h : DR P g bf (offK n off) ops ⟨t,hp,n⟩ n' Q l (⟨some d,sv,[],[]⟩ :: rs)) (hj : ((ops.toArray)[j]?).bind (·.dst) = some d' := by exact rfl) (hb : lkS (visSt ⟨t,hp,n⟩ rs (bitL i m) u (offL n o)).t d' = .one (boo b) := by exact rfl) (hi : rs.length = i := by exact rfl) (hf : flags (fun k => memB k (bf.getD i [])) i = bitL i m := by kernel_rfl) (hu : unordD bf i 0 ops = u := by kernel_rfl) (hk : unordK bf (offK n off) i 0 ops = offL n o := by kernel_rfl) (hdd : Nat.blt d' g.n = true := by exact rfl) (hd : Nat.blt d g.n = true := by exact rfl) (hc : (offK n off).ck i = [] := by exact rfl) : DR P g bf (offK n off) ops ⟨t,hp,n⟩ n' Q (⟨some d,op,ty,pos,after,some (j,b)⟩ :: l) rs := d_pyN hj hb ha hi hf hu hk hdd hd hc h
theorem dn (i m : Nat) (u : List Nat) (o : List (Bool × Nat)) {j d' : Nat} {b : Bool} {dst : Option Nat} {op : Op} {ty : TypeId} {pos : String} {after : Array Edge} (h : DR P g bf (offK n off) ops ⟨t,hp,n⟩ n' Q l (⟨dst,.tup [],[],[]⟩ :: rs)) (hj : ((ops.toArray)[j]?).bind (·.dst) = some d' := by exact rfl) (hb : skips b (lkS (visSt ⟨t,hp,n⟩ rs (bitL i m) u (offL n o)).t d') = true := by exact rfl) (hi : rs.length = i := by exact rfl) (hf : flags (fun k => memB k (bf.getD i [])) i = bitL i m := by kernel_rfl) (hu : unordD bf i 0 ops = u := by kernel_rfl) (hk : unordK bf (offK n off) i 0 ops = offL n o := by kernel_rfl) (hdd : Nat.blt d' g.n = true := by exact rfl) (hd : ∀ d,dst = some d → d < g.n := by first | exact dst_some rfl | exact dst_none) (hc : (offK n off).ck i = [] := by exact rfl) : DR P g bf (offK n off) ops ⟨t,hp,n⟩ n' Q (⟨dst,op,ty,pos,after,some (j,b)⟩ :: l) rs := d_noN hj hb hi hf hu hk hdd hd hc h
end
section
variable {g : Gh} {o : Oper} {st : St} {sv : SV}
theorem pu1 (h : Acts Tryz.prog g o st sv [] [] := by first | exact a_pure (sv := .one _) rfl | exact a_pure (sv := .agg _) rfl | exact a_pure (sv := .tup _) rfl) : Acts Tryz.prog g o st sv [] [] := h
theorem pu2 (h : Acts Tryz.prog g o st sv [] [] := by first | exact a_pure (sv := .one _) rfl | exact a_pure (sv := .agg _) rfl) : Acts Tryz.prog g o st sv [] [] := h
theorem puL (h : Acts Tryz.prog g o st sv [] [] := by first | exact a_pure (sv := .one _) rfl | exact a_pure (sv := .agg _) rfl | exact a_ld_rowI rfl rfl rfl (fC rfl) bnd) : Acts Tryz.prog g o st sv [] [] := h
theorem puI (h : Acts Tryz.prog g o st sv [] [] := by first | exact a_iaE rfl rfl rfl (fS rfl) (by omega) bnd (by exact rfl) | exact a_iaO1 rfl rfl rfl (fS rfl) (by omega) bnd | exact a_iaO rfl rfl rfl (fS rfl) (by omega) bnd (by exact rfl)) : Acts Tryz.prog g o st sv [] [] := h
theorem puN (h : Acts Tryz.prog g o st sv [] [] := by exact a_lenE rfl rfl (fS rfl) (by exact rfl)) : Acts Tryz.prog g o st sv [] [] := h
theorem puC (h : Acts Tryz.prog g o st sv [] [] := by exact a_cmp rfl rfl rfl trivial rfl) : Acts Tryz.prog g o st sv [] [] := h
end
end Go.Proofs.YtegpggobfdcafaaGreat
end
