/- Parts of the proof (17 of 24). -/
import Derived.Conc.MuLone
import Derived.Test.YtighjcjmacajoaaGreatDoorQ16
section
set_option linter.unusedVariables false
set_option linter.unusedSimpArgs false
namespace Go.Proofs.YtighjcjmacajoaaGreatDoor
open Go Foot
structure GWpX (P : Program) (g g' : Gh) (c : Code) (st : St) (Q : Exit → St → Prop) : Prop where
  run : ∀ a w S ρ F,Rel g st a w S ρ F → Fresh st ρ → c.wpIn (fen g.rd) 0 P (GQ g' Q) a w
structure GOpsX (P : Program) (g g' : Gh) (ops : Array Oper) (l : List Oper) (st : St) (Q : Exit → St → Prop) : Prop where
  run : ∀ a w S ρ F,Rel g st a w S ρ F → Fresh st ρ → wpListIn (fen g.rd) 0 P ops (GQ g' Q) l a w
section
variable {P : Program} {g g' : Gh} {st st' : St} {Q : Exit → St → Prop}
theorem gx_seq {x y : Code} (hrd : g'.rd = g.rd) (h : GWpX P g g' x st (qSeq P g' y Q)) : GWpX P g g' (.seq x y) st Q := by
  refine ⟨fun a w S ρ F hr hf => ?_⟩
  refine wpIn_seq (wpIn_mono (h.run a w S ρ F hr hf) ?_)
  rintro e a w ⟨st,S,ρ,F,h1,h2,h3⟩
  cases h3 with
  | go h3 => exact hrd ▸ h3.run a w S ρ F h1 h2
  | out hne h3 =>
    cases e with
    | normal => exact absurd rfl hne
    | _ => exact ⟨st,S,ρ,F,h1,h2,h3⟩
inductive qSeqX (P : Program) (g g' : Gh) (y : Code) (Q : Exit → St → Prop) : Exit → St → Prop where
  | go {st : St} (h : GWpX P g g' y st Q) : qSeqX P g g' y Q .normal st
theorem gx_seq2 {x y : Code} (h : GWp P g x st (qSeqX P g g' y Q)) : GWpX P g g' (.seq x y) st Q := by
  refine ⟨fun a w S ρ F hr hf => ?_⟩
  refine wpIn_seq (wpIn_mono (h.run a w S ρ F hr hf) ?_)
  rintro e a w ⟨st,S,ρ,F,h1,h2,h3⟩
  cases h3 with
  | go h3 => exact h3.run a w S ρ F h1 h2
theorem gx_region {id : Nat} {l : List Oper} (h : GOpsX P g g' l.toArray l st Q) : GWpX P g g' (.region id l.toArray false) st Q := ⟨fun a w S ρ F hr hf => wpIn_region_lit (h.run a w S ρ F hr hf)⟩
theorem ox_act {ops : Array Oper} {l : List Oper} {o : Oper} {sv : SV} {ch : List Nat} {up : List (Nat × GB)} {n : Nat} (hg : o.guard = none) (h : Acts P g o st sv ch up) (hd : ∀ d,o.dst = some d → d < g.n) (hchl : ∀ i ∈ ch,lkG st.h i ≠ .dead) (hu : upOk st.n n ch up)
    (hk : GOpsX P g g' ops l (st.eff o.dst sv up n) Q) : GOpsX P g g' ops (o :: l) st Q := by
  refine ⟨fun a w S ρ F hr hf => ?_⟩
  refine wpListIn_plain hg fun K hK => ?_
  refine h.run a w S ρ F hr (fun x hx => (upOk_mem hu x hx).imp id (fun h => hf _ h.1)) K _ ?_
  intro v w' S1 ρ' F' hdone hv
  exact hK _ _ (hk.run _ _ _ _ _ (hr.done hdone hd hv) (fresh_done hr hf hchl hu hdone))
theorem xp3 {ops : Array Oper} {l : List Oper} {t : List (Nat × SV)} {h : List (Nat × GB)} {n d : Nat} {op : Op} {ty : TypeId} {pos : String} {after : Array Edge} {sv : SV} (ha : Acts P g ⟨some d,op,ty,pos,after,none⟩ ⟨t,h,n⟩ sv [] []) (hd : Nat.blt d g.n = true) (hk : GOpsX P g g' ops l ⟨(d,sv) :: t,h,n⟩ Q) : GOpsX P g g' ops (⟨some d,op,ty,pos,after,none⟩ :: l) ⟨t,h,n⟩ Q :=
  ox_act (n := n) rfl ha (fun e he => by cases he; exact Nat.le_of_ble_eq_true hd) (fun i hi => by simp at hi) (Nat.le_refl _) hk
abbrev putU (f b o : Nat) : Deferred := { target := .fn (.func f) #[],args := #[.pointer (some ⟨b,o,none⟩)] }
abbrev Gh.put (g : Gh) (d : Deferred) : Gh := { g with df := d :: g.df }
theorem ox_put {ops : Array Oper} {l : List Oper} {f i k b off : Nat} {x : Operand} {c : Call} {ty : TypeId} {pos : String} {after : Array Edge} (hrd : g.rd = none) (hi : i < g.k) (hρ : g.ρ0 i = some (.pointer (some ⟨b,off,none⟩)))
    (hc : c.callee = .value (.func f)) (ha : c.args = #[x]) (hx : opd st x = .one (.gp i k))
    (hk : GOps P (g.put (putU f b (off + k))) ops l st Q) : GOpsX P g (g.put (putU f b (off + k))) ops (⟨none,.defer c,ty,pos,after,none⟩ :: l) st Q := by
  refine ⟨fun a w S ρ F hr hf => ?_⟩
  refine wpListIn_plain rfl fun K hK => ?_
  have hv : a.eval x = .pointer (some ⟨b,off + k,none⟩) := by
    have h1 := hr.opd x
    rw [hx] at h1
    obtain ⟨u,b',off',e1,e2,e3⟩ := h1
    rw [hr.pin i _ hi hρ] at e1
    simp only [Option.some.injEq] at e1
    subst e1
    simp only [base,Option.some.injEq,Prod.mk.injEq] at e2
    rw [e3,← e2.1,← e2.2]
  refine ⟨fun _ _ => trivial,?_⟩
  have hrun : ((⟨none,.defer c,ty,pos,after,none⟩ : Oper).semAt (fen g.rd).round a.eval).run P w = .ok (.defer (putU f b (off + k))) w := by
    rw [hrd]
    show (execOp a.eval ⟨none,.defer c,ty,pos,after,none⟩).run P w = _
    show (do pure (.defer (← resolve a.eval c ty)) : Sem Next).run P w = _
    have : resolve a.eval c ty = pure (putU f b (off + k)) := by
      unfold resolve
      simp only [hc,ha]
      have hf' : a.eval (.func f) = .func (.func f) #[] #[] := rfl
      simp only [hf',List.map_toArray,List.map_cons,List.map_nil,hv]
      rfl
    rw [this]
    rfl
  rw [hrun]
  refine hK _ _ (hk.run _ w S ρ F ⟨hr.size,?_,hr.slot,hr.root,hr.dis,hr.disS,hr.own,hr.ex,hr.exS,hr.old,hr.inS,hr.newS,hr.pin,hr.tab,hr.fin⟩ hf)
  exact .inr ⟨g.df,rfl,fun r e => by simp [putU,mkd] at e,hr.defers⟩
end
section
variable {P : Program} {g : Gh} {st : St}
theorem cell_done {w : World} {S : Foot} {ρ : Env} {F : Nat → Foot} {i k b off : Nat} {cs : List C} {v : Value} (hi : lkG st.h i = .bx cs) (hk : k < cs.length) (hρ : ρ i = some (.pointer (some ⟨b,off,none⟩))) (hv : v.oneCell' = true)
    (hr : lkG st.h i = .dead ∨ ∃ v,ρ i = some v ∧ RepG w S ρ (lkG st.h i) v (F i)) (hdS : Foot.dis (F i) S) (hex : ∀ b o,F i b o → b < w.heap.size) (hexS : ∀ b o,S b o → b < w.heap.size) :
    Done w (w.setCell ⟨b,off + k,none⟩ v) S no ρ ρ F (fun j => if j = i then F i else F j) [i] [(i,.bx (setRow cs k [.d (.sc v)]))] := by
  rcases hr with h0 | ⟨u,r1,r2⟩
  · rw [hi] at h0; cases h0
  rw [hi] at r2
  obtain ⟨b',off',vs,rfl,e3,e4,e5,e6⟩ := r2
  rw [hρ] at r1
  simp only [Option.some.injEq,Value.pointer.injEq,Addr.mk.injEq] at r1
  obtain ⟨rfl,rfl,_⟩ := r1
  have hvl := e4.length
  have hfr := e6 k hk
  have hbl : b < w.heap.size := block_lt hfr.1
  have r2 : Keeps (rng b (off + k) 1) w (w.setCell ⟨b,off + k,none⟩ v) := (keeps_set (w := w) b (off + k) v).mono (by rintro b' o' ⟨rfl,rfl⟩; exact ⟨rfl,by omega,by omega⟩)
  have r3 : ∀ (i : Nat) (u : Value),[v][i]? = some u → (w.setCell ⟨b,off + k,none⟩ v).cell? ⟨b,off + k + i,none⟩ = some u := by
    intro i x hx
    cases i with
    | zero =>
      simp at hx
      subst hx
      obtain ⟨y,hy⟩ := Option.isSome_iff_exists.1 hfr.1
      exact cell_set_same hy
    | succ i => simp at hx
  have r5 : (w.setCell ⟨b,off + k,none⟩ v).heap.size = w.heap.size := by simp [World.setCell]
  have hin : le (rng b (off + k) 1) (F i) := fun b' o' ⟨q1,q2,q3⟩ => e5 b' o' ⟨q1,by omega,by omega⟩
  have hk' := r2.mono hin
  have hagS : Agree w (w.setCell ⟨b,off + k,none⟩ v) S := hk'.agree hexS (fun b o hb hf => hdS b o hf hb)
  have hy : RepCs w S ρ [.d (.sc v)] [v] := ⟨v,[],rfl,⟨rfl,hv⟩,rfl⟩
  refine Done.chg (G := F i) hk' hρ ?_ (fun b o hb => ⟨.inl hb,by rw [r5]; exact hex b o hb⟩)
  refine ⟨b,off,setRow vs k [v],rfl,lies_stored (F0 := no) e3 (fun _ => hbl) r2 r3 (by simp; omega),(RepCs.setRow e4 hy).keep hagS (le_refl _) (Env.le.refl _),?_,?_⟩
  · rw [setRow_length]; exact e5
  · rw [setRow_length]; exact free_stored e6 (fun _ => hbl) r2 r3 (fun _ _ => frozen_set)
abbrev i32 (n : Int) : C := .d (.sc (.int .i32 n))
open Go.Conc.Locks in
theorem unlock_dIn {L : MuLink} (H : MuLib P L) (a : Addr) (u : FrameMode) (w : World) (hc : w.cell? a = some (.int .i32 1)) (hz : w.frozen? a = false) :
    CallsDIn (fen none) 0 P L.unlock #[.pointer (some a)] u w fun e u' w' => u' = u ∧ (e = .returned (.tuple #[]) ∧ w' = w.setCell a (.int .i32 0)) := by
  have k1 := H.runUnderlying_tMutex
  have k2 := H.sizeOf_tMutex
  have k3 := H.isAgg_tMutex
  have k4 := H.runUnderlying_tPMutex
  have k5 := H.sizeOf_tPMutex
  have k6 := H.isAgg_tPMutex
  have k7 := H.runUnderlying_tPIMutex
  have k8 := H.sizeOf_tPIMutex
  have k9 := H.isAgg_tPIMutex
  have k10 := H.sizeOf_tIMutex
  have k11 := H.runUnderlying_tIMutex
  have k12 := H.isAgg_tIMutex
  have k13 := H.sizeOf_tNoCopy
  have hin := fun args w => Go.MuLone.run_callFunc_enter (P := P) H.f_iunlock (by kernel_rfl) rfl args w
  refine callsDIn_of_wp H.f_unlock rfl trivial (wpIn_wide.2 ?_)
  rw [Go.MuLone.nt_unlock L]
  simp only [unlockFn]
  go_wp2
  refine (Go.MuLone.iunlock_held H a _ hc hz).mono ?_
  rintro e w' ⟨rfl,rfl⟩
  go_wp2
  go_end0
  exact ⟨rfl,rfl⟩
theorem leaves_unlock {fn : Func} {R : Ending → World → Prop} {f b off i k : Nat} {cs : List C} {S : Foot} {ρ : Env} {F : Nat → Foot} {L : Go.Conc.Locks.MuLink} (H : Go.Conc.Locks.MuLib P L) (hf : L.unlock = f) (hi : i < g.k) (hρ : g.ρ0 i = some (.pointer (some ⟨b,off,none⟩)))
    (hg : lkG st.h i = .bx cs) (hk : cs[k]? = some (i32 1)) (hE : entB P f = true) (hdf : g.df = [])
    (hR : ∀ a w,Rel g (st.eff none .any [(i,.bx (setRow cs k [i32 0]))] st.n) a w S ρ F → ∃ v,(results fn a.tmps).run P w = .ok v w ∧ R (.returned v) w) :
    ∀ (ds : List Deferred) (a : Act) (w : World),a.defers = ds → Rel (g.put (putU f b (off + k))) st a w S ρ F → LeavesInM (fen none) 0 P fn a.tmps R ds .returning w
  | [],a,w,e,h => by
    have hd := h.defers
    rw [e] at hd
    simp only [Dfs] at hd
    cases hd
  | d :: ds,a,w,e,h => by
    have hd := h.defers
    rw [e] at hd
    simp only [Dfs] at hd
    rcases hd with ⟨r,e1,m,h2,h3⟩ | ⟨df',e1,h2,h3⟩
    · subst e1
      refine ⟨by simp,.inl ⟨r,w.putObj r (.deferred none),rfl,run_takeDeferred (mapAt_of m.at_),?_⟩⟩
      exact leaves_unlock H hf hi hρ hg hk hE hdf hR ds { a with defers := ds } _ rfl (h.unmark m h3 h2)
    · simp only [Gh.put,List.cons.injEq] at e1
      obtain ⟨rfl,rfl⟩ := e1
      have hkl : k < cs.length := (List.getElem?_eq_some_iff.1 hk).1
      have hρ' : ρ i = some (.pointer (some ⟨b,off,none⟩)) := h.pin i _ hi hρ
      have hcell : w.cell? ⟨b,off + k,none⟩ = some (.int .i32 1) ∧ w.frozen? ⟨b,off + k,none⟩ = false := by
        rcases h.root i with h0 | ⟨u,r1,r2⟩
        · rw [hg] at h0; cases h0
        rw [hg] at r2
        obtain ⟨b',off',vs,rfl,e3,e4,e5,e6⟩ := r2
        rw [hρ'] at r1
        simp only [Option.some.injEq,Value.pointer.injEq,Addr.mk.injEq] at r1
        obtain ⟨rfl,rfl,_⟩ := r1
        obtain ⟨v,hv,hv'⟩ := e4.nth hk
        have hv2 : v = .int .i32 1 := hv'.1
        rw [hv2] at hv
        exact ⟨e3 k _ hv,(e6 k hkl).2⟩
      refine ⟨by simp,.inr ⟨fen_depth,.func f,#[],f,#[.pointer (some ⟨b,off + k,none⟩)],rfl,?_,fun _ _ => trivial,trivial,?_⟩⟩
      · show (invoke (.fn (.func f) #[]) #[.pointer (some ⟨b,off + k,none⟩)]).run P w = _
        simp only [invoke,Array.append_empty]
        exact run_callFunc hE _ _
      · subst hf
        refine ((unlock_dIn H ⟨b,off + k,none⟩ .returning w hcell.1 hcell.2).mono ?_).2
        rintro e' u' w' ⟨rfl,rfl,rfl⟩
        have hF : (fun j => if j = i then F i else F j) = F := by funext j; split <;> simp_all
        have hdone := cell_done (v := .int .i32 0) hg hkl hρ' rfl (h.root i) (h.disS i) (h.ex i) h.exS
        have hrel := h.done hdone (n := st.n) (dst := none) (v := undef) (sv := .any) (fun _ e => by cases e) trivial
        have hm : mrg F (fun j => if j = i then F i else F j) [(i,GB.bx (setRow cs k [i32 0]))] = F := by
          rw [hF]
          funext j
          unfold mrg
          split <;> rfl
        rw [or_no,hm] at hrel
        show LeavesInM (fen none) 0 P fn a.tmps R ds (settle .returning) _
        have hrel2 : Rel g (st.eff none .any [(i,.bx (setRow cs k [i32 0]))] st.n) { a with defers := ds } (w.setCell ⟨b,off + k,none⟩ (.int .i32 0)) S ρ F := by
          refine ⟨hrel.size,?_,hrel.slot,hrel.root,hrel.dis,hrel.disS,hrel.own,hrel.ex,hrel.exS,hrel.old,hrel.inS,hrel.newS,hrel.pin,hrel.tab,hrel.fin⟩
          exact h3.keep fun r hr m => ⟨by rw [map_set]; exact m.at_,m.F,m.S,m.lo⟩
        exact leaves_marks hdf hR ds { a with defers := ds } _ rfl hrel2
end
theorem repA_lenU {w : World} {S : Foot} {ρ : Env} : ∀ {l : List SV} {vs : List Value},RepA w S ρ l vs → vs.length = l.length
  | [],vs,h => by simp only [RepA] at h; subst h; rfl
  | x :: l,vs,h => by
    simp only [RepA] at h
    obtain ⟨u,us,rfl,_,e3⟩ := h
    simp [repA_lenU e3]
theorem given_rel {fn : Func} {n : Nat} {args : List SV} {H : List GB} {vs : List Value} {w : World} {S : Foot} {ρ : Env} {F : Nat → Foot} (hn : fn.ntmps = n) (hargs : args.length ≤ n) (hA : RepA w S ρ args vs) (hG : Given w S ρ F H) :
    Rel ⟨n,w,upTo F H.length,S,H.length,ρ,none,[]⟩ ⟨argT 0 args,argH 0 H,H.length⟩ { tmps := vs.toArray ++ Array.replicate (fn.ntmps - vs.toArray.size) undef,defers := [] } w S ρ (fun i => if i < H.length then F i else no) ∧ Fresh ⟨argT 0 args,argH 0 H,H.length⟩ ρ := by
  have hlen : vs.length = args.length := repA_lenU hA
  have hsz : (vs.toArray ++ Array.replicate (fn.ntmps - vs.toArray.size) undef).size = n := by simp; omega
  let F1 : Nat → Foot := fun i => if i < H.length then F i else no
  have hrel : Rel ⟨n,w,upTo F H.length,S,H.length,ρ,none,[]⟩ ⟨argT 0 args,argH 0 H,H.length⟩ { tmps := vs.toArray ++ Array.replicate (fn.ntmps - vs.toArray.size) undef,defers := [] } w S ρ F1 := by
    refine ⟨hsz,rfl,fun i => ?_,fun i => ?_,fun i j hij => ?_,fun i => ?_,fun i => ?_,fun i b o hb => ?_,hG.exS,Keeps.refl _ _,le_refl _,fun b o h => .inl h,fun i u _ h => h,hG.tab,H.length,fun i hi => hG.new i hi⟩
    · refine argT_lk (u := fun i => (vs.toArray ++ Array.replicate (fn.ntmps - vs.toArray.size) undef).getD i undef) hA (fun j hj => ?_) i
      simp only [Nat.zero_add,Array.getD_eq_getD_getElem?,List.getD_eq_getElem?_getD]
      rw [Array.getElem?_append_left (by simpa using hj)]
      simp
    · rcases argH_lk (H := H) (k := 0) (i := i) with h0 | ⟨_,h1⟩
      · exact .inl h0
      · have hi : i < H.length := (List.getElem?_eq_some_iff.1 h1).1
        rcases hG.roots i _ h1 with h2 | ⟨v,h2,h3⟩
        · exact .inl h2
        · refine .inr ⟨v,h2,?_⟩
          simp only [F1,if_pos hi]
          exact h3
    · simp only [F1]
      by_cases hi : i < H.length <;> by_cases hj : j < H.length
      · rw [if_pos hi,if_pos hj]; exact hG.dis i j hi hj hij
      · rw [if_neg hj]; exact dis_no _
      · rw [if_neg hi]; exact no_dis _
      · rw [if_neg hj]; exact dis_no _
    · simp only [F1]
      by_cases hi : i < H.length
      · rw [if_pos hi]; exact hG.disS i hi
      · rw [if_neg hi]; exact no_dis _
    · simp only [F1]
      by_cases hi : i < H.length
      · rw [if_pos hi]; exact fun b o hb => .inl ⟨i,hi,hb⟩
      · rw [if_neg hi]; exact no_le _
    · simp only [F1] at hb
      by_cases hi : i < H.length
      · rw [if_pos hi] at hb; exact hG.ex i hi b o hb
      · rw [if_neg hi] at hb; exact hb.elim
  exact ⟨hrel,fun i hi => hG.new i hi⟩
theorem ends_ret {P : Program} {fn : Func} {n : Nat} {H H' : List GB} {res : SV} {w w' : World} {S S' : Foot} {ρ ρ' : Env} {F F' : Nat → Foot} {st : St} {a' : Act} {l : List (Bool × List C)} {ids : List Nat} (hG : Given w S ρ F H)
    (hrel' : Rel ⟨n,w,upTo F H.length,S,H.length,ρ,none,[]⟩ st a' w' S' ρ' F')
    (h1 : RessOk P st fn.results.toList l) (h2 : SVLe st.h [] (resSV l) (res.ren (resF H.length ids))) (h3 : rootsLe (resF H.length ids) st 0 H') (h4 : H'.length = H.length + ids.length) (h5 : nodupB (liveIds (resF H.length ids) 0 H') = true) (h7 : res.lt H'.length = true) (h8 : allG H'.length H' = true) :
    ∃ v,(results fn a'.tmps).run P w' = .ok v w' ∧ ∃ v0 S1 ρ' F',Ending.returned v = .returned v0 ∧ Ret w w' S S1 ρ ρ' F F' H.length H' ∧ RepS w' (S.or S1) ρ' res v0 := by
  obtain ⟨v,hv1,hv2⟩ := results_run h1 hrel'
  have hv3 := RepS.ren.1 (h2.rep0 hrel' hv2)
  let f' := resF H.length ids
  let S1 : Foot := fun b o => S' b o ∧ newOr w (upTo F H.length) b o
  have hSS : S.or S1 = S' := by
    funext b o
    refine propext ⟨fun h => h.elim (hrel'.inS b o) (fun h => h.1),fun h => ?_⟩
    rcases hrel'.newS b o h with h' | h'
    · exact .inl h'
    · exact .inr ⟨h,h'⟩
  let ρ2 : Env := fun i => if i < H'.length then ρ' (f' i) else none
  have hr2 : ∀ i,i < H'.length → ρ2 i = (fun i => ρ' (f' i)) i := fun i hi => if_pos hi
  let F3 : Nat → Foot := fun i => match H'[i]? with | some gb => bif gb.lives then F' (f' i) else no | none => no
  have hF3 : ∀ i,F3 i = no ∨ (F3 i = F' (f' i) ∧ ∃ gb,H'[i]? = some gb ∧ gb.lives = true) := by
    intro i
    simp only [F3]
    cases hg : H'[i]? with
    | none => exact .inl rfl
    | some gb =>
      cases hl : gb.lives with
      | true => exact .inr ⟨by simp [hl],gb,rfl,hl⟩
      | false => exact .inl (by simp [hl])
  have hret : Ret w w' S S1 ρ ρ2 F F3 H.length H' := by
    refine ⟨hrel'.old,fun b o h => h.2,fun b o h => hrel'.exS b o h.1,by omega,fun i u hi hu => ?_,fun i hi => if_neg (by omega),fun i gb hi => ?_,fun i j hi hj hij => ?_,fun i hi => ?_,fun i hi => ?_,fun i hi => ?_⟩
    · have e1 : f' i = i := by
        show resF H.length ids i = i
        unfold resF
        have : Nat.blt i H.length = true := Nat.ble_eq_true_of_le hi
        rw [this]
        rfl
      show (if i < H'.length then ρ' (f' i) else none) = some u
      rw [if_pos (by omega),e1]
      exact hrel'.pin i u hi hu
    · have hil : i < H'.length := (List.getElem?_eq_some_iff.1 hi).1
      rw [hSS]
      rcases rootsLe_get h3 hi with h0 | h0
      · exact .inl h0
      · rw [Nat.zero_add] at h0
        rcases hrel'.root (f' i) with r0 | ⟨u,r1,r2⟩
        · rw [h0] at r0
          refine .inl ?_
          cases gb <;> first | rfl | (simp [GB.ren] at r0)
        · rw [h0] at r2
          cases hl : gb.lives with
          | false =>
            refine .inl ?_
            cases gb <;> first | rfl | (simp [GB.lives] at hl)
          | true =>
            have e' : F3 i = F' (f' i) := by simp only [F3,hi,hl,cond_true]
            exact .inr ⟨u,(hr2 i hil).trans r1,by rw [e']; exact RepG.ltE hr2 (RepG.ren.1 r2) (allG_get h8 hi)⟩
    · rcases hF3 i with e | ⟨e,gi,hgi,hli⟩
      · rw [e]; exact no_dis _
      · rcases hF3 j with e' | ⟨e',gj,hgj,hlj⟩
        · rw [e']; exact dis_no _
        · rw [e,e']
          have := liveIds_inj (f := resF H.length ids) (k := 0) h5 hgi hli hgj hlj hij
          rw [Nat.zero_add,Nat.zero_add] at this
          exact hrel'.dis _ _ this
    · rcases hF3 i with e | ⟨e,_⟩
      · rw [e]; exact no_dis _
      · rw [e]; exact fun b o hb hs => hrel'.disS _ b o hb hs.1
    · rcases hF3 i with e | ⟨e,_⟩
      · rw [e]; exact no_le _
      · rw [e]; exact hrel'.own _
    · rcases hF3 i with e | ⟨e,_⟩
      · rw [e]; exact fun b o hb => hb.elim
      · rw [e]; exact hrel'.ex _
  have hres : ∃ v0 S1 ρ' F',Ending.returned v = .returned v0 ∧ Ret w w' S S1 ρ ρ' F F' H.length H' ∧ RepS w' (S.or S1) ρ' res v0 := ⟨v,S1,ρ2,_,rfl,hret,by rw [hSS]; exact RepS.ltE hr2 hv3 h7⟩
  exact ⟨v,hv1,hres⟩
theorem does_lock {P : Program} {L : Go.Conc.Locks.MuLink} {f k : Nat} {cs : List C} {H : List GB} (HL : Go.Conc.Locks.MuLib P L) (hf : L.lock = f) (hk : cs[k]? = some (i32 0)) : Does P f [.one (.gp 0 k)] (.bx cs :: H) (.tup []) (.bx (setRow cs k [i32 1]) :: H) := by
  subst hf
  intro vs w S ρ F hA hG
  simp only [RepA] at hA
  obtain ⟨v,us,rfl,hv,rfl⟩ := hA
  obtain ⟨u,b,off,e1,e2,rfl⟩ := hv
  have hkl : k < cs.length := (List.getElem?_eq_some_iff.1 hk).1
  have hroot := hG.roots 0 _ rfl
  have hcell : ρ 0 = some (.pointer (some ⟨b,off,none⟩)) ∧ w.cell? ⟨b,off + k,none⟩ = some (.int .i32 0) ∧ w.frozen? ⟨b,off + k,none⟩ = false := by
    rcases hroot with h0 | ⟨u',r1,r2⟩
    · cases h0
    obtain ⟨b',off',vs,rfl,e3,e4,e5,e6⟩ := r2
    rw [e1] at r1
    simp only [Option.some.injEq] at r1
    subst r1
    simp only [base,Option.some.injEq,Prod.mk.injEq] at e2
    obtain ⟨rfl,rfl⟩ := e2
    obtain ⟨v,hv,hv'⟩ := e4.nth hk
    have hv2 : v = .int .i32 0 := hv'.1
    rw [hv2] at hv
    exact ⟨e1,e3 k _ hv,(e6 k hkl).2⟩
  obtain ⟨hρ,hc,hz⟩ := hcell
  refine (Go.MuLone.lock_free HL ⟨b,off + k,none⟩ w hc hz).mono ?_
  rintro e w' ⟨rfl,rfl⟩
  have hd := cell_done (st := ⟨[],[(0,.bx cs)],0⟩) (i := 0) (v := .int .i32 1) rfl hkl hρ rfl hroot (hG.disS 0 (by simp)) (hG.ex 0 (by simp)) hG.exS
  have hF : (fun j => if j = 0 then F 0 else F j) = F := by funext j; split <;> simp_all
  rw [hF] at hd
  have hsz : (w.setCell ⟨b,off + k,none⟩ (.int .i32 1)).heap.size = w.heap.size := by simp [World.setCell]
  have h0 : le (F 0) (upTo F (GB.bx cs :: H).length) := fun b o h => ⟨0,by simp,h⟩
  have hkp : Keeps (F 0) w (w.setCell ⟨b,off + k,none⟩ (.int .i32 1)) := hd.keeps.mono (by rintro b o ⟨j,hj,h⟩; simp at hj; subst hj; exact h)
  have hagS : Agree w (w.setCell ⟨b,off + k,none⟩ (.int .i32 1)) S := hkp.agree hG.exS (fun b o hb hf => hG.disS 0 (by simp) b o hf hb)
  refine ⟨_,no,ρ,F,rfl,⟨hkp.mono h0,no_le _,fun b o h => h.elim,by simp,fun i u _ h => h,fun i hi => hG.new i (by simpa using hi),fun i gb hi => ?_,fun i j hi hj hij => hG.dis i j (by simpa using hi) (by simpa using hj) hij,fun i _ => dis_no _,fun i hi => ?_,fun i hi b o hb => ?_⟩,⟨#[],rfl,rfl⟩⟩
  · rw [or_no]
    cases i with
    | zero =>
      simp at hi
      subst hi
      have := hd.rep _ (List.mem_singleton_self _)
      rw [or_no] at this
      exact this
    | succ i =>
      rcases hG.roots (i + 1) gb (by simpa using hi) with h | ⟨v,h1,h2⟩
      · exact .inl h
      · have hil : i + 1 < (GB.bx cs :: H).length := by have := (List.getElem?_eq_some_iff.1 hi).1; simpa using this
        refine .inr ⟨v,h1,h2.keep (hkp.agree (hG.ex _ hil) fun b o hb hf => hG.dis 0 (i + 1) (by simp) hil (by omega) b o hf hb) hagS (le_refl _) (Env.le.refl _) (le_refl _)⟩
  · exact fun b o hb => .inl ⟨i,by simpa using hi,hb⟩
  · rw [hsz]; exact hG.ex i (by simpa using hi) b o hb
def EndsU (P : Program) (fn : Func) (k : Nat) (res : SV) (H' : List GB) (i o : Nat) : Exit → St → Prop := fun e st =>
  ∃ cs,lkG st.h i = .bx cs ∧ cs[o]? = some (i32 1) ∧ Ends P fn k res H' e (st.eff none .any [(i,.bx (setRow cs o [i32 0]))] st.n)
theorem endsU {P : Program} {fn : Func} {k : Nat} {res : SV} {H' : List GB} {i o n : Nat} {e : Exit} {t : List (Nat × SV)} {h : List (Nat × GB)} {cs : List C} (h1 : lkG h i = .bx cs) (h2 : cs[o]? = some (i32 1)) (hk : Ends P fn k res H' e ⟨t,(i,.bx (setRow cs o [i32 0])) :: h,n⟩) : EndsU P fn k res H' i o e ⟨t,h,n⟩ := ⟨cs,h1,h2,hk⟩
theorem does_ofU {P : Program} {f fU : FuncId} {fn : Func} {c : Code} {n k o : Nat} {args : List SV} {cs0 : List C} {H H' : List GB} {res : SV} {L : Go.Conc.Locks.MuLink} (HL : Go.Conc.Locks.MuLib P L) (hfU : L.unlock = fU) (hEU : entB P fU = true)
    (hf : P.funcs[f]? = some fn) (hb : fn.body = some c) (hn : fn.ntmps = n) (hargs : Nat.ble args.length n = true) (hk : (.bx cs0 :: H).length = k)
    (h : ∀ w F0 S0 ρ0 b off,ρ0 0 = some (.pointer (some ⟨b,off,none⟩)) → GWpX P ⟨n,w,F0,S0,k,ρ0,none,[]⟩ ⟨n,w,F0,S0,k,ρ0,none,[putU fU b (off + o)]⟩ c ⟨argT 0 args,argH 0 (.bx cs0 :: H),k⟩ (EndsU P fn k res H' 0 o)) : Does P f args (.bx cs0 :: H) res H' := by
  intro vs w S ρ F hA hG
  subst hk
  have hargs := Nat.le_of_ble_eq_true hargs
  refine callsIn_wide.1 (callsIn_of_wp_marks (n := 0) (F := fen none) hf hb trivial ?_)
  obtain ⟨b,off,hρ⟩ : ∃ b off,ρ 0 = some (.pointer (some ⟨b,off,none⟩)) := by
    rcases hG.roots 0 _ rfl with h0 | ⟨v,h1,h2⟩
    · cases h0
    · obtain ⟨b,off,vs,rfl,_⟩ := h2
      exact ⟨b,off,h1⟩
  obtain ⟨hrel,hfr⟩ := given_rel hn hargs hA hG
  refine wpIn_mono ((h w _ S ρ b off hρ).run _ w S ρ _ hrel hfr) ?_
  rintro e a0 w0 ⟨st,S',ρ',F',hrel0,hfr,cs,hr1,hr2,he,l,ids,h1,h2,h3,h4,h5,h7,h8⟩
  have := leaves_unlock (g := ⟨n,w,upTo F (GB.bx cs0 :: H).length,S,(GB.bx cs0 :: H).length,ρ,none,[]⟩) HL hfU (by simp) hρ hr1 hr2 hEU rfl (fn := fn) (R := fun e w' => ∃ v0 S1 ρ' F',e = .returned v0 ∧ Ret w w' S S1 ρ ρ' F F' (GB.bx cs0 :: H).length H' ∧ RepS w' (S.or S1) ρ' res v0)
    (fun a' w' hrel' => ends_ret hG hrel' h1 h2 h3 h4 h5 h7 h8) a0.defers a0 w0 rfl hrel0
  rcases he with rfl | rfl
  · exact this
  · exact this
end Go.Proofs.YtighjcjmacajoaaGreatDoor
end
section
set_option linter.unusedVariables false
set_option linter.unusedSimpArgs false
set_option maxRecDepth 100000
namespace Go.Proofs.YtighjcjmacajoaaGreatDoor
open Go Foot MapKept
def knP (Good : Bs → List D → Prop) : Opq where
  p w S us F := ∃ b es c,us = [.map (some b)] ∧ mapAt w b = some (.map es c) ∧ stamps es c ∧ (∀ e ∈ es.toList,∃ k ds vs,e.key = sv k ∧ Good k ds ∧ e.val = .agg vs ∧ Reps w S ds vs.toList no) ∧ ∀ o,F b o
  keep := by
    rintro w w' S S' F F' us ⟨b,es,c,h1,h2,h3,h4,h5⟩ hF hS hle hf
    refine ⟨b,es,c,h1,by rw [(hF b 0 (h5 0)).2.2,h2],h3,fun e he => ?_,fun o => hf _ _ (h5 o)⟩
    obtain ⟨k,ds,vs,g1,g2,g3,g4⟩ := h4 e he
    exact ⟨k,ds,vs,g1,g2,g3,g4.keep Agree.no hS hle (le_refl _)⟩
theorem findNow_K (k : Bs) : ∀ (es : List MapEntry) (i : Nat),(∀ e ∈ es,∃ k',e.key = sv k') →
    Instr.findNow .string (sv k) es i = some none ∨ ∃ j e,Instr.findNow .string (sv k) es i = some (some (i + j,e.val)) ∧ es[j]? = some e ∧ e.key = sv k
  | [],i,_ => .inl rfl
  | e :: es,i,h => by
    obtain ⟨k',hk'⟩ := h e List.mem_cons_self
    obtain ⟨r,hr,hiff⟩ := sameNow_of_keys (mSB.isK k) (mSB.isK k')
    by_cases hk : k' = k
    · subst hk
      have : r = true := hiff.2 rfl
      subst this
      exact .inr ⟨0,e,by simp [Instr.findNow,hk',hr],rfl,hk'⟩
    · have hne : r = false := by
        cases r with
        | false => rfl
        | true => exact absurd (mSB.inj _ _ (hiff.1 rfl)).symm hk
      subst hne
      rcases findNow_K k es (i + 1) (fun e he => h e (List.mem_cons_of_mem _ he)) with g | ⟨j,e',g1,g2,g3⟩
      · exact .inl (by simp [Instr.findNow,hk',hr,g])
      · refine .inr ⟨j + 1,e',?_,by simpa using g2,g3⟩
        simp only [Instr.findNow,hk',hr,g1]
        congr 3
        omega
section
variable {P : Program} {g : Gh} {st : St} {Good : Bs → List D → Prop}
variable {dst : Option Tmp} {ty : TypeId} {pos : String} {after : Array Edge} {guard : Option (Nat × Bool)} {x y z : Operand} {T kt et : TypeId} {i : Nat} {k : Bs}
theorem a_mkMapK (Good : Bs → List D → Prop) {i : Nat} : Acts P g ⟨dst,.makeMap T none,ty,pos,after,guard⟩ st (.one (.gv i)) [] [(i,.opq (knP Good) [i])] := by
  refine ⟨fun a w S ρ F h hn K Q hK => ?_⟩
  have hn' : ρ i = none := by simpa using hn (i,.opq (knP Good) [i]) (by simp)
  have hrun : (execOp a.eval ⟨dst,.makeMap T none,ty,pos,after,guard⟩).run P w = .ok (.value (.map (some w.heap.size))) (w.alloc (.map #[] 0)) := rfl
  refine oper_in (fun _ h => nomatch h) ?_
  rw [hrun,Oper.uponIn_value]
  refine hK (.map (some w.heap.size)) _ no _ _ (Done.new (u := .map (some w.heap.size)) (S1 := no) (G := fun b _ => b = w.heap.size) (keeps_alloc _) hn' (fun ρ' hl hu => ?_) (fun b o hb => by subst hb; exact ⟨Nat.le_refl _,by simp⟩)) ⟨by simp,rfl⟩
  refine ⟨[.map (some w.heap.size)],by simp [hu],w.heap.size,#[],0,rfl,by simp [mapAt,heap_alloc],⟨by simp,by simp⟩,by simp,fun _ => rfl⟩
theorem rel_mapK {a : Act} {w : World} {S : Foot} {ρ : Env} {F : Nat → Foot} (h : Rel g st a w S ρ F) (hx : opd st x = .one (.gv i)) (hg : lkG st.h i = .opq (knP Good) [i]) :
    ∃ b es c,a.eval x = .map (some b) ∧ ρ i = some (.map (some b)) ∧ w.heap[b]? = some (.map es c) ∧ (∀ e ∈ es.toList,∃ k ds vs,e.key = sv k ∧ Good k ds ∧ e.val = .agg vs ∧ Reps w S ds vs.toList no) ∧ (∀ o,F i b o) ∧ stamps es c := by
  have h1 := (opd_one h hx).1
  rcases h.root i with h0 | ⟨u,r1,r2⟩
  · rw [hg] at h0; cases h0
  rw [hg] at r2
  obtain ⟨us,e1,b,es,c,rfl,e2,e3,e4,e5⟩ := r2
  simp only [List.map_cons,List.map_nil,List.cons.injEq,and_true] at e1
  rw [e1] at h1
  simp only [Option.some.injEq] at h1
  exact ⟨b,es,c,h1.symm,e1,mapAt_some e2,e4,e5,e3⟩
theorem o_lookK {ops : Array Oper} {l : List Oper} {d : Nat} {zs : Array Value} {Q : Exit → St → Prop} (hx : opd st x = .one (.gv i)) (hg : lkG st.h i = .opq (knP Good) [i]) (hy : opd st y = .one (str k)) (hT : P.underlying T = some (.map kt et)) (hk : P.underlying kt = some .string) (hz : zeroV P et = some (.agg zs)) (hz1 : zs.toList.all Value.oneCell' = true) (hd : Nat.blt d g.n = true)
    (hyes : ∀ ds,Good k ds → GOps P g ops l (st.eff (some d) (.tup [(true,ds.map .d),(false,[boo true])]) [] st.n) Q)
    (hno : GOps P g ops l (st.eff (some d) (.tup [(true,zs.toList.map fun v => .d (.sc v)),(false,[boo false])]) [] st.n) Q) :
    GOps P g ops (⟨some d,.lookup T x y true,ty,pos,after,none⟩ :: l) st Q := by
  refine ⟨fun a w S ρ F h hf => ?_⟩
  refine wpListIn_plain rfl fun K hK => ?_
  obtain ⟨b,es,c,e1,e0,e2,e3,e4,e5⟩ := rel_mapK h hx hg
  have hd' : d < g.n := Nat.le_of_ble_eq_true hd
  have hzr : (zeroValue et).run P w = .ok (.agg zs) w := run_zeroV hz
  have key : ∃ v,(Instr.lookup T (a.eval x) (a.eval y) true).run P w = .ok v w ∧ ((v = .tuple #[.agg zs,.bool false]) ∨ ∃ ds vs,Good k ds ∧ Reps w S ds vs.toList no ∧ v = .tuple #[.agg vs,.bool true]) := by
    rw [e1,opd_sc h hy]
    rcases findNow_K k es.toList 0 (fun e he => (e3 e he).imp fun k h => by obtain ⟨_,_,h,_⟩ := h; exact h) with g2 | ⟨j,e,g2,g3,g4⟩
    · refine ⟨_,?_,.inl rfl⟩
      simp [Instr.lookup,run_underlying hT,MapKept.run_getObj_map e2,MapKept.run_checkKey hk (mSB.isK k) es.isEmpty 9999,MapKept.run_findKey hk g2,hzr]
    · obtain ⟨k',ds,vs,q1,q2,q3,q4⟩ := e3 e (List.mem_of_getElem? g3)
      have : k' = k := mSB.inj _ _ (q1.symm.trans g4)
      subst this
      refine ⟨_,?_,.inr ⟨ds,vs,q2,q4,rfl⟩⟩
      rw [q3] at g2
      simp [Instr.lookup,run_underlying hT,MapKept.run_getObj_map e2,MapKept.run_checkKey hk (mSB.isK k') es.isEmpty 9999,MapKept.run_findKey hk g2]
  obtain ⟨v,hrun,hv⟩ := key
  have hrun' : (execOp a.eval ⟨some d,.lookup T x y true,ty,pos,after,none⟩).run P w = .ok (.value v) w := by
    show (do pure (.value (← Instr.lookup T (a.eval x) (a.eval y) true)) : Sem Next).run P w = _
    simp [hrun]
  refine oper_in (fun _ h => nomatch h) ?_
  rw [hrun',Oper.uponIn_value]
  rcases hv with rfl | ⟨ds,vs,q1,q2,rfl⟩
  · refine hK _ _ (hno.run _ _ _ _ _ (h.done (n := st.n) (dst := some d) (sv := .tup [(true,zs.toList.map fun v => .d (.sc v)),(false,[boo false])]) (Done.nil w S ρ F) (fun d' e => by cases e; exact hd') ?_) hf)
    exact ⟨_,rfl,.agg zs,[.bool false],rfl,⟨zs,rfl,repCs_sc hz1⟩,.bool false,[],rfl,⟨_,[],rfl,⟨rfl,rfl⟩,rfl⟩,rfl⟩
  · refine hK _ _ ((hyes ds q1).run _ _ _ _ _ (h.done (n := st.n) (dst := some d) (sv := .tup [(true,ds.map .d),(false,[boo true])]) (Done.nil w S ρ F) (fun d' e => by cases e; exact hd') ?_) hf)
    rw [or_no]
    exact ⟨_,rfl,.agg vs,[.bool true],rfl,⟨vs,rfl,repCs_d q2⟩,.bool true,[],rfl,⟨_,[],rfl,⟨rfl,rfl⟩,rfl⟩,rfl⟩
theorem a_updK {cs : List C} {ds : List D} (hx : opd st x = .one (.gv i)) (hg : lkG st.h i = .opq (knP Good) [i]) (hy : opd st y = .one (str k)) (hv : opd st z = .agg cs) (hds : C.toD.all cs = some ds) (hgood : Good k ds) (hT : P.underlying T = some (.map kt et)) (hk : P.underlying kt = some .string) :
    Acts P g ⟨none,.mapUpdate T x y z,ty,pos,after,guard⟩ st .any [i] [(i,.opq (knP Good) [i])] := by
  refine ⟨fun a w S ρ F h _ K Q hK => ?_⟩
  obtain ⟨b,es,c,e1,e0,e2,e3,e4,e5⟩ := rel_mapK h hx hg
  have hbs : b < w.heap.size := (Array.getElem?_eq_some_iff.1 e2).1
  have hz := h.opd z
  rw [hv] at hz
  obtain ⟨vs,hvz,hvs⟩ := hz
  have hr := hvs.toD hds
  have key : ∃ es' c',(Instr.mapUpdate T (a.eval x) (a.eval y) (a.eval z)).run P w = .ok () { w with heap := w.heap.setIfInBounds b (.map es' c') } ∧ (∀ e ∈ es'.toList,∃ k ds vs,e.key = sv k ∧ Good k ds ∧ e.val = .agg vs ∧ Reps w S ds vs.toList no) ∧ stamps es' c' := by
    rw [e1,opd_sc h hy,hvz]
    rcases findNow_K k es.toList 0 (fun e he => (e3 e he).imp fun k h => by obtain ⟨_,_,h,_⟩ := h; exact h) with g2 | ⟨j,e,g2,g3,g4⟩
    · refine ⟨es.push { key := sv k,val := .agg vs,born := c },c + 1,?_,fun e he => ?_,stamps_push e5⟩
      · simp [Instr.mapUpdate,run_underlying hT,MapKept.run_getObj_map e2,MapKept.run_checkKey hk (mSB.isK k) false 9999,MapKept.run_findKey hk g2,MapKept.run_setObj_map _ e2]
      · simp only [Array.toList_push,List.mem_append,List.mem_singleton] at he
        rcases he with he | rfl
        · exact e3 e he
        · exact ⟨k,ds,vs,rfl,hgood,rfl,hr⟩
    · rw [Nat.zero_add] at g2
      have g3' : es[j]? = some e := by simpa using g3
      refine ⟨es.modify j fun e => { e with key := sv k,val := .agg vs },c,?_,fun x hx => ?_,stamps_modify e5⟩
      · simp [Instr.mapUpdate,run_underlying hT,MapKept.run_getObj_map e2,MapKept.run_checkKey hk (mSB.isK k) false 9999,MapKept.run_findKey hk g2,g3',g4,MapKept.run_keyThatStays (mSB.isK k),MapKept.run_setObj_map _ e2]
      · rw [arr_modify] at hx
        obtain ⟨q,hq⟩ := List.getElem?_of_mem hx
        rw [List.getElem?_modify] at hq
        cases hqe : es.toList[q]? with
        | none => rw [hqe] at hq; simp at hq
        | some e' =>
          rw [hqe] at hq
          simp only [Option.map_eq_map,Option.map_some,Option.some.injEq] at hq
          subst hq
          split
          · exact ⟨k,ds,vs,rfl,hgood,rfl,hr⟩
          · exact e3 e' (List.mem_of_getElem? hqe)
  obtain ⟨es',c',hrun,hes,hst⟩ := key
  have hrun' : (execOp a.eval ⟨none,.mapUpdate T x y z,ty,pos,after,guard⟩).run P w = .ok .skip { w with heap := w.heap.setIfInBounds b (.map es' c') } := by
    show (do Instr.mapUpdate T (a.eval x) (a.eval y) (a.eval z); pure .skip : Sem Next).run P w = _
    simp [hrun]
  refine oper_in (fun _ h => nomatch h) ?_
  rw [hrun',Oper.uponIn_skip]
  have hk' := (keeps_map (es' := es') (c' := c') e2).mono (F1 := F i) (by rintro b' o rfl; exact e4 o)
  have hagS := hk'.agree h.exS (fun b o hb hf => h.disS i b o hf hb)
  refine hK undef _ no ρ _ (Done.chg (G := F i) hk' e0 ?_ (fun b o hb => ⟨.inl hb,by simpa using h.ex i b o hb⟩)) trivial
  refine ⟨[.map (some b)],by simp [e0],b,es',c',rfl,by simp [mapAt,(heap_set (o' := .map es' c') e2).1],hst,fun e he => ?_,e4⟩
  obtain ⟨k,ds,vs,q1,q2,q3,q4⟩ := hes e he
  exact ⟨k,ds,vs,q1,q2,q3,q4.keep Agree.no hagS (le_refl _) (le_refl _)⟩
end
end Go.Proofs.YtighjcjmacajoaaGreatDoor
end
