/- Parts of the proof (21 of 23). -/
import Derived.Shelf.SlSortCmp.InsertionK
import Derived.Test.YtnkeamihfiobdaaGreatDoorQ20
section
set_option linter.unusedVariables false
set_option linter.unusedSimpArgs false
namespace Go.Proofs.YtnkeamihfiobdaaGreatDoor
open Go Foot Go.Sort
section
variable {w w' : World} {S F G : Foot}
theorem Reps.splitA : ∀ {cs ds : List D} {vs : List Value} {F : Foot},Reps w S (cs ++ ds) vs F → ∃ us ws F1 F2,vs = us ++ ws ∧ Reps w S cs us F1 ∧ Reps w S ds ws F2 ∧ le F1 F ∧ le F2 F ∧ Foot.dis F1 F2
  | [],ds,vs,F,h => ⟨[],vs,no,F,rfl,rfl,h,no_le _,le_refl _,no_dis _⟩
  | c :: cs,ds,vs,F,h => by
    simp only [List.cons_append,Reps] at h
    obtain ⟨v,us,F1,F2,rfl,h1,h2,h3,h4,h5⟩ := h
    obtain ⟨us',ws,G1,G2,rfl,g1,g2,g3,g4,g5⟩ := Reps.splitA h5
    refine ⟨v :: us',ws,F1.or G1,G2,rfl,?_,g2,or_le h1 (g3.trans h2),g4.trans h2,?_⟩
    · simp only [Reps]
      exact ⟨v,us',F1,G1,rfl,le_or_left _ _,le_or_right _ _,h3.le (le_refl _) g3,h4,g1⟩
    · exact fun b o x y => x.elim (fun x => h3 b o x (g4 b o y)) (fun x => g5 b o x y)
theorem reps_parts {α : Type} {E : Enc α} : ∀ {l : List α} {vs : List Value} {G : Foot},Reps w S (rows E l) vs G → ∃ es : List (α × List Value × Foot),es.map (·.1) = l ∧ vs = es.flatMap (·.2.1) ∧ (∀ e ∈ es,Reps w S (E.enc e.1) e.2.1 e.2.2 ∧ le e.2.2 G) ∧ es.Pairwise (fun a b => Foot.dis a.2.2 b.2.2)
  | [],vs,G,h => by
    have e : vs = [] := h
    subst e
    exact ⟨[],rfl,rfl,fun e he => absurd he (by simp),List.Pairwise.nil⟩
  | x :: l,vs,G,h => by
    have h' : Reps w S (E.enc x ++ rows E l) vs G := h
    obtain ⟨us,ws,F1,F2,rfl,h1,h2,h3,h4,h5⟩ := Reps.splitA h'
    obtain ⟨es,e1,e2,e3,e4⟩ := reps_parts h2
    refine ⟨(x,us,F1) :: es,by simp [e1],by rw [e2]; simp,?_,?_⟩
    · intro e he
      rcases List.mem_cons.1 he with rfl | he
      · exact ⟨h1,h3⟩
      · exact ⟨(e3 e he).1,(e3 e he).2.trans h4⟩
    · exact List.pairwise_cons.2 ⟨fun e he => h5.le (le_refl _) (e3 e he).2,e4⟩
theorem reps_join {α : Type} {E : Enc α} : ∀ {es : List (α × List Value × Foot)},(∀ e ∈ es,Reps w S (E.enc e.1) e.2.1 e.2.2) → es.Pairwise (fun a b => Foot.dis a.2.2 b.2.2) → Reps w S (rows E (es.map (·.1))) (es.flatMap (·.2.1)) (fun b o => ∃ e ∈ es,e.2.2 b o)
  | [],_,_ => rfl
  | x :: es,h,hp => by
    obtain ⟨p1,p2⟩ := List.pairwise_cons.1 hp
    have ih := reps_join (fun e he => h e (by simp [he])) p2
    show Reps w S (E.enc x.1 ++ rows E (es.map (·.1))) (x.2.1 ++ es.flatMap (·.2.1)) _
    refine Reps.append (h x (by simp)) ih ?_ ?_ ?_
    · rintro b o q ⟨e,he,r⟩
      exact p1 e he b o q r
    · exact fun b o q => ⟨x,by simp,q⟩
    · rintro b o ⟨e,he,r⟩
      exact ⟨e,by simp [he],r⟩
theorem srt_get {γ : Type} {p : γ → List Value} {k : Nat} (h0 : 0 < k) : ∀ {es : List γ},(∀ e ∈ es,(p e).length = k) → ∀ {j : Nat} (h : j / k < es.length),(es.flatMap p)[j]? = (p es[j / k])[j % k]?
  | [],_,j,h => by simp at h
  | e :: es,he,j,h => by
    rw [List.flatMap_cons]
    have hk := he e (by simp)
    by_cases hj : j < k
    · have e1 : j / k = 0 := Nat.div_eq_of_lt hj
      have e2 : j % k = j := Nat.mod_eq_of_lt hj
      rw [List.getElem?_append_left (by omega)]
      simp only [e1,e2,List.getElem_cons_zero]
    · obtain ⟨i,rfl⟩ : ∃ i,j = i + k := ⟨j - k,by omega⟩
      have e1 : (i + k) / k = i / k + 1 := Nat.add_div_right i h0
      have e2 : (i + k) % k = i % k := Nat.add_mod_right i k
      rw [List.getElem?_append_right (by omega),hk,Nat.add_sub_cancel]
      simp only [e1,e2,List.getElem_cons_succ]
      exact srt_get h0 (fun e he' => he e (by simp [he'])) (by rw [e1] at h; simpa using h)
theorem srt_list {β : Type} [Inhabited β] {enc : β → List Value} {k : Nat} (h0 : 0 < k) (hk : ∀ x,(enc x).length = k) (d : Array β) {j : Nat} (hj : j < d.size * k) : (d.toList.flatMap enc)[j]? = some ((flatK enc k d)[j]!) := by
  have hq : j / k < d.size := Nat.div_lt_of_lt_mul (by rw [Nat.mul_comm]; exact hj)
  have hr : j % k < k := Nat.mod_lt _ h0
  rw [srt_get h0 (fun e _ => hk e) (by simpa using hq),get_flatK _ _ _ _ hj,getElem!_pos d _ hq,Array.getElem_toList,getElem!_pos _ _ (by rw [hk]; exact hr),List.getElem?_eq_getElem (by rw [hk]; exact hr)]
theorem srt_len {β : Type} {enc : β → List Value} {k : Nat} (hk : ∀ x,(enc x).length = k) : ∀ (l : List β),(l.flatMap enc).length = l.length * k
  | [] => by simp
  | x :: l => by rw [List.flatMap_cons,List.length_append,hk,srt_len hk l,List.length_cons,Nat.succ_mul,Nat.add_comm]
theorem map_putRow {β : Type} [Inhabited β] (enc : β → Value) (w : World) (blk off : Nat) (d : Array β) (b : Nat) : mapAt (putRow enc w blk off d) b = mapAt w b := by
  unfold mapAt putRow mapBlock
  simp only [Array.getElem?_modify]
  by_cases hb : blk = b
  · subst hb
    rw [if_pos rfl]
    cases hh : w.heap[blk]? with
    | none => rfl
    | some o =>
      cases o <;> try rfl
      rename_i c e fr
      simp only [Option.map_some,onCells]
      congr 2
      apply Array.ext
      · simp [putCells]
      · intro i h1 h2
        simp
  · rw [if_neg hb]
theorem grow_at (os : Array Obj) {b : Nat} (hb : b < w.heap.size) : (grow w os).heap[b]? = w.heap[b]? := heap_grow_old w os hb
theorem sorted_keeps {β : Type} [Inhabited β] (enc : β → List Value) {k blk off n : Nat} {d : Array β} {os : Array Obj} (hd : 0 < d.size * k) (hb : blk < w.heap.size) : Keeps (rng blk off (d.size * k)) w (sortWorldK enc k w blk off n d os) := by
  have hs : (putRowK enc k (Sort.ahead w n) blk off d).heap.size = w.heap.size := by unfold putRowK; simp
  have hh : ∀ b,b ≠ blk → (putRowK enc k (Sort.ahead w n) blk off d).heap[b]? = w.heap[b]? := fun b hne => by
    unfold putRowK putRow mapBlock
    simp only [Array.getElem?_modify]
    rw [if_neg (fun e => hne e.symm)]
    rfl
  refine ⟨rfl,rfl,rfl,?_,fun b h1 h2 => ?_,fun b o h1 h2 => ?_⟩
  · unfold sortWorldK grow
    simp only [Array.size_append]
    rw [hs]
    omega
  · unfold sortWorldK
    rw [grow_at os (by rw [hs]; exact h1)]
    exact hh b (fun e => h2 off ⟨e,Nat.le_refl _,by omega⟩)
  · have e1 : (sortWorldK enc k w blk off n d os).heap[b]? = (putRowK enc k (Sort.ahead w n) blk off d).heap[b]? := by
      unfold sortWorldK
      exact grow_at os (by rw [hs]; exact h1)
    have e2 : (sortWorldK enc k w blk off n d os).cell? ⟨b,o,none⟩ = (putRowK enc k (Sort.ahead w n) blk off d).cell? ⟨b,o,none⟩ := by unfold World.cell?; simp only [e1]
    have e3 : (sortWorldK enc k w blk off n d os).frozen? ⟨b,o,none⟩ = (putRowK enc k (Sort.ahead w n) blk off d).frozen? ⟨b,o,none⟩ := by unfold World.frozen?; simp only [e1]
    have e4 : mapAt (sortWorldK enc k w blk off n d os) b = mapAt (putRowK enc k (Sort.ahead w n) blk off d) b := by unfold mapAt; simp only [e1]
    rw [e2,e3,e4]
    refine ⟨?_,?_,?_⟩
    · unfold putRowK
      rw [cell?_putRow_other id (Sort.ahead w n) blk off (flatK enc k d) ⟨b,o,none⟩ ?_]
      · rfl
      · rw [size_flatK]
        by_cases hbb : b = blk
        · refine .inr ?_
          by_cases ho : o < off
          · exact .inl ho
          · exact .inr (Classical.byContradiction fun q => h2 ⟨hbb,by omega,by simp only at q; omega⟩)
        · exact .inl hbb
    · unfold putRowK
      rw [frozen?_putRow]
      rfl
    · unfold putRowK
      rw [map_putRow]
      rfl
theorem sorted_holds {β : Type} [Inhabited β] (enc : β → List Value) {k blk off n : Nat} {d0 d : Array β} {os : Array Obj} (h0 : HoldsK enc k w blk off d0) (hs : d.size = d0.size) (hb : blk < w.heap.size) : HoldsK enc k (sortWorldK enc k w blk off n d os) blk off d := by
  unfold sortWorldK
  exact holdsK_grow enc k _ os blk off d (by unfold putRowK; simpa using hb) (holdsK_putRowK enc k (Sort.ahead w n) blk off d0 d (holdsK_ahead enc k w n blk off d0 h0) hs)
theorem world_grown {W W' : World} (hk : Keeps no W W') (hd : W.drawn ≤ W'.drawn) : ∃ q os,W' = grow (W.drewN q) os := by
  refine ⟨W'.drawn - W.drawn,W'.heap.extract W.heap.size W'.heap.size,?_⟩
  obtain ⟨h',t',dr',o',u'⟩ := W'
  obtain ⟨h,t,dr,o,u⟩ := W
  have a1 := hk.os
  have a2 := hk.tape
  have a3 := hk.output
  have a4 := hk.size
  have a5 := hk.block
  simp only at a1 a2 a3 a4 a5 hd
  subst a1 a2 a3
  unfold grow World.drewN
  simp only [World.mk.injEq,and_true,true_and]
  refine ⟨?_,by omega⟩
  apply Array.ext_getElem?
  intro i
  rw [Array.getElem?_append]
  by_cases hi : i < h.size
  · rw [if_pos hi]
    exact a5 i hi (fun _ q => q)
  · rw [if_neg hi,Array.getElem?_extract]
    simp only [Nat.min_self]
    by_cases hi2 : i < h'.size
    · rw [if_pos (by omega),show h.size + (i - h.size) = i by omega]
    · rw [if_neg (by omega),Array.getElem?_eq_none (by omega)]
end
structure SortC (P : Program) (f g k : Nat) : Prop where
  nul : ∀ (p : Option Addr) (cap : Nat) (fv : Value) (w : World),Calls P f #[.slice p 0 cap,fv] w fun e w' => e = .returned (.tuple #[]) ∧ w' = w
  sort : ∀ {β : Type} [Inhabited β] (enc : β → List Value) (hk : ∀ x,(enc x).length = k) (h1 : ∀ x,∀ v ∈ enc x,v.oneCell' = true) (cf : β → β → Int) (hO : SWO (ltOf cf)) (blk off cap : Nat) (d : Array β) (w : World) (hcmp : CmpLays P g #[] enc k cf blk off d.size w) (hH : HoldsK enc k w blk off d) (hblk : blk < w.heap.size) (hsz : d.size < 4611686018427387904),
    Calls P f #[.slice (some ⟨blk,off,none⟩) d.size cap,.func (.func g) #[] #[]] w fun e w' => e = .returned (.tuple #[]) ∧ ∃ d' n os,PermIn 0 d.size d d' ∧ SortedIn (ltOf cf) 0 d.size d' ∧ w' = sortWorldK enc k w blk off n d' os
theorem swo_map {α β : Type} {cf : α → α → Int} (h : SWO (ltOf cf)) (m : β → α) : SWO (ltOf fun x y => cf (m x) (m y)) where
  irrefl x := h.irrefl (m x)
  trans x y z := h.trans (m x) (m y) (m z)
  ntrans x y z := h.ntrans (m x) (m y) (m z)
theorem reps_oneK {w : World} {S : Foot} : ∀ {cs : List D} {vs : List Value} {F : Foot},Reps w S cs vs F → ∀ v ∈ vs,v.oneCell' = true
  | [],vs,F,h,v,hv => by
    have e : vs = [] := h
    subst e
    cases hv
  | c :: cs,vs,F,h,v,hv => by
    simp only [Reps] at h
    obtain ⟨u,us,F1,F2,rfl,_,_,_,h4,h5⟩ := h
    rcases List.mem_cons.1 hv with rfl | hv
    · exact h4.one
    · exact reps_oneK h5 v hv
theorem does_sort {P : Program} {f g : Nat} {α : Type} {E E0 : Enc α} (hS : SortC P f g E.z) (A : α → List C) (hA : ∀ x,A x = (E0.enc x).map C.d) (hsh : ∀ x,ShutL (E.enc x) (E0.enc x)) (cf : α → α → Int) (hO : SWO (ltOf cf)) (l l' : List α) (hc : ∀ x ∈ l,∀ y ∈ l,Does P g [.agg (A x),.agg (A y)] [] (.one (.d (.sc (.int .i64 (cf x y))))) []) (hn : l.length < 4611686018427387904)
    (hl : ∀ m : List α,m.Perm l → m.Pairwise (fun x y => ltOf cf y x = false) → m = l') : Does P f [.one (.gv 0),.one (.d (.fn (.func g) []))] [.row E.z (rows E l)] (.tup []) [.row E.z (rows E l')] := by
  intro vs w S ρ F hArg hG
  simp only [RepA,RepS,RepC,Rep,Reps] at hArg
  obtain ⟨v,vs1,rfl,⟨hv,hv1⟩,v2,vs2,rfl,⟨us,rfl,hus⟩,rfl⟩ := hArg
  have hus' : us = #[] := by
    apply Array.ext'
    simpa using hus
  subst hus'
  obtain ⟨v',hv',hrow⟩ := (hG.roots 0 _ rfl).resolve_left (by simp)
  rw [hv] at hv'
  cases hv'
  have hdS := hG.disS 0 (by simp)
  have hex := hG.ex 0 (by simp)
  have hexS := hG.exS
  have htab := hG.tab
  have hnew := hG.new
  simp only [RepG,Rep] at hrow
  obtain ⟨a,len,cap,rfl,hlen,hz,hcap,hrow⟩ := hrow
  have hll : len = l.length := by
    rw [rows_len] at hlen
    exact (Nat.eq_of_mul_eq_mul_right hz hlen).symm
  subst hll
  by_cases h0 : l.length = 0
  · have el : l = [] := List.eq_nil_of_length_eq_zero h0
    have el' : l' = [] := (hl [] (by rw [el]) List.Pairwise.nil).symm
    subst el el'
    refine (hS.nul a cap _ w).mono ?_
    rintro e w' ⟨rfl,rfl⟩
    refine ⟨.tuple #[],no,ρ,F,rfl,?_,⟨#[],rfl,rfl⟩⟩
    exact ⟨Keeps.refl _ _,no_le _,fun _ _ h => h.elim,by simp,fun i u _ h => h,hG.new,fun i gb hi => (hG.roots i gb hi).imp id (fun ⟨v,h1,h2⟩ => ⟨v,h1,h2.keep (Agree.refl _ _) (Agree.refl _ _) (le_or_left _ _) (Env.le.refl _) (le_refl _)⟩),hG.dis,fun i hi => dis_no _,fun i hi b o hb => .inl ⟨i,by simpa using hi,hb⟩,hG.ex⟩
  · have hcap0 : cap ≠ 0 := by omega
    rcases hrow with ⟨h,_⟩ | ⟨b,off,cs,G,rfl,hlies,hreps,hown⟩
    · exact absurd h hcap0
    simp only [if_true] at hown
    obtain ⟨o1,o2,o3,o4⟩ := hown
    obtain ⟨es,q1,q2,q3,q4⟩ := reps_parts hreps
    have hN : es.length = l.length := by rw [← q1,List.length_map]
    have hk : ∀ e ∈ es,e.2.1.length = E.z := fun e he => by rw [(q3 e he).1.length,E.len]
    have hrl : l.length * E.z ≤ cap * E.z := Nat.mul_le_mul_right _ hcap
    have hpos : 0 < l.length * E.z := Nat.mul_pos (by omega) hz
    have hb : b < w.heap.size := hex b off (o1 b off ⟨rfl,Nat.le_refl _,by omega⟩)
    have hNpos : 0 < es.length := by omega
    haveI : Inhabited (Fin es.length) := ⟨⟨0,hNpos⟩⟩
    obtain ⟨enc,henc⟩ : ∃ enc : Fin es.length → List Value,enc = fun i => (es.get i).2.1 := ⟨_,rfl⟩
    have hke : ∀ i,(enc i).length = E.z := fun i => by rw [henc]; exact hk _ (List.get_mem _ _)
    obtain ⟨d0,hd0⟩ : ∃ d0 : Array (Fin es.length),d0 = (List.finRange es.length).toArray := ⟨_,rfl⟩
    have hs0 : d0.size = l.length := by rw [hd0]; simp [hN]
    have hmap : (List.finRange es.length).map (fun i => (es.get i)) = es := by
      apply List.ext_getElem
      · simp
      · intro i h1 h2
        simp
    have hcs : cs = d0.toList.flatMap enc := by
      rw [q2,hd0,henc]
      conv => lhs; rw [← hmap]
      rw [List.flatMap_map]
    have hH : HoldsK enc E.z w b off d0 := by
      intro j hj
      rw [size_flatK] at hj
      have h1 := srt_list hz hke d0 hj
      rw [← hcs] at h1
      have hj2 : j < cap * E.z := by rw [hs0] at hj; omega
      exact ⟨hlies j _ h1,(o4 j hj2).2⟩
    have hagS : ∀ (W : World),Keeps (rng b off (l.length * E.z)) w W → Agree w W S ∧ Agree w W G := fun W hW => by
      refine ⟨hW.agree (fun b o h => hexS b o h) ?_,hW.agree (fun b o h => hex b o (o2 b o h)) ?_⟩
      · exact fun b' o' x y => hdS b' o' (o1 b' o' (rng_le hrl b' o' y)) x
      · exact fun b' o' x y => o3 b' o' (rng_le hrl b' o' y) x
    have hcmp : CmpLays P g #[] enc E.z (fun i j => cf (es.get i).1 es[j].1) b off d0.size w := by
      intro m os dk hdk x y
      have hW : Keeps (rng b off (l.length * E.z)) w (sortWorldK enc E.z w b off m dk os) := by
        have := sorted_keeps (w := w) enc (k := E.z) (blk := b) (off := off) (n := m) (d := dk) (os := os) (by rw [hdk,hs0]; exact hpos) hb
        rwa [hdk,hs0] at this
      obtain ⟨agS,agG⟩ := hagS _ hW
      obtain ⟨W,eW⟩ : ∃ W,W = sortWorldK enc E.z w b off m dk os := ⟨_,rfl⟩
      rw [← eW] at hW agS agG ⊢
      have hmem : ∀ i : Fin es.length,(es.get i).1 ∈ l := fun i => by rw [← q1]; exact List.mem_map_of_mem (List.get_mem _ _)
      have hcc : ∀ i : Fin es.length,RepCs W (S.or G) (fun _ => none) (A (es.get i).1) (enc i) := fun i => by
        rw [hA]
        have h1 := (q3 (es.get i) (List.get_mem _ _))
        have h2 := hsh (es.get i).1 w S G (es.get i).2.2 (es.get i).2.1 h1.1 h1.2
        rw [henc]
        exact repCs_d (h2.keep Agree.no (agS.or agG) (le_refl _) (le_refl _))
      have hgiv : Given W (S.or G) (fun _ => none) (fun _ => no) [] := by
        refine ⟨fun i gb hi => by simp at hi,fun _ _ => rfl,fun i j hi => by simp at hi,fun i hi => by simp at hi,fun i hi => by simp at hi,fun b' o' h => ?_,(htab.keep agS (le_or_left _ _))⟩
        exact Nat.lt_of_lt_of_le (h.elim (hexS b' o') (fun h => hex b' o' (o2 b' o' h))) hW.size
      have hcall := hc (es.get x).1 (hmem x) (es.get y).1 (hmem y) [.agg (enc x).toArray,.agg (enc y).toArray] W (S.or G) (fun _ => none) (fun _ => no) ⟨_,_,rfl,⟨_,rfl,by simpa using hcc x⟩,_,_,rfl,⟨_,rfl,by simpa using hcc y⟩,rfl⟩ hgiv
      have hcall2 := calls_drawn (hcall.mono (R' := fun e w' => ∃ v,e = .returned v ∧ (e = .returned (.int .i64 (cf (es.get x).1 (es.get y).1)) ∧ Keeps no W w')) (by
        rintro e w' ⟨v,S1,ρ',F',rfl,hR,hres⟩
        simp only [RepS,RepC,Rep] at hres
        exact ⟨v,rfl,by rw [hres.1],hR.keeps.mono (fun b' o' h => by obtain ⟨i,hi,_⟩ := h; simp at hi)⟩))
      refine hcall2.mono ?_
      rintro e w' ⟨hd,v,_,he,hK⟩
      exact ⟨he,world_grown hK hd⟩
    have hsort := hS.sort enc hke (fun i v hv => by rw [henc] at hv; exact reps_oneK (q3 (es.get i) (List.get_mem _ _)).1 v hv) (fun i j => cf (es.get i).1 es[j].1) (swo_map hO fun i : Fin es.length => (es.get i).1) b off cap d0 w hcmp hH hb (by rw [hs0]; exact hn)
    rw [hs0] at hsort
    refine hsort.mono ?_
    rintro e w' ⟨rfl,d',n,os,hp,hso,rfl⟩
    have hs' : d'.size = d0.size := by rw [hp.1]
    have hK := sorted_keeps (w := w) enc (k := E.z) (blk := b) (off := off) (n := n) (d := d') (os := os) (by rw [hs',hs0]; exact hpos) hb
    rw [hs',hs0] at hK
    have hHo := sorted_holds enc (n := n) (os := os) hH hs' hb
    obtain ⟨agS,agG⟩ := hagS _ hK
    obtain ⟨W,eW⟩ : ∃ W,W = sortWorldK enc E.z w b off n d' os := ⟨_,rfl⟩
    rw [← eW] at hK agS agG hHo ⊢
    obtain ⟨es',ees⟩ : ∃ es',es' = d'.toList.map (fun i => (es.get i)) := ⟨_,rfl⟩
    have hperm : es'.Perm es := by
      have h2 := hp.2.2
      have ex : ∀ (d : Array (Fin es.length)),d.size = l.length → (d.extract 0 l.length).toList = d.toList := fun d hd => by rw [← hd,Array.extract_size]
      rw [ex d' (by omega),ex d0 hs0] at h2
      have h3 := h2.map (fun i => (es.get i))
      rw [hd0] at h3
      simp only [hmap] at h3
      rw [ees]
      exact h3
    have el' : es'.map (·.1) = l' := by
      refine hl _ ?_ ?_
      · have := hperm.map (·.1)
        rwa [q1] at this
      · rw [ees,List.pairwise_map,List.pairwise_map,List.pairwise_iff_getElem]
        intro i j hi hj hij
        simp only [Array.length_toList] at hi hj
        have := hso i j (Nat.zero_le _) hij (by omega)
        rw [getElem!_pos d' i hi,getElem!_pos d' j hj] at this
        exact this
    have hr' : Reps w S (rows E l') (es'.flatMap (·.2.1)) G := by
      rw [← el']
      refine (reps_join (fun e he => (q3 e (hperm.mem_iff.1 he)).1) ?_).mono ?_
      · exact (hperm.pairwise_iff (fun {x y} h => h.symm)).2 q4
      · rintro b' o' ⟨e,he,h⟩
        exact (q3 e (hperm.mem_iff.1 he)).2 b' o' h
    have hll' : l'.length = l.length := by rw [← el',List.length_map,hperm.length_eq,hN]
    have hflat : es'.flatMap (·.2.1) = d'.toList.flatMap enc := by rw [ees,henc,List.flatMap_map]
    have hlies' : lies W b off (es'.flatMap (·.2.1)) := by
      intro j u hj
      rw [hflat] at hj
      have hjl : j < d'.size * E.z := by
        have := (List.getElem?_eq_some_iff.1 hj).1
        rw [srt_len hke] at this
        simpa using this
      rw [srt_list hz hke d' hjl] at hj
      cases hj
      exact (hHo j (by rw [size_flatK]; exact hjl)).1
    have hup : le (rng b off (l.length * E.z)) (upTo F 1) := fun b' o' h => ⟨0,by omega,o1 b' o' (rng_le hrl b' o' h)⟩
    refine ⟨.tuple #[],no,ρ,F,rfl,?_,⟨#[],rfl,rfl⟩⟩
    refine ⟨hK.mono hup,no_le _,fun _ _ h => h.elim,by simp,fun i u _ h => h,hnew,?_,hG.dis,fun i hi => dis_no _,fun i hi b' o' h => .inl ⟨i,by simpa using hi,h⟩,fun i hi b' o' h => Nat.lt_of_lt_of_le (hG.ex i hi b' o' h) hK.size⟩
    intro i gb hi
    match i,hi with
    | 0,hi =>
      simp at hi
      subst hi
      refine .inr ⟨_,hv,?_⟩
      simp only [RepG,Rep]
      refine ⟨_,l.length,cap,rfl,by rw [rows_len,hll'],hz,hcap,.inr ⟨b,off,es'.flatMap (·.2.1),G,rfl,hlies',hr'.keep agG agS (le_or_left _ _) (le_refl _),?_⟩⟩
      simp only [if_true]
      refine ⟨o1,o2,o3,fun i hi => ?_⟩
      by_cases hi2 : i < l.length * E.z
      · have := hHo i (by rw [size_flatK,hs',hs0]; exact hi2)
        exact ⟨by rw [this.1]; rfl,this.2⟩
      · have := hK.cell b (off + i) hb (fun q => by have := q.2.2; omega)
        rw [this.1,this.2.1]
        exact o4 i hi
    | i + 1,hi => simp at hi
end Go.Proofs.YtnkeamihfiobdaaGreatDoor
end
