/- A region that draws its order: the proof. No program in sight. -/
import Derived.Test.YtncccjpbaeaafaaG11
set_option linter.unusedVariables false
set_option linter.unusedSimpArgs false
namespace Go.Proofs.Ytncccjpbaeaafaa
open Go Foot

def unl (listed : Array Bool) : Nat → Nat
  | 0 => 0
  | k + 1 => unl listed k + if listed.getD k true then 0 else 1
theorem unl_set {listed : Array Bool} {i : Nat} (hi : listed.getD i true = false) : ∀ k, (i < k → unl (listed.setIfInBounds i true) k + 1 = unl listed k) ∧ (k ≤ i → unl (listed.setIfInBounds i true) k = unl listed k)
  | 0 => ⟨fun h => by omega, fun _ => rfl⟩
  | k + 1 => by
    obtain ⟨h1, h2⟩ := unl_set hi k
    have hlt : i < listed.size := by
      rcases Nat.lt_or_ge i listed.size with h | h
      · exact h
      · simp [Array.getElem?_eq_none h] at hi
    refine ⟨fun h => ?_, fun h => ?_⟩
    · by_cases e : i = k
      · subst e
        simp only [unl, h2 (Nat.le_refl _), hi]
        simp [hlt]
      · simp only [unl, getD_set_ne true e]
        have := h1 (by omega)
        omega
    · simp only [unl, getD_set_ne true (show i ≠ k by omega), h2 (by omega)]
theorem unl_zero {listed : Array Bool} : ∀ k, unl listed k = 0 → ∀ i, i < k → listed.getD i true = true
  | 0, _, i, h => by omega
  | k + 1, h, i, hi => by
    simp only [unl] at h
    by_cases e : i = k
    · subst e
      cases hb : listed.getD i true with
      | true => rfl
      | false => rw [hb] at h; simp at h
    · exact unl_zero k (by omega) i (by omega)
theorem unl_fresh (n : Nat) : ∀ k, k ≤ n → unl (Array.replicate n false) k = k
  | 0, _ => rfl
  | k + 1, h => by
    have : k < n := by omega
    simp only [unl, unl_fresh n k (by omega)]
    simp [this]

theorem befOk_get {bf : List (List Nat)} : ∀ {l : List Oper} {i k : Nat} {o : Oper}, befOk bf i l = true → l[k]? = some o →
    (∀ d ∈ dirs o, d < i + k) ∧ ∀ m ∈ bf.getD (i + k) [], m < i + k ∧ (m ∈ dirs o ∨ ∃ d ∈ dirs o, m ∈ bf.getD d [])
  | [], i, k, o, _, h => by simp at h
  | o0 :: l, i, 0, o, h, hk => by
    simp at hk
    subst hk
    simp only [befOk, Bool.and_eq_true, List.all_eq_true] at h
    obtain ⟨⟨h1, h2⟩, _⟩ := h
    refine ⟨fun d hd => blt_lt (h1 d hd), fun m hm => ?_⟩
    have := h2 m hm
    simp only [Bool.or_eq_true, List.any_eq_true] at this
    exact ⟨blt_lt this.1, this.2.imp memB_iff.1 (fun ⟨d, a, b⟩ => ⟨d, a, memB_iff.1 b⟩)⟩
  | o0 :: l, i, k + 1, o, h, hk => by
    simp only [befOk, Bool.and_eq_true] at h
    have := befOk_get (i := i + 1) (k := k) h.2 (by simpa using hk)
    rwa [show i + 1 + k = i + (k + 1) by omega] at this
theorem rowOk_get {bf : List (List Nat)} {kk : Keys} {i : Nat} {oi : Oper} : ∀ {l : List Oper} {j k : Nat} {o : Oper}, rowOk bf kk i oi j l = true → l[k]? = some o → i ≠ j + k → pairOk bf kk i (j + k) oi o = true
  | [], j, k, o, _, h, _ => by simp at h
  | o0 :: l, j, 0, o, h, hk, hne => by
    simp at hk
    subst hk
    simp only [rowOk, Bool.and_eq_true, Bool.or_eq_true] at h
    exact h.1.resolve_left (fun e => hne (by have := Nat.eq_of_beq_eq_true e; omega))
  | o0 :: l, j, k + 1, o, h, hk, hne => by
    simp only [rowOk, Bool.and_eq_true] at h
    have := rowOk_get (j := j + 1) (k := k) h.2 (by simpa using hk) (by omega)
    rwa [show j + 1 + k = j + (k + 1) by omega] at this
theorem indepOk_get {bf : List (List Nat)} {kk : Keys} {ops : List Oper} : ∀ {l : List Oper} {i k : Nat} {o : Oper}, indepOk bf kk ops i l = true → l[k]? = some o → rowOk bf kk (i + k) o 0 ops = true
  | [], i, k, o, _, h => by simp at h
  | o0 :: l, i, 0, o, h, hk => by
    simp at hk
    subst hk
    simp only [indepOk, Bool.and_eq_true] at h
    exact h.1
  | o0 :: l, i, k + 1, o, h, hk => by
    simp only [indepOk, Bool.and_eq_true] at h
    have := indepOk_get (i := i + 1) (k := k) h.2 (by simpa using hk)
    rwa [show i + 1 + k = i + (k + 1) by omega] at this
theorem disB_spec {l m : List Nat} (h : disB l m = true) : ∀ x ∈ l, x ∉ m := by
  intro x hx hm
  have := (List.all_eq_true.1 h) x hx
  rw [memB_iff.2 hm] at this
  cases this
theorem newOk_get {n n' : Nat} : ∀ {kk : Keys}, newOk n n' kk = true → n ≤ n' ∧ (∀ i, ∀ x ∈ kk.nw i, n ≤ x ∧ x < n') ∧ ∀ i, ∀ x ∈ kk.ck i, x < n'
  | [], h => ⟨Nat.le_of_ble_eq_true h, fun i x hx => by simp [Keys.nw] at hx, fun i x hx => by simp [Keys.ck] at hx⟩
  | (nw, ck) :: l, h => by
    simp only [newOk, Bool.and_eq_true, List.all_eq_true] at h
    obtain ⟨⟨h1, h1'⟩, h2⟩ := h
    obtain ⟨h3, h4, h5⟩ := newOk_get h2
    refine ⟨h3, fun i x hx => ?_, fun i x hx => ?_⟩
    · cases i with
      | zero =>
        have := h1 x (by simpa [Keys.nw] using hx)
        exact ⟨Nat.le_of_ble_eq_true this.1, blt_lt this.2⟩
      | succ i => exact h4 i x (by simpa [Keys.nw] using hx)
    · cases i with
      | zero => exact blt_lt (h1' x (by simpa [Keys.ck] using hx))
      | succ i => exact h5 i x (by simpa [Keys.ck] using hx)

theorem gdraw_all {P : Program} {g : Gh} {bf : List (List Nat)} {kk : Keys} {ops : List Oper} {st : St} {n' : Nat} {Q : Exit → St → Prop} : ∀ (l : List Oper) (rs : List Rs), GDraw P g bf kk ops st n' Q l rs →
    ∃ rs', rs'.length = rs.length + l.length ∧ rs'.take rs.length = rs ∧ (∀ i o, l[i]? = some o → ∃ r, rs'[rs.length + i]? = some r ∧ OpOk P g bf kk ops st (rs'.take (rs.length + i)) (rs.length + i) o r) ∧ Q .normal ⟨mixT (fun _ => true) 0 rs' st.t, mixH (fun _ => true) 0 rs' st.h, n'⟩
  | [], rs, h => ⟨rs, by simp, by simp, by simp, h⟩
  | o :: l, rs, h => by
    obtain ⟨r, h1, h2⟩ := h
    obtain ⟨rs', e1, e2, e3, e4⟩ := gdraw_all l _ h2
    simp only [List.length_append, List.length_cons, List.length_nil] at e1 e2 e3
    have htake : rs'.take rs.length = rs := by
      have := congrArg (List.take rs.length) e2
      rw [List.take_take, List.take_append_of_le_length (Nat.le_refl _), List.take_length, show min rs.length (rs.length + (0 + 1)) = rs.length by omega] at this
      exact this
    refine ⟨rs', by simp; omega, htake, ?_, e4⟩
    intro i o' hi
    cases i with
    | zero =>
      simp at hi
      subst hi
      refine ⟨r, ?_, by rw [Nat.add_zero, htake]; exact h1⟩
      rw [Nat.add_zero]
      have h3 : (rs'.take (rs.length + (0 + 1)))[rs.length]? = some r := by rw [e2]; simp
      rw [List.getElem?_take] at h3
      rw [if_pos (by omega)] at h3
      exact h3
    | succ i =>
      have := e3 i o' (by simpa using hi)
      rwa [show rs.length + (0 + 1) + i = rs.length + (i + 1) by omega] at this

section
variable {P : Program} {g : Gh} {bf : List (List Nat)} {kk : Keys} {ops : List Oper} {st : St} {n' : Nat} {Q : Exit → St → Prop}
def stD (st : St) (rs : List Rs) (n' : Nat) (D : Nat → Bool) : St := ⟨mixT D 0 rs st.t, mixH D 0 rs st.h, n'⟩
theorem g_draw {id : Nat} (hm : P.follows .mixedOrders = true) (bf : List (List Nat)) (kk : Keys) (n' : Nat) {ops : List Oper} (hbf : befOk bf 0 ops = true) (hin : indepOk bf kk ops 0 ops = true) (hnw : newOk st.n n' kk = true)
    (h : GDraw P g bf kk ops st n' Q ops []) : GWp P g (.region id ops.toArray true) st Q := by
  refine ⟨fun a0 w0 S0 ρ0 F0 hrel0 hfr0 => ?_⟩
  obtain ⟨rs, hlen, -, hops, hQ⟩ := gdraw_all ops [] h
  simp only [List.length_nil, Nat.zero_add] at hlen hops
  obtain ⟨hnn, hnwk, hckk⟩ := newOk_get hnw
  refine wp_region_any hm ?_
  have opAt : ∀ i : Nat, ops.toArray[i]? = ops[i]? := fun i => by simp
  have bfAt : ∀ i o, ops[i]? = some o → (∀ d ∈ dirs o, d < i) ∧ ∀ m ∈ bf.getD i [], m < i ∧ (m ∈ dirs o ∨ ∃ d ∈ dirs o, m ∈ bf.getD d []) := fun i o ho => by
    have := befOk_get hbf ho
    rwa [Nat.zero_add] at this
  have pairAt : ∀ i j oi oj, ops[i]? = some oi → ops[j]? = some oj → i ≠ j → pairOk bf kk i j oi oj = true := fun i j oi oj hi hj hij => by
    have := indepOk_get hin hi
    rw [Nat.zero_add] at this
    have := rowOk_get this hj (by rw [Nat.zero_add]; exact hij)
    rwa [Nat.zero_add] at this
  have rsAt : ∀ i r, rs[i]? = some r → ∃ o, ops[i]? = some o ∧ OpOk P g bf kk ops st (rs.take i) i o r := by
    intro i r hr
    have hi : i < ops.length := by have := (List.getElem?_eq_some_iff.1 hr).1; omega
    obtain ⟨r', e1, e2⟩ := hops i _ (List.getElem?_eq_getElem hi)
    rw [hr] at e1
    cases e1
    exact ⟨_, List.getElem?_eq_getElem hi, e2⟩
  have key : ∀ (fuel : Nat) (listed : Array Bool) (a : Act) (w : World) (S : Foot) (ρ : Env) (F : Nat → Foot), listed.size = ops.length → unl listed ops.length = fuel →
      (∀ j, listed.getD j false = true → ∀ k ∈ bf.getD j [], listed.getD k false = true) → Rel g (stD st rs n' fun i => listed.getD i false) a w S ρ F →
      (∀ j, j < ops.length → listed.getD j false = false → ∀ x ∈ kk.nw j, ρ x = none) → (∀ x, n' ≤ x → ρ x = none) → wpAny P .any ops.toArray (GQ g Q) fuel listed a w := by
    intro fuel
    induction fuel with
    | zero =>
      intro listed a w S ρ F hsz hun hcl hrel hfr hfr'
      have hall := unl_zero _ hun
      refine ⟨?_, ?_⟩
      · cases hr : Region.ready .any ops.toArray listed with
        | nil => rfl
        | cons i l =>
          have : i ∈ Region.ready .any ops.toArray listed := by rw [hr]; simp
          obtain ⟨h1, o, h2, _⟩ := mem_ready.1 this
          rw [opAt] at h2
          have := hall i (List.getElem?_eq_some_iff.1 h2).1
          rw [h1] at this
          cases this
      · refine ⟨⟨mixT (fun _ => true) 0 rs st.t, mixH (fun _ => true) 0 rs st.h, n'⟩, S, ρ, F, hrel.same (fun s => ?_) (fun s => ?_), hfr', hQ⟩
        · refine mixT_agree rs 0 _ _ rfl (fun k r hk hne => ?_)
          have hk' : k < ops.length := by have := (List.getElem?_eq_some_iff.1 hk).1; omega
          have := hall k hk'
          rw [Nat.zero_add] at hne
          have hkl : k < listed.size := by omega
          simp [hkl] at this hne
          exact absurd this (by simp [hne])
        · refine mixH_agree rs 0 _ _ rfl (fun k r hk hne => ?_)
          have hk' : k < ops.length := by have := (List.getElem?_eq_some_iff.1 hk).1; omega
          have := hall k hk'
          rw [Nat.zero_add] at hne
          have hkl : k < listed.size := by omega
          simp [hkl] at this hne
          exact absurd this (by simp [hne])
    | succ fuel ih =>
      intro listed a w S ρ F hsz hun hcl hrel hfr hfr'
      have lst : ∀ j, j < ops.length → listed.getD j true = listed.getD j false := fun j hj => by
        have : j < listed.size := by omega
        simp [this]
      refine ⟨fun hr => ?_, fun i hi => ?_⟩
      · -- all are listed
        exfalso
        have hall : ∀ n j, j < n → j < ops.length → listed.getD j true = true := by
          intro n
          induction n with
          | zero => intro j hj; omega
          | succ n ihn =>
            intro j hj hjl
            cases hb : listed.getD j true with
            | true => rfl
            | false =>
              have : j ∈ Region.ready .any ops.toArray listed := by
                refine mem_ready.2 ⟨hb, ops[j], by rw [opAt]; exact List.getElem?_eq_getElem hjl, fun e he hbd => ?_⟩
                have hd : e.on ∈ dirs ops[j] := List.mem_map.2 ⟨e, List.mem_filter.2 ⟨by simpa using he, hbd⟩, rfl⟩
                have hlt := (bfAt j _ (List.getElem?_eq_getElem hjl)).1 _ hd
                rw [← lst e.on (by omega)]
                exact ihn e.on (by omega) (by omega)
              rw [hr] at this
              cases this
        have : ∀ k, k ≤ ops.length → unl listed k = 0 := by
          intro k
          induction k with
          | zero => exact fun _ => rfl
          | succ k ihk => intro hk; simp only [unl, ihk (by omega), hall (k + 1) k (by omega) (by omega)]; rfl
        rw [this _ (Nat.le_refl _)] at hun
        cases hun
      · obtain ⟨hni, o, ho, hdeps⟩ := mem_ready.1 hi
        rw [opAt] at ho
        have hil : i < ops.length := (List.getElem?_eq_some_iff.1 ho).1
        have hni' : listed.getD i false = false := by rw [← lst i hil]; exact hni
        obtain ⟨r, hr, hok⟩ := hops i o ho
        obtain ⟨hdst, hdn, hch, hupin, hcase⟩ := hok
        have hil2 : i < rs.length := by omega
        -- what comes before is listed
        have hdirs : ∀ d ∈ dirs o, listed.getD d false = true := by
          intro d hd
          obtain ⟨e, he, rfl⟩ := List.mem_map.1 hd
          obtain ⟨he1, he2⟩ := List.mem_filter.1 he
          exact hdeps e (by simpa using he1) he2
        have hbef : ∀ m ∈ bf.getD i [], listed.getD m false = true := by
          intro m hmm
          rcases ((bfAt i o ho).2 m hmm).2 with h1 | ⟨d, h1, h2⟩
          · exact hdirs m h1
          · exact hcl d (hdirs d h1) m h2
        have hun2 : ∀ j, listed.getD j false = true → j ∉ bf.getD i [] → unord bf i j = true := by
          intro j hj hnb
          have hij : i ≠ j := fun e => by rw [e, hj] at hni'; cases hni'
          have h1 : i ∉ bf.getD j [] := fun hmm => by rw [hcl j hj i hmm] at hni'; cases hni'
          have e1 : memB i (bf.getD j []) = false := by cases hb : memB i (bf.getD j []) with | false => rfl | true => exact absurd (memB_iff.1 hb) h1
          have e2 : memB j (bf.getD i []) = false := by cases hb : memB j (bf.getD i []) with | false => rfl | true => exact absurd (memB_iff.1 hb) hnb
          simp only [unord, e1, e2, beq_ne hij]
          rfl
        have hmin : Rel g (minSt bf kk ops st (rs.take i) i) a w S ρ F := by
          have hpre : ∀ k, i ≤ k → memB k (bf.getD i []) = false := by
            intro k hk
            cases hb : memB k (bf.getD i []) with
            | false => rfl
            | true => have := ((bfAt i o ho).2 k (memB_iff.1 hb)).1; omega
          have e1 : mixT (fun k => memB k (bf.getD i [])) 0 (rs.take i) st.t = mixT (fun k => memB k (bf.getD i [])) 0 rs st.t := by
            conv => rhs; rw [← List.take_append_drop i rs]
            rw [mixT_app]
            exact (mixT_no (rs.drop i) _ _ (fun k hk => hpre k (by simp at hk; omega))).symm
          have e2 : mixH (fun k => memB k (bf.getD i [])) 0 (rs.take i) st.h = mixH (fun k => memB k (bf.getD i [])) 0 rs st.h := by
            conv => rhs; rw [← List.take_append_drop i rs]
            rw [mixH_app]
            exact (mixH_no (rs.drop i) _ _ (fun k hk => hpre k (by simp at hk; omega))).symm
          refine hrel.weaken (fun s => ?_) (fun s => ?_)
          · show lkS (maskT bf i 0 ops _) s = .any ∨ lkS (maskT bf i 0 ops _) s = lkS (mixT _ 0 rs st.t) s
            rw [e1]
            rcases maskT_lk (bf := bf) (i := i) (s := s) ops 0 (mixT (fun k => memB k (bf.getD i [])) 0 rs st.t) with h1 | ⟨h1, h2⟩
            · exact .inl h1
            · refine .inr (h1.trans (mixT_agree rs 0 _ _ rfl (fun k r' hk hne => ?_)))
              obtain ⟨ok, hok1, hok2⟩ := rsAt k r' hk
              rw [Nat.zero_add] at hne
              rw [hok2.1]
              have hkl : listed.getD k false = true ∧ k ∉ bf.getD i [] := by
                cases hb : memB k (bf.getD i []) with
                | true => rw [hb, hbef k (memB_iff.1 hb)] at hne; exact absurd rfl hne
                | false =>
                  rw [hb] at hne
                  refine ⟨?_, memB_not hb⟩
                  cases hl : listed.getD k false with
                  | true => rfl
                  | false => rw [hl] at hne; exact absurd rfl hne
              have := h2 k ok hok1
              rw [Nat.zero_add] at this
              exact this (hun2 k hkl.1 hkl.2)
          · show lkG (maskH bf kk i 0 ops _) s = .dead ∨ lkG (maskH bf kk i 0 ops _) s = lkG (mixH _ 0 rs st.h) s
            rw [e2]
            rcases maskH_lk (bf := bf) (kk := kk) (i := i) (s := s) ops 0 (mixH (fun k => memB k (bf.getD i [])) 0 rs st.h) with h1 | ⟨h1, h2⟩
            · exact .inl h1
            · refine .inr (h1.trans (mixH_agree rs 0 _ _ rfl (fun k r' hk hne => ?_)))
              obtain ⟨ok, hok1, hok2⟩ := rsAt k r' hk
              rw [Nat.zero_add] at hne
              have hkl : listed.getD k false = true ∧ k ∉ bf.getD i [] := by
                cases hb : memB k (bf.getD i []) with
                | true => rw [hb, hbef k (memB_iff.1 hb)] at hne; exact absurd rfl hne
                | false =>
                  rw [hb] at hne
                  refine ⟨?_, memB_not hb⟩
                  cases hl : listed.getD k false with
                  | true => rfl
                  | false => rw [hl] at hne; exact absurd rfl hne
              have := h2 k (List.getElem?_eq_some_iff.1 hok1).1
              rw [Nat.zero_add] at this
              have hno := this (hun2 k hkl.1 hkl.2)
              rintro ⟨gb, hmem⟩
              exact hno (upIn_mem hok2.2.2.2.1 _ hmem)
        -- what follows
        have hcl' : ∀ j, (listed.setIfInBounds i true).getD j false = true → ∀ k ∈ bf.getD j [], (listed.setIfInBounds i true).getD k false = true := by
          intro j hj k hk
          by_cases hji : i = j
          · subst hji; exact getD_set_true (hbef k hk)
          · rw [getD_set_ne false hji] at hj
            exact getD_set_true (hcl j hj k hk)
        have hset : ∀ k, (listed.setIfInBounds i true).getD k false = (bif Nat.beq k i then true else listed.getD k false) := by
          intro k
          by_cases hki : k = i
          · subst hki
            have : k < listed.size := by omega
            simp [this]
          · rw [getD_set_ne false (Ne.symm hki), beq_ne hki]; rfl
        have next : ∀ v w' S1 ρ' F' (sv : SV) (ch : List Nat) (up : List (Nat × GB)), r.sv = sv → r.ch = ch → r.up = up → Done w w' S S1 ρ ρ' F F' ch up → RepS w' (S.or S1) ρ' sv v →
            wpAny P .any ops.toArray (GQ g Q) fuel (listed.setIfInBounds i true) (a.put o.dst v) w' := by
          intro v w' S1 ρ' F' sv ch up hsv hchh hupp hdone hv
          subst hsv hchh hupp
          have hrel' := hrel.done (n := n') hdone hdn hv
          refine ih _ _ _ _ _ _ (by simp; omega) ?_ hcl' (hrel'.same (fun s => ?_) (fun s => ?_)) ?_ ?_
          · have := (unl_set hni ops.length).1 hil
            omega
          · -- slots
            show lkS (mixT (fun k => (listed.setIfInBounds i true).getD k false) 0 rs st.t) s = lkS (match o.dst with | some d => (d, r.sv) :: mixT (fun k => listed.getD k false) 0 rs st.t | none => mixT (fun k => listed.getD k false) 0 rs st.t) s
            have hsplit : rs = rs.take i ++ r :: rs.drop (i + 1) := by
              have e := List.getElem_cons_drop hil2
              have hre : rs[i] = r := by rw [List.getElem?_eq_getElem hil2] at hr; exact Option.some.inj hr
              rw [hre] at e
              rw [e, List.take_append_drop]
            have htl : (rs.take i).length = i := by simp; omega
            have post : ∀ k r', (rs.drop (i + 1))[k]? = some r' → rs[i + 1 + k]? = some r' := fun k r' hk => by rw [List.getElem?_drop] at hk; exact hk
            have preag : ∀ t, lkS (mixT (fun k => (listed.setIfInBounds i true).getD k false) 0 (rs.take i) t) s = lkS (mixT (fun k => listed.getD k false) 0 (rs.take i) t) s := fun t => mixT_agree _ 0 _ _ rfl (fun k r' hk hne => by
              have hki : k < i := by have := (List.getElem?_eq_some_iff.1 hk).1; omega
              rw [Nat.zero_add, hset, beq_ne (i := k) (j := i) (by omega)] at hne
              exact absurd rfl hne)
            have hD' : (fun k => (listed.setIfInBounds i true).getD k false) i = true := (hset i).trans (by simp)
            have hD : (fun k => listed.getD k false) i = false := hni'
            rw [hsplit, mixT_app, mixT_app, htl, Nat.zero_add]
            simp only [mixT, hD', hD, cond_true, cond_false]
            have postag : ∀ t t', lkS t s = lkS t' s → lkS (mixT (fun k => (listed.setIfInBounds i true).getD k false) (i + 1) (rs.drop (i + 1)) t) s = lkS (mixT (fun k => listed.getD k false) (i + 1) (rs.drop (i + 1)) t') s := fun t t' ht => mixT_agree _ _ _ _ ht (fun k r' hk hne => by
              rw [hset, beq_ne (i := i + 1 + k) (j := i) (by omega)] at hne
              exact absurd rfl hne)
            rw [hdst]
            cases hd : o.dst with
            | none => exact postag _ _ (preag _)
            | some d =>
              simp only
              rw [postag _ ((d, r.sv) :: mixT (fun k => listed.getD k false) 0 (rs.take i) st.t) (by simp only [lkS]; rw [preag])]
              refine mixT_last _ _ _ (fun k r' hk hD'' => ?_)
              obtain ⟨ok, hok1, hok2⟩ := rsAt _ r' (post k r' hk)
              rw [hok2.1]
              have hnb : i + 1 + k ∉ bf.getD i [] := fun hmm => by have := ((bfAt i o ho).2 _ hmm).1; omega
              have hu := hun2 _ hD'' hnb
              have hp := pairAt i (i + 1 + k) o ok ho hok1 (by omega)
              simp only [pairOk, hu, Bool.not_true, Bool.false_or, Bool.and_eq_true] at hp
              intro e
              have := hp.2.1
              rw [hd, e] at this
              simp [dstNe] at this
          · -- roots
            show lkG (mixH (fun k => (listed.setIfInBounds i true).getD k false) 0 rs st.h) s = lkG (r.up ++ mixH (fun k => listed.getD k false) 0 rs st.h) s
            have hsplit : rs = rs.take i ++ r :: rs.drop (i + 1) := by
              have e := List.getElem_cons_drop hil2
              have hre : rs[i] = r := by rw [List.getElem?_eq_getElem hil2] at hr; exact Option.some.inj hr
              rw [hre] at e
              rw [e, List.take_append_drop]
            have htl : (rs.take i).length = i := by simp; omega
            have post : ∀ k r', (rs.drop (i + 1))[k]? = some r' → rs[i + 1 + k]? = some r' := fun k r' hk => by rw [List.getElem?_drop] at hk; exact hk
            have preag : ∀ s t, lkG (mixH (fun k => (listed.setIfInBounds i true).getD k false) 0 (rs.take i) t) s = lkG (mixH (fun k => listed.getD k false) 0 (rs.take i) t) s := fun s t => mixH_agree _ 0 _ _ rfl (fun k r' hk hne => by
              have hki : k < i := by have := (List.getElem?_eq_some_iff.1 hk).1; omega
              rw [Nat.zero_add, hset, beq_ne (i := k) (j := i) (by omega)] at hne
              exact absurd rfl hne)
            have hD' : (fun k => (listed.setIfInBounds i true).getD k false) i = true := (hset i).trans (by simp)
            have hD : (fun k => listed.getD k false) i = false := hni'
            have happ : ∀ (u a b : List (Nat × GB)), lkG a s = lkG b s → lkG (u ++ a) s = lkG (u ++ b) s := by
              intro u
              induction u with
              | nil => exact fun a b h => h
              | cons x up ih =>
                obtain ⟨j, gb⟩ := x
                intro a b h
                simp only [List.cons_append, lkG]
                rw [ih a b h]
            have lhs : mixH (fun k => (listed.setIfInBounds i true).getD k false) 0 rs st.h = mixH (fun k => (listed.setIfInBounds i true).getD k false) (i + 1) (rs.drop (i + 1)) (r.up ++ mixH (fun k => (listed.setIfInBounds i true).getD k false) 0 (rs.take i) st.h) := by
              conv => lhs; rw [hsplit]
              rw [mixH_app, htl, Nat.zero_add]
              simp only [mixH, hD', cond_true]
            have rhs : mixH (fun k => listed.getD k false) 0 rs st.h = mixH (fun k => listed.getD k false) (i + 1) (rs.drop (i + 1)) (mixH (fun k => listed.getD k false) 0 (rs.take i) st.h) := by
              conv => lhs; rw [hsplit]
              rw [mixH_app, htl, Nat.zero_add]
              simp only [mixH, hD, cond_false]
            rw [lhs, rhs]
            have postag : ∀ t t', lkG t s = lkG t' s → lkG (mixH (fun k => (listed.setIfInBounds i true).getD k false) (i + 1) (rs.drop (i + 1)) t) s = lkG (mixH (fun k => listed.getD k false) (i + 1) (rs.drop (i + 1)) t') s := fun t t' ht => mixH_agree _ _ _ _ ht (fun k r' hk hne => by
              rw [hset, beq_ne (i := i + 1 + k) (j := i) (by omega)] at hne
              exact absurd rfl hne)
            rw [postag _ (r.up ++ mixH (fun k => listed.getD k false) 0 (rs.take i) st.h) (happ _ _ _ (preag s _))]
            refine mixH_last _ _ _ (fun k r' hk hD'' x hx => ?_)
            obtain ⟨ok, hok1, hok2⟩ := rsAt _ r' (post k r' hk)
            have hnb : i + 1 + k ∉ bf.getD i [] := fun hmm => by have := ((bfAt i o ho).2 _ hmm).1; omega
            have hu := hun2 _ hD'' hnb
            have hp := pairAt i (i + 1 + k) o ok ho hok1 (by omega)
            simp only [pairOk, hu, Bool.not_true, Bool.false_or, Bool.and_eq_true] at hp
            obtain ⟨gb, hgb⟩ := hx
            rintro ⟨gb', hgb'⟩
            exact disB_spec hp.2.2 x (upIn_mem hupin _ hgb) (upIn_mem hok2.2.2.2.1 _ hgb')
          · -- new roots of the others
            intro j hjl hj x hx
            have hij : i ≠ j := fun e => by subst e; rw [hset] at hj; simp at hj
            have hj' : listed.getD j false = false := by rw [getD_set_ne false hij] at hj; exact hj
            refine hdone.dom x (hfr j hjl hj' x hx) (fun gb hmem => ?_)
            have hxin := upIn_mem hupin _ hmem
            have hp := pairAt i j o ops[j] ho (List.getElem?_eq_getElem hjl) hij
            simp only [pairOk, Bool.and_eq_true, Bool.or_eq_true] at hp
            rcases List.mem_append.1 hxin with h1 | h1
            · exact disB_spec hp.1.1 x h1 hx
            · rcases hp.1.2 with h2 | h2
              · exact disB_spec h2 x h1 hx
              · rw [hbef j (memB_iff.1 h2)] at hj'
                cases hj'
          · intro x hx
            refine hdone.dom x (hfr' x hx) (fun gb hmem => ?_)
            rcases List.mem_append.1 (upIn_mem hupin _ hmem) with h1 | h1
            · have := (hnwk i x h1).2; omega
            · have := hckk i x h1; omega
        unfold wpOp
        rw [opAt, ho]
        have hpre : ∀ (hchr : r.ch = kk.ck i), ∀ x ∈ r.up, x.1 ∈ r.ch ∨ ρ x.1 = none := by
          intro hchr x hx
          rcases List.mem_append.1 (upIn_mem hupin x hx) with h1 | h1
          · exact .inr (hfr i hil hni' x.1 h1)
          · exact .inl (by rw [hchr]; exact h1)
        rcases hcase with ⟨hg, hacts⟩ | ⟨j, d, b, hg, hj, hdl, hlk, hacts⟩ | ⟨j, d, b, hg, hj, hdl, hlk, hsv, hup0, hch0⟩
        · simp only [Region.wanted, hg, if_true]
          exact .inl (hacts.run a w S ρ F hmin (hpre hch) _ _ (fun v w' S1 ρ' F' h1 h2 => next v w' S1 ρ' F' _ _ _ rfl rfl rfl h1 h2))
        · simp only [Region.wanted, hg, yielded_of hmin hj hdl hlk, beq_self_eq_true, if_true]
          exact .inl (hacts.run a w S ρ F hmin (hpre hch) _ _ (fun v w' S1 ρ' F' h1 h2 => next v w' S1 ρ' F' _ _ _ rfl rfl rfl h1 h2))
        · simp only [Region.wanted, hg, unyielded hmin hj hdl hlk, Bool.false_eq_true, if_false]
          exact next undef w no ρ F (.tup []) [] [] hsv hch0 hup0 (Done.nil w S ρ F) rep_undef
  refine key ops.toArray.size _ a0 _ S0 ρ0 F0 (by simp) (by simpa using unl_fresh ops.length ops.length (Nat.le_refl _)) (fun j hj => ?_) ?_ (fun j _ _ x hx => hfr0 x (hnwk j x hx).1) (fun x hx => hfr0 x (by omega))
  · have : (Array.replicate ops.toArray.size false).getD j false = false := by
      simp only [Array.getD_eq_getD_getElem?, Array.getElem?_replicate]
      split <;> rfl
    rw [this] at hj
    cases hj
  · have hD : ∀ k, (Array.replicate ops.toArray.size false).getD k false = false := by
      intro k
      simp only [Array.getD_eq_getD_getElem?, Array.getElem?_replicate]
      split <;> rfl
    refine hrel0.drew.same (fun s => ?_) (fun s => ?_)
    · show lkS (mixT _ 0 rs st.t) s = _
      rw [mixT_no rs 0 st.t (fun k _ => hD k)]
    · show lkG (mixH _ 0 rs st.h) s = _
      rw [mixH_no rs 0 st.h (fun k _ => hD k)]
end
end Go.Proofs.Ytncccjpbaeaafaa
