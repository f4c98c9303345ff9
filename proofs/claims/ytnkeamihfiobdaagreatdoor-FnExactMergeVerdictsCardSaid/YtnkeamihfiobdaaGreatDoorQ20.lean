/- Parts of the proof (20 of 23). -/
import Derived.Calls
import Derived.StepT
import GoSem.Step
import Derived.Test.YtnkeamihfiobdaaGreatDoorQ19
section
set_option linter.unusedVariables false
set_option linter.unusedSimpArgs false
set_option maxRecDepth 100000
set_option maxHeartbeats 4000000
namespace Go.Proofs.YtnkeamihfiobdaaGreatDoor
open Go
def drwResD (n : Nat) {α : Type} : Result α → Prop
  | .ok _ w => n ≤ w.drawn
  | .halt _ w => n ≤ w.drawn
theorem drw_ask {α : Type} (a : Ask α) : ∀ w : World,w.drawn ≤ (w.ask a).2.drawn := by
  induction a with
  | done a => intro w; exact Nat.le_refl _
  | ask what range k ih =>
    intro w
    unfold World.ask
    dsimp only
    split
    · exact ih _ _
    · exact Nat.le_trans (Nat.le_succ _) (ih _ { w with drawn := w.drawn + 1 })
theorem drw_sys (w : World) (c : Sys) : w.drawn ≤ (w.sys c).2.drawn := by
  unfold World.sys
  have := drw_ask (Kernel.perform c w.os) w
  split
  · exact Nat.le_refl _
  · next h => rw [h] at this; exact this
theorem drw_freeze (w : World) (a : Addr) (n : Nat) : (w.freeze a n).drawn = w.drawn := by
  unfold World.freeze
  (repeat' split) <;> rfl
theorem drw_far {p : Program} {w w' : World} {a : Addr} {v : Value} {at_ : Bool} {l : List Addr} (h : w.farStore p a v at_ = .ok (w',l)) : w'.drawn = w.drawn := by
  unfold World.farStore at h
  split at h
  · split at h
    · next r hr =>
      cases h
      unfold World.viewStore at hr
      simp only [bind,Except.bind,pure,Except.pure,throw,throwThe,MonadExceptOf.throw] at hr
      repeat' (split at hr)
      all_goals first | (cases hr; rfl) | (cases hr; done) | (exact nomatch hr)
    · cases h
  · cases h
theorem drw_run {α : Type} (p : Program) (s : Sem α) : ∀ w : World,drwResD w.drawn (s.run p w) := by
  induction s with
  | pure a => intro w; exact Nat.le_refl _
  | load m a k ih =>
    intro w
    simp only [Sem.run]
    split
    · exact ih _ _
    · split
      · exact ih _ _
      · exact Nat.le_refl _
  | store m a v k ih =>
    intro w
    have key : ∀ v,drwResD w.drawn (match w.cell? a with
      | some _ => if w.frozen? a then .halt (.unsupported (.unsafePointer "a write to bytes that a string shares")) w else k.run p (w.setCell a v)
      | none => match w.farStore p a v (m == .atomic) with
        | .ok (w,_) => k.run p w
        | .error h => .halt h w) := by
      intro v
      split
      · split
        · exact Nat.le_refl _
        · exact ih _
      · split
        · next h => have := ih (by assumption); rw [drw_far h] at this; exact this
        · exact Nat.le_refl _
    cases v <;> simp only [Sem.run] <;> first | exact Nat.le_refl _ | exact key _
  | new o k ih => intro w; exact ih _ { w with heap := w.heap.push o }
  | shape r k ih => intro w; exact ih _ _
  | freeze a n k ih => intro w; have := ih (w.freeze a n); rw [drw_freeze] at this; exact this
  | frozen a k ih => intro w; exact ih _ _
  | getObj r k ih =>
    intro w
    simp only [Sem.run]
    split
    · exact Nat.le_refl _
    · exact ih _ _
    · exact Nat.le_refl _
  | setObj r o k ih =>
    intro w
    simp only [Sem.run]
    split
    · exact Nat.le_refl _
    · exact ih { w with heap := w.heap.setIfInBounds r o }
    · exact Nat.le_refl _
  | choose q k ih =>
    intro w
    simp only [Sem.run]
    split
    · exact ih _ _
    · have := ih (q.cut (w.tape w.drawn q)) { w with drawn := w.drawn + 1 }
      revert this
      generalize Sem.run p (k (q.cut (w.tape w.drawn q))) { w with drawn := w.drawn + 1 } = r
      intro this
      cases r <;> exact Nat.le_trans (Nat.le_succ _) this
  | sys c k ih =>
    intro w
    simp only [Sem.run]
    have := ih (w.sys c).1 (w.sys c).2
    have h2 := drw_sys w c
    revert this
    generalize Sem.run p (k (w.sys c).1) (w.sys c).2 = r
    intro this
    cases r <;> exact Nat.le_trans h2 this
  | program k ih => intro w; exact ih _ _
  | mark m k ih => intro w; exact ih _
  | halt h => intro w; exact Nat.le_refl _
theorem drw_run_ok {α : Type} {p : Program} {s : Sem α} {w w' : World} {v : α} (h : s.run p w = .ok v w') : w.drawn ≤ w'.drawn := by
  have := drw_run p s w
  rw [h] at this
  exact this
theorem drw_run_halt {α : Type} {p : Program} {s : Sem α} {w w' : World} {v : Halt} (h : s.run p w = .halt v w') : w.drawn ≤ w'.drawn := by
  have := drw_run p s w
  rw [h] at this
  exact this
def drwGD (n : Nat) : GStep → Prop
  | .go _ w _ => n ≤ w.drawn
  | .comm _ _ _ _ w _ => n ≤ w.drawn
  | .spawn _ _ w _ => n ≤ w.drawn
  | .count _ w _ => n ≤ w.drawn
  | .timer _ _ w _ => n ≤ w.drawn
  | .alone _ _ w _ => n ≤ w.drawn
  | .newcoro _ _ _ w _ => n ≤ w.drawn
  | .coroswitch _ _ _ w _ => n ≤ w.drawn
  | .collect _ w _ => n ≤ w.drawn
  | .watch _ w _ => n ≤ w.drawn
  | .ended _ _ _ => True
def drwSD (n : Nat) : Stepped → Prop
  | .next m => n ≤ m.world.drawn
  | .ended _ _ => True
theorem drw_after {n : Nat} {es : Array Event} {s : GStep} (h : drwGD n s) : drwGD n (s.after es) := by cases s <;> exact h
theorem drw_gD_le {n k : Nat} {s : GStep} (hk : k ≤ n) (h : drwGD n s) : drwGD k s := by cases s <;> first | exact Nat.le_trans hk h | exact trivial
theorem drw_dieOf (fr : Frame) (l : List ByteArray) (m : String) (b : Bool) (w : World) : drwGD w.drawn (dieOf fr l m b w) := Nat.le_refl _
theorem drw_endThrow (fr : Frame) (m : String) (w : World) : drwGD w.drawn (endThrow fr m w) := Nat.le_refl _
theorem drw_endPrinting (p : Program) (fr : Frame) (v : Value) (w : World) : drwGD w.drawn (endPrinting p fr v w) := by
  unfold endPrinting
  dsimp only
  split
  · exact drw_endThrow _ _ _
  · exact trivial
theorem drw_endWith (n : Nat) (w : World) (fd : Nat) (x : ByteArray) (o : Outcome) : drwGD n (endWith w fd x o) := by
  unfold endWith
  dsimp only
  (repeat' split) <;> exact trivial
theorem drw_endFatal (p : Program) (fr : Frame) (cs : List Frame) (dy : Option Dying) (m : String) (w : World) : drwGD w.drawn (endFatal p fr cs dy m w) := by
  unfold endFatal
  dsimp only
  split
  · next h => exact drw_gD_le (drw_run_ok h) (drw_dieOf _ _ _ _ _)
  · exact trivial
  · exact trivial
theorem drw_writeOn (p : Program) (fr : Frame) (d : Dying) (f : Fatal) (w : World) : drwGD w.drawn (writeOn p fr d f w) := by
  unfold writeOn
  dsimp only
  split
  · exact trivial
  · simp only [Sem.runT_eq]
    split
    · next h => exact drw_run_ok (Prod.mk.inj h).1
    · next h => exact drw_run_halt (Prod.mk.inj h).1
    · exact trivial
    · exact trivial
theorem drw_die (p : Program) (fr : Frame) (d : Dying) (w : World) : drwGD w.drawn (die p fr d w) := by
  unfold die
  split
  · exact drw_writeOn _ _ _ _ _
  split
  · split
    · exact Nat.le_refl _
    · exact drw_endWith _ _ _ _ _
  dsimp only
  split
  · exact Nat.le_refl _
  · split
    · next h => exact drw_run_ok h
    · exact trivial
  · simp only [Sem.runT_eq]
    refine drw_after ?_
    split
    · next h => exact drw_run_ok h
    · next h => exact drw_run_ok h
    · exact trivial
    · next h => exact drw_gD_le (drw_run_halt h) (drw_endPrinting _ _ _ _)
    · exact trivial
  · exact trivial
theorem drw_early (p : Program) (fr : Frame) (cs : List Frame) (dy : Option Dying) (g : Nat) (w : World) : drwGD w.drawn (early p fr cs dy g w) := by
  have hn : ∀ w : World,drwGD w.drawn (match w.heap[g]? with
    | some (.pending c elem) =>
      .go { frame := fr,callers := cs,status := .running,dying := dy } { w with heap := w.heap.setIfInBounds g (.cells c elem) }
    | _ => .ended (.stuck "early: the variable does not wait" (fr.pos p)) w) := by
    intro w
    split
    · exact Nat.le_refl _
    · exact trivial
  unfold early
  dsimp only
  (repeat' split) <;> first | exact trivial | exact hn _ | exact Nat.le_refl _ | exact drw_gD_le (drw_run_ok (by assumption)) (hn _) | exact drw_run_ok (by assumption) | (rename_i h _ _ _ _; exact Nat.le_trans (drw_run_ok h) (Nat.le_refl _))
theorem drw_doReturn (p : Program) (main : Bool) (fr : Frame) (cs : List Frame) (dy : Option Dying) (v : Value) (w : World) : drwGD w.drawn (doReturn p main fr cs dy v w) := by
  unfold doReturn
  (repeat' split) <;> first | exact trivial | exact Nat.le_refl _
theorem drw_callDeferred (p : Program) (fr : Frame) (cs : List Frame) (dy : Option Dying) (d : Deferred) (w : World) : drwGD w.drawn (callDeferred p fr cs dy d w) := by
  unfold callDeferred
  simp only [Sem.runT_eq]
  have hq : ∀ (b : Prop) [Decidable b] (x y : GStep),drwGD w.drawn x → drwGD w.drawn y → drwGD w.drawn (if b then x else y) := by
    intro b _ x y h1 h2
    split <;> assumption
  refine hq _ _ _ trivial ?_
  refine drw_after ?_
  (repeat' split) <;> first | exact trivial | exact drw_run_ok (by assumption) | exact drw_run_halt (by assumption) | exact drw_gD_le (drw_run_halt (by assumption)) (drw_endFatal _ _ _ _ _ _) | exact drw_gD_le (drw_run_halt (by assumption)) (drw_endThrow _ _ _) | skip
theorem drw_unwind (p : Program) (main : Bool) (fr : Frame) (cs : List Frame) (dy : Option Dying) (w : World) : drwGD w.drawn (unwind p main fr cs dy w) := by
  unfold unwind
  split
  · simp only [Sem.runT_eq]
    refine drw_after ?_
    split
    · exact drw_run_ok (by assumption)
    · exact trivial
  · exact drw_callDeferred _ _ _ _ _ _
  · split
    · exact trivial
    · (repeat' split) <;> first | exact trivial | exact Nat.le_refl _ | exact drw_run_ok (by assumption) | exact drw_run_halt (by assumption) | exact drw_endPrinting _ _ _ _ | skip
    · split
      · exact drw_doReturn _ _ _ _ _ _ _
      · simp only [Sem.runT_eq]
        refine drw_after ?_
        split
        · exact drw_gD_le (drw_run_ok (by assumption)) (drw_doReturn _ _ _ _ _ _ _)
        · exact trivial
        · exact trivial
theorem drw_apply (p : Program) (listen : Bool) (fr : Frame) (cs : List Frame) (dy : Option Dying) (s : Sem Next) (w : World) : drwGD w.drawn (stepG.apply p listen fr cs dy s w) := by
  unfold stepG.apply
  have hl : (if listen = true then s.runT p w #[] else (s.run p w,#[])).1 = s.run p w := by
    split
    · exact Sem.runT_fst _ _ _ _
    · rfl
  generalize (if listen = true then s.runT p w #[] else (s.run p w,#[])) = q at hl
  obtain ⟨r,es⟩ := q
  dsimp only at hl ⊢
  subst hl
  refine drw_after ?_
  (repeat' split) <;> first | exact trivial | exact drw_run_ok (by assumption) | exact drw_run_halt (by assumption) | exact drw_gD_le (drw_run_halt (by assumption)) (drw_endFatal _ _ _ _ _ _) | exact drw_gD_le (drw_run_halt (by assumption)) (drw_endThrow _ _ _) | exact drw_gD_le (drw_run_ok (by assumption)) (drw_endThrow _ _ _) | exact drw_gD_le (drw_run_halt (by assumption)) (drw_early _ _ _ _ _ _) | skip
theorem drw_oper (p : Program) (listen : Bool) (fr : Frame) (cs : List Frame) (dy : Option Dying) (w : World) : drwGD w.drawn (stepG.oper p listen fr cs dy w) := by
  unfold stepG.oper
  (repeat' split) <;> first | exact trivial | exact drw_apply _ _ _ _ _ _ _
theorem drw_elim {n : Nat} {α : Type} {o : Option α} {x : GStep} {f : α → GStep} (h : drwGD n x) (hf : ∀ a,drwGD n (f a)) : drwGD n (o.elim x f) := by
  cases o with
  | none => exact h
  | some a => exact hf a
theorem drw_exec (p : Program) (main : Bool) (listen : Bool) (fr : Frame) (cs : List Frame) (dy : Option Dying) (w : World) : drwGD w.drawn (stepG.exec p main listen fr cs dy w) := by
  have hq : ∀ (b : Prop) [Decidable b] (x y : GStep),drwGD w.drawn x → drwGD w.drawn y → drwGD w.drawn (if b then x else y) := by
    intro b _ x y h1 h2
    split <;> assumption
  have hlv : ∀ jump : Option Code,drwGD w.drawn (match fr.roundOf with
      | none => if (jump matches none | some .ret) then GStep.go { frame := { fr with mode := .returning }, callers := cs, status := .running, dying := dy } w else .ended (.stuck "exit, goto: no such block or label" (fr.pos p)) w
      | some l =>
        let (r,es) := (Instr.endRound l jump).runT p w #[]
        GStep.after (seen p fr.fn es) <| match r with
        | .ok v w => doReturn p main fr cs dy v w
        | .halt _ w => .ended (.stuck "range over a function: no such loop" (fr.pos p)) w) := by
    intro jump
    split
    · refine hq _ _ _ (Nat.le_refl _) trivial
    · simp only [Sem.runT_eq]
      refine drw_after ?_
      split
      · exact drw_gD_le (drw_run_ok (by assumption)) (drw_doReturn _ _ _ _ _ _ _)
      · exact trivial
  unfold stepG.exec
  dsimp only
  split
  · exact hlv none
  · exact hlv (some .ret)
  all_goals first
    | (refine drw_elim (hlv (some (.exit _))) (fun _ => ?_); exact Nat.le_refl _)
    | (refine drw_elim (hlv (some (.goto _))) (fun _ => ?_); exact Nat.le_refl _)
    | (refine drw_elim trivial (fun _ => ?_); exact drw_apply _ _ _ _ _ _ _)
    | (simp only [Sem.runT_eq]; refine drw_after ?_; (repeat' split) <;> first | exact trivial | exact drw_run_ok (by assumption) | exact drw_run_halt (by assumption) | exact drw_gD_le (drw_run_ok (by assumption)) (drw_apply _ _ _ _ _ _ _))
    | ((repeat' split) <;> first | exact trivial | exact Nat.le_refl _ | exact drw_apply _ _ _ _ _ _ _ | exact drw_oper _ _ _ _ _ _ | exact drw_run_ok (by assumption) | skip)
theorem drw_stepG (p : Program) (main : Bool) (g : Goroutine) (w : World) (listen : Bool) : drwGD w.drawn (stepG p main g w listen) := by
  unfold stepG
  dsimp only
  split
  · exact drw_die _ _ _ _
  · exact drw_exec _ _ _ _ _ _ _
  · exact drw_unwind _ _ _ _ _ _
theorem drw_look (p : Program) (gs : Array Goroutine) (rest : Rest) (w : World) : drwSD w.drawn (look p gs rest w) := by
  unfold look
  (repeat' split) <;> first | exact trivial | (dsimp only; (repeat' split) <;> first | exact trivial | (rename_i h _ _; exact Nat.le_trans (drw_run_ok h) (Nat.le_refl _)) | skip)
theorem drw_waiting {rest : Rest} {cases_ : Array CommCase} {w w' : World} (h : waitingAt rest cases_ w = some w') : w'.drawn = w.drawn := by
  unfold waitingAt at h
  (repeat' split at h) <;> cases h <;> rfl
theorem drw_sD_le {n k : Nat} {s : Stepped} (hk : k ≤ n) (h : drwSD n s) : drwSD k s := by cases s <;> first | exact Nat.le_trans hk h | exact trivial
theorem drw_comm (p : Program) (rest : Rest) (gs : Array Goroutine) (i : Nat) (g : Goroutine) (cases_ : Array CommCase) (b : Bool) (sh : CommShape) (w : World) : drwSD w.drawn (communicate p rest gs i g cases_ b sh w).1 := by
  unfold communicate
  dsimp only
  split
  · exact trivial
  split
  · split
    · split
      · have := drw_waiting (by assumption)
        exact Nat.le_of_eq this.symm
      · exact trivial
    · exact Nat.le_refl _
  · split
    · exact trivial
    · next h =>
      refine drw_sD_le (drw_run_ok h) ?_
      clear h
      (repeat' split) <;> first | exact trivial | exact Nat.le_refl _ | exact drw_run_halt (by assumption) | (rename_i h _ _ _; exact Nat.le_trans (drw_run_ok h) (Nat.le_refl _)) | (rename_i h _ _; exact Nat.le_trans (drw_run_ok h) (Nat.le_refl _)) | skip
theorem drw_drain (w : World) (c : Nat) : (drain w c).2.drawn = w.drawn := by
  unfold drain
  split <;> rfl
theorem drw_retime (m : Machine) (k : Nat) (t : Timer) (a b : Nat) : (retime m k t a b).2.world.drawn = m.world.drawn := by
  unfold retime
  cases t.chan with
  | none => rfl
  | some c => exact drw_drain _ _
theorem drw_timerOp {m m' : Machine} {op : TimerOp} {v : Value} (h : timerOp m op = .ok (v,m')) : m'.world.drawn = m.world.drawn := by
  cases op <;> simp only [timerOp] at h
  · (repeat' split at h) <;> first | (cases h; done) | (cases h; rfl)
  · unfold timerOp.named at h
    (repeat' split at h) <;> first | (cases h; done) | (simp only [Except.ok.injEq] at h; exact (congrArg (fun q => q.2.world.drawn) h).symm.trans (drw_retime _ _ _ _ _))
  · split at h
    · next m1 hm =>
      have h1 : m1.world.drawn = m.world.drawn := by
        unfold timerOp.opened at hm
        (repeat' split at hm) <;> cases hm <;> rfl
      unfold timerOp.named at h
      (repeat' split at h) <;> first | (cases h; done) | (simp only [Except.ok.injEq] at h; exact ((congrArg (fun q => q.2.world.drawn) h).symm.trans (drw_retime _ _ _ _ _)).trans h1)
    · cases h
  · cases h
    rfl
theorem drw_runT (p : Program) (m : Machine) (i : Nat) (listen : Bool) : drwSD m.world.drawn (runT p m i listen).1 := by
  unfold runT
  dsimp only
  have hs := drw_stepG p (i == 0) (m.gs.swapAt! i { (default : Goroutine) with status := .finished }).1 m.world listen
  revert hs
  generalize stepG p (i == 0) (m.gs.swapAt! i { (default : Goroutine) with status := .finished }).1 m.world listen = s
  intro hs
  cases s <;> dsimp only
  · exact hs
  · exact drw_sD_le hs (drw_comm _ _ _ _ _ _ _ _ _)
  · exact hs
  · split
    · exact trivial
    · exact hs
  · split
    · next h => exact Nat.le_trans hs (Nat.le_of_eq (drw_timerOp h).symm)
    · split
      · next h =>
        have h3 := congrArg (drwGD m.world.drawn) h
        exact cast h3 hs
      · exact trivial
    · exact trivial
    · exact trivial
  · exact hs
  · exact hs
  · split
    · exact hs
    · split
      · next h =>
        have h3 := congrArg (drwGD m.world.drawn) h
        exact cast h3 hs
      · exact trivial
    · exact trivial
  · exact drw_sD_le hs (drw_look _ _ _ _)
  · exact hs
  · exact trivial
theorem drw_serve (p : Program) (m : Machine) (k : Nat) : drwSD m.world.drawn (serve p m k) := by
  unfold serve
  split
  · exact trivial
  · exact Nat.le_refl _
  · dsimp only
    split
    · exact trivial
    · exact Nat.le_refl _
def drwMD (n : Nat) : Move → Prop
  | .goroutine m _ => n ≤ m.world.drawn
  | .machine s _ => drwSD n s
theorem drw_mD_le {n k : Nat} {s : Move} (hk : k ≤ n) (h : drwMD n s) : drwMD k s := by
  cases s with
  | goroutine m i => exact Nat.le_trans hk h
  | machine s ops => exact drw_sD_le hk h
theorem drw_askOn (p : Program) (m : Machine) : drwMD m.world.drawn (askOn p m) := by
  have hp : ∀ m1 : Machine,drwMD m1.world.drawn (match (choose (.sched (runnable m.gs m.world.os.mono).length)).run p m1.world with
      | .halt _ w => .machine (.ended (.stuck "sched" "") w)
      | .ok k world =>
        if (runnable m.gs m.world.os.mono).length ≤ 1 then .goroutine { m1 with world } ((runnable m.gs m.world.os.mono).getD k 0) else
        match (choose (.extern "sched.slice" 65536)).run p world with
        | .halt _ w => .machine (.ended (.stuck "sched.slice" "") w)
        | .ok n world => .goroutine { m1 with world,rest := { m1.rest with slice := if n = 0 then none else some ((runnable m.gs m.world.os.mono).getD k 0,n) } } ((runnable m.gs m.world.os.mono).getD k 0)) := by
    intro m1
    split
    · exact trivial
    · next h =>
      split
      · exact drw_run_ok h
      · split
        · exact trivial
        · next h2 => exact Nat.le_trans (drw_run_ok h) (drw_run_ok h2)
  unfold askOn
  dsimp only
  split
  · exact trivial
  · next h =>
    refine drw_mD_le (drw_run_ok h) ?_
    split
    · exact drw_serve _ _ _
    · split
      · split
        · exact Nat.le_refl _
        · split
          · exact Nat.le_refl _
          · split <;> exact trivial
      · split
        · exact hp { m with world := _ }
        · split
          · exact trivial
          · next h2 => exact drw_mD_le (drw_run_ok h2) (hp { m with world := _ })
          · next h2 => exact Nat.le_trans (drw_run_ok h2) (Nat.le_refl _)
          · next h2 => exact drw_mD_le (drw_run_ok h2) (hp (Machine.advanceTo { m with world := _ } _))
theorem drw_askm (p : Program) (m : Machine) : drwMD m.world.drawn (ask p m) := by
  unfold ask
  split
  · split
    · exact trivial
    · next h =>
      have h2 := drw_look p m.gs m.rest
      split
      · next m1 h3 =>
        have := h2 (by assumption)
        rw [h3] at this
        exact drw_mD_le (Nat.le_trans (drw_run_ok h) this) (drw_askOn _ _)
      · next h3 => exact drw_sD_le (drw_run_ok h) (h2 _)
    · next h => exact drw_mD_le (drw_run_ok h) (drw_askOn _ _)
  · exact drw_askOn _ _
theorem drw_move (p : Program) (m : Machine) : drwMD m.world.drawn (move p m) := by
  unfold move
  split
  · split
    · exact Nat.le_refl _
    · exact trivial
  · split
    · split
      · exact Nat.le_refl _
      · exact drw_askm p { m with rest := { m.rest with slice := none } }
    · exact drw_askm p m
theorem drw_step (p : Program) (m : Machine) : drwSD m.world.drawn (step p m) := by
  unfold step stepT
  have h := drw_move p m
  revert h
  generalize move p m = q
  intro h
  cases q with
  | goroutine m1 i => exact drw_sD_le h (drw_runT _ _ _ _)
  | machine s ops => exact h
theorem drw_runN (p : Program) : ∀ (n : Nat) (m : Machine),drwSD m.world.drawn (runN p n m)
  | 0,m => Nat.le_refl _
  | n + 1,m => by
    unfold runN
    have h := drw_step p m
    split
    · next h2 =>
      rw [h2] at h
      exact drw_sD_le h (drw_runN p n _)
    · exact h
theorem drw_steps {p : Program} {m m' : Machine} (h : Steps p m m') : m.world.drawn ≤ m'.world.drawn := by
  obtain ⟨n,hn⟩ := h
  have := drw_runN p n m
  rw [hn] at this
  exact this
theorem calls_drawn {P : Program} {f : FuncId} {args : Array Value} {w : World} {R : Ending → World → Prop} (h : Calls P f args w fun e w' => ∃ v,e = .returned v ∧ R e w') : Calls P f args w fun e w' => w.drawn ≤ w'.drawn ∧ ∃ v,e = .returned v ∧ R e w' := by
  intro cs
  obtain ⟨e,w',fr,⟨v,rfl,hR⟩,hc,hf,hl⟩ := h cs
  exact ⟨_,w',fr,⟨drw_steps hc,v,rfl,hR⟩,hc,hf,hl⟩
end Go.Proofs.YtnkeamihfiobdaaGreatDoor
end
