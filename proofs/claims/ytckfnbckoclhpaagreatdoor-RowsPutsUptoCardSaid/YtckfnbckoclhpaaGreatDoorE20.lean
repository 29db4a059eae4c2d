/- The count of draws never falls, whatever step the machine takes: so a call's end has drawn at least as often as its begin. Of the model, no program in sight. Rows: order, and the sort of rows by it. Rows: what is learned stays small: as lists. Plain. -/
import Derived.Calls
import Derived.Test.YtckfnbckoclhpaaGreatDoorE15
import Derived.Test.YtckfnbckoclhpaaGreatDoorE16
import Derived.Test.YtckfnbckoclhpaaGreatDoorE10
import Derived.Test.YtckfnbckoclhpaaGreatDoorSrt
import Derived.Deep.RegionHeld3
import Derived.Test.YtckfnbckoclhpaaGreatDoorE19
namespace Go.Proofs.YtckfnbckoclhpaaGreatDoor
section
set_option linter.unusedVariables false
open Go
theorem ask_drawn {α : Type} : ∀ (k : Ask α) (w : World), w.drawn ≤ (w.ask k).2.drawn
  | .done a, w => Nat.le_refl _
  | .ask what range k, w => by
    unfold World.ask
    dsimp only
    split
    · exact ask_drawn (k 0) w
    · exact Nat.le_trans (Nat.le_succ _) (ask_drawn (k _) { w with drawn := w.drawn + 1 })
theorem sys_drawn (w : World) (c : Sys) : w.drawn ≤ (w.sys c).2.drawn := by
  have h := ask_drawn (Kernel.perform c w.os) w
  unfold World.sys
  split
  · exact Nat.le_refl _
  · rename_i e
    rw [e] at h
    exact h
def resW {α : Type} : Result α → World
  | .ok _ w => w
  | .halt _ w => w
theorem view_drawn {p : Program} {w : World} {at_ : Addr} {u : TypeId} {k : Addr} {v : Value} {atomic : Bool} {r : World × List Addr} (h : w.viewStore p at_ u k v atomic = .ok r) : r.1.drawn = w.drawn := by
  unfold World.viewStore at h
  simp only [bind, Except.bind, pure, Except.pure] at h
  repeat' split at h
  all_goals first | cases h | skip
  all_goals first | rfl | (injection h with h; subst h; rfl) | skip
theorem far_drawn {p : Program} {w : World} {a : Addr} {v : Value} {atomic : Bool} {r : World × List Addr} (h : w.farStore p a v atomic = .ok r) : r.1.drawn = w.drawn := by
  unfold World.farStore at h
  split at h
  · split at h
    · rename_i e
      injection h with h
      subst h
      exact view_drawn e
    · cases h
  · cases h
theorem freeze_drawn (w : World) (a : Addr) (n : Nat) : (w.freeze a n).drawn = w.drawn := by
  unfold World.freeze
  split <;> rfl
theorem run_drawn {α : Type} (p : Program) (s : Sem α) : ∀ w : World, w.drawn ≤ (resW (s.run p w)).drawn := by
  induction s with
  | pure a => exact fun w => Nat.le_refl _
  | load m a k ih =>
    intro w
    unfold Sem.run
    split
    · exact ih _ w
    · split
      · exact ih _ w
      · exact Nat.le_refl _
  | store m a v k ih =>
    intro w
    have key : w.drawn ≤ (resW (match w.cell? a with
        | some _ => if w.frozen? a then .halt (.unsupported (.unsafePointer "a write to bytes that a string shares")) w else k.run p (w.setCell a v)
        | none => match w.farStore p a v (m == .atomic) with
          | .ok (w, _) => k.run p w
          | .error h => .halt h w)).drawn := by
      split
      · split
        · exact Nat.le_refl _
        · exact ih (w.setCell a v)
      · split
        · rename_i w' _ e
          have := far_drawn e
          dsimp only at this
          rw [← this]
          exact ih w'
        · exact Nat.le_refl _
    cases v
    all_goals first | exact Nat.le_refl _ | exact key
  | new o k ih => exact fun w => by unfold Sem.run; exact ih _ { w with heap := w.heap.push o }
  | shape r k ih => exact fun w => by unfold Sem.run; exact ih _ w
  | freeze a n k ih => exact fun w => by unfold Sem.run; rw [← freeze_drawn w a n]; exact ih _
  | frozen a k ih => exact fun w => by unfold Sem.run; exact ih _ w
  | getObj r k ih =>
    intro w
    unfold Sem.run
    split
    · exact Nat.le_refl _
    · exact ih _ w
    · exact Nat.le_refl _
  | setObj r o k ih =>
    intro w
    unfold Sem.run
    split
    · exact Nat.le_refl _
    · exact ih { w with heap := w.heap.setIfInBounds r o }
    · exact Nat.le_refl _
  | choose q k ih =>
    intro w
    unfold Sem.run
    split
    · exact ih _ w
    · exact Nat.le_trans (Nat.le_succ _) (ih _ { w with drawn := w.drawn + 1 })
  | sys c k ih => exact fun w => by unfold Sem.run; exact Nat.le_trans (sys_drawn w c) (ih _ _)
  | program k ih => exact fun w => by unfold Sem.run; exact ih _ w
  | mark m k ih => exact fun w => by unfold Sem.run; exact ih w
  | halt h => exact fun w => Nat.le_refl _
theorem runT_drawn {α : Type} (p : Program) (s : Sem α) : ∀ (w : World) (es : Array Event), w.drawn ≤ (resW (s.runT p w es).1).drawn := by
  induction s with
  | pure a => exact fun w es => Nat.le_refl _
  | load m a k ih =>
    intro w es
    unfold Sem.runT
    split
    · exact ih _ w _
    · split
      · exact ih _ w _
      · exact Nat.le_refl _
  | store m a v k ih =>
    intro w es
    have key : w.drawn ≤ (resW (match w.cell? a with
        | some _ => if w.frozen? a then (.halt (.unsupported (.unsafePointer "a write to bytes that a string shares")) w, es) else k.runT p (w.setCell a v) (es.push ⟨.cell a, true, m == .atomic⟩)
        | none => match w.farStore p a v (m == .atomic) with
          | .ok (w, touched) => k.runT p w (es ++ touched.toArray.map (⟨.cell ·, true, m == .atomic⟩))
          | .error h => (.halt h w, es) : Result α × Array Event).1).drawn := by
      split
      · split
        · exact Nat.le_refl _
        · exact ih (w.setCell a v) _
      · split
        · rename_i w' _ e
          have := far_drawn e
          dsimp only at this
          rw [← this]
          exact ih w' _
        · exact Nat.le_refl _
    cases v
    all_goals first | exact Nat.le_refl _ | exact key
  | new o k ih => exact fun w es => by unfold Sem.runT; exact ih _ { w with heap := w.heap.push o } _
  | shape r k ih => exact fun w es => by unfold Sem.runT; exact ih _ w _
  | freeze a n k ih => exact fun w es => by unfold Sem.runT; rw [← freeze_drawn w a n]; exact ih _ _
  | frozen a k ih => exact fun w es => by unfold Sem.runT; exact ih _ w _
  | getObj r k ih =>
    intro w es
    unfold Sem.runT
    split
    · exact Nat.le_refl _
    · exact ih _ w _
    · exact Nat.le_refl _
  | setObj r o k ih =>
    intro w es
    unfold Sem.runT
    split
    · exact Nat.le_refl _
    · exact ih { w with heap := w.heap.setIfInBounds r o } _
    · exact Nat.le_refl _
  | choose q k ih =>
    intro w es
    unfold Sem.runT
    split
    · exact ih _ w _
    · exact Nat.le_trans (Nat.le_succ _) (ih _ { w with drawn := w.drawn + 1 } _)
  | sys c k ih => exact fun w es => by unfold Sem.runT; exact Nat.le_trans (sys_drawn w c) (ih _ _ _)
  | program k ih => exact fun w es => by unfold Sem.runT; exact ih _ w _
  | mark m k ih => exact fun w es => by unfold Sem.runT; exact ih w _
  | halt h => exact fun w es => Nat.le_refl _
theorem of_run {α : Type} {p : Program} {s : Sem α} {w : World} {r : Result α} (e : s.run p w = r) : w.drawn ≤ (resW r).drawn := e ▸ run_drawn p s w
def gW : GStep → World
  | .go _ w _ => w
  | .comm _ _ _ _ w _ => w
  | .spawn _ _ w _ => w
  | .count _ w _ => w
  | .timer _ _ w _ => w
  | .alone _ _ w _ => w
  | .newcoro _ _ _ w _ => w
  | .coroswitch _ _ _ w _ => w
  | .collect _ w _ => w
  | .watch _ w _ => w
  | .ended _ w _ => w
theorem after_w (es : Array Event) (s : GStep) : gW (GStep.after es s) = gW s := by cases s <;> rfl
theorem ite_drawn {c : Prop} [Decidable c] {x y : GStep} {n : Nat} (hx : n ≤ (gW x).drawn) (hy : n ≤ (gW y).drawn) : n ≤ (gW (if c then x else y)).drawn := by
  split
  · exact hx
  · exact hy
theorem endWith_drawn (w : World) (fd : Nat) (text : ByteArray) (o : Outcome) : w.drawn ≤ (gW (endWith w fd text o)).drawn := by
  have h := sys_drawn w (.write fd text)
  unfold endWith
  dsimp only
  generalize w.sys (.write fd text) = x at h
  obtain ⟨r, w'⟩ := x
  split
  · rename_i e
    injection e with e1 e2
    subst e2
    split <;> exact h
  · rename_i e
    injection e with e1 e2
    subst e2
    exact h
  · rename_i e
    injection e with e1 e2
    subst e2
    exact h
theorem endPrinting_drawn (p : Program) (fr : Frame) (v : Value) (w : World) : w.drawn ≤ (gW (endPrinting p fr v w)).drawn := by
  unfold endPrinting
  dsimp only
  repeat' split
  all_goals exact Nat.le_refl _
theorem endFatal_drawn (p : Program) (fr : Frame) (callers : List Frame) (dying : Option Dying) (m : String) (w : World) : w.drawn ≤ (gW (endFatal p fr callers dying m w)).drawn := by
  unfold endFatal
  dsimp only
  have key : ∀ s : Sem (List (ByteArray × String) × List ByteArray), w.drawn ≤ (gW (match s.run p w with
      | .ok (texts, tabs) w => dieOf fr (panicPieces texts ++ tabs) m true w
      | .halt (.unsupported u) w => .ended (.unsupported u "") w
      | .halt _ w => .ended (.stuck "the report of a panic" "") w)).drawn := fun s => by
    have h := run_drawn p s w
    split
    all_goals
      rename_i e
      rw [e] at h
      exact h
  exact key _
theorem writeOn_drawn (p : Program) (fr : Frame) (d : Dying) (f : Fatal) (w : World) : w.drawn ≤ (gW (writeOn p fr d f w)).drawn := by
  unfold writeOn
  dsimp only
  split
  · exact Nat.le_refl _
  · have key : ∀ S : Sem Unit, ∀ g : Bool → Fatal, w.drawn ≤ (gW (match S.runT p w #[] with
        | (.ok _ w, es) => .go { frame := fr, callers := [], status := .running, dying := some { d with fatal := some (g true) } } w es
        | (.halt .blocked w, _) => .go { frame := fr, callers := [], status := .blocked, dying := some { d with fatal := some (g false) } } w #[]
        | (.halt (.unsupported u) w, _) => .ended (.unsupported u "") w
        | (.halt _ w, _) => .ended (.stuck "the report of a fatal error" "") w)).drawn := fun S g => by
      have h := runT_drawn p S w #[]
      generalize S.runT p w #[] = x at h
      obtain ⟨r, es⟩ := x
      cases r with
      | ok a w' => exact h
      | halt hh w' => cases hh <;> exact h
    exact key _ (fun b => if b then { f with pieces := _, begun := true } else f)
theorem die_drawn (p : Program) (fr : Frame) (d : Dying) (w : World) : w.drawn ≤ (gW (die p fr d w)).drawn := by
  unfold die
  split
  · exact writeOn_drawn ..
  · split
    · split
      · exact Nat.le_refl _
      · exact endWith_drawn ..
    · dsimp only
      split
      · exact Nat.le_refl _
      · rename_i s _
        have h := run_drawn p (withAddress s) w
        split
        all_goals
          rename_i e
          rw [e] at h
          exact h
      · rename_i t recv name _
        have h := runT_drawn p (invoke (.fn (.method name) #[]) #[.iface t recv]) w #[]
        generalize (invoke (.fn (.method name) #[]) #[.iface t recv]).runT p w #[] = x at h
        obtain ⟨r, es⟩ := x
        dsimp only at h ⊢
        rw [after_w]
        split
        · exact h
        · exact h
        · exact h
        · exact Nat.le_trans h (endPrinting_drawn ..)
        · exact Nat.le_refl _
      · exact Nat.le_refl _
theorem early_drawn (p : Program) (fr : Frame) (callers : List Frame) (dying : Option Dying) (g : Nat) (w : World) : w.drawn ≤ (gW (early p fr callers dying g w)).drawn := by
  have hn : ∀ w' : World, w'.drawn = (gW (match w'.heap[g]? with
    | some (.pending c elem) =>
      .go { frame := fr, callers, status := .running, dying } { w' with heap := w'.heap.setIfInBounds g (.cells c elem) }
    | _ => .ended (.stuck "early: the variable does not wait" (fr.pos p)) w')).drawn := fun w' => by split <;> rfl
  unfold early
  dsimp only
  repeat' first
    | exact Nat.le_refl _
    | exact Nat.le_of_eq (hn w)
    | (rename_i e; exact of_run e)
    | (rename_i e; exact Nat.le_trans (of_run e) (Nat.le_of_eq (hn _)))
    | (rename_i e _; exact of_run e)
    | split
theorem doReturn_drawn (p : Program) (main : Bool) (fr : Frame) (callers : List Frame) (dying : Option Dying) (v : Value) (w : World) : gW (doReturn p main fr callers dying v w) = w := by
  unfold doReturn
  repeat' split
  all_goals rfl
theorem callDeferred_drawn (p : Program) (fr : Frame) (callers : List Frame) (dying : Option Dying) (d : Deferred) (w : World) : w.drawn ≤ (gW (callDeferred p fr callers dying d w)).drawn := by
  unfold callDeferred
  refine ite_drawn (Nat.le_refl _) ?_
  · have h := runT_drawn p (invoke d.target d.args) w #[]
    generalize (invoke d.target d.args).runT p w #[] = x at h
    obtain ⟨r, es⟩ := x
    dsimp only at h ⊢
    rw [after_w]
    repeat' split
    all_goals first | exact h | exact Nat.le_trans h (endFatal_drawn ..)
theorem unwind_drawn (p : Program) (main : Bool) (fr : Frame) (callers : List Frame) (dying : Option Dying) (w : World) : w.drawn ≤ (gW (unwind p main fr callers dying w)).drawn := by
  unfold unwind
  split
  · rename_i block _ ds _
    have h := runT_drawn p (Instr.takeDeferred block) w #[]
    generalize (Instr.takeDeferred block).runT p w #[] = x at h
    obtain ⟨r, es⟩ := x
    dsimp only at h ⊢
    rw [after_w]
    split <;> exact h
  · exact callDeferred_drawn ..
  · split
    · exact Nat.le_refl _
    · rename_i chain _
      split
      · exact Nat.le_refl _
      · split
        · exact Nat.le_refl _
        · split
          · split
            · exact Nat.le_refl _
            · have h := run_drawn p (reportChain chain false) w
              split
              all_goals
                rename_i e
                rw [e] at h
                exact h
          · split
            · exact endPrinting_drawn ..
            · exact Nat.le_refl _
    · split
      · rw [doReturn_drawn]
        exact Nat.le_refl _
      · rename_i fn _
        have h := runT_drawn p (results fn fr.tmps) w #[]
        generalize (results fn fr.tmps).runT p w #[] = x at h
        obtain ⟨r, es⟩ := x
        dsimp only at h ⊢
        rw [after_w]
        split
        · rw [doReturn_drawn]
          exact h
        · exact h
        · exact h
theorem apply_drawn (p : Program) (listen : Bool) (fr : Frame) (callers : List Frame) (dying : Option Dying) (s : Sem Next) (w : World) : w.drawn ≤ (gW (stepG.apply p listen fr callers dying s w)).drawn := by
  unfold stepG.apply
  have h : w.drawn ≤ (resW (if listen then s.runT p w #[] else (s.run p w, #[])).1).drawn := by
    split
    · exact runT_drawn ..
    · exact run_drawn ..
  generalize (if listen then s.runT p w #[] else (s.run p w, #[])) = x at h
  obtain ⟨r, es⟩ := x
  dsimp only at h ⊢
  rw [after_w]
  repeat' split
  all_goals first | exact h | exact Nat.le_trans h (endFatal_drawn ..) | exact Nat.le_trans h (early_drawn ..)
theorem oper_drawn (p : Program) (listen : Bool) (fr : Frame) (callers : List Frame) (dying : Option Dying) (w : World) : w.drawn ≤ (gW (stepG.oper p listen fr callers dying w)).drawn := by
  unfold stepG.oper
  repeat' split
  all_goals first | exact Nat.le_refl _ | exact apply_drawn ..
theorem exec_drawn (p : Program) (main listen : Bool) (fr : Frame) (callers : List Frame) (dying : Option Dying) (w : World) : w.drawn ≤ (gW (stepG.exec p main listen fr callers dying w)).drawn := by
  have hl : ∀ (c : Bool) (jump : Option Code), w.drawn ≤ (gW (match fr.roundOf with
      | none => if c then .go { frame := { fr with mode := .returning }, callers, status := .running, dying } w else .ended (.stuck "exit, goto: no such block or label" (fr.pos p)) w
      | some l =>
        let (r, es) := (Instr.endRound l jump).runT p w #[]
        GStep.after (seen p fr.fn es) <| match r with
        | .ok v w => doReturn p main fr callers dying v w
        | .halt _ w => .ended (.stuck "range over a function: no such loop" (fr.pos p)) w)).drawn := fun c jump => by
    split
    · split <;> exact Nat.le_refl _
    · rename_i l _
      have h := runT_drawn p (Instr.endRound l jump) w #[]
      generalize (Instr.endRound l jump).runT p w #[] = x at h
      obtain ⟨r, es⟩ := x
      dsimp only at h ⊢
      rw [after_w]
      split
      · rw [doReturn_drawn]
        exact h
      · exact h
  unfold stepG.exec
  dsimp only
  split
  · exact hl _ none
  · exact hl _ (some .ret)
  · exact Nat.le_refl _
  · exact Nat.le_refl _
  · exact Nat.le_refl _
  · exact Nat.le_refl _
  · exact Nat.le_refl _
  · split <;> exact Nat.le_refl _
  · exact Nat.le_refl _
  · exact Nat.le_refl _
  · exact Nat.le_refl _
  · exact Nat.le_refl _
  · rename_i id k _
    cases exitTo id k with
    | none => exact hl _ (some (.exit id))
    | some t => exact Nat.le_refl _
  · rename_i l k _
    cases gotoIn l k with
    | none => exact hl _ (some (.goto l))
    | some t => exact Nat.le_refl _
  · rename_i f params assign body k _
    have h := runT_drawn p (Instr.enterLoop fr.fn fr.tmps params assign body fr.roundOf) w #[]
    generalize (Instr.enterLoop fr.fn fr.tmps params assign body fr.roundOf).runT p w #[] = x at h
    obtain ⟨r, es⟩ := x
    dsimp only at h ⊢
    rw [after_w]
    split
    · exact Nat.le_trans h (apply_drawn ..)
    · exact h
  · exact Nat.le_refl _
  · exact apply_drawn ..
  · rename_i l k _
    have h := runT_drawn p (Instr.endLoop l) w #[]
    generalize (Instr.endLoop l).runT p w #[] = x at h
    obtain ⟨r, es⟩ := x
    dsimp only at h ⊢
    rw [after_w]
    split
    all_goals exact h
  · exact Nat.le_refl _
  · exact apply_drawn ..
  · rename_i row args _ _
    cases Extern.next row with
    | none => exact Nat.le_refl _
    | some e => exact apply_drawn ..
  · rename_i id ops draw k _
    split
    · exact Nat.le_refl _
    · have h := run_drawn p (choose (.order fr.fn id)) w
      split
      all_goals
        rename_i e
        rw [e] at h
        exact h
  · exact Nat.le_refl _
  · split
    · exact oper_drawn ..
    · exact Nat.le_refl _
theorem stepG_drawn (p : Program) (main : Bool) (g : Goroutine) (w : World) (listen : Bool) : w.drawn ≤ (gW (stepG p main g w listen)).drawn := by
  unfold stepG
  dsimp only
  split
  · exact die_drawn ..
  · exact exec_drawn ..
  · exact unwind_drawn ..
def Up (n : Nat) (s : Stepped) : Prop := ∀ m, s = .next m → n ≤ m.world.drawn
theorem Up.next {n : Nat} {m : Machine} (h : n ≤ m.world.drawn) : Up n (.next m) := fun m' e => by
  injection e with e
  subst e
  exact h
theorem Up.ended {n : Nat} {o : Outcome} {w : World} : Up n (.ended o w) := fun m' e => by cases e
theorem comm_drawn (p : Program) (rest : Rest) (gs : Array Goroutine) (i : Nat) (g : Goroutine) (cases : Array CommCase) (blocking : Bool) (shape : CommShape) (w : World) : Up w.drawn (communicate p rest gs i g cases blocking shape w).1 := by
  unfold communicate
  dsimp only
  split
  · exact Up.ended
  · split
    · split
      · split
        · rename_i w' e
          refine Up.next ?_
          unfold waitingAt at e
          split at e
          · split at e
            · injection e with e
              subst e
              exact Nat.le_refl _
            · cases e
          · injection e with e
            subst e
            exact Nat.le_refl _
        · exact Up.ended
      · exact Up.next (Nat.le_refl _)
    · split
      · exact Up.ended
      · rename_i e
        have h := of_run e
        change w.drawn ≤ _ at h
        split
        · split
          · rename_i e2
            exact Up.next (Nat.le_trans h (of_run e2))
          · exact Up.ended
        · exact Up.next h
        · exact Up.next h
        · split
          · exact Up.next h
          · split
            · rename_i e2
              exact Up.next (Nat.le_trans h (of_run e2))
            · exact Up.ended
        · exact Up.next h
        · exact Up.next h
        · exact Up.ended
theorem look_drawn (p : Program) (gs : Array Goroutine) (rest : Rest) (w : World) : Up w.drawn (look p gs rest w) := by
  unfold look
  split
  · dsimp only
    split
    · exact Up.ended
    · split
      · exact Up.ended
      · split
        · rename_i e
          exact Up.next (of_run e)
        · exact Up.ended
        · exact Up.ended
  · exact Up.ended
theorem serve_drawn (p : Program) (m : Machine) (k : Nat) : Up m.world.drawn (serve p m k) := by
  unfold serve
  split
  · exact Up.ended
  · exact Up.next (Nat.le_refl _)
  · dsimp only
    split
    · exact Up.ended
    · exact Up.next (Nat.le_refl _)
theorem drain_drawn (w : World) (c : Nat) : (drain w c).2.drawn = w.drawn := by
  unfold drain
  split <;> rfl
theorem retime_drawn (m : Machine) (k : Nat) (t : Timer) (when_ period : Nat) : (retime m k t when_ period).2.world.drawn = m.world.drawn := by
  unfold retime
  dsimp only
  split
  · exact drain_drawn ..
  · rfl
theorem timer_drawn (m : Machine) (op : TimerOp) {v : Value} {m' : Machine} (h : timerOp m op = .ok (v, m')) : m'.world.drawn = m.world.drawn := by
  have hn : ∀ (m₀ : Machine) (var : Addr) (f : Nat → Timer → Value × Machine), (∀ k t, (f k t).2.world.drawn = m.world.drawn) → timerOp.named m₀ var f = .ok (v, m') → m'.world.drawn = m.world.drawn := fun m₀ var f hf h => by
    unfold timerOp.named at h
    split at h
    · rename_i k _
      injection h with h
      have := hf k (m₀.rest.timers.getD k default)
      rw [h] at this
      exact this
    · cases h
  unfold timerOp at h
  split at h
  · split at h
    · injection h with h
      injection h with _ h
      subst h
      rfl
    · split at h
      · split at h
        · cases h
        · injection h with h
          injection h with _ h
          subst h
          rfl
      · cases h
  · exact hn _ _ _ (fun k t => retime_drawn ..) h
  · split at h
    · rename_i m1 e
      refine hn _ _ _ (fun k t => (retime_drawn ..).trans ?_) h
      unfold timerOp.opened at e
      split at e
      · split at e
        · injection e with e
          subst e
          rfl
        · cases e
      · injection e with e
        subst e
        rfl
    · cases h
  · injection h with h
    injection h with _ h
    subst h
    rfl
theorem m_runT_drawn (p : Program) (m : Machine) (i : Nat) (listen : Bool) : Up m.world.drawn (Go.runT p m i listen).1 := by
  unfold Go.runT
  dsimp only
  have h := stepG_drawn p (i == 0) (m.gs.swapAt! i { (default : Goroutine) with status := .finished }).1 m.world listen
  generalize stepG p (i == 0) (m.gs.swapAt! i { (default : Goroutine) with status := .finished }).1 m.world listen = s at h
  split
  · exact Up.ended
  · rename_i e
    exact fun m' e => Nat.le_trans h (comm_drawn _ _ _ _ _ _ _ _ _ m' e)
  · exact Up.next h
  · exact Up.next h
  · dsimp only
    split
    · exact Up.ended
    · exact Up.next h
  · exact Up.next h
  · exact fun m' e => Nat.le_trans h (look_drawn _ _ _ _ m' e)
  · exact Up.next h
  · exact Up.next h
  · dsimp only
    split
    · exact Up.next h
    · split
      · rename_i e
        unfold endThrow dieOf at e
        cases e
        exact Up.next h
      · exact Up.ended
    · exact Up.ended
  · dsimp only
    split
    · rename_i e
      have := timer_drawn _ _ e
      refine Up.next ?_
      show _ ≤ _
      rw [this]
      exact h
    · split
      · rename_i e
        unfold endThrow dieOf at e
        cases e
        exact Up.next h
      · exact Up.ended
    · exact Up.ended
    · exact Up.ended
def UpM (n : Nat) : Move → Prop
  | .goroutine m _ => n ≤ m.world.drawn
  | .machine s _ => Up n s
theorem askOn_drawn (p : Program) (m : Machine) : UpM m.world.drawn (askOn p m) := by
  have hp : ∀ (m0 : Machine) (rs : List Nat), m.world.drawn ≤ m0.world.drawn → UpM m.world.drawn (match (choose (.sched rs.length)).run p m0.world with
      | .halt _ w => .machine (.ended (.stuck "sched" "") w)
      | .ok k world =>
        if rs.length ≤ 1 then .goroutine { m0 with world } (rs.getD k 0) else
        match (choose (.extern "sched.slice" 65536)).run p world with
        | .halt _ w => .machine (.ended (.stuck "sched.slice" "") w)
        | .ok n world => .goroutine { m0 with world, rest := { m0.rest with slice := if n = 0 then none else some (rs.getD k 0, n) } } (rs.getD k 0)) := fun m0 rs hm => by
    have h1 := run_drawn p (choose (.sched rs.length)) m0.world
    split
    · exact Up.ended
    · rename_i e
      rw [e] at h1
      split
      · exact Nat.le_trans hm h1
      · rename_i w1 _
        have h2 := run_drawn p (choose (.extern "sched.slice" 65536)) w1
        split
        · exact Up.ended
        · rename_i e2
          rw [e2] at h2
          exact Nat.le_trans hm (Nat.le_trans h1 h2)
  unfold askOn
  dsimp only
  split
  · exact Up.ended
  · rename_i k world e
    have h0 := of_run e
    change m.world.drawn ≤ world.drawn at h0
    split
    · exact fun m' e => Nat.le_trans h0 (serve_drawn p { m with world } _ m' e)
    · split
      · split
        · exact Up.next h0
        · split
          · exact Up.next h0
          · split
            · exact Up.ended
            · exact Up.ended
      · split
        · exact hp { m with world } _ h0
        · rename_i t _
          have h1 := run_drawn p (choose (.extern "clock.wait" (t - m.world.os.mono + 1))) world
          split
          · exact Up.ended
          · rename_i w2 e1
            rw [e1] at h1
            exact hp { m with world := w2 } _ (Nat.le_trans h0 h1)
          · rename_i e1
            rw [e1] at h1
            exact Up.next (Nat.le_trans h0 h1)
          · rename_i k2 w2 e1
            rw [e1] at h1
            exact hp (Machine.advanceTo { m with world := w2 } (t - (k2 + 1))) _ (Nat.le_trans h0 h1)
theorem ask_m_drawn (p : Program) (m : Machine) : UpM m.world.drawn (ask p m) := by
  have mono : ∀ {a b : Nat} {x : Move}, a ≤ b → UpM b x → UpM a x := fun {a b x} hab h => by
    cases x with
    | goroutine m i => exact Nat.le_trans hab h
    | machine s ops => exact fun m e => Nat.le_trans hab (h m e)
  unfold ask
  split
  · have h := run_drawn p (choose (.extern "collector.look" 2)) m.world
    split
    · exact Up.ended
    · rename_i w e
      rw [e] at h
      change m.world.drawn ≤ w.drawn at h
      split
      · rename_i m' e2
        exact mono (Nat.le_trans h (look_drawn p _ _ _ _ e2)) (askOn_drawn p m')
      · rename_i s _
        exact fun m' e2 => Nat.le_trans h (look_drawn p _ _ _ _ e2)
    · rename_i w _ e
      rw [e] at h
      exact mono h (askOn_drawn p { m with world := w })
  · exact askOn_drawn p m
theorem move_drawn (p : Program) (m : Machine) : UpM m.world.drawn (move p m) := by
  unfold move
  split
  · split
    · exact Nat.le_refl _
    · exact Up.ended
  · split
    · split
      · exact Nat.le_refl _
      · exact ask_m_drawn p { m with rest := { m.rest with slice := none } }
    · exact ask_m_drawn p m
theorem step_drawn (p : Program) (m : Machine) : Up m.world.drawn (step p m) := by
  have h := move_drawn p m
  unfold step stepT
  split
  · rename_i e
    rw [e] at h
    exact fun m' e2 => Nat.le_trans h (m_runT_drawn _ _ _ _ m' e2)
  · rename_i e
    rw [e] at h
    exact h
theorem runN_drawn (p : Program) : ∀ (n : Nat) (m : Machine), Up m.world.drawn (runN p n m)
  | 0, m => Up.next (Nat.le_refl _)
  | n + 1, m => by
    have h := step_drawn p m
    unfold runN
    split
    · rename_i m1 e
      exact fun m' e2 => Nat.le_trans (h m1 e) (runN_drawn p n m1 m' e2)
    · rename_i s e
      exact h
theorem calls_drawn {P : Program} {f : FuncId} {args : Array Value} {w : World} {R : Ending → World → Prop} (h : Calls P f args w R) (hr : ∀ e w', R e w' → ∃ v, e = .returned v) : Calls P f args w fun e w' => R e w' ∧ w.drawn ≤ w'.drawn := by
  intro cs
  obtain ⟨e, w', fr, h1, h2, h3⟩ := h cs
  obtain ⟨v, rfl⟩ := hr e w' h1
  refine ⟨_, w', fr, ⟨h1, ?_⟩, h2, h3⟩
  obtain ⟨n, hn⟩ := h2
  exact runN_drawn P n _ _ hn
end
section
set_option linter.unusedVariables false
open Go.RowKit
theorem compare_key : ∀ x y : Key, Lib.compareBytes x y = cmpK x y
  | [], [] => rfl
  | [], b :: y => by
    have h : ([] : Key) < b :: y := by simp
    rw [cmpK_lt h]
    rfl
  | a :: x, [] => by
    have h : ([] : Key) < a :: x := by simp
    rw [cmpK_gt h]
    rfl
  | a :: x, b :: y => by
    unfold Lib.compareBytes
    by_cases h : a < b
    · rw [if_pos h, cmpK_lt (List.cons_lt_cons_iff.2 (.inl h))]
    · rw [if_neg h]
      by_cases k : b < a
      · rw [if_pos k, cmpK_gt (List.cons_lt_cons_iff.2 (.inl k))]
      · rw [if_neg k, compare_key x y]
        have e : a = b := UInt8.le_antisymm (UInt8.not_lt.1 k) (UInt8.not_lt.1 h)
        subst e
        have e1 : ∀ x y : Key, a :: x < a :: y ↔ x < y := fun x y => by
          rw [List.cons_lt_cons_iff]
          exact ⟨fun z => z.elim (fun z => absurd z (UInt8.lt_irrefl a)) (fun z => z.2), fun z => .inr ⟨rfl, z⟩⟩
        unfold cmpK
        simp only [e1]
theorem orderM_cmp (a b : RowM) : orderM a b = if cmpK (ttext a.rest a.fs) (ttext b.rest b.fs) ≠ 0 ∨ a.eq = b.eq then cmpK (ttext a.rest a.fs) (ttext b.rest b.fs) else if a.eq then -1 else 1 := by
  unfold orderM
  rcases kcase (ttext a.rest a.fs) (ttext b.rest b.fs) with h | h | h
  · rw [cmpK_lt h, if_neg (fun e => by rw [e] at h; exact kirr _ h), if_pos h, if_pos (.inl (by decide))]
  · rw [cmpK_eq h, if_pos h]
    by_cases e : a.eq = b.eq
    · rw [if_pos e, if_pos (.inr e)]
    · have e2 : ¬ ((0 : Int) ≠ 0 ∨ a.eq = b.eq) := fun x => x.elim (fun z => z rfl) e
      rw [if_neg e, if_neg e2]
  · rw [cmpK_gt h, if_neg (fun e => by rw [e] at h; exact kirr _ h), if_neg (fun x => kirr _ (ktrans x h)), if_pos (.inl (by decide))]
structure Sml (r : RowM) : Prop where
  rest : r.rest.natAbs < 4294967296 ^ 40000
  fs : ∀ f ∈ r.fs, f.2.natAbs < 4294967296 ^ 40000
  text : (ftext r.fs).length ≤ 140737488355328
set_option maxHeartbeats 4000000 in
set_option maxRecDepth 100000 in
theorem order_any (q1 q2 : RawR) (r1 r2 : RowM) (w : World) (h1 : RowIs w q1 r1) (h2 : RowIs w q2 r2) (s1 : Sml r1) (s2 : Sml r2) :
    Calls Tryz.prog 39 #[q1.val, q2.val] w fun e w' => e = .returned (.int .i64 (orderM r1 r2)) ∧ Pu w w' := by
  obtain ⟨g1, A1, n1, c1, m1, e1⟩ := q1
  obtain ⟨g2, A2, n2, c2, m2, e2⟩ := q2
  obtain ⟨x1, h1⟩ := h1
  obtain ⟨x2, h2⟩ := h2
  unfold RawR.term at h1 h2
  dsimp only at x1 x2 h1 h2
  unfold RawR.val
  dsimp only
  obtain ⟨W, hWe⟩ : ∃ W, W = (w.alloc (.cells #[.bool g1, .slice A1 n1 c1, .pointer m1, .bool e1] 35)).alloc (.cells #[.bool g2, .slice A2 n2 c2, .pointer m2, .bool e2] 35) := ⟨_, rfl⟩
  have pW : Pu w W := by rw [hWe]; exact ((Pu.refl w).alloc _).alloc _
  have k1 : Blk W w.heap.size 35 #[.bool g1, .slice A1 n1 c1, .pointer m1, .bool e1] := by rw [hWe]; exact (Blk.new w _ _).alloc _
  have k2 : Blk W (w.heap.size + 1) 35 #[.bool g2, .slice A2 n2 c2, .pointer m2, .bool e2] := by rw [hWe]; exact Blk.at_new _ _ _ (by simp)
  have Hs1 := Lib.hid (fun V (p : Pu W V) => tstring_any _ r1.rest r1.fs V ((h1.pu pW).pu p) s1.rest s1.fs s1.text)
  have Hs2 := Lib.hid (fun V (p : Pu W V) => tstring_any _ r2.rest r2.fs V ((h2.pu pW).pu p) s2.rest s2.fs s2.text)
  have Hcmp := Lib.hid (fun V => (Tryz.strings_Compare ⟨(ttext r1.rest r1.fs).toArray⟩ ⟨(ttext r2.rest r2.fs).toArray⟩ V))
  have hco : Lib.compareBytes (⟨(ttext r1.rest r1.fs).toArray⟩ : ByteArray).data.toList (⟨(ttext r2.rest r2.fs).toArray⟩ : ByteArray).data.toList = cmpK (ttext r1.rest r1.fs) (ttext r2.rest r2.fs) := by
    rw [← compare_key]
  rw [hco] at Hcmp
  rw [orderM_cmp, ← x1, ← x2]
  have HWe := Lib.hid hWe
  have d0 : W.cell? ⟨w.heap.size, 0, none⟩ = some (.bool g1) := k1.cell 0
  have d1 : W.cell? ⟨w.heap.size, 1, none⟩ = some (.slice A1 n1 c1) := k1.cell 1
  have d2 : W.cell? ⟨w.heap.size, 2, none⟩ = some (.pointer m1) := k1.cell 2
  have d3 : W.cell? ⟨w.heap.size + 1, 0, none⟩ = some (.bool g2) := k2.cell 0
  have d4 : W.cell? ⟨w.heap.size + 1, 1, none⟩ = some (.slice A2 n2 c2) := k2.cell 1
  have d5 : W.cell? ⟨w.heap.size + 1, 2, none⟩ = some (.pointer m2) := k2.cell 2
  have hP : Pu W W.drew := (Pu.refl W).drew
  clear hWe h1 h2 s1 s2 x1 x2 hco
  obtain ⟨s, hs, hcase⟩ : ∃ s : Int, cmpK (ttext r1.rest r1.fs) (ttext r2.rest r2.fs) = s ∧ (s = -1 ∨ s = 0 ∨ s = 1) := by
    rcases kcase (ttext r1.rest r1.fs) (ttext r2.rest r2.fs) with h | h | h
    · exact ⟨_, cmpK_lt h, .inl rfl⟩
    · exact ⟨_, cmpK_eq h, .inr (.inl rfl)⟩
    · exact ⟨_, cmpK_gt h, .inr (.inr rfl)⟩
  rw [hs] at Hcmp ⊢
  clear hs
  generalize ttext r1.rest r1.fs = t1 at *
  generalize ttext r2.rest r2.fs = t2 at *
  rcases hcase with rfl | rfl | rfl
  all_goals
    go_enter Tryz.func39, Tryz.ntmps39
    go_wp2_with fail
    rw [← HWe.out]
    go_region_held3 (fun t => t.cell? ⟨w.heap.size, 0, none⟩ = some (.bool g1) ∧ t.cell? ⟨w.heap.size, 1, none⟩ = some (.slice A1 n1 c1) ∧ t.cell? ⟨w.heap.size, 2, none⟩ = some (.pointer m1) ∧ t.cell? ⟨w.heap.size + 1, 0, none⟩ = some (.bool g2) ∧ t.cell? ⟨w.heap.size + 1, 1, none⟩ = some (.slice A2 n2 c2) ∧ t.cell? ⟨w.heap.size + 1, 2, none⟩ = some (.pointer m2))
      (first | exact Keep6 d0 d1 d2 d3 d4 d5 (by repeat' (first | with_reducible exact hP | with_reducible exact Pu.refl _ | with_reducible refine Pu.drew ?_ | with_reducible refine Pu.alloc ?_ _)) | go_keep)
      (first
        | (go_at_call_of 33 A1; refine (Hs1.out _ hP).mono ?_; rintro e u2 ⟨rfl, p9⟩; replace hP := hP.trans p9)
        | (go_at_call_of 33 A2; refine (Hs2.out _ hP).mono ?_; rintro e u2 ⟨rfl, p9⟩; replace hP := hP.trans p9)
        | (go_at_call 76; refine (Hcmp.out _).mono ?_; rintro e u3 ⟨rfl, rfl⟩))
    all_goals
      have y0 := (k1.pu hP).cell 3
      have y1 := (k2.pu hP).cell 3
      have HP := Lib.hid (pW.trans hP)
      clear hP
      cases e1 <;> cases e2
      all_goals
        go_wp2
        go_ret
        exact ⟨rfl, HP.out⟩
end
section
set_option linter.unusedVariables false
open Go.RowKit
structure FGood (K : Nat) (fs : List (Key × Int)) : Prop where
  up : Upto K fs
  few : fs.length < 30000
  nz : NZ fs
  nm : ∀ f ∈ fs, f.1.length ≤ 100
structure Good (K : Nat) (r : RowM) : Prop where
  fs : FGood K r.fs
  rest : r.rest.natAbs < 4294967296 ^ 30000
def Big (K : Nat) : Prop := K + 1100000 * K < 4294967296 ^ 30000
structure PGood (K : Nat) (p : Pr) : Prop where
  fs : FGood K p.fs
  num : ∀ m, (p.up = some m ∨ p.lo = some m ∨ p.eq = some m) → m.natAbs < 4294967296 ^ 30000
theorem FGood.map {K : Nat} {fs gs : List (Key × Int)} (h : FGood K fs) (hk : gs.map (·.1) = fs.map (·.1)) (hu : Upto K gs) (hz : NZ gs) : FGood K gs := by
  refine ⟨hu, ?_, hz, fun f hf => ?_⟩
  · have := congrArg List.length hk
    rw [List.length_map, List.length_map] at this
    rw [this]
    exact h.few
  · have h1 : f.1 ∈ gs.map (·.1) := List.mem_map_of_mem hf
    rw [hk] at h1
    obtain ⟨q, hq, e⟩ := List.mem_map.1 h1
    rw [← e]
    exact h.nm q hq
theorem FGood.mul {K : Nat} {fs : List (Key × Int)} (h : FGood K fs) : FGood K (mulM fs (-1)) := h.map (mulM_keys fs (-1)) (mulM_upto h.up) (mulM_nz h.nz (by omega))
theorem ftext_len {N : Nat} : ∀ (fs : List (Key × Int)), (∀ f ∈ fs, (ztext f.2).length + f.1.length + 2 ≤ N) → (ftext fs).length ≤ fs.length * N
  | [], _ => by simp [ftext]
  | f :: fs, h => by
    have h1 := ftext_len fs (fun g hg => h g (List.mem_cons_of_mem _ hg))
    have h2 := h f (List.mem_cons_self ..)
    have e : ftext (f :: fs) = (ztext f.2 ++ (42 :: (f.1 ++ [43]))) ++ ftext fs := rfl
    rw [e, List.length_append, List.length_append, List.length_cons, List.length_append, List.length_cons, List.length_nil, List.length_cons, Nat.succ_mul]
    omega
theorem FGood.text {K : Nat} {fs : List (Key × Int)} (h : FGood K fs) (hK : Big K) : (ftext fs).length ≤ 140737488355328 := by
  have h1 := ftext_len (N := 300200) fs (fun f hf => by
    have h1 := ztext_len (h.up.big hK f hf)
    have h2 := h.nm f hf
    omega)
  have h2 := h.few
  have h3 : fs.length * 300200 ≤ 30000 * 300200 := Nat.mul_le_mul_right _ (by omega)
  omega
theorem Good.sml {K : Nat} {r : RowM} (h : Good K r) (hK : Big K) : Sml r := ⟨up1000 h.rest, h.fs.up.big2 hK, h.fs.text hK⟩
theorem room_of {K : Nat} {ps : List (Key × Pr)} {fs : List (Key × Int)} (h : FGood K fs) (hK : Big K) (hp : ∀ e ∈ ps, PGood K e.2) (hl : ps.length < 1100000) : Room ps fs K where
  len := hl
  psb := fun e he m hm => (hp e he).num m hm
  up := h.up
  big := hK
  few := h.few
  text := fun gs hk hu => by
    have hg : Upto K gs ∧ gs.length < 30000 ∧ ∀ f ∈ gs, f.1.length ≤ 100 := by
      refine ⟨hu, ?_, fun f hf => ?_⟩
      · have := congrArg List.length hk
        rw [List.length_map, List.length_map] at this
        rw [this]
        exact h.few
      · have h1 : f.1 ∈ gs.map (·.1) := List.mem_map_of_mem hf
        rw [hk] at h1
        obtain ⟨q, hq, e⟩ := List.mem_map.1 h1
        rw [← e]
        exact h.nm q hq
    have h1 := ftext_len (N := 300200) gs (fun f hf => by
      have h1 := ztext_len (hg.1.big hK f hf)
      have h2 := hg.2.2 f hf
      omega)
    have h3 : gs.length * 300200 ≤ 30000 * 300200 := Nat.mul_le_mul_right _ (by omega)
    omega
theorem fgood_div {K : Nat} {fs : List (Key × Int)} {d : Int} (h : FGood K fs) (hd : d ≠ 0) (hx : ∀ f ∈ fs, f.2 % d = 0) : FGood K (divM fs d) :=
  h.map (divM_keys fs d) (fun f hf => by
    obtain ⟨q, hq, rfl⟩ := List.mem_map.1 hf
    exact Nat.le_trans (ediv_exact (hx q hq) hd) (h.up q hq)) (divM_nz h.nz (fun f hf => Int.dvd_of_emod_eq_zero (hx f hf)))
def Fact.num : Fact → Option Int
  | .bad => none
  | .nothing => none
  | .eq _ n => some n
  | .up _ n => some n
  | .lo _ n => some n
theorem divisor_div {fs : List (Key × Int)} : ∀ f ∈ fs, f.2 % divisorM fs = 0 := by
  intro f hf
  unfold divisorM
  split
  · rw [Int.emod_neg]
    exact gcdM_div f hf
  · exact gcdM_div f hf
theorem fact_good {K : Nat} {r : RowM} (h : Good K r) : (∀ fs, (factOf r).of = some fs → FGood K fs) ∧ ∀ n, (factOf r).num = some n → n.natAbs < 4294967296 ^ 30000 := by
  unfold factOf
  by_cases hg : gcdM r.fs = 0
  · rw [if_pos hg]
    split <;> exact ⟨fun fs e => (by cases e), fun n e => (by cases e)⟩
  · have hd : divisorM r.fs ≠ 0 := by
      unfold divisorM
      split <;> omega
    rw [if_neg hg]
    split
    · split
      · rename_i hx
        refine ⟨fun fs e => ?_, fun n e => ?_⟩
        · injection e with e
          rw [← e]
          exact fgood_div h.fs hd divisor_div
        · injection e with e
          rw [← e]
          exact Nat.lt_of_le_of_lt (ediv_exact hx hd) h.rest
      · exact ⟨fun fs e => (by cases e), fun n e => (by cases e)⟩
    · have hn : (-((-r.rest) / gcdM r.fs)).natAbs < 4294967296 ^ 30000 := by
        have hp : 0 ≤ gcdM r.fs := gall_nonneg _
        rw [Int.natAbs_neg]
        exact Nat.lt_of_le_of_lt (ediv_abs (by omega) (-r.rest)) (by rw [Int.natAbs_neg]; exact h.rest)
      split
      · refine ⟨fun fs e => ?_, fun n e => ?_⟩
        · injection e with e
          rw [← e]
          exact (fgood_div h.fs hg gcdM_div).mul
        · injection e with e
          rw [← e]
          exact hn
      · refine ⟨fun fs e => ?_, fun n e => ?_⟩
        · injection e with e
          rw [← e]
          exact fgood_div h.fs hg gcdM_div
        · injection e with e
          rw [← e]
          exact hn
theorem pairOf_good {K : Nat} {ps : List (Key × Pr)} (hr : Rise ps) (hp : ∀ e ∈ ps, PGood K e.2) {fs : List (Key × Int)} (hf : FGood K fs) : PGood K (pairOf ps fs) := by
  unfold pairOf
  cases e : lookM ps (ttext 0 fs) with
  | some p => exact hp _ ((look_some hr).1 e)
  | none => exact ⟨hf, fun m hm => by rcases hm with h | h | h <;> cases h⟩
theorem great_good {o : Option Int} {n m : Int} (ho : ∀ m, o = some m → m.natAbs < 4294967296 ^ 30000) (hn : n.natAbs < 4294967296 ^ 30000) (h : greatM o n = some m) : m.natAbs < 4294967296 ^ 30000 := by
  obtain ⟨k, e, _, _, h3⟩ := greatM_some o n
  rw [e] at h
  injection h with h
  rw [← h]
  rcases h3 with h3 | h3
  · rw [h3]
    exact hn
  · exact ho k h3
theorem learn_good {K : Nat} {s : Bool × List (Key × Pr)} {r : RowM} (hr : Rise s.2) (hp : ∀ e ∈ s.2, PGood K e.2) (h : Good K r) : Rise (learnM s r).2 ∧ (∀ e ∈ (learnM s r).2, PGood K e.2) ∧ (learnM s r).2.length ≤ s.2.length + 1 := by
  have hg := fact_good h
  have put : ∀ fs p, PGood K p → Rise (putM s.2 (ttext 0 fs) p) ∧ (∀ e ∈ putM s.2 (ttext 0 fs) p, PGood K e.2) ∧ (putM s.2 (ttext 0 fs) p).length ≤ s.2.length + 1 := fun fs p hpp => by
    refine ⟨putM_rise hr _ _, fun e he => ?_, ?_⟩
    · rcases (mem_put hr _ _ e).1 he with e1 | e1
      · rw [e1]
        exact hpp
      · exact hp e e1.1
    · unfold putM
      have hle := place_le s.2 (ttext 0 fs)
      split
      · rw [List.length_append, List.length_cons, List.length_take, List.length_drop]
        omega
      · rw [List.length_append, List.length_cons, List.length_take, List.length_drop]
        omega
  unfold learnM
  cases hf : factOf r with
  | bad => exact ⟨hr, hp, Nat.le_succ _⟩
  | nothing => exact ⟨hr, hp, Nat.le_succ _⟩
  | eq fs n =>
    rw [hf] at hg
    have hpo := pairOf_good hr hp (hg.1 fs rfl)
    exact put fs _ ⟨hpo.fs, fun m hm => by
      rcases hm with h | h | h
      · exact hpo.num m (.inl h)
      · exact hpo.num m (.inr (.inl h))
      · injection h with h
        rw [← h]
        exact hg.2 n rfl⟩
  | up fs n =>
    rw [hf] at hg
    have hpo := pairOf_good hr hp (hg.1 fs rfl)
    exact put fs _ ⟨hpo.fs, fun m hm => by
      rcases hm with h | h | h
      · exact great_good (fun k hk => hpo.num k (.inl hk)) (hg.2 n rfl) h
      · exact hpo.num m (.inr (.inl h))
      · exact hpo.num m (.inr (.inr h))⟩
  | lo fs n =>
    rw [hf] at hg
    have hpo := pairOf_good hr hp (hg.1 fs rfl)
    exact put fs _ ⟨hpo.fs, fun m hm => by
      rcases hm with h | h | h
      · exact hpo.num m (.inl h)
      · exact great_good (fun k hk => hpo.num k (.inr (.inl hk))) (hg.2 n rfl) h
      · exact hpo.num m (.inr (.inr h))⟩
theorem learn_all_good {K : Nat} : ∀ (l : List RowM) (s : Bool × List (Key × Pr)), Rise s.2 → (∀ e ∈ s.2, PGood K e.2) → (∀ r ∈ l, Good K r) → Rise (l.foldl learnM s).2 ∧ (∀ e ∈ (l.foldl learnM s).2, PGood K e.2) ∧ (l.foldl learnM s).2.length ≤ s.2.length + l.length
  | [], s, hr, hp, _ => ⟨hr, hp, Nat.le_refl _⟩
  | r :: l, s, hr, hp, h => by
    obtain ⟨h1, h2, h3⟩ := learn_good hr hp (h r (List.mem_cons_self ..))
    obtain ⟨k1, k2, k3⟩ := learn_all_good l (learnM s r) h1 h2 (fun x hx => h x (List.mem_cons_of_mem _ hx))
    rw [List.foldl_cons]
    refine ⟨k1, k2, ?_⟩
    rw [List.length_cons]
    omega
theorem rowsM_eq {p : Pr} {e : Int} (h : p.eq = some e) : rowsM p = ([⟨e, p.fs, true⟩], boundM p e) := by
  unfold rowsM meetM
  rw [h]
  rfl
theorem rowsM_bad {p : Pr} {a b : Int} (h0 : p.eq = none) (hu : p.up = some a) (hl : p.lo = some b) (h : a + b > 0) : rowsM p = ([], false) := by
  unfold rowsM
  rw [h0, hu, hl]
  simp [h]
theorem rowsM_meet {p : Pr} {a b : Int} (h0 : p.eq = none) (hu : p.up = some a) (hl : p.lo = some b) (h : a + b = 0) : rowsM p = ([⟨a, p.fs, true⟩], boundM p a) := by
  unfold rowsM meetM
  rw [h0, hu, hl]
  simp [h]
theorem rowsM_two {p : Pr} {a b : Int} (h0 : p.eq = none) (hu : p.up = some a) (hl : p.lo = some b) (h : a + b < 0) : rowsM p = ([⟨a, p.fs, false⟩, ⟨b, mulM p.fs (-1), false⟩], true) := by
  unfold rowsM meetM
  rw [h0, hu, hl]
  have h1 : ¬ a + b > 0 := by omega
  have h2 : ¬ a + b = 0 := by omega
  simp [h1, h2]
theorem rowsM_up {p : Pr} {a : Int} (h0 : p.eq = none) (hu : p.up = some a) (hl : p.lo = none) : rowsM p = ([⟨a, p.fs, false⟩], true) := by
  unfold rowsM meetM
  rw [h0, hu, hl]
  simp
theorem rowsM_lo {p : Pr} {b : Int} (h0 : p.eq = none) (hu : p.up = none) (hl : p.lo = some b) : rowsM p = ([⟨b, mulM p.fs (-1), false⟩], true) := by
  unfold rowsM meetM
  rw [h0, hu, hl]
  simp
theorem rowsM_none {p : Pr} (h0 : p.eq = none) (hu : p.up = none) (hl : p.lo = none) : rowsM p = ([], true) := by
  unfold rowsM meetM
  rw [h0, hu, hl]
  simp
theorem rowsM_cases (p : Pr) : (∃ e, p.eq = some e ∧ rowsM p = ([⟨e, p.fs, true⟩], boundM p e)) ∨ (∃ a b, p.eq = none ∧ p.up = some a ∧ p.lo = some b ∧ a + b > 0 ∧ rowsM p = ([], false)) ∨ (∃ a b, p.eq = none ∧ p.up = some a ∧ p.lo = some b ∧ a + b = 0 ∧ rowsM p = ([⟨a, p.fs, true⟩], boundM p a))
    ∨ (∃ a b, p.eq = none ∧ p.up = some a ∧ p.lo = some b ∧ a + b < 0 ∧ rowsM p = ([⟨a, p.fs, false⟩, ⟨b, mulM p.fs (-1), false⟩], true)) ∨ (∃ a, p.eq = none ∧ p.up = some a ∧ p.lo = none ∧ rowsM p = ([⟨a, p.fs, false⟩], true)) ∨ (∃ b, p.eq = none ∧ p.up = none ∧ p.lo = some b ∧ rowsM p = ([⟨b, mulM p.fs (-1), false⟩], true)) ∨ (p.eq = none ∧ p.up = none ∧ p.lo = none ∧ rowsM p = ([], true)) := by
  cases he : p.eq with
  | some e => exact .inl ⟨e, rfl, rowsM_eq he⟩
  | none =>
    right
    cases hu : p.up with
    | some a =>
      cases hl : p.lo with
      | some b =>
        rcases Int.lt_trichotomy (a + b) 0 with h | h | h
        · exact .inr (.inr (.inl ⟨a, b, rfl, rfl, rfl, h, rowsM_two he hu hl h⟩))
        · exact .inr (.inl ⟨a, b, rfl, rfl, rfl, h, rowsM_meet he hu hl h⟩)
        · exact .inl ⟨a, b, rfl, rfl, rfl, h, rowsM_bad he hu hl h⟩
      | none => exact .inr (.inr (.inr (.inl ⟨a, rfl, rfl, rfl, rowsM_up he hu hl⟩)))
    | none =>
      cases hl : p.lo with
      | some b => exact .inr (.inr (.inr (.inr (.inl ⟨b, rfl, rfl, rfl, rowsM_lo he hu hl⟩))))
      | none => exact .inr (.inr (.inr (.inr (.inr ⟨rfl, rfl, rfl, rowsM_none he hu hl⟩))))
theorem rows_good {K : Nat} {p : Pr} (h : PGood K p) : ∀ r ∈ (rowsM p).1, Good K r := by
  intro r hr
  rcases rowsM_cases p with ⟨e, h1, h2⟩ | ⟨a, b, _, _, _, _, h2⟩ | ⟨a, b, _, h1, _, _, h2⟩ | ⟨a, b, _, h1, h3, _, h2⟩ | ⟨a, _, h1, _, h2⟩ | ⟨b, _, _, h1, h2⟩ | ⟨_, _, _, h2⟩
  all_goals rw [h2] at hr
  · rw [List.mem_singleton.1 hr]
    exact ⟨h.fs, h.num e (.inr (.inr h1))⟩
  · cases hr
  · rw [List.mem_singleton.1 hr]
    exact ⟨h.fs, h.num a (.inl h1)⟩
  · rcases List.mem_cons.1 hr with hr | hr
    · rw [hr]
      exact ⟨h.fs, h.num a (.inl h1)⟩
    · rw [List.mem_singleton.1 hr]
      exact ⟨h.fs.mul, h.num b (.inr (.inl h3))⟩
  · rw [List.mem_singleton.1 hr]
    exact ⟨h.fs, h.num a (.inl h1)⟩
  · rw [List.mem_singleton.1 hr]
    exact ⟨h.fs.mul, h.num b (.inr (.inl h1))⟩
  · cases hr
theorem rowsM_len (p : Pr) : (rowsM p).1.length ≤ 2 := by
  rcases rowsM_cases p with ⟨e, h1, h2⟩ | ⟨a, b, _, _, _, _, h2⟩ | ⟨a, b, _, h1, _, _, h2⟩ | ⟨a, b, _, h1, h3, _, h2⟩ | ⟨a, _, h1, _, h2⟩ | ⟨b, _, _, h1, h2⟩ | ⟨_, _, _, h2⟩
  all_goals rw [h2]
  all_goals simp
theorem all_good {K : Nat} {ps : List (Key × Pr)} (h : ∀ e ∈ ps, PGood K e.2) : ∀ r ∈ allRows ps, Good K r := by
  intro r hr
  obtain ⟨e, he, hr2⟩ := List.mem_flatMap.1 hr
  exact rows_good (h e he) r hr2
theorem all_len : ∀ ps : List (Key × Pr), (allRows ps).length ≤ 2 * ps.length
  | [] => by simp [allRows]
  | e :: ps => by
    have h1 := all_len ps
    have h2 := rowsM_len e.2
    have e1 : allRows (e :: ps) = (rowsM e.2).1 ++ allRows ps := rfl
    rw [e1, List.length_append, List.length_cons]
    omega
end
end Go.Proofs.YtckfnbckoclhpaaGreatDoor
