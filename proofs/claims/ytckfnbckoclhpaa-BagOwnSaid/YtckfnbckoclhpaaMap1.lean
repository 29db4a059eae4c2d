/- Maps of int to int: how they lie; a key's place; Get, Len, Pairs, Copy, Keys, NewMap. -/
import Derived.Test.YtckfnbckoclhpaaProg
import Derived.Test.YtckfnbckoclhpaaPrs
import Derived.Test.YtckfnbckoclhpaaRowOps
import Derived.Deep.RegionLaw
import Derived.Deep.QuietTactic
set_option linter.unusedVariables false
namespace Go.Proofs.Ytckfnbckoclhpaa
open Go.RowKit

theorem eiPair : ElemI Try.prog 73 75 (.agg #[.int .i64 0, .int .i64 0]) 2 16 := ⟨Try.underlying73, by kernel_rfl, rfl, by decide⟩

def cmpI (x y : Int) : Int := if x < y then -1 else if y < x then 1 else 0
theorem cmpI_lt {x y : Int} (h : x < y) : cmpI x y = -1 := by simp [cmpI, h]
theorem cmpI_gt {x y : Int} (h : y < x) : cmpI x y = 1 := by
  unfold cmpI
  rw [if_neg (by omega), if_pos h]
theorem cmpI_eq {x y : Int} (h : x = y) : cmpI x y = 0 := by
  unfold cmpI
  rw [if_neg (by omega), if_neg (by omega)]

theorem isNaN_int (x : Int) (w : World) : Calls Try.prog 100 #[.int .i64 x] w fun e w' => e = .returned (.bool false) ∧ w = w' := by
  have hb : (x != x) = false := by simp
  go_enter Try.func100, Try.ntmps100
  go_wp2
  go_ret
  exact ⟨rfl, rfl⟩

theorem compare_int (x y : Int) (w : World) : Calls Try.prog 78 #[.int .i64 x, .int .i64 y] w fun e w' => e = .returned (.int .i64 (cmpI x y)) ∧ w = w' := by
  have key : ∀ z, cmpI x y = z → Calls Try.prog 78 #[.int .i64 x, .int .i64 y] w fun e w' => e = .returned (.int .i64 z) ∧ w = w' := by
    intro z hz
    rcases Int.lt_trichotomy x y with h | h | h
    · rw [cmpI_lt h] at hz
      subst hz
      have e1 : decide (x < y) = true := by simp [h]
      go_enter Try.func78, Try.ntmps78
      go_wp2_with (first | (go_at_call 100; refine (isNaN_int _ _).mono ?_; rintro e w1 ⟨rfl, rfl⟩))
      go_ret
      exact ⟨rfl, rfl⟩
    · rw [cmpI_eq h] at hz
      subst hz
      have e1 : decide (x < y) = false := by simp; omega
      have e2 : decide (y < x) = false := by simp; omega
      go_enter Try.func78, Try.ntmps78
      go_wp2_with (first | (go_at_call 100; refine (isNaN_int _ _).mono ?_; rintro e w1 ⟨rfl, rfl⟩))
      go_ret
      exact ⟨rfl, rfl⟩
    · rw [cmpI_gt h] at hz
      subst hz
      have e1 : decide (x < y) = false := by simp; omega
      have e2 : decide (y < x) = true := by simp [h]
      go_enter Try.func78, Try.ntmps78
      go_wp2_with (first | (go_at_call 100; refine (isNaN_int _ _).mono ?_; rintro e w1 ⟨rfl, rfl⟩))
      go_ret
      exact ⟨rfl, rfl⟩
  exact key _ rfl

/-- the order of find: a pair against a key -/
theorem findCmp_any (x y k : Int) (w : World) : Calls Try.prog 77 #[.agg #[.int .i64 x, .int .i64 y], .int .i64 k] w fun e w' => e = .returned (.int .i64 (cmpI x k)) ∧ Pu w w' := by
  go_enter Try.func77, Try.ntmps77
  go_wp2_with fail
  refine (compare_int x k _).mono ?_
  rintro e w1 ⟨rfl, rfl⟩
  go_wp2
  go_ret
  exact ⟨rfl, (Pu.refl w).alloc _⟩

set_option maxHeartbeats 1000000 in
set_option maxRecDepth 100000 in
theorem search_any (A : Option Addr) (n c : Nat) (l : List (Int × Int)) (k : Int) (w : World) (h : Sl w 2 A n c (prs l)) (hn : n ≤ 1000000) (hr : Rise l) :
    Calls Try.prog 76 #[.slice A n c, .int .i64 k, .func (.func 77) #[] #[]] w fun e w' =>
      e = .returned (.tuple #[.int .i64 (place l k : Int), .bool (there l k)]) ∧ Pu w w' := by
  have hl := h.prs_len
  have PS := Lib.hid (fun j p h => place_spec k l hr j p h)
  have TA := Lib.hid (fun j p (h : l[j]? = some p) e => there_at hr (k := k) h e)
  have TI := Lib.hid (there_iff hr k)
  have hpl := place_le l k
  generalize hP : place l k = P at *
  generalize hth : there l k = th at *
  clear hP hth
  go_enter Try.func76, Try.ntmps76
  go_wp2_with fail
  go_loopw [9, 10] (fun a b wr => ∃ i j : Nat, i ≤ P ∧ P ≤ j ∧ j ≤ n ∧ a = .int .i64 i ∧ b = .int .i64 j ∧ Pu w wr) (fun a b _ => (intOf b).toNat - (intOf a).toNat)
  case atStart => exact ⟨0, n, Nat.zero_le _, by omega, Nat.le_refl _, rfl, rfl, Pu.refl _⟩
  case round =>
    obtain ⟨i, j, hi, hPj, hj, rfl, rfl, hPu⟩ := hrel
    by_cases hlt : i < j
    · obtain ⟨p, hp⟩ : ∃ p, l[(i + j) / 2]? = some p := ⟨_, List.getElem?_eq_getElem (by omega)⟩
      obtain ⟨bb, off, rfl, hbw, hc1, hc2⟩ := prs_at (h.pu hPu) hp
      have ps := PS.out _ p hp
      clear hp
      obtain ⟨x, y⟩ := p
      simp only at hc1 hc2 ps
      by_cases hxk : x < k
      · have hmP := ps.2 hxk
        have e1 := cmpI_lt hxk
        clear ps hxk
        go_wp2_with fail
        refine (findCmp_any x y k _).mono ?_
        rintro e w1 ⟨rfl, h1⟩
        rw [e1]
        have hP1 := hPu.trans h1
        clear e1 hc1 hc2 hPu
        go_wp2
        go_roundw
        case rel => exact ⟨(i + j) / 2 + 1, j, by omega, hPj, hj, by go_num, rfl, hP1⟩
        case measure => simp [intOf]; omega
      · have hmP : ¬ (i + j) / 2 < P := fun h => hxk (ps.1 h)
        have e1 : decide (cmpI x k < 0) = false := by
          unfold cmpI
          rw [if_neg hxk]
          split <;> simp
        clear ps hxk
        go_wp2_with fail
        refine (findCmp_any x y k _).mono ?_
        rintro e w1 ⟨rfl, h1⟩
        have hP1 := hPu.trans h1
        clear hc1 hc2 hPu
        go_wp2
        go_roundw
        case rel => exact ⟨i, (i + j) / 2, hi, by omega, by omega, rfl, rfl, hP1⟩
        case measure => simp [intOf]; omega
    · obtain rfl : i = P := by omega
      obtain rfl : j = i := by omega
      by_cases hPn : j < n
      · obtain ⟨p, hp⟩ : ∃ p, l[j]? = some p := ⟨_, List.getElem?_eq_getElem (by omega)⟩
        obtain ⟨bb, off, rfl, hbw, hc1, hc2⟩ := prs_at (h.pu hPu) hp
        have ta := Lib.hid (fun e => TA.out j p hp e)
        have Hp := Lib.hid hp
        clear hp
        obtain ⟨x, y⟩ := p
        simp only at hc1 hc2 ta
        have key : (cmpI x k == 0) = th := by
          rcases th with _ | _
          · have hne : x ≠ k := fun e => by have := (ta.out e).1; cases this
            have hge : ¬ x < k := fun h => by have := (PS.out _ _ Hp.out).2 h; omega
            rw [cmpI_gt (by omega)]
            rfl
          · obtain ⟨u, hu⟩ := TI.out.1 rfl
            rw [Hp.out] at hu
            injection hu with hu
            injection hu with e _
            rw [cmpI_eq e]
            rfl
        clear ta
        go_wp2_with fail
        refine (findCmp_any x y k _).mono ?_
        rintro e w1 ⟨rfl, h1⟩
        have hP1 := hPu.trans h1
        clear hc1 hc2 hPu
        go_wp2
        go_ret2
        exact ⟨rfl, hP1⟩
      · have ht : th = false := by
          rcases th with _ | _
          · rfl
          · obtain ⟨u, hu⟩ := TI.out.1 rfl
            have := (List.getElem?_eq_some_iff.1 hu).1
            omega
        subst ht
        go_wp2
        go_ret2
        exact ⟨rfl, hPu⟩
end Go.Proofs.Ytckfnbckoclhpaa
