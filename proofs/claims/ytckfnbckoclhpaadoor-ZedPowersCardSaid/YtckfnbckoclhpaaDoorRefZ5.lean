/- The document's numbers: plus. The document's numbers: minus. -/
import Derived.Test.YtckfnbckoclhpaaDoorRefZ1
import Derived.Test.YtckfnbckoclhpaaDoorZed3
set_option linter.unusedVariables false
namespace Go.Proofs.YtckfnbckoclhpaaDoor
open Go.RowKit
/- The document's numbers: plus. -/
theorem dplus_step {l k os : List Nat} {j cy q r : Nat} (ho : os.length = j) (hv : pval 10 os + 10 ^ j * cy = pval 10 (l.take j) + pval 10 (k.take j)) (e : 10 * q + r = dat l j + dat k j + cy) :
    pval 10 (os ++ [r]) + 10 ^ (j + 1) * q = pval 10 (l.take (j + 1)) + pval 10 (k.take (j + 1)) := by
  rw [pval_snoc, ho, Nat.pow_succ, pval_take_dat, pval_take_dat]
  have := dsum_step hv e
  rw [Nat.mul_add] at this
  omega

set_option maxHeartbeats 2000000 in
set_option maxRecDepth 100000 in
theorem rplus_any (A C : Option Addr) (n c m d : Nat) (l k : List Nat) (w : World) (h : Sl w 1 A n c (dws l)) (g : Sl w 1 C m d (dws k)) (hn : n ≤ 10000) (hm : m ≤ 10000) (hl : Below_ 10 l) (hk : Below_ 10 k) :
    Calls Tryd.prog 56 #[.slice A n c, .slice C m d] w fun e w' => ∃ A' n' c' o, e = .returned (.slice A' n' c') ∧ n' ≤ n + m + 1 ∧ c' ≤ maxLen ∧ Sl w' 1 A' n' c' (dws o) ∧ IntAt w' A' ∧ Below_ 10 o ∧ pval 10 o = pval 10 l + pval 10 k ∧ Pu w w' := by
  have ll := h.dlen
  have lk := g.dlen
  obtain ⟨M, hM⟩ : ∃ M, M = max n m := ⟨_, rfl⟩
  have hMn : n ≤ M := by omega
  have hMm : m ≤ M := by omega
  have hMs : M ≤ n + m := by omega
  have hM4 : M = n ∨ M = m := by omega
  clear hM
  go_enter Tryd.func56, Tryd.ntmps56
  go_wp2_with fail
  go_loopw [5, 6, 7] (fun ov cv iv ws => ∃ (j cy c1 : Nat) (A1 : Option Addr) (os : List Nat), j ≤ M + 1 ∧ (j = M + 1 → cy = 0) ∧ ov = .slice A1 j c1 ∧ cv = .int .i64 (cy : Int) ∧ iv = .int .i64 (j : Int) ∧ cy ≤ 1 ∧ ws.ownsRow w.heap.size 3 1 (.slice A1 j c1) j (dws os) ∧ os.length = j ∧ Below_ 10 os ∧ pval 10 os + 10 ^ j * cy = pval 10 (l.take j) + pval 10 (k.take j) ∧ Pu w ws) (fun _ _ iv _ => M + 2 - (intOf iv).toNat)
  case atStart => exact ⟨0, 0, 0, none, [], by omega, fun _ => rfl, rfl, rfl, rfl, by omega, World.ownsRow_nil _ _ _ _, rfl, Below_.nil _, by simp [pval], Pu.refl w⟩
  case round =>
    obtain ⟨j, cy, c1, A1, os, hj, hj0, rfl, rfl, rfl, hcy, ho, hol, hob, hv, hP⟩ := hrel
    have HV := Lib.hid hv
    have HJ0 := Lib.hid hj0
    clear hv hj0
    have hsz := hP.size
    by_cases hex : M ≤ j ∧ cy = 0
    · obtain ⟨hMj, rfl⟩ := hex
      have hv0 : pval 10 os = pval 10 l + pval 10 k := by
        have := HV.out
        rw [List.take_of_length_le (by omega), List.take_of_length_le (by omega)] at this
        omega
      have Hv0 := Lib.hid hv0
      have hle := own_le ho
      have hS := Sl.of_own ho
      have hI := IntAt.of_own ho
      clear hv0 ho
      go_wp2
      go_ret
      exact ⟨A1, j, c1, rfl, by omega, hle.2, os, hS, hI, hob, Hv0.out, hP⟩
    · have hjM : j ≤ M := by
        have := HJ0.out
        omega
      have hwj : IntKind.i64.wrap ((j : Int) + 1) = (j : Int) + 1 := IntWalk.i64_in _ (by omega)
      have hx9 : dat l j ≤ 9 := by
        rcases Nat.lt_or_ge j l.length with e | e
        · rw [dat_some (List.getElem?_eq_getElem e)]
          have := hl _ (List.getElem_mem e)
          omega
        · rw [dat_none e]
          omega
      have hy9 : dat k j ≤ 9 := by
        rcases Nat.lt_or_ge j k.length with e | e
        · rw [dat_some (List.getElem?_eq_getElem e)]
          have := hk _ (List.getElem_mem e)
          omega
        · rw [dat_none e]
          omega
      obtain ⟨x, hx⟩ : ∃ x, x = dat l j := ⟨_, rfl⟩
      obtain ⟨y, hy⟩ : ∃ y, y = dat k j := ⟨_, rfl⟩
      rw [← hx] at hx9
      rw [← hy] at hy9
      have hdm := Nat.div_add_mod (x + y + cy) 10
      have hr := Nat.mod_lt (x + y + cy) (show 10 > 0 by omega)
      have hq : (x + y + cy) / 10 ≤ 1 := by omega
      have hq0 : j = M → (x + y + cy) / 10 = 0 := by
        intro e
        have h1 : dat l j = 0 := dat_none (by omega)
        have h2 : dat k j = 0 := dat_none (by omega)
        rw [hx, hy, h1, h2]
        omega
      have e1 : ((cy : Int) + (x : Int) + (y : Int)) % 10 = (((x + y + cy) % 10 : Nat) : Int) := by omega
      have e2 : ((cy : Int) + (x : Int) + (y : Int)) / 10 = (((x + y + cy) / 10 : Nat) : Int) := by omega
      have hstep : pval 10 (os ++ [(x + y + cy) % 10]) + 10 ^ (j + 1) * ((x + y + cy) / 10) = pval 10 (l.take (j + 1)) + pval 10 (k.take (j + 1)) := dplus_step hol HV.out (by rw [hdm, hx, hy])
      have Hx := Lib.hid hx
      have Hy := Lib.hid hy
      have Hstep := Lib.hid hstep
      have Hq0 := Lib.hid hq0
      clear hstep hq0 hdm
      generalize (x + y + cy) / 10 = q at *
      generalize (x + y + cy) % 10 = r at *
      have hw1 : IntKind.i64.wrap ((cy : Int) + (x : Int)) = (cy : Int) + (x : Int) := IntWalk.i64_in _ (by omega)
      have hw2 : IntKind.i64.wrap ((cy : Int) + (x : Int) + (y : Int)) = (cy : Int) + (x : Int) + (y : Int) := IntWalk.i64_in _ (by omega)
      clear hx hy
      have z0 : ((0 : Nat) : Int) = 0 := rfl
      by_cases hjn : j < n <;> by_cases hjm : j < m
      · obtain ⟨q1, o1, rfl, hq1, cx⟩ := (h.pu hP).dat (j := j) (x := x) (by rw [Hx.out, dat, List.getElem?_eq_getElem (by omega)]; rfl)
        obtain ⟨q2, o2, rfl, hq2, cyc⟩ := (g.pu hP).dat (j := j) (x := y) (by rw [Hy.out, dat, List.getElem?_eq_getElem (by omega)]; rfl)
        clear z0
        go_wp2_with (at_builtin; refine wpList_push eiInt rfl (.tmp 44) (.tmp 47) rfl #[.int .i64 (r : Int)] rfl (by simp [Value.oneCell']) rfl rfl ho (by simp [maxLen]; omega) (by omega) hsz ?_)
        intro A3 c3 w3 ho3 hg3
        have hP3 := pu_push hP ho (Nat.le_refl _) hg3
        have ho4 := own_dsnoc ho3
        clear ho hg3 ho3 hsz hP
        go_wp2
        go_roundw
        case rel => exact ⟨j + 1, q, c3, A3, os ++ [r], by omega, fun e => Hq0.out (by omega), rfl, by rw [e2], by go_num, hq, ho4, by simp [hol], hob.snoc hr, Hstep.out, hP3⟩
        case measure => simp [intOf]; omega
      · obtain ⟨q1, o1, rfl, hq1, cx⟩ := (h.pu hP).dat (j := j) (x := x) (by rw [Hx.out, dat, List.getElem?_eq_getElem (by omega)]; rfl)
        obtain rfl : y = 0 := by rw [Hy.out]; exact dat_none (by omega)
        rw [z0, Int.add_zero] at e1 e2 hw2
        clear z0
        go_wp2_with (at_builtin; refine wpList_push eiInt rfl (.tmp 44) (.tmp 47) rfl #[.int .i64 (r : Int)] rfl (by simp [Value.oneCell']) rfl rfl ho (by simp [maxLen]; omega) (by omega) hsz ?_)
        intro A3 c3 w3 ho3 hg3
        have hP3 := pu_push hP ho (Nat.le_refl _) hg3
        have ho4 := own_dsnoc ho3
        clear ho hg3 ho3 hsz hP
        go_wp2
        go_roundw
        case rel => exact ⟨j + 1, q, c3, A3, os ++ [r], by omega, fun e => Hq0.out (by omega), rfl, by rw [e2], by go_num, hq, ho4, by simp [hol], hob.snoc hr, Hstep.out, hP3⟩
        case measure => simp [intOf]; omega
      · obtain ⟨q2, o2, rfl, hq2, cyc⟩ := (g.pu hP).dat (j := j) (x := y) (by rw [Hy.out, dat, List.getElem?_eq_getElem (by omega)]; rfl)
        obtain rfl : x = 0 := by rw [Hx.out]; exact dat_none (by omega)
        rw [z0, Int.add_zero] at e1 e2 hw2
        clear z0 hw1
        go_wp2_with (at_builtin; refine wpList_push eiInt rfl (.tmp 44) (.tmp 47) rfl #[.int .i64 (r : Int)] rfl (by simp [Value.oneCell']) rfl rfl ho (by simp [maxLen]; omega) (by omega) hsz ?_)
        intro A3 c3 w3 ho3 hg3
        have hP3 := pu_push hP ho (Nat.le_refl _) hg3
        have ho4 := own_dsnoc ho3
        clear ho hg3 ho3 hsz hP
        go_wp2
        go_roundw
        case rel => exact ⟨j + 1, q, c3, A3, os ++ [r], by omega, fun e => Hq0.out (by omega), rfl, by rw [e2], by go_num, hq, ho4, by simp [hol], hob.snoc hr, Hstep.out, hP3⟩
        case measure => simp [intOf]; omega
      · obtain rfl : x = 0 := by rw [Hx.out]; exact dat_none (by omega)
        obtain rfl : y = 0 := by rw [Hy.out]; exact dat_none (by omega)
        rw [z0, Int.add_zero, Int.add_zero] at e1 e2
        have hc1 : cy = 1 := by omega
        subst hc1
        have hr1 : r = 1 := by omega
        have hq1 : q = 0 := by omega
        subst hr1 hq1
        clear z0 hw1 hw2 e1 e2
        go_wp2_with (at_builtin; refine wpList_push eiInt rfl (.tmp 44) (.tmp 47) rfl #[.int .i64 1] rfl (by simp [Value.oneCell']) rfl rfl ho (by simp [maxLen]; omega) (by omega) hsz ?_)
        intro A3 c3 w3 ho3 hg3
        have hP3 := pu_push hP ho (Nat.le_refl _) hg3
        have ho4 := own_dsnoc (r := 1) ho3
        clear ho hg3 ho3 hsz hP
        go_wp2
        go_roundw
        case rel => exact ⟨j + 1, 0, c3, A3, os ++ [1], by omega, fun _ => rfl, rfl, rfl, by go_num, hq, ho4, by simp [hol], hob.snoc hr, Hstep.out, hP3⟩
        case measure => simp [intOf]; omega

/- The document's numbers: minus. -/
theorem dminus_step {l k os : List Nat} {j b b' r : Nat} (ho : os.length = j) (hv : pval 10 os + pval 10 (k.take j) = pval 10 (l.take j) + 10 ^ j * b) (e : r + dat k j + b = dat l j + 10 * b') :
    pval 10 (os ++ [r]) + pval 10 (k.take (j + 1)) = pval 10 (l.take (j + 1)) + 10 ^ (j + 1) * b' := by
  rw [pval_snoc, ho, Nat.pow_succ, pval_take_dat, pval_take_dat]
  have h1 : 10 ^ j * (r + dat k j + b) = 10 ^ j * (dat l j + 10 * b') := by rw [e]
  rw [Nat.mul_add, Nat.mul_add, Nat.mul_add, ← Nat.mul_assoc] at h1
  omega

set_option maxHeartbeats 2000000 in
set_option maxRecDepth 100000 in
theorem rminus_any (A C : Option Addr) (n c m d : Nat) (l k : List Nat) (w : World) (h : Sl w 1 A n c (dws l)) (g : Sl w 1 C m d (dws k)) (hn : n ≤ 10000) (hm : m ≤ 10000) (hl : Below_ 10 l) (hk : Below_ 10 k) (tk : Tidy k) (hle : pval 10 k ≤ pval 10 l) :
    Calls Tryd.prog 58 #[.slice A n c, .slice C m d] w fun e w' => ∃ A' n' c' o, e = .returned (.slice A' n' c') ∧ n' ≤ n ∧ c' ≤ maxLen ∧ Sl w' 1 A' n' c' (dws o) ∧ IntAt w' A' ∧ Below_ 10 o ∧ pval 10 o = pval 10 l - pval 10 k ∧ Pu w w' := by
  have ll := h.dlen
  have lk := g.dlen
  have hmn : m ≤ n := by
    rcases Nat.lt_or_ge n m with e | e
    · have := pval_shorter (b := 10) (by omega) hl tk (by omega)
      omega
    · exact e
  go_enter Tryd.func58, Tryd.ntmps58
  go_wp2_with fail
  go_loopw [5, 6, 7] (fun ov cv iv ws => ∃ (j b c1 : Nat) (A1 : Option Addr) (os : List Nat), j ≤ n ∧ ov = .slice A1 j c1 ∧ cv = .int .i64 (-(b : Int)) ∧ iv = .int .i64 (j : Int) ∧ b ≤ 1 ∧ ws.ownsRow w.heap.size 3 1 (.slice A1 j c1) j (dws os) ∧ os.length = j ∧ Below_ 10 os ∧ pval 10 os + pval 10 (k.take j) = pval 10 (l.take j) + 10 ^ j * b ∧ Pu w ws) (fun _ _ iv _ => n - (intOf iv).toNat)
  case atStart => exact ⟨0, 0, 0, none, [], by omega, rfl, rfl, rfl, by omega, World.ownsRow_nil _ _ _ _, rfl, Below_.nil _, by simp [pval], Pu.refl w⟩
  case round =>
    obtain ⟨j, b, c1, A1, os, hj, rfl, rfl, rfl, hb1, ho, hol, hob, hv, hP⟩ := hrel
    have HV := Lib.hid hv
    clear hv
    have hsz := hP.size
    by_cases hjn : j < n
    · have hwj : IntKind.i64.wrap ((j : Int) + 1) = (j : Int) + 1 := IntWalk.i64_in _ (by omega)
      obtain ⟨x, hx⟩ : ∃ x, x = dat l j := ⟨_, rfl⟩
      obtain ⟨y, hy⟩ : ∃ y, y = dat k j := ⟨_, rfl⟩
      have hx9 : x ≤ 9 := by
        rw [hx, dat_some (List.getElem?_eq_getElem (by omega))]
        have := hl _ (List.getElem_mem (l := l) (n := j) (by omega))
        omega
      have hy9 : y ≤ 9 := by
        rw [hy]
        rcases Nat.lt_or_ge j k.length with e | e
        · rw [dat_some (List.getElem?_eq_getElem e)]
          have := hk _ (List.getElem_mem e)
          omega
        · rw [dat_none e]
          omega
      obtain ⟨q1, o1, rfl, hq1, cx⟩ := (h.pu hP).dat (j := j) (x := x) (by rw [hx, dat, List.getElem?_eq_getElem (by omega)]; rfl)
      have hw1 : IntKind.i64.wrap (-(b : Int) + (x : Int)) = -(b : Int) + (x : Int) := IntWalk.i64_in _ (by omega)
      have hw2 : IntKind.i64.wrap (-(b : Int) + (x : Int) - (y : Int)) = -(b : Int) + (x : Int) - (y : Int) := IntWalk.i64_in _ (by omega)
      have hw3 : IntKind.i64.wrap (-(b : Int) + (x : Int) - (y : Int) + 10) = -(b : Int) + (x : Int) - (y : Int) + 10 := IntWalk.i64_in _ (by omega)
      have hw4 : IntKind.i64.wrap (-(b : Int) + (x : Int) + 10) = -(b : Int) + (x : Int) + 10 := IntWalk.i64_in _ (by omega)
      have hcell : j < m → ∃ q2 o2, C = some ⟨q2, o2, none⟩ ∧ q2 < wr.heap.size ∧ wr.cell? ⟨q2, o2 + j, none⟩ = some (.int .i64 (y : Int)) := fun e => (g.pu hP).dat (j := j) (x := y) (by rw [hy, dat, List.getElem?_eq_getElem (by omega)]; rfl)
      have hy0 : ¬ j < m → y = 0 := fun e => by rw [hy]; exact dat_none (by omega)
      have hstep := fun r b' => dminus_step (b := b) (b' := b') (r := r) hol HV.out
      rw [← hx, ← hy] at hstep
      have Hstep := Lib.hid hstep
      clear hstep hx hy
      have z0 : ((0 : Nat) : Int) = 0 := rfl
      by_cases hlt : x < y + b
      · obtain ⟨r, hr⟩ : ∃ r : Nat, (r : Int) = -(b : Int) + (x : Int) - (y : Int) + 10 := ⟨x + 10 - y - b, by omega⟩
        have hr9 : r < 10 := by omega
        have hst := Hstep.out r 1 (by omega)
        have Hst := Lib.hid hst
        have Hr := Lib.hid hr
        have d1 : decide (-(b : Int) + (x : Int) - (y : Int) < 0) = true := by simp; omega
        by_cases hjm : j < m
        · obtain ⟨q2, o2, rfl, hq2, cyc⟩ := hcell hjm
          clear hcell hy0 hst Hstep z0 hr
          go_wp2_with (at_builtin; refine wpList_push eiInt rfl (.tmp 32) (.tmp 35) rfl #[.int .i64 (-(b : Int) + (x : Int) - (y : Int) + 10)] rfl (by simp [Value.oneCell']) rfl rfl ho (by simp [maxLen]; omega) (by omega) hsz ?_)
          intro A3 c3 w3 ho3 hg3
          have hP3 := pu_push hP ho (Nat.le_refl _) hg3
          rw [← Hr.out] at ho3
          have ho4 := own_dsnoc ho3
          clear ho hg3 ho3 hsz hP
          go_wp2
          go_roundw
          case rel => exact ⟨j + 1, 1, c3, A3, os ++ [r], by omega, rfl, rfl, by go_num, by omega, ho4, by simp [hol], hob.snoc hr9, Hst.out, hP3⟩
          case measure => simp [intOf]; omega
        · obtain rfl : y = 0 := hy0 hjm
          rw [z0, Int.sub_zero] at d1
          clear hcell hy0 hst Hstep hr hw2 hw3
          have Hr2 : Hid ((r : Int) = -(b : Int) + (x : Int) + 10) := Lib.hid (by have := Hr.out; omega)
          clear z0
          go_wp2_with (at_builtin; refine wpList_push eiInt rfl (.tmp 32) (.tmp 35) rfl #[.int .i64 (-(b : Int) + (x : Int) + 10)] rfl (by simp [Value.oneCell']) rfl rfl ho (by simp [maxLen]; omega) (by omega) hsz ?_)
          intro A3 c3 w3 ho3 hg3
          have hP3 := pu_push hP ho (Nat.le_refl _) hg3
          rw [← Hr2.out] at ho3
          have ho4 := own_dsnoc ho3
          clear ho hg3 ho3 hsz hP
          go_wp2
          go_roundw
          case rel => exact ⟨j + 1, 1, c3, A3, os ++ [r], by omega, rfl, rfl, by go_num, by omega, ho4, by simp [hol], hob.snoc hr9, Hst.out, hP3⟩
          case measure => simp [intOf]; omega
      · obtain ⟨r, hr⟩ : ∃ r : Nat, (r : Int) = -(b : Int) + (x : Int) - (y : Int) := ⟨x - y - b, by omega⟩
        have hr9 : r < 10 := by omega
        have hst := Hstep.out r 0 (by omega)
        have Hst := Lib.hid hst
        have Hr := Lib.hid hr
        have d1 : decide (-(b : Int) + (x : Int) - (y : Int) < 0) = false := by simp; omega
        by_cases hjm : j < m
        · obtain ⟨q2, o2, rfl, hq2, cyc⟩ := hcell hjm
          clear hcell hy0 hst Hstep z0 hr
          go_wp2_with (at_builtin; refine wpList_push eiInt rfl (.tmp 37) (.tmp 39) rfl #[.int .i64 (-(b : Int) + (x : Int) - (y : Int))] rfl (by simp [Value.oneCell']) rfl rfl ho (by simp [maxLen]; omega) (by omega) hsz ?_)
          intro A3 c3 w3 ho3 hg3
          have hP3 := pu_push hP ho (Nat.le_refl _) hg3
          rw [← Hr.out] at ho3
          have ho4 := own_dsnoc ho3
          clear ho hg3 ho3 hsz hP
          go_wp2
          go_roundw
          case rel => exact ⟨j + 1, 0, c3, A3, os ++ [r], by omega, rfl, rfl, by go_num, by omega, ho4, by simp [hol], hob.snoc hr9, Hst.out, hP3⟩
          case measure => simp [intOf]; omega
        · obtain rfl : y = 0 := hy0 hjm
          rw [z0, Int.sub_zero] at d1
          have Hr2 : Hid ((r : Int) = -(b : Int) + (x : Int)) := Lib.hid (by have := Hr.out; omega)
          clear hcell hy0 hst Hstep hr hw2 hw3 z0
          go_wp2_with (at_builtin; refine wpList_push eiInt rfl (.tmp 37) (.tmp 39) rfl #[.int .i64 (-(b : Int) + (x : Int))] rfl (by simp [Value.oneCell']) rfl rfl ho (by simp [maxLen]; omega) (by omega) hsz ?_)
          intro A3 c3 w3 ho3 hg3
          have hP3 := pu_push hP ho (Nat.le_refl _) hg3
          rw [← Hr2.out] at ho3
          have ho4 := own_dsnoc ho3
          clear ho hg3 ho3 hsz hP
          go_wp2
          go_roundw
          case rel => exact ⟨j + 1, 0, c3, A3, os ++ [r], by omega, rfl, rfl, by go_num, by omega, ho4, by simp [hol], hob.snoc hr9, Hst.out, hP3⟩
          case measure => simp [intOf]; omega
    · obtain rfl : j = n := by omega
      have hv0 : pval 10 os = pval 10 l - pval 10 k := by
        have h1 := HV.out
        rw [List.take_of_length_le (by omega), List.take_of_length_le (by omega)] at h1
        have h2 := pval_lt hob
        rw [hol] at h2
        rcases (show b = 0 ∨ b = 1 by omega) with rfl | rfl
        · omega
        · omega
      have Hv0 := Lib.hid hv0
      have hle2 := own_le ho
      have hS := Sl.of_own ho
      have hI := IntAt.of_own ho
      clear hv0 ho
      go_wp2
      go_ret
      exact ⟨A1, j, c1, os, rfl, by omega, hle2.2, hS, hI, hob, Hv0.out, hP⟩
end Go.Proofs.YtckfnbckoclhpaaDoor
