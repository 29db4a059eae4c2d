/- The document's numbers: divide. -/
import Derived.Test.YtckfnbckoclhpaaDoorRefZ7
import Derived.Test.YtckfnbckoclhpaaDoorZDiv
import Derived.Deep.LoopGhost
set_option linter.unusedVariables false
namespace Go.Proofs.YtckfnbckoclhpaaDoor
open Go.RowKit

theorem Sl.set_out {w : World} {A : Option Addr} {n c g i : Nat} {xs : List Value} (h : Sl w 1 A n c xs) (hb : Beyond (g + 1) A) (u : Value) : Sl (w.setCell ⟨g, i, .none⟩ u) 1 A n c xs :=
  h.fr (Fr.one w g i u) (fun _ b off e => by have := hb b off e; omega)
theorem IntAt.set_out {w : World} {A : Option Addr} {g i : Nat} (h : IntAt w A) (hb : Beyond (g + 1) A) (u : Value) : IntAt (w.setCell ⟨g, i, .none⟩ u) A :=
  h.fr (Fr.one w g i u) (fun b off _ _ e _ => by have := hb b off e; omega)
theorem dws_one (l : List Nat) : ∀ u ∈ dws l, u.oneCell' = true := fun u hu => by
  obtain ⟨x, _, rfl⟩ := List.mem_map.1 hu
  rfl
theorem own_one (w : World) (base x : Nat) (h : base ≤ w.heap.size) : (w.alloc (.cells #[.int .i64 (x : Int)] 3)).ownsRow base 3 1 (.slice (some ⟨w.heap.size, 0, none⟩) 1 1) 1 (dws [x]) :=
  ⟨rfl, .inr ⟨w.heap.size, 1, #[.int .i64 (x : Int)], rfl, h, heap_alloc_new w _, Nat.le_refl _, by decide, rfl, rfl⟩⟩

theorem divd_step {os : List Nat} {i kk Y R D : Nat} (h : os[i]? = some kk) (hr : Y ≤ R) (e : pval 10 os * Y + 10 ^ i * R = D) : pval 10 (os.set i (kk + 1)) * Y + 10 ^ i * (R - Y) = D := by
  have h0 := pval_set (b := 10) (kk + 1) h
  have h1 : pval 10 (os.set i (kk + 1)) = pval 10 os + 10 ^ i := by
    rw [Nat.mul_add] at h0
    omega
  rw [h1, Nat.add_mul, ← e, Nat.add_assoc, ← Nat.mul_add, Nat.add_sub_cancel' hr]
theorem divd_down {l : List Nat} {i x Y R P : Nat} (h : l[i]? = some x) (e : P * Y + 10 ^ (i + 1) * R = 10 ^ (i + 1) * pval 10 (l.drop (i + 1))) : P * Y + 10 ^ i * (x + 10 * R) = 10 ^ i * pval 10 (l.drop i) := by
  rw [drop_at h, show pval 10 (x :: l.drop (i + 1)) = x + 10 * pval 10 (l.drop (i + 1)) from rfl, Nat.mul_add, Nat.mul_add, ← Nat.mul_assoc, ← Nat.mul_assoc]
  rw [Nat.pow_succ] at e
  omega
theorem divd_fin {X Y P R : Nat} (e : P * Y + 10 ^ 0 * R = 10 ^ 0 * X) (hR : R < Y) : P = X / Y ∧ R = X % Y := by
  rw [Nat.pow_zero, Nat.one_mul, Nat.one_mul] at e
  rw [← e]
  constructor
  · rw [Nat.mul_comm, Nat.mul_add_div (by omega), Nat.div_eq_of_lt hR, Nat.add_zero]
  · rw [Nat.mul_comm, Nat.mul_add_mod, Nat.mod_eq_of_lt hR]
theorem divd_dig {kk Y R N : Nat} (e : kk * Y + R = N) (hN : N < 10 * Y) (hr : Y ≤ R) : kk + 1 < 10 := by
  rcases Nat.lt_or_ge (kk + 1) 10 with h | h
  · exact h
  · have h1 := Nat.mul_le_mul_right Y h
    rw [Nat.add_mul] at h1
    omega
/-- a number's digits -/
theorem run_field_d (σ : Int) (A : Option Addr) (n c : Nat) (w : World) : (Instr.field 39 (.agg #[.int .i64 σ, .slice A n c]) 1).run Tryd.prog w = .ok (.slice A n c) w := by kernel_rfl

set_option maxHeartbeats 1000000 in
set_option maxRecDepth 100000 in
theorem rmade_new (A : Option Addr) (n c : Nat) (l : List Nat) (w : World) (h : Sl w 1 A n c (dws l)) (hn : n ≤ 1000000) (hc : c ≤ maxLen) :
    Calls Tryd.prog 47 #[.int .i64 1, .slice A n c] w fun e w' => ∃ σ A' n' c', e = .returned (.agg #[.int .i64 σ, .slice A' n' c']) ∧ Sl w' 1 A' n' c' (dws (tidied l)) ∧ n' ≤ n ∧ c' ≤ maxLen ∧ (A' = A ∨ A' = none) ∧ Pu w w' := by
  have hl := h.dlen
  have hnc := h.2.1
  have hW : Pu w (w.alloc (.cells #[.int .i64 0, .slice none 0 0] 39)) := (Pu.refl w).alloc _
  have kA : Blk (w.alloc (.cells #[.int .i64 0, .slice none 0 0] 39)) w.heap.size 39 #[.int .i64 0, .slice none 0 0] := Blk.new _ _ _
  have hS := h.pu hW
  go_enter Tryd.func47, Tryd.ntmps47
  go_wp2_with fail
  go_loop [5] (fun i => ∃ j : Nat, j ≤ n ∧ i = .int .i64 j ∧ tidied l = tidied (l.take j)) (fun i => (intOf i).toNat)
  case atStart => exact ⟨n, Nat.le_refl _, rfl, by rw [List.take_of_length_le (by omega)]⟩
  case round =>
    obtain ⟨j, hj, rfl, ht⟩ := hrel
    have HT := Lib.hid ht
    clear ht
    rcases j with _ | k
    · have c0 : (w.alloc (.cells #[.int .i64 0, .slice none 0 0] 39)).cell? ⟨w.heap.size, 0, none⟩ = some (.int .i64 0) := kA.cell 0
      have c1 : (w.alloc (.cells #[.int .i64 0, .slice none 0 0] 39)).cell? ⟨w.heap.size, 1, none⟩ = some (.slice none 0 0) := kA.cell 1
      have e0 : tidied l = [] := by rw [HT.out]; rfl
      have E0 := Lib.hid e0
      clear e0
      go_wp2
      refine bodyPost_ret (v := .agg #[.int .i64 0, .slice none 0 0]) (by simp [results, Tryd.results47, go_sem, c0, c1]) rfl ⟨_, _, _, _, rfl, ?_, Nat.zero_le _, by simp [maxLen], .inr rfl, (Pu.refl w).alloc _⟩
      rw [E0.out]
      exact Sl.nil _ _ _ _
    · obtain ⟨x, hx⟩ : ∃ x, l[k]? = some x := ⟨_, List.getElem?_eq_getElem (by omega)⟩
      obtain ⟨b, off, rfl, hbl, hcell⟩ := hS.dat hx
      have Hx := Lib.hid hx
      clear hx
      have hw1 : IntKind.i64.wrap ((k : Int) + 1) = (k : Int) + 1 := IntWalk.i64_in _ (by omega)
      have hc63 : c ≤ 9223372036854775807 := hc
      by_cases e : x = 0
      · subst e
        go_wp2
        go_round
        case rel => exact ⟨k, by omega, by go_num, by rw [HT.out, tidied_take_succ Hx.out, if_pos rfl]⟩
        case measure => simp [intOf]
      · have hb0 : ((x : Int) == 0) = false := by simp; omega
        have e1 : tidied l = l.take (k + 1) := by rw [HT.out, tidied_take_succ Hx.out, if_neg e]
        have hlen : (tidied l).length = k + 1 := by rw [e1, List.length_take]; omega
        have fin : Sl (w.alloc (.cells #[.int .i64 1, .slice (some ⟨b, off, none⟩) (k + 1) c] 39)) 1 (some ⟨b, off, none⟩) (k + 1) c (dws (tidied l)) := by
          have hT := tidied_Dl (h.pu ((Pu.refl w).alloc (.cells #[.int .i64 1, .slice (some ⟨b, off, none⟩) (k + 1) c] 39)))
          rwa [hlen] at hT
        have kB : Blk (w.alloc (.cells #[.int .i64 1, .slice (some ⟨b, off, none⟩) (k + 1) c] 39)) w.heap.size 39 #[.int .i64 1, .slice (some ⟨b, off, none⟩) (k + 1) c] := Blk.new _ _ _
        have c0 : (w.alloc (.cells #[.int .i64 1, .slice (some ⟨b, off, none⟩) (k + 1) c] 39)).cell? ⟨w.heap.size, 0, none⟩ = some (.int .i64 1) := kB.cell 0
        have c1 : (w.alloc (.cells #[.int .i64 1, .slice (some ⟨b, off, none⟩) (k + 1) c] 39)).cell? ⟨w.heap.size, 1, none⟩ = some (.slice (some ⟨b, off, none⟩) (k + 1) c) := kB.cell 1
        have Fin := Lib.hid fin
        clear e e1 hlen fin
        go_wp2
        exact bodyPost_ret (v := .agg #[.int .i64 1, .slice (some ⟨b, off, none⟩) (k + 1) c]) (by simp [results, Tryd.results47, go_sem, c0, c1]) rfl ⟨_, _, _, _, rfl, Fin.out, by omega, hc, .inl rfl, (Pu.refl w).alloc _⟩

set_option maxHeartbeats 2000000 in
set_option maxRecDepth 100000 in
theorem rminus_new (A C : Option Addr) (n c m d : Nat) (l k : List Nat) (w : World) (h : Sl w 1 A n c (dws l)) (g : Sl w 1 C m d (dws k)) (hn : n ≤ 10000) (hm : m ≤ 10000) (hl : Below_ 10 l) (hk : Below_ 10 k) (tk : Tidy k) (hle : pval 10 k ≤ pval 10 l) :
    Calls Tryd.prog 58 #[.slice A n c, .slice C m d] w fun e w' => ∃ A' n' c' o, e = .returned (.slice A' n' c') ∧ n' ≤ n ∧ c' ≤ maxLen ∧ Sl w' 1 A' n' c' (dws o) ∧ IntAt w' A' ∧ Beyond w.heap.size A' ∧ Below_ 10 o ∧ pval 10 o = pval 10 l - pval 10 k ∧ Pu w w' := by
  have ll := h.dlen
  have lk := g.dlen
  have hmn : m ≤ n := by
    rcases Nat.lt_or_ge n m with e | e
    · have := pval_shorter (b := 10) (by omega) hl tk (by omega)
      omega
    · exact e
  go_enter Tryd.func58, Tryd.ntmps58
  go_wp2_with fail
  go_loopw [5, 6, 7] (fun ov cv iv ws => ∃ (j b c1 : Nat) (A1 : Option Addr) (os : List Nat), j ≤ n ∧ ov = .slice A1 j c1 ∧ cv = .int .i64 (-(b : Int)) ∧ iv = .int .i64 (j : Int) ∧ b ≤ 1 ∧ ws.ownsRow w.heap.size 3 1 (.slice A1 j c1) j (dws os) ∧ os.length = j ∧ Below_ 10 os ∧ pval 10 os + pval 10 (k.take j) = pval 10 (l.take j) + 10 ^ j * b ∧ Pu w ws) (fun _ _ iv _ => n - (intOf iv).toNat)
  case atStart => exact ⟨0, 0, 0, none, [], by omega, rfl, rfl, rfl, by omega, World.ownsRow_nil _ _ _ _, rfl, Below_.nil _, by simp [pval], Pu.refl w⟩
  case round =>
    obtain ⟨j, b, c1, A1, os, hj, rfl, rfl, rfl, hb1, ho, hol, hob, hv, hP⟩ := hrel
    have HV := Lib.hid hv
    clear hv
    have hsz := hP.size
    by_cases hjn : j < n
    · have hwj : IntKind.i64.wrap ((j : Int) + 1) = (j : Int) + 1 := IntWalk.i64_in _ (by omega)
      obtain ⟨x, hx⟩ : ∃ x, x = dat l j := ⟨_, rfl⟩
      obtain ⟨y, hy⟩ : ∃ y, y = dat k j := ⟨_, rfl⟩
      have hx9 : x ≤ 9 := by
        rw [hx, dat_some (List.getElem?_eq_getElem (by omega))]
        have := hl _ (List.getElem_mem (l := l) (n := j) (by omega))
        omega
      have hy9 : y ≤ 9 := by
        rw [hy]
        rcases Nat.lt_or_ge j k.length with e | e
        · rw [dat_some (List.getElem?_eq_getElem e)]
          have := hk _ (List.getElem_mem e)
          omega
        · rw [dat_none e]
          omega
      obtain ⟨q1, o1, rfl, hq1, cx⟩ := (h.pu hP).dat (j := j) (x := x) (by rw [hx, dat, List.getElem?_eq_getElem (by omega)]; rfl)
      have hw1 : IntKind.i64.wrap (-(b : Int) + (x : Int)) = -(b : Int) + (x : Int) := IntWalk.i64_in _ (by omega)
      have hw2 : IntKind.i64.wrap (-(b : Int) + (x : Int) - (y : Int)) = -(b : Int) + (x : Int) - (y : Int) := IntWalk.i64_in _ (by omega)
      have hw3 : IntKind.i64.wrap (-(b : Int) + (x : Int) - (y : Int) + 10) = -(b : Int) + (x : Int) - (y : Int) + 10 := IntWalk.i64_in _ (by omega)
      have hw4 : IntKind.i64.wrap (-(b : Int) + (x : Int) + 10) = -(b : Int) + (x : Int) + 10 := IntWalk.i64_in _ (by omega)
      have hcell : j < m → ∃ q2 o2, C = some ⟨q2, o2, none⟩ ∧ q2 < wr.heap.size ∧ wr.cell? ⟨q2, o2 + j, none⟩ = some (.int .i64 (y : Int)) := fun e => (g.pu hP).dat (j := j) (x := y) (by rw [hy, dat, List.getElem?_eq_getElem (by omega)]; rfl)
      have hy0 : ¬ j < m → y = 0 := fun e => by rw [hy]; exact dat_none (by omega)
      have hstep := fun r b' => dminus_step (b := b) (b' := b') (r := r) hol HV.out
      rw [← hx, ← hy] at hstep
      have Hstep := Lib.hid hstep
      clear hstep hx hy
      have z0 : ((0 : Nat) : Int) = 0 := rfl
      by_cases hlt : x < y + b
      · obtain ⟨r, hr⟩ : ∃ r : Nat, (r : Int) = -(b : Int) + (x : Int) - (y : Int) + 10 := ⟨x + 10 - y - b, by omega⟩
        have hr9 : r < 10 := by omega
        have hst := Hstep.out r 1 (by omega)
        have Hst := Lib.hid hst
        have Hr := Lib.hid hr
        have d1 : decide (-(b : Int) + (x : Int) - (y : Int) < 0) = true := by simp; omega
        by_cases hjm : j < m
        · obtain ⟨q2, o2, rfl, hq2, cyc⟩ := hcell hjm
          clear hcell hy0 hst Hstep z0 hr
          go_wp2_with (at_builtin; refine wpList_push eiInt rfl (.tmp 32) (.tmp 35) rfl #[.int .i64 (-(b : Int) + (x : Int) - (y : Int) + 10)] rfl (by simp [Value.oneCell']) rfl rfl ho (by simp [maxLen]; omega) (by omega) hsz ?_)
          intro A3 c3 w3 ho3 hg3
          have hP3 := pu_push hP ho (Nat.le_refl _) hg3
          rw [← Hr.out] at ho3
          have ho4 := own_dsnoc ho3
          clear ho hg3 ho3 hsz hP
          go_wp2
          go_roundw
          case rel => exact ⟨j + 1, 1, c3, A3, os ++ [r], by omega, rfl, rfl, by go_num, by omega, ho4, by simp [hol], hob.snoc hr9, Hst.out, hP3⟩
          case measure => simp [intOf]; omega
        · obtain rfl : y = 0 := hy0 hjm
          rw [z0, Int.sub_zero] at d1
          clear hcell hy0 hst Hstep hr hw2 hw3
          have Hr2 : Hid ((r : Int) = -(b : Int) + (x : Int) + 10) := Lib.hid (by have := Hr.out; omega)
          clear z0
          go_wp2_with (at_builtin; refine wpList_push eiInt rfl (.tmp 32) (.tmp 35) rfl #[.int .i64 (-(b : Int) + (x : Int) + 10)] rfl (by simp [Value.oneCell']) rfl rfl ho (by simp [maxLen]; omega) (by omega) hsz ?_)
          intro A3 c3 w3 ho3 hg3
          have hP3 := pu_push hP ho (Nat.le_refl _) hg3
          rw [← Hr2.out] at ho3
          have ho4 := own_dsnoc ho3
          clear ho hg3 ho3 hsz hP
          go_wp2
          go_roundw
          case rel => exact ⟨j + 1, 1, c3, A3, os ++ [r], by omega, rfl, rfl, by go_num, by omega, ho4, by simp [hol], hob.snoc hr9, Hst.out, hP3⟩
          case measure => simp [intOf]; omega
      · obtain ⟨r, hr⟩ : ∃ r : Nat, (r : Int) = -(b : Int) + (x : Int) - (y : Int) := ⟨x - y - b, by omega⟩
        have hr9 : r < 10 := by omega
        have hst := Hstep.out r 0 (by omega)
        have Hst := Lib.hid hst
        have Hr := Lib.hid hr
        have d1 : decide (-(b : Int) + (x : Int) - (y : Int) < 0) = false := by simp; omega
        by_cases hjm : j < m
        · obtain ⟨q2, o2, rfl, hq2, cyc⟩ := hcell hjm
          clear hcell hy0 hst Hstep z0 hr
          go_wp2_with (at_builtin; refine wpList_push eiInt rfl (.tmp 37) (.tmp 39) rfl #[.int .i64 (-(b : Int) + (x : Int) - (y : Int))] rfl (by simp [Value.oneCell']) rfl rfl ho (by simp [maxLen]; omega) (by omega) hsz ?_)
          intro A3 c3 w3 ho3 hg3
          have hP3 := pu_push hP ho (Nat.le_refl _) hg3
          rw [← Hr.out] at ho3
          have ho4 := own_dsnoc ho3
          clear ho hg3 ho3 hsz hP
          go_wp2
          go_roundw
          case rel => exact ⟨j + 1, 0, c3, A3, os ++ [r], by omega, rfl, rfl, by go_num, by omega, ho4, by simp [hol], hob.snoc hr9, Hst.out, hP3⟩
          case measure => simp [intOf]; omega
        · obtain rfl : y = 0 := hy0 hjm
          rw [z0, Int.sub_zero] at d1
          have Hr2 : Hid ((r : Int) = -(b : Int) + (x : Int)) := Lib.hid (by have := Hr.out; omega)
          clear hcell hy0 hst Hstep hr hw2 hw3 z0
          go_wp2_with (at_builtin; refine wpList_push eiInt rfl (.tmp 37) (.tmp 39) rfl #[.int .i64 (-(b : Int) + (x : Int))] rfl (by simp [Value.oneCell']) rfl rfl ho (by simp [maxLen]; omega) (by omega) hsz ?_)
          intro A3 c3 w3 ho3 hg3
          have hP3 := pu_push hP ho (Nat.le_refl _) hg3
          rw [← Hr2.out] at ho3
          have ho4 := own_dsnoc ho3
          clear ho hg3 ho3 hsz hP
          go_wp2
          go_roundw
          case rel => exact ⟨j + 1, 0, c3, A3, os ++ [r], by omega, rfl, rfl, by go_num, by omega, ho4, by simp [hol], hob.snoc hr9, Hst.out, hP3⟩
          case measure => simp [intOf]; omega
    · obtain rfl : j = n := by omega
      have hv0 : pval 10 os = pval 10 l - pval 10 k := by
        have h1 := HV.out
        rw [List.take_of_length_le (by omega), List.take_of_length_le (by omega)] at h1
        have h2 := pval_lt hob
        rw [hol] at h2
        rcases (show b = 0 ∨ b = 1 by omega) with rfl | rfl
        · omega
        · omega
      have Hv0 := Lib.hid hv0
      have hle2 := own_le ho
      have hS := Sl.of_own ho
      have hI := IntAt.of_own ho
      have hY := Beyond.own ho
      clear hv0 ho
      go_wp2
      go_ret
      exact ⟨A1, j, c1, os, rfl, by omega, hle2.2, hS, hI, hY, hob, Hv0.out, hP⟩
set_option maxHeartbeats 4000000 in
set_option maxRecDepth 100000 in
theorem rdivide_any (A C : Option Addr) (n c m d : Nat) (l k : List Nat) (w : World) (h : Sl w 1 A n c (dws l)) (g : Sl w 1 C m d (dws k)) (hn : n ≤ 1000) (hm : m ≤ 1000) (hl : Below_ 10 l) (hk : Below_ 10 k) (tk : Tidy k) (hY : 0 < pval 10 k) :
    Calls Tryd.prog 54 #[.slice A n c, .slice C m d] w fun e w' => ∃ A3 n3 c3 q A4 n4 c4 r, e = .returned (.tuple #[.slice A3 n3 c3, .slice A4 n4 c4]) ∧ Sl w' 1 A3 n3 c3 (dws q) ∧ Sl w' 1 A4 n4 c4 (dws r) ∧ n3 ≤ 1001 ∧ n4 ≤ 1001 ∧ c3 ≤ maxLen ∧ c4 ≤ maxLen ∧ Below_ 10 q ∧ Below_ 10 r ∧ IntAt w' A3 ∧ IntAt w' A4 ∧ pval 10 q = pval 10 l / pval 10 k ∧ pval 10 r = pval 10 l % pval 10 k ∧ Pu w w' := by
  have ll := h.dlen
  have lk := g.dlen
  have Hmk := Lib.hid (fun W => run_make_ints n (by omega) W)
  have hA0 := DA.made w n
  have hP0 : Pu w (w.alloc (.cells (Array.replicate n (.int .i64 0)) 3)) := (Pu.refl w).alloc _
  have hw0 : IntKind.i64.wrap ((n : Int) - 1) = (n : Int) - 1 := IntWalk.i64_in _ (by omega)
  obtain ⟨Y, hYe⟩ : ∃ Y, Y = pval 10 k := ⟨_, rfl⟩
  have HY := Lib.hid hYe
  rw [← hYe] at hY ⊢
  clear hYe
  go_enter Tryd.func54, Tryd.ntmps54
  go_wp2_with (simp only [Hmk.out])
  go_loopw [7, 8] (fun sv iv ws => ∃ (j n1 c1 : Nat) (A1 : Option Addr) (r os : List Nat), j ≤ n ∧ iv = .int .i64 ((j : Int) - 1) ∧ sv = .slice A1 n1 c1 ∧ Sl ws 1 A1 n1 c1 (dws r) ∧ Below_ 10 r ∧ Tidy r ∧ n1 ≤ 1001 ∧ c1 ≤ maxLen ∧ Beyond (w.heap.size + 1) A1 ∧ IntAt ws A1 ∧ os.length = n ∧ Below_ 10 os ∧ (∀ q, q < j → os[q]? = some 0) ∧ pval 10 r < Y ∧ pval 10 os * Y + 10 ^ j * pval 10 r = 10 ^ j * pval 10 (l.drop j) ∧ DA ws w.heap.size os ∧ Pu w ws) (fun _ iv _ => (intOf iv + 1).toNat)
  case atStart => exact ⟨n, 0, 0, none, [], List.replicate n 0, Nat.le_refl _, rfl, rfl, Sl.nil _ _ _ _, Below_.nil _, tidy_nil, by omega, by simp [maxLen], Beyond.none _, IntAt.none _, by simp, fun x hx => by rw [List.eq_of_mem_replicate hx]; omega, fun q hq => by rw [List.getElem?_replicate, if_pos hq], hY, by rw [pval_zeros, List.drop_eq_nil_of_le (by omega)]; simp [pval], hA0, hP0⟩
  case round =>
    obtain ⟨j, n1, c1, A1, r, os, hj, rfl, rfl, hS, hb, ht, hn1, hc1, hB, hI, hol, hob, hz, hR, hv, hA, hP⟩ := hrel
    have HV := Lib.hid hv
    have HZ := Lib.hid hz
    have HR := Lib.hid hR
    clear hv hz hR hA0 hP0
    rcases j with _ | i
    · have ej : ((0 : Nat) : Int) - 1 = -1 := rfl
      rw [ej]
      obtain ⟨f1, f2⟩ := divd_fin HV.out HR.out
      have HF := Lib.hid (And.intro f1 f2)
      have hAI := hA.at_
      have hAs := hA.sl (n := n) (c := n) hol.symm (Nat.le_refl _)
      clear f1 f2 hA
      go_wp2
      go_ret2
      exact ⟨_, _, _, os, _, _, _, r, rfl, hAs, hS, by omega, hn1, by simp [maxLen]; omega, hc1, hob, hb, hAI, hI, HF.out.1, HF.out.2, hP⟩
    · have ej : ((i + 1 : Nat) : Int) - 1 = (i : Int) := by omega
      rw [ej]
      obtain ⟨x, hx⟩ : ∃ x, l[i]? = some x := ⟨_, List.getElem?_eq_getElem (by omega)⟩
      have hx10 := hl x (List.mem_of_getElem? hx)
      obtain ⟨q1, o1, rfl, hq1, cx⟩ := (h.pu hP).dat hx
      have Hx := Lib.hid hx
      have hsz : w.heap.size + 1 ≤ wr.heap.size := hA.lt
      have hown := own_one wr (w.heap.size + 1) x hsz
      have hSn := hS.pu ((Pu.refl wr).alloc (.cells #[.int .i64 (x : Int)] 3))
      have hPn := hP.alloc (.cells #[.int .i64 (x : Int)] 3)
      have hAn : DA (wr.alloc (.cells #[.int .i64 (x : Int)] 3)) w.heap.size os := hA.pu ((Pu.refl wr).alloc _)
      have lr := hS.dlen
      have hi0 : (0 : Int) ≤ (i : Int) := by omega
      have hi1 : (i : Int) < (n : Int) := by omega
      clear hx hS hA hP hI
      go_wp2_with (at_builtin; refine wpList_app eiInt rfl (.tmp 23) (.tmp 24) rfl rfl rfl hown hSn (dws_one r) (by simp [maxLen]; omega) (by omega) (by simp; omega) ?_)
      intro A5 c5 w5 ho5 hg5
      have hP5 := hPn.grown hg5 (fun k hk => by have := (hown.lt k hk).1; omega)
      have hA5 : DA w5 w.heap.size os := blk_push hAn hown (Nat.lt_succ_self _) hg5
      have ho6 : w5.ownsRow (w.heap.size + 1) 3 1 (.slice A5 (1 + n1) c5) (1 + n1) (dws (x :: r)) := ho5
      have hmd := rmade_new A5 (1 + n1) c5 (x :: r) w5 (Sl.of_own ho6) (by omega) (own_le ho6).2
      have hB5 := Beyond.own ho6
      have hI5 := IntAt.of_own ho6
      have hbx : Below_ 10 (x :: r) := fun y hy => by
        rcases List.mem_cons.1 hy with e | e
        · rw [e]; exact hx10
        · exact hb y e
      have Hmd := Lib.hid hmd
      clear hg5 hown hSn hPn hAn ho5 ho6 hmd
      go_wp2_with fail
      refine Hmd.out.mono ?_
      rintro e w6 ⟨σ6, A6, n6, c6, rfl, hS6, hn6, hc6, hA6, p6⟩
      have hP6 := hP5.trans p6
      have hA7 : DA w6 w.heap.size os := hA5.pu p6
      have hB6 : Beyond (w.heap.size + 1) A6 := by
        rcases hA6 with e | e
        · rw [e]; exact hB5
        · rw [e]; exact Beyond.none _
      have hI6 : IntAt w6 A6 := by
        rcases hA6 with e | e
        · rw [e]; exact hI5.pu p6
        · rw [e]; exact IntAt.none _
      obtain ⟨N, hNe⟩ : ∃ N, N = x + 10 * pval 10 r := ⟨_, rfl⟩
      have hN : N < 10 * Y := by have := HR.out; omega
      have hval : pval 10 (tidied (x :: r)) = N := by rw [tidied_val, hNe]; rfl
      have hv2 : pval 10 os * Y + 10 ^ i * N = 10 ^ i * pval 10 (l.drop i) := by rw [hNe]; exact divd_down Hx.out HV.out
      have HN := Lib.hid (And.intro hval hv2)
      have H10 := Lib.hid hN
      have htd := tidied_tidy (x :: r)
      have hbd := tidied_below hbx
      clear hNe hN hval hv2 hA6 hB5 hI5 p6 hP5 hA5 HV HR Hmd hb ht hbx
      go_wp2_with (simp only [run_field_d])
      go_loopg [7] N (fun R sv wr => ∃ (kk n1 c1 : Nat) (A1 : Option Addr) (r os : List Nat), sv = .slice A1 n1 c1 ∧ Sl wr 1 A1 n1 c1 (dws r) ∧ Below_ 10 r ∧ Tidy r ∧ n1 ≤ 1002 ∧ c1 ≤ maxLen ∧ Beyond (w.heap.size + 1) A1 ∧ IntAt wr A1 ∧ os.length = n ∧ Below_ 10 os ∧ (∀ q, q < i → os[q]? = some 0) ∧ os[i]? = some kk ∧ pval 10 r = R ∧ kk * Y + R = N ∧ pval 10 os * Y + 10 ^ i * R = 10 ^ i * pval 10 (l.drop i) ∧ DA wr w.heap.size os ∧ Pu w wr)
      case atStart => exact ⟨0, n6, c6, A6, _, os, rfl, hS6, hbd, htd, by omega, hc6, hB6, hI6, hol, hob, fun q hq => HZ.out q (by omega), HZ.out i (by omega), HN.out.1, by omega, HN.out.2, hA7, hP6⟩
      case round =>
        obtain ⟨kk, n7, c7, A7, r7, os7, rfl, hS7, hb7, ht7, hn7, hc7, hB7, hI7, hol7, hob7, hz7, hk7, hr7, he7, hv7, hA8, hP7⟩ := hrel
        have HZ7 := Lib.hid hz7
        have HV7 := Lib.hid (And.intro hr7 (And.intro he7 hv7))
        have HK7 := Lib.hid hk7
        have hcmp := rcompare_any A7 C n7 c7 m d r7 k wr hS7 (g.pu hP7) (by omega) (by omega) hb7 hk ht7 tk
        rw [hr7, ← HY.out] at hcmp
        clear hz7 hr7 he7 hv7 hk7 hS6 hbd htd hn6 hc6 hB6 hI6 hA7 hP6 hol hob
        rcases Nat.lt_or_ge gk Y with hlt | hge
        · rw [cmpN_lt hlt] at hcmp
          have Hcmp := Lib.hid hcmp
          have Hlt := Lib.hid hlt
          have hwi : IntKind.i64.wrap ((i : Int) - 1) = (i : Int) - 1 := IntWalk.i64_in _ (by omega)
          clear hcmp hlt
          go_wp2_with fail
          refine Hcmp.out.mono ?_
          rintro e w8 ⟨rfl, p8⟩
          have hS8 := hS7.pu p8
          have hI8 := hI7.pu p8
          have hA9 := DA.pu hA8 p8
          have hP8 := hP7.trans p8
          have hln : n7 ≤ m := by
            have l7 := hS7.dlen
            rcases Nat.lt_or_ge m n7 with e | e
            · have := pval_shorter (b := 10) (by omega) hk ht7 (by omega)
              have h1 := HV7.out.1
              have h2 := HY.out
              have h3 := Hlt.out
              omega
            · exact e
          clear Hcmp hS7 hI7 hA8 hP7 p8
          go_wp2
          go_roundw
          case rel => exact ⟨i, n7, c7, A7, r7, os7, by omega, rfl, rfl, hS8, hb7, ht7, by omega, hc7, hB7, hI8, hol7, hob7, HZ7.out, by rw [HV7.out.1]; exact Hlt.out, by rw [HV7.out.1]; exact HV7.out.2.2, hA9, hP8⟩
          case measure => simp [intOf]
        · obtain ⟨s, hs, d0⟩ := cmpN_ge hge
          rw [hs] at hcmp
          have hsge : decide (s ≥ 0) = true := by
            simp at d0
            simp
            exact d0
          have hsge' : decide (0 ≤ s) = true := hsge
          have Hcmp := Lib.hid hcmp
          have Hge := Lib.hid hge
          have hmn := fun W (p : Pu wr W) => rminus_new A7 C n7 c7 m d r7 k W (hS7.pu p) (g.pu (hP7.trans p)) (by omega) (by omega) hb7 hk tk (by rw [HV7.out.1, ← HY.out]; exact hge)
          have Hmn := Lib.hid hmn
          have hkk := HK7.out
          have hg0 : ∀ W, Pu wr W → W.cell? ⟨w.heap.size, i, none⟩ = some (.int .i64 (kk : Int)) := fun W p => (DA.pu hA8 p).cell hkk
          have hk9 := divd_dig HV7.out.2.1 H10.out hge
          have hwk : IntKind.i64.wrap ((kk : Int) + 1) = (kk : Int) + 1 := IntWalk.i64_in _ (by omega)
          have HG0 := Lib.hid hg0
          clear hcmp hge hs hmn hkk d0 hg0
          go_wp2_with fail
          refine Hcmp.out.mono ?_
          rintro e w8 ⟨rfl, p8⟩
          go_wp2_with fail
          refine (Hmn.out _ p8).mono ?_
          rintro e w9 ⟨A9, n9, c9, o9, rfl, hn9, hc9, hS9, hI9, hB9, hb9, hv9, p9⟩
          have p89 := p8.trans p9
          have hmd := rmade_new A9 n9 c9 o9 w9 hS9 (by omega) hc9
          have Hmd := Lib.hid hmd
          have hsz8 : w.heap.size + 1 ≤ w8.heap.size := Nat.le_trans hA8.lt p8.size
          have hB9' := hB9.le hsz8
          have Hv9 := Lib.hid hv9
          clear hmd Hmn Hcmp p8 p9 hv9
          go_wp2_with fail
          refine Hmd.out.mono ?_
          rintro e w10 ⟨σ, A10, n10, c10, rfl, hS10, hn10, hc10, hA10, p10⟩
          have p90 := p89.trans p10
          have hg0 := HG0.out _ p90
          have hAf := DA.pu hA8 p90
          have hf0 := hAf.frozen i
          have hPf := hP7.trans p90
          have hBf : Beyond (w.heap.size + 1) A10 := by
            rcases hA10 with e | e
            · rw [e]; exact hB9'
            · rw [e]; exact Beyond.none _
          have hIf : IntAt w10 A10 := by
            rcases hA10 with e | e
            · rw [e]; exact hI9.pu p10
            · rw [e]; exact IntAt.none _
          have hAs := hAf.set_ i (kk + 1)
          have hPs := hPf.setCell (p := ⟨w.heap.size, i, none⟩) (Nat.le_refl _) (.int .i64 ((kk + 1 : Nat) : Int))
          have hSs := hS10.set_out (g := w.heap.size) (i := i) hBf (.int .i64 ((kk + 1 : Nat) : Int))
          have hIs := hIf.set_out (g := w.heap.size) (i := i) hBf (.int .i64 ((kk + 1 : Nat) : Int))
          have ekk : ((kk + 1 : Nat) : Int) = (kk : Int) + 1 := by omega
          rw [ekk] at hAs hPs hSs hIs
          have hyp : 0 < Y := hY
          clear hS9 hI9 hB9 hB9' Hmd hA10 p89 p10 p90 hAf hPf hS10 hIf hS7 hI7 hA8 hP7 HG0 hY ekk
          go_wp2_with (simp only [run_field_d])
          go_roundg (gk - Y)
          case measure => have := Hge.out; omega
          case rel => exact ⟨kk + 1, n10, c10, A10, tidied o9, os7.set i (kk + 1), rfl, hSs, tidied_below hb9, tidied_tidy _, by omega, hc10, hBf, hIs, by simp [hol7], fun y hy => by
              rcases List.mem_or_eq_of_mem_set hy with e | e
              · exact hob7 y e
              · rw [e]; exact hk9, fun q hq => by rw [List.getElem?_set, if_neg (by omega)]; exact HZ7.out q hq, by rw [List.getElem?_set, if_pos rfl, if_pos (by omega)], by rw [tidied_val, Hv9.out, HV7.out.1, HY.out], by
              have h1 := HV7.out.2.1
              have h2 := Hge.out
              rw [Nat.add_mul]
              omega, divd_step HK7.out Hge.out HV7.out.2.2, hAs, hPs⟩
end Go.Proofs.YtckfnbckoclhpaaDoor
