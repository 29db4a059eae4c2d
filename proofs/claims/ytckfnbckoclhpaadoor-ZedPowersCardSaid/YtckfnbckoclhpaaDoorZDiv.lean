/- zed: divide by one word. -/
import Derived.Test.YtckfnbckoclhpaaDoorZed6
set_option linter.unusedVariables false
namespace Go.Proofs.YtckfnbckoclhpaaDoor
open Go.RowKit

/-- divide at sizes X and Y gives quotient and rest -/
def DivOk (X Y : Nat) : Prop := ∀ (A1 A2 : Option Addr) (n1 c1 n2 c2 : Nat) (l1 l2 : List Nat) (W : World), Sl W 1 A1 n1 c1 (wds l1) → Sl W 1 A2 n2 c2 (wds l2) → Below_ 4294967296 l1 → Below_ 4294967296 l2 → Tidy l1 → Tidy l2 → n1 ≤ 1000 → n2 ≤ 1000 → c1 ≤ maxLen → c2 ≤ maxLen → pval 4294967296 l1 = X → pval 4294967296 l2 = Y →
  Calls Tryd.prog 51 #[.slice A1 n1 c1, .slice A2 n2 c2] W fun e w' => ∃ A3 n3 c3 q A4 n4 c4 r, e = .returned (.tuple #[.slice A3 n3 c3, .slice A4 n4 c4]) ∧ Sl w' 1 A3 n3 c3 (wds q) ∧ Sl w' 1 A4 n4 c4 (wds r) ∧ n3 ≤ 2000 ∧ n4 ≤ 2000 ∧ c3 ≤ maxLen ∧ c4 ≤ maxLen ∧ Below_ 4294967296 q ∧ Below_ 4294967296 r ∧ pval 4294967296 q = X / Y ∧ pval 4294967296 r = X % Y ∧ Pu W w'

/-- divide where the first is less -/
theorem div_less (X Y : Nat) (hlt : X < Y) : DivOk X Y := by
  intro A1 A2 n1 c1 n2 c2 l1 l2 w hs1 hs2 hb1 hb2 ht1 ht2 hn1 hn2 hc1 hc2 hX hY
  have hc := compare_any A1 A2 n1 c1 n2 c2 l1 l2 w hs1 hs2 (by omega) (by omega) hb1 hb2 ht1 ht2
  rw [hX, hY, cmpN_lt hlt] at hc
  have HX := Lib.hid hX
  have HY := Lib.hid hY
  clear hX hY
  go_enter Tryd.func51, Tryd.ntmps51
  go_wp2_with fail
  refine hc.mono ?_
  rintro e w1 ⟨rfl, p1⟩
  go_wp2
  go_ret2
  exact ⟨none, 0, 0, [], A1, n1, c1, l1, rfl, Sl.nil _ _ _ _, hs1.pu p1, by omega, by omega, by simp [maxLen], hc1, Below_.nil _, hb1, by rw [Nat.div_eq_of_lt hlt]; rfl, by rw [Nat.mod_eq_of_lt hlt, HX.out], p1⟩

theorem cmpN_ge {x y : Nat} (h : y ≤ x) : ∃ s, cmpN x y = s ∧ decide (s < 0) = false := by
  rcases Nat.lt_or_eq_of_le h with h | h
  · exact ⟨1, cmpN_gt h, rfl⟩
  · subst h
    exact ⟨0, cmpN_eq _, rfl⟩
theorem one_word {l : List Nat} (ht : Tidy l) (h0 : 0 < pval 4294967296 l) (h : pval 4294967296 l < 4294967296) : l = [pval 4294967296 l] := by
  have h1 := tidy_len ht (k := 1) (by rw [Nat.pow_one]; exact h)
  match l, h1, h0 with
  | [], _, h0 => simp [pval] at h0
  | [x], _, _ => simp [pval]
  | x :: y :: t, h1, _ => simp at h1

set_option maxHeartbeats 1000000 in
set_option maxRecDepth 100000 in
/-- divide where the second is one word -/
theorem div_short (X Y : Nat) (hY0 : 0 < Y) (hY1 : Y < 4294967296) : DivOk X Y := by
  rcases Nat.lt_or_ge X Y with hlt | hge
  · exact div_less X Y hlt
  intro A1 A2 n1 c1 n2 c2 l1 l2 w hs1 hs2 hb1 hb2 ht1 ht2 hn1 hn2 hc1 hc2 hX hY
  have hc := compare_any A1 A2 n1 c1 n2 c2 l1 l2 w hs1 hs2 (by omega) (by omega) hb1 hb2 ht1 ht2
  obtain ⟨s, hs, d0⟩ := cmpN_ge hge
  rw [hX, hY, hs] at hc
  have e2 := one_word ht2 (by omega) (by omega)
  rw [hY] at e2
  subst e2
  have hl2 := hs2.wlen
  obtain rfl : n2 = 1 := hl2.symm
  obtain ⟨b, off, rfl, hbw, hcell⟩ := hs2.wat (j := 0) (x := Y) rfl
  simp only [Nat.add_zero] at hcell
  have hy64 := u64_small (a := Y) (by omega)
  have HX := Lib.hid hX
  clear hX hY hs hl2
  go_enter Tryd.func51, Tryd.ntmps51
  go_wp2_with fail
  refine hc.mono ?_
  rintro e w1 ⟨rfl, p1⟩
  have hcell1 := p1.cellv hcell
  have hbw1 : b < w1.heap.size := Nat.lt_of_lt_of_le hbw p1.size
  go_wp2_with fail
  refine (short_any A1 n1 c1 l1 Y _ (hs1.pu p1) (by omega) hb1 hY0 hY1).mono ?_
  rintro e w2 ⟨A3, n3, c3, q, rfl, hn3, hc3, hS3, hb3, ht3, hq3, p3, _⟩
  have hrlt : pval 4294967296 l1 % Y < 4294967296 := by have := Nat.mod_lt (pval 4294967296 l1) hY0; omega
  have Hq := Lib.hid hq3
  obtain ⟨R, hR⟩ : ∃ R, R = pval 4294967296 l1 % Y := ⟨_, rfl⟩
  rw [← hR] at hrlt ⊢
  have HR := Lib.hid hR
  clear hR hq3
  go_wp2_with fail
  refine (words_any R _ (by omega)).mono ?_
  rintro e w3 ⟨A4, n4, c4, r, rfl, hn4, hc4, hS4, hb4, ht4, hr4, p4⟩
  have Hr := Lib.hid hr4
  clear hr4
  go_wp2
  go_ret2
  exact ⟨A3, n3, c3, q, A4, n4, c4, r, rfl, hS3.pu p4, hS4, by omega, by omega, hc3, by simp [maxLen]; omega, hb3, hb4, by rw [Hq.out, HX.out], by rw [Hr.out, HR.out, HX.out], (p1.trans p3).trans p4⟩
end Go.Proofs.YtckfnbckoclhpaaDoor
