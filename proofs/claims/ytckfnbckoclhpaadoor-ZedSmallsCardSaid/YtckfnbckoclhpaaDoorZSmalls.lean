/- ZedSmalls, the walk. -/
import Derived.Test.YtckfnbckoclhpaaDoorZAnch
import Derived.Test.YtckfnbckoclhpaaDoorZed5
set_option linter.unusedVariables false
namespace Go.Proofs.YtckfnbckoclhpaaDoor
open Go.RowKit

theorem bitLenAux_le : ∀ f x : Nat, Lib.bitLenAux f x ≤ f
  | 0, _ => Nat.le_refl _
  | f + 1, x => by
    unfold Lib.bitLenAux
    split
    · omega
    · have := bitLenAux_le f (x / 2)
      omega
theorem bitLen_le (x : Nat) : Lib.bitLen x ≤ 64 := bitLenAux_le 64 x

theorem two_words : 18446744073709551616 ≤ (4294967296 : Nat) ^ 1000 := by
  have h := Nat.pow_le_pow_right (n := 4294967296) (by decide) (show 2 ≤ 1000 by decide)
  rwa [show (4294967296 : Nat) ^ 2 = 18446744073709551616 from rfl] at h

set_option maxHeartbeats 16000000 in
set_option maxRecDepth 100000 in
theorem smalls_walk (w : World) (m n : Int) (hm1 : -9223372036854775808 ≤ m) (hm2 : m ≤ 9223372036854775807) (hn1 : -9223372036854775808 ≤ n) (hn2 : n ≤ 9223372036854775807) :
    Calls Tryd.prog 3 #[.int .i64 m, .int .i64 n] w fun e w' => e = .returned (.bool true) ∧ Pu w w' := by
  have ha := anchor_any w
  go_enter Tryd.func3, Tryd.ntmps3
  go_wp2_with fail
  refine ha.mono ?_
  rintro e w1 ⟨rfl, p1⟩
  go_wp2_with fail
  refine (from_any m _ hm1 hm2).mono ?_
  rintro e w2 ⟨v2, rfl, h2, p2⟩
  go_wp2_with fail
  refine (from_any n _ hn1 hn2).mono ?_
  rintro e w3 ⟨v3, rfl, h3, p3⟩
  replace h2 := h2.pu p3
  have h2' := h2
  have h3' := h3
  obtain ⟨g2, A2, n2, c2, l2, rfl, -⟩ := h2'
  obtain ⟨g3, A3, n3, c3, l3, rfl, -⟩ := h3'
  obtain ⟨W3, hW3⟩ : ∃ W3, W3 = (w3.alloc (.cells #[.bool g2, .slice A2 n2 c2] 25)).alloc (.cells #[.bool g3, .slice A3 n3 c3] 25) := ⟨_, rfl⟩
  have q3 : Pu w3 W3 := by rw [hW3]; exact ((Pu.refl _).alloc _).alloc _
  have kq : Blk W3 w3.heap.size 25 #[.bool g2, .slice A2 n2 c2] := by rw [hW3]; exact (Blk.new _ _ _).alloc _
  have kr : Blk W3 (w3.heap.size + 1) 25 #[.bool g3, .slice A3 n3 c3] := by rw [hW3]; exact Blk.at_new _ _ _ (by simp)
  replace h2 := h2.pu q3
  replace h3 := h3.pu q3
  have P3 := ((p1.trans p2).trans p3).trans q3
  have hs := small_any _ m W3 h2 (by omega)
  rw [hW3] at hs
  have HW3 := Lib.hid hW3
  clear hW3 p1 p2 p3 q3
  have Hs := Lib.hid hs
  obtain ⟨M, hM⟩ : ∃ M : Nat, M = m.natAbs := ⟨_, rfl⟩
  have hcase : (decide (m < 0) = true ∧ IntKind.u64.wrap m = 18446744073709551616 - (M : Int) ∧ IntKind.u64.wrap (-(18446744073709551616 - (M : Int))) = (M : Int) ∨ decide (m < 0) = false ∧ IntKind.u64.wrap m = (M : Int) ∧ True) ∧ M < 9223372036854775809 := by
    refine ⟨?_, by omega⟩
    rcases Int.lt_or_le m 0 with h | h
    · exact .inl ⟨by simp; omega, by rw [IntKind.wrap_u64]; omega, by rw [IntKind.wrap_u64]; omega⟩
    · exact .inr ⟨by simp; omega, by rw [IntKind.wrap_u64]; omega, trivial⟩
  obtain ⟨hcase, hMb⟩ := hcase
  have hcm : (decide (m < n) = true ∧ decide (m > n) = false ∧ decide (n < m) = false ∧ Hid (cmpZ m n = -1)) ∨ (decide (m < n) = false ∧ decide (m > n) = true ∧ decide (n < m) = true ∧ Hid (cmpZ m n = 1)) ∨ (decide (m < n) = false ∧ decide (m > n) = false ∧ decide (n < m) = false ∧ Hid (cmpZ m n = 0)) := by
    rcases Int.lt_trichotomy m n with h | h | h
    · exact .inl ⟨by simp; omega, by simp; omega, by simp; omega, Lib.hid (cmpZ_lt h)⟩
    · exact .inr (.inr ⟨by simp; omega, by simp; omega, by simp; omega, Lib.hid (by unfold cmpZ; rw [if_neg (by omega), if_neg (by omega)])⟩)
    · exact .inr (.inl ⟨by simp; omega, by simp; omega, by simp; omega, Lib.hid (cmpZ_gt h)⟩)
  have hrange : (m.natAbs ≤ 4611686018427387904 ∧ decide (m ≥ -4611686018427387904) = true ∧ decide (-4611686018427387904 ≤ m) = true ∧ decide (m ≤ 4611686018427387904) = true) ∨ (¬ m.natAbs ≤ 4611686018427387904 ∧ decide (m ≥ -4611686018427387904) = false ∧ decide (-4611686018427387904 ≤ m) = false ∧ True) ∨ (¬ m.natAbs ≤ 4611686018427387904 ∧ decide (m ≥ -4611686018427387904) = true ∧ decide (-4611686018427387904 ≤ m) = true ∧ decide (m ≤ 4611686018427387904) = false) := by
    by_cases h1 : m < -4611686018427387904
    · exact .inr (.inl ⟨by omega, by simp; omega, by simp; omega, trivial⟩)
    · by_cases h2 : m ≤ 4611686018427387904
      · exact .inl ⟨by omega, by simp; omega, by simp; omega, by simp; omega⟩
      · exact .inr (.inr ⟨by omega, by simp; omega, by simp; omega, by simp; omega⟩)
  have Hm := Lib.hid (And.intro hm1 hm2)
  have Hn := Lib.hid (And.intro hn1 hn2)
  have HM := Lib.hid hM
  clear hs hM hm1 hm2 hn1 hn2 ha
  have fin : ∀ r, (if m.natAbs ≤ 4611686018427387904 then Value.tuple #[.int .i64 m, .bool true] else .tuple #[.int .i64 0, .bool false]) = r → Calls Tryd.prog 13 #[.agg #[.bool g2, .slice A2 n2 c2]] ((w3.alloc (.cells #[.bool g2, .slice A2 n2 c2] 25)).alloc (.cells #[.bool g3, .slice A3 n3 c3] 25)) fun e w' => e = .returned r ∧ Pu W3 w' := by
    intro r hr
    have := Hs.out
    rw [hr] at this
    rw [HW3.out]
    rw [← HW3.out] at this ⊢
    exact this
  have Fin := Lib.hid fin
  clear fin
  rcases hrange with ⟨hr, d1, d2, d3⟩ | ⟨hr, d1, d2, d3⟩ | ⟨hr, d1, d2, d3⟩
  all_goals
    have hs := Fin.out _ (by first | exact if_pos hr | exact if_neg hr)
    clear hr
    rcases hcase with ⟨s1, s2, s3⟩ | ⟨s1, s2, s3⟩ <;> rcases hcm with ⟨e1, e2, e3, HC⟩ | ⟨e1, e2, e3, HC⟩ | ⟨e1, e2, e3, HC⟩
    all_goals
      go_wp2_with fail
      refine hs.mono ?_
      rintro e w4 ⟨rfl, p4⟩
      replace P3 := P3.trans p4
      replace h2 := h2.pu p4
      replace h3 := h3.pu p4
      replace kq := kq.pu p4
      replace kr := kr.pu p4
      clear hs p4
      go_wp2_with fail
      go_loopw [10, 11] (fun uv kv ws => ∃ u k : Nat, uv = .int .u64 (u : Int) ∧ kv = .int .i64 (k : Int) ∧ Lib.bitLen u + k = Lib.bitLen M ∧ u < 18446744073709551616 ∧ Pu w4 ws) (fun uv _ _ => (intOf uv).toNat)
      case atStart => exact ⟨M, 0, rfl, rfl, rfl, by omega, Pu.refl _⟩
      case round =>
        obtain ⟨u, k, rfl, rfl, hk, hu, hP⟩ := hrel
        have HK := Lib.hid hk
        have hk64 : k ≤ 64 := by have := bitLen_le M; omega
        clear hk
        rcases Nat.eq_zero_or_pos u with hu0 | hu0
        · subst hu0
          have a0 : wr.cell? ⟨w3.heap.size, 0, none⟩ = some (.bool g2) := (kq.pu hP).cell 0
          have a1 : wr.cell? ⟨w3.heap.size, 1, none⟩ = some (.slice A2 n2 c2) := (kq.pu hP).cell 1
          have b0 : wr.cell? ⟨w3.heap.size + 1, 0, none⟩ = some (.bool g3) := (kr.pu hP).cell 0
          have b1 : wr.cell? ⟨w3.heap.size + 1, 1, none⟩ = some (.slice A3 n3 c3) := (kr.pu hP).cell 1
          have hcmp := cmp_any _ _ m n wr (h2.pu hP) (h3.pu hP) (Nat.lt_of_lt_of_le (show m.natAbs < 18446744073709551616 by have := Hm.out; omega) two_words) (Nat.lt_of_lt_of_le (show n.natAbs < 18446744073709551616 by have := Hn.out; omega) two_words)
          rw [HC.out] at hcmp
          go_wp2_with fail
          refine hcmp.mono ?_
          rintro e w5 ⟨rfl, p5⟩
          replace a0 : w5.cell? ⟨w3.heap.size, 0, none⟩ = some (.bool g2) := ((kq.pu hP).pu p5).cell 0
          replace a1 : w5.cell? ⟨w3.heap.size, 1, none⟩ = some (.slice A2 n2 c2) := ((kq.pu hP).pu p5).cell 1
          have hbits := bits_any _ m w5 ((h2.pu hP).pu p5) (by have := Hm.out; omega)
          have hkk : Lib.bitLen m.natAbs = k := by
            rw [← HM.out, ← HK.out, show Lib.bitLen 0 = 0 from rfl, Nat.zero_add]
          rw [hkk] at hbits
          clear hkk hcmp
          go_wp2_with fail
          refine hbits.mono ?_
          rintro e w6 ⟨rfl, p6⟩
          have PP := ((P3.trans hP).trans p5).trans p6
          go_wp2
          go_ret
          exact ⟨rfl, PP⟩
        · have f1 : decide ((u : Int) > 0) = true := by simp; omega
          have f2 : decide ((0 : Int) < (u : Int)) = true := by simp; omega
          have hw1 : IntKind.i64.wrap ((k : Int) + 1) = (k : Int) + 1 := IntWalk.i64_in _ (by omega)
          go_wp2
          go_roundw
          case rel => exact ⟨u / 2, k + 1, rfl, by go_num, by
            rw [← HK.out, Lib.bitLen_half u (by omega) hu]
            omega, by omega, hP⟩
          case measure => simp [intOf]; omega
end Go.Proofs.YtckfnbckoclhpaaDoor
