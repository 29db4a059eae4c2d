/- zed: Cmp; Len32, Bits; Small. -/
import Derived.Test.YtckfnbckoclhpaaDoorZed3
import Derived.Test.YtckfnbckoclhpaaDoorShelf
set_option linter.unusedVariables false
namespace Go.Proofs.YtckfnbckoclhpaaDoor
open Go.RowKit

/-- the order of two numbers -/
def cmpZ (x y : Int) : Int := if x < y then -1 else if y < x then 1 else 0
theorem cmpZ_lt {x y : Int} (h : x < y) : cmpZ x y = -1 := by simp [cmpZ, h]
theorem cmpZ_gt {x y : Int} (h : y < x) : cmpZ x y = 1 := by
  unfold cmpZ
  rw [if_neg (by omega), if_pos h]
theorem cmpZ_nat (x y : Nat) : cmpZ (x : Int) (y : Int) = cmpN x y := by
  unfold cmpZ cmpN
  by_cases h : x < y
  · rw [if_pos (by omega), if_pos h]
  · rw [if_neg (by omega), if_neg h]
    by_cases h2 : y < x
    · rw [if_pos (by omega), if_pos h2]
    · rw [if_neg (by omega), if_neg h2]
theorem cmpZ_neg (x y : Nat) : cmpZ (-(x : Int)) (-(y : Int)) = cmpN y x := by
  unfold cmpZ cmpN
  by_cases h : y < x
  · rw [if_pos (by omega), if_pos h]
  · rw [if_neg (by omega), if_neg h]
    by_cases h2 : x < y
    · rw [if_pos (by omega), if_pos h2]
    · rw [if_neg (by omega), if_neg h2]

set_option maxHeartbeats 1000000 in
set_option maxRecDepth 100000 in
theorem cmp_any (v1 v2 : Value) (z1 z2 : Int) (w : World) (h1 : ZR w v1 z1) (h2 : ZR w v2 z2) (b1 : z1.natAbs < 4294967296 ^ 1000) (b2 : z2.natAbs < 4294967296 ^ 1000) :
    Calls Tryd.prog 14 #[v1, v2] w fun e w' => e = .returned (.int .i64 (cmpZ z1 z2)) ∧ Pu w w' := by
  obtain ⟨g1, A1, n1, c1, l1, rfl, hs1, hb1, ht1, hg1, hc1, rfl⟩ := h1
  obtain ⟨g2, A2, n2, c2, l2, rfl, hs2, hb2, ht2, hg2, hc2, rfl⟩ := h2
  rw [sgn_abs] at b1 b2
  have hn1 := tidy_len ht1 b1
  have hn2 := tidy_len ht2 b2
  have ll1 := hs1.wlen
  have ll2 := hs2.wlen
  have hW : Pu w ((w.alloc (.cells #[.bool g1, .slice A1 n1 c1] 25)).alloc (.cells #[.bool g2, .slice A2 n2 c2] 25)) := ((Pu.refl w).alloc _).alloc _
  have k12 := compare_any A1 A2 n1 c1 n2 c2 l1 l2 _ (hs1.pu hW) (hs2.pu hW) (by omega) (by omega) hb1 hb2 ht1 ht2
  have k21 := compare_any A2 A1 n2 c2 n1 c1 l2 l1 _ (hs2.pu hW) (hs1.pu hW) (by omega) (by omega) hb2 hb1 ht2 ht1
  have p1 : g1 = true → 0 < pval 4294967296 l1 := fun h => pval_pos ht1 (hg1 h)
  have p2 : g2 = true → 0 < pval 4294967296 l2 := fun h => pval_pos ht2 (hg2 h)
  have key : ∀ r, cmpZ (sgn g1 (pval 4294967296 l1)) (sgn g2 (pval 4294967296 l2)) = r → Calls Tryd.prog 14 #[.agg #[.bool g1, .slice A1 n1 c1], .agg #[.bool g2, .slice A2 n2 c2]] w fun e w' => e = .returned (.int .i64 r) ∧ Pu w w' := by
    intro r hr
    generalize pval 4294967296 l1 = P1 at *
    generalize pval 4294967296 l2 = P2 at *
    clear hb1 hb2 ht1 ht2 hg1 hg2 hs1 hs2 b1 b2
    cases g1 <;> cases g2
    · have er : r = cmpN P1 P2 := by rw [← hr]; exact cmpZ_nat P1 P2
      subst er
      clear hr p1 p2 k21
      go_enter Tryd.func14, Tryd.ntmps14
      go_wp2_with fail
      refine k12.mono ?_
      rintro e w1 ⟨rfl, h1⟩
      go_wp2
      go_ret
      exact ⟨rfl, hW.trans h1⟩
    · have h0 := p2 rfl
      obtain rfl : r = 1 := by rw [← hr]; exact cmpZ_gt (by show -(P2 : Int) < (P1 : Int); omega)
      clear hr p1 p2 k12 k21
      go_enter Tryd.func14, Tryd.ntmps14
      go_wp2_with fail
      refine (sgnf_any _ _).mono ?_
      rintro e w1 ⟨rfl, rfl⟩
      go_wp2
      go_ret
      exact ⟨rfl, hW⟩
    · have h0 := p1 rfl
      obtain rfl : r = -1 := by rw [← hr]; exact cmpZ_lt (by show -(P1 : Int) < (P2 : Int); omega)
      clear hr p1 p2 k12 k21
      go_enter Tryd.func14, Tryd.ntmps14
      go_wp2_with fail
      refine (sgnf_any _ _).mono ?_
      rintro e w1 ⟨rfl, rfl⟩
      go_wp2
      go_ret
      exact ⟨rfl, hW⟩
    · have er : r = cmpN P2 P1 := by rw [← hr]; exact cmpZ_neg P1 P2
      subst er
      clear hr p1 p2 k12
      go_enter Tryd.func14, Tryd.ntmps14
      go_wp2_with fail
      refine k21.mono ?_
      rintro e w1 ⟨rfl, h1⟩
      go_wp2
      go_ret
      exact ⟨rfl, hW.trans h1⟩
  exact key _ rfl

set_option maxRecDepth 100000 in
theorem bits_any (v : Value) (z : Int) (w : World) (h : ZR w v z) (hz : z.natAbs < 18446744073709551616) :
    Calls Tryd.prog 15 #[v] w fun e w' => e = .returned (.int .i64 (Lib.bitLen z.natAbs : Int)) ∧ Pu w w' := by
  obtain ⟨g, A, n, c, l, rfl, hs, hb, ht, hg, hc, rfl⟩ := h
  rw [sgn_abs] at hz ⊢
  have hn := tidy_len ht (k := 2) (by rw [show (4294967296 : Nat) ^ 2 = 18446744073709551616 from rfl]; exact hz)
  have hl := hs.wlen
  have hW : Pu w (w.alloc (.cells #[.bool g, .slice A n c] 25)) := (Pu.refl w).alloc _
  have hS := hs.pu hW
  rcases l with _ | ⟨x, l⟩
  · obtain rfl : n = 0 := by simpa using hl.symm
    go_enter Tryd.func15, Tryd.ntmps15
    go_wp2
    go_ret
    exact ⟨rfl, hW⟩
  · have hx := hb x (by simp)
    rcases l with _ | ⟨y, l⟩
    · obtain rfl : n = 1 := by simpa using hl.symm
      obtain ⟨b, o, rfl, hbw, hc0⟩ := hS.wat (j := 0) (x := x) rfl
      simp only [Nat.add_zero] at hc0
      have e : pval 4294967296 [x] = x := by simp [pval]
      rw [e]
      have hL := Tryd.bits_Len32 (x : Int) (w.alloc (.cells #[.bool g, .slice (some ⟨b, o, none⟩) 1 c] 25)) (by omega) (by omega)
      have hle := Lib.bitLen_le x 32 (by omega) (by rw [show (2 : Nat) ^ 32 = 4294967296 from rfl]; exact hx)
      simp only [Int.toNat_natCast] at hL
      generalize Lib.bitLen x = B at *
      have hw0 : IntKind.i64.wrap (B : Int) = (B : Int) := IntWalk.i64_in _ (by omega)
      go_enter Tryd.func15, Tryd.ntmps15
      go_wp2_with fail
      refine hL.mono ?_
      rintro e w1 ⟨rfl, rfl⟩
      go_wp2
      go_ret
      exact ⟨rfl, hW⟩
    · obtain rfl : l = [] := List.eq_nil_of_length_eq_zero (by simp at hn; exact List.length_eq_zero_iff.2 hn)
      obtain rfl : n = 2 := by simpa using hl.symm
      obtain ⟨b, o, rfl, hbw, hc0⟩ := hS.wat (j := 1) (x := y) rfl
      have hy := hb y (by simp)
      have hy0 : y ≠ 0 := by
        rintro rfl
        exact ht rfl
      have e : Lib.bitLen (pval 4294967296 [x, y]) = 32 + Lib.bitLen y := by
        have e1 : pval 4294967296 [x, y] = x + 4294967296 * y := by simp [pval]
        rw [e1, Lib.bitLen_shift32 _ (by omega) (by omega)]
        congr 2
        omega
      rw [e]
      have hL := Tryd.bits_Len32 (y : Int) (w.alloc (.cells #[.bool g, .slice (some ⟨b, o, none⟩) 2 c] 25)) (by omega) (by omega)
      have hle := Lib.bitLen_le y 32 (by omega) (by rw [show (2 : Nat) ^ 32 = 4294967296 from rfl]; exact hy)
      simp only [Int.toNat_natCast] at hL
      generalize Lib.bitLen y = B at *
      have hw0 : IntKind.i64.wrap (32 + (B : Int)) = 32 + (B : Int) := IntWalk.i64_in _ (by omega)
      go_enter Tryd.func15, Tryd.ntmps15
      go_wp2_with fail
      refine hL.mono ?_
      rintro e w1 ⟨rfl, rfl⟩
      go_wp2
      go_ret
      exact ⟨by simp, hW⟩
end Go.Proofs.YtckfnbckoclhpaaDoor
