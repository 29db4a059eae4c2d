/- ZedProducts, the walk. -/
import Derived.Test.YtckfnbckoclhpaaDoorZSums
import Derived.Test.YtckfnbckoclhpaaDoorZMulW
import Derived.Test.YtckfnbckoclhpaaDoorRefZ7
import Derived.Deep.RegionHeld3
set_option linter.unusedVariables false
namespace Go.Proofs.YtckfnbckoclhpaaDoor
open Go.RowKit

theorem prod_small {x y : Int} (hx : x.natAbs < 10 ^ 60) (hy : y.natAbs < 10 ^ 60) : (x * y).natAbs < 10 ^ 120 := by
  rw [Int.natAbs_mul, show (10 : Nat) ^ 120 = 10 ^ 60 * 10 ^ 60 by rw [← Nat.pow_add]]
  exact Nat.mul_lt_mul_of_lt_of_le hx (Nat.le_of_lt hy) (Nat.pow_pos (by decide))
theorem hundred_up {n : Nat} (h : n < 10 ^ 120) (k : Nat) (hk : 13 ≤ k) : n < 4294967296 ^ k :=
  Nat.lt_of_lt_of_le (Nat.lt_of_lt_of_le h (show 10 ^ 120 ≤ 4294967296 ^ 13 by decide)) (Nat.pow_le_pow_right (by decide) hk)
theorem ten_up' {n m k : Nat} (h : n < 10 ^ m) (hk : m ≤ k) : n < 10 ^ k := Nat.lt_of_lt_of_le h (Nat.pow_le_pow_right (by decide) hk)

set_option maxHeartbeats 16000000 in
set_option maxRecDepth 100000 in
theorem products_walk (w : World) (a b : List UInt8) (ha : a.length ≤ 9223372036854775807) (hb : b.length ≤ 9223372036854775807) :
    Calls Tryd.prog 7 #[.string ⟨a.toArray⟩, .string ⟨b.toArray⟩] w fun e w' => e = .returned (.bool true) ∧ Pu w w' := by
  have hanc := anchor_any w
  have hpair := fun W => pair_any a b W ha hb
  have Hpair := Lib.hid hpair
  clear hpair
  go_enter Tryd.func7, Tryd.ntmps7
  go_wp2_with fail
  refine hanc.mono ?_
  rintro e w1 ⟨rfl, p1⟩
  go_wp2_with fail
  refine (Hpair.out _).mono ?_
  rintro e w2 ⟨x, y, u, v, rfl, hx, hy, hu, hv, p2⟩
  have P2 := p1.trans p2
  clear p1 p2 hanc Hpair
  have sa := pres_small a
  have sb := pres_small b
  obtain ⟨g1, A1, n1, c1, rfl⟩ := hx.form
  obtain ⟨g2, A2, n2, c2, rfl⟩ := hy.form
  obtain ⟨s3, A3, n3, c3, rfl⟩ := hu.form
  obtain ⟨s4, A4, n4, c4, rfl⟩ := hv.form
  generalize pres a = za at *
  generalize pres b = zb at *
  rcases Bool.eq_false_or_eq_true (good2 a b) with hg | hg
  · rw [hg]
    go_wp2_with fail
    obtain ⟨W, hWe⟩ : ∃ W, W = (((w2.alloc (.cells #[.bool g1, .slice A1 n1 c1] 25)).alloc (.cells #[.bool g2, .slice A2 n2 c2] 25)).alloc (.cells #[.int .i64 s3, .slice A3 n3 c3] 39)).alloc (.cells #[.int .i64 s4, .slice A4 n4 c4] 39) := ⟨_, rfl⟩
    have q2 : Pu w2 W := by rw [hWe]; exact ((((Pu.refl w2).alloc _).alloc _).alloc _).alloc _
    have k0 : Blk W w2.heap.size 25 #[.bool g1, .slice A1 n1 c1] := by rw [hWe]; exact (((Blk.new w2 _ _).alloc _).alloc _).alloc _
    have k1 : Blk W (w2.heap.size + 1) 25 #[.bool g2, .slice A2 n2 c2] := by rw [hWe]; exact ((Blk.at_new _ _ _ (by simp)).alloc _).alloc _
    have k2 : Blk W (w2.heap.size + 2) 39 #[.int .i64 s3, .slice A3 n3 c3] := by rw [hWe]; exact (Blk.at_new _ _ _ (by simp)).alloc _
    have k3 : Blk W (w2.heap.size + 3) 39 #[.int .i64 s4, .slice A4 n4 c4] := by rw [hWe]; exact Blk.at_new _ _ _ (by simp)
    replace hx := hx.pu q2
    replace hy := hy.pu q2
    replace hu := hu.pu q2
    replace hv := hv.pu q2
    have PW := P2.trans q2
    rw [← hWe]
    have HB := Lib.hid (And.intro sa sb)
    clear hWe q2 P2 sa sb hg
    have hP : Pu W W.drew := (Pu.refl W).drew
    go_region_held3 (fun t => t.cell? ⟨w2.heap.size, 0, none⟩ = some (.bool g1) ∧ t.cell? ⟨w2.heap.size, 1, none⟩ = some (.slice A1 n1 c1) ∧ t.cell? ⟨w2.heap.size + 1, 0, none⟩ = some (.bool g2) ∧ t.cell? ⟨w2.heap.size + 1, 1, none⟩ = some (.slice A2 n2 c2) ∧ t.cell? ⟨w2.heap.size + 2, 0, none⟩ = some (.int .i64 s3) ∧ t.cell? ⟨w2.heap.size + 2, 1, none⟩ = some (.slice A3 n3 c3) ∧ t.cell? ⟨w2.heap.size + 3, 0, none⟩ = some (.int .i64 s4) ∧ t.cell? ⟨w2.heap.size + 3, 1, none⟩ = some (.slice A4 n4 c4))
      (first | exact ⟨(k0.pu hP).cell 0, (k0.pu hP).cell 1, (k1.pu hP).cell 0, (k1.pu hP).cell 1, (k2.pu hP).cell 0, (k2.pu hP).cell 1, (k3.pu hP).cell 0, (k3.pu hP).cell 1⟩ | exact ⟨(k0.pu (hP.alloc _)).cell 0, (k0.pu (hP.alloc _)).cell 1, (k1.pu (hP.alloc _)).cell 0, (k1.pu (hP.alloc _)).cell 1, (k2.pu (hP.alloc _)).cell 0, (k2.pu (hP.alloc _)).cell 1, (k3.pu (hP.alloc _)).cell 0, (k3.pu (hP.alloc _)).cell 1⟩ | go_keep)
      (first
        | (go_at_call 30; refine (mul_any _ _ za zb _ (hx.pu hP) (hy.pu hP) (sixty_up HB.out.1 20000 (by decide)) (sixty_up HB.out.2 20000 (by decide))).mono ?_; rintro e u1 ⟨v5, rfl, h5, p5⟩; replace hP := hP.trans p5; obtain ⟨g5, A5, n5, c5, rfl⟩ := h5.form)
        | (go_at_call_of 19 A5; refine (string_any _ _ _ h5 (hundred_up (prod_small HB.out.1 HB.out.2) 1000 (by decide))).mono ?_; rintro e u2 ⟨rfl, p6⟩; replace hP := hP.trans p6)
        | (go_at_call_of 31 A4; refine (rmul_any _ _ za zb _ (hu.pu hP) (hv.pu hP) (ten_up' HB.out.1 (by decide)) (ten_up' HB.out.2 (by decide))).mono ?_; rintro e u3 ⟨v6, rfl, h6, p7⟩; replace hP := hP.trans p7; obtain ⟨s6, A6, n6, c6, rfl⟩ := h6.form)
        | (go_at_call_of 23 A6; refine (rtext_any _ _ _ h6 (ten_up' (prod_small HB.out.1 HB.out.2) (by decide))).mono ?_; rintro e u4 ⟨rfl, p8⟩; replace hP := hP.trans p8))
    have PP := PW.trans hP
    go_wp2
    go_ret
    exact ⟨rfl, PP⟩
  · rw [hg]
    have PF := (((P2.alloc (.cells #[.bool g1, .slice A1 n1 c1] 25)).alloc (.cells #[.bool g2, .slice A2 n2 c2] 25)).alloc (.cells #[.int .i64 s3, .slice A3 n3 c3] 39)).alloc (.cells #[.int .i64 s4, .slice A4 n4 c4] 39)
    clear hx hy hu hv sa sb hg P2
    go_wp2_with fail
    go_region
    all_goals
      go_wp2
      go_ret
      exact ⟨rfl, PF.drew⟩
end Go.Proofs.YtckfnbckoclhpaaDoor
