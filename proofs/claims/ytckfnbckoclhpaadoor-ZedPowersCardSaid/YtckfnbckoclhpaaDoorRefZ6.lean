/- The document's numbers: Add. -/
import Derived.Test.YtckfnbckoclhpaaDoorRefZ2
import Derived.Test.YtckfnbckoclhpaaDoorRefZ5
import Derived.Deep.RegionHeld3
set_option linter.unusedVariables false
namespace Go.Proofs.YtckfnbckoclhpaaDoor
open Go.RowKit

theorem sign_abs_mul (z : Int) : z.sign * (z.natAbs : Int) = z := Int.sign_mul_natAbs z
theorem sign_one (z : Int) (h : z ≠ 0) : z.sign = 1 ∨ z.sign = -1 := by
  rcases Int.lt_trichotomy z 0 with h1 | h1 | h1
  · exact .inr (Int.sign_eq_neg_one_of_neg h1)
  · exact absurd h1 h
  · exact .inl (Int.sign_eq_one_of_pos h1)

theorem two_farz {w : World} {b : Nat} {u v : Value} {p : Addr} {x : Value} (hp : p.block ≠ b) (h : w.cell? p = some x) : ((w.setCell ⟨b, 0, none⟩ u).setCell ⟨b, 1, none⟩ v).cell? p = some x := ((Fr.one w b 0 u).trans (Fr.one _ b 1 v)).cellv h hp

set_option maxHeartbeats 4000000 in
set_option maxRecDepth 100000 in
theorem radd_any (v1 v2 : Value) (z1 z2 : Int) (w : World) (h1 : RZ w v1 z1) (h2 : RZ w v2 z2) (b1 : z1.natAbs < 10 ^ 200) (b2 : z2.natAbs < 10 ^ 200) :
    Calls Tryd.prog 25 #[v1, v2] w fun e w' => ∃ v', e = .returned v' ∧ RZ w' v' (z1 + z2) ∧ Pu w w' := by
  have h1' := h1
  have h2' := h2
  obtain ⟨A1, n1, c1, l1, rfl, hs1, hb1, ht1, hv1, hc1, hI1⟩ := h1
  obtain ⟨A2, n2, c2, l2, rfl, hs2, hb2, ht2, hv2, hc2, hI2⟩ := h2
  have hn1 := tidy_len10 ht1 (k := 200) (by rw [hv1]; exact b1)
  have hn2 := tidy_len10 ht2 (k := 200) (by rw [hv2]; exact b2)
  rw [hs1.dlen] at hn1
  rw [hs2.dlen] at hn2
  obtain ⟨s1, e1⟩ : ∃ s1, s1 = z1.sign := ⟨_, rfl⟩
  obtain ⟨s2, e2⟩ : ∃ s2, s2 = z2.sign := ⟨_, rfl⟩
  rw [← e1, ← e2]
  obtain ⟨W, hWe⟩ : ∃ W, W = ((w.alloc (.cells #[.int .i64 s1, .slice A1 n1 c1] 39)).alloc (.cells #[.int .i64 s2, .slice A2 n2 c2] 39)).alloc (.cells #[.int .i64 0, .slice none 0 0] 39) := ⟨_, rfl⟩
  have hW : Pu w W := by
    rw [hWe]
    exact (((Pu.refl w).alloc _).alloc _).alloc _
  have k1 : Blk W w.heap.size 39 #[.int .i64 s1, .slice A1 n1 c1] := by rw [hWe]; exact ((Blk.new w _ _).alloc _).alloc _
  have k2 : Blk W (w.heap.size + 1) 39 #[.int .i64 s2, .slice A2 n2 c2] := by rw [hWe]; exact (Blk.at_new _ _ _ (by simp)).alloc _
  have k3 : Blk W (w.heap.size + 2) 39 #[.int .i64 0, .slice none 0 0] := by rw [hWe]; exact Blk.at_new _ _ _ (by simp)
  have hS1 := hs1.pu hW
  have hS2 := hs2.pu hW
  have hJ1 := hI1.pu hW
  have hJ2 := hI2.pu hW
  rcases Decidable.em (z1 = 0) with hz1 | hz1
  · subst hz1
    obtain rfl : s1 = 0 := e1
    rw [← e2] at h2'
    clear hWe hW k1 k2 k3 hS1 hS2 hJ1 hJ2 e2 h1' hv1 hv2 hs1 hs2 hI1 hI2
    have PW : Pu w (((w.alloc (.cells #[.int .i64 0, .slice A1 n1 c1] 39)).alloc (.cells #[.int .i64 s2, .slice A2 n2 c2] 39)).alloc (.cells #[.int .i64 s2, .slice A2 n2 c2] 39)) := (((Pu.refl w).alloc _).alloc _).alloc _
    have kk : Blk (((w.alloc (.cells #[.int .i64 0, .slice A1 n1 c1] 39)).alloc (.cells #[.int .i64 s2, .slice A2 n2 c2] 39)).alloc (.cells #[.int .i64 s2, .slice A2 n2 c2] 39)) (w.heap.size + 2) 39 #[.int .i64 s2, .slice A2 n2 c2] := Blk.at_new _ _ _ (by simp)
    have r0 := kk.cell 0
    have r1 := kk.cell 1
    have Hf := Lib.hid (h2'.pu PW)
    clear h2'
    go_enter Tryd.func25, Tryd.ntmps25
    go_wp2
    exact bodyPost_ret (v := .agg #[.int .i64 s2, .slice A2 n2 c2]) (by simp [results, Tryd.results25, go_sem, r0, r1]) rfl ⟨_, rfl, by simpa using Hf.out, PW⟩
  · rcases Decidable.em (z2 = 0) with hz2 | hz2
    · subst hz2
      obtain rfl : s2 = 0 := e2
      have d1 : (s1 == 0) = false := by
        have := sign_one z1 hz1
        simp
        omega
      rw [← e1] at h1'
      clear hWe hW k1 k2 k3 hS1 hS2 hJ1 hJ2 e1 h2' hv1 hv2 hs1 hs2 hI1 hI2
      have PW : Pu w (((w.alloc (.cells #[.int .i64 s1, .slice A1 n1 c1] 39)).alloc (.cells #[.int .i64 0, .slice A2 n2 c2] 39)).alloc (.cells #[.int .i64 s1, .slice A1 n1 c1] 39)) := (((Pu.refl w).alloc _).alloc _).alloc _
      have kk : Blk (((w.alloc (.cells #[.int .i64 s1, .slice A1 n1 c1] 39)).alloc (.cells #[.int .i64 0, .slice A2 n2 c2] 39)).alloc (.cells #[.int .i64 s1, .slice A1 n1 c1] 39)) (w.heap.size + 2) 39 #[.int .i64 s1, .slice A1 n1 c1] := Blk.at_new _ _ _ (by simp)
      have r0 := kk.cell 0
      have r1 := kk.cell 1
      have Hf := Lib.hid (h1'.pu PW)
      clear h1'
      go_enter Tryd.func25, Tryd.ntmps25
      go_wp2
      exact bodyPost_ret (v := .agg #[.int .i64 s1, .slice A1 n1 c1]) (by simp [results, Tryd.results25, go_sem, r0, r1]) rfl ⟨_, rfl, by simpa using Hf.out, PW⟩
    · have hs1' := sign_one z1 hz1
      have hs2' := sign_one z2 hz2
      rw [← e1] at hs1'
      rw [← e2] at hs2'
      have d1 : (s1 == 0) = false := by simp; omega
      have d2 : (s2 == 0) = false := by simp; omega
      have m1 := sign_abs_mul z1
      have m2 := sign_abs_mul z2
      rw [← e1] at m1
      rw [← e2] at m2
      by_cases hss : s1 = s2
      · subst hss
        have d3 : (s1 == s1) = true := by simp
        have hz : s1 * (((z1.natAbs + z2.natAbs : Nat)) : Int) = z1 + z2 := by
          rw [Int.natCast_add, Int.mul_add, m1, m2]
        have HWe := Lib.hid hWe
        have Hz := Lib.hid hz
        have hV := Lib.hid (And.intro hv1 hv2)
        clear hWe hz m1 m2 e1 e2 hv1 hv2 h1' h2' hs1 hs2 hI1 hI2
        have hP : Pu W (((w.alloc (.cells #[.int .i64 s1, .slice A1 n1 c1] 39)).alloc (.cells #[.int .i64 s1, .slice A2 n2 c2] 39)).alloc (.cells #[.int .i64 0, .slice none 0 0] 39)).drew := by rw [← HWe.out]; exact (Pu.refl W).drew
        go_enter Tryd.func25, Tryd.ntmps25
        go_wp2_with fail
        go_region_held3 (fun u => u.cell? ⟨w.heap.size, 0, none⟩ = some (.int .i64 s1) ∧ u.cell? ⟨w.heap.size, 1, none⟩ = some (.slice A1 n1 c1) ∧ u.cell? ⟨w.heap.size + 1, 0, none⟩ = some (.int .i64 s1) ∧ u.cell? ⟨w.heap.size + 1, 1, none⟩ = some (.slice A2 n2 c2))
          (first | exact ⟨(k1.pu hP).cell 0, (k1.pu hP).cell 1, (k2.pu hP).cell 0, (k2.pu hP).cell 1⟩ | exact ⟨two_farz (by dsimp; omega) ((k1.pu hP).cell 0), two_farz (by dsimp; omega) ((k1.pu hP).cell 1), two_farz (by dsimp; omega) ((k2.pu hP).cell 0), two_farz (by dsimp; omega) ((k2.pu hP).cell 1)⟩ | go_keep)
          (first
            | (go_at_call 56; refine (rplus_any A1 A2 n1 c1 n2 c2 l1 l2 _ (hS1.pu hP) (hS2.pu hP) (by omega) (by omega) hb1 hb2).mono ?_; rintro e u1 ⟨A3, n3, c3, o, rfl, hn3, hc3, hS3, hI3, hb3, hv3, p3⟩; replace hP := hP.trans p3)
            | (go_at_call 47; refine (rmade_any s1 A3 n3 c3 o _ hS3 (by omega) hc3 hb3 hI3 (by omega)).mono ?_; rintro e u2 ⟨vr, rfl, hzr, p4⟩; replace hP := hP.trans p4; obtain ⟨zr, hzr0⟩ : ∃ zr : Int, zr = s1 * ((pval 10 o : Nat) : Int) := ⟨_, rfl⟩; rw [← hzr0] at hzr; have HZ := Lib.hid hzr0; clear hzr0; have hzr2 := hzr; obtain ⟨A4, n4, c4, l4, rfl, -⟩ := hzr2; have t0 : _ = some (Value.int .i64 0) := (k3.pu hP).cell 0; have t1 : _ = some (Value.slice none 0 0) := (k3.pu hP).cell 1; have g0 := (k3.pu hP).frozen 0; have g1 := (k3.pu hP).frozen 1))
        have hzf : zr = z1 + z2 := by
          rw [HZ.out]
          rw [hv3, hV.out.1, hV.out.2]
          exact Hz.out
        subst hzf
        obtain ⟨r0, r1, rp, rf⟩ := store_rz (k3.pu hP) (z1 + z2).sign A4 n4 c4
        have rz := rf _ _ hzr
        have PP := rp _ (hW.trans hP) (by omega)
        go_wp2
        exact bodyPost_ret (v := .agg #[.int .i64 (z1 + z2).sign, .slice A4 n4 c4]) (by simp [results, Tryd.results25, go_sem, r0, r1]) rfl ⟨_, rfl, rz, PP⟩
      · have d3 : (s1 == s2) = false := by simp; omega
        have hs12 : s2 = -s1 := by omega
        have hcmp := rcompare_any A1 A2 n1 c1 n2 c2 l1 l2 W hS1 hS2 (by omega) (by omega) hb1 hb2 ht1 ht2
        rw [hv1, hv2] at hcmp
        rcases Nat.lt_or_ge z1.natAbs z2.natAbs with hlt | hge
        · rw [cmpN_lt hlt, hWe] at hcmp
          have hz : s2 * (((z2.natAbs - z1.natAbs : Nat)) : Int) = z1 + z2 := by
            rw [Int.natCast_sub (by omega), Int.mul_sub, m2, hs12, Int.neg_mul, m1]
            omega
          have hz' : s2 * (((pval 10 l2 - pval 10 l1 : Nat)) : Int) = z1 + z2 := by rw [hv1, hv2]; exact hz
          have HWe := Lib.hid hWe
          have Hz := Lib.hid hz
          have hV := Lib.hid (And.intro hv2 hv1)
          have hle : pval 10 l1 ≤ pval 10 l2 := by omega
          have Hcmp := Lib.hid hcmp
          clear hWe hz hz' m1 m2 e1 e2 hv1 hv2 h1' h2' hs1 hs2 hI1 hI2 hcmp hs12
          go_enter Tryd.func25, Tryd.ntmps25
          go_wp2_with fail
          refine Hcmp.out.mono ?_
          rintro e w1 ⟨rfl, p1⟩
          rw [← HWe.out] at p1
          have q10 : w1.cell? ⟨w.heap.size, 0, none⟩ = some (.int .i64 s1) := (k1.pu p1).cell 0
          have hP : Pu W w1.drew := p1.drew
          go_wp2_with fail
          go_region_held3 (fun u => u.cell? ⟨w.heap.size, 0, none⟩ = some (.int .i64 s1) ∧ u.cell? ⟨w.heap.size, 1, none⟩ = some (.slice A1 n1 c1) ∧ u.cell? ⟨w.heap.size + 1, 0, none⟩ = some (.int .i64 s2) ∧ u.cell? ⟨w.heap.size + 1, 1, none⟩ = some (.slice A2 n2 c2))
            (first | exact ⟨(k1.pu hP).cell 0, (k1.pu hP).cell 1, (k2.pu hP).cell 0, (k2.pu hP).cell 1⟩ | exact ⟨two_farz (by dsimp; omega) ((k1.pu hP).cell 0), two_farz (by dsimp; omega) ((k1.pu hP).cell 1), two_farz (by dsimp; omega) ((k2.pu hP).cell 0), two_farz (by dsimp; omega) ((k2.pu hP).cell 1)⟩ | go_keep)
            (first
              | (go_at_call 58; refine (rminus_any A2 A1 n2 c2 n1 c1 l2 l1 _ (hS2.pu hP) (hS1.pu hP) (by omega) (by omega) hb2 hb1 ht1 hle).mono ?_; rintro e u1 ⟨A3, n3, c3, o, rfl, hn3, hc3, hS3, hI3, hb3, hv3, p3⟩; replace hP := hP.trans p3)
              | (go_at_call 47; refine (rmade_any s2 A3 n3 c3 o _ hS3 (by omega) hc3 hb3 hI3 (by omega)).mono ?_; rintro e u2 ⟨vr, rfl, hzr, p4⟩; replace hP := hP.trans p4; obtain ⟨zr, hzr0⟩ : ∃ zr : Int, zr = s2 * ((pval 10 o : Nat) : Int) := ⟨_, rfl⟩; rw [← hzr0] at hzr; have HZ := Lib.hid hzr0; clear hzr0; have hzr2 := hzr; obtain ⟨A4, n4, c4, l4, rfl, -⟩ := hzr2; have t0 : _ = some (Value.int .i64 0) := (k3.pu hP).cell 0; have t1 : _ = some (Value.slice none 0 0) := (k3.pu hP).cell 1; have g0 := (k3.pu hP).frozen 0; have g1 := (k3.pu hP).frozen 1))
          have hzf : zr = z1 + z2 := by
            rw [HZ.out]
            rw [hv3, hV.out.1, hV.out.2]
            exact Hz.out
          subst hzf
          obtain ⟨r0, r1, rp, rf⟩ := store_rz (k3.pu hP) (z1 + z2).sign A4 n4 c4
          have rz := rf _ _ hzr
          have PP := rp _ (hW.trans hP) (by omega)
          go_wp2
          exact bodyPost_ret (v := .agg #[.int .i64 (z1 + z2).sign, .slice A4 n4 c4]) (by simp [results, Tryd.results25, go_sem, r0, r1]) rfl ⟨_, rfl, rz, PP⟩
        · obtain ⟨s, hse, ds⟩ : ∃ s, cmpN z1.natAbs z2.natAbs = s ∧ decide (s ≥ 0) = true ∧ decide (0 ≤ s) = true := by
            rcases Nat.lt_or_eq_of_le hge with h | h
            · exact ⟨1, cmpN_gt h, rfl, rfl⟩
            · exact ⟨0, by rw [h, cmpN_eq], rfl, rfl⟩
          obtain ⟨ds, ds2⟩ := ds
          rw [hse, hWe] at hcmp
          have hz : s1 * (((z1.natAbs - z2.natAbs : Nat)) : Int) = z1 + z2 := by
            have m3 : s1 * (z2.natAbs : Int) = -z2 := by
              rw [hs12, Int.neg_mul] at m2
              omega
            rw [Int.natCast_sub (by omega), Int.mul_sub, m1, m3]
            omega
          have HWe := Lib.hid hWe
          have Hz := Lib.hid hz
          have hV := Lib.hid (And.intro hv1 hv2)
          have hle : pval 10 l2 ≤ pval 10 l1 := by omega
          have Hcmp := Lib.hid hcmp
          clear hWe hz m1 m2 e1 e2 hv1 hv2 h1' h2' hs1 hs2 hI1 hI2 hcmp hs12 hse
          go_enter Tryd.func25, Tryd.ntmps25
          go_wp2_with fail
          refine Hcmp.out.mono ?_
          rintro e w1 ⟨rfl, p1⟩
          rw [← HWe.out] at p1
          have q10 : w1.cell? ⟨w.heap.size, 0, none⟩ = some (.int .i64 s1) := (k1.pu p1).cell 0
          have hP : Pu W w1.drew := p1.drew
          go_wp2_with fail
          go_region_held3 (fun u => u.cell? ⟨w.heap.size, 0, none⟩ = some (.int .i64 s1) ∧ u.cell? ⟨w.heap.size, 1, none⟩ = some (.slice A1 n1 c1) ∧ u.cell? ⟨w.heap.size + 1, 0, none⟩ = some (.int .i64 s2) ∧ u.cell? ⟨w.heap.size + 1, 1, none⟩ = some (.slice A2 n2 c2))
            (first | exact ⟨(k1.pu hP).cell 0, (k1.pu hP).cell 1, (k2.pu hP).cell 0, (k2.pu hP).cell 1⟩ | exact ⟨two_farz (by dsimp; omega) ((k1.pu hP).cell 0), two_farz (by dsimp; omega) ((k1.pu hP).cell 1), two_farz (by dsimp; omega) ((k2.pu hP).cell 0), two_farz (by dsimp; omega) ((k2.pu hP).cell 1)⟩ | go_keep)
            (first
              | (go_at_call 58; refine (rminus_any A1 A2 n1 c1 n2 c2 l1 l2 _ (hS1.pu hP) (hS2.pu hP) (by omega) (by omega) hb1 hb2 ht2 hle).mono ?_; rintro e u1 ⟨A3, n3, c3, o, rfl, hn3, hc3, hS3, hI3, hb3, hv3, p3⟩; replace hP := hP.trans p3)
              | (go_at_call 47; refine (rmade_any s1 A3 n3 c3 o _ hS3 (by omega) hc3 hb3 hI3 (by omega)).mono ?_; rintro e u2 ⟨vr, rfl, hzr, p4⟩; replace hP := hP.trans p4; obtain ⟨zr, hzr0⟩ : ∃ zr : Int, zr = s1 * ((pval 10 o : Nat) : Int) := ⟨_, rfl⟩; rw [← hzr0] at hzr; have HZ := Lib.hid hzr0; clear hzr0; have hzr2 := hzr; obtain ⟨A4, n4, c4, l4, rfl, -⟩ := hzr2; have t0 : _ = some (Value.int .i64 0) := (k3.pu hP).cell 0; have t1 : _ = some (Value.slice none 0 0) := (k3.pu hP).cell 1; have g0 := (k3.pu hP).frozen 0; have g1 := (k3.pu hP).frozen 1))
          have hzf : zr = z1 + z2 := by
            rw [HZ.out]
            rw [hv3, hV.out.1, hV.out.2]
            exact Hz.out
          subst hzf
          obtain ⟨r0, r1, rp, rf⟩ := store_rz (k3.pu hP) (z1 + z2).sign A4 n4 c4
          have rz := rf _ _ hzr
          have PP := rp _ (hW.trans hP) (by omega)
          go_wp2
          exact bodyPost_ret (v := .agg #[.int .i64 (z1 + z2).sign, .slice A4 n4 c4]) (by simp [results, Tryd.results25, go_sem, r0, r1]) rfl ⟨_, rfl, rz, PP⟩
end Go.Proofs.YtckfnbckoclhpaaDoor
