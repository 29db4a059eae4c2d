/- ZedDivides, the walk. -/
import Derived.Test.YtckfnbckoclhpaaDoorZProd
import Derived.Test.YtckfnbckoclhpaaDoorZDivL
import Derived.Test.YtckfnbckoclhpaaDoorRefZA
import Derived.Deep.RegionHeld3
set_option linter.unusedVariables false
namespace Go.Proofs.YtckfnbckoclhpaaDoor
open Go.RowKit

theorem div_small {x y : Int} (hx : x.natAbs < 10 ^ 60) : (x / y).natAbs < 10 ^ 61 := by
  have h := Int.natAbs_ediv x y
  have h1 := Nat.div_le_self x.natAbs y.natAbs
  split at h <;> omega
theorem mod_small {x y : Int} (hy : y.natAbs < 10 ^ 60) (h : y ≠ 0) : (x % y).natAbs < 10 ^ 61 := by
  have h1 := Int.emod_nonneg x h
  have h2 := Int.emod_lt x h
  omega
theorem nought_small (k : Nat) : (0 : Int).natAbs < 4294967296 ^ k := Nat.pow_pos (by decide)

set_option maxHeartbeats 16000000 in
set_option maxRecDepth 100000 in
theorem divides_walk (w : World) (a b : List UInt8) (ha : a.length ≤ 9223372036854775807) (hb : b.length ≤ 9223372036854775807) :
    Calls Tryd.prog 5 #[.string ⟨a.toArray⟩, .string ⟨b.toArray⟩] w fun e w' => e = .returned (.bool true) ∧ Pu w w' := by
  have hanc := anchor_any w
  have hpair := fun W => pair_any a b W ha hb
  have Hpair := Lib.hid hpair
  clear hpair
  go_enter Tryd.func5, Tryd.ntmps5
  go_wp2_with fail
  refine hanc.mono ?_
  rintro e w1 ⟨rfl, p1⟩
  go_wp2_with fail
  refine (Hpair.out _).mono ?_
  rintro e w2 ⟨x, y, u, v, rfl, hx, hy, hu, hv, p2⟩
  have P2 := p1.trans p2
  clear p1 p2 hanc Hpair
  have sa := pres_small a
  have sb := pres_small b
  obtain ⟨g1, A1, n1, c1, rfl⟩ := hx.form
  obtain ⟨g2, A2, n2, c2, rfl⟩ := hy.form
  obtain ⟨s3, A3, n3, c3, rfl, -⟩ := hu.shape
  obtain ⟨s4, A4, n4, c4, rfl, hs4⟩ := hv.shape
  generalize pres a = za at *
  generalize pres b = zb at *
  rcases Bool.eq_false_or_eq_true (good2 a b) with hg | hg
  · rw [hg]
    obtain ⟨W, hWe⟩ : ∃ W, W = (((w2.alloc (.cells #[.bool g1, .slice A1 n1 c1] 25)).alloc (.cells #[.bool g2, .slice A2 n2 c2] 25)).alloc (.cells #[.int .i64 s3, .slice A3 n3 c3] 39)).alloc (.cells #[.int .i64 s4, .slice A4 n4 c4] 39) := ⟨_, rfl⟩
    have q2 : Pu w2 W := by rw [hWe]; exact ((((Pu.refl w2).alloc _).alloc _).alloc _).alloc _
    have k0 : Blk W w2.heap.size 25 #[.bool g1, .slice A1 n1 c1] := by rw [hWe]; exact (((Blk.new w2 _ _).alloc _).alloc _).alloc _
    have k1 : Blk W (w2.heap.size + 1) 25 #[.bool g2, .slice A2 n2 c2] := by rw [hWe]; exact ((Blk.at_new _ _ _ (by simp)).alloc _).alloc _
    have k2 : Blk W (w2.heap.size + 2) 39 #[.int .i64 s3, .slice A3 n3 c3] := by rw [hWe]; exact (Blk.at_new _ _ _ (by simp)).alloc _
    have k3 : Blk W (w2.heap.size + 3) 39 #[.int .i64 s4, .slice A4 n4 c4] := by rw [hWe]; exact Blk.at_new _ _ _ (by simp)
    replace hx := hx.pu q2
    replace hy := hy.pu q2
    replace hu := hu.pu q2
    replace hv := hv.pu q2
    have PW := P2.trans q2
    rcases Decidable.em (zb = 0) with h0 | h0
    · subst h0
      obtain rfl : s4 = 0 := hs4
      have hdm := divmod_zero _ _ za W hx hy
      rw [hWe] at hdm
      have HWe := Lib.hid hWe
      clear hWe q2 P2 sa sb hg
      go_wp2_with fail
      refine hdm.mono ?_
      rintro e u1 ⟨v5, v6, rfl, h5, h6, p5⟩
      rw [← HWe.out] at p5
      obtain ⟨g5, A5, n5, c5, rfl⟩ := h5.form
      obtain ⟨g6, A6, n6, c6, rfl⟩ := h6.form
      have q5 : Pu u1 ((u1.alloc (.cells #[.bool g5, .slice A5 n5 c5] 25)).alloc (.cells #[.bool g6, .slice A6 n6 c6] 25)) := ((Pu.refl u1).alloc _).alloc _
      have z0 : ((u1.alloc (.cells #[.bool g5, .slice A5 n5 c5] 25)).alloc (.cells #[.bool g6, .slice A6 n6 c6] 25)).cell? ⟨w2.heap.size + 3, 0, none⟩ = some (.int .i64 0) := (k3.pu (p5.trans q5)).cell 0
      clear hdm hx hy hu hv k0 k1 k2 k3
      go_wp2_with fail
      refine (sign_any _ 0 _ (h5.pu q5) (nought_small 1000)).mono ?_
      rintro e u2 ⟨rfl, p6⟩
      have k6 : Blk ((u1.alloc (.cells #[.bool g5, .slice A5 n5 c5] 25)).alloc (.cells #[.bool g6, .slice A6 n6 c6] 25)) (u1.heap.size + 1) 25 #[.bool g6, .slice A6 n6 c6] := Blk.at_new _ _ _ (by simp)
      have j0 : u2.cell? ⟨u1.heap.size + 1, 0, none⟩ = some (.bool g6) := (k6.pu p6).cell 0
      have j1 : u2.cell? ⟨u1.heap.size + 1, 1, none⟩ = some (.slice A6 n6 c6) := (k6.pu p6).cell 1
      clear z0 k6
      go_wp2_with fail
      refine (sign_any _ 0 _ (h6.pu (q5.trans p6)) (nought_small 1000)).mono ?_
      rintro e u3 ⟨rfl, p7⟩
      have PP := (((PW.trans p5).trans q5).trans p6).trans p7
      go_wp2
      go_ret
      exact ⟨rfl, PP⟩
    · have hdm := divmod_any _ _ za zb W hx hy (sixty_up sa 1000 (by decide)) (sixty_up sb 1000 (by decide)) h0 (div_ok _ _ (by omega))
      rw [hWe] at hdm
      have HWe := Lib.hid hWe
      have hs40 : (s4 == 0) = false := by
        have := sign_one zb h0
        simp
        omega
      have H0 := Lib.hid h0
      clear hWe q2 P2 hg hs4
      go_wp2_with fail
      refine hdm.mono ?_
      rintro e u1 ⟨v5, v6, rfl, h5, h6, p5⟩
      rw [← HWe.out] at p5
      obtain ⟨g5, A5, n5, c5, rfl⟩ := h5.form
      obtain ⟨g6, A6, n6, c6, rfl⟩ := h6.form
      have q5 : Pu u1 ((u1.alloc (.cells #[.bool g5, .slice A5 n5 c5] 25)).alloc (.cells #[.bool g6, .slice A6 n6 c6] 25)) := ((Pu.refl u1).alloc _).alloc _
      have z0 : ((u1.alloc (.cells #[.bool g5, .slice A5 n5 c5] 25)).alloc (.cells #[.bool g6, .slice A6 n6 c6] 25)).cell? ⟨w2.heap.size + 3, 0, none⟩ = some (.int .i64 s4) := (k3.pu (p5.trans q5)).cell 0
      have z1 : ((u1.alloc (.cells #[.bool g5, .slice A5 n5 c5] 25)).alloc (.cells #[.bool g6, .slice A6 n6 c6] 25)).cell? ⟨w2.heap.size + 3, 1, none⟩ = some (.slice A4 n4 c4) := (k3.pu (p5.trans q5)).cell 1
      have y0 : ((u1.alloc (.cells #[.bool g5, .slice A5 n5 c5] 25)).alloc (.cells #[.bool g6, .slice A6 n6 c6] 25)).cell? ⟨w2.heap.size + 2, 0, none⟩ = some (.int .i64 s3) := (k2.pu (p5.trans q5)).cell 0
      have y1 : ((u1.alloc (.cells #[.bool g5, .slice A5 n5 c5] 25)).alloc (.cells #[.bool g6, .slice A6 n6 c6] 25)).cell? ⟨w2.heap.size + 2, 1, none⟩ = some (.slice A3 n3 c3) := (k2.pu (p5.trans q5)).cell 1
      clear hdm
      have k10 : Blk ((u1.alloc (.cells #[.bool g5, .slice A5 n5 c5] 25)).alloc (.cells #[.bool g6, .slice A6 n6 c6] 25)) u1.heap.size 25 #[.bool g5, .slice A5 n5 c5] := (Blk.new _ _ _).alloc _
      have k11 : Blk ((u1.alloc (.cells #[.bool g5, .slice A5 n5 c5] 25)).alloc (.cells #[.bool g6, .slice A6 n6 c6] 25)) (u1.heap.size + 1) 25 #[.bool g6, .slice A6 n6 c6] := Blk.at_new _ _ _ (by simp)
      go_wp2_with fail
      refine (rdivmod_any _ _ za zb _ (hu.pu (p5.trans q5)) (hv.pu (p5.trans q5)) (ten_up' sa (by decide)) (ten_up' sb (by decide)) H0.out).mono ?_
      rintro e u2 ⟨v7, v8, rfl, h7, h8, p7⟩
      obtain ⟨s7, A7, n7, c7, rfl, -⟩ := h7.shape
      obtain ⟨s8, A8, n8, c8, rfl, -⟩ := h8.shape
      have q7 : Pu u2 ((u2.alloc (.cells #[.int .i64 s7, .slice A7 n7 c7] 39)).alloc (.cells #[.int .i64 s8, .slice A8 n8 c8] 39)) := ((Pu.refl u2).alloc _).alloc _
      have k13 : Blk ((u2.alloc (.cells #[.int .i64 s7, .slice A7 n7 c7] 39)).alloc (.cells #[.int .i64 s8, .slice A8 n8 c8] 39)) u2.heap.size 39 #[.int .i64 s7, .slice A7 n7 c7] := (Blk.new _ _ _).alloc _
      have k14 : Blk ((u2.alloc (.cells #[.int .i64 s7, .slice A7 n7 c7] 39)).alloc (.cells #[.int .i64 s8, .slice A8 n8 c8] 39)) (u2.heap.size + 1) 39 #[.int .i64 s8, .slice A8 n8 c8] := Blk.at_new _ _ _ (by simp)
      have PV := ((PW.trans p5).trans q5).trans (p7.trans q7)
      replace h5 := h5.pu (q5.trans (p7.trans q7))
      replace h6 := h6.pu (q5.trans (p7.trans q7))
      replace h7 := h7.pu q7
      replace h8 := h8.pu q7
      have k10v := k10.pu (p7.trans q7)
      have k11v := k11.pu (p7.trans q7)
      have bq := div_small (y := zb) sa
      have br := mod_small (x := za) sb H0.out
      have HB := Lib.hid (And.intro bq br)
      clear hx hy hu hv k0 k1 k2 k3 k10 k11 z0 z1 y0 y1 bq br sa sb p5 p7 q7 PW hs40
      go_wp2_with fail
      generalize (u2.alloc (.cells #[.int .i64 s7, .slice A7 n7 c7] 39)).alloc (.cells #[.int .i64 s8, .slice A8 n8 c8] 39) = V at *
      have hP : Pu V V.drew := (Pu.refl V).drew
      go_region_held3 (fun t => t.cell? ⟨u1.heap.size, 0, none⟩ = some (.bool g5) ∧ t.cell? ⟨u1.heap.size, 1, none⟩ = some (.slice A5 n5 c5) ∧ t.cell? ⟨u1.heap.size + 1, 0, none⟩ = some (.bool g6) ∧ t.cell? ⟨u1.heap.size + 1, 1, none⟩ = some (.slice A6 n6 c6) ∧ t.cell? ⟨u2.heap.size, 0, none⟩ = some (.int .i64 s7) ∧ t.cell? ⟨u2.heap.size, 1, none⟩ = some (.slice A7 n7 c7) ∧ t.cell? ⟨u2.heap.size + 1, 0, none⟩ = some (.int .i64 s8) ∧ t.cell? ⟨u2.heap.size + 1, 1, none⟩ = some (.slice A8 n8 c8))
        (first | exact ⟨(k10v.pu hP).cell 0, (k10v.pu hP).cell 1, (k11v.pu hP).cell 0, (k11v.pu hP).cell 1, (k13.pu hP).cell 0, (k13.pu hP).cell 1, (k14.pu hP).cell 0, (k14.pu hP).cell 1⟩ | go_keep)
        (first
          | (go_at_call_of 19 A5; refine (string_any _ _ _ (h5.pu hP) (sixtyone_up HB.out.1 1000 (by decide))).mono ?_; rintro e u3 ⟨rfl, p8⟩; replace hP := hP.trans p8)
          | (go_at_call_of 19 A6; refine (string_any _ _ _ (h6.pu hP) (sixtyone_up HB.out.2 1000 (by decide))).mono ?_; rintro e u4 ⟨rfl, p8⟩; replace hP := hP.trans p8)
          | (go_at_call_of 23 A7; refine (rtext_any _ _ _ (h7.pu hP) (ten_up HB.out.1 200 (by decide))).mono ?_; rintro e u5 ⟨rfl, p8⟩; replace hP := hP.trans p8)
          | (go_at_call_of 23 A8; refine (rtext_any _ _ _ (h8.pu hP) (ten_up HB.out.2 200 (by decide))).mono ?_; rintro e u6 ⟨rfl, p8⟩; replace hP := hP.trans p8))
      have PP := PV.trans hP
      go_wp2
      go_ret
      exact ⟨rfl, PP⟩
  · rw [hg]
    have PF := (((P2.alloc (.cells #[.bool g1, .slice A1 n1 c1] 25)).alloc (.cells #[.bool g2, .slice A2 n2 c2] 25)).alloc (.cells #[.int .i64 s3, .slice A3 n3 c3] 39)).alloc (.cells #[.int .i64 s4, .slice A4 n4 c4] 39)
    clear hx hy hu hv sa sb hg P2 hs4
    go_wp2
    go_ret
    exact ⟨rfl, PF⟩
end Go.Proofs.YtckfnbckoclhpaaDoor
