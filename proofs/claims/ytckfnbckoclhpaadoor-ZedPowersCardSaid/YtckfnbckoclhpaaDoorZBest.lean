/- zed: Best. -/
import Derived.Test.YtckfnbckoclhpaaDoorZPow
import Derived.Test.YtckfnbckoclhpaaDoorZed4
import Derived.BigRegion
import Derived.Deep.RegionHeld3
set_option linter.unusedVariables false
namespace Go.Proofs.YtckfnbckoclhpaaDoor
open Go.RowKit

set_option maxHeartbeats 1000000 in
set_option maxRecDepth 100000 in
theorem best_none (w : World) :
    Calls Tryd.prog 37 #[.slice none 0 0] w fun e w' => e = .returned (.tuple #[.agg #[.bool false, .slice none 0 0], .agg #[.bool false, .slice none 0 0], .int .i64 14]) ∧ Pu w w' := by
  have PW : Pu w ((w.alloc (.cells #[.bool false, .slice none 0 0] 25)).alloc (.cells #[.bool false, .slice none 0 0] 25)) := ((Pu.refl w).alloc _).alloc _
  have k1 : Blk ((w.alloc (.cells #[.bool false, .slice none 0 0] 25)).alloc (.cells #[.bool false, .slice none 0 0] 25)) w.heap.size 25 #[.bool false, .slice none 0 0] := (Blk.new w _ _).alloc _
  have k2 : Blk ((w.alloc (.cells #[.bool false, .slice none 0 0] 25)).alloc (.cells #[.bool false, .slice none 0 0] 25)) (w.heap.size + 1) 25 #[.bool false, .slice none 0 0] := Blk.at_new _ _ _ (by simp)
  have r0 := k1.cell 0
  have r1 := k1.cell 1
  have r2 := k2.cell 0
  have r3 := k2.cell 1
  go_enter Tryd.func37, Tryd.ntmps37
  go_wp2
  exact bodyPost_ret (v := .tuple #[.agg #[.bool false, .slice none 0 0], .agg #[.bool false, .slice none 0 0], .int .i64 14]) (by simp [results, Tryd.results37, go_sem, r0, r1, r2, r3]) rfl ⟨rfl, PW⟩

theorem cmpZ_case (x y : Int) : (cmpZ x y = -1 ∧ x < y) ∨ (cmpZ x y = 0 ∧ x = y) ∨ (cmpZ x y = 1 ∧ y < x) := by
  rcases Int.lt_trichotomy x y with h | h | h
  · exact .inl ⟨cmpZ_lt h, h⟩
  · exact .inr (.inl ⟨by rw [h]; simp [cmpZ], h⟩)
  · exact .inr (.inr ⟨cmpZ_gt h, h⟩)

theorem cmp_lo (x y : Int) : (∃ s, cmpZ x y = s ∧ decide (s < 0) = true ∧ x < y) ∨ (∃ s, cmpZ x y = s ∧ decide (s < 0) = false ∧ y ≤ x) := by
  rcases cmpZ_case x y with ⟨e, h⟩ | ⟨e, h⟩ | ⟨e, h⟩
  · exact .inl ⟨_, e, rfl, h⟩
  · exact .inr ⟨_, e, rfl, by omega⟩
  · exact .inr ⟨_, e, rfl, by omega⟩
theorem cmp_hi (x y : Int) : (∃ s, cmpZ x y = s ∧ decide (s > 0) = true ∧ decide (0 < s) = true ∧ y < x) ∨ (∃ s, cmpZ x y = s ∧ decide (s > 0) = false ∧ decide (0 < s) = false ∧ x ≤ y) := by
  rcases cmpZ_case x y with ⟨e, h⟩ | ⟨e, h⟩ | ⟨e, h⟩
  · exact .inr ⟨_, e, rfl, rfl, by omega⟩
  · exact .inr ⟨_, e, rfl, rfl, by omega⟩
  · exact .inl ⟨_, e, rfl, rfl, h⟩
theorem best_step {zs : List Int} {i : Nat} {z lo hi lo' hi' : Int} (h : zs[i]? = some z) (hall : ∀ y ∈ zs.take i, lo ≤ y ∧ y ≤ hi) (h1 : lo' ≤ lo) (h2 : lo' ≤ z) (h3 : hi ≤ hi') (h4 : z ≤ hi') : ∀ y ∈ zs.take (i + 1), lo' ≤ y ∧ y ≤ hi' := by
  intro y hy
  rw [List.take_add_one, h] at hy
  rcases List.mem_append.1 hy with e | e
  · have := hall y e
    omega
  · have e' : y = z := by simpa using e
    omega
theorem over_two {W : World} {a b : Nat} {x1 x2 : Bool} {y1 y2 : Option Addr} {m1 m2 d1 d2 : Nat} (ka : Blk W a 25 #[.bool x1, .slice y1 m1 d1]) (kb : Blk W b 25 #[.bool x2, .slice y2 m2 d2]) (hab : a ≠ b) (g h : Bool) (A B : Option Addr) (n c m d : Nat) :
    Blk ((((W.setCell ⟨a, 0, none⟩ (.bool g)).setCell ⟨a, 1, none⟩ (.slice A n c)).setCell ⟨b, 0, none⟩ (.bool h)).setCell ⟨b, 1, none⟩ (.slice B m d)) a 25 #[.bool g, .slice A n c] ∧
    Blk ((((W.setCell ⟨a, 0, none⟩ (.bool g)).setCell ⟨a, 1, none⟩ (.slice A n c)).setCell ⟨b, 0, none⟩ (.bool h)).setCell ⟨b, 1, none⟩ (.slice B m d)) b 25 #[.bool h, .slice B m d] ∧
    (∀ v z, ZR W v z → ZR ((((W.setCell ⟨a, 0, none⟩ (.bool g)).setCell ⟨a, 1, none⟩ (.slice A n c)).setCell ⟨b, 0, none⟩ (.bool h)).setCell ⟨b, 1, none⟩ (.slice B m d)) v z) ∧
    (∀ w0, Pu w0 W → w0.heap.size ≤ a → w0.heap.size ≤ b → Pu w0 ((((W.setCell ⟨a, 0, none⟩ (.bool g)).setCell ⟨a, 1, none⟩ (.slice A n c)).setCell ⟨b, 0, none⟩ (.bool h)).setCell ⟨b, 1, none⟩ (.slice B m d))) := by
  obtain ⟨ka', fa⟩ := over_n ka g A n c
  obtain ⟨_, _, z1, p1⟩ := store_num ka g A n c
  have kb' := kb.fr fa (fun e => hab e.symm)
  obtain ⟨kb'', fb⟩ := over_n kb' h B m d
  obtain ⟨_, _, z2, p2⟩ := store_num kb' h B m d
  exact ⟨ka'.fr fb hab, kb'', fun v z hz => z2 _ _ (z1 _ _ hz), fun w0 hp ha hb => p2 _ (p1 _ hp ha) hb⟩

set_option maxHeartbeats 8000000 in
set_option maxRecDepth 100000 in
theorem best_any (A : Option Addr) (n c : Nat) (zs : List Int) (w : World) (h : IL w A n c zs) (hn : n ≤ 1000000) (h0 : 0 < n) (hb : ∀ z ∈ zs, z.natAbs < 4294967296 ^ 7) :
    Calls Tryd.prog 37 #[.slice A n c] w fun e w' => ∃ v1 v2 lo hi, e = .returned (.tuple #[v1, v2, .int .i64 0]) ∧ ZR w' v1 lo ∧ ZR w' v2 hi ∧ lo ∈ zs ∧ hi ∈ zs ∧ (∀ z ∈ zs, lo ≤ z ∧ z ≤ hi) ∧ Pu w w' := by
  have hl := h.len
  obtain ⟨W, hWe⟩ : ∃ W, W = (w.alloc (.cells #[.bool false, .slice none 0 0] 25)).alloc (.cells #[.bool false, .slice none 0 0] 25) := ⟨_, rfl⟩
  have hW : Pu w W := by rw [hWe]; exact ((Pu.refl w).alloc _).alloc _
  have k1 : Blk W w.heap.size 25 #[.bool false, .slice none 0 0] := by rw [hWe]; exact (Blk.new w _ _).alloc _
  have k2 : Blk W (w.heap.size + 1) 25 #[.bool false, .slice none 0 0] := by rw [hWe]; exact Blk.at_new _ _ _ (by simp)
  have HB := Lib.hid hb
  have hn0 : ((n : Int) == 0) = false := by simp; omega
  obtain ⟨z0, hz0⟩ : ∃ z, zs[0]? = some z := ⟨_, List.getElem?_eq_getElem (by omega)⟩
  have hm0 := List.mem_of_getElem? hz0
  obtain ⟨b, off, gx, Ax, nx, cx, rfl, hbl, x0, x1, hx⟩ := h.at_ hz0
  simp only [Nat.zero_mul, Nat.add_zero] at x0 x1
  replace x0 := hW.cellv x0
  replace x1 := hW.cellv x1
  replace hx := hx.pu hW
  have i0 : (0 : Int) < (n : Int) := by omega
  have hadd := fun U p => addn_any _ z0 U (hx.pu (w' := U) p) (seven_up (hb z0 hm0) 20000 (by decide))
  have Hadd := Lib.hid hadd
  have M0 := Lib.hid hm0
  clear hz0 hm0 hb hadd
  go_enter Tryd.func37, Tryd.ntmps37
  go_wp2_with fail
  rw [← hWe]
  have hP : Pu W W.drew := (Pu.refl W).drew
  have hbn1 : b ≠ w.heap.size := by omega
  have hbn2 : b ≠ w.heap.size + 1 := by omega
  have hne : w.heap.size ≠ w.heap.size + 1 := by omega
  have HWe := Lib.hid hWe
  clear hWe hx
  go_region_held3 (fun t => t.cell? ⟨b, off, none⟩ = some (.bool gx) ∧ t.cell? ⟨b, off + 1, none⟩ = some (.slice Ax nx cx))
    (first | with_reducible exact ⟨hP.cellv x0, hP.cellv x1⟩ | with_reducible exact ⟨two_far hbn1 (hP.cellv x0), two_far hbn1 (hP.cellv x1)⟩ | with_reducible exact ⟨two_far hbn2 (two_far hbn1 (hP.cellv x0)), two_far hbn2 (two_far hbn1 (hP.cellv x1))⟩ | go_keep)
    (first
      | (go_at_call 24; have chk := h5; clear chk; refine (Hadd.out _ hP).mono ?_; rintro e u6 ⟨v6, rfl, h6, p6⟩; replace hP := hP.trans p6; replace h5 := h5.pu p6; obtain ⟨g6, A6, n6, c6, rfl⟩ := h6.shape; have s0 := (k1.pu hP).cell 0; have s1 := (k1.pu hP).cell 1; have s2 := (k2.pu hP).cell 0; have s3 := (k2.pu hP).cell 1; have f0 := (k1.pu hP).frozen 0; have f1 := (k1.pu hP).frozen 1; have f2 := (k2.pu hP).frozen 0; have f3 := (k2.pu hP).frozen 1)
      | (go_at_call 24; refine (Hadd.out _ hP).mono ?_; rintro e u5 ⟨v5, rfl, h5, p5⟩; replace hP := hP.trans p5; obtain ⟨g5, A5, n5, c5, rfl⟩ := h5.shape))
  obtain ⟨kLo, kHi, tz, tp⟩ := over_two (k1.pu hP) (k2.pu hP) hne g5 g6 A5 A6 n5 c5 n6 c6
  have hlo := tz _ _ h5
  have hhi := tz _ _ h6
  have hPV := tp _ (hW.trans hP) (Nat.le_refl _) (by omega)
  clear tz tp h5 h6 k1 k2 p5 p6 hP hW x0 x1 s0 s1 s2 s3 f0 f1 f2 f3 HWe Hadd
  generalize (((u6.setCell ⟨w.heap.size, 0, none⟩ (.bool g5)).setCell ⟨w.heap.size, 1, none⟩ (.slice A5 n5 c5)).setCell ⟨w.heap.size + 1, 0, none⟩ (.bool g6)).setCell ⟨w.heap.size + 1, 1, none⟩ (.slice A6 n6 c6) = V at *
  go_wp2_with fail
  go_loopw [22] (fun iv ws => ∃ (i : Nat) (lo hi : Int) (g1 : Bool) (A1 : Option Addr) (n1 c1 : Nat) (g2 : Bool) (A2 : Option Addr) (n2 c2 : Nat), i ≤ n ∧ iv = .int .i64 (i : Int) ∧ Blk ws w.heap.size 25 #[.bool g1, .slice A1 n1 c1] ∧ Blk ws (w.heap.size + 1) 25 #[.bool g2, .slice A2 n2 c2] ∧ ZR ws (.agg #[.bool g1, .slice A1 n1 c1]) lo ∧ ZR ws (.agg #[.bool g2, .slice A2 n2 c2]) hi ∧ lo ∈ zs ∧ hi ∈ zs ∧ (∀ z ∈ zs.take i, lo ≤ z ∧ z ≤ hi) ∧ Pu w ws) (fun iv _ => n - (intOf iv).toNat)
  case atStart => exact ⟨0, z0, z0, g5, A5, n5, c5, g6, A6, n6, c6, Nat.zero_le _, rfl, kLo, kHi, hlo, hhi, M0.out, M0.out, fun z hz => by simp at hz, hPV⟩
  case round =>
    clear kLo kHi hlo hhi hPV M0
    obtain ⟨i, lo, hi, g1, A1, n1, c1, g2, A2, n2, c2, hin, rfl, kLo, kHi, hlo, hhi, mlo, mhi, hall, hP⟩ := hrel
    have Blo := Lib.hid (HB.out lo mlo)
    have Bhi := Lib.hid (HB.out hi mhi)
    have Mlo := Lib.hid mlo
    have Mhi := Lib.hid mhi
    have Hall := Lib.hid hall
    clear mlo mhi hall
    by_cases hlt : i < n
    · obtain ⟨z, hzi⟩ : ∃ z, zs[i]? = some z := ⟨_, List.getElem?_eq_getElem (by omega)⟩
      obtain ⟨b', off', gz, Az, nz, cz, hA, _, x0, x1, hz⟩ := (h.pu hP).at_ hzi
      injection hA with hA
      injection hA with hA1 hA2
      subst hA1 hA2
      have mz := List.mem_of_getElem? hzi
      have Bz := Lib.hid (HB.out z mz)
      have Mz := Lib.hid mz
      have Hzi := Lib.hid hzi
      have hwi : IntKind.i64.wrap ((i : Int) + 1) = (i : Int) + 1 := IntWalk.i64_in _ (by omega)
      have hlw := kHi.lt
      have pA : Pu wr (wr.alloc (.cells #[.bool gz, .slice Az nz cz] 25)) := (Pu.refl wr).alloc _
      have kT : Blk (wr.alloc (.cells #[.bool gz, .slice Az nz cz] 25)) wr.heap.size 25 #[.bool gz, .slice Az nz cz] := Blk.new _ _ _
      have hzT := hz.pu pA
      replace kLo := kLo.pu pA
      replace kHi := kHi.pu pA
      replace hlo := hlo.pu pA
      replace hhi := hhi.pu pA
      replace hP := hP.trans pA
      clear mz hzi hz pA
      --ROUND--
      rcases cmp_lo z lo with ⟨slo, elo, dlo, clo⟩ | ⟨slo, elo, dlo, clo⟩
      · have Elo := Lib.hid elo
        have Clo := Lib.hid clo
        clear elo clo
        rcases cmp_hi z hi with ⟨shi, ehi, dhi, dhi2, chi⟩ | ⟨shi, ehi, dhi, dhi2, chi⟩
        · have Ehi := Lib.hid ehi
          have Chi := Lib.hid chi
          clear ehi chi
          have y0 := kT.cell 0
          have y1 := kT.cell 1
          have y2 := kLo.cell 0
          have y3 := kLo.cell 1
          go_wp2_with fail
          refine (cmp_any _ _ z lo _ hzT hlo (seven_up Bz.out 1000 (by decide)) (seven_up Blo.out 1000 (by decide))).mono ?_
          rintro e u1 ⟨rfl, p1⟩
          rw [Elo.out]
          replace kLo := kLo.pu p1
          replace kHi := kHi.pu p1
          replace kT := kT.pu p1
          replace hP := hP.trans p1
          replace hzT := hzT.pu p1
          replace hlo := hlo.pu p1
          replace hhi := hhi.pu p1
          clear y0 y1 y2 y3 p1
          have y0 := kT.cell 0
          have y1 := kT.cell 1
          go_wp2_with fail
          refine (addn_any _ z _ hzT (seven_up Bz.out 20000 (by decide))).mono ?_
          rintro e u2 ⟨v2, rfl, h2, p2⟩
          obtain ⟨gU2, AU2, mU2, cU2, rfl⟩ := h2.shape
          replace kLo := kLo.pu p2
          replace kHi := kHi.pu p2
          replace kT := kT.pu p2
          replace hP := hP.trans p2
          replace hzT := hzT.pu p2
          replace hlo := hlo.pu p2
          replace hhi := hhi.pu p2
          clear y0 y1 p2
          have s02 := kLo.cell 0
          have s12 := kLo.cell 1
          have f02 := kLo.frozen 0
          have f12 := kLo.frozen 1
          obtain ⟨k2, fr2⟩ := over_n kLo gU2 AU2 mU2 cU2
          obtain ⟨_, _, rz2, rp2⟩ := store_num kLo gU2 AU2 mU2 cU2
          replace kHi := kHi.fr fr2 (by show ¬ w.heap.size + 1 = w.heap.size; omega)
          replace kT := kT.fr fr2 (by show ¬ wr.heap.size = w.heap.size; omega)
          replace hP := rp2 _ hP (by omega)
          replace hzT := rz2 _ _ hzT
          replace hhi := rz2 _ _ hhi
          replace hlo := rz2 _ _ h2
          replace kLo := k2
          clear h2 fr2 rz2 rp2
          have y0 := kT.cell 0
          have y1 := kT.cell 1
          have y2 := kHi.cell 0
          have y3 := kHi.cell 1
          go_wp2_with fail
          refine (cmp_any _ _ z hi _ hzT hhi (seven_up Bz.out 1000 (by decide)) (seven_up Bhi.out 1000 (by decide))).mono ?_
          rintro e u3 ⟨rfl, p3⟩
          rw [Ehi.out]
          replace kLo := kLo.pu p3
          replace kHi := kHi.pu p3
          replace kT := kT.pu p3
          replace hP := hP.trans p3
          replace hzT := hzT.pu p3
          replace hlo := hlo.pu p3
          replace hhi := hhi.pu p3
          clear y0 y1 y2 y3 p3
          have y0 := kT.cell 0
          have y1 := kT.cell 1
          go_wp2_with fail
          refine (addn_any _ z _ hzT (seven_up Bz.out 20000 (by decide))).mono ?_
          rintro e u4 ⟨v4, rfl, h4, p4⟩
          obtain ⟨gU4, AU4, mU4, cU4, rfl⟩ := h4.shape
          replace kLo := kLo.pu p4
          replace kHi := kHi.pu p4
          replace kT := kT.pu p4
          replace hP := hP.trans p4
          replace hzT := hzT.pu p4
          replace hlo := hlo.pu p4
          replace hhi := hhi.pu p4
          clear y0 y1 p4
          have s04 := kHi.cell 0
          have s14 := kHi.cell 1
          have f04 := kHi.frozen 0
          have f14 := kHi.frozen 1
          obtain ⟨k4, fr4⟩ := over_n kHi gU4 AU4 mU4 cU4
          obtain ⟨_, _, rz4, rp4⟩ := store_num kHi gU4 AU4 mU4 cU4
          replace kLo := kLo.fr fr4 (by show ¬ w.heap.size = w.heap.size + 1; omega)
          replace kT := kT.fr fr4 (by show ¬ wr.heap.size = w.heap.size + 1; omega)
          replace hP := rp4 _ hP (by omega)
          replace hzT := rz4 _ _ hzT
          replace hlo := rz4 _ _ hlo
          replace hhi := rz4 _ _ h4
          replace kHi := k4
          clear h4 fr4 rz4 rp4
          have Hlo := Lib.hid hlo
          have Hhi := Lib.hid hhi
          clear hlo hhi hzT kT
          go_wp2
          go_roundw
          case rel => exact ⟨i + 1, z, z, _, _, _, _, _, _, _, _, by omega, by go_num, kLo, kHi, Hlo.out, Hhi.out, Mz.out, Mz.out, best_step Hzi.out Hall.out (by have := Clo.out; omega) (by have := Clo.out; omega) (by have := Chi.out; omega) (by have := Chi.out; omega), hP⟩
          case measure => simp [intOf]; omega
        · have Ehi := Lib.hid ehi
          have Chi := Lib.hid chi
          clear ehi chi
          have y0 := kT.cell 0
          have y1 := kT.cell 1
          have y2 := kLo.cell 0
          have y3 := kLo.cell 1
          go_wp2_with fail
          refine (cmp_any _ _ z lo _ hzT hlo (seven_up Bz.out 1000 (by decide)) (seven_up Blo.out 1000 (by decide))).mono ?_
          rintro e u1 ⟨rfl, p1⟩
          rw [Elo.out]
          replace kLo := kLo.pu p1
          replace kHi := kHi.pu p1
          replace kT := kT.pu p1
          replace hP := hP.trans p1
          replace hzT := hzT.pu p1
          replace hlo := hlo.pu p1
          replace hhi := hhi.pu p1
          clear y0 y1 y2 y3 p1
          have y0 := kT.cell 0
          have y1 := kT.cell 1
          go_wp2_with fail
          refine (addn_any _ z _ hzT (seven_up Bz.out 20000 (by decide))).mono ?_
          rintro e u2 ⟨v2, rfl, h2, p2⟩
          obtain ⟨gU2, AU2, mU2, cU2, rfl⟩ := h2.shape
          replace kLo := kLo.pu p2
          replace kHi := kHi.pu p2
          replace kT := kT.pu p2
          replace hP := hP.trans p2
          replace hzT := hzT.pu p2
          replace hlo := hlo.pu p2
          replace hhi := hhi.pu p2
          clear y0 y1 p2
          have s02 := kLo.cell 0
          have s12 := kLo.cell 1
          have f02 := kLo.frozen 0
          have f12 := kLo.frozen 1
          obtain ⟨k2, fr2⟩ := over_n kLo gU2 AU2 mU2 cU2
          obtain ⟨_, _, rz2, rp2⟩ := store_num kLo gU2 AU2 mU2 cU2
          replace kHi := kHi.fr fr2 (by show ¬ w.heap.size + 1 = w.heap.size; omega)
          replace kT := kT.fr fr2 (by show ¬ wr.heap.size = w.heap.size; omega)
          replace hP := rp2 _ hP (by omega)
          replace hzT := rz2 _ _ hzT
          replace hhi := rz2 _ _ hhi
          replace hlo := rz2 _ _ h2
          replace kLo := k2
          clear h2 fr2 rz2 rp2
          have y0 := kT.cell 0
          have y1 := kT.cell 1
          have y2 := kHi.cell 0
          have y3 := kHi.cell 1
          go_wp2_with fail
          refine (cmp_any _ _ z hi _ hzT hhi (seven_up Bz.out 1000 (by decide)) (seven_up Bhi.out 1000 (by decide))).mono ?_
          rintro e u3 ⟨rfl, p3⟩
          rw [Ehi.out]
          replace kLo := kLo.pu p3
          replace kHi := kHi.pu p3
          replace kT := kT.pu p3
          replace hP := hP.trans p3
          replace hzT := hzT.pu p3
          replace hlo := hlo.pu p3
          replace hhi := hhi.pu p3
          clear y0 y1 y2 y3 p3
          have Hlo := Lib.hid hlo
          have Hhi := Lib.hid hhi
          clear hlo hhi hzT kT
          go_wp2
          go_roundw
          case rel => exact ⟨i + 1, z, hi, _, _, _, _, _, _, _, _, by omega, by go_num, kLo, kHi, Hlo.out, Hhi.out, Mz.out, Mhi.out, best_step Hzi.out Hall.out (by have := Clo.out; omega) (by have := Clo.out; omega) (by have := Chi.out; omega) (by have := Chi.out; omega), hP⟩
          case measure => simp [intOf]; omega
      · have Elo := Lib.hid elo
        have Clo := Lib.hid clo
        clear elo clo
        rcases cmp_hi z hi with ⟨shi, ehi, dhi, dhi2, chi⟩ | ⟨shi, ehi, dhi, dhi2, chi⟩
        · have Ehi := Lib.hid ehi
          have Chi := Lib.hid chi
          clear ehi chi
          have y0 := kT.cell 0
          have y1 := kT.cell 1
          have y2 := kLo.cell 0
          have y3 := kLo.cell 1
          go_wp2_with fail
          refine (cmp_any _ _ z lo _ hzT hlo (seven_up Bz.out 1000 (by decide)) (seven_up Blo.out 1000 (by decide))).mono ?_
          rintro e u1 ⟨rfl, p1⟩
          rw [Elo.out]
          replace kLo := kLo.pu p1
          replace kHi := kHi.pu p1
          replace kT := kT.pu p1
          replace hP := hP.trans p1
          replace hzT := hzT.pu p1
          replace hlo := hlo.pu p1
          replace hhi := hhi.pu p1
          clear y0 y1 y2 y3 p1
          have y0 := kT.cell 0
          have y1 := kT.cell 1
          have y2 := kHi.cell 0
          have y3 := kHi.cell 1
          go_wp2_with fail
          refine (cmp_any _ _ z hi _ hzT hhi (seven_up Bz.out 1000 (by decide)) (seven_up Bhi.out 1000 (by decide))).mono ?_
          rintro e u3 ⟨rfl, p3⟩
          rw [Ehi.out]
          replace kLo := kLo.pu p3
          replace kHi := kHi.pu p3
          replace kT := kT.pu p3
          replace hP := hP.trans p3
          replace hzT := hzT.pu p3
          replace hlo := hlo.pu p3
          replace hhi := hhi.pu p3
          clear y0 y1 y2 y3 p3
          have y0 := kT.cell 0
          have y1 := kT.cell 1
          go_wp2_with fail
          refine (addn_any _ z _ hzT (seven_up Bz.out 20000 (by decide))).mono ?_
          rintro e u4 ⟨v4, rfl, h4, p4⟩
          obtain ⟨gU4, AU4, mU4, cU4, rfl⟩ := h4.shape
          replace kLo := kLo.pu p4
          replace kHi := kHi.pu p4
          replace kT := kT.pu p4
          replace hP := hP.trans p4
          replace hzT := hzT.pu p4
          replace hlo := hlo.pu p4
          replace hhi := hhi.pu p4
          clear y0 y1 p4
          have s04 := kHi.cell 0
          have s14 := kHi.cell 1
          have f04 := kHi.frozen 0
          have f14 := kHi.frozen 1
          obtain ⟨k4, fr4⟩ := over_n kHi gU4 AU4 mU4 cU4
          obtain ⟨_, _, rz4, rp4⟩ := store_num kHi gU4 AU4 mU4 cU4
          replace kLo := kLo.fr fr4 (by show ¬ w.heap.size = w.heap.size + 1; omega)
          replace kT := kT.fr fr4 (by show ¬ wr.heap.size = w.heap.size + 1; omega)
          replace hP := rp4 _ hP (by omega)
          replace hzT := rz4 _ _ hzT
          replace hlo := rz4 _ _ hlo
          replace hhi := rz4 _ _ h4
          replace kHi := k4
          clear h4 fr4 rz4 rp4
          have Hlo := Lib.hid hlo
          have Hhi := Lib.hid hhi
          clear hlo hhi hzT kT
          go_wp2
          go_roundw
          case rel => exact ⟨i + 1, lo, z, _, _, _, _, _, _, _, _, by omega, by go_num, kLo, kHi, Hlo.out, Hhi.out, Mlo.out, Mz.out, best_step Hzi.out Hall.out (by have := Clo.out; omega) (by have := Clo.out; omega) (by have := Chi.out; omega) (by have := Chi.out; omega), hP⟩
          case measure => simp [intOf]; omega
        · have Ehi := Lib.hid ehi
          have Chi := Lib.hid chi
          clear ehi chi
          have y0 := kT.cell 0
          have y1 := kT.cell 1
          have y2 := kLo.cell 0
          have y3 := kLo.cell 1
          go_wp2_with fail
          refine (cmp_any _ _ z lo _ hzT hlo (seven_up Bz.out 1000 (by decide)) (seven_up Blo.out 1000 (by decide))).mono ?_
          rintro e u1 ⟨rfl, p1⟩
          rw [Elo.out]
          replace kLo := kLo.pu p1
          replace kHi := kHi.pu p1
          replace kT := kT.pu p1
          replace hP := hP.trans p1
          replace hzT := hzT.pu p1
          replace hlo := hlo.pu p1
          replace hhi := hhi.pu p1
          clear y0 y1 y2 y3 p1
          have y0 := kT.cell 0
          have y1 := kT.cell 1
          have y2 := kHi.cell 0
          have y3 := kHi.cell 1
          go_wp2_with fail
          refine (cmp_any _ _ z hi _ hzT hhi (seven_up Bz.out 1000 (by decide)) (seven_up Bhi.out 1000 (by decide))).mono ?_
          rintro e u3 ⟨rfl, p3⟩
          rw [Ehi.out]
          replace kLo := kLo.pu p3
          replace kHi := kHi.pu p3
          replace kT := kT.pu p3
          replace hP := hP.trans p3
          replace hzT := hzT.pu p3
          replace hlo := hlo.pu p3
          replace hhi := hhi.pu p3
          clear y0 y1 y2 y3 p3
          have Hlo := Lib.hid hlo
          have Hhi := Lib.hid hhi
          clear hlo hhi hzT kT
          go_wp2
          go_roundw
          case rel => exact ⟨i + 1, lo, hi, _, _, _, _, _, _, _, _, by omega, by go_num, kLo, kHi, Hlo.out, Hhi.out, Mlo.out, Mhi.out, best_step Hzi.out Hall.out (by have := Clo.out; omega) (by have := Clo.out; omega) (by have := Chi.out; omega) (by have := Chi.out; omega), hP⟩
          case measure => simp [intOf]; omega
      --ROUNDEND--
    · obtain rfl : i = n := by omega
      have hfin : ∀ z ∈ zs, lo ≤ z ∧ z ≤ hi := by
        have := Hall.out
        rwa [List.take_of_length_le (by omega)] at this
      have Hfin := Lib.hid hfin
      clear hfin
      have y0 : wr.cell? ⟨w.heap.size, 0, none⟩ = some (.bool g1) := kLo.cell 0
      have y1 : wr.cell? ⟨w.heap.size, 1, none⟩ = some (.slice A1 n1 c1) := kLo.cell 1
      have y2 : wr.cell? ⟨w.heap.size + 1, 0, none⟩ = some (.bool g2) := kHi.cell 0
      have y3 : wr.cell? ⟨w.heap.size + 1, 1, none⟩ = some (.slice A2 n2 c2) := kHi.cell 1
      have f0 := kLo.frozen 0
      have f1 := kLo.frozen 1
      have f2 := kHi.frozen 0
      have f3 := kHi.frozen 1
      have a0 := two_far (p := ⟨w.heap.size, 0, none⟩) (u := .bool g2) (v := .slice A2 n2 c2) hne y0
      have a1 := two_far (p := ⟨w.heap.size, 1, none⟩) (u := .bool g2) (v := .slice A2 n2 c2) hne y1
      have a2 := two_far (p := ⟨w.heap.size + 1, 0, none⟩) (u := .bool g1) (v := .slice A1 n1 c1) hne.symm y2
      have a3 := two_far (p := ⟨w.heap.size + 1, 1, none⟩) (u := .bool g1) (v := .slice A1 n1 c1) hne.symm y3
      obtain ⟨jLo, jHi, tz, tp⟩ := over_two kLo kHi hne g1 g2 A1 A2 n1 c1 n2 c2
      have jlo := tz _ _ hlo
      have jhi := tz _ _ hhi
      have PP := tp _ hP (Nat.le_refl _) (by omega)
      have r0 := jLo.drew.cell 0
      have r1 := jLo.drew.cell 1
      have r2 := jHi.drew.cell 0
      have r3 := jHi.drew.cell 1
      have Jlo := Lib.hid (jlo.pu ((Pu.refl _).drew))
      have Jhi := Lib.hid (jhi.pu ((Pu.refl _).drew))
      have PPd := PP.drew
      clear tz tp jlo jhi hlo hhi kLo kHi jLo jHi PP hP
      go_wp2_with fail
      go_region
      go_wp2
      exact bodyPost_ret (v := .tuple #[.agg #[.bool g1, .slice A1 n1 c1], .agg #[.bool g2, .slice A2 n2 c2], .int .i64 0]) (by simp [results, Tryd.results37, go_sem, r0, r1, r2, r3]) rfl ⟨_, _, lo, hi, rfl, Jlo.out, Jhi.out, Mlo.out, Mhi.out, Hfin.out, PPd⟩
end Go.Proofs.YtckfnbckoclhpaaDoor
