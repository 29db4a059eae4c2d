/- zed: add, two numbers of one sign. zed: add, two numbers of two signs, the first not the smaller. zed: add, two numbers of two signs, the first smaller. zed: add, Sub, Add. -/
import Derived.Test.YtckfnbckoclhpaaDoorZSub
import Derived.Test.YtckfnbckoclhpaaDoorZed3
set_option linter.unusedVariables false
namespace Go.Proofs.YtckfnbckoclhpaaDoor
open Go.RowKit
/- zed: add, two numbers of one sign. -/
set_option maxHeartbeats 8000000 in
set_option maxRecDepth 100000 in
theorem add_same (g1 g2 : Bool) (A1 A2 : Option Addr) (n1 c1 n2 c2 : Nat) (l1 l2 : List Nat) (w : World) (hg : g1 = g2) (hs1 : Sl w 1 A1 n1 c1 (wds l1)) (hs2 : Sl w 1 A2 n2 c2 (wds l2)) (hb1 : Below_ 4294967296 l1) (hb2 : Below_ 4294967296 l2) (ht1 : Tidy l1) (ht2 : Tidy l2) (hn1 : n1 ≤ 20000) (hn2 : n2 ≤ 20000) :
    Calls Tryd.prog 53 #[.agg #[.bool g1, .slice A1 n1 c1], .agg #[.bool g2, .slice A2 n2 c2]] w fun e w' => ∃ v', e = .returned v' ∧ ZR w' v' (sgn g1 (pval 4294967296 l1 + pval 4294967296 l2)) ∧ Pu w w' := by
  have hW : Pu w (((w.alloc (.cells #[.bool g1, .slice A1 n1 c1] 25)).alloc (.cells #[.bool g2, .slice A2 n2 c2] 25)).alloc (.cells #[.bool false, .slice none 0 0] 25)) := (((Pu.refl w).alloc _).alloc _).alloc _
  have hR : Blk (((w.alloc (.cells #[.bool g1, .slice A1 n1 c1] 25)).alloc (.cells #[.bool g2, .slice A2 n2 c2] 25)).alloc (.cells #[.bool false, .slice none 0 0] 25)) (w.heap.size + 2) 25 #[.bool false, .slice none 0 0] := Blk.at_new _ _ _ (by simp)
  have kA0 : Blk (((w.alloc (.cells #[.bool g1, .slice A1 n1 c1] 25)).alloc (.cells #[.bool g2, .slice A2 n2 c2] 25)).alloc (.cells #[.bool false, .slice none 0 0] 25)) w.heap.size 25 #[.bool g1, .slice A1 n1 c1] := ((Blk.new w _ _).alloc _).alloc _
  have kB0 : Blk (((w.alloc (.cells #[.bool g1, .slice A1 n1 c1] 25)).alloc (.cells #[.bool g2, .slice A2 n2 c2] 25)).alloc (.cells #[.bool false, .slice none 0 0] 25)) (w.heap.size + 1) 25 #[.bool g2, .slice A2 n2 c2] := (Blk.at_new _ _ _ (by simp)).alloc _
  subst hg
  have eg : (g1 == g1) = true := by simp
  have hWd := hW.drew
  have hRd := hR.drew
  have k0 := kA0.drew
  go_enter Tryd.func53, Tryd.ntmps53
  go_wp2_with fail
  go_region_with (first
    | (go_at_call 69; refine (plus_any A1 A2 n1 c1 n2 c2 l1 l2 _ (hs1.pu hWd) (hs2.pu hWd) (by omega) (by omega) hb1 hb2).mono ?_; rintro e u1 ⟨A3, n3, c3, l3, rfl, hn3, hc3, hs3, hb3, hv3, p3⟩; have j0 : u1.cell? ⟨w.heap.size, 0, none⟩ = some (.bool g1) := (k0.pu p3).cell 0; have pw := hWd.trans p3)
    | (go_at_call 38; refine (made_any g1 A3 _ c3 l3 _ hs3 (by omega) hc3 hb3).mono ?_; rintro e u2 ⟨v', rfl, hz', p4⟩; have hz2 := hz'; obtain ⟨g', A', n', c', l', rfl, _⟩ := hz2; have hR2 := (hRd.pu p3).pu p4; have q0 : u2.cell? ⟨w.heap.size + 2, 0, none⟩ = some (.bool false) := hR2.cell 0; have q1 : u2.cell? ⟨w.heap.size + 2, 1, none⟩ = some (.slice none 0 0) := hR2.cell 1; have f0 : u2.frozen? ⟨w.heap.size + 2, 0, none⟩ = false := hR2.frozen 0; have f1 : u2.frozen? ⟨w.heap.size + 2, 1, none⟩ = false := hR2.frozen 1; clear p3 hs3 hb3))
  all_goals
    obtain ⟨r0, r1, rz, rp⟩ := store_num hR2 g' A' n' c'
    rw [hv3] at hz'
    go_wp2
    refine bodyPost_ret (v := .agg #[.bool g', .slice A' n' c']) (by simp [results, Tryd.results53, go_sem, r0, r1]) rfl ⟨_, rfl, rz _ _ hz', rp _ (pw.trans p4) (by omega)⟩

/- zed: add, two numbers of two signs, the first not the smaller. -/
set_option maxHeartbeats 8000000 in
set_option maxRecDepth 100000 in
theorem add_ge (g1 g2 : Bool) (A1 A2 : Option Addr) (n1 c1 n2 c2 : Nat) (l1 l2 : List Nat) (w : World) (hg : g2 = !g1) (hs1 : Sl w 1 A1 n1 c1 (wds l1)) (hs2 : Sl w 1 A2 n2 c2 (wds l2)) (hb1 : Below_ 4294967296 l1) (hb2 : Below_ 4294967296 l2) (ht1 : Tidy l1) (ht2 : Tidy l2) (hn1 : n1 ≤ 20000) (hn2 : n2 ≤ 20000) (hge : pval 4294967296 l2 ≤ pval 4294967296 l1) :
    Calls Tryd.prog 53 #[.agg #[.bool g1, .slice A1 n1 c1], .agg #[.bool g2, .slice A2 n2 c2]] w fun e w' => ∃ v', e = .returned v' ∧ ZR w' v' (sgn g1 (pval 4294967296 l1 - pval 4294967296 l2)) ∧ Pu w w' := by
  have hW : Pu w (((w.alloc (.cells #[.bool g1, .slice A1 n1 c1] 25)).alloc (.cells #[.bool g2, .slice A2 n2 c2] 25)).alloc (.cells #[.bool false, .slice none 0 0] 25)) := (((Pu.refl w).alloc _).alloc _).alloc _
  have hR : Blk (((w.alloc (.cells #[.bool g1, .slice A1 n1 c1] 25)).alloc (.cells #[.bool g2, .slice A2 n2 c2] 25)).alloc (.cells #[.bool false, .slice none 0 0] 25)) (w.heap.size + 2) 25 #[.bool false, .slice none 0 0] := Blk.at_new _ _ _ (by simp)
  have kA0 : Blk (((w.alloc (.cells #[.bool g1, .slice A1 n1 c1] 25)).alloc (.cells #[.bool g2, .slice A2 n2 c2] 25)).alloc (.cells #[.bool false, .slice none 0 0] 25)) w.heap.size 25 #[.bool g1, .slice A1 n1 c1] := ((Blk.new w _ _).alloc _).alloc _
  have kB0 : Blk (((w.alloc (.cells #[.bool g1, .slice A1 n1 c1] 25)).alloc (.cells #[.bool g2, .slice A2 n2 c2] 25)).alloc (.cells #[.bool false, .slice none 0 0] 25)) (w.heap.size + 1) 25 #[.bool g2, .slice A2 n2 c2] := (Blk.at_new _ _ _ (by simp)).alloc _
  have eg : (g1 == g2) = false := by rw [hg]; cases g1 <;> rfl
  have kcmp := compare_any A1 A2 n1 c1 n2 c2 l1 l2 _ (hs1.pu hW) (hs2.pu hW) (by omega) (by omega) hb1 hb2 ht1 ht2
  have ec : decide (cmpN (pval 4294967296 l1) (pval 4294967296 l2) ≥ 0) = true := by
    unfold cmpN
    rw [if_neg (by omega)]
    split <;> simp
  have ec2 : decide (0 ≤ cmpN (pval 4294967296 l1) (pval 4294967296 l2)) = true := by simpa using ec
  clear hg
  go_enter Tryd.func53, Tryd.ntmps53
  go_wp2_with fail
  refine kcmp.mono ?_
  rintro e u0 ⟨rfl, p0⟩
  have k0 := kA0.pu p0
  have k1 := kB0.pu p0
  have hRd := (hR.pu p0).drew
  have hWd := (hW.trans p0).drew
  have m00 : u0.cell? ⟨w.heap.size, 0, none⟩ = some (.bool g1) := k0.cell 0
  have m01 : u0.cell? ⟨w.heap.size, 1, none⟩ = some (.slice A1 n1 c1) := k0.cell 1
  have m10 : u0.cell? ⟨w.heap.size + 1, 0, none⟩ = some (.bool g2) := k1.cell 0
  have m11 : u0.cell? ⟨w.heap.size + 1, 1, none⟩ = some (.slice A2 n2 c2) := k1.cell 1
  go_wp2_with fail
  go_region_with (first
    | (go_at_call 70; refine (minus_any A1 A2 n1 c1 n2 c2 l1 l2 _ (hs1.pu hWd) (hs2.pu hWd) (by omega) (by omega) hb1 hb2 ht2 hge).mono ?_; rintro e u1 ⟨A3, _, c3, l3, rfl, rfl, hc3, hs3, hb3, hv3, p3⟩; have j0 : u1.cell? ⟨w.heap.size, 0, none⟩ = some (.bool g1) := (k0.drew.pu p3).cell 0; have pw := hWd.trans p3)
    | (go_at_call 38; refine (made_any g1 A3 _ c3 l3 _ hs3 (by omega) hc3 hb3).mono ?_; rintro e u2 ⟨v', rfl, hz', p4⟩; have hz2 := hz'; obtain ⟨g', A', n', c', l', rfl, _⟩ := hz2; have hR2 := (hRd.pu p3).pu p4; have q0 : u2.cell? ⟨w.heap.size + 2, 0, none⟩ = some (.bool false) := hR2.cell 0; have q1 : u2.cell? ⟨w.heap.size + 2, 1, none⟩ = some (.slice none 0 0) := hR2.cell 1; have f0 : u2.frozen? ⟨w.heap.size + 2, 0, none⟩ = false := hR2.frozen 0; have f1 : u2.frozen? ⟨w.heap.size + 2, 1, none⟩ = false := hR2.frozen 1; clear p3 hs3 hb3))
  all_goals
    obtain ⟨r0, r1, rz, rp⟩ := store_num hR2 g' A' n' c'
    rw [hv3] at hz'
    go_wp2
    refine bodyPost_ret (v := .agg #[.bool g', .slice A' n' c']) (by simp [results, Tryd.results53, go_sem, r0, r1]) rfl ⟨_, rfl, rz _ _ hz', rp _ (pw.trans p4) (by omega)⟩

/- zed: add, two numbers of two signs, the first smaller. -/
set_option maxHeartbeats 8000000 in
set_option maxRecDepth 100000 in
theorem add_lt (g1 g2 : Bool) (A1 A2 : Option Addr) (n1 c1 n2 c2 : Nat) (l1 l2 : List Nat) (w : World) (hg : g2 = !g1) (hs1 : Sl w 1 A1 n1 c1 (wds l1)) (hs2 : Sl w 1 A2 n2 c2 (wds l2)) (hb1 : Below_ 4294967296 l1) (hb2 : Below_ 4294967296 l2) (ht1 : Tidy l1) (ht2 : Tidy l2) (hn1 : n1 ≤ 20000) (hn2 : n2 ≤ 20000) (hge : pval 4294967296 l1 < pval 4294967296 l2) :
    Calls Tryd.prog 53 #[.agg #[.bool g1, .slice A1 n1 c1], .agg #[.bool g2, .slice A2 n2 c2]] w fun e w' => ∃ v', e = .returned v' ∧ ZR w' v' (sgn g2 (pval 4294967296 l2 - pval 4294967296 l1)) ∧ Pu w w' := by
  have hW : Pu w (((w.alloc (.cells #[.bool g1, .slice A1 n1 c1] 25)).alloc (.cells #[.bool g2, .slice A2 n2 c2] 25)).alloc (.cells #[.bool false, .slice none 0 0] 25)) := (((Pu.refl w).alloc _).alloc _).alloc _
  have hR : Blk (((w.alloc (.cells #[.bool g1, .slice A1 n1 c1] 25)).alloc (.cells #[.bool g2, .slice A2 n2 c2] 25)).alloc (.cells #[.bool false, .slice none 0 0] 25)) (w.heap.size + 2) 25 #[.bool false, .slice none 0 0] := Blk.at_new _ _ _ (by simp)
  have kA0 : Blk (((w.alloc (.cells #[.bool g1, .slice A1 n1 c1] 25)).alloc (.cells #[.bool g2, .slice A2 n2 c2] 25)).alloc (.cells #[.bool false, .slice none 0 0] 25)) w.heap.size 25 #[.bool g1, .slice A1 n1 c1] := ((Blk.new w _ _).alloc _).alloc _
  have kB0 : Blk (((w.alloc (.cells #[.bool g1, .slice A1 n1 c1] 25)).alloc (.cells #[.bool g2, .slice A2 n2 c2] 25)).alloc (.cells #[.bool false, .slice none 0 0] 25)) (w.heap.size + 1) 25 #[.bool g2, .slice A2 n2 c2] := (Blk.at_new _ _ _ (by simp)).alloc _
  have eg : (g1 == g2) = false := by rw [hg]; cases g1 <;> rfl
  have kcmp := compare_any A1 A2 n1 c1 n2 c2 l1 l2 _ (hs1.pu hW) (hs2.pu hW) (by omega) (by omega) hb1 hb2 ht1 ht2
  have ec : decide (cmpN (pval 4294967296 l1) (pval 4294967296 l2) ≥ 0) = false := by
    unfold cmpN
    rw [if_pos hge]
    rfl
  have ec2 : decide (0 ≤ cmpN (pval 4294967296 l1) (pval 4294967296 l2)) = false := by simpa using ec
  clear hg
  go_enter Tryd.func53, Tryd.ntmps53
  go_wp2_with fail
  refine kcmp.mono ?_
  rintro e u0 ⟨rfl, p0⟩
  have k0 := kA0.pu p0
  have k1 := kB0.pu p0
  have hRd := (hR.pu p0).drew
  have hWd := (hW.trans p0).drew
  have m00 : u0.cell? ⟨w.heap.size, 0, none⟩ = some (.bool g1) := k0.cell 0
  have m01 : u0.cell? ⟨w.heap.size, 1, none⟩ = some (.slice A1 n1 c1) := k0.cell 1
  have m10 : u0.cell? ⟨w.heap.size + 1, 0, none⟩ = some (.bool g2) := k1.cell 0
  have m11 : u0.cell? ⟨w.heap.size + 1, 1, none⟩ = some (.slice A2 n2 c2) := k1.cell 1
  go_wp2_with fail
  go_region_with (first
    | (go_at_call 70; refine (minus_any A2 A1 n2 c2 n1 c1 l2 l1 _ (hs2.pu hWd) (hs1.pu hWd) (by omega) (by omega) hb2 hb1 ht1 (by omega)).mono ?_; rintro e u1 ⟨A3, _, c3, l3, rfl, rfl, hc3, hs3, hb3, hv3, p3⟩; have j0 : u1.cell? ⟨w.heap.size + 1, 0, none⟩ = some (.bool g2) := (k1.drew.pu p3).cell 0; have pw := hWd.trans p3)
    | (go_at_call 38; refine (made_any g2 A3 _ c3 l3 _ hs3 (by omega) hc3 hb3).mono ?_; rintro e u2 ⟨v', rfl, hz', p4⟩; have hz2 := hz'; obtain ⟨g', A', n', c', l', rfl, _⟩ := hz2; have hR2 := (hRd.pu p3).pu p4; have q0 : u2.cell? ⟨w.heap.size + 2, 0, none⟩ = some (.bool false) := hR2.cell 0; have q1 : u2.cell? ⟨w.heap.size + 2, 1, none⟩ = some (.slice none 0 0) := hR2.cell 1; have f0 : u2.frozen? ⟨w.heap.size + 2, 0, none⟩ = false := hR2.frozen 0; have f1 : u2.frozen? ⟨w.heap.size + 2, 1, none⟩ = false := hR2.frozen 1; clear p3 hs3 hb3))
  all_goals
    obtain ⟨r0, r1, rz, rp⟩ := store_num hR2 g' A' n' c'
    rw [hv3] at hz'
    go_wp2
    refine bodyPost_ret (v := .agg #[.bool g', .slice A' n' c']) (by simp [results, Tryd.results53, go_sem, r0, r1]) rfl ⟨_, rfl, rz _ _ hz', rp _ (pw.trans p4) (by omega)⟩

/- zed: add, Sub, Add. -/
theorem pow_up {a b : Nat} (h : a ≤ b) : (4294967296 : Nat) ^ a ≤ 4294967296 ^ b := Nat.pow_le_pow_right (by decide) h

theorem add_any (v1 v2 : Value) (z1 z2 : Int) (w : World) (h1 : ZR w v1 z1) (h2 : ZR w v2 z2) (b1 : z1.natAbs < 4294967296 ^ 20000) (b2 : z2.natAbs < 4294967296 ^ 20000) :
    Calls Tryd.prog 53 #[v1, v2] w fun e w' => ∃ v', e = .returned v' ∧ ZR w' v' (z1 + z2) ∧ Pu w w' := by
  obtain ⟨g1, A1, n1, c1, l1, rfl, hs1, hb1, ht1, hg1, hc1, rfl⟩ := h1
  obtain ⟨g2, A2, n2, c2, l2, rfl, hs2, hb2, ht2, hg2, hc2, rfl⟩ := h2
  rw [sgn_abs] at b1 b2
  have hn1 := tidy_len ht1 b1
  have hn2 := tidy_len ht2 b2
  have ll1 := hs1.wlen
  have ll2 := hs2.wlen
  by_cases hg : g1 = g2
  · have e0 : sgn g1 (pval 4294967296 l1) + sgn g2 (pval 4294967296 l2) = sgn g1 (pval 4294967296 l1 + pval 4294967296 l2) := by
      subst hg
      cases g1 <;> simp [sgn] <;> omega
    rw [e0]
    exact add_same g1 g2 A1 A2 n1 c1 n2 c2 l1 l2 w hg hs1 hs2 hb1 hb2 ht1 ht2 (by omega) (by omega)
  · have hg' : g2 = !g1 := by revert hg; cases g1 <;> cases g2 <;> simp
    rcases Nat.lt_or_ge (pval 4294967296 l1) (pval 4294967296 l2) with hlt | hge
    · have e0 : sgn g1 (pval 4294967296 l1) + sgn g2 (pval 4294967296 l2) = sgn g2 (pval 4294967296 l2 - pval 4294967296 l1) := by
        subst hg'
        cases g1 <;> simp [sgn] <;> omega
      rw [e0]
      exact add_lt g1 g2 A1 A2 n1 c1 n2 c2 l1 l2 w hg' hs1 hs2 hb1 hb2 ht1 ht2 (by omega) (by omega) hlt
    · have e0 : sgn g1 (pval 4294967296 l1) + sgn g2 (pval 4294967296 l2) = sgn g1 (pval 4294967296 l1 - pval 4294967296 l2) := by
        subst hg'
        cases g1 <;> simp [sgn] <;> omega
      rw [e0]
      exact add_ge g1 g2 A1 A2 n1 c1 n2 c2 l1 l2 w hg' hs1 hs2 hb1 hb2 ht1 ht2 (by omega) (by omega) hge

set_option maxHeartbeats 4000000 in
set_option maxRecDepth 100000 in
theorem sub_any (v1 v2 : Value) (z1 z2 : Int) (w : World) (h1 : ZR w v1 z1) (h2 : ZR w v2 z2) (b1 : z1.natAbs < 4294967296 ^ 1000) (b2 : z2.natAbs < 4294967296 ^ 1000) :
    Calls Tryd.prog 26 #[v1, v2] w fun e w' => ∃ v', e = .returned v' ∧ ZR w' v' (z1 - z2) ∧ Pu w w' := by
  have up := pow_up (show 1000 ≤ 20000 by decide)
  have hneg := fun W (H2 : ZR W v2 z2) => neg_any v2 z2 W H2 b2
  have hadd := fun v' W (H1 : ZR W v1 z1) (H2 : ZR W v' (-z2)) => add_any v1 v' z1 (-z2) W H1 H2 (Nat.lt_of_lt_of_le b1 up) (by rw [Int.natAbs_neg]; exact Nat.lt_of_lt_of_le b2 up)
  have h1' := h1
  have h2' := h2
  obtain ⟨g1, A1, n1, c1, l1, rfl, hs1, hb1, ht1, hg1, hc1, _⟩ := h1
  obtain ⟨g2, A2, n2, c2, l2, rfl, hs2, hb2, ht2, hg2, hc2, _⟩ := h2
  have hW : Pu w (((w.alloc (.cells #[.bool g1, .slice A1 n1 c1] 25)).alloc (.cells #[.bool g2, .slice A2 n2 c2] 25)).alloc (.cells #[.bool false, .slice none 0 0] 25)) := (((Pu.refl w).alloc _).alloc _).alloc _
  have hR : Blk (((w.alloc (.cells #[.bool g1, .slice A1 n1 c1] 25)).alloc (.cells #[.bool g2, .slice A2 n2 c2] 25)).alloc (.cells #[.bool false, .slice none 0 0] 25)) (w.heap.size + 2) 25 #[.bool false, .slice none 0 0] := Blk.at_new _ _ _ (by simp)
  have kA0 : Blk (((w.alloc (.cells #[.bool g1, .slice A1 n1 c1] 25)).alloc (.cells #[.bool g2, .slice A2 n2 c2] 25)).alloc (.cells #[.bool false, .slice none 0 0] 25)) w.heap.size 25 #[.bool g1, .slice A1 n1 c1] := ((Blk.new w _ _).alloc _).alloc _
  have hWd := hW.drew
  have Hneg := Lib.hid hneg
  have Hadd := Lib.hid hadd
  clear hneg hadd hs1 hs2
  go_enter Tryd.func26, Tryd.ntmps26
  go_wp2_with fail
  go_region_with (first
    | (go_at_call 29; refine (Hneg.out _ (h2'.pu hWd)).mono ?_; rintro e u1 ⟨v', rfl, hz', p3⟩; have hz2 := hz'; obtain ⟨g', A', n', c', l', rfl, _⟩ := hz2; have j0 : u1.cell? ⟨w.heap.size, 0, none⟩ = some (.bool g1) := (kA0.drew.pu p3).cell 0; have j1 : u1.cell? ⟨w.heap.size, 1, none⟩ = some (.slice A1 n1 c1) := (kA0.drew.pu p3).cell 1)
    | (go_at_call 53; refine (Hadd.out _ _ ((h1'.pu hWd).pu p3) hz').mono ?_; rintro e u2 ⟨v2', rfl, hy', p4⟩; have hy2 := hy'; obtain ⟨g6, A6, n6, c6, l6, rfl, _⟩ := hy2; have hR2 := (hR.drew.pu p3).pu p4; have q0 : u2.cell? ⟨w.heap.size + 2, 0, none⟩ = some (.bool false) := hR2.cell 0; have q1 : u2.cell? ⟨w.heap.size + 2, 1, none⟩ = some (.slice none 0 0) := hR2.cell 1; have f0 : u2.frozen? ⟨w.heap.size + 2, 0, none⟩ = false := hR2.frozen 0; have f1 : u2.frozen? ⟨w.heap.size + 2, 1, none⟩ = false := hR2.frozen 1))
  all_goals
    obtain ⟨r0, r1, rz, rp⟩ := store_num hR2 g6 A6 n6 c6
    go_wp2
    refine bodyPost_ret (v := .agg #[.bool g6, .slice A6 n6 c6]) (by simp [results, Tryd.results26, go_sem, r0, r1]) rfl ⟨_, rfl, rz _ _ hy', rp _ ((hWd.trans p3).trans p4) (by omega)⟩
end Go.Proofs.YtckfnbckoclhpaaDoor
