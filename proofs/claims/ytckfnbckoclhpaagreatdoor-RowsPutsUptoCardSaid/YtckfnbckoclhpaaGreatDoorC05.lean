/- zed: add, two numbers of one sign. zed: add, two numbers of two signs, the first not the smaller. zed: add, two numbers of two signs, the first smaller. zed: add, Sub, Add. zed: a.Add(b). -/
import Derived.Test.YtckfnbckoclhpaaGreatDoorC04
import Derived.Test.YtckfnbckoclhpaaGreatDoorC02
namespace Go.Proofs.YtckfnbckoclhpaaGreatDoor
section
set_option linter.unusedVariables false
open Go.RowKit
/- zed: add, two numbers of one sign. -/
set_option maxHeartbeats 8000000 in
set_option maxRecDepth 100000 in
theorem add_same (g1 g2 : Bool) (A1 A2 : Option Addr) (n1 c1 n2 c2 : Nat) (l1 l2 : List Nat) (w : World) (hg : g1 = g2) (hs1 : Sl w 1 A1 n1 c1 (wds l1)) (hs2 : Sl w 1 A2 n2 c2 (wds l2)) (hb1 : Below_ 4294967296 l1) (hb2 : Below_ 4294967296 l2) (ht1 : Tidy l1) (ht2 : Tidy l2) (hn1 : n1 ≤ 90000) (hn2 : n2 ≤ 90000) :
    Calls Tryz.prog 83 #[.agg #[.bool g1, .slice A1 n1 c1], .agg #[.bool g2, .slice A2 n2 c2]] w fun e w' => ∃ v', e = .returned v' ∧ ZR w' v' (sgn g1 (pval 4294967296 l1 + pval 4294967296 l2)) ∧ Pu w w' := by
  have hW : Pu w (((w.alloc (.cells #[.bool g1, .slice A1 n1 c1] 30)).alloc (.cells #[.bool g2, .slice A2 n2 c2] 30)).alloc (.cells #[.bool false, .slice none 0 0] 30)) := (((Pu.refl w).alloc _).alloc _).alloc _
  have hR : Blk (((w.alloc (.cells #[.bool g1, .slice A1 n1 c1] 30)).alloc (.cells #[.bool g2, .slice A2 n2 c2] 30)).alloc (.cells #[.bool false, .slice none 0 0] 30)) (w.heap.size + 2) 30 #[.bool false, .slice none 0 0] := Blk.at_new _ _ _ (by simp)
  have kA0 : Blk (((w.alloc (.cells #[.bool g1, .slice A1 n1 c1] 30)).alloc (.cells #[.bool g2, .slice A2 n2 c2] 30)).alloc (.cells #[.bool false, .slice none 0 0] 30)) w.heap.size 30 #[.bool g1, .slice A1 n1 c1] := ((Blk.new w _ _).alloc _).alloc _
  have kB0 : Blk (((w.alloc (.cells #[.bool g1, .slice A1 n1 c1] 30)).alloc (.cells #[.bool g2, .slice A2 n2 c2] 30)).alloc (.cells #[.bool false, .slice none 0 0] 30)) (w.heap.size + 1) 30 #[.bool g2, .slice A2 n2 c2] := (Blk.at_new _ _ _ (by simp)).alloc _
  subst hg
  have eg : (g1 == g1) = true := by simp
  have hWd := hW.drew
  have hRd := hR.drew
  have k0 := kA0.drew
  go_enter Tryz.func83, Tryz.ntmps83
  go_wp2_with fail
  go_region_with (first
    | (go_at_call 125; refine (plus_any A1 A2 n1 c1 n2 c2 l1 l2 _ (hs1.pu hWd) (hs2.pu hWd) (by omega) (by omega) hb1 hb2).mono ?_; rintro e u1 ⟨A3, n3, c3, l3, rfl, hn3, hc3, hs3, hb3, hv3, hU3, p3⟩; have j0 : u1.cell? ⟨w.heap.size, 0, none⟩ = some (.bool g1) := (k0.pu p3).cell 0; have pw := hWd.trans p3)
    | (go_at_call 63; refine (made_any g1 A3 _ c3 l3 _ hs3 (by omega) hc3 hb3 hU3).mono ?_; rintro e u2 ⟨v', rfl, hz', p4⟩; have hz2 := hz'; obtain ⟨g', A', n', c', l', rfl, _⟩ := hz2; have hR2 := (hRd.pu p3).pu p4; have q0 : u2.cell? ⟨w.heap.size + 2, 0, none⟩ = some (.bool false) := hR2.cell 0; have q1 : u2.cell? ⟨w.heap.size + 2, 1, none⟩ = some (.slice none 0 0) := hR2.cell 1; have f0 : u2.frozen? ⟨w.heap.size + 2, 0, none⟩ = false := hR2.frozen 0; have f1 : u2.frozen? ⟨w.heap.size + 2, 1, none⟩ = false := hR2.frozen 1; clear p3 hs3 hb3))
  all_goals
    obtain ⟨r0, r1, rz, rp⟩ := store_num hR2 g' A' n' c'
    rw [hv3] at hz'
    go_wp2
    refine bodyPost_ret (v := .agg #[.bool g', .slice A' n' c']) (by simp [results, Tryz.results83, go_sem, r0, r1]) rfl ⟨_, rfl, rz _ _ hz', rp _ (pw.trans p4) (by omega)⟩
/- zed: add, two numbers of two signs, the first not the smaller. -/
set_option maxHeartbeats 8000000 in
set_option maxRecDepth 100000 in
theorem add_ge (g1 g2 : Bool) (A1 A2 : Option Addr) (n1 c1 n2 c2 : Nat) (l1 l2 : List Nat) (w : World) (hg : g2 = !g1) (hs1 : Sl w 1 A1 n1 c1 (wds l1)) (hs2 : Sl w 1 A2 n2 c2 (wds l2)) (hb1 : Below_ 4294967296 l1) (hb2 : Below_ 4294967296 l2) (ht1 : Tidy l1) (ht2 : Tidy l2) (hn1 : n1 ≤ 90000) (hn2 : n2 ≤ 90000) (hge : pval 4294967296 l2 ≤ pval 4294967296 l1) :
    Calls Tryz.prog 83 #[.agg #[.bool g1, .slice A1 n1 c1], .agg #[.bool g2, .slice A2 n2 c2]] w fun e w' => ∃ v', e = .returned v' ∧ ZR w' v' (sgn g1 (pval 4294967296 l1 - pval 4294967296 l2)) ∧ Pu w w' := by
  have hW : Pu w (((w.alloc (.cells #[.bool g1, .slice A1 n1 c1] 30)).alloc (.cells #[.bool g2, .slice A2 n2 c2] 30)).alloc (.cells #[.bool false, .slice none 0 0] 30)) := (((Pu.refl w).alloc _).alloc _).alloc _
  have hR : Blk (((w.alloc (.cells #[.bool g1, .slice A1 n1 c1] 30)).alloc (.cells #[.bool g2, .slice A2 n2 c2] 30)).alloc (.cells #[.bool false, .slice none 0 0] 30)) (w.heap.size + 2) 30 #[.bool false, .slice none 0 0] := Blk.at_new _ _ _ (by simp)
  have kA0 : Blk (((w.alloc (.cells #[.bool g1, .slice A1 n1 c1] 30)).alloc (.cells #[.bool g2, .slice A2 n2 c2] 30)).alloc (.cells #[.bool false, .slice none 0 0] 30)) w.heap.size 30 #[.bool g1, .slice A1 n1 c1] := ((Blk.new w _ _).alloc _).alloc _
  have kB0 : Blk (((w.alloc (.cells #[.bool g1, .slice A1 n1 c1] 30)).alloc (.cells #[.bool g2, .slice A2 n2 c2] 30)).alloc (.cells #[.bool false, .slice none 0 0] 30)) (w.heap.size + 1) 30 #[.bool g2, .slice A2 n2 c2] := (Blk.at_new _ _ _ (by simp)).alloc _
  have eg : (g1 == g2) = false := by rw [hg]; cases g1 <;> rfl
  have kcmp := compare_any A1 A2 n1 c1 n2 c2 l1 l2 _ (hs1.pu hW) (hs2.pu hW) (by omega) (by omega) hb1 hb2 ht1 ht2
  have ec : decide (cmpN (pval 4294967296 l1) (pval 4294967296 l2) ≥ 0) = true := by
    unfold cmpN
    rw [if_neg (by omega)]
    split <;> simp
  have ec2 : decide (0 ≤ cmpN (pval 4294967296 l1) (pval 4294967296 l2)) = true := by simpa using ec
  clear hg
  go_enter Tryz.func83, Tryz.ntmps83
  go_wp2_with fail
  refine kcmp.mono ?_
  rintro e u0 ⟨rfl, p0⟩
  have k0 := kA0.pu p0
  have k1 := kB0.pu p0
  have hRd := (hR.pu p0).drew
  have hWd := (hW.trans p0).drew
  have m00 : u0.cell? ⟨w.heap.size, 0, none⟩ = some (.bool g1) := k0.cell 0
  have m01 : u0.cell? ⟨w.heap.size, 1, none⟩ = some (.slice A1 n1 c1) := k0.cell 1
  have m10 : u0.cell? ⟨w.heap.size + 1, 0, none⟩ = some (.bool g2) := k1.cell 0
  have m11 : u0.cell? ⟨w.heap.size + 1, 1, none⟩ = some (.slice A2 n2 c2) := k1.cell 1
  go_wp2_with fail
  go_region_with (first
    | (go_at_call 127; refine (minus_any A1 A2 n1 c1 n2 c2 l1 l2 _ (hs1.pu hWd) (hs2.pu hWd) (by omega) (by omega) hb1 hb2 ht2 hge).mono ?_; rintro e u1 ⟨A3, _, c3, l3, rfl, rfl, hc3, hs3, hb3, hv3, hU3, p3⟩; have j0 : u1.cell? ⟨w.heap.size, 0, none⟩ = some (.bool g1) := (k0.drew.pu p3).cell 0; have pw := hWd.trans p3)
    | (go_at_call 63; refine (made_any g1 A3 _ c3 l3 _ hs3 (by omega) hc3 hb3 hU3).mono ?_; rintro e u2 ⟨v', rfl, hz', p4⟩; have hz2 := hz'; obtain ⟨g', A', n', c', l', rfl, _⟩ := hz2; have hR2 := (hRd.pu p3).pu p4; have q0 : u2.cell? ⟨w.heap.size + 2, 0, none⟩ = some (.bool false) := hR2.cell 0; have q1 : u2.cell? ⟨w.heap.size + 2, 1, none⟩ = some (.slice none 0 0) := hR2.cell 1; have f0 : u2.frozen? ⟨w.heap.size + 2, 0, none⟩ = false := hR2.frozen 0; have f1 : u2.frozen? ⟨w.heap.size + 2, 1, none⟩ = false := hR2.frozen 1; clear p3 hs3 hb3))
  all_goals
    obtain ⟨r0, r1, rz, rp⟩ := store_num hR2 g' A' n' c'
    rw [hv3] at hz'
    go_wp2
    refine bodyPost_ret (v := .agg #[.bool g', .slice A' n' c']) (by simp [results, Tryz.results83, go_sem, r0, r1]) rfl ⟨_, rfl, rz _ _ hz', rp _ (pw.trans p4) (by omega)⟩
/- zed: add, two numbers of two signs, the first smaller. -/
set_option maxHeartbeats 8000000 in
set_option maxRecDepth 100000 in
theorem add_lt (g1 g2 : Bool) (A1 A2 : Option Addr) (n1 c1 n2 c2 : Nat) (l1 l2 : List Nat) (w : World) (hg : g2 = !g1) (hs1 : Sl w 1 A1 n1 c1 (wds l1)) (hs2 : Sl w 1 A2 n2 c2 (wds l2)) (hb1 : Below_ 4294967296 l1) (hb2 : Below_ 4294967296 l2) (ht1 : Tidy l1) (ht2 : Tidy l2) (hn1 : n1 ≤ 90000) (hn2 : n2 ≤ 90000) (hge : pval 4294967296 l1 < pval 4294967296 l2) :
    Calls Tryz.prog 83 #[.agg #[.bool g1, .slice A1 n1 c1], .agg #[.bool g2, .slice A2 n2 c2]] w fun e w' => ∃ v', e = .returned v' ∧ ZR w' v' (sgn g2 (pval 4294967296 l2 - pval 4294967296 l1)) ∧ Pu w w' := by
  have hW : Pu w (((w.alloc (.cells #[.bool g1, .slice A1 n1 c1] 30)).alloc (.cells #[.bool g2, .slice A2 n2 c2] 30)).alloc (.cells #[.bool false, .slice none 0 0] 30)) := (((Pu.refl w).alloc _).alloc _).alloc _
  have hR : Blk (((w.alloc (.cells #[.bool g1, .slice A1 n1 c1] 30)).alloc (.cells #[.bool g2, .slice A2 n2 c2] 30)).alloc (.cells #[.bool false, .slice none 0 0] 30)) (w.heap.size + 2) 30 #[.bool false, .slice none 0 0] := Blk.at_new _ _ _ (by simp)
  have kA0 : Blk (((w.alloc (.cells #[.bool g1, .slice A1 n1 c1] 30)).alloc (.cells #[.bool g2, .slice A2 n2 c2] 30)).alloc (.cells #[.bool false, .slice none 0 0] 30)) w.heap.size 30 #[.bool g1, .slice A1 n1 c1] := ((Blk.new w _ _).alloc _).alloc _
  have kB0 : Blk (((w.alloc (.cells #[.bool g1, .slice A1 n1 c1] 30)).alloc (.cells #[.bool g2, .slice A2 n2 c2] 30)).alloc (.cells #[.bool false, .slice none 0 0] 30)) (w.heap.size + 1) 30 #[.bool g2, .slice A2 n2 c2] := (Blk.at_new _ _ _ (by simp)).alloc _
  have eg : (g1 == g2) = false := by rw [hg]; cases g1 <;> rfl
  have kcmp := compare_any A1 A2 n1 c1 n2 c2 l1 l2 _ (hs1.pu hW) (hs2.pu hW) (by omega) (by omega) hb1 hb2 ht1 ht2
  have ec : decide (cmpN (pval 4294967296 l1) (pval 4294967296 l2) ≥ 0) = false := by
    unfold cmpN
    rw [if_pos hge]
    rfl
  have ec2 : decide (0 ≤ cmpN (pval 4294967296 l1) (pval 4294967296 l2)) = false := by simpa using ec
  clear hg
  go_enter Tryz.func83, Tryz.ntmps83
  go_wp2_with fail
  refine kcmp.mono ?_
  rintro e u0 ⟨rfl, p0⟩
  have k0 := kA0.pu p0
  have k1 := kB0.pu p0
  have hRd := (hR.pu p0).drew
  have hWd := (hW.trans p0).drew
  have m00 : u0.cell? ⟨w.heap.size, 0, none⟩ = some (.bool g1) := k0.cell 0
  have m01 : u0.cell? ⟨w.heap.size, 1, none⟩ = some (.slice A1 n1 c1) := k0.cell 1
  have m10 : u0.cell? ⟨w.heap.size + 1, 0, none⟩ = some (.bool g2) := k1.cell 0
  have m11 : u0.cell? ⟨w.heap.size + 1, 1, none⟩ = some (.slice A2 n2 c2) := k1.cell 1
  go_wp2_with fail
  go_region_with (first
    | (go_at_call 127; refine (minus_any A2 A1 n2 c2 n1 c1 l2 l1 _ (hs2.pu hWd) (hs1.pu hWd) (by omega) (by omega) hb2 hb1 ht1 (by omega)).mono ?_; rintro e u1 ⟨A3, _, c3, l3, rfl, rfl, hc3, hs3, hb3, hv3, hU3, p3⟩; have j0 : u1.cell? ⟨w.heap.size + 1, 0, none⟩ = some (.bool g2) := (k1.drew.pu p3).cell 0; have pw := hWd.trans p3)
    | (go_at_call 63; refine (made_any g2 A3 _ c3 l3 _ hs3 (by omega) hc3 hb3 hU3).mono ?_; rintro e u2 ⟨v', rfl, hz', p4⟩; have hz2 := hz'; obtain ⟨g', A', n', c', l', rfl, _⟩ := hz2; have hR2 := (hRd.pu p3).pu p4; have q0 : u2.cell? ⟨w.heap.size + 2, 0, none⟩ = some (.bool false) := hR2.cell 0; have q1 : u2.cell? ⟨w.heap.size + 2, 1, none⟩ = some (.slice none 0 0) := hR2.cell 1; have f0 : u2.frozen? ⟨w.heap.size + 2, 0, none⟩ = false := hR2.frozen 0; have f1 : u2.frozen? ⟨w.heap.size + 2, 1, none⟩ = false := hR2.frozen 1; clear p3 hs3 hb3))
  all_goals
    obtain ⟨r0, r1, rz, rp⟩ := store_num hR2 g' A' n' c'
    rw [hv3] at hz'
    go_wp2
    refine bodyPost_ret (v := .agg #[.bool g', .slice A' n' c']) (by simp [results, Tryz.results83, go_sem, r0, r1]) rfl ⟨_, rfl, rz _ _ hz', rp _ (pw.trans p4) (by omega)⟩
/- zed: add, Sub, Add. -/
theorem pow_up {a b : Nat} (h : a ≤ b) : (4294967296 : Nat) ^ a ≤ 4294967296 ^ b := Nat.pow_le_pow_right (by decide) h
theorem add_any (v1 v2 : Value) (z1 z2 : Int) (w : World) (h1 : ZR w v1 z1) (h2 : ZR w v2 z2) (b1 : z1.natAbs < 4294967296 ^ 90000) (b2 : z2.natAbs < 4294967296 ^ 90000) :
    Calls Tryz.prog 83 #[v1, v2] w fun e w' => ∃ v', e = .returned v' ∧ ZR w' v' (z1 + z2) ∧ Pu w w' := by
  obtain ⟨g1, A1, n1, c1, l1, rfl, hs1, hb1, ht1, hg1, ⟨hc1, hU1⟩, rfl⟩ := h1
  obtain ⟨g2, A2, n2, c2, l2, rfl, hs2, hb2, ht2, hg2, ⟨hc2, hU2⟩, rfl⟩ := h2
  rw [sgn_abs] at b1 b2
  have hn1 := tidy_len ht1 b1
  have hn2 := tidy_len ht2 b2
  have ll1 := hs1.wlen
  have ll2 := hs2.wlen
  by_cases hg : g1 = g2
  · have e0 : sgn g1 (pval 4294967296 l1) + sgn g2 (pval 4294967296 l2) = sgn g1 (pval 4294967296 l1 + pval 4294967296 l2) := by
      subst hg
      cases g1 <;> simp [sgn] <;> omega
    rw [e0]
    exact add_same g1 g2 A1 A2 n1 c1 n2 c2 l1 l2 w hg hs1 hs2 hb1 hb2 ht1 ht2 (by omega) (by omega)
  · have hg' : g2 = !g1 := by revert hg; cases g1 <;> cases g2 <;> simp
    rcases Nat.lt_or_ge (pval 4294967296 l1) (pval 4294967296 l2) with hlt | hge
    · have e0 : sgn g1 (pval 4294967296 l1) + sgn g2 (pval 4294967296 l2) = sgn g2 (pval 4294967296 l2 - pval 4294967296 l1) := by
        subst hg'
        cases g1 <;> simp [sgn] <;> omega
      rw [e0]
      exact add_lt g1 g2 A1 A2 n1 c1 n2 c2 l1 l2 w hg' hs1 hs2 hb1 hb2 ht1 ht2 (by omega) (by omega) hlt
    · have e0 : sgn g1 (pval 4294967296 l1) + sgn g2 (pval 4294967296 l2) = sgn g1 (pval 4294967296 l1 - pval 4294967296 l2) := by
        subst hg'
        cases g1 <;> simp [sgn] <;> omega
      rw [e0]
      exact add_ge g1 g2 A1 A2 n1 c1 n2 c2 l1 l2 w hg' hs1 hs2 hb1 hb2 ht1 ht2 (by omega) (by omega) hge
set_option maxHeartbeats 4000000 in
set_option maxRecDepth 100000 in
theorem sub_any (v1 v2 : Value) (z1 z2 : Int) (w : World) (h1 : ZR w v1 z1) (h2 : ZR w v2 z2) (b1 : z1.natAbs < 4294967296 ^ 40000) (b2 : z2.natAbs < 4294967296 ^ 40000) :
    Calls Tryz.prog 174 #[v1, v2] w fun e w' => ∃ v', e = .returned v' ∧ ZR w' v' (z1 - z2) ∧ Pu w w' := by
  have up := pow_up (show 40000 ≤ 90000 by decide)
  have hneg := fun W (H2 : ZR W v2 z2) => neg_any v2 z2 W H2 b2
  have hadd := fun v' W (H1 : ZR W v1 z1) (H2 : ZR W v' (-z2)) => add_any v1 v' z1 (-z2) W H1 H2 (Nat.lt_of_lt_of_le b1 up) (by rw [Int.natAbs_neg]; exact Nat.lt_of_lt_of_le b2 up)
  have h1' := h1
  have h2' := h2
  obtain ⟨g1, A1, n1, c1, l1, rfl, hs1, hb1, ht1, hg1, hc1, _⟩ := h1
  obtain ⟨g2, A2, n2, c2, l2, rfl, hs2, hb2, ht2, hg2, hc2, _⟩ := h2
  have hW : Pu w (((w.alloc (.cells #[.bool g1, .slice A1 n1 c1] 30)).alloc (.cells #[.bool g2, .slice A2 n2 c2] 30)).alloc (.cells #[.bool false, .slice none 0 0] 30)) := (((Pu.refl w).alloc _).alloc _).alloc _
  have hR : Blk (((w.alloc (.cells #[.bool g1, .slice A1 n1 c1] 30)).alloc (.cells #[.bool g2, .slice A2 n2 c2] 30)).alloc (.cells #[.bool false, .slice none 0 0] 30)) (w.heap.size + 2) 30 #[.bool false, .slice none 0 0] := Blk.at_new _ _ _ (by simp)
  have kA0 : Blk (((w.alloc (.cells #[.bool g1, .slice A1 n1 c1] 30)).alloc (.cells #[.bool g2, .slice A2 n2 c2] 30)).alloc (.cells #[.bool false, .slice none 0 0] 30)) w.heap.size 30 #[.bool g1, .slice A1 n1 c1] := ((Blk.new w _ _).alloc _).alloc _
  have hWd := hW.drew
  have Hneg := Lib.hid hneg
  have Hadd := Lib.hid hadd
  clear hneg hadd hs1 hs2
  go_enter Tryz.func174, Tryz.ntmps174
  go_wp2_with fail
  go_region_with (first
    | (go_at_call 84; refine (Hneg.out _ (h2'.pu hWd)).mono ?_; rintro e u1 ⟨v', rfl, hz', p3⟩; have hz2 := hz'; obtain ⟨g', A', n', c', l', rfl, _⟩ := hz2; have j0 : u1.cell? ⟨w.heap.size, 0, none⟩ = some (.bool g1) := (kA0.drew.pu p3).cell 0; have j1 : u1.cell? ⟨w.heap.size, 1, none⟩ = some (.slice A1 n1 c1) := (kA0.drew.pu p3).cell 1)
    | (go_at_call 83; refine (Hadd.out _ _ ((h1'.pu hWd).pu p3) hz').mono ?_; rintro e u2 ⟨v2', rfl, hy', p4⟩; have hy2 := hy'; obtain ⟨g6, A6, n6, c6, l6, rfl, _⟩ := hy2; have hR2 := (hR.drew.pu p3).pu p4; have q0 : u2.cell? ⟨w.heap.size + 2, 0, none⟩ = some (.bool false) := hR2.cell 0; have q1 : u2.cell? ⟨w.heap.size + 2, 1, none⟩ = some (.slice none 0 0) := hR2.cell 1; have f0 : u2.frozen? ⟨w.heap.size + 2, 0, none⟩ = false := hR2.frozen 0; have f1 : u2.frozen? ⟨w.heap.size + 2, 1, none⟩ = false := hR2.frozen 1))
  all_goals
    obtain ⟨r0, r1, rz, rp⟩ := store_num hR2 g6 A6 n6 c6
    go_wp2
    refine bodyPost_ret (v := .agg #[.bool g6, .slice A6 n6 c6]) (by simp [results, Tryz.results174, go_sem, r0, r1]) rfl ⟨_, rfl, rz _ _ hy', rp _ ((hWd.trans p3).trans p4) (by omega)⟩
end
section
set_option linter.unusedVariables false
open Go.RowKit
set_option maxHeartbeats 2500000 in
set_option maxRecDepth 100000 in
theorem addv_any (v1 v2 : Value) (z1 z2 : Int) (q : Nat) (w : World) (h1 : ZR w v1 z1) (h2 : ZR w v2 z2) (b1 : z1.natAbs < 4294967296 ^ 90000) (b2 : z2.natAbs < 4294967296 ^ 90000) (hq : Blk w q 30 v2.cells) :
    Calls Tryz.prog 49 #[v1, .slice (some ⟨q, 0, none⟩) 1 1] w fun e w' => ∃ v', e = .returned v' ∧ ZR w' v' (z1 + z2) ∧ Pu w w' := by
  have hadd := fun v W (H1 : ZR W v z1) (H2 : ZR W v2 z2) => add_any v v2 z1 z2 W H1 H2 b1 b2
  have h1' := h1
  have h2' := h2
  obtain ⟨g1, A1, n1, c1, l1, rfl, hs1, hb1, ht1, hg1, ⟨hc1, hU1⟩, rfl⟩ := h1
  obtain ⟨g2, A2, n2, c2, l2, rfl, hs2, hb2, ht2, hg2, ⟨hc2, hU2⟩, rfl⟩ := h2
  rw [sgn_abs] at b1 b2
  have hn1 := tidy_len ht1 b1
  have ll1 := hs1.wlen
  have hq' : Blk w q 30 #[.bool g2, .slice A2 n2 c2] := hq
  have hW : Pu w ((w.alloc (.cells #[.bool g1, .slice A1 n1 c1] 30)).alloc (.cells #[.bool false, .slice none 0 0] 30)) := ((Pu.refl w).alloc _).alloc _
  have hR : Blk ((w.alloc (.cells #[.bool g1, .slice A1 n1 c1] 30)).alloc (.cells #[.bool false, .slice none 0 0] 30)) (w.heap.size + 1) 30 #[.bool false, .slice none 0 0] := Blk.at_new _ _ _ (by simp)
  have kA0 : Blk ((w.alloc (.cells #[.bool g1, .slice A1 n1 c1] 30)).alloc (.cells #[.bool false, .slice none 0 0] 30)) w.heap.size 30 #[.bool g1, .slice A1 n1 c1] := (Blk.new w _ _).alloc _
  have hWd := hW.drew
  go_enter Tryz.func49, Tryz.ntmps49
  go_wp2_with fail
  have hRa := hR.alloc (.cells #[.bool false, .slice none 0 0] 30)
  have kAa := kA0.alloc (.cells #[.bool false, .slice none 0 0] 30)
  have hWa := hW.alloc (.cells #[.bool false, .slice none 0 0] 30)
  have hO : Blk ((((w.alloc (.cells #[.bool g1, .slice A1 n1 c1] 30)).alloc (.cells #[.bool false, .slice none 0 0] 30)).alloc (.cells #[.bool false, .slice none 0 0] 30))) (w.heap.size + 1 + 1) 30 #[.bool false, .slice none 0 0] := Blk.at_new _ _ _ (by simp)
  have hqw := hq'.lt
  have Hadd := Lib.hid hadd
  clear hadd
  rename_i K HK
  have key : ∀ (ob : Nat) (A3 : Option Addr) (c3 : Nat) (W : World), Blk W ob 30 #[.bool g1, .slice A3 n1 c3] → ZR W (.agg #[.bool g1, .slice A3 n1 c3]) (sgn g1 (pval 4294967296 l1)) → ZR W (.agg #[.bool g2, .slice A2 n2 c2]) (sgn g2 (pval 4294967296 l2)) → Blk W (w.heap.size + 1) 30 #[.bool false, .slice none 0 0] → Blk W q 30 #[.bool g2, .slice A2 n2 c2] → Pu w W → w.heap.size + 1 < ob → q < w.heap.size →
      K { tmps := #[.agg #[.bool g1, .slice A1 n1 c1], .slice (some ⟨q, 0, none⟩) 1 1, .pointer (some ⟨w.heap.size, 0, none⟩), undef, .pointer (some ⟨w.heap.size + 1, 0, none⟩), .pointer (some ⟨ob, 0, none⟩), undef, undef, .pointer (some ⟨w.heap.size, 0, none⟩), .bool g1, .pointer (some ⟨w.heap.size, 1, none⟩), .slice A1 n1 c1, .slice A3 n1 c3, .agg #[.bool g1, .slice A3 n1 c3], undef, undef, undef, undef, undef, undef, undef, undef, undef, undef, undef], defers := [] } W := by
    intro ob A3 c3 W xO x1 x2 xR xQ xP hob hqq
    apply HK
    go_wp2_with fail
    go_loopw [16] (fun v ws => ∃ (j : Nat) (g5 : Bool) (A5 : Option Addr) (n5 c5 : Nat), j ≤ 1 ∧ v = .int .i64 j ∧ Blk ws ob 30 #[.bool g5, .slice A5 n5 c5] ∧ ZR ws (.agg #[.bool g5, .slice A5 n5 c5]) (if j = 0 then sgn g1 (pval 4294967296 l1) else sgn g1 (pval 4294967296 l1) + sgn g2 (pval 4294967296 l2)) ∧ ZR ws (.agg #[.bool g2, .slice A2 n2 c2]) (sgn g2 (pval 4294967296 l2)) ∧ Blk ws (w.heap.size + 1) 30 #[.bool false, .slice none 0 0] ∧ Blk ws q 30 #[.bool g2, .slice A2 n2 c2] ∧ Pu w ws) (fun v _ => 1 - (intOf v).toNat)
    case atStart => exact ⟨0, g1, A3, n1, c3, by omega, rfl, xO, x1, x2, xR, xQ, xP⟩
    case round =>
      clear xO x1 x2 xR xQ xP
      obtain ⟨j, g5, A5, n5, c5, hj, rfl, yO, y1, y2, yR, yQ, yP⟩ := hrel
      rcases (show j = 0 ∨ j = 1 by omega) with rfl | rfl
      · have r0 : wr.cell? ⟨q, 0, none⟩ = some (.bool g2) := yQ.cell 0
        have r1 : wr.cell? ⟨q, 1, none⟩ = some (.slice A2 n2 c2) := yQ.cell 1
        have r2 : wr.cell? ⟨ob, 0, none⟩ = some (.bool g5) := yO.cell 0
        have r3 : wr.cell? ⟨ob, 1, none⟩ = some (.slice A5 n5 c5) := yO.cell 1
        have hlo := yO.lt
        have hal : Pu wr (wr.alloc (.cells #[.bool g2, .slice A2 n2 c2] 30)) := (Pu.refl wr).alloc _
        have y1' : ZR (wr.alloc (.cells #[.bool g2, .slice A2 n2 c2] 30)) (.agg #[.bool g5, .slice A5 n5 c5]) (sgn g1 (pval 4294967296 l1)) := y1.pu hal
        go_wp2_with fail
        refine (Hadd.out _ _ y1' (y2.pu hal)).mono ?_
        rintro e wa ⟨va, rfl, yz, yp⟩
        have yz' := yz
        obtain ⟨g7, A7, n7, c7, l7, rfl, _⟩ := yz'
        have yp2 := hal.trans yp
        have yO2 := yO.pu yp2
        have q0 : wa.cell? ⟨ob, 0, none⟩ = some (.bool g5) := yO2.cell 0
        have q1 : wa.cell? ⟨ob, 1, none⟩ = some (.slice A5 n5 c5) := yO2.cell 1
        have f0 : wa.frozen? ⟨ob, 0, none⟩ = false := yO2.frozen 0
        have f1 : wa.frozen? ⟨ob, 1, none⟩ = false := yO2.frozen 1
        have yF : Fr (fun k => k = ob) wa ((wa.setCell ⟨ob, 0, none⟩ (.bool g7)).setCell ⟨ob, 1, none⟩ (.slice A7 n7 c7)) := (Fr.one wa _ 0 _).trans (Fr.one _ _ 1 _)
        have yO3 : Blk ((wa.setCell ⟨ob, 0, none⟩ (.bool g7)).setCell ⟨ob, 1, none⟩ (.slice A7 n7 c7)) ob 30 #[.bool g7, .slice A7 n7 c7] := by have := (yO2.set_ 0 (.bool g7)).set_ 1 (.slice A7 n7 c7); simpa using this
        have e1 := yz.frBlk yO2 (by simp) yF
        have e2 := (y2.pu yp2).frBlk yO2 (by simp) yF
        have e3 := (yR.pu yp2).fr yF (by omega)
        have e4 := (yQ.pu yp2).fr yF (by omega)
        have e5 := (yP.trans yp2).step yF (fun k e => by omega)
        clear yO yO2 y1 y1' y2 yR yQ yP yz yp yp2 yF
        go_wp2
        go_roundw
        case rel => exact ⟨1, g7, A7, n7, c7, by omega, rfl, yO3, e1, e2, e3, e4, e5⟩
        case measure => simp [intOf]
      · have r2 : wr.cell? ⟨ob, 0, none⟩ = some (.bool g5) := yO.cell 0
        have r3 : wr.cell? ⟨ob, 1, none⟩ = some (.slice A5 n5 c5) := yO.cell 1
        have q0 : wr.cell? ⟨w.heap.size + 1, 0, none⟩ = some (.bool false) := yR.cell 0
        have q1 : wr.cell? ⟨w.heap.size + 1, 1, none⟩ = some (.slice none 0 0) := yR.cell 1
        have f0 : wr.frozen? ⟨w.heap.size + 1, 0, none⟩ = false := yR.frozen 0
        have f1 : wr.frozen? ⟨w.heap.size + 1, 1, none⟩ = false := yR.frozen 1
        obtain ⟨s0, s1, sz, sp⟩ := store_num yR g5 A5 n5 c5
        go_wp2
        refine bodyPost_ret (v := .agg #[.bool g5, .slice A5 n5 c5]) (by simp [results, Tryz.results49, go_sem, s0, s1]) rfl ⟨_, rfl, sz _ _ y1, sp _ yP (by omega)⟩
  have Key := Lib.hid key
  clear key
  go_region_with (first
    | (go_at_call 82; refine (clone_words A1 n1 c1 l1 _ (by first | exact hs1.pu hW.drew | exact hs1.pu hWa.drew) (by omega)).mono ?_; rintro e u1 ⟨A3, c3, rfl, ho3, p3⟩; have pw : Pu w u1 := (by first | exact hW.drew.trans p3 | exact hWa.drew.trans p3); have j0 : u1.cell? ⟨w.heap.size, 0, none⟩ = some (.bool g1) := (by first | exact (kA0.drew.pu p3).cell 0 | exact (kAa.drew.pu p3).cell 0); have kR : Blk u1 (w.heap.size + 1) 30 #[.bool false, .slice none 0 0] := (by first | exact hR.drew.pu p3 | exact hRa.drew.pu p3); have hx1 : w.heap.size + 1 < u1.heap.size := kR.lt; have hx0 : w.heap.size < u1.heap.size := (by omega); first | (have kO := hO.drew.pu p3; have q0 : u1.cell? ⟨w.heap.size + 1 + 1, 0, none⟩ = some (.bool false) := kO.cell 0; have q1 : u1.cell? ⟨w.heap.size + 1 + 1, 1, none⟩ = some (.slice none 0 0) := kO.cell 1; have f0 : u1.frozen? ⟨w.heap.size + 1 + 1, 0, none⟩ = false := kO.frozen 0; have f1 : u1.frozen? ⟨w.heap.size + 1 + 1, 1, none⟩ = false := kO.frozen 1) | skip))
  all_goals
    have z1u : ZR u1 (.agg #[.bool g1, .slice A3 n1 c3]) (sgn g1 (pval 4294967296 l1)) := ⟨g1, A3, n1, c3, l1, rfl, Sl.of_own ho3, hb1, ht1, hg1, ⟨(own_le ho3).2, W32.of_own ho3⟩, rfl⟩
    have z2u := h2'.pu pw
    have kQ := hq'.pu pw
  all_goals first
    | exact Key.out u1.heap.size A3 c3 _ (Blk.new _ _ _) (z1u.pu ((Pu.refl _).alloc _)) (z2u.pu ((Pu.refl _).alloc _)) (kR.alloc _) (kQ.alloc _) (pw.alloc _) (by omega) (by omega)
    | (have xO : Blk ((u1.setCell ⟨w.heap.size + 1 + 1, 0, none⟩ (.bool g1)).setCell ⟨w.heap.size + 1 + 1, 1, none⟩ (.slice A3 n1 c3)) (w.heap.size + 1 + 1) 30 #[.bool g1, .slice A3 n1 c3] := by have := (kO.set_ 0 (.bool g1)).set_ 1 (.slice A3 n1 c3); simpa using this
       have xF : Fr (fun k => k = w.heap.size + 1 + 1) u1 ((u1.setCell ⟨w.heap.size + 1 + 1, 0, none⟩ (.bool g1)).setCell ⟨w.heap.size + 1 + 1, 1, none⟩ (.slice A3 n1 c3)) := (Fr.one u1 _ 0 _).trans (Fr.one _ _ 1 _)
       exact Key.out (w.heap.size + 1 + 1) A3 c3 _ xO (z1u.frBlk kO (by simp) xF) (z2u.frBlk kO (by simp) xF) (kR.fr xF (by omega)) (kQ.fr xF (by omega)) (pw.step xF (fun k e => by omega)) (by omega) (by omega))
end
end Go.Proofs.YtckfnbckoclhpaaGreatDoor
