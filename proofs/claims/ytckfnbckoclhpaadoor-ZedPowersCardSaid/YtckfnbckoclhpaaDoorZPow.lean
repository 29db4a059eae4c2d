/- zed: Add of nothing; Pow. -/
import Derived.Test.YtckfnbckoclhpaaDoorZAddN
import Derived.Test.YtckfnbckoclhpaaDoorZMulW
import Derived.Test.YtckfnbckoclhpaaDoorZGcd
set_option linter.unusedVariables false
namespace Go.Proofs.YtckfnbckoclhpaaDoor
open Go.RowKit

set_option maxHeartbeats 4000000 in
set_option maxRecDepth 100000 in
/-- a.Add() -/
theorem addn_any (v1 : Value) (z1 : Int) (w : World) (h1 : ZR w v1 z1) (b1 : z1.natAbs < 4294967296 ^ 20000) :
    Calls Tryd.prog 24 #[v1, .slice none 0 0] w fun e w' => ∃ v', e = .returned v' ∧ ZR w' v' z1 ∧ Pu w w' := by
  have h1' := h1
  obtain ⟨g1, A1, n1, c1, l1, rfl, hs1, hb1, ht1, hg1, hc1, rfl⟩ := h1
  rw [sgn_abs] at b1
  have hn1 := tidy_len ht1 b1
  have ll1 := hs1.wlen
  have hW : Pu w ((w.alloc (.cells #[.bool g1, .slice A1 n1 c1] 25)).alloc (.cells #[.bool false, .slice none 0 0] 25)) := ((Pu.refl w).alloc _).alloc _
  have hR : Blk ((w.alloc (.cells #[.bool g1, .slice A1 n1 c1] 25)).alloc (.cells #[.bool false, .slice none 0 0] 25)) (w.heap.size + 1) 25 #[.bool false, .slice none 0 0] := Blk.at_new _ _ _ (by simp)
  have kA0 : Blk ((w.alloc (.cells #[.bool g1, .slice A1 n1 c1] 25)).alloc (.cells #[.bool false, .slice none 0 0] 25)) w.heap.size 25 #[.bool g1, .slice A1 n1 c1] := (Blk.new w _ _).alloc _
  have hWd := hW.drew
  go_enter Tryd.func24, Tryd.ntmps24
  go_wp2_with fail
  have hRa := hR.alloc (.cells #[.bool false, .slice none 0 0] 25)
  have kAa := kA0.alloc (.cells #[.bool false, .slice none 0 0] 25)
  have hWa := hW.alloc (.cells #[.bool false, .slice none 0 0] 25)
  have hO : Blk ((((w.alloc (.cells #[.bool g1, .slice A1 n1 c1] 25)).alloc (.cells #[.bool false, .slice none 0 0] 25)).alloc (.cells #[.bool false, .slice none 0 0] 25))) (w.heap.size + 1 + 1) 25 #[.bool false, .slice none 0 0] := Blk.at_new _ _ _ (by simp)
  rename_i K HK
  have key : ∀ (ob : Nat) (A3 : Option Addr) (c3 : Nat) (W : World), Blk W ob 25 #[.bool g1, .slice A3 n1 c3] → ZR W (.agg #[.bool g1, .slice A3 n1 c3]) (sgn g1 (pval 4294967296 l1)) → Blk W (w.heap.size + 1) 25 #[.bool false, .slice none 0 0] → Pu w W → w.heap.size + 1 < ob →
      K { tmps := #[.agg #[.bool g1, .slice A1 n1 c1], .slice none 0 0, .pointer (some ⟨w.heap.size, 0, none⟩), undef, .pointer (some ⟨w.heap.size + 1, 0, none⟩), .pointer (some ⟨ob, 0, none⟩), undef, undef, .pointer (some ⟨w.heap.size, 0, none⟩), .bool g1, .pointer (some ⟨w.heap.size, 1, none⟩), .slice A1 n1 c1, .slice A3 n1 c3, .agg #[.bool g1, .slice A3 n1 c3], undef, undef, undef, undef, undef, undef, undef, undef, undef, undef, undef], defers := [] } W := by
    intro ob A3 c3 W xO x1 xR xP hob
    apply HK
    go_wp2_with fail
    go_loopw [16] (fun v ws => v = .int .i64 0 ∧ ws = W) (fun v _ => 0)
    case atStart => exact ⟨rfl, rfl⟩
    case round =>
      obtain ⟨rfl, rfl⟩ := hrel
      have r2 : wr.cell? ⟨ob, 0, none⟩ = some (.bool g1) := xO.cell 0
      have r3 : wr.cell? ⟨ob, 1, none⟩ = some (.slice A3 n1 c3) := xO.cell 1
      have q0 : wr.cell? ⟨w.heap.size + 1, 0, none⟩ = some (.bool false) := xR.cell 0
      have q1 : wr.cell? ⟨w.heap.size + 1, 1, none⟩ = some (.slice none 0 0) := xR.cell 1
      have f0 : wr.frozen? ⟨w.heap.size + 1, 0, none⟩ = false := xR.frozen 0
      have f1 : wr.frozen? ⟨w.heap.size + 1, 1, none⟩ = false := xR.frozen 1
      obtain ⟨s0, s1, sz, sp⟩ := store_num xR g1 A3 n1 c3
      go_wp2
      refine bodyPost_ret (v := .agg #[.bool g1, .slice A3 n1 c3]) (by simp [results, Tryd.results24, go_sem, s0, s1]) rfl ⟨_, rfl, sz _ _ x1, sp _ xP (by omega)⟩
  have Key := Lib.hid key
  clear key
  go_region_with (first
    | (go_at_call 52; refine (clone_words A1 n1 c1 l1 _ (by first | exact hs1.pu hW.drew | exact hs1.pu hWa.drew) (by omega)).mono ?_; rintro e u1 ⟨A3, c3, rfl, ho3, p3⟩; have pw : Pu w u1 := (by first | exact hW.drew.trans p3 | exact hWa.drew.trans p3); have j0 : u1.cell? ⟨w.heap.size, 0, none⟩ = some (.bool g1) := (by first | exact (kA0.drew.pu p3).cell 0 | exact (kAa.drew.pu p3).cell 0); have kR : Blk u1 (w.heap.size + 1) 25 #[.bool false, .slice none 0 0] := (by first | exact hR.drew.pu p3 | exact hRa.drew.pu p3); have hx1 : w.heap.size + 1 < u1.heap.size := kR.lt; have hx0 : w.heap.size < u1.heap.size := (by omega); first | (have kO := hO.drew.pu p3; have q0 : u1.cell? ⟨w.heap.size + 1 + 1, 0, none⟩ = some (.bool false) := kO.cell 0; have q1 : u1.cell? ⟨w.heap.size + 1 + 1, 1, none⟩ = some (.slice none 0 0) := kO.cell 1; have f0 : u1.frozen? ⟨w.heap.size + 1 + 1, 0, none⟩ = false := kO.frozen 0; have f1 : u1.frozen? ⟨w.heap.size + 1 + 1, 1, none⟩ = false := kO.frozen 1) | skip))
  all_goals
    have z1u : ZR u1 (.agg #[.bool g1, .slice A3 n1 c3]) (sgn g1 (pval 4294967296 l1)) := ⟨g1, A3, n1, c3, l1, rfl, Sl.of_own ho3, hb1, ht1, hg1, (own_le ho3).2, rfl⟩
  all_goals first
    | exact Key.out u1.heap.size A3 c3 _ (Blk.new _ _ _) (z1u.pu ((Pu.refl _).alloc _)) (kR.alloc _) (pw.alloc _) (by omega)
    | (have xO : Blk ((u1.setCell ⟨w.heap.size + 1 + 1, 0, none⟩ (.bool g1)).setCell ⟨w.heap.size + 1 + 1, 1, none⟩ (.slice A3 n1 c3)) (w.heap.size + 1 + 1) 25 #[.bool g1, .slice A3 n1 c3] := by have := (kO.set_ 0 (.bool g1)).set_ 1 (.slice A3 n1 c3); simpa using this
       have xF : Fr (fun k => k = w.heap.size + 1 + 1) u1 ((u1.setCell ⟨w.heap.size + 1 + 1, 0, none⟩ (.bool g1)).setCell ⟨w.heap.size + 1 + 1, 1, none⟩ (.slice A3 n1 c3)) := (Fr.one u1 _ 0 _).trans (Fr.one _ _ 1 _)
       exact Key.out (w.heap.size + 1 + 1) A3 c3 _ xO (z1u.frBlk kO (by simp) xF) (kR.fr xF (by omega)) (pw.step xF (fun k e => by omega)) (by omega))

theorem word_lt {a b : Nat} (h : a < b) : (4294967296 : Nat) ^ a < 4294967296 ^ b := Nat.pow_lt_pow_right (by decide) h
theorem pow_small {z : Int} (hz : z.natAbs < 4294967296 ^ 7) {j : Nat} (hj : j ≤ 40) (K : Nat) (hK : 280 < K) : (z ^ j).natAbs < 4294967296 ^ K := by
  rw [Int.natAbs_pow]
  have h1 : z.natAbs ^ j ≤ (4294967296 ^ 7) ^ j := Nat.pow_le_pow_left (Nat.le_of_lt hz) j
  rw [← Nat.pow_mul] at h1
  exact Nat.lt_of_le_of_lt h1 (word_lt (a := 7 * j) (b := K) (by omega))
theorem seven_up {n : Nat} (h : n < 4294967296 ^ 7) (k : Nat) (hk : 7 ≤ k) : n < 4294967296 ^ k := Nat.lt_of_lt_of_le h (Nat.pow_le_pow_right (by decide) hk)
theorem ZR.nought (W : World) : ZR W (.agg #[.bool false, .slice none 0 0]) 0 := ⟨false, none, 0, 0, [], rfl, Sl.nil _ _ _ _, Below_.nil _, tidy_nil, (fun e => by cases e), by simp [maxLen], rfl⟩

set_option maxHeartbeats 1000000 in
set_option maxRecDepth 100000 in
/-- a power that is not told -/
theorem pow_range (v : Value) (z : Int) (n : Int) (w : World) (h : ZR w v z) (hn : n < 0 ∨ 1000 < n) :
    Calls Tryd.prog 36 #[v, .int .i64 n] w fun e w' => ∃ v', e = .returned (.tuple #[v', .int .i64 12]) ∧ ZR w' v' 0 ∧ Pu w w' := by
  obtain ⟨g, A, m, c, rfl⟩ := h.shape
  have PW : Pu w ((w.alloc (.cells #[.bool g, .slice A m c] 25)).alloc (.cells #[.bool false, .slice none 0 0] 25)) := ((Pu.refl w).alloc _).alloc _
  have k : Blk ((w.alloc (.cells #[.bool g, .slice A m c] 25)).alloc (.cells #[.bool false, .slice none 0 0] 25)) (w.heap.size + 1) 25 #[.bool false, .slice none 0 0] := Blk.at_new _ _ _ (by simp)
  have r0 := k.cell 0
  have r1 := k.cell 1
  have hd : decide (n < 0) = true ∨ decide (n < 0) = false ∧ decide (n > 1000) = true ∧ decide (1000 < n) = true := by
    rcases Int.lt_or_le n 0 with e | e
    · exact .inl (decide_eq_true e)
    · exact .inr ⟨decide_eq_false (by omega), decide_eq_true (by omega), decide_eq_true (by omega)⟩
  clear h hn
  rcases hd with d1 | ⟨d1, d2, d3⟩
  all_goals
    go_enter Tryd.func36, Tryd.ntmps36
    go_wp2
    exact bodyPost_ret (v := .tuple #[.agg #[.bool false, .slice none 0 0], .int .i64 12]) (by simp [results, Tryd.results36, go_sem, r0, r1]) rfl ⟨_, rfl, ZR.nought _, PW⟩

set_option maxHeartbeats 4000000 in
set_option maxRecDepth 100000 in
theorem pow_any (v : Value) (z : Int) (n : Nat) (w : World) (h : ZR w v z) (hz : z.natAbs < 4294967296 ^ 7) (hn : n ≤ 40) :
    Calls Tryd.prog 36 #[v, .int .i64 (n : Int)] w fun e w' => ∃ v', e = .returned (.tuple #[v', .int .i64 0]) ∧ ZR w' v' (z ^ n) ∧ Pu w w' := by
  obtain ⟨g, A, m, c, rfl⟩ := h.shape
  obtain ⟨W, hWe⟩ : ∃ W, W = (w.alloc (.cells #[.bool g, .slice A m c] 25)).alloc (.cells #[.bool false, .slice none 0 0] 25) := ⟨_, rfl⟩
  have hW : Pu w W := by rw [hWe]; exact ((Pu.refl w).alloc _).alloc _
  have k1 : Blk W w.heap.size 25 #[.bool g, .slice A m c] := by rw [hWe]; exact (Blk.new w _ _).alloc _
  have k2 : Blk W (w.heap.size + 1) 25 #[.bool false, .slice none 0 0] := by rw [hWe]; exact Blk.at_new _ _ _ (by simp)
  have d1 : decide ((n : Int) < 0) = false := by simp
  have d2 : decide ((n : Int) > 1000) = false := by simp; omega
  have d3 : decide ((1000 : Int) < (n : Int)) = false := by simp; omega
  have hf := from_any 1 W (by omega) (by omega)
  rw [hWe] at hf
  have HWe := Lib.hid hWe
  have hx := h.pu hW
  clear hWe h
  have Hz := Lib.hid hz
  clear hz
  go_enter Tryd.func36, Tryd.ntmps36
  go_wp2_with fail
  refine hf.mono ?_
  rintro e u ⟨v1, rfl, h1, p1⟩
  rw [← HWe.out] at p1
  obtain ⟨g1, A1, m1, c1, rfl⟩ := h1.shape
  have pA : Pu u (u.alloc (.cells #[.bool g1, .slice A1 m1 c1] 25)) := (Pu.refl u).alloc _
  have kO : Blk (u.alloc (.cells #[.bool g1, .slice A1 m1 c1] 25)) u.heap.size 25 #[.bool g1, .slice A1 m1 c1] := Blk.new _ _ _
  have hO := h1.pu pA
  replace k1 := k1.pu (p1.trans pA)
  replace k2 := k2.pu (p1.trans pA)
  replace hx := hx.pu (p1.trans pA)
  have hsz : w.heap.size + 1 < u.heap.size := by
    have h1 := p1.size
    have h2 : W.heap.size = w.heap.size + 2 := by rw [HWe.out]; simp
    omega
  have hP := (hW.trans p1).trans pA
  clear HWe hf p1 pA h1 hW
  go_wp2_with fail
  go_loopw [16] (fun iv ws => ∃ (j : Nat) (g5 : Bool) (A5 : Option Addr) (m5 c5 : Nat), j ≤ n ∧ iv = .int .i64 (j : Int) ∧ Blk ws u.heap.size 25 #[.bool g5, .slice A5 m5 c5] ∧ ZR ws (.agg #[.bool g5, .slice A5 m5 c5]) (z ^ j) ∧ Blk ws w.heap.size 25 #[.bool g, .slice A m c] ∧ Blk ws (w.heap.size + 1) 25 #[.bool false, .slice none 0 0] ∧ ZR ws (.agg #[.bool g, .slice A m c]) z ∧ Pu w ws) (fun iv _ => n - (intOf iv).toNat)
  case atStart => exact ⟨0, g1, A1, m1, c1, Nat.zero_le _, rfl, kO, by rw [Int.pow_zero]; exact hO, k1, k2, hx, hP⟩
  case round =>
    clear kO hO k1 k2 hx hP
    obtain ⟨j, g5, A5, m5, c5, hj, rfl, kO, hO, k1, k2, hx, hP⟩ := hrel
    have o0 : wr.cell? ⟨u.heap.size, 0, none⟩ = some (.bool g5) := kO.cell 0
    have o1 : wr.cell? ⟨u.heap.size, 1, none⟩ = some (.slice A5 m5 c5) := kO.cell 1
    by_cases hlt : j < n
    · have a0 : wr.cell? ⟨w.heap.size, 0, none⟩ = some (.bool g) := k1.cell 0
      have a1 : wr.cell? ⟨w.heap.size, 1, none⟩ = some (.slice A m c) := k1.cell 1
      have hm := mul_any _ _ (z ^ j) z wr hO hx (pow_small Hz.out (by omega) 20000 (by decide)) (seven_up Hz.out 20000 (by decide))
      rw [← Int.pow_succ] at hm
      have Hm := Lib.hid hm
      have hwj : IntKind.i64.wrap ((j : Int) + 1) = (j : Int) + 1 := IntWalk.i64_in _ (by omega)
      clear hm hO
      go_wp2_with fail
      refine Hm.out.mono ?_
      rintro e u2 ⟨v6, rfl, h6, p6⟩
      obtain ⟨g6, A6, m6, c6, rfl⟩ := h6.shape
      have kO6 := kO.pu p6
      have o2 : u2.cell? ⟨u.heap.size, 0, none⟩ = some (.bool g5) := kO6.cell 0
      have o3 : u2.cell? ⟨u.heap.size, 1, none⟩ = some (.slice A5 m5 c5) := kO6.cell 1
      have f0 := kO6.frozen 0
      have f1 := kO6.frozen 1
      obtain ⟨kO7, fr⟩ := over_n kO6 g6 A6 m6 c6
      obtain ⟨_, _, rz, rp⟩ := store_num kO6 g6 A6 m6 c6
      have k17 := (k1.pu p6).fr fr (by show ¬ w.heap.size = u.heap.size; omega)
      have k27 := (k2.pu p6).fr fr (by show ¬ w.heap.size + 1 = u.heap.size; omega)
      have hx7 := rz _ _ (hx.pu p6)
      have h67 := rz _ _ h6
      have P7 := rp _ (hP.trans p6) (by omega)
      have H67 := Lib.hid h67
      clear rz rp fr kO kO6 h6 k1 k2 hx hP p6 Hm a0 a1 o0 o1 h67
      go_wp2
      go_roundw
      case rel => exact ⟨j + 1, g6, A6, m6, c6, by omega, by go_num, kO7, H67.out, k17, k27, hx7, P7⟩
      case measure => simp [intOf]; omega
    · obtain rfl : j = n := by omega
      have t0 : wr.cell? ⟨w.heap.size + 1, 0, none⟩ = some (.bool false) := k2.cell 0
      have t1 : wr.cell? ⟨w.heap.size + 1, 1, none⟩ = some (.slice none 0 0) := k2.cell 1
      have f0 := k2.frozen 0
      have f1 := k2.frozen 1
      obtain ⟨r0, r1, rz, rp⟩ := store_num k2 g5 A5 m5 c5
      have hv := rz _ _ hO
      have PP := rp _ hP (by omega)
      have Hv := Lib.hid hv
      clear rz rp hO hv
      go_wp2
      exact bodyPost_ret (v := .tuple #[.agg #[.bool g5, .slice A5 m5 c5], .int .i64 0]) (by simp [results, Tryd.results36, go_sem, r0, r1]) rfl ⟨_, rfl, Hv.out, PP⟩
end Go.Proofs.YtckfnbckoclhpaaDoor
