/- zed: the anchor of every law. -/
import Derived.Test.YtckfnbckoclhpaaDoorZDivM
import Derived.Test.YtckfnbckoclhpaaDoorZStr
import Derived.Test.YtckfnbckoclhpaaDoorZAddV
set_option linter.unusedVariables false
namespace Go.Proofs.YtckfnbckoclhpaaDoor
open Go.RowKit

theorem small_up (n : Nat) (h : n < 4294967296) (k : Nat) (hk : 0 < k) : n < 4294967296 ^ k := by
  have h1 := Nat.pow_le_pow_right (n := 4294967296) (by decide) hk
  rw [Nat.pow_one] at h1
  omega

theorem digs_one {d : Nat} (h0 : d ≠ 0) (h : d < 10) : digs d = [d] := by
  rw [digs_pos h0, Nat.mod_eq_of_lt h, Nat.div_eq_of_lt h, digs_zero]
theorem t_m4 : ztext (-4) = [45, 52] := by
  have : digs 4 = [4] := digs_one (by decide) (by decide)
  simp [ztext, this]
theorem t_1 : ztext 1 = [49] := by
  have : digs 1 = [1] := digs_one (by decide) (by decide)
  simp [ztext, this]
theorem t_4 : ztext 4 = [52] := by
  have : digs 4 = [4] := digs_one (by decide) (by decide)
  simp [ztext, this]
theorem t_m2 : ztext (-2) = [45, 50] := by
  have : digs 2 = [2] := digs_one (by decide) (by decide)
  simp [ztext, this]
theorem str_at (z : Int) (l : List UInt8) (h : ztext z = l) (b : z.natAbs < 4294967296) (v : Value) (W : World) (hz : ZR W v z) : Calls Tryd.prog 19 #[v] W fun e w' => e = .returned (.string ⟨l.toArray⟩) ∧ Pu W w' := by
  rw [← h]
  exact string_any v z W hz (small_up _ b 1000 (by decide))

set_option maxHeartbeats 4000000 in
set_option maxRecDepth 100000 in
theorem anchor_any (w : World) : Calls Tryd.prog 11 #[] w fun e w' => e = .returned (.bool true) ∧ Pu w w' := by
  have hfrom := fun (z : Int) (h1 : -9223372036854775808 ≤ z) (h2 : z ≤ 9223372036854775807) W => from_any z W h1 h2
  have hdm := fun (v1 v2 : Value) (z1 z2 : Int) W (h1 : ZR W v1 z1) (h2 : ZR W v2 z2) (b1 : z1.natAbs < 4294967296) (b2 : z2.natAbs < 4294967296) (hz : z2 ≠ 0) => divmod_any v1 v2 z1 z2 W h1 h2 (small_up _ b1 1000 (by decide)) (small_up _ b2 1000 (by decide)) hz (div_short _ _ (by omega) (by omega))
  have Hfrom := Lib.hid hfrom
  have Hdm := Lib.hid hdm
  clear hfrom hdm
  go_enter Tryd.func11, Tryd.ntmps11
  go_wp2_with fail
  refine (Hfrom.out (-7) (by omega) (by omega) _).mono ?_
  rintro e w1 ⟨v1, rfl, h1, p1⟩
  go_wp2_with fail
  refine (Hfrom.out 2 (by omega) (by omega) _).mono ?_
  rintro e w2 ⟨v2, rfl, h2, p2⟩
  replace h1 := h1.pu p2
  go_wp2_with fail
  refine (Hdm.out v1 v2 (-7) 2 _ h1 h2 (by decide) (by decide) (by decide)).mono ?_
  rintro e w3 ⟨v3, v4, rfl, h3, h4, p3⟩
  have h3' := h3
  have h4' := h4
  obtain ⟨g3, A3, n3, c3, l3, rfl, _⟩ := h3'
  obtain ⟨g4, A4, n4, c4, l4, rfl, _⟩ := h4'
  have h3a : ZR w3 (.agg #[.bool g3, .slice A3 n3 c3]) (-4) := h3
  have h4a : ZR w3 (.agg #[.bool g4, .slice A4 n4 c4]) 1 := h4
  clear h3 h4 h1 h2
  have P3 : Pu w w3 := (p1.trans p2).trans p3
  obtain ⟨W3, hW3⟩ : ∃ W3, W3 = (w3.alloc (.cells #[.bool g3, .slice A3 n3 c3] 25)).alloc (.cells #[.bool g4, .slice A4 n4 c4] 25) := ⟨_, rfl⟩
  have q3 : Pu w3 W3 := by rw [hW3]; exact ((Pu.refl _).alloc _).alloc _
  have kq : Blk W3 w3.heap.size 25 #[.bool g3, .slice A3 n3 c3] := by rw [hW3]; exact (Blk.new _ _ _).alloc _
  have kr : Blk W3 (w3.heap.size + 1) 25 #[.bool g4, .slice A4 n4 c4] := by rw [hW3]; exact Blk.at_new _ _ _ (by simp)
  replace h3a := h3a.pu q3
  replace h4a := h4a.pu q3
  have P4 := P3.trans q3
  have f1 := Hfrom.out (-7) (by omega) (by omega) W3
  rw [hW3] at f1
  have HW3 := Lib.hid hW3
  clear hW3 q3 P3 p1 p2 p3
  go_wp2_with fail
  refine f1.mono ?_
  rintro e w5 ⟨v5, rfl, h5, p5⟩
  rw [← HW3.out] at p5
  go_wp2_with fail
  refine (Hfrom.out (-2) (by omega) (by omega) _).mono ?_
  rintro e w6 ⟨v6, rfl, h6, p6⟩
  replace h5 := h5.pu p6
  go_wp2_with fail
  refine (Hdm.out v5 v6 (-7) (-2) _ h5 h6 (by decide) (by decide) (by decide)).mono ?_
  rintro e w7 ⟨v7, v8, rfl, h7, h8, p7⟩
  have P7 := (P4.trans p5).trans (p6.trans p7)
  have h7' := h7
  have h8' := h8
  obtain ⟨g7, A7, n7, c7, l7, rfl, _⟩ := h7'
  obtain ⟨g8, A8, n8, c8, l8, rfl, _⟩ := h8'
  have h7a : ZR w7 (.agg #[.bool g7, .slice A7 n7 c7]) 4 := h7
  have h8a : ZR w7 (.agg #[.bool g8, .slice A8 n8 c8]) 1 := h8
  have pp := p5.trans (p6.trans p7)
  replace h3a := h3a.pu pp
  replace h4a := h4a.pu pp
  replace kq := kq.pu pp
  replace kr := kr.pu pp
  clear h5 h6 h7 h8 p5 p6 p7 P4 HW3 f1 pp
  obtain ⟨W7, hW7⟩ : ∃ W7, W7 = (w7.alloc (.cells #[.bool g7, .slice A7 n7 c7] 25)).alloc (.cells #[.bool g8, .slice A8 n8 c8] 25) := ⟨_, rfl⟩
  have q7 : Pu w7 W7 := by rw [hW7]; exact ((Pu.refl _).alloc _).alloc _
  have ks : Blk W7 w7.heap.size 25 #[.bool g7, .slice A7 n7 c7] := by rw [hW7]; exact (Blk.new _ _ _).alloc _
  have kt : Blk W7 (w7.heap.size + 1) 25 #[.bool g8, .slice A8 n8 c8] := by rw [hW7]; exact Blk.at_new _ _ _ (by simp)
  replace h3a := h3a.pu q7
  replace h4a := h4a.pu q7
  replace h7a := h7a.pu q7
  replace h8a := h8a.pu q7
  replace kq := kq.pu q7
  replace kr := kr.pu q7
  have PW := P7.trans q7
  have s1 := str_at (-4) _ t_m4 (by decide) _ _ h3a
  have a0 : W7.cell? ⟨w3.heap.size, 0, none⟩ = some (.bool g3) := kq.cell 0
  have a1 : W7.cell? ⟨w3.heap.size, 1, none⟩ = some (.slice A3 n3 c3) := kq.cell 1
  rw [hW7] at s1 a0 a1
  have HW7 := Lib.hid hW7
  clear hW7 P7 q7
  go_wp2_with fail
  refine s1.mono ?_
  rintro e w8 ⟨rfl, p8⟩
  rw [← HW7.out] at p8
  have b0 : w8.cell? ⟨w3.heap.size + 1, 0, none⟩ = some (.bool g4) := (kr.pu p8).cell 0
  have b1 : w8.cell? ⟨w3.heap.size + 1, 1, none⟩ = some (.slice A4 n4 c4) := (kr.pu p8).cell 1
  go_wp2_with fail
  refine (str_at 1 _ t_1 (by decide) _ _ (h4a.pu p8)).mono ?_
  rintro e w9 ⟨rfl, p9⟩
  replace p9 := p8.trans p9
  have b0 : w9.cell? ⟨w7.heap.size, 0, none⟩ = some (.bool g7) := (ks.pu p9).cell 0
  have b1 : w9.cell? ⟨w7.heap.size, 1, none⟩ = some (.slice A7 n7 c7) := (ks.pu p9).cell 1
  go_wp2_with fail
  refine (str_at 4 _ t_4 (by decide) _ _ (h7a.pu p9)).mono ?_
  rintro e w10 ⟨rfl, p10⟩
  replace p10 := p9.trans p10
  have b0 : w10.cell? ⟨w7.heap.size + 1, 0, none⟩ = some (.bool g8) := (kt.pu p10).cell 0
  have b1 : w10.cell? ⟨w7.heap.size + 1, 1, none⟩ = some (.slice A8 n8 c8) := (kt.pu p10).cell 1
  go_wp2_with fail
  refine (str_at 1 _ t_1 (by decide) _ _ (h8a.pu p10)).mono ?_
  rintro e w11 ⟨rfl, p11⟩
  replace p11 := PW.trans (p10.trans p11)
  clear p8 p9 p10 PW kq kr ks kt h3a h4a h7a h8a a0 a1 b0 b1 s1 HW7
  go_wp2_with fail
  refine (Hfrom.out 3 (by omega) (by omega) _).mono ?_
  rintro e w12 ⟨v12, rfl, h12, p12⟩
  go_wp2_with fail
  refine (Hfrom.out (-5) (by omega) (by omega) _).mono ?_
  rintro e w13 ⟨v13, rfl, h13, p13⟩
  replace h12 := h12.pu p13
  have h13' := h13
  obtain ⟨g13, A13, n13, c13, l13, rfl, _⟩ := h13'
  have P13 := (p11.trans p12).trans p13
  have hadd := addv_any v12 _ 3 (-5) w13.heap.size (w13.alloc (.cells #[.bool g13, .slice A13 n13 c13] 25)) (h12.pu ((Pu.refl _).alloc _)) (h13.pu ((Pu.refl _).alloc _)) (small_up _ (by decide) 20000 (by decide)) (small_up _ (by decide) 20000 (by decide)) (Blk.new _ _ _)
  clear p11 p12 p13
  go_wp2_with fail
  refine hadd.mono ?_
  rintro e w14 ⟨v14, rfl, h14, p14⟩
  have P14 := (P13.alloc _).trans p14
  have h14a : ZR w14 v14 (-2) := h14
  go_wp2_with fail
  refine (str_at (-2) _ t_m2 (by decide) _ _ h14a).mono ?_
  rintro e w15 ⟨rfl, p15⟩
  go_wp2
  go_ret
  exact ⟨rfl, P14.trans p15⟩
end Go.Proofs.YtckfnbckoclhpaaDoor
