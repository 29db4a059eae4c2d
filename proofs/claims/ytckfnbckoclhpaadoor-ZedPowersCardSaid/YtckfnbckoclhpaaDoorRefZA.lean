/- The document's numbers: DivMod. -/
import Derived.Test.YtckfnbckoclhpaaDoorRefZ8
import Derived.Test.YtckfnbckoclhpaaDoorRefZ9
import Derived.Test.YtckfnbckoclhpaaDoorZDivM
import Derived.Deep.RegionHeld3
set_option linter.unusedVariables false
namespace Go.Proofs.YtckfnbckoclhpaaDoor
open Go.RowKit

theorem div_q (z1 z2 : Int) (Q : Int) : z2 * (z1.sign * z2.sign * Q) = z1.sign * ((z2.natAbs : Int) * Q) := by
  rw [Int.mul_assoc z1.sign z2.sign Q, Int.mul_left_comm z2 z1.sign, ← Int.mul_assoc z2 z2.sign, Int.mul_sign_self]
theorem div_x (z1 z2 : Int) : z1.sign * ((z2.natAbs : Int) * ((z1.natAbs / z2.natAbs : Nat) : Int)) + z1.sign * ((z1.natAbs % z2.natAbs : Nat) : Int) = z1 := by
  have hdm := Nat.div_add_mod z1.natAbs z2.natAbs
  rw [← Int.mul_add, ← Int.natCast_mul, ← Int.natCast_add, hdm, Int.sign_mul_natAbs]
theorem sign_case (z : Int) : z.sign = 0 ∨ z.sign = 1 ∨ z.sign = -1 := by
  rcases Int.lt_trichotomy z 0 with h | h | h
  · exact .inr (.inr (Int.sign_eq_neg_one_of_neg h))
  · rw [h]
    exact .inl rfl
  · exact .inr (.inl (Int.sign_eq_one_of_pos h))
theorem div_sign (z1 z2 : Int) (hz : z2 ≠ 0) (h : ¬ z1.sign * ((z1.natAbs % z2.natAbs : Nat) : Int) < 0) :
    z1.sign * z2.sign * ((z1.natAbs / z2.natAbs : Nat) : Int) = z1 / z2 ∧ z1.sign * ((z1.natAbs % z2.natAbs : Nat) : Int) = z1 % z2 := by
  have hml := Nat.mod_lt z1.natAbs (show z2.natAbs > 0 by omega)
  have hq := div_q z1 z2 ((z1.natAbs / z2.natAbs : Nat) : Int)
  have hx := div_x z1 z2
  have := euclid (a := z1) (b := z2) (q := z1.sign * z2.sign * ((z1.natAbs / z2.natAbs : Nat) : Int)) (r := z1.sign * ((z1.natAbs % z2.natAbs : Nat) : Int)) hz (by rw [hq]; exact hx) (by omega) (by
    rcases sign_case z1 with e | e | e <;> rw [e] <;> omega)
  exact ⟨this.1.symm, this.2.symm⟩
theorem div_sign2 (z1 z2 : Int) (hz : z2 ≠ 0) (h : z1.sign * ((z1.natAbs % z2.natAbs : Nat) : Int) < 0) :
    z1.sign * z2.sign * ((z1.natAbs / z2.natAbs : Nat) : Int) + -z2.sign = z1 / z2 ∧ z1.sign * ((z1.natAbs % z2.natAbs : Nat) : Int) + (z2.natAbs : Int) = z1 % z2 := by
  have hml := Nat.mod_lt z1.natAbs (show z2.natAbs > 0 by omega)
  have hq := div_q z1 z2 ((z1.natAbs / z2.natAbs : Nat) : Int)
  have hx := div_x z1 z2
  have := euclid (a := z1) (b := z2) (q := z1.sign * z2.sign * ((z1.natAbs / z2.natAbs : Nat) : Int) + -z2.sign) (r := z1.sign * ((z1.natAbs % z2.natAbs : Nat) : Int) + (z2.natAbs : Int)) hz (by
    rw [Int.mul_add, hq, Int.mul_neg, Int.mul_sign_self]
    omega) (by
    rcases sign_case z1 with e | e | e <;> rw [e] at h ⊢ <;> omega) (by omega)
  exact ⟨this.1.symm, this.2.symm⟩

theorem RZ.shape {w : World} {v : Value} {z : Int} (h : RZ w v z) : ∃ σ A n c, v = .agg #[.int .i64 σ, .slice A n c] ∧ σ = z.sign := by
  obtain ⟨A, n, c, l, rfl, -⟩ := h
  exact ⟨_, A, n, c, rfl, rfl⟩
/-- a number put into a new block -/
theorem put_z (u : World) (s : Int) (A : Option Addr) (n c : Nat) : Blk (u.alloc (.cells #[.int .i64 s, .slice A n c] 39)) u.heap.size 39 #[.int .i64 s, .slice A n c] ∧
    Pu u (u.alloc (.cells #[.int .i64 s, .slice A n c] 39)) := ⟨Blk.new u _ _, (Pu.refl u).alloc _⟩
/-- a number put into a block that is there -/
theorem over_z {W : World} {b : Nat} {x : Int} {y : Option Addr} {m d : Nat} (k : Blk W b 39 #[.int .i64 x, .slice y m d]) (s : Int) (A : Option Addr) (n c : Nat) :
    Blk ((W.setCell ⟨b, 0, none⟩ (.int .i64 s)).setCell ⟨b, 1, none⟩ (.slice A n c)) b 39 #[.int .i64 s, .slice A n c] ∧
    Fr (fun i => i = b) W ((W.setCell ⟨b, 0, none⟩ (.int .i64 s)).setCell ⟨b, 1, none⟩ (.slice A n c)) :=
  ⟨(k.set_ 0 _).set_ 1 _, (Fr.one W b 0 _).trans (Fr.one _ b 1 _)⟩

theorem two_store_z {W : World} {a b : Nat} {x1 x2 : Int} {y1 y2 : Option Addr} {m1 m2 d1 d2 : Nat} (kq : Blk W a 39 #[.int .i64 x1, .slice y1 m1 d1]) (kr : Blk W b 39 #[.int .i64 x2, .slice y2 m2 d2]) (hab : a ≠ b) (sq sr : Int) (Aq Ar : Option Addr) (nq cq nr cr : Nat) (W' : World)
    (hW' : W' = ((((W.setCell ⟨a, 0, none⟩ (.int .i64 sq)).setCell ⟨a, 1, none⟩ (.slice Aq nq cq)).setCell ⟨b, 0, none⟩ (.int .i64 sr)).setCell ⟨b, 1, none⟩ (.slice Ar nr cr)).drew) :
    W'.cell? ⟨a, 0, none⟩ = some (.int .i64 sq) ∧ W'.cell? ⟨a, 1, none⟩ = some (.slice Aq nq cq) ∧ W'.cell? ⟨b, 0, none⟩ = some (.int .i64 sr) ∧ W'.cell? ⟨b, 1, none⟩ = some (.slice Ar nr cr) ∧ (∀ v z, RZ W v z → RZ W' v z) ∧ (∀ w0, Pu w0 W → w0.heap.size ≤ a → w0.heap.size ≤ b → Pu w0 W') := by
  subst hW'
  obtain ⟨_, _, p1, z1⟩ := store_rz kq sq Aq nq cq
  have kr1 := (kr.far (p := ⟨a, 0, none⟩) (by dsimp; omega) (.int .i64 sq)).far (p := ⟨a, 1, none⟩) (by dsimp; omega) (.slice Aq nq cq)
  have kq1 := (kq.set_ 0 (.int .i64 sq)).set_ 1 (.slice Aq nq cq)
  obtain ⟨_, _, p2, z2⟩ := store_rz kr1 sr Ar nr cr
  have kr2 := ((kr1.set_ 0 (.int .i64 sr)).set_ 1 (.slice Ar nr cr)).drew
  have kq2 := ((kq1.far (p := ⟨b, 0, none⟩) (by dsimp; omega) (.int .i64 sr)).far (p := ⟨b, 1, none⟩) (by dsimp; omega) (.slice Ar nr cr)).drew
  exact ⟨kq2.cell 0, kq2.cell 1, kr2.cell 0, kr2.cell 1, fun v z h => (z2 _ _ (z1 _ _ h)).pu ((Pu.refl _).drew), fun w0 h ha hb => (p2 _ (p1 _ h ha) hb).drew⟩

set_option maxHeartbeats 4000000 in
set_option maxRecDepth 100000 in
theorem rdivmod_any (v1 v2 : Value) (z1 z2 : Int) (w : World) (h1 : RZ w v1 z1) (h2 : RZ w v2 z2) (b1 : z1.natAbs < 10 ^ 200) (b2 : z2.natAbs < 10 ^ 200) (hz : z2 ≠ 0) :
    Calls Tryd.prog 22 #[v1, v2] w fun e w' => ∃ v3 v4, e = .returned (.tuple #[v3, v4]) ∧ RZ w' v3 (z1 / z2) ∧ RZ w' v4 (z1 % z2) ∧ Pu w w' := by
  obtain ⟨A1, n1, c1, l1, rfl, hs1, hb1, ht1, hv1, hc1, hI1⟩ := h1
  obtain ⟨A2, n2, c2, l2, rfl, hs2, hb2, ht2, hv2, hc2, hI2⟩ := h2
  have hn1 := tidy_len10 ht1 (k := 200) (by rw [hv1]; exact b1)
  have hn2 := tidy_len10 ht2 (k := 200) (by rw [hv2]; exact b2)
  rw [hs1.dlen] at hn1
  rw [hs2.dlen] at hn2
  obtain ⟨s1, e1⟩ : ∃ s1, s1 = z1.sign := ⟨_, rfl⟩
  obtain ⟨s2, e2⟩ : ∃ s2, s2 = z2.sign := ⟨_, rfl⟩
  rw [← e1, ← e2]
  have hc1' : s1 = 0 ∨ s1 = 1 ∨ s1 = -1 := by rw [e1]; exact sign_case z1
  have hc2' : s2 = 1 ∨ s2 = -1 := by rw [e2]; exact sign_one z2 hz
  have hY : 0 < pval 10 l2 := by rw [hv2]; omega
  obtain ⟨W, hWe⟩ : ∃ W, W = (((w.alloc (.cells #[.int .i64 s1, .slice A1 n1 c1] 39)).alloc (.cells #[.int .i64 s2, .slice A2 n2 c2] 39)).alloc (.cells #[.int .i64 0, .slice none 0 0] 39)).alloc (.cells #[.int .i64 0, .slice none 0 0] 39) := ⟨_, rfl⟩
  have hW : Pu w W := by
    rw [hWe]
    exact ((((Pu.refl w).alloc _).alloc _).alloc _).alloc _
  have k1 : Blk W w.heap.size 39 #[.int .i64 s1, .slice A1 n1 c1] := by rw [hWe]; exact (((Blk.new w _ _).alloc _).alloc _).alloc _
  have k2 : Blk W (w.heap.size + 1) 39 #[.int .i64 s2, .slice A2 n2 c2] := by rw [hWe]; exact ((Blk.at_new _ _ _ (by simp)).alloc _).alloc _
  have k3 : Blk W (w.heap.size + 2) 39 #[.int .i64 0, .slice none 0 0] := by rw [hWe]; exact (Blk.at_new _ _ _ (by simp)).alloc _
  have k4 : Blk W (w.heap.size + 3) 39 #[.int .i64 0, .slice none 0 0] := by rw [hWe]; exact Blk.at_new _ _ _ (by simp)
  have hdv := rdivide_any A1 A2 n1 c1 n2 c2 l1 l2 W (hs1.pu hW) (hs2.pu hW) (by omega) (by omega) hb1 hb2 ht2 hY
  rw [hWe] at hdv
  have HWe := Lib.hid hWe
  have HE := Lib.hid (And.intro e1 e2)
  have HV := Lib.hid (And.intro hv1 hv2)
  have hws : IntKind.i64.wrap (s1 * s2) = s1 * s2 := IntWalk.i64_in _ (by
    rcases hc1' with e | e | e <;> rcases hc2' with e' | e' <;> rw [e, e'] <;> decide)
  have hS2 := hs2.pu hW
  have hJ2 := hI2.pu hW
  have h0 : s1 = 0 → z1.natAbs = 0 := fun e => by
    have := Int.sign_eq_zero_iff_zero.1 (e1.symm.trans e)
    omega
  have H0 := Lib.hid h0
  clear hWe e1 e2 hv1 hv2 hs1 hI1 h0
  go_enter Tryd.func22, Tryd.ntmps22
  go_wp2_with fail
  refine hdv.mono ?_
  rintro e w1 ⟨A3, n3, c3, q, A4, n4, c4, r, rfl, hS3, hS4, hn3, hn4, hc3, hc4, hb3, hb4, hI3, hI4, hq, hr, p1⟩
  rw [← HWe.out] at p1
  rw [HV.out.1, HV.out.2] at hq hr
  have hmq := rmade_any (s1 * s2) A3 n3 c3 q w1 hS3 (by omega) hc3 hb3 hI3 (by
    rcases hc1' with e | e | e
    · right; right
      rw [hq, H0.out e, Nat.zero_div]
    · rw [e, Int.one_mul]
      rcases hc2' with e' | e' <;> omega
    · rw [e]
      rcases hc2' with e' | e' <;> rw [e'] <;> omega)
  have hmr := fun W p => rmade_any s1 A4 n4 c4 r W (hS4.pu p) (by omega) hc4 hb4 (hI4.pu p) (by
    rcases hc1' with e | e | e
    · right; right
      rw [hr, H0.out e, Nat.zero_mod]
    · exact .inl e
    · exact .inr (.inl e))
  obtain ⟨zq, ezq⟩ : ∃ zq : Int, zq = s1 * s2 * ((pval 10 q : Nat) : Int) := ⟨_, rfl⟩
  obtain ⟨zr, ezr⟩ : ∃ zr : Int, zr = s1 * ((pval 10 r : Nat) : Int) := ⟨_, rfl⟩
  rw [← ezq] at hmq
  rw [← ezr] at hmr
  rw [hq, HE.out.1, HE.out.2] at ezq
  rw [hr, HE.out.1] at ezr
  have hql : zq.natAbs < 10 ^ 200 := by
    rw [ezq, Int.natAbs_mul, Int.natAbs_mul, Int.natAbs_natCast]
    have h1 : z1.sign.natAbs ≤ 1 := by rcases sign_case z1 with e | e | e <;> rw [e] <;> decide
    have h2 : z2.sign.natAbs ≤ 1 := by rcases sign_case z2 with e | e | e <;> rw [e] <;> decide
    have h3 := Nat.mul_le_mul h1 h2
    have h4 := Nat.mul_le_mul_right (z1.natAbs / z2.natAbs) h3
    have h5 := Nat.div_le_self z1.natAbs z2.natAbs
    omega
  have hrl : zr.natAbs < 10 ^ 200 := by
    rw [ezr, Int.natAbs_mul, Int.natAbs_natCast]
    have h1 : z1.sign.natAbs ≤ 1 := by rcases sign_case z1 with e | e | e <;> rw [e] <;> decide
    have h4 := Nat.mul_le_mul_right (z1.natAbs % z2.natAbs) h1
    have h5 := Nat.mod_le z1.natAbs z2.natAbs
    omega
  have EZ := Lib.hid (And.intro ezq ezr)
  have BQ := Lib.hid (And.intro hql hrl)
  have Hmq := Lib.hid hmq
  have Hmr := Lib.hid hmr
  clear hmq hmr hq hr hS3 hS4 hdv ezq ezr hql hrl
  have q10 : w1.cell? ⟨w.heap.size, 0, none⟩ = some (.int .i64 s1) := (k1.pu p1).cell 0
  have q20 : w1.cell? ⟨w.heap.size + 1, 0, none⟩ = some (.int .i64 s2) := (k2.pu p1).cell 0
  go_wp2_with fail
  refine Hmq.out.mono ?_
  rintro e w2 ⟨vq, rfl, hzq, p2⟩
  obtain ⟨sq, Aq, nq, cq, rfl, -⟩ := hzq.shape
  have P2 := p1.trans p2
  obtain ⟨kq, pq⟩ := put_z w2 sq Aq nq cq
  have x10 : (w2.alloc (.cells #[.int .i64 sq, .slice Aq nq cq] 39)).cell? ⟨w.heap.size, 0, none⟩ = some (.int .i64 s1) := (k1.pu (P2.trans pq)).cell 0
  go_wp2_with fail
  refine (Hmr.out _ (p2.trans pq)).mono ?_
  rintro e w3 ⟨vr, rfl, hzr, p3⟩
  have P3 := (P2.trans pq).trans p3
  have kq3 := kq.pu p3
  have hzq3 := hzq.pu (pq.trans p3)
  obtain ⟨sr, Ar, nr, cr, rfl, hsr⟩ := hzr.shape
  obtain ⟨kr, pr⟩ := put_z w3 sr Ar nr cr
  have P4 := P3.trans pr
  have k14 := k1.pu P4
  have k24 := k2.pu P4
  have k34 := k3.pu P4
  have k44 := k4.pu P4
  have hq4 := hzq3.pu pr
  have hr4 := hzr.pu pr
  have kq4 := kq3.pu pr
  have hWs := hW.size
  have sz23 : w2.heap.size < w3.heap.size := kq3.lt
  have hWs4 : w.heap.size + 4 = W.heap.size := by rw [HWe.out]; simp
  have hle2 : W.heap.size ≤ w2.heap.size := P2.size
  clear Hmq Hmr kq pq hzq hzr x10 q10 q20 p1 p2 p3 P2 P3 kq3 hzq3 k1 k2 k3 k4 pr
  have d1 : decide (sr < 0) = decide (zr < 0) := by
    rw [hsr]
    rcases Int.lt_or_le zr 0 with h | h
    · rw [Int.sign_eq_neg_one_of_neg h, decide_eq_true h]
      rfl
    · rw [decide_eq_false (show ¬ zr < 0 by omega), decide_eq_false]
      rcases sign_case zr with e | e | e
      · rw [e]; decide
      · rw [e]; decide
      · have := Int.sign_eq_neg_one_iff_neg.1 e
        omega
  have Hsr := Lib.hid hsr
  clear hsr
  rcases Int.lt_or_le zr 0 with hneg | hneg
  · rw [decide_eq_true hneg] at d1
    go_wp2_with fail
    generalize w3.alloc (.cells #[.int .i64 sr, .slice Ar nr cr] 39) = W4 at *
    have hP : Pu W4 W4.drew := (Pu.refl W4).drew
    have s90 : W4.cell? ⟨w3.heap.size, 0, none⟩ = some (.int .i64 sr) := kr.cell 0
    have s91 : W4.cell? ⟨w3.heap.size, 1, none⟩ = some (.slice Ar nr cr) := kr.cell 1
    have q21 : W4.cell? ⟨w.heap.size + 1, 1, none⟩ = some (.slice A2 n2 c2) := k24.cell 1
    go_region_with (first
      | (go_at_call 47; refine (rmade_any 1 A2 n2 c2 l2 _ (hS2.pu (P4.trans hP)) (by omega) hc2 hb2 (hJ2.pu (P4.trans hP)) (.inl rfl)).mono ?_; rintro e u1 ⟨vy, rfl, hzy, p5⟩; replace hP := hP.trans p5; obtain ⟨sy, Ay, ny, cy, rfl, -⟩ := hzy.shape; replace s90 := (kr.pu hP).cell 0; replace s91 := (kr.pu hP).cell 1; replace q21 := (k24.pu hP).cell 1)
      | (go_at_call 25; refine (radd_any _ _ zr _ _ (hr4.pu hP) hzy BQ.out.2 (by rw [Int.one_mul, Int.natAbs_natCast, HV.out.2]; exact b2)).mono ?_; rintro e u2 ⟨vt, rfl, hzt, p6⟩; replace hP := hP.trans p6; obtain ⟨st, At, nt, ct, rfl, -⟩ := hzt.shape; replace s90 := (kr.pu hP).cell 0; replace s91 := (kr.pu hP).cell 1; have g90 := (kr.pu hP).frozen 0; have g91 := (kr.pu hP).frozen 1))
    all_goals
      obtain ⟨kr6, fr6⟩ := over_z (kr.pu hP) st At nt ct
      obtain ⟨_, _, pz6, rz6⟩ := store_rz (kr.pu hP) st At nt ct
      have P6 := pz6 _ (P4.trans hP) (by omega)
      have kq6 := (kq4.pu hP).fr fr6 (by show ¬ w2.heap.size = w3.heap.size; omega)
      have k26 := (k24.pu hP).fr fr6 (by show ¬ w.heap.size + 1 = w3.heap.size; omega)
      have k36 := (k34.pu hP).fr fr6 (by show ¬ w.heap.size + 2 = w3.heap.size; omega)
      have k46 := (k44.pu hP).fr fr6 (by show ¬ w.heap.size + 3 = w3.heap.size; omega)
      have hq6 := rz6 _ _ (hq4.pu hP)
      have ht6 := rz6 _ _ hzt
      clear hzt hzy kr kq4 k14 k24 k34 k44 hq4 hr4 s90 s91 q21 g90 g91 pz6 rz6 hP P4 fr6
      generalize (u2.setCell ⟨w3.heap.size, 0, none⟩ (.int .i64 st)).setCell ⟨w3.heap.size, 1, none⟩ (.slice At nt ct) = W6 at *
      have hP : Pu W6 W6.drew := (Pu.refl W6).drew
      have s80 : W6.cell? ⟨w2.heap.size, 0, none⟩ = some (.int .i64 sq) := kq6.cell 0
      have s81 : W6.cell? ⟨w2.heap.size, 1, none⟩ = some (.slice Aq nq cq) := kq6.cell 1
      have q20 : W6.cell? ⟨w.heap.size + 1, 0, none⟩ = some (.int .i64 s2) := k26.cell 0
      have hwn : IntKind.i64.wrap (-s2) = -s2 := IntWalk.i64_in _ (by rcases hc2' with e | e <;> rw [e] <;> decide)
      have hfr := fun W => rfrom_any (-s2) W (by rcases hc2' with e | e <;> rw [e] <;> decide)
      have Hfr := Lib.hid hfr
      have hb2s : (-s2).natAbs < 10 ^ 200 := by
        have h1 : (-s2).natAbs = 1 := by rcases hc2' with e | e <;> rw [e] <;> decide
        rw [h1]
        exact Nat.one_lt_pow (by omega) (by decide)
      have HB2 := Lib.hid hb2s
      clear hfr hb2s
      go_wp2_with fail
      go_region_with (first
        | (go_at_call 55; refine (Hfr.out _).mono ?_; rintro e u3 ⟨vf, rfl, hzf, p7⟩; replace hP := hP.trans p7; obtain ⟨sf, Af, nf, cf, rfl, -⟩ := hzf.shape; replace s80 := (kq6.pu hP).cell 0; replace s81 := (kq6.pu hP).cell 1; replace q20 := (k26.pu hP).cell 0)
        | (go_at_call 25; refine (radd_any _ _ zq _ _ (hq6.pu hP) hzf BQ.out.1 HB2.out).mono ?_; rintro e u4 ⟨vp, rfl, hzp, p8⟩; replace hP := hP.trans p8; obtain ⟨sp, Ap, np, cp, rfl, -⟩ := hzp.shape; replace s80 := (kq6.pu hP).cell 0; replace s81 := (kq6.pu hP).cell 1; have g80 := (kq6.pu hP).frozen 0; have g81 := (kq6.pu hP).frozen 1))
      all_goals
        obtain ⟨kq8, fr8⟩ := over_z (kq6.pu hP) sp Ap np cp
        obtain ⟨_, _, pz8, rz8⟩ := store_rz (kq6.pu hP) sp Ap np cp
        have P8 := pz8 _ (P6.trans hP) (by omega)
        have kr8 := (kr6.pu hP).fr fr8 (by show ¬ w3.heap.size = w2.heap.size; omega)
        have k38 := (k36.pu hP).fr fr8 (by show ¬ w.heap.size + 2 = w2.heap.size; omega)
        have k48 := (k46.pu hP).fr fr8 (by show ¬ w.heap.size + 3 = w2.heap.size; omega)
        have hp8 := rz8 _ _ hzp
        have ht8 := rz8 _ _ (ht6.pu hP)
        clear hzp hzf kr6 kq6 k26 k36 k46 hq6 ht6 s80 s81 q20 g80 g81 pz8 rz8 hP P6 fr8
        generalize (u4.setCell ⟨w2.heap.size, 0, none⟩ (.int .i64 sp)).setCell ⟨w2.heap.size, 1, none⟩ (.slice Ap np cp) = W8 at *
        have r80 : W8.cell? ⟨w2.heap.size, 0, none⟩ = some (.int .i64 sp) := kq8.cell 0
        have r81 : W8.cell? ⟨w2.heap.size, 1, none⟩ = some (.slice Ap np cp) := kq8.cell 1
        have r90 : W8.cell? ⟨w3.heap.size, 0, none⟩ = some (.int .i64 st) := kr8.cell 0
        have r91 : W8.cell? ⟨w3.heap.size, 1, none⟩ = some (.slice At nt ct) := kr8.cell 1
        have c30 : W8.cell? ⟨w.heap.size + 2, 0, none⟩ = some (.int .i64 0) := k38.cell 0
        have c31 : W8.cell? ⟨w.heap.size + 2, 1, none⟩ = some (.slice none 0 0) := k38.cell 1
        have c40 : W8.cell? ⟨w.heap.size + 3, 0, none⟩ = some (.int .i64 0) := k48.cell 0
        have c41 : W8.cell? ⟨w.heap.size + 3, 1, none⟩ = some (.slice none 0 0) := k48.cell 1
        have f30 := k38.frozen 0
        have f31 := k38.frozen 1
        have f40 := k48.frozen 0
        have f41 := k48.frozen 1
        have ne2 : w.heap.size + 2 ≠ w2.heap.size := by omega
        have ne3 : w.heap.size + 2 ≠ w3.heap.size := by omega
        have me2 : w.heap.size + 3 ≠ w2.heap.size := by omega
        have me3 : w.heap.size + 3 ≠ w3.heap.size := by omega
        have x80 := two_farz (p := ⟨w2.heap.size, 0, none⟩) (u := .int .i64 st) (v := .slice At nt ct) (Ne.symm me2) r80
        have x81 := two_farz (p := ⟨w2.heap.size, 1, none⟩) (u := .int .i64 st) (v := .slice At nt ct) (Ne.symm me2) r81
        have x90 := two_farz (p := ⟨w3.heap.size, 0, none⟩) (u := .int .i64 sp) (v := .slice Ap np cp) (Ne.symm ne3) r90
        have x91 := two_farz (p := ⟨w3.heap.size, 1, none⟩) (u := .int .i64 sp) (v := .slice Ap np cp) (Ne.symm ne3) r91
        go_wp2_with fail
        go_region
        obtain ⟨t20, t21, t30, t31, tz, tp⟩ := two_store_z k38 k48 (by omega) sp st Ap At np cp nt ct _ rfl
        have e2 := div_sign2 z1 z2 hz (by rw [← EZ.out.2]; exact hneg)
        have tq := tz _ _ hp8
        have tr := tz _ _ ht8
        have tP := tp _ (hW.trans P8) (by omega) (by omega)
        rw [EZ.out.1, HE.out.2, e2.1] at tq
        rw [EZ.out.2, Int.one_mul, HV.out.2, e2.2] at tr
        clear tz tp
        generalize ((((W8.setCell ⟨w.heap.size + 2, 0, none⟩ (.int .i64 sp)).setCell ⟨w.heap.size + 2, 1, none⟩ (.slice Ap np cp)).setCell ⟨w.heap.size + 3, 0, none⟩ (.int .i64 st)).setCell ⟨w.heap.size + 3, 1, none⟩ (.slice At nt ct)).drew = W5 at t20 t21 t30 t31 tq tr tP ⊢
        go_wp2
        exact bodyPost_ret (v := .tuple #[.agg #[.int .i64 sp, .slice Ap np cp], .agg #[.int .i64 st, .slice At nt ct]]) (by simp [results, Tryd.results22, go_sem, t20, t21, t30, t31]) rfl ⟨_, _, rfl, tq, tr, tP⟩
  · rw [decide_eq_false (show ¬ zr < 0 by omega)] at d1
    go_wp2_with fail
    generalize w3.alloc (.cells #[.int .i64 sr, .slice Ar nr cr] 39) = W4 at *
    have r80 : W4.cell? ⟨w2.heap.size, 0, none⟩ = some (.int .i64 sq) := kq4.cell 0
    have r81 : W4.cell? ⟨w2.heap.size, 1, none⟩ = some (.slice Aq nq cq) := kq4.cell 1
    have r90 : W4.cell? ⟨w3.heap.size, 0, none⟩ = some (.int .i64 sr) := kr.cell 0
    have r91 : W4.cell? ⟨w3.heap.size, 1, none⟩ = some (.slice Ar nr cr) := kr.cell 1
    have c30 : W4.cell? ⟨w.heap.size + 2, 0, none⟩ = some (.int .i64 0) := k34.cell 0
    have c31 : W4.cell? ⟨w.heap.size + 2, 1, none⟩ = some (.slice none 0 0) := k34.cell 1
    have c40 : W4.cell? ⟨w.heap.size + 3, 0, none⟩ = some (.int .i64 0) := k44.cell 0
    have c41 : W4.cell? ⟨w.heap.size + 3, 1, none⟩ = some (.slice none 0 0) := k44.cell 1
    have f30 := k34.frozen 0
    have f31 := k34.frozen 1
    have f40 := k44.frozen 0
    have f41 := k44.frozen 1
    have ne2 : w.heap.size + 2 ≠ w2.heap.size := by omega
    have ne3 : w.heap.size + 2 ≠ w3.heap.size := by omega
    have me2 : w.heap.size + 3 ≠ w2.heap.size := by omega
    have me3 : w.heap.size + 3 ≠ w3.heap.size := by omega
    have x80 := two_farz (p := ⟨w2.heap.size, 0, none⟩) (u := .int .i64 sr) (v := .slice Ar nr cr) (Ne.symm me2) r80
    have x81 := two_farz (p := ⟨w2.heap.size, 1, none⟩) (u := .int .i64 sr) (v := .slice Ar nr cr) (Ne.symm me2) r81
    have x90 := two_farz (p := ⟨w3.heap.size, 0, none⟩) (u := .int .i64 sq) (v := .slice Aq nq cq) (Ne.symm ne3) r90
    have x91 := two_farz (p := ⟨w3.heap.size, 1, none⟩) (u := .int .i64 sq) (v := .slice Aq nq cq) (Ne.symm ne3) r91
    go_region
    obtain ⟨t20, t21, t30, t31, tz, tp⟩ := two_store_z k34 k44 (by omega) sq sr Aq Ar nq cq nr cr _ rfl
    have e2 := div_sign z1 z2 hz (by rw [← EZ.out.2]; omega)
    have tq := tz _ _ hq4
    have tr := tz _ _ hr4
    have tP := tp _ (hW.trans P4) (by omega) (by omega)
    rw [EZ.out.1, e2.1] at tq
    rw [EZ.out.2, e2.2] at tr
    clear tz tp
    generalize ((((W4.setCell ⟨w.heap.size + 2, 0, none⟩ (.int .i64 sq)).setCell ⟨w.heap.size + 2, 1, none⟩ (.slice Aq nq cq)).setCell ⟨w.heap.size + 3, 0, none⟩ (.int .i64 sr)).setCell ⟨w.heap.size + 3, 1, none⟩ (.slice Ar nr cr)).drew = W5 at t20 t21 t30 t31 tq tr tP ⊢
    go_wp2
    exact bodyPost_ret (v := .tuple #[.agg #[.int .i64 sq, .slice Aq nq cq], .agg #[.int .i64 sr, .slice Ar nr cr]]) (by simp [results, Tryd.results22, go_sem, t20, t21, t30, t31]) rfl ⟨_, _, rfl, tq, tr, tP⟩
end Go.Proofs.YtckfnbckoclhpaaDoor
