/- zed: DivMod. zed: DivMod by nought. -/
import Derived.Test.YtckfnbckoclhpaaGreatDoorC04
import Derived.Test.YtckfnbckoclhpaaGreatDoorC05
import Derived.Deep.RegionHeld3
namespace Go.Proofs.YtckfnbckoclhpaaGreatDoor
section
set_option linter.unusedVariables false
open Go.RowKit
/- zed: DivMod. -/
theorem two_far {w : World} {b : Nat} {u v : Value} {p : Addr} {x : Value} (hp : p.block ≠ b) (h : w.cell? p = some x) : ((w.setCell ⟨b, 0, none⟩ u).setCell ⟨b, 1, none⟩ v).cell? p = some x := ((Fr.one w b 0 u).trans (Fr.one _ b 1 v)).cellv h hp
theorem one_lt_up (n : Nat) (h : 0 < n) : 1 < (4294967296 : Nat) ^ n := Nat.one_lt_pow (by omega) (by decide)
theorem two_store {W : World} {a b : Nat} {x1 x2 : Bool} {y1 y2 : Option Addr} {m1 m2 d1 d2 : Nat} (kq : Blk W a 30 #[.bool x1, .slice y1 m1 d1]) (kr : Blk W b 30 #[.bool x2, .slice y2 m2 d2]) (hab : a ≠ b) (gq gr : Bool) (Aq Ar : Option Addr) (nq cq nr cr : Nat) (W' : World)
    (hW' : W' = ((((W.setCell ⟨a, 0, none⟩ (.bool gq)).setCell ⟨a, 1, none⟩ (.slice Aq nq cq)).setCell ⟨b, 0, none⟩ (.bool gr)).setCell ⟨b, 1, none⟩ (.slice Ar nr cr)).drew) :
    W'.cell? ⟨a, 0, none⟩ = some (.bool gq) ∧ W'.cell? ⟨a, 1, none⟩ = some (.slice Aq nq cq) ∧ W'.cell? ⟨b, 0, none⟩ = some (.bool gr) ∧ W'.cell? ⟨b, 1, none⟩ = some (.slice Ar nr cr) ∧ (∀ v z, ZR W v z → ZR W' v z) ∧ (∀ w0, Pu w0 W → w0.heap.size ≤ a → w0.heap.size ≤ b → Pu w0 W') := by
  subst hW'
  obtain ⟨_, _, z1, p1⟩ := store_num kq gq Aq nq cq
  have kr1 := (kr.far (p := ⟨a, 0, none⟩) (by dsimp; omega) (.bool gq)).far (p := ⟨a, 1, none⟩) (by dsimp; omega) (.slice Aq nq cq)
  have kq1 := (kq.set_ 0 (.bool gq)).set_ 1 (.slice Aq nq cq)
  obtain ⟨_, _, z2, p2⟩ := store_num kr1 gr Ar nr cr
  have kr2 := ((kr1.set_ 0 (.bool gr)).set_ 1 (.slice Ar nr cr)).drew
  have kq2 := ((kq1.far (p := ⟨b, 0, none⟩) (by dsimp; omega) (.bool gr)).far (p := ⟨b, 1, none⟩) (by dsimp; omega) (.slice Ar nr cr)).drew
  exact ⟨kq2.cell 0, kq2.cell 1, kr2.cell 0, kr2.cell 1, fun v z h => (z2 _ _ (z1 _ _ h)).pu ((Pu.refl _).drew), fun w0 h ha hb => (p2 _ (p1 _ h ha) hb).drew⟩
theorem ZR.len {w : World} {g : Bool} {A : Option Addr} {n c : Nat} {z : Int} (h : ZR w (.agg #[.bool g, .slice A n c]) z) : n = 0 ↔ z = 0 := by
  obtain ⟨g', A', n', c', l, e, hs, hb, ht, hg, ⟨hc, hU⟩, rfl⟩ := h
  injection e with e
  have e1 : [Value.bool g, .slice A n c] = [Value.bool g', .slice A' n' c'] := by injection e
  injection e1 with e1 e2
  injection e2 with e2 _
  injection e2 with _ en _
  subst en
  have hl := hs.wlen
  constructor
  · intro h0
    have : l = [] := List.eq_nil_of_length_eq_zero (by omega)
    rw [this, show pval 4294967296 [] = 0 from rfl, sgn_zero]
  · intro h0
    have h1 : pval 4294967296 l = 0 := by
      have := congrArg Int.natAbs h0
      rwa [sgn_abs] at this
    have := tidy_zero ht (by omega) h1
    rw [this] at hl
    exact hl.symm
theorem euclid {a b q r : Int} (hb : b ≠ 0) (h : b * q + r = a) (h0 : 0 ≤ r) (h1 : r < b.natAbs) : a / b = q ∧ a % b = r := by
  rcases Int.lt_or_gt_of_ne hb with hb | hb
  · obtain ⟨c, rfl⟩ : ∃ c, b = -c := ⟨-b, by omega⟩
    rw [Int.ediv_neg, Int.emod_neg]
    have h2 := (Int.ediv_emod_unique (a := a) (b := c) (q := -q) (r := r) (by omega)).2 ⟨by rw [Int.mul_neg, ← h, Int.neg_mul]; omega, h0, by omega⟩
    rw [h2.1, h2.2]
    exact ⟨by omega, rfl⟩
  · exact (Int.ediv_emod_unique (by omega)).2 ⟨by rw [← h]; omega, h0, by omega⟩
theorem sgn_ne {g : Bool} {Y : Nat} (h : 0 < Y) : sgn g Y ≠ 0 := by
  intro e
  have := congrArg Int.natAbs e
  rw [sgn_abs] at this
  simp at this
  omega
theorem div_sgn (g1 g2 : Bool) (X Y : Nat) (hY : 0 < Y) (h : g1 = false ∨ X % Y = 0) : sgn g1 X / sgn g2 Y = sgn (g1 != g2) (X / Y) ∧ sgn g1 X % sgn g2 Y = ((X % Y : Nat) : Int) := by
  have hdm := Nat.div_add_mod X Y
  have hml := Nat.mod_lt X hY
  refine euclid (sgn_ne hY) ?_ (by omega) (by rw [sgn_abs]; omega)
  rw [sgn_mul]
  have e : (g2 != (g1 != g2)) = g1 := by cases g1 <;> cases g2 <;> rfl
  rw [e]
  generalize X % Y = r at *
  generalize Y * (X / Y) = k at *
  rcases h with rfl | rfl
  · show (k : Int) + (r : Int) = (X : Int)
    omega
  · cases g1 <;> simp [sgn] <;> omega
theorem div_sgn2 (g2 : Bool) (X Y : Nat) (hY : 0 < Y) (h : X % Y ≠ 0) : sgn true X / sgn g2 Y = sgn (true != g2) (X / Y) + -(sgn g2 Y).sign ∧ sgn true X % sgn g2 Y = (Y : Int) - ((X % Y : Nat) : Int) := by
  have hdm := Nat.div_add_mod X Y
  have hml := Nat.mod_lt X hY
  refine euclid (sgn_ne hY) ?_ (by omega) (by rw [sgn_abs]; omega)
  have e : (g2 != (true != g2)) = true := by cases g2 <;> rfl
  rw [Int.mul_add, sgn_mul, e, Int.mul_neg, Int.mul_sign_self, sgn_abs]
  generalize X % Y = r at *
  generalize Y * (X / Y) = k at *
  show -(k : Int) + -(Y : Int) + _ = -(X : Int)
  omega
set_option maxHeartbeats 4000000 in
set_option maxRecDepth 100000 in
theorem divmod_any (v1 v2 : Value) (z1 z2 : Int) (w : World) (h1 : ZR w v1 z1) (h2 : ZR w v2 z2) (b1 : z1.natAbs < 4294967296 ^ 40000) (b2 : z2.natAbs < 4294967296 ^ 40000) (hz : z2 ≠ 0) (hd : DivOk z1.natAbs z2.natAbs) :
    Calls Tryz.prog 154 #[v1, v2] w fun e w' => ∃ v3 v4, e = .returned (.tuple #[v3, v4, .int .i64 0]) ∧ ZR w' v3 (z1 / z2) ∧ ZR w' v4 (z1 % z2) ∧ Pu w w' := by
  obtain ⟨g1, A1, n1, c1, l1, rfl, hs1, hb1, ht1, hg1, ⟨hc1, hU1⟩, rfl⟩ := h1
  obtain ⟨g2, A2, n2, c2, l2, rfl, hs2, hb2, ht2, hg2, ⟨hc2, hU2⟩, rfl⟩ := h2
  rw [sgn_abs] at b1 b2
  rw [sgn_abs, sgn_abs] at hd
  have hn1 := tidy_len ht1 b1
  have hn2 := tidy_len ht2 b2
  have ll1 := hs1.wlen
  have ll2 := hs2.wlen
  have hne : l2 ≠ [] := fun e => by
    rw [e] at hz
    exact hz (by rw [show pval 4294967296 [] = 0 from rfl, sgn_zero])
  have hn0 : n2 ≠ 0 := fun e => hne (List.eq_nil_of_length_eq_zero (by omega))
  have e0 : ((n2 : Int) == 0) = false := by simp; omega
  obtain ⟨W, hWe⟩ : ∃ W, W = (((w.alloc (.cells #[.bool g1, .slice A1 n1 c1] 30)).alloc (.cells #[.bool g2, .slice A2 n2 c2] 30)).alloc (.cells #[.bool false, .slice none 0 0] 30)).alloc (.cells #[.bool false, .slice none 0 0] 30) := ⟨_, rfl⟩
  have hW : Pu w W := by
    rw [hWe]
    exact ((((Pu.refl w).alloc _).alloc _).alloc _).alloc _
  have k1 : Blk W w.heap.size 30 #[.bool g1, .slice A1 n1 c1] := by rw [hWe]; exact (((Blk.new w _ _).alloc _).alloc _).alloc _
  have k2 : Blk W (w.heap.size + 1) 30 #[.bool g2, .slice A2 n2 c2] := by rw [hWe]; exact ((Blk.at_new _ _ _ (by simp)).alloc _).alloc _
  have k3 : Blk W (w.heap.size + 2) 30 #[.bool false, .slice none 0 0] := by rw [hWe]; exact (Blk.at_new _ _ _ (by simp)).alloc _
  have k4 : Blk W (w.heap.size + 3) 30 #[.bool false, .slice none 0 0] := by rw [hWe]; exact Blk.at_new _ _ _ (by simp)
  have hd1 := hd A1 A2 n1 c1 n2 c2 l1 l2 W (hs1.pu hW) (hs2.pu hW) hb1 hb2 ht1 ht2 (by omega) (by omega) hc1 hc2 rfl rfl
  rw [hWe] at hd1
  have HWe := Lib.hid hWe
  clear hWe hd
  go_enter Tryz.func154, Tryz.ntmps154
  go_wp2_with fail
  refine hd1.mono ?_
  rintro e w1 ⟨A3, n3, c3, q, A4, n4, c4, r, rfl, hs3, hs4, hn3, hn4, hc3, hc4, hb3, hb4, hq, hr, p1⟩
  rw [← HWe.out] at p1
  have hP1 := hW.trans p1
  replace k1 := k1.pu p1
  replace k2 := k2.pu p1
  replace k3 := k3.pu p1
  replace k4 := k4.pu p1
  have Hq := Lib.hid hq
  have Hr := Lib.hid hr
  clear hq hr
  have q10 : w1.cell? ⟨w.heap.size, 0, none⟩ = some (.bool g1) := k1.cell 0
  have q20 : w1.cell? ⟨w.heap.size + 1, 0, none⟩ = some (.bool g2) := k2.cell 0
  go_wp2_with fail
  have hP : Pu w1 w1.drew := (Pu.refl w1).drew
  have hlt := tidied_len r
  have ll4 := hs4.wlen
  go_region_held3 (fun u => u.cell? ⟨w.heap.size, 0, none⟩ = some (.bool g1) ∧ u.cell? ⟨w.heap.size + 1, 0, none⟩ = some (.bool g2))
    (first | exact ⟨(k1.pu hP).cell 0, (k2.pu hP).cell 0⟩ | exact ⟨two_far (by dsimp; omega) ((k1.pu hP).cell 0), two_far (by dsimp; omega) ((k2.pu hP).cell 0)⟩ | exact ⟨two_far (by dsimp; omega) (two_far (by dsimp; omega) ((k1.pu hP).cell 0)), two_far (by dsimp; omega) (two_far (by dsimp; omega) ((k2.pu hP).cell 0))⟩ | go_keep)
    (first
    | (go_at_call_of 82 A3; refine (clone_words A3 n3 c3 q _ (hs3.pu hP) (by omega)).mono ?_; rintro e u1 ⟨A5, c5, rfl, ho5, p5⟩; replace hP := hP.trans p5; (try replace ho7 := own_pu ho7 p5); (try replace hzr := hzr.pu p5))
    | (go_at_call_of 63 A5; refine (made_any _ A5 n3 c5 q _ (Sl.of_own ho5) (by omega) (own_le ho5).2 hb3 (W32.of_own ho5)).mono ?_; rintro e u2 ⟨vq, rfl, hzq, p6⟩; replace hP := hP.trans p6; have hzq2 := hzq; obtain ⟨gq, Aq, nq, cq, lq, rfl, _⟩ := hzq2; have s20 : _ = some (Value.bool false) := (k3.pu hP).cell 0; have f20 := (k3.pu hP).frozen 0; have s21 : _ = some (Value.slice none 0 0) := (k3.pu hP).cell 1; have f21 := (k3.pu hP).frozen 1; have s30 : _ = some (Value.bool false) := (k4.pu hP).cell 0; have f30 := (k4.pu hP).frozen 0; have s31 : _ = some (Value.slice none 0 0) := (k4.pu hP).cell 1; have f31 := (k4.pu hP).frozen 1; (try replace ho7 := own_pu ho7 p6); (try replace hzr := hzr.pu p6))
    | (go_at_call 100; refine (trim_any A4 n4 c4 r _ (hs4.pu hP) (by omega) hc4).mono ?_; rintro e u3 ⟨rfl, rfl⟩)
    | (go_at_call_of 82 A4; refine (clone_words A4 _ c4 (tidied r) _ ((tidied_Sl hs4).pu hP) (by omega)).mono ?_; rintro e u4 ⟨A7, c7, rfl, ho7, p7⟩; replace hP := hP.trans p7; (try replace ho5 := own_pu ho5 p7); (try replace hzq := hzq.pu p7))
    | (go_at_call_of 63 A7; refine (made_any _ A7 _ c7 (tidied r) _ (Sl.of_own ho7) (by omega) (own_le ho7).2 (tidied_below hb4) (W32.of_own ho7)).mono ?_; rintro e u5 ⟨vr, rfl, hzr, p8⟩; replace hP := hP.trans p8; have hzr2 := hzr; obtain ⟨gr, Ar, nr, cr, lr, rfl, _⟩ := hzr2; have s20 : _ = some (Value.bool false) := (k3.pu hP).cell 0; have f20 := (k3.pu hP).frozen 0; have s21 : _ = some (Value.slice none 0 0) := (k3.pu hP).cell 1; have f21 := (k3.pu hP).frozen 1; have s30 : _ = some (Value.bool false) := (k4.pu hP).cell 0; have f30 := (k4.pu hP).frozen 0; have s31 : _ = some (Value.slice none 0 0) := (k4.pu hP).cell 1; have f31 := (k4.pu hP).frozen 1; (try replace ho5 := own_pu ho5 p8); (try replace hzq := hzq.pu p8)))
  have hP5 := hP1.trans hP
  have kq0 := k3.pu hP
  have kr0 := k4.pu hP
  have k1a := k1.pu hP
  have k2a := k2.pu hP
  obtain ⟨r20, r21, rz2, rp2⟩ := store_num kq0 gq Aq nq cq
  have kr1 : Blk ((u5.setCell ⟨w.heap.size + 2, 0, none⟩ (.bool gq)).setCell ⟨w.heap.size + 2, 1, none⟩ (.slice Aq nq cq)) (w.heap.size + 3) 30 #[.bool false, .slice none 0 0] := (kr0.far (by dsimp; omega) _).far (by dsimp; omega) _
  have kq1 : Blk ((u5.setCell ⟨w.heap.size + 2, 0, none⟩ (.bool gq)).setCell ⟨w.heap.size + 2, 1, none⟩ (.slice Aq nq cq)) (w.heap.size + 2) 30 #[.bool gq, .slice Aq nq cq] := (kq0.set_ 0 _).set_ 1 _
  obtain ⟨r30, r31, rz3, rp3⟩ := store_num kr1 gr Ar nr cr
  have hq4 := rz3 _ _ (rz2 _ _ hzq)
  have hr4 := rz3 _ _ (rz2 _ _ hzr)
  have hP4 := rp3 _ (rp2 _ hP5 (by omega)) (by omega)
  have kq4 := (kq1.far (p := ⟨w.heap.size + 3, 0, none⟩) (by dsimp; omega) (.bool gr)).far (p := ⟨w.heap.size + 3, 1, none⟩) (by dsimp; omega) (.slice Ar nr cr)
  have kr4 : Blk _ (w.heap.size + 3) 30 #[.bool gr, .slice Ar nr cr] := (kr1.set_ 0 (.bool gr)).set_ 1 (.slice Ar nr cr)
  have k14 := ((((k1a.far (p := ⟨w.heap.size + 2, 0, none⟩) (by dsimp; omega) (.bool gq)).far (p := ⟨w.heap.size + 2, 1, none⟩) (by dsimp; omega) (.slice Aq nq cq)).far (p := ⟨w.heap.size + 3, 0, none⟩) (by dsimp; omega) (.bool gr)).far (p := ⟨w.heap.size + 3, 1, none⟩) (by dsimp; omega) (.slice Ar nr cr))
  have k24 := ((((k2a.far (p := ⟨w.heap.size + 2, 0, none⟩) (by dsimp; omega) (.bool gq)).far (p := ⟨w.heap.size + 2, 1, none⟩) (by dsimp; omega) (.slice Aq nq cq)).far (p := ⟨w.heap.size + 3, 0, none⟩) (by dsimp; omega) (.bool gr)).far (p := ⟨w.heap.size + 3, 1, none⟩) (by dsimp; omega) (.slice Ar nr cr))
  clear kq0 kr0 k1a k2a r20 r21 rz2 rp2 kr1 kq1 r30 r31 rz3 rp3 hzq hzr hP5 hP k1 k2 k3 k4 s20 s21 s30 s31 f20 f21 f30 f31 q10 q20 ho5 ho7
  show Exit.then _ _ Exit.normal _ ((((u5.setCell ⟨w.heap.size + 2, 0, none⟩ (.bool gq)).setCell ⟨w.heap.size + 2, 1, none⟩ (.slice Aq nq cq)).setCell ⟨w.heap.size + 3, 0, none⟩ (.bool gr)).setCell ⟨w.heap.size + 3, 1, none⟩ (.slice Ar nr cr))
  generalize ((((u5.setCell ⟨w.heap.size + 2, 0, none⟩ (.bool gq)).setCell ⟨w.heap.size + 2, 1, none⟩ (.slice Aq nq cq)).setCell ⟨w.heap.size + 3, 0, none⟩ (.bool gr)).setCell ⟨w.heap.size + 3, 1, none⟩ (.slice Ar nr cr)) = W4 at *
  have q10 : W4.cell? ⟨w.heap.size, 0, none⟩ = some (.bool g1) := k14.cell 0
  have q20 : W4.cell? ⟨w.heap.size + 1, 0, none⟩ = some (.bool g2) := k24.cell 0
  have q21 : W4.cell? ⟨w.heap.size + 1, 1, none⟩ = some (.slice A2 n2 c2) := k24.cell 1
  have s20 : W4.cell? ⟨w.heap.size + 2, 0, none⟩ = some (.bool gq) := kq4.cell 0
  have s21 : W4.cell? ⟨w.heap.size + 2, 1, none⟩ = some (.slice Aq nq cq) := kq4.cell 1
  have s30 : W4.cell? ⟨w.heap.size + 3, 0, none⟩ = some (.bool gr) := kr4.cell 0
  have s31 : W4.cell? ⟨w.heap.size + 3, 1, none⟩ = some (.slice Ar nr cr) := kr4.cell 1
  have f20 := kq4.frozen 0
  have f21 := kq4.frozen 1
  have f30 := kr4.frozen 0
  have f31 := kr4.frozen 1
  have hlen := hr4.len
  have hY0 := pval_pos ht2 hne
  have hvq : pval 4294967296 q = pval 4294967296 l1 / pval 4294967296 l2 := Hq.out
  have hvr : pval 4294967296 (tidied r) = pval 4294967296 l1 % pval 4294967296 l2 := by rw [tidied_val]; exact Hr.out
  obtain ⟨X, hX⟩ : ∃ X, X = pval 4294967296 l1 := ⟨_, rfl⟩
  obtain ⟨Y, hY⟩ : ∃ Y, Y = pval 4294967296 l2 := ⟨_, rfl⟩
  rw [hvq, ← hX, ← hY] at hq4
  rw [hvr, ← hX, ← hY] at hr4 hlen
  rw [← hY] at hY0
  rw [← hX] at b1
  rw [← hY] at b2
  have Hlen := Lib.hid hlen
  have h24 : ZR W4 (.agg #[.bool g2, .slice A2 n2 c2]) (sgn g2 Y) := ZR.pu ⟨g2, A2, n2, c2, l2, rfl, hs2, hb2, ht2, hg2, ⟨hc2, hU2⟩, by rw [hY]⟩ hP4
  have HX := Lib.hid hX
  have HY := Lib.hid hY
  clear hX hY
  clear hlen hvq hvr Hq Hr hs1 hs2 hb1 hb2 ht1 ht2 hs3 hs4 hb3 hb4 hne hg1 hg2
  by_cases hneg : g1 = true ∧ nr ≠ 0
  · obtain ⟨rfl, hnr⟩ := hneg
    have d0 : decide ((nr : Int) > 0) = true := by simp; omega
    have d1 : decide ((0 : Int) < (nr : Int)) = true := by simp; omega
    have hP : Pu W4 W4.drew := (Pu.refl W4).drew
    have up := pow_up (show 40000 ≤ 90000 by decide)
    have hXY : X % Y ≠ 0 := fun e => hnr (Hlen.out.2 (by rw [e]; exact sgn_zero _))
    obtain ⟨m1, m2⟩ := div_sgn2 g2 X Y hY0 hXY
    have hbr : (sgn false (X % Y)).natAbs < 4294967296 ^ 40000 := by
      rw [sgn_abs]
      exact Nat.lt_of_le_of_lt (Nat.mod_le X Y) b1
    have hbq : (sgn (!true == g2) (X / Y)).natAbs < 4294967296 ^ 90000 := by
      rw [sgn_abs]
      exact Nat.lt_of_lt_of_le (Nat.lt_of_le_of_lt (Nat.div_le_self X Y) b1) up
    have hby : (sgn g2 Y).natAbs < 4294967296 ^ 40000 := by
      rw [sgn_abs]
      exact b2
    have hba : (((sgn g2 Y).natAbs : Nat) : Int).natAbs < 4294967296 ^ 40000 := by
      rw [sgn_abs, Int.natAbs_natCast]
      exact b2
    obtain ⟨σ, hσ⟩ : ∃ σ, σ = (sgn g2 Y).sign := ⟨_, rfl⟩
    have hσ1 : σ = 1 ∨ σ = -1 := by
      rw [hσ]
      cases g2
      · exact .inl (Int.sign_eq_one_of_pos (by show (0 : Int) < (Y : Int); omega))
      · exact .inr (Int.sign_eq_neg_one_of_neg (by show -(Y : Int) < 0; omega))
    have hbs : (-σ).natAbs < 4294967296 ^ 90000 := by
      have h1 : (-σ).natAbs = 1 := by omega
      rw [h1]
      exact one_lt_up 90000 (by decide)
    have hwσ : IntKind.i64.wrap (-σ) = -σ := IntWalk.i64_in _ (by omega)
    rw [← hσ] at m1
    have hsg := fun W (h : ZR W (.agg #[.bool g2, .slice A2 n2 c2]) (sgn g2 Y)) => sign_any _ (sgn g2 Y) W h hby
    rw [← hσ] at hsg
    have Hsg := Lib.hid hsg
    have M1 := Lib.hid m1
    have M2 := Lib.hid m2
    have BB := Lib.hid (And.intro hbr (And.intro hbq (And.intro hby (And.intro hba hbs))))
    have hfrom := fun W => from_any (-σ) W (by omega) (by omega)
    have Hfrom := Lib.hid hfrom
    have Hσ := Lib.hid hσ
    clear hbr hbq hby hba hbs hsg m1 m2 up hfrom hσ
    go_wp2_with fail
    rename_i QQ r1 hh K1 hK1 h0 K hK
    have key8 : ∀ (x13 x14 x43 x44 x45 x46 x47 x48 x49 x50 x51 x52 x53 x54 : Value) (gt gs : Bool) (At As : Option Addr) (nt ct ns cs : Nat) (W8 : World), Blk W8 (w.heap.size + 2) 30 #[.bool gt, .slice At nt ct] → Blk W8 (w.heap.size + 3) 30 #[.bool gs, .slice As ns cs] → ZR W8 (.agg #[.bool gt, .slice At nt ct]) (sgn true X / sgn g2 Y) → ZR W8 (.agg #[.bool gs, .slice As ns cs]) (sgn true X % sgn g2 Y) → Pu w W8 →
        Exit.then K1 QQ Exit.normal { tmps := #[Value.agg #[Value.bool true, Value.slice A1 n1 c1], Value.agg #[Value.bool g2, Value.slice A2 n2 c2],
        Value.pointer (some { block := w.heap.size, off := 0 }),
        Value.pointer (some { block := w.heap.size + 1, off := 0 }),
        Value.pointer (some { block := w.heap.size + 1 + 1, off := 0 }),
        Value.pointer (some { block := w.heap.size + 1 + 1 + 1, off := 0 }), Value.int IntKind.i64 0,
        Value.slice A3 n3 c3, Value.slice A4 n4 c4, Value.pointer (some { block := w.heap.size + 1, off := 1 }),
        Value.slice A2 n2 c2, Value.int IntKind.i64 n2, Value.bool false, x13, x14,
        Value.tuple #[Value.slice A3 n3 c3, Value.slice A4 n4 c4],
        Value.pointer (some { block := w.heap.size, off := 1 }), Value.slice A1 n1 c1,
        Value.pointer (some { block := w.heap.size + 1, off := 1 }), Value.slice A2 n2 c2,
        Value.tuple #[Value.slice A3 n3 c3, Value.slice A4 n4 c4], Value.slice A3 n3 c3, Value.slice A4 n4 c4,
        Value.pointer (some { block := w.heap.size, off := 0 }), Value.bool true,
        Value.pointer (some { block := w.heap.size + 1, off := 0 }), Value.bool g2, Value.bool !g2,
        Value.slice A3 n3 c3, Value.slice A5 n3 c5, Value.agg #[Value.bool gq, Value.slice Aq nq cq],
        Value.slice A4 n4 c4, Value.slice A4 (tidied r).length c4, Value.slice A7 (tidied r).length c7,
        Value.agg #[Value.bool gr, Value.slice Ar nr cr], Value.pointer (some { block := w.heap.size, off := 0 }),
        Value.bool true, Value.bool true, Value.pointer (some { block := w.heap.size + 1 + 1 + 1, off := 1 }),
        Value.slice Ar nr cr, Value.int IntKind.i64 nr, Value.bool true, Value.bool true, x43, x44, x45, x46, x47, x48, x49, x50, x51, x52, x53, x54], defers := [] } W8 := by
      intro x13 x14 x43 x44 x45 x46 x47 x48 x49 x50 x51 x52 x53 x54 gt gs At As nt ct ns cs W8 kt ks hzt hzs hP8
      have s20 : W8.cell? ⟨w.heap.size + 2, 0, none⟩ = some (.bool gt) := kt.cell 0
      have s21 : W8.cell? ⟨w.heap.size + 2, 1, none⟩ = some (.slice At nt ct) := kt.cell 1
      have s30 : W8.cell? ⟨w.heap.size + 3, 0, none⟩ = some (.bool gs) := ks.cell 0
      have s31 : W8.cell? ⟨w.heap.size + 3, 1, none⟩ = some (.slice As ns cs) := ks.cell 1
      have f20 := kt.frozen 0
      have f21 := kt.frozen 1
      have f30 := ks.frozen 0
      have f31 := ks.frozen 1
      clear k14 k24 kq4 kr4 hq4 hr4 h24 hP4
      go_wp2_with fail
      go_region
      all_goals
        obtain ⟨t20, t21, t30, t31, tz, tp⟩ := two_store kt ks (by omega) gt gs At As nt ct ns cs _ rfl
        have tq := tz _ _ hzt
        have tr := tz _ _ hzs
        have tP := tp _ hP8 (by omega) (by omega)
        clear tz tp
        generalize ((((W8.setCell ⟨w.heap.size + 2, 0, none⟩ (.bool gt)).setCell ⟨w.heap.size + 2, 1, none⟩ (.slice At nt ct)).setCell ⟨w.heap.size + 3, 0, none⟩ (.bool gs)).setCell ⟨w.heap.size + 3, 1, none⟩ (.slice As ns cs)).drew = W5 at t20 t21 t30 t31 tq tr tP ⊢
        go_wp2
        refine bodyPost_ret (v := .tuple #[.agg #[.bool gt, .slice At nt ct], .agg #[.bool gs, .slice As ns cs], .int .i64 0]) (by simp [results, Tryz.results154, go_sem, t20, t21, t30, t31]) rfl ⟨_, _, rfl, by rw [← HX.out, ← HY.out]; exact tq, by rw [← HX.out, ← HY.out]; exact tr, tP⟩
    clear hK1
    have key7 : ∀ (x13 x14 x43 x44 x45 x46 x47 x48 x49 x50 x51 x52 x53 x54 : Value) (gs : Bool) (As : Option Addr) (ns cs : Nat) (W6 : World), Blk W6 (w.heap.size + 1) 30 #[.bool g2, .slice A2 n2 c2] → Blk W6 (w.heap.size + 2) 30 #[.bool gq, .slice Aq nq cq] → Blk W6 (w.heap.size + 3) 30 #[.bool gs, .slice As ns cs] → ZR W6 (.agg #[.bool g2, .slice A2 n2 c2]) (sgn g2 Y) → ZR W6 (.agg #[.bool gq, .slice Aq nq cq]) (sgn (!true == g2) (X / Y)) → ZR W6 (.agg #[.bool gs, .slice As ns cs]) (sgn true X % sgn g2 Y) → Pu w W6 →
        Exit.then K (Exit.then K1 QQ) Exit.normal { tmps := #[Value.agg #[Value.bool true, Value.slice A1 n1 c1], Value.agg #[Value.bool g2, Value.slice A2 n2 c2],
        Value.pointer (some { block := w.heap.size, off := 0 }),
        Value.pointer (some { block := w.heap.size + 1, off := 0 }),
        Value.pointer (some { block := w.heap.size + 1 + 1, off := 0 }),
        Value.pointer (some { block := w.heap.size + 1 + 1 + 1, off := 0 }), Value.int IntKind.i64 0,
        Value.slice A3 n3 c3, Value.slice A4 n4 c4, Value.pointer (some { block := w.heap.size + 1, off := 1 }),
        Value.slice A2 n2 c2, Value.int IntKind.i64 n2, Value.bool false, x13, x14,
        Value.tuple #[Value.slice A3 n3 c3, Value.slice A4 n4 c4],
        Value.pointer (some { block := w.heap.size, off := 1 }), Value.slice A1 n1 c1,
        Value.pointer (some { block := w.heap.size + 1, off := 1 }), Value.slice A2 n2 c2,
        Value.tuple #[Value.slice A3 n3 c3, Value.slice A4 n4 c4], Value.slice A3 n3 c3, Value.slice A4 n4 c4,
        Value.pointer (some { block := w.heap.size, off := 0 }), Value.bool true,
        Value.pointer (some { block := w.heap.size + 1, off := 0 }), Value.bool g2, Value.bool !g2,
        Value.slice A3 n3 c3, Value.slice A5 n3 c5, Value.agg #[Value.bool gq, Value.slice Aq nq cq],
        Value.slice A4 n4 c4, Value.slice A4 (tidied r).length c4, Value.slice A7 (tidied r).length c7,
        Value.agg #[Value.bool gr, Value.slice Ar nr cr], Value.pointer (some { block := w.heap.size, off := 0 }),
        Value.bool true, Value.bool true, Value.pointer (some { block := w.heap.size + 1 + 1 + 1, off := 1 }),
        Value.slice Ar nr cr, Value.int IntKind.i64 nr, Value.bool true, Value.bool true, x43, x44, x45, x46, x47, x48, x49, x50, x51, x52, x53, x54], defers := [] } W6 := by
      intro x13 x14 x43 x44 x45 x46 x47 x48 x49 x50 x51 x52 x53 x54 gs As ns cs W6 k26 kq6 kr6 h26 hq6 hzs hP6
      clear s20 s21 s30 s31 f20 f21 f30 f31 q10 q20 q21 k14 k24 kq4 kr4 hq4 hr4 h24 hP4
      have q20 : W6.cell? ⟨w.heap.size + 1, 0, none⟩ = some (.bool g2) := k26.cell 0
      have q21 : W6.cell? ⟨w.heap.size + 1, 1, none⟩ = some (.slice A2 n2 c2) := k26.cell 1
      have s20 : W6.cell? ⟨w.heap.size + 2, 0, none⟩ = some (.bool gq) := kq6.cell 0
      have s21 : W6.cell? ⟨w.heap.size + 2, 1, none⟩ = some (.slice Aq nq cq) := kq6.cell 1
      have hP : Pu W6 W6.drew := (Pu.refl W6).drew
      have Key8 := Lib.hid key8
      clear key8
      go_wp2_with fail
      go_region_with (first
        | (go_at_call 15; refine (Hsg.out _ (h26.pu hP)).mono ?_; rintro e u8 ⟨rfl, p8⟩; replace hP := hP.trans p8; replace s20 := (kq6.pu hP).cell 0; replace s21 := (kq6.pu hP).cell 1)
        | (go_at_call 30; refine (Hfrom.out _).mono ?_; rintro e u9 ⟨vf, rfl, hzf, p9⟩; replace hP := hP.trans p9; have hzf2 := hzf; obtain ⟨gf, Af, nf, cf, lf, rfl, _⟩ := hzf2; replace s20 := (kq6.pu hP).cell 0; replace s21 := (kq6.pu hP).cell 1)
        | (go_at_call 83; refine (add_any _ _ _ _ _ (hq6.pu hP) hzf BB.out.2.1 BB.out.2.2.2.2).mono ?_; rintro e u10 ⟨vt, rfl, hzt, p10⟩; replace hP := hP.trans p10; have hzt2 := hzt; obtain ⟨gt, At, nt, ct, lt, rfl, _⟩ := hzt2; replace s20 := (kq6.pu hP).cell 0; replace s21 := (kq6.pu hP).cell 1; replace f20 := (kq6.pu hP).frozen 0; replace f21 := (kq6.pu hP).frozen 1))
      all_goals
        have kq7 := kq6.pu hP
        have kr7 := kr6.pu hP
        obtain ⟨_, _, rz7, rp7⟩ := store_num kq7 gt At nt ct
        refine Key8.out x13 x14 x43 x44 x45 x46 _ _ _ _ _ _ _ _ gt gs At As nt ct ns cs _ ((kq7.set_ 0 (.bool gt)).set_ 1 (.slice At nt ct)) ((kr7.far (p := ⟨w.heap.size + 2, 0, none⟩) (by dsimp; omega) (.bool gt)).far (p := ⟨w.heap.size + 2, 1, none⟩) (by dsimp; omega) (.slice At nt ct)) (by rw [M1.out]; exact rz7 _ _ hzt) (rz7 _ _ (hzs.pu hP)) (rp7 _ (hP6.trans hP) (by omega))
    have Key7 := Lib.hid key7
    clear key7 key8 hK
    go_region_with (first
      | (go_at_call 141; refine (abs_any _ (sgn g2 Y) _ (h24.pu hP) BB.out.2.2.1).mono ?_; rintro e u6 ⟨va, rfl, hza, p6⟩; replace hP := hP.trans p6; have hza2 := hza; obtain ⟨ga, Aa, na, ca, la, rfl, _⟩ := hza2; replace s30 := (kr4.pu hP).cell 0; replace s31 := (kr4.pu hP).cell 1)
      | (go_at_call 174; refine (sub_any _ _ _ _ _ hza (hr4.pu hP) BB.out.2.2.2.1 BB.out.1).mono ?_; rintro e u7 ⟨vs, rfl, hzs, p7⟩; replace hP := hP.trans p7; have hzs2 := hzs; obtain ⟨gs, As, ns, cs, ls, rfl, _⟩ := hzs2; replace s30 := (kr4.pu hP).cell 0; replace s31 := (kr4.pu hP).cell 1; replace f30 := (kr4.pu hP).frozen 0; replace f31 := (kr4.pu hP).frozen 1))
    all_goals
      have kr5 := kr4.pu hP
      have kq5 := kq4.pu hP
      have k25 := k24.pu hP
      obtain ⟨_, _, rz5, rp5⟩ := store_num kr5 gs As ns cs
      rw [sgn_abs] at hzs
      refine Key7.out _ _ _ _ _ _ _ _ _ _ _ _ _ _ gs As ns cs _ ((k25.far (p := ⟨w.heap.size + 3, 0, none⟩) (by dsimp; omega) (.bool gs)).far (p := ⟨w.heap.size + 3, 1, none⟩) (by dsimp; omega) (.slice As ns cs)) ((kq5.far (p := ⟨w.heap.size + 3, 0, none⟩) (by dsimp; omega) (.bool gs)).far (p := ⟨w.heap.size + 3, 1, none⟩) (by dsimp; omega) (.slice As ns cs)) ((kr5.set_ 0 (.bool gs)).set_ 1 (.slice As ns cs)) (rz5 _ _ (h24.pu hP)) (rz5 _ _ (hq4.pu hP)) (by rw [M2.out]; exact rz5 _ _ hzs) (rp5 _ (hP4.trans hP) (by omega))
  · have fin : ∀ W', W' = ((((W4.setCell ⟨w.heap.size + 2, 0, none⟩ (.bool gq)).setCell ⟨w.heap.size + 2, 1, none⟩ (.slice Aq nq cq)).setCell ⟨w.heap.size + 3, 0, none⟩ (.bool gr)).setCell ⟨w.heap.size + 3, 1, none⟩ (.slice Ar nr cr)).drew → W'.cell? ⟨w.heap.size + 2, 0, none⟩ = some (.bool gq) ∧ W'.cell? ⟨w.heap.size + 2, 1, none⟩ = some (.slice Aq nq cq) ∧ W'.cell? ⟨w.heap.size + 3, 0, none⟩ = some (.bool gr) ∧ W'.cell? ⟨w.heap.size + 3, 1, none⟩ = some (.slice Ar nr cr) ∧ ZR W' (.agg #[.bool gq, .slice Aq nq cq]) (sgn g1 X / sgn g2 Y) ∧ ZR W' (.agg #[.bool gr, .slice Ar nr cr]) (sgn g1 X % sgn g2 Y) ∧ Pu w W' := by
      intro W' hW'
      obtain ⟨t1, t2, t3, t4, tz, tp⟩ := two_store kq4 kr4 (by omega) gq gr Aq Ar nq cq nr cr W' hW'
      have hc : g1 = false ∨ X % Y = 0 := by
        rcases Decidable.em (g1 = true) with e | e
        · refine .inr ?_
          have h0 : nr = 0 := by
            rcases Decidable.em (nr = 0) with h | h
            · exact h
            · exact absurd ⟨e, h⟩ hneg
          have := Hlen.out.1 h0
          simp [sgn] at this
          omega
        · exact .inl (by simpa using e)
      obtain ⟨d1, d2⟩ := div_sgn g1 g2 X Y hY0 hc
      rw [d1, d2]
      exact ⟨t1, t2, t3, t4, tz _ _ hq4, tz _ _ hr4, tp _ hP4 (by omega) (by omega)⟩
    have Fin := Lib.hid fin
    clear fin
    have hg : g1 = false ∨ g1 = true := by cases g1 <;> simp
    rcases hg with rfl | rfl
    · go_wp2_with fail
      go_region
      all_goals
        obtain ⟨t20, t21, t30, t31, tq, tr, tp⟩ := Fin.out _ rfl
        generalize ((((W4.setCell ⟨w.heap.size + 2, 0, none⟩ (.bool gq)).setCell ⟨w.heap.size + 2, 1, none⟩ (.slice Aq nq cq)).setCell ⟨w.heap.size + 3, 0, none⟩ (.bool gr)).setCell ⟨w.heap.size + 3, 1, none⟩ (.slice Ar nr cr)).drew = W5 at t20 t21 t30 t31 tq tr tp ⊢
        go_wp2
        refine bodyPost_ret (v := .tuple #[.agg #[.bool gq, .slice Aq nq cq], .agg #[.bool gr, .slice Ar nr cr], .int .i64 0]) (by simp [results, Tryz.results154, go_sem, t20, t21, t30, t31]) rfl ⟨_, _, rfl, by rw [← HX.out, ← HY.out]; exact tq, by rw [← HX.out, ← HY.out]; exact tr, tp⟩
    · obtain rfl : nr = 0 := by
        rcases Decidable.em (nr = 0) with h | h
        · exact h
        · exact absurd ⟨rfl, h⟩ hneg
      go_wp2_with fail
      go_region
      all_goals
        obtain ⟨t20, t21, t30, t31, tq, tr, tp⟩ := Fin.out _ rfl
        generalize ((((W4.setCell ⟨w.heap.size + 2, 0, none⟩ (.bool gq)).setCell ⟨w.heap.size + 2, 1, none⟩ (.slice Aq nq cq)).setCell ⟨w.heap.size + 3, 0, none⟩ (.bool gr)).setCell ⟨w.heap.size + 3, 1, none⟩ (.slice Ar 0 cr)).drew = W5 at t20 t21 t30 t31 tq tr tp ⊢
        go_wp2
        refine bodyPost_ret (v := .tuple #[.agg #[.bool gq, .slice Aq nq cq], .agg #[.bool gr, .slice Ar 0 cr], .int .i64 0]) (by simp [results, Tryz.results154, go_sem, t20, t21, t30, t31]) rfl ⟨_, _, rfl, by rw [← HX.out, ← HY.out]; exact tq, by rw [← HX.out, ← HY.out]; exact tr, tp⟩
/- zed: DivMod by nought. -/
set_option maxHeartbeats 1000000 in
set_option maxRecDepth 100000 in
theorem divmod_zero (v1 v2 : Value) (z1 : Int) (w : World) (h1 : ZR w v1 z1) (h2 : ZR w v2 0) :
    Calls Tryz.prog 154 #[v1, v2] w fun e w' => ∃ v3 v4, e = .returned (.tuple #[v3, v4, .int .i64 13]) ∧ ZR w' v3 0 ∧ ZR w' v4 0 ∧ Pu w w' := by
  obtain ⟨g1, A1, n1, c1, l1, rfl, -⟩ := h1
  obtain ⟨g2, A2, n2, c2, rfl⟩ : ∃ g A n c, v2 = .agg #[.bool g, .slice A n c] := by
    obtain ⟨g, A, n, c, l, rfl, -⟩ := h2
    exact ⟨g, A, n, c, rfl⟩
  obtain rfl : n2 = 0 := h2.len.2 rfl
  have PW : Pu w ((((w.alloc (.cells #[.bool g1, .slice A1 n1 c1] 30)).alloc (.cells #[.bool g2, .slice A2 0 c2] 30)).alloc (.cells #[.bool false, .slice none 0 0] 30)).alloc (.cells #[.bool false, .slice none 0 0] 30)) := ((((Pu.refl w).alloc _).alloc _).alloc _).alloc _
  have k3 : Blk ((((w.alloc (.cells #[.bool g1, .slice A1 n1 c1] 30)).alloc (.cells #[.bool g2, .slice A2 0 c2] 30)).alloc (.cells #[.bool false, .slice none 0 0] 30)).alloc (.cells #[.bool false, .slice none 0 0] 30)) (w.heap.size + 2) 30 #[.bool false, .slice none 0 0] := (Blk.at_new _ _ _ (by simp)).alloc _
  have k4 : Blk ((((w.alloc (.cells #[.bool g1, .slice A1 n1 c1] 30)).alloc (.cells #[.bool g2, .slice A2 0 c2] 30)).alloc (.cells #[.bool false, .slice none 0 0] 30)).alloc (.cells #[.bool false, .slice none 0 0] 30)) (w.heap.size + 3) 30 #[.bool false, .slice none 0 0] := Blk.at_new _ _ _ (by simp)
  have r0 := k3.cell 0
  have r1 := k3.cell 1
  have r2 := k4.cell 0
  have r3 := k4.cell 1
  have nought : ∀ W, ZR W (.agg #[.bool false, .slice none 0 0]) 0 := fun W => ⟨false, none, 0, 0, [], rfl, Sl.nil _ _ _ _, Below_.nil _, tidy_nil, (fun e => by cases e), ⟨by simp [maxLen], W32.none _ _⟩, rfl⟩
  have HN := Lib.hid nought
  clear nought h2
  go_enter Tryz.func154, Tryz.ntmps154
  go_wp2
  exact bodyPost_ret (v := .tuple #[.agg #[.bool false, .slice none 0 0], .agg #[.bool false, .slice none 0 0], .int .i64 13]) (by simp [results, Tryz.results154, go_sem, r0, r1, r2, r3]) rfl ⟨_, _, rfl, HN.out _, HN.out _, PW⟩
end
end Go.Proofs.YtckfnbckoclhpaaGreatDoor
