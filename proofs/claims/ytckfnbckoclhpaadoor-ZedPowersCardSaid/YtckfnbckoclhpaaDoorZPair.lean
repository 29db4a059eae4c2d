/- The laws' pair of numbers. -/
import Derived.Test.YtckfnbckoclhpaaDoorZParses
import Derived.Deep.RegionHeld3
import Derived.BigRegion
set_option linter.unusedVariables false
namespace Go.Proofs.YtckfnbckoclhpaaDoor
open Go.RowKit

def good2 (a b : List UInt8) : Bool := pcode a == 0 && pcode b == 0

set_option maxHeartbeats 1000000 in
theorem pair_store {W : World} {a : Nat} {y0 y1 : Bool} {y2 y3 : Int} {m0 m1 m2 m3 : Option Addr} {i0 i1 i2 i3 j0 j1 j2 j3 : Nat}
    (k0 : Blk W a 25 #[.bool y0, .slice m0 i0 j0]) (k1 : Blk W (a + 1) 25 #[.bool y1, .slice m1 i1 j1]) (k2 : Blk W (a + 2) 39 #[.int .i64 y2, .slice m2 i2 j2]) (k3 : Blk W (a + 3) 39 #[.int .i64 y3, .slice m3 i3 j3])
    (g1 g2 : Bool) (s3 s4 : Int) (A1 A2 A3 A4 : Option Addr) (n1 c1 n2 c2 n3 c3 n4 c4 : Nat) (W' : World)
    (hW' : W' = ((((((((W.setCell ⟨a, 0, none⟩ (.bool g1)).setCell ⟨a, 1, none⟩ (.slice A1 n1 c1)).setCell ⟨a + 1, 0, none⟩ (.bool g2)).setCell ⟨a + 1, 1, none⟩ (.slice A2 n2 c2)).setCell ⟨a + 2, 0, none⟩ (.int .i64 s3)).setCell ⟨a + 2, 1, none⟩ (.slice A3 n3 c3)).setCell ⟨a + 3, 0, none⟩ (.int .i64 s4)).setCell ⟨a + 3, 1, none⟩ (.slice A4 n4 c4))) :
    Blk W' a 25 #[.bool g1, .slice A1 n1 c1] ∧ Blk W' (a + 1) 25 #[.bool g2, .slice A2 n2 c2] ∧ Blk W' (a + 2) 39 #[.int .i64 s3, .slice A3 n3 c3] ∧ Blk W' (a + 3) 39 #[.int .i64 s4, .slice A4 n4 c4] ∧ (∀ v z, ZR W v z → ZR W' v z) ∧ (∀ v z, RZ W v z → RZ W' v z) ∧ (∀ w0, Pu w0 W → w0.heap.size ≤ a → Pu w0 W') := by
  subst hW'
  have f0 := (Fr.one W a 0 (.bool g1)).trans (Fr.one _ a 1 (.slice A1 n1 c1))
  have a0 : Blk _ a 25 #[.bool g1, .slice A1 n1 c1] := (k0.set_ 0 (.bool g1)).set_ 1 (.slice A1 n1 c1)
  have a1 := k1.fr f0 (by omega)
  have a2 := k2.fr f0 (by omega)
  have a3 := k3.fr f0 (by omega)
  generalize hW1 : (W.setCell ⟨a, 0, none⟩ (.bool g1)).setCell ⟨a, 1, none⟩ (.slice A1 n1 c1) = W1 at *
  have f1 := (Fr.one W1 (a + 1) 0 (.bool g2)).trans (Fr.one _ (a + 1) 1 (.slice A2 n2 c2))
  have b1 : Blk _ (a + 1) 25 #[.bool g2, .slice A2 n2 c2] := (a1.set_ 0 (.bool g2)).set_ 1 (.slice A2 n2 c2)
  have b0 := a0.fr f1 (by omega)
  have b2 := a2.fr f1 (by omega)
  have b3 := a3.fr f1 (by omega)
  generalize hW2 : (W1.setCell ⟨a + 1, 0, none⟩ (.bool g2)).setCell ⟨a + 1, 1, none⟩ (.slice A2 n2 c2) = W2 at *
  have f2 := (Fr.one W2 (a + 2) 0 (.int .i64 s3)).trans (Fr.one _ (a + 2) 1 (.slice A3 n3 c3))
  have c2' : Blk _ (a + 2) 39 #[.int .i64 s3, .slice A3 n3 c3] := (b2.set_ 0 (.int .i64 s3)).set_ 1 (.slice A3 n3 c3)
  have c0 := b0.fr f2 (by omega)
  have c1' := b1.fr f2 (by omega)
  have c3' := b3.fr f2 (by omega)
  generalize hW3 : (W2.setCell ⟨a + 2, 0, none⟩ (.int .i64 s3)).setCell ⟨a + 2, 1, none⟩ (.slice A3 n3 c3) = W3 at *
  have f3 := (Fr.one W3 (a + 3) 0 (.int .i64 s4)).trans (Fr.one _ (a + 3) 1 (.slice A4 n4 c4))
  have d3 : Blk _ (a + 3) 39 #[.int .i64 s4, .slice A4 n4 c4] := (c3'.set_ 0 (.int .i64 s4)).set_ 1 (.slice A4 n4 c4)
  have d0 := c0.fr f3 (by omega)
  have d1 := c1'.fr f3 (by omega)
  have d2 := c2'.fr f3 (by omega)
  generalize hW4 : (W3.setCell ⟨a + 3, 0, none⟩ (.int .i64 s4)).setCell ⟨a + 3, 1, none⟩ (.slice A4 n4 c4) = W4 at *
  refine ⟨d0, d1, d2, d3, fun v z h => ?_, fun v z h => ?_, fun w0 h h0 => ?_⟩
  · exact (((h.frBlk k0 (by simp) f0).frBlk a1 (by simp) f1).frBlk b2 (by simp) f2).frBlk c3' (by simp) f3
  · exact (((h.fr k0 (by decide) f0).fr a1 (by decide) f1).fr b2 (by decide) f2).fr c3' (by decide) f3
  · exact (((h.step f0 (fun k e => by omega)).step f1 (fun k e => by omega)).step f2 (fun k e => by omega)).step f3 (fun k e => by omega)

set_option maxHeartbeats 1500000 in
set_option maxRecDepth 100000 in
theorem pair_any (a b : List UInt8) (w : World) (ha : a.length ≤ 9223372036854775807) (hb : b.length ≤ 9223372036854775807) :
    Calls Tryd.prog 20 #[.string ⟨a.toArray⟩, .string ⟨b.toArray⟩] w fun e w' => ∃ x y u v, e = .returned (.tuple #[x, y, u, v, .bool (good2 a b)]) ∧ ZR w' x (pres a) ∧ ZR w' y (pres b) ∧ RZ w' u (pres a) ∧ RZ w' v (pres b) ∧ Pu w w' := by
  have Ha := Lib.hid ha
  have Hb := Lib.hid hb
  clear ha hb
  go_enter Tryd.func20, Tryd.ntmps20
  go_wp2_with fail
  refine (parse_any a _).mono ?_
  rintro e w1 ⟨x, rfl, hx, p1⟩
  have hx' := hx
  obtain ⟨g1, A1, n1, c1, l1, rfl, -⟩ := hx'
  go_wp2_with fail
  refine (parse_any b _).mono ?_
  rintro e w2 ⟨y, rfl, hy, p2⟩
  have hy' := hy
  obtain ⟨g2, A2, n2, c2, l2, rfl, -⟩ := hy'
  go_wp2_with fail
  refine (rparse_any a _ Ha.out).mono ?_
  rintro e w3 ⟨u, rfl, hu, p3⟩
  have hu' := hu
  obtain ⟨A3, n3, c3, l3, rfl, -⟩ := hu'
  go_wp2_with fail
  refine (rparse_any b _ Hb.out).mono ?_
  rintro e w4 ⟨v, rfl, hv, p4⟩
  have hv' := hv
  obtain ⟨A4, n4, c4, l4, rfl, -⟩ := hv'
  go_wp2_with fail
  obtain ⟨W0, hW0⟩ : ∃ W0, W0 = (((w.alloc (.cells #[.bool false, .slice none 0 0] 25)).alloc (.cells #[.bool false, .slice none 0 0] 25)).alloc (.cells #[.int .i64 0, .slice none 0 0] 39)).alloc (.cells #[.int .i64 0, .slice none 0 0] 39) := ⟨_, rfl⟩
  have z0 : Pu w W0 := by rw [hW0]; exact ((((Pu.refl w).alloc _).alloc _).alloc _).alloc _
  have zs : W0.heap.size = w.heap.size + 4 := by rw [hW0]; simp
  have k0 : Blk W0 w.heap.size 25 #[.bool false, .slice none 0 0] := by rw [hW0]; exact (((Blk.new w _ _).alloc _).alloc _).alloc _
  have k1 : Blk W0 (w.heap.size + 1) 25 #[.bool false, .slice none 0 0] := by rw [hW0]; exact ((Blk.at_new _ _ _ (by simp)).alloc _).alloc _
  have k2 : Blk W0 (w.heap.size + 2) 39 #[.int .i64 0, .slice none 0 0] := by rw [hW0]; exact (Blk.at_new _ _ _ (by simp)).alloc _
  have k3 : Blk W0 (w.heap.size + 3) 39 #[.int .i64 0, .slice none 0 0] := by rw [hW0]; exact Blk.at_new _ _ _ (by simp)
  rw [← hW0] at p1
  obtain ⟨W4, hW4⟩ : ∃ W4, W4 = w4.alloc (.cells #[.int .i64 (pres b).sign, .slice A4 n4 c4] 39) := ⟨_, rfl⟩
  have q4 : Pu w4 W4 := by rw [hW4]; exact (Pu.refl _).alloc _
  have m4 : Blk W4 w4.heap.size 39 #[.int .i64 (pres b).sign, .slice A4 n4 c4] := by rw [hW4]; exact Blk.new _ _ _
  have q3 : Pu (w3.alloc (.cells #[.int .i64 (pres a).sign, .slice A3 n3 c3] 39)) W4 := p4.trans q4
  have m3 : Blk W4 w3.heap.size 39 #[.int .i64 (pres a).sign, .slice A3 n3 c3] := (Blk.new _ _ _).pu q3
  have r3 : Pu w3 W4 := ((Pu.refl _).alloc _).trans q3
  have q2 : Pu (w2.alloc (.cells #[.bool g2, .slice A2 n2 c2] 25)) W4 := p3.trans r3
  have m2 : Blk W4 w2.heap.size 25 #[.bool g2, .slice A2 n2 c2] := (Blk.new _ _ _).pu q2
  have r2 : Pu w2 W4 := ((Pu.refl _).alloc _).trans q2
  have q1 : Pu (w1.alloc (.cells #[.bool g1, .slice A1 n1 c1] 25)) W4 := p2.trans r2
  have m1 : Blk W4 w1.heap.size 25 #[.bool g1, .slice A1 n1 c1] := (Blk.new _ _ _).pu q1
  have r1 : Pu w1 W4 := ((Pu.refl _).alloc _).trans q1
  have r0 : Pu W0 W4 := p1.trans r1
  have PW := z0.trans r0
  replace k0 := k0.pu r0
  replace k1 := k1.pu r0
  replace k2 := k2.pu r0
  replace k3 := k3.pu r0
  replace hx := hx.pu r1
  replace hy := hy.pu r2
  replace hu := hu.pu r3
  replace hv := hv.pu q4
  have n1' : w.heap.size + 4 ≤ w1.heap.size := by have := p1.size; omega
  have n2' : w1.heap.size < w2.heap.size := by have := p2.size; simp at this; omega
  have n3' : w2.heap.size < w3.heap.size := by have := p3.size; simp at this; omega
  have n4' : w3.heap.size < w4.heap.size := by have := p4.size; simp at this; omega
  rw [← hW4]
  obtain ⟨s3, hs3⟩ : ∃ s3, s3 = (pres a).sign := ⟨_, rfl⟩
  obtain ⟨s4, hs4⟩ : ∃ s4, s4 = (pres b).sign := ⟨_, rfl⟩
  obtain ⟨za, hza⟩ : ∃ za, za = pres a := ⟨_, rfl⟩
  obtain ⟨zb, hzb⟩ : ∃ zb, zb = pres b := ⟨_, rfl⟩
  rw [← hs3] at hu m3 ⊢
  rw [← hs4] at hv m4 ⊢
  rw [← hza] at hx hu
  rw [← hzb] at hy hv
  have HZ := Lib.hid (And.intro hza hzb)
  have a10 : W4.cell? ⟨w1.heap.size, 0, none⟩ = some (.bool g1) := m1.cell 0
  have a11 : W4.cell? ⟨w1.heap.size, 1, none⟩ = some (.slice A1 n1 c1) := m1.cell 1
  have a20 : W4.cell? ⟨w2.heap.size, 0, none⟩ = some (.bool g2) := m2.cell 0
  have a21 : W4.cell? ⟨w2.heap.size, 1, none⟩ = some (.slice A2 n2 c2) := m2.cell 1
  have a30 : W4.cell? ⟨w3.heap.size, 0, none⟩ = some (.int .i64 s3) := m3.cell 0
  have a31 : W4.cell? ⟨w3.heap.size, 1, none⟩ = some (.slice A3 n3 c3) := m3.cell 1
  have a40 : W4.cell? ⟨w4.heap.size, 0, none⟩ = some (.int .i64 s4) := m4.cell 0
  have a41 : W4.cell? ⟨w4.heap.size, 1, none⟩ = some (.slice A4 n4 c4) := m4.cell 1
  have t00 : W4.cell? ⟨w.heap.size, 0, none⟩ = some (.bool false) := k0.cell 0
  have t01 : W4.cell? ⟨w.heap.size, 1, none⟩ = some (.slice none 0 0) := k0.cell 1
  have t10 : W4.cell? ⟨w.heap.size + 1, 0, none⟩ = some (.bool false) := k1.cell 0
  have t11 : W4.cell? ⟨w.heap.size + 1, 1, none⟩ = some (.slice none 0 0) := k1.cell 1
  have t20 : W4.cell? ⟨w.heap.size + 2, 0, none⟩ = some (.int .i64 0) := k2.cell 0
  have t21 : W4.cell? ⟨w.heap.size + 2, 1, none⟩ = some (.slice none 0 0) := k2.cell 1
  have t30 : W4.cell? ⟨w.heap.size + 3, 0, none⟩ = some (.int .i64 0) := k3.cell 0
  have t31 : W4.cell? ⟨w.heap.size + 3, 1, none⟩ = some (.slice none 0 0) := k3.cell 1
  have f00 := k0.frozen 0
  have f01 := k0.frozen 1
  have f10 := k1.frozen 0
  have f11 := k1.frozen 1
  have f20 := k2.frozen 0
  have f21 := k2.frozen 1
  have f30 := k3.frozen 0
  have f31 := k3.frozen 1
  clear hs3 hs4 hza hzb m1 m2 m3 m4 p1 p2 p3 p4 q1 q2 q3 q4 r0 r1 r2 r3 z0 zs hW0 hW4
  have hcase : good2 a b = true ∧ ((((pcode a : Nat) : Int) == 0) = true) ∧ ((((pcode b : Nat) : Int) == 0) = true) ∨ (good2 a b = false ∧ (((((pcode a : Nat) : Int) == 0) = false) ∨ (((((pcode a : Nat) : Int) == 0) = true) ∧ ((((pcode b : Nat) : Int) == 0) = false)))) := by
    unfold good2
    by_cases h1 : pcode a = 0 <;> by_cases h2 : pcode b = 0 <;> simp [h1, h2] <;> omega
  generalize pcode a = ca at *
  generalize pcode b = cb at *
  have fin : ∀ W' : World, W' = ((((((((W4.drew.setCell ⟨w.heap.size, 0, none⟩ (.bool g1)).setCell ⟨w.heap.size, 1, none⟩ (.slice A1 n1 c1)).setCell ⟨w.heap.size + 1, 0, none⟩ (.bool g2)).setCell ⟨w.heap.size + 1, 1, none⟩ (.slice A2 n2 c2)).setCell ⟨w.heap.size + 2, 0, none⟩ (.int .i64 s3)).setCell ⟨w.heap.size + 2, 1, none⟩ (.slice A3 n3 c3)).setCell ⟨w.heap.size + 3, 0, none⟩ (.int .i64 s4)).setCell ⟨w.heap.size + 3, 1, none⟩ (.slice A4 n4 c4)) → True := fun _ _ => trivial
  clear fin
  have hps := pair_store k0 k1 k2 k3 g1 g2 s3 s4 A1 A2 A3 A4 n1 c1 n2 c2 n3 c3 n4 c4 _ rfl
  have Hps := Lib.hid hps
  have HX := Lib.hid (And.intro hx (And.intro hy (And.intro hu (And.intro hv PW))))
  clear hps k0 k1 k2 k3 hx hy hu hv PW
  rcases hcase with ⟨e0, d1, d2⟩ | ⟨e0, d1 | ⟨d1, d2⟩⟩
  all_goals
    go_region
    all_goals
      have hps := Hps.out
      have hX := HX.out
      obtain ⟨x0, x1, x2, x3, xz, xr, xp⟩ := hps
      obtain ⟨hx, hy, hu, hv, PW⟩ := hX
      have Hf := Lib.hid (And.intro ((xz _ _ hx).pu (Pu.refl _).drew) (And.intro ((xz _ _ hy).pu (Pu.refl _).drew) (And.intro ((xr _ _ hu).pu (Pu.refl _).drew) (And.intro ((xr _ _ hv).pu (Pu.refl _).drew) (xp _ PW (Nat.le_refl _)).drew))))
      have r0 := x0.drew.cell 0
      have r1 := x0.drew.cell 1
      have r2 := x1.drew.cell 0
      have r3 := x1.drew.cell 1
      have r4 := x2.drew.cell 0
      have r5 := x2.drew.cell 1
      have r6 := x3.drew.cell 0
      have r7 := x3.drew.cell 1
      clear Hps HX x0 x1 x2 x3 xz xr xp hx hy hu hv PW
      clear a10 a11 a20 a21 a30 a31 a40 a41 t00 t01 t10 t11 t20 t21 t30 t31 f00 f01 f10 f11 f20 f21 f30 f31
      show Exit.then _ _ Exit.normal _ (((((((((W4.setCell ⟨w.heap.size, 0, none⟩ (.bool g1)).setCell ⟨w.heap.size, 1, none⟩ (.slice A1 n1 c1)).setCell ⟨w.heap.size + 1, 0, none⟩ (.bool g2)).setCell ⟨w.heap.size + 1, 1, none⟩ (.slice A2 n2 c2)).setCell ⟨w.heap.size + 2, 0, none⟩ (.int .i64 s3)).setCell ⟨w.heap.size + 2, 1, none⟩ (.slice A3 n3 c3)).setCell ⟨w.heap.size + 3, 0, none⟩ (.int .i64 s4)).setCell ⟨w.heap.size + 3, 1, none⟩ (.slice A4 n4 c4)).drew)
      generalize ((((((((W4.setCell ⟨w.heap.size, 0, none⟩ (.bool g1)).setCell ⟨w.heap.size, 1, none⟩ (.slice A1 n1 c1)).setCell ⟨w.heap.size + 1, 0, none⟩ (.bool g2)).setCell ⟨w.heap.size + 1, 1, none⟩ (.slice A2 n2 c2)).setCell ⟨w.heap.size + 2, 0, none⟩ (.int .i64 s3)).setCell ⟨w.heap.size + 2, 1, none⟩ (.slice A3 n3 c3)).setCell ⟨w.heap.size + 3, 0, none⟩ (.int .i64 s4)).setCell ⟨w.heap.size + 3, 1, none⟩ (.slice A4 n4 c4)).drew = W5 at *
      go_wp2
      refine bodyPost_ret (v := .tuple #[.agg #[.bool g1, .slice A1 n1 c1], .agg #[.bool g2, .slice A2 n2 c2], .agg #[.int .i64 s3, .slice A3 n3 c3], .agg #[.int .i64 s4, .slice A4 n4 c4], .bool (good2 a b)]) (by rw [e0]; simp [results, Tryd.results20, go_sem, r0, r1, r2, r3, r4, r5, r6, r7]) rfl ⟨_, _, _, _, rfl, ?_, ?_, ?_, ?_, Hf.out.2.2.2.2⟩
      · rw [← HZ.out.1]; exact Hf.out.1
      · rw [← HZ.out.2]; exact Hf.out.2.1
      · rw [← HZ.out.1]; exact Hf.out.2.2.1
      · rw [← HZ.out.2]; exact Hf.out.2.2.2.1
end Go.Proofs.YtckfnbckoclhpaaDoor
