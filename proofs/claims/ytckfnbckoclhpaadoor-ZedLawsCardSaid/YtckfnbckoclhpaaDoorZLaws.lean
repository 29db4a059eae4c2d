/- ZedLaws, the walk. -/
import Derived.Test.YtckfnbckoclhpaaDoorZProd
import Derived.Test.YtckfnbckoclhpaaDoorZDivL
set_option linter.unusedVariables false
namespace Go.Proofs.YtckfnbckoclhpaaDoor
open Go.RowKit

theorem two00_up {n : Nat} (h : n < 10 ^ 200) (k : Nat) (hk : 21 ≤ k) : n < 4294967296 ^ k :=
  Nat.lt_of_lt_of_le (Nat.lt_of_lt_of_le h (show 10 ^ 200 ≤ 4294967296 ^ 21 by decide)) (Nat.pow_le_pow_right (by decide) hk)
theorem cmp_same (v1 v2 : Value) (z1 z2 : Int) (w : World) (h1 : ZR w v1 z1) (h2 : ZR w v2 z2) (b1 : z1.natAbs < 10 ^ 200) (e : z1 = z2) :
    Calls Tryd.prog 14 #[v1, v2] w fun e w' => e = .returned (.int .i64 0) ∧ Pu w w' := by
  subst e
  have hb := two00_up b1 1000 (by decide)
  have := cmp_any v1 v2 z1 z1 w h1 h2 hb hb
  have e0 : cmpZ z1 z1 = 0 := by
    unfold cmpZ
    rw [if_neg (by omega), if_neg (by omega)]
  rwa [e0] at this
/-- Mul, Add, Sub of numbers below 10^200 -/
theorem mul_b (v1 v2 : Value) (z1 z2 : Int) (w : World) (h1 : ZR w v1 z1) (h2 : ZR w v2 z2) (b1 : z1.natAbs < 10 ^ 200) (b2 : z2.natAbs < 10 ^ 200) :
    Calls Tryd.prog 30 #[v1, v2] w fun e w' => ∃ v', e = .returned v' ∧ ZR w' v' (z1 * z2) ∧ Pu w w' := mul_any v1 v2 z1 z2 w h1 h2 (two00_up b1 20000 (by decide)) (two00_up b2 20000 (by decide))
theorem sub_b (v1 v2 : Value) (z1 z2 : Int) (w : World) (h1 : ZR w v1 z1) (h2 : ZR w v2 z2) (b1 : z1.natAbs < 10 ^ 200) (b2 : z2.natAbs < 10 ^ 200) :
    Calls Tryd.prog 26 #[v1, v2] w fun e w' => ∃ v', e = .returned v' ∧ ZR w' v' (z1 - z2) ∧ Pu w w' := sub_any v1 v2 z1 z2 w h1 h2 (two00_up b1 1000 (by decide)) (two00_up b2 1000 (by decide))
theorem add_b (v1 v2 : Value) (z1 z2 : Int) (w : World) (t : TypeId) (cs : Array Value) (ht : t = 25) (hcs : cs = v2.cells) (h1 : ZR w v1 z1) (h2 : ZR w v2 z2) (b1 : z1.natAbs < 10 ^ 200) (b2 : z2.natAbs < 10 ^ 200) :
    Calls Tryd.prog 24 #[v1, .slice (some ⟨w.heap.size, 0, none⟩) 1 1] (w.alloc (.cells cs t)) fun e w' => ∃ v', e = .returned v' ∧ ZR w' v' (z1 + z2) ∧ Pu w w' := by
  subst ht hcs
  refine (addv_any v1 v2 z1 z2 w.heap.size _ (h1.pu ((Pu.refl w).alloc _)) (h2.pu ((Pu.refl w).alloc _)) (two00_up b1 20000 (by decide)) (two00_up b2 20000 (by decide)) (Blk.new _ _ _)).mono ?_
  rintro e w' ⟨v', h, hz, p⟩
  exact ⟨v', h, hz, ((Pu.refl w).alloc _).trans p⟩

theorem addq_b (v1 v2 : Value) (z1 z2 : Int) (q : Nat) (w : World) (h1 : ZR w v1 z1) (h2 : ZR w v2 z2) (b1 : z1.natAbs < 10 ^ 200) (b2 : z2.natAbs < 10 ^ 200) (hq : Blk w q 25 v2.cells) :
    Calls Tryd.prog 24 #[v1, .slice (some ⟨q, 0, none⟩) 1 1] w fun e w' => ∃ v', e = .returned v' ∧ ZR w' v' (z1 + z2) ∧ Pu w w' :=
  addv_any v1 v2 z1 z2 q w h1 h2 (two00_up b1 20000 (by decide)) (two00_up b2 20000 (by decide)) hq
theorem laws_bounds {x y z : Int} (hx : x.natAbs < 10 ^ 60) (hy : y.natAbs < 10 ^ 60) (hz : z.natAbs < 10 ^ 60) :
    x.natAbs < 10 ^ 200 ∧ y.natAbs < 10 ^ 200 ∧ z.natAbs < 10 ^ 200 ∧ (x + y).natAbs < 10 ^ 200 ∧ ((x + y) * z).natAbs < 10 ^ 200 ∧ (x * z).natAbs < 10 ^ 200 ∧ (y * z).natAbs < 10 ^ 200 ∧ (x - y).natAbs < 10 ^ 200 ∧ (x * y).natAbs < 10 ^ 200 ∧ (x * y + z).natAbs < 10 ^ 200 ∧ (x - y + y).natAbs < 10 ^ 200 := by
  have h1 := prod_small hx hz
  have h2 := prod_small hy hz
  have h3 := prod_small hx hy
  have h4 : ((x + y) * z).natAbs < 10 ^ 122 := by
    rw [Int.add_mul]
    omega
  refine ⟨by omega, by omega, by omega, by omega, by omega, by omega, by omega, by omega, by omega, by omega, by omega⟩

theorem size_alloc (w : World) (o : Obj) : w.heap.size + 1 = (w.alloc o).heap.size := by simp
theorem laws_bound2 {x y z : Int} (hx : x.natAbs < 10 ^ 60) (hy : y.natAbs < 10 ^ 60) (hz : z.natAbs < 10 ^ 60) : (x * y + z).natAbs < 10 ^ 121 ∧ y.natAbs < 10 ^ 121 := by
  have h3 := prod_small hx hy
  exact ⟨by omega, by omega⟩

set_option maxHeartbeats 40000000 in
set_option maxRecDepth 100000 in
theorem laws_walk (w : World) (a b c : List UInt8) (ha : a.length ≤ 9223372036854775807) (hb : b.length ≤ 9223372036854775807) :
    Calls Tryd.prog 8 #[.string ⟨a.toArray⟩, .string ⟨b.toArray⟩, .string ⟨c.toArray⟩] w fun e w' => e = .returned (.bool true) ∧ Pu w w' := by
  have hanc := anchor_any w
  have hpair := fun W => pair_any a b W ha hb
  have Hpair := Lib.hid hpair
  clear hpair
  go_enter Tryd.func8, Tryd.ntmps8
  go_wp2_with fail
  refine hanc.mono ?_
  rintro e w1 ⟨rfl, p1⟩
  go_wp2_with fail
  refine (Hpair.out _).mono ?_
  rintro e w2 ⟨x, y, u, v, rfl, hx, hy, hu, hv, p2⟩
  have P2 := p1.trans p2
  clear p1 p2 hanc Hpair
  have sa := pres_small a
  have sb := pres_small b
  have sc := pres_small c
  obtain ⟨g1, A1, n1, c1, rfl⟩ := hx.form
  obtain ⟨g2, A2, n2, c2, rfl⟩ := hy.form
  obtain ⟨s3, A3, n3, c3, rfl⟩ := hu.form
  obtain ⟨s4, A4, n4, c4, rfl⟩ := hv.form
  generalize pres a = za at *
  generalize pres b = zb at *
  obtain ⟨W, hWe⟩ : ∃ W, W = (((w2.alloc (.cells #[.bool g1, .slice A1 n1 c1] 25)).alloc (.cells #[.bool g2, .slice A2 n2 c2] 25)).alloc (.cells #[.int .i64 s3, .slice A3 n3 c3] 39)).alloc (.cells #[.int .i64 s4, .slice A4 n4 c4] 39) := ⟨_, rfl⟩
  have q2 : Pu w2 W := by rw [hWe]; exact ((((Pu.refl w2).alloc _).alloc _).alloc _).alloc _
  have k0 : Blk W w2.heap.size 25 #[.bool g1, .slice A1 n1 c1] := by rw [hWe]; exact (((Blk.new w2 _ _).alloc _).alloc _).alloc _
  have k1 : Blk W (w2.heap.size + 1) 25 #[.bool g2, .slice A2 n2 c2] := by rw [hWe]; exact ((Blk.at_new _ _ _ (by simp)).alloc _).alloc _
  replace hx := hx.pu q2
  replace hy := hy.pu q2
  have PW := P2.trans q2
  have hpc := parse_any c W
  rw [hWe] at hpc
  have HWe := Lib.hid hWe
  clear hWe q2 P2 hu hv
  go_wp2_with fail
  refine hpc.mono ?_
  rintro e w3 ⟨z, rfl, hz, p3⟩
  rw [← HWe.out] at p3
  obtain ⟨g5, A5, n5, c5, rfl⟩ := hz.form
  generalize pres c = zc at *
  obtain ⟨W3, hW3⟩ : ∃ W3, W3 = w3.alloc (.cells #[.bool g5, .slice A5 n5 c5] 25) := ⟨_, rfl⟩
  have q3 : Pu w3 W3 := by rw [hW3]; exact (Pu.refl _).alloc _
  have k2 : Blk W3 w3.heap.size 25 #[.bool g5, .slice A5 n5 c5] := by rw [hW3]; exact Blk.new _ _ _
  have pp := p3.trans q3
  replace k0 := k0.pu pp
  replace k1 := k1.pu pp
  replace hx := hx.pu pp
  replace hy := hy.pu pp
  replace hz := hz.pu q3
  replace PW := PW.trans pp
  have HB := Lib.hid (laws_bounds sa sb sc)
  have Lb := Lib.hid (laws_bound2 sa sb sc)
  have HW3 := Lib.hid hW3
  have hcase : (good2 a b = false ∨ good2 a b = true ∧ ((pcode c : Nat) : Int) ≠ 0) ∨ (good2 a b = true ∧ pcode c = 0) := by
    cases good2 a b
    · exact .inl (.inl rfl)
    · by_cases h : pcode c = 0
      · exact .inr ⟨rfl, h⟩
      · exact .inl (.inr ⟨rfl, by omega⟩)
  clear hW3 pp p3 q3 hpc sa sb sc HWe
  rcases hcase with (hg | ⟨hg, hc⟩) | ⟨hg, hc⟩
  · rw [hg]
    rw [HW3.out] at PW
    clear hx hy hz k0 k1 k2
    go_wp2
    go_ret
    exact ⟨rfl, PW⟩
  · rw [hg]
    have hc2 : (((pcode c : Nat) : Int) == 0) = false := by simp; omega
    rw [HW3.out] at PW
    clear hx hy hz k0 k1 k2
    go_wp2
    go_ret
    exact ⟨rfl, PW⟩
  · rw [hg, hc]
    go_wp2_with fail
    rw [← HW3.out]
    have hP : Pu W3 W3.drew := (Pu.refl W3).drew
    clear HW3 hg hc
    go_region_held3 (fun t => t.cell? ⟨w2.heap.size, 0, none⟩ = some (.bool g1) ∧ t.cell? ⟨w2.heap.size, 1, none⟩ = some (.slice A1 n1 c1) ∧ t.cell? ⟨w2.heap.size + 1, 0, none⟩ = some (.bool g2) ∧ t.cell? ⟨w2.heap.size + 1, 1, none⟩ = some (.slice A2 n2 c2) ∧ t.cell? ⟨w3.heap.size, 0, none⟩ = some (.bool g5) ∧ t.cell? ⟨w3.heap.size, 1, none⟩ = some (.slice A5 n5 c5))
      (first | exact ⟨(k0.pu hP).cell 0, (k0.pu hP).cell 1, (k1.pu hP).cell 0, (k1.pu hP).cell 1, (k2.pu hP).cell 0, (k2.pu hP).cell 1⟩ | exact ⟨(k0.pu (hP.alloc _)).cell 0, (k0.pu (hP.alloc _)).cell 1, (k1.pu (hP.alloc _)).cell 0, (k1.pu (hP.alloc _)).cell 1, (k2.pu (hP.alloc _)).cell 0, (k2.pu (hP.alloc _)).cell 1⟩ | go_keep)
      (first
        | (go_at_call_of 24 A1; refine (add_b _ (.agg #[.bool g2, .slice A2 n2 c2]) za zb _ _ _ rfl rfl (hx.pu hP) (hy.pu hP) HB.out.1 HB.out.2.1).mono ?_; rintro e u1 ⟨v6, rfl, h6, p6⟩; replace hP := hP.trans p6; obtain ⟨g6, A6, n6, c6, rfl⟩ := h6.form)
        | (go_at_call_of 30 A6; refine (mul_b _ _ (za + zb) zc _ h6 (hz.pu hP) HB.out.2.2.2.1 HB.out.2.2.1).mono ?_; rintro e u2 ⟨v7, rfl, h7, p7⟩; replace hP := hP.trans p7; obtain ⟨g7, A7, n7, c7, rfl⟩ := h7.form)
        | (go_at_call_of 30 A1; go_at_call_of 30 A5; refine (mul_b _ _ za zc _ (hx.pu hP) (hz.pu hP) HB.out.1 HB.out.2.2.1).mono ?_; rintro e u3 ⟨v8, rfl, h8, p8⟩; replace hP := hP.trans p8; replace h7 := h7.pu p8; obtain ⟨g8, A8, n8, c8, rfl⟩ := h8.form)
        | (go_at_call_of 30 A2; go_at_call_of 30 A5; refine (mul_b _ _ zb zc _ (hy.pu hP) (hz.pu hP) HB.out.2.1 HB.out.2.2.1).mono ?_; rintro e u4 ⟨v9, rfl, h9, p9⟩; replace hP := hP.trans p9; replace h7 := h7.pu p9; replace h8 := h8.pu p9; obtain ⟨g9, A9, n9, c9, rfl⟩ := h9.form)
        | (go_at_call_of 24 A8; refine (add_b _ (.agg #[.bool g9, .slice A9 n9 c9]) (za * zc) (zb * zc) _ _ _ rfl rfl h8 h9 HB.out.2.2.2.2.2.1 HB.out.2.2.2.2.2.2.1).mono ?_; rintro e u5 ⟨v10, rfl, h10, p10⟩; replace hP := hP.trans p10; replace h7 := h7.pu p10; obtain ⟨g10, A10, n10, c10, rfl⟩ := h10.form)
        | (go_at_call_of 14 A7; refine (cmp_same _ _ _ _ _ h7 h10 HB.out.2.2.2.2.1 (Int.add_mul za zb zc)).mono ?_; rintro e u6 ⟨rfl, p11⟩; replace hP := hP.trans p11)
        | (go_at_call 26; refine (sub_b _ _ za zb _ (hx.pu hP) (hy.pu hP) HB.out.1 HB.out.2.1).mono ?_; rintro e u7 ⟨v12, rfl, h12, p12⟩; replace hP := hP.trans p12; obtain ⟨g12, A12, n12, c12, rfl⟩ := h12.form)
        | (go_at_call 26; refine (sub_b _ _ za zb _ (hx.pu (hP.alloc _)) (hy.pu (hP.alloc _)) HB.out.1 HB.out.2.1).mono ?_; rintro e u7 ⟨v12, rfl, h12, p12⟩; have hq12 := (Blk.new u6 25 #[.bool g2, .slice A2 n2 c2]).pu p12; replace hP := (hP.alloc _).trans p12; obtain ⟨g12, A12, n12, c12, rfl⟩ := h12.form)
        | (go_at_call_of 24 A12; have chk := hq12; clear chk; refine (addq_b _ (.agg #[.bool g2, .slice A2 n2 c2]) (za - zb) zb _ _ h12 (hy.pu hP) HB.out.2.2.2.2.2.2.2.1 HB.out.2.1 hq12).mono ?_; rintro e u8 ⟨v13, rfl, h13, p13⟩; replace hP := hP.trans p13; obtain ⟨g13, A13, n13, c13, rfl⟩ := h13.form)
        | (go_at_call_of 24 A12; refine (add_b _ (.agg #[.bool g2, .slice A2 n2 c2]) (za - zb) zb _ _ _ rfl rfl h12 (hy.pu hP) HB.out.2.2.2.2.2.2.2.1 HB.out.2.1).mono ?_; rintro e u8 ⟨v13, rfl, h13, p13⟩; replace hP := hP.trans p13; obtain ⟨g13, A13, n13, c13, rfl⟩ := h13.form)
        | (go_at_call_of 14 A13; refine (cmp_same _ _ _ za _ h13 (hx.pu hP) HB.out.2.2.2.2.2.2.2.2.2.2 (Int.sub_add_cancel za zb)).mono ?_; rintro e u9 ⟨rfl, p14⟩; replace hP := hP.trans p14)
        | (go_at_call_of 30 A2; go_at_call_of 30 A1; have chk := A15; clear chk; refine (mul_b _ _ zb za _ (hy.pu hP) (hx.pu hP) HB.out.2.1 HB.out.1).mono ?_; rintro e u11 ⟨v16, rfl, h16, p16⟩; replace hP := hP.trans p16; replace h15 := h15.pu p16; obtain ⟨g16, A16, n16, c16, rfl⟩ := h16.form)
        | (go_at_call_of 30 A2; go_at_call_of 30 A1; refine (mul_b _ _ za zb _ (hx.pu hP) (hy.pu hP) HB.out.1 HB.out.2.1).mono ?_; rintro e u10 ⟨v15, rfl, h15, p15⟩; replace hP := hP.trans p15; obtain ⟨g15, A15, n15, c15, rfl⟩ := h15.form)
        | (go_at_call_of 14 A15; refine (cmp_same _ _ _ _ _ h15 h16 HB.out.2.2.2.2.2.2.2.2.1 (Int.mul_comm za zb)).mono ?_; rintro e u12 ⟨rfl, p17⟩; replace hP := hP.trans p17))
    all_goals
      replace PW := PW.trans hP
      replace k0 := k0.pu hP
      replace k1 := k1.pu hP
      replace k2 := k2.pu hP
      replace hx := hx.pu hP
      replace hy := hy.pu hP
      replace hz := hz.pu hP
      (try clear hq12)
      clear h6 h7 h8 h9 h10 h12 h13 h15 h16 p6 p7 p8 p9 p10 p11 p12 p13 p14 p15 p16 p17 hP
      go_wp2_with fail
      rename_i K hK
      have key9 : ∀ (x0 x1 x2 x3 x4 x5 x6 x9 x10 x11 x13 x15 x16 x17 x18 x19 x20 x21 x22 x23 x24 x25 x26 x27 x28 x29 x30 x31 x32 x33 x34 x35 x36 x37 x38 x39 x40 x41 x42 x43 x44 x45 x46 x47 x48 x49 x50 x51 x52 x53 x54 x55 x56 x57 x58 x59 x60 x61 x62 x63 x64 x65 x66 x67 x68 x69 x70 x71 x72 x73 x74 x75 x76 x77 x78 x79 x80 x81 x82 x83 x84 x85 x86 x87 x88 x89 x90 x91 x92 x93 x94 x95 x96 x97 x98 x99 x100 x101 x102 x103 x104 x105 x106 x107 x108 x109 x110 x111 x112 x113 x114 x115 x116 x117 x118 x119 x120 x121 : Value) (P : Nat) (g23 : Bool) (A23 : Option Addr) (n23 c23 : Nat) (Wn : World), Blk Wn w2.heap.size 25 #[.bool g1, .slice A1 n1 c1] → Blk Wn (w2.heap.size + 1) 25 #[.bool g2, .slice A2 n2 c2] → Blk Wn w3.heap.size 25 #[.bool g5, .slice A5 n5 c5] → Blk Wn P 25 #[.bool g23, .slice A23 n23 c23] → ZR Wn (.agg #[.bool g1, .slice A1 n1 c1]) za → ZR Wn (.agg #[.bool g2, .slice A2 n2 c2]) zb → ZR Wn (.agg #[.bool g5, .slice A5 n5 c5]) zc → ZR Wn (.agg #[.bool g23, .slice A23 n23 c23]) (za * zb + zc) → Pu w Wn →
          Exit.then K (bodyPost Tryd.prog Tryd.f8 fun e w' => e = .returned (.bool true) ∧ Pu w w') Exit.normal { tmps := #[x0, x1, x2, x3, x4, x5, x6, .pointer (some ⟨w2.heap.size, 0, none⟩), .pointer (some ⟨w2.heap.size + 1, 0, none⟩), x9, x10, x11, .pointer (some ⟨w3.heap.size, 0, none⟩), x13, .pointer (some ⟨P, 0, none⟩), x15, x16, x17, x18, x19, x20, x21, x22, x23, x24, x25, x26, x27, x28, x29, x30, x31, x32, x33, x34, x35, x36, x37, x38, x39, x40, x41, x42, x43, x44, x45, x46, x47, x48, x49, x50, x51, x52, x53, x54, x55, x56, x57, x58, x59, x60, x61, x62, x63, x64, x65, x66, x67, x68, x69, x70, x71, x72, x73, x74, x75, x76, x77, x78, x79, x80, x81, x82, x83, x84, x85, x86, x87, x88, x89, x90, x91, x92, x93, x94, x95, x96, x97, x98, x99, x100, x101, x102, x103, x104, x105, x106, x107, x108, x109, x110, x111, x112, x113, x114, x115, x116, x117, x118, x119, x120, x121], defers := [] } Wn := by
        intro x0 x1 x2 x3 x4 x5 x6 x9 x10 x11 x13 x15 x16 x17 x18 x19 x20 x21 x22 x23 x24 x25 x26 x27 x28 x29 x30 x31 x32 x33 x34 x35 x36 x37 x38 x39 x40 x41 x42 x43 x44 x45 x46 x47 x48 x49 x50 x51 x52 x53 x54 x55 x56 x57 x58 x59 x60 x61 x62 x63 x64 x65 x66 x67 x68 x69 x70 x71 x72 x73 x74 x75 x76 x77 x78 x79 x80 x81 x82 x83 x84 x85 x86 x87 x88 x89 x90 x91 x92 x93 x94 x95 x96 x97 x98 x99 x100 x101 x102 x103 x104 x105 x106 x107 x108 x109 x110 x111 x112 x113 x114 x115 x116 x117 x118 x119 x120 x121 P g23 A23 n23 c23 Wn j0 j1 j2 jP jx jy jz jp jW
        clear k0 k1 k2 hx hy hz PW
        have a0 : Wn.cell? ⟨w2.heap.size + 1, 0, none⟩ = some (.bool g2) := j1.cell 0
        have a1 : Wn.cell? ⟨w2.heap.size + 1, 1, none⟩ = some (.slice A2 n2 c2) := j1.cell 1
        have hsg := sign_any _ zb Wn jy (two00_up HB.out.2.1 1000 (by decide))
        have Hsg := Lib.hid hsg
        clear hsg
        have p0 : Wn.cell? ⟨P, 0, none⟩ = some (.bool g23) := jP.cell 0
        have hbp := HB.out.2.2.2.2.2.2.2.2.2.1
        rcases Decidable.em (zb = 0) with hzb | hzb
        · have hs0 : zb.sign = 0 := by rw [hzb]; rfl
          rw [hs0] at Hsg
          have hpz : za * zb + zc = zc := by rw [hzb, Int.mul_zero, Int.zero_add]
          have HPZ := Lib.hid hpz
          clear hs0 hzb hpz
          go_wp2_with fail
          refine Hsg.out.mono ?_
          rintro e m1 ⟨rfl, r1⟩
          have b0 : m1.cell? ⟨P, 0, none⟩ = some (.bool g23) := (jP.pu r1).cell 0
          have b1 : m1.cell? ⟨P, 1, none⟩ = some (.slice A23 n23 c23) := (jP.pu r1).cell 1
          have b2 : m1.cell? ⟨w3.heap.size, 0, none⟩ = some (.bool g5) := (j2.pu r1).cell 0
          have b3 : m1.cell? ⟨w3.heap.size, 1, none⟩ = some (.slice A5 n5 c5) := (j2.pu r1).cell 1
          have hcm := cmp_same _ _ _ _ m1 (jp.pu r1) (jz.pu r1) hbp HPZ.out
          go_wp2_with fail
          refine hcm.mono ?_
          rintro e m2 ⟨rfl, r2⟩
          have PF := (jW.trans r1).trans r2
          go_wp2
          go_ret
          exact ⟨rfl, PF⟩
        · have hs0 : (zb.sign == 0) = false := by
            rcases Int.lt_trichotomy zb 0 with h | h | h
            · rw [Int.sign_eq_neg_one_of_neg h]; rfl
            · exact absurd h hzb
            · rw [Int.sign_eq_one_of_pos h]; rfl
          obtain ⟨sg, hsge⟩ : ∃ sg, sg = zb.sign := ⟨_, rfl⟩
          rw [← hsge] at hs0 Hsg
          clear hsge
          go_wp2_with fail
          refine Hsg.out.mono ?_
          rintro e m1 ⟨rfl, r1⟩
          have b0 : m1.cell? ⟨P, 0, none⟩ = some (.bool g23) := (jP.pu r1).cell 0
          have b1 : m1.cell? ⟨P, 1, none⟩ = some (.slice A23 n23 c23) := (jP.pu r1).cell 1
          have b2 : m1.cell? ⟨w2.heap.size + 1, 0, none⟩ = some (.bool g2) := (j1.pu r1).cell 0
          have b3 : m1.cell? ⟨w2.heap.size + 1, 1, none⟩ = some (.slice A2 n2 c2) := (j1.pu r1).cell 1
          have hdm := divmod_any _ _ _ _ m1 (jp.pu r1) (jy.pu r1) (two00_up hbp 1000 (by decide)) (two00_up HB.out.2.1 1000 (by decide)) hzb (div_ok _ _ (by omega))
          have Hdm := Lib.hid hdm
          clear hdm
          go_wp2_with fail
          refine Hdm.out.mono ?_
          rintro e m2 ⟨vq, vr, rfl, jq, jr, r2⟩
          obtain ⟨gq, Aq, nq, cq, rfl⟩ := jq.form
          obtain ⟨gr, Ar, nr, cr, rfl⟩ := jr.form
          have r12 := r1.trans r2
          have jPW := jW.trans r12
          replace jP := jP.pu r12
          replace j1 := j1.pu r12
          replace jp := jp.pu r12
          replace jy := jy.pu r12
          obtain ⟨M, hM⟩ : ∃ M, M = (m2.alloc (.cells #[.bool gq, .slice Aq nq cq] 25)).alloc (.cells #[.bool gr, .slice Ar nr cr] 25) := ⟨_, rfl⟩
          have r3 : Pu m2 M := by rw [hM]; exact ((Pu.refl _).alloc _).alloc _
          have jQ : Blk M m2.heap.size 25 #[.bool gq, .slice Aq nq cq] := by rw [hM]; exact (Blk.new _ _ _).alloc _
          have jR : Blk M (m2.heap.size + 1) 25 #[.bool gr, .slice Ar nr cr] := by rw [hM]; exact Blk.at_new _ _ _ (by simp)
          replace jP := jP.pu r3
          replace j1 := j1.pu r3
          replace jp := jp.pu r3
          replace jy := jy.pu r3
          replace jq := jq.pu r3
          replace jr := jr.pu r3
          have jPM := jPW.trans r3
          have HM := Lib.hid hM
          clear hM r3 r12 r1 r2 jW jPW j0 j2 jx jz a0 a1 p0 b0 b1 b2 b3
          obtain ⟨D, hD⟩ : ∃ D, D = za * zb + zc := ⟨_, rfl⟩
          rw [← hD] at jp jq jr hbp
          have hbq : (D / zb).natAbs < 10 ^ 200 := Nat.lt_of_le_of_lt (Int.natAbs_ediv_le_natAbs _ _) hbp
          have hr0 : 0 ≤ D % zb := Int.emod_nonneg _ hzb
          have hr1 : D % zb < (zb.natAbs : Int) := Int.emod_lt _ hzb
          have hbr : (D % zb).natAbs < 10 ^ 200 := by have := HB.out.2.1; omega
          have heq : D / zb * zb + D % zb = D := by
            rw [Int.mul_comm]
            exact Int.mul_ediv_add_emod D zb
          have hbqz : (D / zb * zb).natAbs < 10 ^ 200 := by
            have h3 := Lb.out
            rw [← hD] at h3
            have h4 : D / zb * zb = D - D % zb := by omega
            rw [h4]
            have h5 := h3.1
            have h6 := h3.2
            omega
          have hsr : ∃ sr, (D % zb).sign = sr ∧ decide (sr ≥ 0) = true ∧ decide (0 ≤ sr) = true := by
            rcases Int.lt_or_eq_of_le hr0 with h | h
            · exact ⟨1, Int.sign_eq_one_of_pos h, rfl, rfl⟩
            · exact ⟨0, by rw [← h]; rfl, rfl, rfl⟩
          obtain ⟨sr, hsre, ds1, ds2⟩ := hsr
          have hcz : cmpZ (D % zb) (zb.natAbs : Int) = -1 := cmpZ_lt hr1
          have HH := Lib.hid (And.intro hbq (And.intro hbr (And.intro heq (And.intro hbqz (And.intro hsre hcz)))))
          clear hD hbq hbr heq hbqz hsre hcz hr0 hr1 hzb
          go_wp2_with fail
          rw [← HM.out]
          have hP : Pu M M.drew := (Pu.refl M).drew
          go_region_held3 (fun t => t.cell? ⟨m2.heap.size, 0, none⟩ = some (.bool gq) ∧ t.cell? ⟨m2.heap.size, 1, none⟩ = some (.slice Aq nq cq) ∧ t.cell? ⟨m2.heap.size + 1, 0, none⟩ = some (.bool gr) ∧ t.cell? ⟨m2.heap.size + 1, 1, none⟩ = some (.slice Ar nr cr) ∧ t.cell? ⟨w2.heap.size + 1, 0, none⟩ = some (.bool g2) ∧ t.cell? ⟨w2.heap.size + 1, 1, none⟩ = some (.slice A2 n2 c2) ∧ t.cell? ⟨P, 0, none⟩ = some (.bool g23) ∧ t.cell? ⟨P, 1, none⟩ = some (.slice A23 n23 c23))
            (first | exact ⟨(jQ.pu hP).cell 0, (jQ.pu hP).cell 1, (jR.pu hP).cell 0, (jR.pu hP).cell 1, (j1.pu hP).cell 0, (j1.pu hP).cell 1, (jP.pu hP).cell 0, (jP.pu hP).cell 1⟩ | exact ⟨(jQ.pu (hP.alloc _)).cell 0, (jQ.pu (hP.alloc _)).cell 1, (jR.pu (hP.alloc _)).cell 0, (jR.pu (hP.alloc _)).cell 1, (j1.pu (hP.alloc _)).cell 0, (j1.pu (hP.alloc _)).cell 1, (jP.pu (hP.alloc _)).cell 0, (jP.pu (hP.alloc _)).cell 1⟩ | go_keep)
            (first
              | (go_at_call 30; refine (mul_b _ _ (D / zb) zb _ (jq.pu (by first | exact hP | exact hP.alloc _)) (jy.pu (by first | exact hP | exact hP.alloc _)) HH.out.1 HB.out.2.1).mono ?_; rintro e u31 ⟨v31, rfl, h31, p31⟩; replace hP := Pu.trans (a := M) (by first | exact hP | exact hP.alloc _) p31; obtain ⟨g31, A31, n31, c31, rfl⟩ := h31.form)
              | (go_at_call 24; refine (addq_b _ (.agg #[.bool gr, .slice Ar nr cr]) (D / zb * zb) (D % zb) _ _ (h31.pu (by first | exact Pu.refl _ | exact (Pu.refl _).alloc _)) (jr.pu (by first | exact hP | exact hP.alloc _)) HH.out.2.2.2.1 HH.out.2.1 (by first | exact Blk.new _ _ _ | exact (Blk.new _ _ _).drew.pu p31)).mono ?_; rintro e u32 ⟨v32, rfl, h32, p32⟩; replace hP := Pu.trans (a := M) (by first | exact hP | exact hP.alloc _) p32; rw [HH.out.2.2.1] at h32; obtain ⟨g32, A32, n32, c32, rfl⟩ := h32.form)
              | (go_at_call_of 14 A32; refine (cmp_same _ _ D D _ h32 (jp.pu hP) hbp rfl).mono ?_; rintro e u33 ⟨rfl, p33⟩; replace hP := hP.trans p33)
              | (go_at_call 18; refine (sign_any _ (D % zb) _ (jr.pu hP) (two00_up HH.out.2.1 1000 (by decide))).mono ?_; rintro e u34 ⟨rfl, p34⟩; replace hP := hP.trans p34; rw [HH.out.2.2.2.2.1])
              | (go_at_call 32; refine (abs_any _ zb _ (jy.pu hP) (two00_up HB.out.2.1 1000 (by decide))).mono ?_; rintro e u35 ⟨v35, rfl, h35, p35⟩; replace hP := hP.trans p35; obtain ⟨g35, A35, n35, c35, rfl⟩ := h35.form)
              | (go_at_call_of 14 A35; refine (cmp_any _ _ (D % zb) (zb.natAbs : Int) _ (jr.pu hP) h35 (two00_up HH.out.2.1 1000 (by decide)) (two00_up (by rw [Int.natAbs_natCast]; exact HB.out.2.1) 1000 (by decide))).mono ?_; rintro e u36 ⟨rfl, p36⟩; replace hP := hP.trans p36; rw [HH.out.2.2.2.2.2]))
          all_goals
            have PF := jPM.trans hP
            go_wp2
            go_ret
            exact ⟨rfl, PF⟩
      have Key9 := Lib.hid key9
      clear key9 hK
      have y1 := k1.lt
      have y2 := k2.lt
      have yw := PW.size
      have hP : Pu u12 u12.drew := (Pu.refl u12).drew
      go_region_held3 (fun t => t.cell? ⟨w2.heap.size, 0, none⟩ = some (.bool g1) ∧ t.cell? ⟨w2.heap.size, 1, none⟩ = some (.slice A1 n1 c1) ∧ t.cell? ⟨w2.heap.size + 1, 0, none⟩ = some (.bool g2) ∧ t.cell? ⟨w2.heap.size + 1, 1, none⟩ = some (.slice A2 n2 c2) ∧ t.cell? ⟨w3.heap.size, 0, none⟩ = some (.bool g5) ∧ t.cell? ⟨w3.heap.size, 1, none⟩ = some (.slice A5 n5 c5))
        (first | exact ⟨(k0.pu hP).cell 0, (k0.pu hP).cell 1, (k1.pu hP).cell 0, (k1.pu hP).cell 1, (k2.pu hP).cell 0, (k2.pu hP).cell 1⟩ | exact ⟨(k0.pu (hP.alloc _)).cell 0, (k0.pu (hP.alloc _)).cell 1, (k1.pu (hP.alloc _)).cell 0, (k1.pu (hP.alloc _)).cell 1, (k2.pu (hP.alloc _)).cell 0, (k2.pu (hP.alloc _)).cell 1⟩ | exact ⟨(k0.pu ((hP.alloc _).alloc _)).cell 0, (k0.pu ((hP.alloc _).alloc _)).cell 1, (k1.pu ((hP.alloc _).alloc _)).cell 0, (k1.pu ((hP.alloc _).alloc _)).cell 1, (k2.pu ((hP.alloc _).alloc _)).cell 0, (k2.pu ((hP.alloc _).alloc _)).cell 1⟩ | exact ⟨two_far (by dsimp; omega) ((k0.pu hP).cell 0), two_far (by dsimp; omega) ((k0.pu hP).cell 1), two_far (by dsimp; omega) ((k1.pu hP).cell 0), two_far (by dsimp; omega) ((k1.pu hP).cell 1), two_far (by dsimp; omega) ((k2.pu hP).cell 0), two_far (by dsimp; omega) ((k2.pu hP).cell 1)⟩ | go_keep)
        (first
          | (go_at_call 30; refine (mul_b _ _ za zb _ (hx.pu (by first | exact hP | exact hP.alloc _ | exact (hP.alloc _).alloc _)) (hy.pu (by first | exact hP | exact hP.alloc _ | exact (hP.alloc _).alloc _)) HB.out.1 HB.out.2.1).mono ?_; rintro e u21 ⟨v22, rfl, h22, p22⟩; replace hP := Pu.trans (a := u12) (by first | exact hP | exact hP.alloc _ | exact (hP.alloc _).alloc _) p22; have zz := hP.size; obtain ⟨g22, A22, n22, c22, rfl⟩ := h22.form)
          | (go_at_call 24; refine (addq_b _ (.agg #[.bool g5, .slice A5 n5 c5]) (za * zb) zc _ _ (h22.pu (by first | exact Pu.refl _ | exact (Pu.refl _).alloc _ | exact ((Pu.refl _).alloc _).alloc _)) (hz.pu (by first | exact hP | exact hP.alloc _ | exact (hP.alloc _).alloc _)) HB.out.2.2.2.2.2.2.2.2.1 HB.out.2.2.1 (by first | exact Blk.new _ _ _ | exact (Blk.new _ _ _).alloc _ | exact Blk.at_new _ _ _ (size_alloc _ _) | exact (Blk.new _ _ _).drew.pu p22 | exact ((Blk.new _ _ _).drew.pu p22).alloc _ | exact ((Blk.new _ _ _).alloc _).drew.pu p22 | exact (Blk.at_new _ _ _ (size_alloc _ _)).drew.pu p22)).mono ?_; rintro e u23 ⟨v23, rfl, h23, p23⟩; replace hP := Pu.trans (a := u12) (by first | exact hP | exact hP.alloc _ | exact (hP.alloc _).alloc _) p23; obtain ⟨g23, A23, n23, c23, rfl⟩ := h23.form; (first | (have kp := (((Blk.new u12 25 #[.bool false, .slice none 0 0]).alloc _).drew.pu p22).pu p23; have kp0 := kp.cell 0; have kp1 := kp.cell 1; have kf0 := kp.frozen 0; have kf1 := kp.frozen 1) | (have kp := ((Blk.at_new (u12.alloc _) 25 #[.bool false, .slice none 0 0] (k := u12.heap.size + 1) (size_alloc _ _)).drew.pu p22).pu p23; have kp0 := kp.cell 0; have kp1 := kp.cell 1; have kf0 := kp.frozen 0; have kf1 := kp.frozen 1) | (have kp := (((Blk.new u12 25 #[.bool false, .slice none 0 0]).drew.pu p22).alloc _).pu p23; have kp0 := kp.cell 0; have kp1 := kp.cell 1; have kf0 := kp.frozen 0; have kf1 := kp.frozen 1) | (have kp := ((Blk.new u21 25 #[.bool false, .slice none 0 0]).alloc _).pu p23; have kp0 := kp.cell 0; have kp1 := kp.cell 1; have kf0 := kp.frozen 0; have kf1 := kp.frozen 1) | (have kp := (Blk.at_new (u21.alloc _) 25 #[.bool false, .slice none 0 0] (k := u21.heap.size + 1) (size_alloc _ _)).pu p23; have kp0 := kp.cell 0; have kp1 := kp.cell 1; have kf0 := kp.frozen 0; have kf1 := kp.frozen 1) | (have kp := (Blk.new u21 25 #[.bool false, .slice none 0 0]).pu p23; have kp0 := kp.cell 0; have kp1 := kp.cell 1; have kf0 := kp.frozen 0; have kf1 := kp.frozen 1) | skip)))
      all_goals
        first
        | (obtain ⟨_, _, rz, rp⟩ := store_num kp g23 A23 n23 c23
           exact Key9.out _ _ _ _ _ _ _ _ _ _ _ _ _ _ _ _ _ _ _ _ _ _ _ _ _ _ _ _ _ _ _ _ _ _ _ _ _ _ _ _ _ _ _ _ _ _ _ _ _ _ _ _ _ _ _ _ _ _ _ _ _ _ _ _ _ _ _ _ _ _ _ _ _ _ _ _ _ _ _ _ _ _ _ _ _ _ _ _ _ _ _ _ _ _ _ _ _ _ _ _ _ _ _ _ _ _ _ _ _ _ _ _ _ _ _ _ _ _ _ g23 A23 n23 c23 _ (((k0.pu hP).far (by dsimp; omega) _).far (by dsimp; omega) _) (((k1.pu hP).far (by dsimp; omega) _).far (by dsimp; omega) _) (((k2.pu hP).far (by dsimp; omega) _).far (by dsimp; omega) _) ((kp.set_ 0 (.bool g23)).set_ 1 (.slice A23 n23 c23)) (rz _ _ (hx.pu hP)) (rz _ _ (hy.pu hP)) (rz _ _ (hz.pu hP)) (rz _ _ h23) (rp _ (PW.trans hP) (by omega)))
        | exact Key9.out _ _ _ _ _ _ _ _ _ _ _ _ _ _ _ _ _ _ _ _ _ _ _ _ _ _ _ _ _ _ _ _ _ _ _ _ _ _ _ _ _ _ _ _ _ _ _ _ _ _ _ _ _ _ _ _ _ _ _ _ _ _ _ _ _ _ _ _ _ _ _ _ _ _ _ _ _ _ _ _ _ _ _ _ _ _ _ _ _ _ _ _ _ _ _ _ _ _ _ _ _ _ _ _ _ _ _ _ _ _ _ _ _ _ _ _ _ _ _ g23 A23 n23 c23 _ ((k0.pu hP).alloc _) ((k1.pu hP).alloc _) ((k2.pu hP).alloc _) (Blk.new _ _ _) (hx.pu (hP.alloc _)) (hy.pu (hP.alloc _)) (hz.pu (hP.alloc _)) (h23.pu ((Pu.refl _).alloc _)) (PW.trans (hP.alloc _))
end Go.Proofs.YtckfnbckoclhpaaDoor
