/- zed: Lcm. -/
import Derived.Test.YtckfnbckoclhpaaDoorZGcd
import Derived.Deep.RegionHeld3
set_option linter.unusedVariables false
namespace Go.Proofs.YtckfnbckoclhpaaDoor
open Go.RowKit

theorem size_alloc2 (w : World) (o : Obj) : w.heap.size + 1 = (w.alloc o).heap.size := by simp
/-- the least common multiple -/
def lcmv (z1 z2 : Int) : Int := ((z1.natAbs : Nat) : Int) / ((Int.gcd z1 z2 : Nat) : Int) * ((z2.natAbs : Nat) : Int)

theorem up_words {n : Nat} (h : n < 4294967296 ^ 1000) : n < 4294967296 ^ 20000 := Nat.lt_of_lt_of_le h (pow_up (a := 1000) (b := 20000) (by decide))
/-- q stands in the block P -/
structure Stands (u V : World) (P : Nat) (g : Bool) (A : Option Addr) (n c : Nat) (z : Int) : Prop where
  blk : Blk V P 25 #[.bool g, .slice A n c]
  num : ZR V (.agg #[.bool g, .slice A n c]) z
  pu : Pu u V
  ge : u.heap.size ≤ P
section
variable {u v : World} {g h : Bool} {A B : Option Addr} {n c m d a b : Nat} {z : Int}
theorem stands_new (hP : Pu u v) (hz : ZR v (.agg #[.bool g, .slice A n c]) z) (o : Obj) : Stands u ((v.alloc (.cells #[.bool g, .slice A n c] 25)).alloc o) v.heap.size g A n c z :=
  ⟨(Blk.new _ _ _).alloc _, hz.pu (((Pu.refl _).alloc _).alloc _), (hP.alloc _).alloc _, hP.size⟩
theorem stands_new2 (hP : Pu u v) (hz : ZR v (.agg #[.bool g, .slice A n c]) z) (o : Obj) : Stands u ((v.alloc o).alloc (.cells #[.bool g, .slice A n c] 25)) (v.heap.size + 1) g A n c z :=
  ⟨Blk.at_new _ _ _ (size_alloc2 _ _), hz.pu (((Pu.refl _).alloc _).alloc _), (hP.alloc _).alloc _, Nat.le_succ_of_le hP.size⟩
theorem stands_old (hP : Pu u v) (hz : ZR v (.agg #[.bool g, .slice A n c]) z) (k : Blk v a 25 #[.bool false, .slice none 0 0]) (ha : u.heap.size ≤ a) (o : Obj) : Stands u (((v.setCell ⟨a, 0, none⟩ (.bool g)).setCell ⟨a, 1, none⟩ (.slice A n c)).alloc o) a g A n c z := by
  obtain ⟨_, _, rz, rp⟩ := store_num k g A n c
  exact ⟨(over_n k g A n c).1.alloc _, (rz _ _ hz).pu ((Pu.refl _).alloc _), (rp _ hP ha).alloc _, ha⟩
theorem stands_old2 (hP : Pu u v) (hz : ZR v (.agg #[.bool g, .slice A n c]) z) (k : Blk v a 25 #[.bool false, .slice none 0 0]) (ha : u.heap.size ≤ a) : Stands u (((v.setCell ⟨a, 0, none⟩ (.bool h)).setCell ⟨a, 1, none⟩ (.slice B m d)).alloc (.cells #[.bool g, .slice A n c] 25)) v.heap.size g A n c z := by
  obtain ⟨_, _, rz, rp⟩ := store_num k h B m d
  exact ⟨Blk.at_new _ _ _ (by simp [World.setCell]), (rz _ _ hz).pu ((Pu.refl _).alloc _), (rp _ hP ha).alloc _, hP.size⟩
theorem stands_both (hP : Pu u v) (hz : ZR v (.agg #[.bool g, .slice A n c]) z) (k : Blk v a 25 #[.bool false, .slice none 0 0]) (k' : Blk v b 25 #[.bool false, .slice none 0 0]) (ha : u.heap.size ≤ a) (hb : u.heap.size ≤ b) (hab : a ≠ b) : Stands u ((((v.setCell ⟨a, 0, none⟩ (.bool g)).setCell ⟨a, 1, none⟩ (.slice A n c)).setCell ⟨b, 0, none⟩ (.bool h)).setCell ⟨b, 1, none⟩ (.slice B m d)) a g A n c z := by
  obtain ⟨_, _, rz, rp⟩ := store_num k g A n c
  have k1 := k'.fr (over_n k g A n c).2 (fun e => hab e.symm)
  obtain ⟨_, _, rz2, rp2⟩ := store_num k1 h B m d
  exact ⟨(over_n k g A n c).1.fr (over_n k1 h B m d).2 hab, rz2 _ _ (rz _ _ hz), rp2 _ (rp _ hP ha) hb, ha⟩
end

theorem Keep4 {u V : World} {a b : Nat} {s1 s2 : Bool} {A1 A2 : Option Addr} {n1 c1 n2 c2 : Nat} (k1 : Blk u a 25 #[.bool s1, .slice A1 n1 c1]) (k2 : Blk u b 25 #[.bool s2, .slice A2 n2 c2]) (p : Pu u V) :
    V.cell? ⟨a, 0, none⟩ = some (.bool s1) ∧ V.cell? ⟨a, 1, none⟩ = some (.slice A1 n1 c1) ∧ V.cell? ⟨b, 0, none⟩ = some (.bool s2) ∧ V.cell? ⟨b, 1, none⟩ = some (.slice A2 n2 c2) :=
  ⟨(k1.pu p).cell 0, (k1.pu p).cell 1, (k2.pu p).cell 0, (k2.pu p).cell 1⟩

set_option maxHeartbeats 16000000 in
set_option maxRecDepth 100000 in
theorem lcm_any (v1 v2 : Value) (z1 z2 : Int) (w : World) (h1 : ZR w v1 z1) (h2 : ZR w v2 z2) (b1 : z1.natAbs < 4294967296 ^ 1000) (b2 : z2.natAbs < 4294967296 ^ 1000) :
    Calls Tryd.prog 35 #[v1, v2] w fun e w' => ∃ v, e = .returned v ∧ ZR w' v (lcmv z1 z2) ∧ Pu w w' := by
  obtain ⟨s1, A1, n1, c1, rfl⟩ := h1.shape
  obtain ⟨s2, A2, n2, c2, rfl⟩ := h2.shape
  obtain ⟨W, hWe⟩ : ∃ W, W = ((w.alloc (.cells #[.bool s1, .slice A1 n1 c1] 25)).alloc (.cells #[.bool s2, .slice A2 n2 c2] 25)).alloc (.cells #[.bool false, .slice none 0 0] 25) := ⟨_, rfl⟩
  have hW : Pu w W := by
    rw [hWe]
    exact (((Pu.refl w).alloc _).alloc _).alloc _
  have k1 : Blk W w.heap.size 25 #[.bool s1, .slice A1 n1 c1] := by rw [hWe]; exact ((Blk.new w _ _).alloc _).alloc _
  have k2 : Blk W (w.heap.size + 1) 25 #[.bool s2, .slice A2 n2 c2] := by rw [hWe]; exact (Blk.at_new _ _ _ (by simp)).alloc _
  have k3 : Blk W (w.heap.size + 2) 25 #[.bool false, .slice none 0 0] := by rw [hWe]; exact Blk.at_new _ _ _ (by simp)
  have g1 := h1.pu hW
  have g2 := h2.pu hW
  clear h1 h2
  have hs1 := sign_any _ z1 W g1 b1
  have hs2 := fun U p => sign_any _ z2 U (g2.pu (w' := U) p) b2
  have Hs1 := Lib.hid hs1
  have Hs2 := Lib.hid hs2
  have HB := Lib.hid (And.intro b1 b2)
  rw [hWe] at Hs1
  have HWe := Lib.hid hWe
  have nought : ∀ W, ZR W (.agg #[.bool false, .slice none 0 0]) 0 := fun W => ⟨false, none, 0, 0, [], rfl, Sl.nil _ _ _ _, Below_.nil _, tidy_nil, (fun e => by cases e), by simp [maxLen], rfl⟩
  have HN := Lib.hid nought
  clear hs1 hs2 hWe b1 b2 nought
  have sgc : ∀ z : Int, (z = 0 ∧ (z.sign == 0) = true) ∨ (z ≠ 0 ∧ (z.sign == 0) = false) := by
    intro z
    rcases Decidable.em (z = 0) with e | e
    · exact .inl ⟨e, by rw [e]; rfl⟩
    · exact .inr ⟨e, by simpa using e⟩
  have c1' := sgc z1
  have c2' := sgc z2
  clear sgc
  rcases c1' with ⟨e1, d1⟩ | ⟨e1, d1⟩
  · have hv : lcmv z1 z2 = 0 := by rw [e1, lcmv]; simp
    have Hv := Lib.hid hv
    clear hv e1
    obtain ⟨σ1, hσ⟩ : ∃ σ, σ = z1.sign := ⟨_, rfl⟩
    rw [← hσ] at d1 Hs1
    go_enter Tryd.func35, Tryd.ntmps35
    go_wp2_with fail
    refine Hs1.out.mono ?_
    rintro e u ⟨rfl, p⟩
    rw [← HWe.out] at p
    have k3u := k3.pu p
    have t0 : u.cell? ⟨w.heap.size + 2, 0, none⟩ = some (.bool false) := k3u.cell 0
    have t1 : u.cell? ⟨w.heap.size + 2, 1, none⟩ = some (.slice none 0 0) := k3u.cell 1
    have f0 := k3u.frozen 0
    have f1 := k3u.frozen 1
    obtain ⟨r0, r1, _, rp⟩ := store_num k3u false none 0 0
    have PP := rp _ (hW.trans p) (by omega)
    clear rp hσ
    go_wp2
    exact bodyPost_ret (v := .agg #[.bool false, .slice none 0 0]) (by simp [results, Tryd.results35, go_sem, r0, r1]) rfl ⟨_, rfl, by rw [Hv.out]; exact HN.out _, PP⟩
  · rcases c2' with ⟨e2, d2⟩ | ⟨e2, d2⟩
    · have hv : lcmv z1 z2 = 0 := by rw [e2, lcmv]; simp
      have Hv := Lib.hid hv
      clear hv e1 e2
      generalize z1.sign = σ1 at *
      generalize z2.sign = σ2 at *
      go_enter Tryd.func35, Tryd.ntmps35
      go_wp2_with fail
      refine Hs1.out.mono ?_
      rintro e u1 ⟨rfl, p1⟩
      rw [← HWe.out] at p1
      have q20 : u1.cell? ⟨w.heap.size + 1, 0, none⟩ = some (.bool s2) := (k2.pu p1).cell 0
      have q21 : u1.cell? ⟨w.heap.size + 1, 1, none⟩ = some (.slice A2 n2 c2) := (k2.pu p1).cell 1
      go_wp2_with fail
      refine (Hs2.out _ p1).mono ?_
      rintro e u ⟨rfl, p⟩
      have k3u := k3.pu (p1.trans p)
      have t0 : u.cell? ⟨w.heap.size + 2, 0, none⟩ = some (.bool false) := k3u.cell 0
      have t1 : u.cell? ⟨w.heap.size + 2, 1, none⟩ = some (.slice none 0 0) := k3u.cell 1
      have f0 := k3u.frozen 0
      have f1 := k3u.frozen 1
      obtain ⟨r0, r1, _, rp⟩ := store_num k3u false none 0 0
      have PP := rp _ (hW.trans (p1.trans p)) (by omega)
      clear rp
      go_wp2
      exact bodyPost_ret (v := .agg #[.bool false, .slice none 0 0]) (by simp [results, Tryd.results35, go_sem, r0, r1]) rfl ⟨_, rfl, by rw [Hv.out]; exact HN.out _, PP⟩
    · have H1 := Lib.hid e1
      have H2 := Lib.hid e2
      generalize z1.sign = σ1 at *
      generalize z2.sign = σ2 at *
      go_enter Tryd.func35, Tryd.ntmps35
      go_wp2_with fail
      refine Hs1.out.mono ?_
      rintro e u1 ⟨rfl, p1⟩
      rw [← HWe.out] at p1
      have q20 : u1.cell? ⟨w.heap.size + 1, 0, none⟩ = some (.bool s2) := (k2.pu p1).cell 0
      have q21 : u1.cell? ⟨w.heap.size + 1, 1, none⟩ = some (.slice A2 n2 c2) := (k2.pu p1).cell 1
      go_wp2_with fail
      refine (Hs2.out _ p1).mono ?_
      rintro e u ⟨rfl, p⟩
      have PU := p1.trans p
      replace k1 := k1.pu PU
      replace k2 := k2.pu PU
      replace k3 := k3.pu PU
      replace g1 := g1.pu PU
      replace g2 := g2.pu PU
      replace hW := hW.trans PU
      clear q20 q21 p1 p PU Hs1 Hs2 HWe e1 e2
      go_wp2_with fail
      have bg := gcd_below HB.out.1 HB.out.2
      have hgne : ((Int.gcd z1 z2 : Nat) : Int) ≠ 0 := by
        have := Int.gcd_ne_zero_left (b := z2) H1.out
        omega
      have b3 : (((z1.natAbs : Nat) : Int)).natAbs < 4294967296 ^ 1000 := by rw [Int.natAbs_natCast]; exact HB.out.1
      have hok := div_ok (((z1.natAbs : Nat) : Int)).natAbs (((Int.gcd z1 z2 : Nat) : Int)).natAbs (by omega)
      have HG := Lib.hid (And.intro bg (And.intro hgne (And.intro b3 hok)))
      clear bg hgne b3 hok
      have b4 : lcmv z1 z2 = ((z1.natAbs : Nat) : Int) / ((Int.gcd z1 z2 : Nat) : Int) * ((z2.natAbs : Nat) : Int) := rfl
      obtain ⟨q, hq⟩ : ∃ q, q = ((z1.natAbs : Nat) : Int) / ((Int.gcd z1 z2 : Nat) : Int) := ⟨_, rfl⟩
      have bq : q.natAbs < 4294967296 ^ 20000 := by
        rw [hq, ← Int.natCast_ediv, Int.natAbs_natCast]
        exact up_words (Nat.lt_of_le_of_lt (Nat.div_le_self _ _) HB.out.1)
      have bz : (((z2.natAbs : Nat) : Int)).natAbs < 4294967296 ^ 20000 := by
        rw [Int.natAbs_natCast]
        exact up_words HB.out.2
      rw [← hq] at b4
      have HQ := Lib.hid (And.intro b4 (And.intro bq bz))
      have Hq := Lib.hid hq
      clear b4 bq bz hq
      rename_i K hK
      have key : ∀ (x0 x1 x2 x6 x7 x8 x9 x10 x11 x12 x13 x14 x15 x16 x17 x18 x19 x20 x21 x22 x23 x24 x25 x26 x27 x28 x29 x30 : Value) (P : Nat) (g : Bool) (A : Option Addr) (n c : Nat) (V : World), Stands u V P g A n c q →
          Exit.then K (bodyPost Tryd.prog Tryd.f35 fun e w' => ∃ v, e = .returned v ∧ ZR w' v (lcmv z1 z2) ∧ Pu w w') Exit.normal { tmps := #[x0, x1, x2, .pointer (some ⟨w.heap.size + 1, 0, none⟩), .pointer (some ⟨w.heap.size + 2, 0, none⟩), .pointer (some ⟨P, 0, none⟩), x6, x7, x8, x9, x10, x11, x12, x13, x14, x15, x16, x17, x18, x19, x20, x21, x22, x23, x24, x25, x26, x27, x28, x29, x30], defers := [] } V := by
        intro x0 x1 x2 x6 x7 x8 x9 x10 x11 x12 x13 x14 x15 x16 x17 x18 x19 x20 x21 x22 x23 x24 x25 x26 x27 x28 x29 x30 P g A n c V hS
        have j2 := k2.pu hS.pu
        have j3 := k3.pu hS.pu
        have jq := hS.num
        have j2z := g2.pu hS.pu
        have jW := hW.trans hS.pu
        have y0 : V.cell? ⟨w.heap.size + 1, 0, none⟩ = some (.bool s2) := j2.cell 0
        have y1 : V.cell? ⟨w.heap.size + 1, 1, none⟩ = some (.slice A2 n2 c2) := j2.cell 1
        have y2 : V.cell? ⟨P, 0, none⟩ = some (.bool g) := hS.blk.cell 0
        have y3 : V.cell? ⟨P, 1, none⟩ = some (.slice A n c) := hS.blk.cell 1
        have t0 : V.cell? ⟨w.heap.size + 2, 0, none⟩ = some (.bool false) := j3.cell 0
        have t1 : V.cell? ⟨w.heap.size + 2, 1, none⟩ = some (.slice none 0 0) := j3.cell 1
        have hn1 : w.heap.size + 1 ≠ w.heap.size + 2 := by omega
        have hn2 : P ≠ w.heap.size + 2 := by have := k3.lt; have := hS.ge; omega
        clear k1 k2 k3 g1 g2 hW hS
        go_wp2_with fail
        have hP : Pu V V.drew := (Pu.refl V).drew
        go_region_held3 (fun t => t.cell? ⟨w.heap.size + 1, 0, none⟩ = some (.bool s2) ∧ t.cell? ⟨w.heap.size + 1, 1, none⟩ = some (.slice A2 n2 c2) ∧ t.cell? ⟨P, 0, none⟩ = some (.bool g) ∧ t.cell? ⟨P, 1, none⟩ = some (.slice A n c))
          (first | with_reducible exact ⟨hP.cellv y0, hP.cellv y1, hP.cellv y2, hP.cellv y3⟩ | with_reducible exact ⟨two_far hn1 (hP.cellv y0), two_far hn1 (hP.cellv y1), two_far hn2 (hP.cellv y2), two_far hn2 (hP.cellv y3)⟩ | go_keep)
          (first
            | (go_at_call 32; refine (abs_any _ z2 _ (j2z.pu hP) HB.out.2).mono ?_; rintro e r1 ⟨va, rfl, ha, p1⟩; replace hP := hP.trans p1; obtain ⟨ga, Aa, na, ca, rfl⟩ := ha.shape)
            | (go_at_call 30; refine (mul_any _ _ _ _ _ (jq.pu hP) ha HQ.out.2.1 HQ.out.2.2).mono ?_; rintro e r2 ⟨vm, rfl, hm, p1⟩; replace hP := hP.trans p1; obtain ⟨gm, Am, nm, cm, rfl⟩ := hm.shape; have e0 := (j3.pu hP).cell 0; have e1 := (j3.pu hP).cell 1; have e2 := (j3.pu hP).frozen 0; have e3 := (j3.pu hP).frozen 1))
        obtain ⟨rA, rB, rz, rp⟩ := store_num (j3.pu hP) gm Am nm cm
        have hv := rz _ _ hm
        rw [← HQ.out.1] at hv
        have PP := rp _ (jW.trans hP) (by omega)
        clear rz rp
        go_wp2
        exact bodyPost_ret (v := .agg #[.bool gm, .slice Am nm cm]) (by simp [results, Tryd.results35, go_sem, rA, rB]) rfl ⟨_, rfl, hv, PP⟩
      have Key := Lib.hid key
      clear key hK
      have hP : Pu u u.drew := (Pu.refl u).drew
      go_region_held3 (fun t => t.cell? ⟨w.heap.size, 0, none⟩ = some (.bool s1) ∧ t.cell? ⟨w.heap.size, 1, none⟩ = some (.slice A1 n1 c1) ∧ t.cell? ⟨w.heap.size + 1, 0, none⟩ = some (.bool s2) ∧ t.cell? ⟨w.heap.size + 1, 1, none⟩ = some (.slice A2 n2 c2))
        (first | exact Keep4 k1 k2 (by repeat' (first | with_reducible exact hP | with_reducible exact Pu.refl _ | with_reducible refine Pu.drew ?_ | with_reducible refine Pu.alloc ?_ _ | with_reducible refine Pu.setCell ?_ ?_ _ | (dsimp only; omega))) | go_keep)
        (first
          | (go_at_call 32; refine (abs_any _ z1 _ (g1.pu (by with_reducible first | exact hP | exact hP.alloc _ | exact (hP.alloc _).alloc _ | exact Pu.drew (Pu.alloc (Pu.refl _) _) | exact Pu.drew (Pu.alloc (Pu.alloc (Pu.refl _) _) _))) HB.out.1).mono ?_; rintro e u11 ⟨v11, rfl, h11, p11⟩; replace hP := Pu.trans (a := u) (by with_reducible first | exact hP | exact hP.alloc _ | exact (hP.alloc _).alloc _ | exact Pu.drew (Pu.alloc (Pu.refl _) _) | exact Pu.drew (Pu.alloc (Pu.alloc (Pu.refl _) _) _)) p11; with_reducible (first | (have bA := ((Blk.new u 25 #[.bool false, .slice none 0 0]).alloc _).drew.pu p11; have bB := (Blk.at_new (u.alloc _) 25 #[.bool false, .slice none 0 0] (k := u.heap.size + 1) (size_alloc2 _ _)).drew.pu p11; have hAB := Nat.lt_add_one u.heap.size) | (have bA := (Blk.new u 25 #[.bool false, .slice none 0 0]).drew.pu p11) | skip); have z11 := hP.size; obtain ⟨s11, A11, n11, c11, rfl⟩ := h11.shape)
          | (go_at_call 59; refine (gcd_any _ _ z1 z2 _ (g1.pu (by with_reducible first | exact hP | exact hP.alloc _ | exact (hP.alloc _).alloc _ | exact Pu.drew (Pu.alloc (Pu.refl _) _) | exact Pu.drew (Pu.alloc (Pu.alloc (Pu.refl _) _) _))) (g2.pu (by with_reducible first | exact hP | exact hP.alloc _ | exact (hP.alloc _).alloc _ | exact Pu.drew (Pu.alloc (Pu.refl _) _) | exact Pu.drew (Pu.alloc (Pu.alloc (Pu.refl _) _) _))) HB.out.1 HB.out.2).mono ?_; rintro e u12 ⟨v12, rfl, h12, p12⟩; replace hP := Pu.trans (a := u) (by with_reducible first | exact hP | exact hP.alloc _ | exact (hP.alloc _).alloc _ | exact Pu.drew (Pu.alloc (Pu.refl _) _) | exact Pu.drew (Pu.alloc (Pu.alloc (Pu.refl _) _) _)) p12; replace h11 := h11.pu (Pu.trans (by with_reducible first | exact Pu.refl _ | exact (Pu.refl _).alloc _ | exact ((Pu.refl _).alloc _).alloc _) p12); with_reducible (first | (replace bA := bA.pu p12; replace bB := bB.pu p12) | (have hAB := bA.lt; replace bA := (bA.alloc _).pu p12; have bB := (Blk.new u11 25 #[.bool false, .slice none 0 0]).pu p12) | (replace bA := bA.pu p12) | (have bA := ((Blk.new u11 25 #[.bool false, .slice none 0 0]).alloc _).pu p12; have bB := (Blk.at_new (u11.alloc _) 25 #[.bool false, .slice none 0 0] (k := u11.heap.size + 1) (size_alloc2 _ _)).pu p12; have hAB := Nat.lt_add_one u11.heap.size) | (have bA := (Blk.new u11 25 #[.bool false, .slice none 0 0]).pu p12) | skip); have z12 := hP.size; obtain ⟨s12, A12, n12, c12, rfl⟩ := h12.shape)
          | (go_at_call 21; refine (divmod_any _ _ _ _ _ (h11.pu (by with_reducible first | exact Pu.refl _ | exact (Pu.refl _).alloc _ | exact ((Pu.refl _).alloc _).alloc _)) (h12.pu (by with_reducible first | exact Pu.refl _ | exact (Pu.refl _).alloc _ | exact ((Pu.refl _).alloc _).alloc _)) HG.out.2.2.1 HG.out.1 HG.out.2.1 HG.out.2.2.2).mono ?_; rintro e u13 ⟨v13, v14, rfl, h13, h14, p13⟩; replace hP := Pu.trans (a := u) (by with_reducible first | exact hP | exact hP.alloc _ | exact (hP.alloc _).alloc _ | exact Pu.drew (Pu.alloc (Pu.refl _) _) | exact Pu.drew (Pu.alloc (Pu.alloc (Pu.refl _) _) _)) p13; have z13 := hP.size; obtain ⟨s13, A13, n13, c13, rfl⟩ := h13.shape; obtain ⟨s14, A14, n14, c14, rfl⟩ := h14.shape; with_reducible (first | (replace bA := bA.pu p13; replace bB := bB.pu p13) | (have hAB := bA.lt; replace bA := (bA.alloc _).pu p13; have bB := (Blk.new u12 25 #[.bool false, .slice none 0 0]).pu p13) | (replace bA := bA.pu p13) | (have bA := ((Blk.new u12 25 #[.bool false, .slice none 0 0]).alloc _).pu p13; have bB := (Blk.at_new (u12.alloc _) 25 #[.bool false, .slice none 0 0] (k := u12.heap.size + 1) (size_alloc2 _ _)).pu p13; have hAB := Nat.lt_add_one u12.heap.size) | (have bA := (Blk.new u12 25 #[.bool false, .slice none 0 0]).pu p13) | skip); (try (have ka0 := bA.cell 0; have ka1 := bA.cell 1; have kf0 := bA.frozen 0; have kf1 := bA.frozen 1; have la := bA.lt)); (try (have kb0 := bB.cell 0; have kb1 := bB.cell 1; have kg0 := bB.frozen 0; have kg1 := bB.frozen 1; have lb := bB.lt; have ma0 := two_far (u := .bool s13) (v := .slice A13 n13 c13) (Nat.ne_of_lt hAB) ka0; have ma1 := two_far (u := .bool s13) (v := .slice A13 n13 c13) (Nat.ne_of_lt hAB) ka1; have mb0 := two_far (u := .bool s13) (v := .slice A13 n13 c13) (Nat.ne_of_gt hAB) kb0; have mb1 := two_far (u := .bool s13) (v := .slice A13 n13 c13) (Nat.ne_of_gt hAB) kb1))))
      all_goals
        rw [← Hq.out] at h13
        refine Key.out _ _ _ _ _ _ _ _ _ _ _ _ _ _ _ _ _ _ _ _ _ _ _ _ _ _ _ _ _ s13 A13 n13 c13 _ ?_
        with_reducible first
          | exact stands_new hP h13 _
          | exact stands_new2 hP h13 _
          | exact stands_old hP h13 bA (by first | exact Nat.le_refl _ | omega) _
          | exact stands_old2 hP h13 bA (by first | exact Nat.le_refl _ | omega)
          | exact stands_both hP h13 bA bB (by first | exact Nat.le_refl _ | omega) (by first | exact Nat.le_refl _ | omega) (by omega)
          | exact stands_both hP h13 bB bA (by first | exact Nat.le_refl _ | omega) (by first | exact Nat.le_refl _ | omega) (by omega)
end Go.Proofs.YtckfnbckoclhpaaDoor
