/- Rows: greater. Rows: divided. Rows: reduced. -/
import Derived.Test.YtckfnbckoclhpaaGreatDoorE16
import Derived.Test.YtckfnbckoclhpaaGreatDoorC07
import Derived.Deep.RegionHeld3
namespace Go.Proofs.YtckfnbckoclhpaaGreatDoor
section
set_option linter.unusedVariables false
open Go.RowKit
theorem greatM_gt {m n : Int} (h : m < n) : greatM (some m) n = some n := by
  show some (if n > m then n else m) = some n
  rw [if_pos h]
theorem greatM_le {m n : Int} (h : n ≤ m) : greatM (some m) n = some m := by
  show some (if n > m then n else m) = some m
  rw [if_neg (by omega)]
set_option maxHeartbeats 1600000 in
set_option maxRecDepth 100000 in
theorem greater_any (p v : Value) (o : Option Int) (n : Int) (N : Nat → Prop) (w : World) (h1 : NPt w N p o) (h2 : ZR w v n) (hb : ∀ b, w.heap.size ≤ b → N b) (hn : n.natAbs < 4294967296 ^ 40000) (ho : ∀ m, o = some m → m.natAbs < 4294967296 ^ 40000) :
    Calls Tryz.prog 109 #[p, v] w fun e w' => ∃ p', e = .returned p' ∧ NPt w' N p' (greatM o n) ∧ Pu w w' := by
  obtain ⟨g, A, n1, c, rfl⟩ := h2.shape2
  have pW : Pu w (w.alloc (.cells #[.bool g, .slice A n1 c] 30)) := (Pu.refl w).alloc _
  have kW : Blk (w.alloc (.cells #[.bool g, .slice A n1 c] 30)) w.heap.size 30 #[.bool g, .slice A n1 c] := Blk.new _ _ _
  have hz := h2.pu pW
  rcases h1 with ⟨rfl, rfl⟩ | ⟨b, g2, A2, n2, c2, m, rfl, rfl, hge, kb, hm⟩
  · have HH := Lib.hid (And.intro hz (And.intro pW kW))
    clear hz h2 hn ho pW kW
    go_enter Tryz.func109, Tryz.ntmps109
    go_wp2_with fail
    go_region
    go_wp2
    go_ret
    exact ⟨_, rfl, .inr ⟨_, g, A, n1, c, n, rfl, rfl, hb _ (Nat.le_refl _), HH.out.2.2.drew, HH.out.1.pu (Pu.refl _).drew⟩, HH.out.2.1.drew⟩
  · have hcmp : ∀ V, Pu (w.alloc (.cells #[.bool g, .slice A n1 c] 30)) V → Calls Tryz.prog 106 #[.agg #[.bool g, .slice A n1 c], .agg #[.bool g2, .slice A2 n2 c2]] V fun e w' => e = .returned (.int .i64 (cmpZ n m)) ∧ Pu V w' := fun V q =>
      cmp_any _ _ n m V (hz.pu q) ((hm.pu pW).pu q) hn (ho m rfl)
    obtain ⟨W, hWe⟩ : ∃ W, W = w.alloc (.cells #[.bool g, .slice A n1 c] 30) := ⟨_, rfl⟩
    rw [← hWe] at hcmp kW pW hz
    have kb2 := kb.pu pW
    have hlt := kb.lt
    have HH := Lib.hid (And.intro hcmp (And.intro hz (hm.pu pW)))
    have HW := Lib.hid hWe
    have d0 : W.cell? ⟨w.heap.size, 0, none⟩ = some (.bool g) := kW.cell 0
    have d1 : W.cell? ⟨w.heap.size, 1, none⟩ = some (.slice A n1 c) := kW.cell 1
    have d2 : W.cell? ⟨b, 0, none⟩ = some (.bool g2) := kb2.cell 0
    have d3 : W.cell? ⟨b, 1, none⟩ = some (.slice A2 n2 c2) := kb2.cell 1
    have hP : Pu W W.drew := (Pu.refl W).drew
    clear hWe h2 hn ho hm kb hcmp hz
    obtain ⟨s, hs, hcase⟩ : ∃ s : Int, cmpZ n m = s ∧ ((s = 1 ∧ n > m) ∨ ((s = 0 ∨ s = -1) ∧ ¬ n > m)) := by
      refine ⟨_, rfl, ?_⟩
      unfold cmpZ
      split
      · exact .inr ⟨.inr rfl, by omega⟩
      · split
        · exact .inl ⟨rfl, by omega⟩
        · exact .inr ⟨.inl rfl, by omega⟩
    rw [hs] at HH
    clear hs
    rcases hcase with ⟨rfl, hnm⟩ | ⟨rfl | rfl, hnm⟩
    all_goals
      have Hnm := Lib.hid hnm
      clear hnm
      go_enter Tryz.func109, Tryz.ntmps109
      go_wp2_with fail
      rw [← HW.out]
      go_region_with (first
        | (go_at_call 106; refine (HH.out.1 _ hP).mono ?_; rintro e u2 ⟨rfl, p9⟩; replace hP := hP.trans p9; replace d0 := hP.cellv d0))
      all_goals
        go_wp2
        go_ret
        first
          | exact ⟨_, rfl, .inr ⟨_, g, A, n1, c, n, rfl, greatM_gt (by have := Hnm.out; omega), hb _ (Nat.le_refl _), kW.pu hP, HH.out.2.1.pu hP⟩, pW.trans hP⟩
          | exact ⟨_, rfl, .inr ⟨_, g2, A2, n2, c2, m, rfl, greatM_le (by have := Hnm.out; omega), hge, kb2.pu hP, HH.out.2.2.pu hP⟩, pW.trans hP⟩
end
section
set_option linter.unusedVariables false
open Go.RowKit
theorem factor_head {k : Key} {z : Int} {fs : List (Key × Int)} (hr : Rise ((k, z) :: fs)) : factor ((k, z) :: fs) k = z := factor_mem hr (List.mem_cons_self ..)
theorem natAbs_neg_up {g : Int} {K : Nat} (h : g.natAbs < K) : (-g).natAbs < K := by omega
set_option maxHeartbeats 3000000 in
set_option maxRecDepth 100000 in
theorem divided_any (v1 v2 : Value) (r g : Int) (k : Key) (z : Int) (fs : List (Key × Int)) (w : World) (h1 : TM w v1 r ((k, z) :: fs)) (h2 : ZR w v2 g) (hg0 : g ≠ 0)
    (hr : r.natAbs < 4294967296 ^ 30000) (hf : ∀ f ∈ (k, z) :: fs, f.2.natAbs < 4294967296 ^ 30000) (hgb : g.natAbs < 4294967296 ^ 30000) (hlen : ((k, z) :: fs).length < 30000) :
    Calls Tryz.prog 103 #[v1, v2] w fun e w' => ∃ g' A n c m, e = .returned (.tuple #[.agg #[.bool g', .slice A n c, .pointer m], .bool (exM r ((k, z) :: fs) (if z < 0 then -g else g))]) ∧ (exM r ((k, z) :: fs) (if z < 0 then -g else g) = true → TMO w' w.heap.size (.agg #[.bool g', .slice A n c, .pointer m]) (r / (if z < 0 then -g else g)) (divM ((k, z) :: fs) (if z < 0 then -g else g))) ∧ Pu w w' := by
  have hrise := h1.rise.1
  have hfac := factor_head hrise
  obtain ⟨g1, A1, n1, c1, m1, rfl⟩ := h1.shape
  obtain ⟨g2, A2, n2, c2, rfl⟩ := h2.shape2
  obtain ⟨W, hWe⟩ : ∃ W, W = ((w.alloc (.cells #[.bool g1, .slice A1 n1 c1, .pointer m1] 33)).alloc (.cells #[.bool g2, .slice A2 n2 c2] 30)).alloc (.cells #[.bool false, .slice none 0 0, .pointer none] 33) := ⟨_, rfl⟩
  have pW : Pu w W := by rw [hWe]; exact (((Pu.refl w).alloc _).alloc _).alloc _
  have k1 : Blk W w.heap.size 33 #[.bool g1, .slice A1 n1 c1, .pointer m1] := by rw [hWe]; exact ((Blk.new w _ _).alloc _).alloc _
  have k2 : Blk W (w.heap.size + 1) 30 #[.bool g2, .slice A2 n2 c2] := by rw [hWe]; exact (Blk.at_new _ _ _ (by simp)).alloc _
  have k3 : Blk W (w.heap.size + 2) 33 #[.bool false, .slice none 0 0, .pointer none] := by rw [hWe]; exact Blk.at_new _ _ _ (by simp)
  have H1 := Lib.hid h1
  have H2 := Lib.hid h2
  have up : ∀ {x : Int}, x.natAbs < 4294967296 ^ 30000 → x.natAbs < 4294967296 ^ 40000 := fun {x} h => up_from (n := x.natAbs) (a := 30000) (b := 40000) h (by decide)
  have hfirst := first_any _ _ _ _ _ _ (h1.pu pW) (up (hf (k, z) (List.mem_cons_self ..))) hfac
  have HH := Lib.hid (And.intro hr (And.intro hf (And.intro hgb hlen)))
  have Hneg := Lib.hid (fun V (p : Pu W V) => neg_any _ g V (h2.pu (pW.trans p)) (up hgb))
  have HWe := Lib.hid hWe
  clear h1 h2 hr hf hgb hlen up hfac hrise
  have tail : ∀ (V : World) (d : Int) (gd : Bool) (Ad : Option Addr) (nd cd : Nat), d ≠ 0 → d.natAbs < 4294967296 ^ 30000 → Pu w V → ZR V (.agg #[.bool gd, .slice Ad nd cd]) d → Calls Tryz.prog 150 #[.agg #[.bool g1, .slice A1 n1 c1, .pointer m1], .agg #[.bool gd, .slice Ad nd cd]] V fun e w' => ∃ g A n' c m code, e = .returned (.tuple #[.agg #[.bool g, .slice A n' c, .pointer m], .int .i64 code]) ∧ (exM r ((k, z) :: fs) d = true → code = 0 ∧ TMO w' V.heap.size (.agg #[.bool g, .slice A n' c, .pointer m]) (r / d) (divM ((k, z) :: fs) d)) ∧ (exM r ((k, z) :: fs) d = false → code = 12) ∧ Pu V w' := fun V d gd Ad nd cd hd hb p hz =>
    tdivide_any _ _ r d _ V (H1.out.pu p) hz hd HH.out.1 HH.out.2.1 hb HH.out.2.2.2
  have Htail := Lib.hid tail
  have Hfirst := Lib.hid hfirst
  rw [hWe] at Hfirst
  clear tail hfirst hWe
  by_cases hz : z < 0
  · have hs : z.sign = -1 := Int.sign_eq_neg_one_of_neg hz
    rw [hs] at Hfirst
    simp only [if_pos hz]
    clear hs hz
    go_enter Tryz.func103, Tryz.ntmps103
    go_wp2_with fail
    refine Hfirst.out.mono ?_
    rintro e w1 ⟨rfl, p1⟩
    rw [← HWe.out] at p1
    have c0 := (k2.pu p1).cell 0
    have c1 := (k2.pu p1).cell 1
    go_wp2_with fail
    refine (Hneg.out _ p1).mono ?_
    rintro e w2 ⟨v3, rfl, h3, p2⟩
    obtain ⟨g3, A3, n3, c3, rfl⟩ := h3.shape2
    have P2 := p1.trans p2
    have n3k := k2.pu P2
    have a0 := n3k.cell 0
    have a1 := n3k.cell 1
    have z0 := n3k.frozen 0
    have z1 := n3k.frozen 1
    obtain ⟨kB, fB⟩ := over_n n3k g3 A3 n3 c3
    obtain ⟨_, _, rz, rp⟩ := store_num n3k g3 A3 n3 c3
    have hz9 := rz _ _ h3
    have hp9 := rp _ (pW.trans P2) (by omega)
    have b0 := kB.cell 0
    have b1 := kB.cell 1
    have q1 := (k1.pu P2).fr fB (by omega)
    have q3 := (k3.pu P2).fr fB (by omega)
    have y0 := q1.cell 0
    have y1 := q1.cell 1
    have y2 := q1.cell 2
    have hdv := Htail.out _ (-g) g3 A3 n3 c3 (by omega) (natAbs_neg_up HH.out.2.2.1) hp9 hz9
    have Hdv := Lib.hid hdv
    have HP9 := Lib.hid hp9
    clear hdv rz rp hz9 kB fB P2 p2 p1 h3 n3k c0 c1
    go_wp2_with fail
    refine Hdv.out.mono ?_
    rintro e w4 ⟨g7, A7, n7, c7, m7, code, rfl, hT, hF, p4⟩
    have s3 := q3.pu p4
    have P4 := HP9.out.trans p4
    have hVs := HP9.out.size
    have s3a := s3.alloc (.cells #[.bool g7, .slice A7 n7 c7, .pointer m7] 33)
    have a0 := s3a.cell 0
    have a1 := s3a.cell 1
    have a2 := s3a.cell 2
    have z0 := s3a.frozen 0
    have z1 := s3a.frozen 1
    have z2 := s3a.frozen 2
    obtain ⟨kB, fB, tB⟩ := over_t s3a g7 A7 n7 c7 m7
    have r0 := kB.cell 0
    have r1 := kB.cell 1
    have r2 := kB.cell 2
    have hPf := (P4.alloc (.cells #[.bool g7, .slice A7 n7 c7, .pointer m7] 33)).step fB (fun j hj => by
      have e' : j = w.heap.size + 2 := hj
      omega)
    cases hx : exM r ((k, z) :: fs) (-g) with
    | false =>
      obtain rfl := hF hx
      have HF := Lib.hid (And.intro hPf hx)
      clear kB fB tB hPf hT hF hx P4 p4 s3 s3a
      go_wp2
      exact bodyPost_ret (v := .tuple #[.agg #[.bool g7, .slice A7 n7 c7, .pointer m7], .bool false]) (by simp [results, Tryz.results103, go_sem, r0, r1, r2]) rfl ⟨_, _, _, _, _, (by rw [HF.out.2]), fun e => (by rw [HF.out.2] at e; cases e), HF.out.1⟩
    | true =>
      obtain ⟨hc0, hT1⟩ := hT hx
      subst hc0
      have hT2 := ((hT1.pu ((Pu.refl _).alloc _)).frT fB (fun j hj => by
        have e' : j = w.heap.size + 2 := hj
        have h7 := q3.lt
        omega) tB).base_ hVs
      have HF := Lib.hid (And.intro hPf (And.intro hT2 hx))
      clear kB fB tB hPf hT2 hT1 hT hF hx P4 p4 s3 s3a
      go_wp2
      exact bodyPost_ret (v := .tuple #[.agg #[.bool g7, .slice A7 n7 c7, .pointer m7], .bool true]) (by simp [results, Tryz.results103, go_sem, r0, r1, r2]) rfl ⟨_, _, _, _, _, (by rw [HF.out.2.2]), fun e => HF.out.2.1, HF.out.1⟩
  · have hs : ∃ σ : Int, z.sign = σ ∧ ¬ (σ < 0) := ⟨_, rfl, by
      rcases Int.lt_or_eq_of_le (Int.not_lt.1 hz) with h | h
      · rw [Int.sign_eq_one_of_pos h]
        omega
      · rw [← h]
        simp⟩
    obtain ⟨σ, hs, hσ⟩ := hs
    rw [hs] at Hfirst
    simp only [if_neg hz]
    clear hs hz
    go_enter Tryz.func103, Tryz.ntmps103
    go_wp2_with fail
    refine Hfirst.out.mono ?_
    rintro e w1 ⟨rfl, p1⟩
    rw [← HWe.out] at p1
    have kB := k2.pu p1
    have b0 := kB.cell 0
    have b1 := kB.cell 1
    have q1 := k1.pu p1
    have q3 := k3.pu p1
    have y0 := q1.cell 0
    have y1 := q1.cell 1
    have y2 := q1.cell 2
    have hp9 := pW.trans p1
    have hdv := Htail.out _ g g2 A2 n2 c2 hg0 HH.out.2.2.1 hp9 (H2.out.pu hp9)
    have Hdv := Lib.hid hdv
    have HP9 := Lib.hid hp9
    clear hdv p1 hp9 kB
    go_wp2_with fail
    refine Hdv.out.mono ?_
    rintro e w4 ⟨g7, A7, n7, c7, m7, code, rfl, hT, hF, p4⟩
    have s3 := q3.pu p4
    have P4 := HP9.out.trans p4
    have hVs := HP9.out.size
    have s3a := s3.alloc (.cells #[.bool g7, .slice A7 n7 c7, .pointer m7] 33)
    have a0 := s3a.cell 0
    have a1 := s3a.cell 1
    have a2 := s3a.cell 2
    have z0 := s3a.frozen 0
    have z1 := s3a.frozen 1
    have z2 := s3a.frozen 2
    obtain ⟨kB, fB, tB⟩ := over_t s3a g7 A7 n7 c7 m7
    have r0 := kB.cell 0
    have r1 := kB.cell 1
    have r2 := kB.cell 2
    have hPf := (P4.alloc (.cells #[.bool g7, .slice A7 n7 c7, .pointer m7] 33)).step fB (fun j hj => by
      have e' : j = w.heap.size + 2 := hj
      omega)
    cases hx : exM r ((k, z) :: fs) g with
    | false =>
      obtain rfl := hF hx
      have HF := Lib.hid (And.intro hPf hx)
      clear kB fB tB hPf hT hF hx P4 p4 s3 s3a
      go_wp2
      exact bodyPost_ret (v := .tuple #[.agg #[.bool g7, .slice A7 n7 c7, .pointer m7], .bool false]) (by simp [results, Tryz.results103, go_sem, r0, r1, r2]) rfl ⟨_, _, _, _, _, (by rw [HF.out.2]), fun e => (by rw [HF.out.2] at e; cases e), HF.out.1⟩
    | true =>
      obtain ⟨hc0, hT1⟩ := hT hx
      subst hc0
      have hT2 := ((hT1.pu ((Pu.refl _).alloc _)).frT fB (fun j hj => by
        have e' : j = w.heap.size + 2 := hj
        have h7 := q3.lt
        omega) tB).base_ hVs
      have HF := Lib.hid (And.intro hPf (And.intro hT2 hx))
      clear kB fB tB hPf hT2 hT1 hT hF hx P4 p4 s3 s3a
      go_wp2
      exact bodyPost_ret (v := .tuple #[.agg #[.bool g7, .slice A7 n7 c7, .pointer m7], .bool true]) (by simp [results, Tryz.results103, go_sem, r0, r1, r2]) rfl ⟨_, _, _, _, _, (by rw [HF.out.2.2]), fun e => HF.out.2.1, HF.out.1⟩
end
section
set_option linter.unusedVariables false
open Go.RowKit
theorem Keep5 {U V : World} {p0 p1 p2 p3 p4 : Addr} {v0 v1 v2 v3 v4 : Value} (h0 : U.cell? p0 = some v0) (h1 : U.cell? p1 = some v1) (h2 : U.cell? p2 = some v2) (h3 : U.cell? p3 = some v3) (h4 : U.cell? p4 = some v4) (p : Pu U V) :
    V.cell? p0 = some v0 ∧ V.cell? p1 = some v1 ∧ V.cell? p2 = some v2 ∧ V.cell? p3 = some v3 ∧ V.cell? p4 = some v4 := ⟨p.cellv h0, p.cellv h1, p.cellv h2, p.cellv h3, p.cellv h4⟩
theorem Keep32 {U V : World} {b b' c : Nat} {v0 v1 v2 v3 v4 : Value} (h0 : U.cell? ⟨b, 0, none⟩ = some v0) (h1 : U.cell? ⟨b, 1, none⟩ = some v1) (h2 : U.cell? ⟨b, 2, none⟩ = some v2) (h3 : U.cell? ⟨b', 0, none⟩ = some v3) (h4 : U.cell? ⟨b', 1, none⟩ = some v4) (p : Pu U V) (x y z : Value) (n0 : b ≠ c) (n1 : b' ≠ c) :
    (((V.setCell ⟨c, 0, none⟩ x).setCell ⟨c, 1, none⟩ y).setCell ⟨c, 2, none⟩ z).cell? ⟨b, 0, none⟩ = some v0 ∧ (((V.setCell ⟨c, 0, none⟩ x).setCell ⟨c, 1, none⟩ y).setCell ⟨c, 2, none⟩ z).cell? ⟨b, 1, none⟩ = some v1 ∧ (((V.setCell ⟨c, 0, none⟩ x).setCell ⟨c, 1, none⟩ y).setCell ⟨c, 2, none⟩ z).cell? ⟨b, 2, none⟩ = some v2 ∧ (((V.setCell ⟨c, 0, none⟩ x).setCell ⟨c, 1, none⟩ y).setCell ⟨c, 2, none⟩ z).cell? ⟨b', 0, none⟩ = some v3 ∧ (((V.setCell ⟨c, 0, none⟩ x).setCell ⟨c, 1, none⟩ y).setCell ⟨c, 2, none⟩ z).cell? ⟨b', 1, none⟩ = some v4 := by
  have hf : Fr (fun j => j = c) U (((V.setCell ⟨c, 0, none⟩ x).setCell ⟨c, 1, none⟩ y).setCell ⟨c, 2, none⟩ z) := ((Pu.fr p (S := fun j => j = c)).trans (Fr.one V c 0 x)).trans (Fr.one _ c 1 y) |>.trans (Fr.one _ c 2 z)
  exact ⟨hf.cellv h0 n0, hf.cellv h1 n0, hf.cellv h2 n0, hf.cellv h3 n1, hf.cellv h4 n1⟩
theorem ediv_abs {g : Int} (hg : 0 < g) (a : Int) : (a / g).natAbs ≤ a.natAbs := by
  have h1 := Int.mul_ediv_add_emod a g
  have h2 := Int.emod_nonneg a (show g ≠ 0 by omega)
  have h3 := Int.emod_lt_of_pos a hg
  rcases Int.lt_or_le a 0 with h | h
  · have h4 : a ≤ a / g := by
      rcases Int.lt_or_le (a / g) a with c | c
      · have : g * (a / g) ≤ g * (a - 1) := Int.mul_le_mul_of_nonneg_left (by omega) (by omega)
        have h5 : g * (a - 1) = g * a - g := by rw [Int.mul_sub, Int.mul_one]
        have h6 : g * a ≤ 1 * a := Int.mul_le_mul_of_nonpos_right (by omega) (by omega)
        omega
      · exact c
    have h5 : a / g < 0 := Int.ediv_neg_of_neg_of_pos h hg
    omega
  · have h4 : 0 ≤ a / g := Int.ediv_nonneg h (by omega)
    have h5 : a / g ≤ a := Int.ediv_le_self g h
    omega
theorem divM_upto {K : Nat} {fs : List (Key × Int)} {g : Int} (hg : 0 < g) (h : Upto K fs) : Upto K (divM fs g) := by
  intro f hf
  obtain ⟨q, hq, rfl⟩ := List.mem_map.1 hf
  exact Nat.le_trans (ediv_abs hg q.2) (h q hq)
theorem divM_len (fs : List (Key × Int)) (g : Int) : (divM fs g).length = fs.length := by simp [divM]
theorem exM_all {fs : List (Key × Int)} {g : Int} (h : ∀ f ∈ fs, f.2 % g = 0) : exM 0 fs g = true := by
  simp [exM]
  exact fun a b hf => h (a, b) hf
structure LiesV (u V : World) (P : Nat) (g : Bool) (A : Option Addr) (n c : Nat) (m : Option Addr) (base : Nat) (r : Int) (fs : List (Key × Int)) : Prop where
  blk : Blk V P 33 #[.bool g, .slice A n c, .pointer m]
  tm : TMO V base (.agg #[.bool g, .slice A n c, .pointer m]) r fs
  pu : Pu u V
  ge : u.heap.size ≤ P
theorem liesV_new {u v : World} {g : Bool} {A : Option Addr} {n c : Nat} {m : Option Addr} {base : Nat} {r : Int} {fs : List (Key × Int)} (hP : Pu u v) (ht : TMO v base (.agg #[.bool g, .slice A n c, .pointer m]) r fs) : LiesV u (v.alloc (.cells #[.bool g, .slice A n c, .pointer m] 33)) v.heap.size g A n c m base r fs :=
  ⟨Blk.new _ _ _, ht.pu ((Pu.refl _).alloc _), hP.alloc _, hP.size⟩
theorem liesV_old {u v : World} {g : Bool} {A : Option Addr} {n c : Nat} {m : Option Addr} {base a : Nat} {r : Int} {fs : List (Key × Int)} (hP : Pu u v) (ht : TMO v base (.agg #[.bool g, .slice A n c, .pointer m]) r fs) (k : Blk v a 33 #[.bool false, .slice none 0 0, .pointer none]) (ha : u.heap.size ≤ a) (hb : a < base) : LiesV u (((v.setCell ⟨a, 0, none⟩ (.bool g)).setCell ⟨a, 1, none⟩ (.slice A n c)).setCell ⟨a, 2, none⟩ (.pointer m)) a g A n c m base r fs := by
  obtain ⟨kB, fB, tB⟩ := over_t k g A n c m
  exact ⟨kB, ht.frT fB (fun i e => by
    have e' : i = a := e
    omega) tB, hP.step fB (fun i e => by
    have e' : i = a := e
    omega), ha⟩
def HT (w : World) (P : Nat) : Prop := ∃ cs fz, w.heap[P]? = some (.cells cs 30 fz)
theorem HT.blk {w : World} {P : Nat} {cs : Array Value} (k : Blk w P 30 cs) : HT w P := ⟨_, _, k⟩
theorem HT.alloc {w : World} {P : Nat} (h : HT w P) (o : Obj) : HT (w.alloc o) P := by
  obtain ⟨cs, fz, h⟩ := h
  exact ⟨cs, fz, (Below.heap_alloc w o P (Array.getElem?_eq_some_iff.1 h).1).trans h⟩
theorem HT.set {w : World} {P : Nat} (h : HT w P) (p : Addr) (u : Value) : HT (w.setCell p u) P := by
  obtain ⟨cs, fz, h⟩ := h
  unfold HT
  by_cases e : P = p.block
  · subst e
    simp [World.setCell, Array.getElem?_modify, h]
  · exact ⟨cs, fz, (Below.heap_setCell w p u P e).trans h⟩
theorem ZR.put {w : World} {v : Value} {z : Int} (h : ZR w v z) {P : Nat} (k : HT w P) (i : Nat) (u : Value) : ZR (w.setCell ⟨P, i, none⟩ u) v z :=
  h.frT (Fr.one w P i u) (fun g hg => by
    subst hg
    obtain ⟨cs, fz, e⟩ := k
    exact ⟨_, cs, fz, e, by decide⟩)
theorem blk_over0 {W : World} {b : Nat} (g : Bool) (A : Option Addr) (n c : Nat) (k : Blk W b 30 #[.bool false, .slice none 0 0]) : Blk ((W.setCell ⟨b, 0, none⟩ (.bool g)).setCell ⟨b, 1, none⟩ (.slice A n c)) b 30 #[.bool g, .slice A n c] := (over_n k g A n c).1
theorem size_set2 (w : World) (p q : Addr) (x y : Value) : w.heap.size = ((w.setCell p x).setCell q y).heap.size := by simp [World.setCell]
theorem size_alloc2 (w : World) (o : Obj) : w.heap.size + 1 = (w.alloc o).heap.size := by simp
set_option maxHeartbeats 16000000 in
set_option maxRecDepth 100000 in
theorem reduced_any (v1 v2 : Value) (r g : Int) (fs : List (Key × Int)) (K : Nat) (w : World) (h1 : TM w v1 r fs) (h2 : ZR w v2 g) (hg0 : 0 < g) (hdiv : ∀ f ∈ fs, f.2 % g = 0)
    (hK : Upto K fs) (hbig : K + 1100000 * K < 4294967296 ^ 30000) (hr : r.natAbs < 4294967296 ^ 30000) (hgb : g.natAbs < 4294967296 ^ 30000) (hlen : fs.length < 30000) :
    Calls Tryz.prog 107 #[v1, v2] w fun e w' => ∃ v, e = .returned v ∧ TMO w' w.heap.size v (-((-r) / g)) (divM fs g) ∧ Pu w w' := by
  obtain ⟨g1, A1, n1, c1, m1, rfl⟩ := h1.shape
  obtain ⟨g2, A2, n2, c2, rfl⟩ := h2.shape2
  obtain ⟨W, hWe⟩ : ∃ W, W = ((w.alloc (.cells #[.bool g1, .slice A1 n1 c1, .pointer m1] 33)).alloc (.cells #[.bool g2, .slice A2 n2 c2] 30)).alloc (.cells #[.bool false, .slice none 0 0, .pointer none] 33) := ⟨_, rfl⟩
  have pW : Pu w W := by rw [hWe]; exact (((Pu.refl w).alloc _).alloc _).alloc _
  have k1 : Blk W w.heap.size 33 #[.bool g1, .slice A1 n1 c1, .pointer m1] := by rw [hWe]; exact ((Blk.new w _ _).alloc _).alloc _
  have k2 : Blk W (w.heap.size + 1) 30 #[.bool g2, .slice A2 n2 c2] := by rw [hWe]; exact (Blk.at_new _ _ _ (by simp)).alloc _
  have k3 : Blk W (w.heap.size + 2) 33 #[.bool false, .slice none 0 0, .pointer none] := by rw [hWe]; exact Blk.at_new _ _ _ (by simp)
  have H1 := Lib.hid (h1.pu pW)
  have H2 := Lib.hid (h2.pu pW)
  have up : ∀ {x : Int}, x.natAbs < 4294967296 ^ 30000 → x.natAbs < 4294967296 ^ 40000 := fun {x} h => up_from (n := x.natAbs) (a := 30000) (b := 40000) h (by decide)
  have up0 : (0 : Int).natAbs < 4294967296 ^ 30000 := up_zero
  have hf9 : ∀ f ∈ fs, f.2.natAbs < 4294967296 ^ 30000 := fun f hf => Nat.lt_of_le_of_lt (Nat.le_trans (hK f hf) (Nat.le_add_right _ _)) hbig
  have hq9 : ((-r) / g).natAbs < 4294967296 ^ 30000 := Nat.lt_of_le_of_lt (ediv_abs hg0 (-r)) (by rw [Int.natAbs_neg]; exact hr)
  have Hbare := Lib.hid (fun V (p : Pu W V) => bare_any _ r fs K V ((h1.pu pW).pu p) hK hlen (by
    rw [Nat.add_comm] at hbig
    rw [Nat.add_comm]
    exact hbig) hr)
  have Hdiv := Lib.hid (fun V v (p : Pu W V) (ht : TM V v 0 fs) => tdivide_any v _ 0 g fs V ht ((h2.pu pW).pu p) (show g ≠ 0 by omega) up0 hf9 hgb hlen)
  have Hrest := Lib.hid (fun V (p : Pu W V) => trest_any _ r fs V ((h1.pu pW).pu p))
  have Hneg := Lib.hid (fun V v (hz : ZR V v r) => neg_any v r V hz (up hr))
  have Hdm := Lib.hid (fun V v (p : Pu W V) (hz : ZR V v (-r)) => divmod_any v _ (-r) g V hz ((h2.pu pW).pu p) (up (by rw [Int.natAbs_neg]; exact hr)) (up hgb) (show g ≠ 0 by omega) (div_ok _ _ (by omega)))
  have Hneg2 := Lib.hid (fun V v (hz : ZR V v ((-r) / g)) => neg_any v ((-r) / g) V hz (up hq9))
  have Hplus := Lib.hid (fun V (v1 : Value) (a : Nat) (gx : Bool) (Ax : Option Addr) (nx cx : Nat) (mx : Option Addr) (ht : TM V v1 0 (divM fs g)) (ka : Blk V a 33 #[.bool gx, .slice Ax nx cx, .pointer mx]) (hx : TM V (.agg #[.bool gx, .slice Ax nx cx, .pointer mx]) (-((-r) / g)) []) =>
    tplus_any v1 0 (-((-r) / g)) (divM fs g) [] K 0 V a gx Ax nx cx mx ht ka hx (divM_upto hg0 hK) (Upto.nil 0) (by rw [divM_len]; simpa using hlen) (by
      rw [Nat.mul_zero, Nat.add_zero]
      exact Nat.lt_of_le_of_lt (Nat.le_add_right _ _) hbig) up0 (by rw [Int.natAbs_neg]; exact hq9))
  have Hex := Lib.hid (exM_all hdiv)
  have HWe := Lib.hid hWe
  have hszW : w.heap.size + 3 ≤ W.heap.size := by rw [hWe]; simp
  clear hWe h1 h2 up up0 hf9 hq9 hK hbig hr hgb hlen hdiv
  go_enter Tryz.func107, Tryz.ntmps107
  go_wp2_with fail
  rw [← HWe.out]
  rename_i K1 hK1
  have key1 : ∀ (x0 x1 x6 x7 x8 x9 x10 x11 x12 x13 x14 x15 x16 x17 x18 x19 x20 x21 x22 x23 x24 x25 x26 x27 x28 x29 x30 x31 : Value) (P : Nat) (gp : Bool) (Ap : Option Addr) (np cp : Nat) (mp : Option Addr) (base : Nat) (U Z : World), Pu W U → LiesV U Z P gp Ap np cp mp base 0 (divM fs g) → w.heap.size ≤ base → K1 { tmps := #[x0, x1, .pointer (some ⟨w.heap.size, 0, none⟩), .pointer (some ⟨w.heap.size + 1, 0, none⟩), .pointer (some ⟨w.heap.size + 2, 0, none⟩), .pointer (some ⟨P, 0, none⟩), x6, x7, x8, x9, x10, x11, x12, x13, x14, x15, x16, x17, x18, x19, x20, x21, x22, x23, x24, x25, x26, x27, x28, x29, x30, x31], defers := [] } Z := by
    intro x0 x1 x6 x7 x8 x9 x10 x11 x12 x13 x14 x15 x16 x17 x18 x19 x20 x21 x22 x23 x24 x25 x26 x27 x28 x29 x30 x31 P gp Ap np cp mp base U Z pU hL hbs
    refine hK1 _ _ ?_
    have PZ := pU.trans hL.pu
    have d0 : Z.cell? ⟨w.heap.size, 0, none⟩ = some (.bool g1) := (k1.pu PZ).cell 0
    have d1 : Z.cell? ⟨w.heap.size, 1, none⟩ = some (.slice A1 n1 c1) := (k1.pu PZ).cell 1
    have d2 : Z.cell? ⟨w.heap.size, 2, none⟩ = some (.pointer m1) := (k1.pu PZ).cell 2
    have d3 : Z.cell? ⟨w.heap.size + 1, 0, none⟩ = some (.bool g2) := (k2.pu PZ).cell 0
    have d4 : Z.cell? ⟨w.heap.size + 1, 1, none⟩ = some (.slice A2 n2 c2) := (k2.pu PZ).cell 1
    have hP : Pu Z Z.drew := (Pu.refl Z).drew
    go_wp2_with fail
    rename_i K2 hK2
    have key2 : ∀ (x0 x1 x2 x3 x6 x8 x9 x10 x11 x12 x13 x14 x15 x16 x17 x18 x19 x20 x21 x22 x23 x24 x25 x26 x27 x28 x29 x30 x31 : Value) (Q : Nat) (gq : Bool) (Aq : Option Addr) (nq cq : Nat) (F : World), Pu Z F → Blk F Q 30 #[.bool gq, .slice Aq nq cq] → ZR F (.agg #[.bool gq, .slice Aq nq cq]) ((-r) / g) → K2 { tmps := #[x0, x1, x2, x3, .pointer (some ⟨w.heap.size + 2, 0, none⟩), .pointer (some ⟨P, 0, none⟩), x6, .pointer (some ⟨Q, 0, none⟩), x8, x9, x10, x11, x12, x13, x14, x15, x16, x17, x18, x19, x20, x21, x22, x23, x24, x25, x26, x27, x28, x29, x30, x31], defers := [] } F := by
      intro x0 x1 x2 x3 x6 x8 x9 x10 x11 x12 x13 x14 x15 x16 x17 x18 x19 x20 x21 x22 x23 x24 x25 x26 x27 x28 x29 x30 x31 Q gq Aq nq cq F pF kQ hq
      refine hK2 _ _ ?_
      clear d0 d1 d2 d3 d4 hP hK2
      have kP := hL.blk.pu pF
      have hT := hL.tm.pu pF
      have hPF : Pu W F := PZ.trans pF
      have j3 := k3.pu hPF
      have d0 : F.cell? ⟨P, 0, none⟩ = some (.bool gp) := kP.cell 0
      have d1 : F.cell? ⟨P, 1, none⟩ = some (.slice Ap np cp) := kP.cell 1
      have d2 : F.cell? ⟨P, 2, none⟩ = some (.pointer mp) := kP.cell 2
      have d3 : F.cell? ⟨Q, 0, none⟩ = some (.bool gq) := kQ.cell 0
      have d4 : F.cell? ⟨Q, 1, none⟩ = some (.slice Aq nq cq) := kQ.cell 1
      have hP : Pu F F.drew := (Pu.refl F).drew
      have hQc : Q ≠ w.heap.size + 2 := kQ.ne_ j3 (by decide)
      have hPc : P ≠ w.heap.size + 2 := by
        have := hL.ge
        have := pU.size
        omega
      go_wp2_with fail
      go_region_held3 (fun t => t.cell? ⟨P, 0, none⟩ = some (.bool gp) ∧ t.cell? ⟨P, 1, none⟩ = some (.slice Ap np cp) ∧ t.cell? ⟨P, 2, none⟩ = some (.pointer mp) ∧ t.cell? ⟨Q, 0, none⟩ = some (.bool gq) ∧ t.cell? ⟨Q, 1, none⟩ = some (.slice Aq nq cq))
        (first | with_reducible exact Keep32 d0 d1 d2 d3 d4 hP _ _ _ hPc hQc | exact Keep5 d0 d1 d2 d3 d4 (by repeat' (first | with_reducible exact hP | with_reducible exact Pu.refl _ | with_reducible refine Pu.drew ?_ | with_reducible refine Pu.alloc ?_ _ | with_reducible refine Pu.setCell ?_ ?_ _ | (dsimp only; omega))) | go_keep)
        (first
        | (go_at_call 84; refine (Hneg2.out _ _ (hq.pu hP)).mono ?_; rintro e u2 ⟨v5, rfl, h5, p9⟩; replace hP := hP.trans p9; have z12 := hP.size; obtain ⟨g5, A5, m5, c5, rfl⟩ := h5.shape2)
        | (go_at_call 32; refine (tnum_any _ _ _ h5).mono ?_; rintro e u3 ⟨v6, rfl, h6, p10⟩; replace hP := hP.trans p10; have z13 := hP.size; obtain ⟨g6, A6, m6, c6, q6, rfl⟩ := h6.shape)
        | (go_at_call 31; refine (Hplus.out _ _ u3.heap.size g6 A6 m6 c6 q6 ((hT.pu (hP.alloc _)).tm) (Blk.new _ _ _) (h6.pu ((Pu.refl _).alloc _))).mono ?_; rintro e u4 ⟨v7, rfl, h7, p11⟩; replace hP := (hP.alloc _).trans p11; obtain ⟨g7, A7, m7, c7, q7, rfl⟩ := h7.tm.shape; have l4' := j3.pu hP; have ka0 := l4'.cell 0; have ka1 := l4'.cell 1; have ka2 := l4'.cell 2; have kf0 := l4'.frozen 0; have kf1 := l4'.frozen 1; have kf2 := l4'.frozen 2))
      all_goals
        obtain ⟨kB, fB, tB⟩ := over_t l4' g7 A7 m7 c7 q7
        have hsz3 := hPF.size
        have h8 := (h7.frT fB (fun i e => by
          have e' : i = w.heap.size + 2 := e
          simp
          omega) tB).base_ (base' := w.heap.size) (by simp; omega)
        have p8 := (pW.trans (hPF.trans hP)).step fB (fun i e => by
          have e' : i = w.heap.size + 2 := e
          omega)
        have r0' := kB.cell 0
        have r1' := kB.cell 1
        have r2' := kB.cell 2
        have e8 : (0 : Int) + (-((-r) / g)) * 1 = -((-r) / g) := by omega
        rw [e8] at h8
        have H8 := Lib.hid (And.intro h8 p8)
        clear kB fB tB h7 h8 p8 l4' e8
        go_wp2
        exact bodyPost_ret (v := .agg #[.bool g7, .slice A7 m7 c7, .pointer q7]) (by simp [results, Tryz.results107, go_sem, r0', r1', r2']) rfl ⟨_, rfl, H8.out.1, H8.out.2⟩
    go_region_held3 (fun t => t.cell? ⟨w.heap.size, 0, none⟩ = some (.bool g1) ∧ t.cell? ⟨w.heap.size, 1, none⟩ = some (.slice A1 n1 c1) ∧ t.cell? ⟨w.heap.size, 2, none⟩ = some (.pointer m1) ∧ t.cell? ⟨w.heap.size + 1, 0, none⟩ = some (.bool g2) ∧ t.cell? ⟨w.heap.size + 1, 1, none⟩ = some (.slice A2 n2 c2))
        (first | exact Keep5 d0 d1 d2 d3 d4 (by repeat' (first | with_reducible exact hP | with_reducible exact Pu.refl _ | with_reducible refine Pu.drew ?_ | with_reducible refine Pu.alloc ?_ _ | with_reducible refine Pu.setCell ?_ ?_ _ | (dsimp only; omega))) | go_keep)
        (first
          | (go_at_call 68; refine (Hrest.out _ (PZ.trans (by with_reducible first | exact hP | exact hP.alloc _ | exact (hP.alloc _).alloc _ | exact Pu.drew (Pu.alloc (Pu.refl _) _) | exact Pu.drew (Pu.alloc (Pu.alloc (Pu.refl _) _) _)))).mono ?_; rintro e u2 ⟨v5, rfl, h5, p9⟩; with_reducible (first | (have bA := ((Blk.new Z 30 #[.bool false, .slice none 0 0]).alloc _).drew.pu p9; have bB := (Blk.at_new (Z.alloc _) 30 #[.bool false, .slice none 0 0] (k := Z.heap.size + 1) (size_alloc2 _ _)).drew.pu p9) | (have bA := (Blk.new Z 30 #[.bool false, .slice none 0 0]).drew.pu p9) | skip); replace hP := Pu.trans (a := Z) (by with_reducible first | exact hP | exact hP.alloc _ | exact (hP.alloc _).alloc _ | exact Pu.drew (Pu.alloc (Pu.refl _) _) | exact Pu.drew (Pu.alloc (Pu.alloc (Pu.refl _) _) _)) p9; have z12 := hP.size; obtain ⟨g5, A5, m5, c5, rfl⟩ := h5.shape2; (try clear ka0 ka1 kf0 kf1); (try clear kb0 kb1 kg0 kg1); (try clear lA); (try clear lB); (try (have lA := bA.lt; have hA4 := Nat.ne_of_lt lA; have ka0 := bA.cell 0; have ka1 := bA.cell 1; have kf0 := bA.frozen 0; have kf1 := bA.frozen 1)); (try (have lB := bB.lt; have kb0 := bB.cell 0; have kb1 := bB.cell 1; have kg0 := bB.frozen 0; have kg1 := bB.frozen 1)))
          | (go_at_call 84; refine (Hneg.out _ _ (h5.pu (by with_reducible first | exact Pu.refl _ | exact (Pu.refl _).alloc _ | exact ((Pu.refl _).alloc _).alloc _))).mono ?_; rintro e u3 ⟨v6, rfl, h6, p10⟩; with_reducible (first | (replace bB := bB.pu p10; replace bA := bA.pu p10) | (have bB := (Blk.new u2 30 #[.bool false, .slice none 0 0]).pu p10; have hAB := Nat.ne_of_lt bA.lt; have hBA := Ne.symm hAB; replace bA := (bA.alloc _).pu p10) | (replace bA := bA.pu p10) | (have bA := ((Blk.new u2 30 #[.bool false, .slice none 0 0]).alloc _).pu p10; have bB := (Blk.at_new (u2.alloc _) 30 #[.bool false, .slice none 0 0] (k := u2.heap.size + 1) (size_alloc2 _ _)).pu p10) | (have bA := (Blk.new u2 30 #[.bool false, .slice none 0 0]).pu p10) | skip); replace hP := Pu.trans (a := Z) (by with_reducible first | exact hP | exact hP.alloc _ | exact (hP.alloc _).alloc _ | exact Pu.drew (Pu.alloc (Pu.refl _) _) | exact Pu.drew (Pu.alloc (Pu.alloc (Pu.refl _) _) _)) p10; have z13 := hP.size; obtain ⟨g6, A6, m6, c6, rfl⟩ := h6.shape2; (try clear ka0 ka1 kf0 kf1); (try clear kb0 kb1 kg0 kg1); (try clear lA); (try clear lB); (try (have lA := bA.lt; have hA4 := Nat.ne_of_lt lA; have ka0 := bA.cell 0; have ka1 := bA.cell 1; have kf0 := bA.frozen 0; have kf1 := bA.frozen 1)); (try (have lB := bB.lt; have kb0 := bB.cell 0; have kb1 := bB.cell 1; have kg0 := bB.frozen 0; have kg1 := bB.frozen 1)))
          | (go_at_call 154; refine (Hdm.out _ _ (PZ.trans (by with_reducible first | exact hP | exact hP.alloc _ | exact (hP.alloc _).alloc _ | exact Pu.drew (Pu.alloc (Pu.refl _) _) | exact Pu.drew (Pu.alloc (Pu.alloc (Pu.refl _) _) _))) (h6.pu (by with_reducible first | exact Pu.refl _ | exact (Pu.refl _).alloc _ | exact ((Pu.refl _).alloc _).alloc _))).mono ?_; rintro e u4 ⟨v7, v8, rfl, h7, h8, p11⟩; with_reducible (first | (replace bB := bB.pu p11; replace bA := bA.pu p11) | (have bB := (Blk.new u3 30 #[.bool false, .slice none 0 0]).pu p11; have hAB := Nat.ne_of_lt bA.lt; have hBA := Ne.symm hAB; replace bA := (bA.alloc _).pu p11) | (replace bA := bA.pu p11) | (have bA := ((Blk.new u3 30 #[.bool false, .slice none 0 0]).alloc _).pu p11; have bB := (Blk.at_new (u3.alloc _) 30 #[.bool false, .slice none 0 0] (k := u3.heap.size + 1) (size_alloc2 _ _)).pu p11) | (have bA := (Blk.new u3 30 #[.bool false, .slice none 0 0]).pu p11) | skip); replace hP := Pu.trans (a := Z) (by with_reducible first | exact hP | exact hP.alloc _ | exact (hP.alloc _).alloc _ | exact Pu.drew (Pu.alloc (Pu.refl _) _) | exact Pu.drew (Pu.alloc (Pu.alloc (Pu.refl _) _) _)) p11; have z14 := hP.size; obtain ⟨g7, A7, m7, c7, rfl⟩ := h7.shape2; obtain ⟨g8, A8, m8, c8, rfl⟩ := h8.shape2; (try clear ka0 ka1 kf0 kf1); (try clear kb0 kb1 kg0 kg1); (try clear lA); (try clear lB); (try (have lA := bA.lt; have hA4 := Nat.ne_of_lt lA; have ka0 := bA.cell 0; have ka1 := bA.cell 1; have kf0 := bA.frozen 0; have kf1 := bA.frozen 1)); (try (have lB := bB.lt; have kb0 := bB.cell 0; have kb1 := bB.cell 1; have kg0 := bB.frozen 0; have kg1 := bB.frozen 1))))
    all_goals
      refine key2 _ _ _ _ _ _ _ _ _ _ _ _ _ _ _ _ _ _ _ _ _ _ _ _ _ _ _ _ _ _ g7 A7 m7 c7 _ ?_ ?_ ?_
      · (repeat' (first | with_reducible exact hP | with_reducible refine Pu.alloc ?_ _ | with_reducible refine Pu.setCell ?_ ?_ _ | (dsimp only; omega)))
      · (repeat' (first | with_reducible exact Blk.new _ _ _ | with_reducible exact Blk.at_new _ _ _ (size_alloc2 _ _) | with_reducible exact Blk.at_new _ _ _ (size_set2 _ _ _ _ _) | with_reducible refine blk_over0 g7 A7 m7 c7 ?_ | with_reducible exact bA | with_reducible exact bB | with_reducible refine Blk.far ?_ (by dsimp only; omega) _ | with_reducible refine Blk.alloc ?_ _))
      · (repeat' (first | with_reducible exact h7 | with_reducible refine ZR.put ?_ ?_ _ _ | with_reducible refine ZR.pu ?_ ((Pu.refl _).alloc _) | with_reducible exact HT.blk bA | with_reducible exact HT.blk bB | with_reducible exact HT.blk (Blk.new _ _ _) | with_reducible exact HT.blk (Blk.at_new _ _ _ (size_alloc2 _ _)) | with_reducible refine HT.set ?_ _ _ | with_reducible refine HT.alloc ?_ _))
  have d0 : W.cell? ⟨w.heap.size, 0, none⟩ = some (.bool g1) := k1.cell 0
  have d1 : W.cell? ⟨w.heap.size, 1, none⟩ = some (.slice A1 n1 c1) := k1.cell 1
  have d2 : W.cell? ⟨w.heap.size, 2, none⟩ = some (.pointer m1) := k1.cell 2
  have d3 : W.cell? ⟨w.heap.size + 1, 0, none⟩ = some (.bool g2) := k2.cell 0
  have d4 : W.cell? ⟨w.heap.size + 1, 1, none⟩ = some (.slice A2 n2 c2) := k2.cell 1
  have hP : Pu W W.drew := (Pu.refl W).drew
  clear hK1
  go_region_held3 (fun t => t.cell? ⟨w.heap.size, 0, none⟩ = some (.bool g1) ∧ t.cell? ⟨w.heap.size, 1, none⟩ = some (.slice A1 n1 c1) ∧ t.cell? ⟨w.heap.size, 2, none⟩ = some (.pointer m1) ∧ t.cell? ⟨w.heap.size + 1, 0, none⟩ = some (.bool g2) ∧ t.cell? ⟨w.heap.size + 1, 1, none⟩ = some (.slice A2 n2 c2))
    (first | exact Keep5 d0 d1 d2 d3 d4 (by repeat' (first | with_reducible exact hP | with_reducible exact Pu.refl _ | with_reducible refine Pu.drew ?_ | with_reducible refine Pu.alloc ?_ _ | with_reducible refine Pu.setCell ?_ ?_ _ | (dsimp only; omega))) | go_keep)
    (first
      | (go_at_call 105; refine (Hbare.out _ (by with_reducible first | exact hP | exact Pu.drew (Pu.alloc (Pu.refl _) _))).mono ?_; rintro e u2 ⟨v5, rfl, h5, p9⟩; with_reducible (first | (have bA := (Blk.new W 33 #[.bool false, .slice none 0 0, .pointer none]).drew.pu p9) | skip); replace hP := Pu.trans (a := W) (by with_reducible first | exact hP | exact Pu.drew (Pu.alloc (Pu.refl _) _)) p9; have z12 := hP.size; obtain ⟨g5, A5, m5, c5, q5, rfl⟩ := h5.tm.shape; have h5t := h5.tm; rw [show r + r * (-1) = (0 : Int) by omega] at h5t; (try (have lA := bA.lt; have ka0 := bA.cell 0; have ka1 := bA.cell 1; have ka2 := bA.cell 2; have kf0 := bA.frozen 0; have kf1 := bA.frozen 1; have kf2 := bA.frozen 2)))
      | (go_at_call 150; refine (Hdiv.out _ _ (by with_reducible first | exact hP | exact hP.alloc _) (h5t.pu (by with_reducible first | exact Pu.refl _ | exact (Pu.refl _).alloc _))).mono ?_; rintro e u3 ⟨g6, A6, m6, c6, q6, code, rfl, hT6, hF6, p10⟩; obtain ⟨hc6, hT7⟩ := hT6 Hex.out; subst hc6; rw [Int.zero_ediv] at hT7; have hlb := Nat.le_refl u3.heap.size; with_reducible (first | (have hlA := bA.lt; replace bA := bA.pu p10) | (have hlA := Nat.lt_succ_self u2.heap.size; have bA := (Blk.new u2 33 #[.bool false, .slice none 0 0, .pointer none]).pu p10) | skip); replace hP := Pu.trans (a := W) (by with_reducible first | exact hP | exact hP.alloc _) p10; have z13 := hP.size; (try clear ka0 ka1 ka2 kf0 kf1 kf2); (try clear lA); (try (have lA := bA.lt; have ka0 := bA.cell 0; have ka1 := bA.cell 1; have ka2 := bA.cell 2; have kf0 := bA.frozen 0; have kf1 := bA.frozen 1; have kf2 := bA.frozen 2))))
  all_goals
    first
      | have HS := liesV_old hP hT7 bA (by first | exact Nat.le_refl _ | omega) (by first | exact hlA | (simp; omega) | simp)
      | have HS := liesV_new hP hT7
    exact key1 _ _ _ _ _ _ _ _ _ _ _ _ _ _ _ _ _ _ _ _ _ _ _ _ _ _ _ _ _ _ _ _ _ _ _ W _ (Pu.refl W) HS (by first | omega | (simp; omega))
end
end Go.Proofs.YtckfnbckoclhpaaGreatDoor
