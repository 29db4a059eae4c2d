/- Rows: most learns that a term is at most 0. Rows: bound (printed by mkbound.py). Rows: learn learns a row (printed by mklearn.py). -/
import Derived.Test.YtckfnbckoclhpaaGreatDoorE18
import Derived.Deep.RegionHeld3
import Derived.Test.YtckfnbckoclhpaaGreatDoorC07
import Derived.Test.YtckfnbckoclhpaaGreatDoorE14
namespace Go.Proofs.YtckfnbckoclhpaaGreatDoor
section
set_option linter.unusedVariables false
open Go.RowKit
theorem mulM_upto {K : Nat} {fs : List (Key × Int)} (h : Upto K fs) : Upto K (mulM fs (-1)) := by
  intro f hf
  obtain ⟨q, hq, rfl⟩ := List.mem_map.1 hf
  have := h q hq
  dsimp only
  omega
theorem mulM_len (fs : List (Key × Int)) (g : Int) : (mulM fs g).length = fs.length := by simp [mulM]
theorem ediv_pos_exact {z g : Int} (hg : 0 < g) (h : z % g = 0) : (0 < z / g ↔ 0 < z) ∧ (z / g = 0 ↔ z = 0) := by
  have h1 : g * (z / g) = z := Int.mul_ediv_cancel' (Int.dvd_of_emod_eq_zero h)
  refine ⟨⟨fun h2 => ?_, fun h2 => ?_⟩, ⟨fun h2 => ?_, fun h2 => ?_⟩⟩
  · rw [← h1]
    exact Int.mul_pos hg h2
  · rcases Int.lt_or_le 0 (z / g) with c | c
    · exact c
    · have : g * (z / g) ≤ 0 := Int.mul_nonpos_of_nonneg_of_nonpos (by omega) c
      omega
  · rw [h2, Int.mul_zero] at h1
    exact h1.symm
  · rw [h2]
    exact Int.zero_ediv g
set_option maxHeartbeats 16000000 in
set_option maxRecDepth 100000 in
theorem tmost_any (base tb mb : Nat) (ok : Bool) (r : Option Nat) (L : List (Key × Nat)) (ps : List (Key × Pr)) (v1 v2 : Value) (rest g : Int) (k : Key) (z : Int) (fs : List (Key × Int)) (K : Nat) (w : World)
    (h : TableAt w base (fun b => base ≤ b) tb ok mb r L ps) (h1 : TM w v1 rest ((k, z) :: fs)) (h2 : ZR w v2 g) (hg0 : 0 < g) (hdiv : ∀ f ∈ (k, z) :: fs, f.2 % g = 0) (hz : NZ ((k, z) :: fs)) (hb : base ≤ w.heap.size) (hR : Room ps ((k, z) :: fs) K)
    (hr : rest.natAbs < 4294967296 ^ 30000) (hgb : g.natAbs < 4294967296 ^ 30000) :
    Calls Tryz.prog 70 #[ptr tb, v1, v2] w (Learned base tb mb (learnF (ok, ps) (if z < 0 then .lo (mulM (divM ((k, z) :: fs) g) (-1)) (-((-rest) / g)) else .up (divM ((k, z) :: fs) g) (-((-rest) / g)))) w) := by
  obtain ⟨g1, A1, n1, c1, m1, rfl⟩ := h1.shape
  obtain ⟨g2, A2, n2, c2, rfl⟩ := h2.shape2
  have hrise := h1.rise.1
  obtain ⟨W, hWe⟩ : ∃ W, W = (w.alloc (.cells #[.bool g1, .slice A1 n1 c1, .pointer m1] 33)).alloc (.cells #[.bool g2, .slice A2 n2 c2] 30) := ⟨_, rfl⟩
  have pW : Pu w W := by rw [hWe]; exact ((Pu.refl w).alloc _).alloc _
  have hred := reduced_any _ _ rest g _ K W (h1.pu pW) (h2.pu pW) hg0 hdiv hR.up hR.big hr hgb hR.few
  have Hred := Lib.hid hred
  rw [hWe] at Hred
  have hWs : w.heap.size + 2 = W.heap.size := by rw [hWe]; simp
  have HWe := Lib.hid hWe
  -- what comes of the term
  have hupd : Upto K (divM ((k, z) :: fs) g) := divM_upto hg0 hR.up
  have hnz : NZ (divM ((k, z) :: fs) g) := divM_nz hz (fun f hf => Int.dvd_of_emod_eq_zero (hdiv f hf))
  have hrd : Rise (divM ((k, z) :: fs) g) := map_rise hrise _
  have hnn : (-((-rest) / g)).natAbs < 4294967296 ^ 30000 := by
    rw [Int.natAbs_neg]
    exact Nat.lt_of_le_of_lt (ediv_abs hg0 (-rest)) (by rw [Int.natAbs_neg]; exact hr)
  have hlnd : (divM ((k, z) :: fs) g).length < 30000 := by rw [divM_len]; exact hR.few
  have htx := hR.text _ (divM_keys _ g) hupd
  have htx2 := hR.text _ ((mulM_keys _ (-1)).trans (divM_keys _ g)) (mulM_upto hupd)
  obtain ⟨zp, z0⟩ := ediv_pos_exact hg0 (hdiv (k, z) (List.mem_cons_self ..))
  have hz0 := hz (k, z) (List.mem_cons_self ..)
  dsimp only at zp z0 hz0
  have hdc : divM ((k, z) :: fs) g = (k, z / g) :: divM fs g := rfl
  have hfac := factor_head (k := k) (z := z / g) (fs := divM fs g) hrd
  have hzb : (z / g).natAbs < 4294967296 ^ 40000 := hupd.big2 hR.big (k, z / g) (by rw [hdc]; exact List.mem_cons_self ..)
  generalize hfd : divM ((k, z) :: fs) g = fsd at *
  generalize hnd : -((-rest) / g) = nn at *
  have Hrest := Lib.hid (fun V v (ht : TM V v nn fsd) => trest_any v nn fsd V ht)
  have Hfirst := Lib.hid (fun V v (ht : TM V v nn fsd) => first_any v nn k (z / g) (divM fs g) V (by rw [← hdc]; exact ht) hzb hfac)
  have Hbare := Lib.hid (show ∀ V v, base ≤ V.heap.size → TM V v nn fsd → Calls Tryz.prog 105 #[v] V fun e w' => ∃ v, e = .returned v ∧ TMO w' base v 0 fsd ∧ Pu V w' from fun V v hV ht => by
    refine (bare_any v nn fsd K V ht hupd hlnd hR.big hnn).mono ?_
    rintro e w' ⟨v, e1, ht, p'⟩
    rw [show nn + nn * (-1) = (0 : Int) by omega] at ht
    exact ⟨v, e1, ht.base_ hV, p'⟩)
  have Hturn := Lib.hid (show ∀ V v, base ≤ V.heap.size → TM V v 0 fsd → Calls Tryz.prog 73 #[v] V fun e w' => ∃ v, e = .returned v ∧ TMO w' base v 0 (mulM fsd (-1)) ∧ Pu V w' from fun V v hV ht => by
    refine (turned_any v 0 fsd K V ht hupd hlnd (by
      have := hR.big
      exact Nat.lt_of_le_of_lt (Nat.le_add_left _ _) this) up_zero).mono ?_
    rintro e w' ⟨v, e1, ht, p'⟩
    rw [Int.zero_mul, addM_nil hrd hnz (by omega)] at ht
    exact ⟨v, e1, ht.base_ hV, p'⟩)
  have Hpair := Lib.hid (fun V v (p : Pu w V) (ht : TMO V base v 0 fsd) => tpair_any base tb mb (fun b => base ≤ b) ok r L ps v fsd V (h.pu p) ht (Nat.le_trans hb p.size) hR.len (hupd.big2 hR.big) htx)
  have Hpair2 := Lib.hid (fun V v (p : Pu w V) (ht : TMO V base v 0 (mulM fsd (-1))) => tpair_any base tb mb (fun b => base ≤ b) ok r L ps v (mulM fsd (-1)) V (h.pu p) ht (Nat.le_trans hb p.size) hR.len ((mulM_upto hupd).big2 hR.big) htx2)
  have hrs := h.rise
  have Hps := Lib.hid (And.intro (hR.psb.of hrs.2 fsd) (And.intro (hR.psb.of hrs.2 (mulM fsd (-1))) hnn))
  clear hred hWe h1 h2 hr hgb hR hupd hnz hrd hnn hlnd htx htx2 hdc hfac hzb hz hdiv hfd hnd
  have hsg : (z < 0 ∧ (z / g).sign = -1) ∨ (¬ z < 0 ∧ (z / g).sign = 1) := by
    rcases Int.lt_or_le 0 z with c | c
    · exact .inr ⟨by omega, Int.sign_eq_one_of_pos (zp.2 c)⟩
    · refine .inl ⟨by omega, Int.sign_eq_neg_one_of_neg ?_⟩
      have h3 : ¬ 0 < z / g := fun h => by
        have := zp.1 h
        omega
      have h4 : z / g ≠ 0 := fun h => hz0 (z0.1 h)
      omega
  rcases hsg with ⟨hzn, hs⟩ | ⟨hzn, hs⟩
  · rw [hs] at Hfirst
    rw [if_pos hzn]
    clear hs hzn zp z0 hz0
    go_enter Tryz.func70, Tryz.ntmps70
    go_wp2_with fail
    refine Hred.out.mono ?_
    rintro e w2 ⟨v5, rfl, h5, p2⟩
    obtain ⟨g5, A5, n5, c5, m5, rfl⟩ := h5.tm.shape
    rw [← HWe.out] at p2
    have P2 := pW.trans p2
    have pA : Pu w2 (w2.alloc (.cells #[.bool g5, .slice A5 n5 c5, .pointer m5] 33)) := (Pu.refl _).alloc _
    have kA : Blk (w2.alloc (.cells #[.bool g5, .slice A5 n5 c5, .pointer m5] 33)) w2.heap.size 33 #[.bool g5, .slice A5 n5 c5, .pointer m5] := Blk.new _ _ _
    have hA := h5.pu pA
    go_wp2_with fail
    refine (Hrest.out _ _ hA.tm).mono ?_
    rintro e w3 ⟨v6, rfl, h6, p3⟩
    obtain ⟨g6, A6, n6, c6, rfl⟩ := h6.shape2
    obtain ⟨U, hU⟩ : ∃ U, U = w3.alloc (.cells #[.bool g6, .slice A6 n6 c6] 30) := ⟨_, rfl⟩
    have pU : Pu w3 U := by rw [hU]; exact (Pu.refl _).alloc _
    have kN : Blk U w3.heap.size 30 #[.bool g6, .slice A6 n6 c6] := by rw [hU]; exact Blk.new _ _ _
    have kT : Blk U w2.heap.size 33 #[.bool g5, .slice A5 n5 c5, .pointer m5] := (kA.pu p3).pu pU
    have PU : Pu w U := ((P2.trans pA).trans p3).trans pU
    have hUT : TMO U w.heap.size (.agg #[.bool g5, .slice A5 n5 c5, .pointer m5]) nn fsd := ((hA.pu p3).pu pU).base_ (by rw [← HWe.out]; omega)
    have hUN := h6.pu pU
    have hU3 : base ≤ w3.heap.size := Nat.le_trans hb (Nat.le_trans P2.size (Nat.le_trans pA.size p3.size))
    have x0 := kT.cell 0
    have x1 := kT.cell 1
    have x2 := kT.cell 2
    rw [hU] at x0 x1 x2
    have hf1 := Lib.hid (Hfirst.out U _ hUT.tm)
    rw [hU] at hf1
    have HU := Lib.hid hU
    clear hU pA kA hA h5 h6 p2 p3 pU P2
    go_wp2_with fail
    refine hf1.out.mono ?_
    rintro e w4 ⟨rfl, p4⟩
    rw [← HU.out] at p4
    have P4 := PU.trans p4
    have y0 := (kT.pu p4).cell 0
    have y1 := (kT.pu p4).cell 1
    have y2 := (kT.pu p4).cell 2
    clear x0 x1 x2
    go_wp2_with fail
    refine (Hbare.out _ _ (Nat.le_trans hb P4.size) (hUT.pu p4).tm).mono ?_
    rintro e w5 ⟨v7, rfl, h7, p5⟩
    obtain ⟨g7, A7, n7, c7, m7, rfl⟩ := h7.tm.shape
    have P5 := P4.trans p5
    clear y0 y1 y2
    go_wp2_with fail
    refine (Hturn.out _ _ (Nat.le_trans hb P5.size) h7.tm).mono ?_
    rintro e w6 ⟨v8, rfl, h8, p6⟩
    obtain ⟨g8, A8, n8, c8, m8, rfl⟩ := h8.tm.shape
    have P6 := P5.trans p6
    go_wp2_with fail
    refine (Hpair2.out _ _ P6 h8).mono ?_
    rintro e Z ⟨q, r', L', rfl, hTZ, hq, q6⟩
    have kZ := (((kN.pu p4).pu p5).pu p6).qf q6 (by decide)
    have hzZ := (((hUN.pu p4).pu p5).pu p6).qf q6
    have hQ : Qf base w Z := (P6.qf base).trans q6
    have hlk := pairM_look hrs.2 (mulM fsd (-1))
    have hth := pairM_there hrs.2 (mulM fsd (-1))
    have hpp := pairM_put hrs.2 (mulM fsd (-1))
    obtain ⟨gq, Aq, nq, cq, mq, pu, pl, pe, hpa⟩ := hTZ.get hq hlk
    have hZb : base ≤ Z.heap.size := Nat.le_trans hb hQ.size
    have hgr : ∀ V, Pu Z V → Calls Tryz.prog 109 #[pl, .agg #[.bool g6, .slice A6 n6 c6]] V fun e w' => ∃ a, e = .returned (.pointer a) ∧ NPt w' (fun b => base ≤ b) (.pointer a) (greatM (pairOf ps (mulM fsd (-1))).lo nn) ∧ Pu V w' := fun V p => by
      refine (greater_any _ _ (pairOf ps (mulM fsd (-1))).lo nn (fun b => base ≤ b) V (hpa.l.pu p) (hzZ.pu p) (fun b hb' => Nat.le_trans hZb (Nat.le_trans p.size hb')) (up1000 Hps.out.2.2) (fun m hm => up1000 (Hps.out.2.1 m (.inr (.inl hm))))).mono ?_
      rintro e w' ⟨p', e1, hn, p2⟩
      obtain ⟨a, rfl⟩ := hn.ptr
      exact ⟨a, e1, hn, p2⟩
    have hfin : ∀ V a, Pu Z V → NPt V (fun b => base ≤ b) (.pointer a) (greatM (pairOf ps (mulM fsd (-1))).lo nn) → TableAt (V.setCell ⟨q, 4, none⟩ (.pointer a)) base (fun b => base ≤ b) tb ok mb r' L' (putM ps (ttext 0 (mulM fsd (-1))) { pairOf ps (mulM fsd (-1)) with lo := greatM (pairOf ps (mulM fsd (-1))).lo nn }) ∧ Qf base w (V.setCell ⟨q, 4, none⟩ (.pointer a)) := fun V a p hn => by
      have hpV : PairAt V base (fun b => base ≤ b) q gq Aq nq cq mq pu pl pe (pairOf ps (mulM fsd (-1))) := ⟨hpa.blk.pu p, hpa.ge, hpa.tm.pu p, hpa.u.pu p, hpa.l.pu p, hpa.e.pu p⟩
      obtain ⟨a1, a2⟩ := (hTZ.pu p).set hth hq hpV.blk hpV.ge (hpV.set_lo hn)
      rw [hpp] at a1
      exact ⟨a1, hQ.trans ((p.qf base).trans a2)⟩
    have HF := Lib.hid (And.intro hgr hfin)
    have kq := hpa.blk
    obtain ⟨ap, hap⟩ := hpa.l.ptr
    subst hap
    have d0 : Z.cell? ⟨q, 4, none⟩ = some (.pointer ap) := kq.cell 4
    have d1 : Z.cell? ⟨w3.heap.size, 0, none⟩ = some (.bool g6) := kZ.cell 0
    have d2 : Z.cell? ⟨w3.heap.size, 1, none⟩ = some (.slice A6 n6 c6) := kZ.cell 1
    have hP : Pu Z Z.drew := (Pu.refl Z).drew
    clear hgr hfin hpa hTZ hpp hth hlk
    go_wp2_with fail
    go_region_with (first
      | (go_at_call 109; refine (HF.out.1 _ hP).mono ?_; rintro e u7 ⟨a, rfl, hn, p9⟩; replace hP := hP.trans p9; have ka0 := (kq.pu hP).cell 4; have kf0 := (kq.pu hP).frozen 4))
    all_goals
      have HG := Lib.hid (HF.out.2 _ _ hP hn)
      clear hn hP HF
      go_wp2
      go_end0
      exact ⟨r', L', rfl, HG.out.1, HG.out.2⟩
  · rw [hs] at Hfirst
    rw [if_neg hzn]
    clear hs hzn zp z0 hz0
    go_enter Tryz.func70, Tryz.ntmps70
    go_wp2_with fail
    refine Hred.out.mono ?_
    rintro e w2 ⟨v5, rfl, h5, p2⟩
    obtain ⟨g5, A5, n5, c5, m5, rfl⟩ := h5.tm.shape
    rw [← HWe.out] at p2
    have P2 := pW.trans p2
    have pA : Pu w2 (w2.alloc (.cells #[.bool g5, .slice A5 n5 c5, .pointer m5] 33)) := (Pu.refl _).alloc _
    have kA : Blk (w2.alloc (.cells #[.bool g5, .slice A5 n5 c5, .pointer m5] 33)) w2.heap.size 33 #[.bool g5, .slice A5 n5 c5, .pointer m5] := Blk.new _ _ _
    have hA := h5.pu pA
    go_wp2_with fail
    refine (Hrest.out _ _ hA.tm).mono ?_
    rintro e w3 ⟨v6, rfl, h6, p3⟩
    obtain ⟨g6, A6, n6, c6, rfl⟩ := h6.shape2
    obtain ⟨U, hU⟩ : ∃ U, U = w3.alloc (.cells #[.bool g6, .slice A6 n6 c6] 30) := ⟨_, rfl⟩
    have pU : Pu w3 U := by rw [hU]; exact (Pu.refl _).alloc _
    have kN : Blk U w3.heap.size 30 #[.bool g6, .slice A6 n6 c6] := by rw [hU]; exact Blk.new _ _ _
    have kT : Blk U w2.heap.size 33 #[.bool g5, .slice A5 n5 c5, .pointer m5] := (kA.pu p3).pu pU
    have PU : Pu w U := ((P2.trans pA).trans p3).trans pU
    have hUT : TMO U w.heap.size (.agg #[.bool g5, .slice A5 n5 c5, .pointer m5]) nn fsd := ((hA.pu p3).pu pU).base_ (by rw [← HWe.out]; omega)
    have hUN := h6.pu pU
    have hU3 : base ≤ w3.heap.size := Nat.le_trans hb (Nat.le_trans P2.size (Nat.le_trans pA.size p3.size))
    have x0 := kT.cell 0
    have x1 := kT.cell 1
    have x2 := kT.cell 2
    rw [hU] at x0 x1 x2
    have hf1 := Lib.hid (Hfirst.out U _ hUT.tm)
    rw [hU] at hf1
    have HU := Lib.hid hU
    clear hU pA kA hA h5 h6 p2 p3 pU P2
    go_wp2_with fail
    refine hf1.out.mono ?_
    rintro e w4 ⟨rfl, p4⟩
    rw [← HU.out] at p4
    have P4 := PU.trans p4
    have y0 := (kT.pu p4).cell 0
    have y1 := (kT.pu p4).cell 1
    have y2 := (kT.pu p4).cell 2
    clear x0 x1 x2
    go_wp2_with fail
    refine (Hbare.out _ _ (Nat.le_trans hb P4.size) (hUT.pu p4).tm).mono ?_
    rintro e w5 ⟨v7, rfl, h7, p5⟩
    obtain ⟨g7, A7, n7, c7, m7, rfl⟩ := h7.tm.shape
    have P5 := P4.trans p5
    clear y0 y1 y2
    go_wp2_with fail
    refine (Hpair.out _ _ P5 h7).mono ?_
    rintro e Z ⟨q, r', L', rfl, hTZ, hq, q6⟩
    have kZ := ((kN.pu p4).pu p5).qf q6 (by decide)
    have hzZ := ((hUN.pu p4).pu p5).qf q6
    have hQ : Qf base w Z := (P5.qf base).trans q6
    have hlk := pairM_look hrs.2 fsd
    have hth := pairM_there hrs.2 fsd
    have hpp := pairM_put hrs.2 fsd
    obtain ⟨gq, Aq, nq, cq, mq, pu, pl, pe, hpa⟩ := hTZ.get hq hlk
    have hZb : base ≤ Z.heap.size := Nat.le_trans hb hQ.size
    have hgr : ∀ V, Pu Z V → Calls Tryz.prog 109 #[pu, .agg #[.bool g6, .slice A6 n6 c6]] V fun e w' => ∃ a, e = .returned (.pointer a) ∧ NPt w' (fun b => base ≤ b) (.pointer a) (greatM (pairOf ps fsd).up nn) ∧ Pu V w' := fun V p => by
      refine (greater_any _ _ (pairOf ps fsd).up nn (fun b => base ≤ b) V (hpa.u.pu p) (hzZ.pu p) (fun b hb' => Nat.le_trans hZb (Nat.le_trans p.size hb')) (up1000 Hps.out.2.2) (fun m hm => up1000 (Hps.out.1 m (.inl hm)))).mono ?_
      rintro e w' ⟨p', e1, hn, p2⟩
      obtain ⟨a, rfl⟩ := hn.ptr
      exact ⟨a, e1, hn, p2⟩
    have hfin : ∀ V a, Pu Z V → NPt V (fun b => base ≤ b) (.pointer a) (greatM (pairOf ps fsd).up nn) → TableAt (V.setCell ⟨q, 3, none⟩ (.pointer a)) base (fun b => base ≤ b) tb ok mb r' L' (putM ps (ttext 0 fsd) { pairOf ps fsd with up := greatM (pairOf ps fsd).up nn }) ∧ Qf base w (V.setCell ⟨q, 3, none⟩ (.pointer a)) := fun V a p hn => by
      have hpV : PairAt V base (fun b => base ≤ b) q gq Aq nq cq mq pu pl pe (pairOf ps fsd) := ⟨hpa.blk.pu p, hpa.ge, hpa.tm.pu p, hpa.u.pu p, hpa.l.pu p, hpa.e.pu p⟩
      obtain ⟨a1, a2⟩ := (hTZ.pu p).set hth hq hpV.blk hpV.ge (hpV.set_up hn)
      rw [hpp] at a1
      exact ⟨a1, hQ.trans ((p.qf base).trans a2)⟩
    have HF := Lib.hid (And.intro hgr hfin)
    have kq := hpa.blk
    obtain ⟨ap, hap⟩ := hpa.u.ptr
    subst hap
    have d0 : Z.cell? ⟨q, 3, none⟩ = some (.pointer ap) := kq.cell 3
    have d1 : Z.cell? ⟨w3.heap.size, 0, none⟩ = some (.bool g6) := kZ.cell 0
    have d2 : Z.cell? ⟨w3.heap.size, 1, none⟩ = some (.slice A6 n6 c6) := kZ.cell 1
    have hP : Pu Z Z.drew := (Pu.refl Z).drew
    clear hgr hfin hpa hTZ hpp hth hlk
    go_wp2_with fail
    go_region_with (first
      | (go_at_call 109; refine (HF.out.1 _ hP).mono ?_; rintro e u7 ⟨a, rfl, hn, p9⟩; replace hP := hP.trans p9; have ka0 := (kq.pu hP).cell 3; have kf0 := (kq.pu hP).frozen 3))
    all_goals
      have HG := Lib.hid (HF.out.2 _ _ hP hn)
      clear hn hP HF
      go_wp2
      exact bodyPost_ret (v := .tuple #[]) (by simp [results, Tryz.results70, go_sem]) rfl ⟨r', L', rfl, HG.out.1, HG.out.2⟩
end
section
set_option linter.unusedVariables false
open Go.RowKit
theorem up1000' {z : Int} (h : z.natAbs < 4294967296 ^ 30000) : z.natAbs < 4294967296 ^ 40000 := up_from (n := z.natAbs) (a := 30000) (b := 40000) h (by decide)
theorem cmpZ_le (x y : Int) : (cmpZ x y ≤ 0) ↔ x ≤ y := by
  unfold cmpZ
  split
  · exact ⟨fun _ => by omega, fun _ => by omega⟩
  · split
    · exact ⟨fun _ => by omega, fun _ => by omega⟩
    · exact ⟨fun _ => by omega, fun _ => by omega⟩
theorem pu_it {w V : World} (h : Pu w V) : ∃ Z, Z = V ∧ Pu w Z := ⟨V, rfl, h⟩
set_option maxHeartbeats 16000000 in
set_option maxRecDepth 100000 in
theorem bound_any {N : Nat → Prop} (base q : Nat) (g : Bool) (A : Option Addr) (n c : Nat) (m : Option Addr) (pu pl pe : Value) (p : Pr) (e : Int) (w : World) (h : PairAt w base N q g A n c m pu pl pe p) (he : p.eq = some e)
    (hB : ∀ m, (p.up = some m ∨ p.lo = some m ∨ p.eq = some m) → m.natAbs < 4294967296 ^ 30000) :
    Calls Tryz.prog 72 #[ptr q] w fun x w' => x = .returned (.bool (boundM p e)) ∧ Pu w w' := by
  have kq := h.blk
  have he2 := h.e
  rw [he] at he2
  rcases he2 with ⟨_, h0⟩ | ⟨be, ge, Ae, ne, ce, z, hpe, hz, -, kb, hze⟩
  · cases h0
  injection hz with hz
  subst hz hpe
  have Heb := Lib.hid (hB e (.inr (.inr he)))
  have hneg : ∀ V, Pu w V → Calls Tryz.prog 84 #[.agg #[.bool ge, .slice Ae ne ce]] V fun x w' => ∃ g A n c, x = .returned (.agg #[.bool g, .slice A n c]) ∧ ZR w' (.agg #[.bool g, .slice A n c]) (-e) ∧ Pu V w' := fun V pv => (neg_any _ e V (hze.pu pv) (up1000' Heb.out)).mono fun x w' ⟨v, h1, h2, h3⟩ => by
    obtain ⟨g, A, n, c, rfl⟩ := h2.shape2
    exact ⟨g, A, n, c, h1, h2, h3⟩
  have Hneg := Lib.hid hneg
  have d5 := kq.cell 5
  have e0 := kb.cell 0
  have e1 := kb.cell 1
  have hu := h.u
  have hl := h.l
  obtain ⟨pfs, pup, plo, peq⟩ := p
  dsimp only at hu hl hB he
  unfold boundM
  dsimp only
  clear h hneg
  rcases hu with ⟨rfl, rfl⟩ | ⟨bu, gu, Au, nu, cu, zu, rfl, rfl, -, ku, hzu⟩
  · rcases hl with ⟨rfl, rfl⟩ | ⟨bl, gl, Al, nl, cl, zl, rfl, rfl, -, kl, hzl⟩
    · have c3 := kq.cell 3
      have c4 := kq.cell 4
      have hP : Pu w w.drew := (Pu.refl w).drew
      clear hB
      go_enter Tryz.func72, Tryz.ntmps72
      go_wp2_with fail
      have HP := Lib.hid hP
      clear hP
      go_region
      have hP := HP.out
      clear HP
      all_goals
        have b3 := (kq.pu hP).cell 3
        have b4 := (kq.pu hP).cell 4
        have b5 := (kq.pu hP).cell 5
        have y0 := (kb.pu hP).cell 0
        have y1 := (kb.pu hP).cell 1
        clear c3 c4 d5 e0 e1
        go_wp2_with fail
        have HP := Lib.hid hP
        clear hP
        go_region
        have hP := HP.out.drew
        clear HP
        all_goals
          go_wp2
          go_ret
          exact ⟨by simp, hP⟩
    · have hcl : ∀ V v, Pu w V → ZR V v (-e) → Calls Tryz.prog 106 #[.agg #[.bool gl, .slice Al nl cl], v] V fun x w' => x = .returned (.int .i64 (cmpZ zl (-e))) ∧ Pu V w' := fun V v pv hv => cmp_any _ _ zl (-e) V (hzl.pu pv) hv (up1000' (hB zl (.inr (.inl rfl)))) (up1000' (by rw [Int.natAbs_neg]; exact Heb.out))
      have Hcl := Lib.hid hcl
      have Hle := Lib.hid (cmpZ_le zl (-e))
      clear hcl
      have c3 := kq.cell 3
      have c4 := kq.cell 4
      have hP : Pu w w.drew := (Pu.refl w).drew
      clear hB
      go_enter Tryz.func72, Tryz.ntmps72
      go_wp2_with fail
      have HP := Lib.hid hP
      clear hP
      go_region
      have hP := HP.out
      clear HP
      all_goals
        have b3 := (kq.pu hP).cell 3
        have b4 := (kq.pu hP).cell 4
        have b5 := (kq.pu hP).cell 5
        have y0 := (kb.pu hP).cell 0
        have y1 := (kb.pu hP).cell 1
        have v0 := (kl.pu hP).cell 0
        have v1 := (kl.pu hP).cell 1
        clear c3 c4 d5 e0 e1
        obtain ⟨V, hV, hPV⟩ := pu_it hP
        rw [← hV]
        clear b3 b4 b5 y0 y1 v0 v1 hV hP
        have hP : Pu w V.drew := hPV.drew
        have k0 : V.cell? ⟨q, 4, none⟩ = some (.pointer (some ⟨bl, 0, none⟩)) := (kq.pu hPV).cell 4
        have k1 : V.cell? ⟨q, 5, none⟩ = some (.pointer (some ⟨be, 0, none⟩)) := (kq.pu hPV).cell 5
        have k2 : V.cell? ⟨bl, 0, none⟩ = some (.bool gl) := (kl.pu hPV).cell 0
        have k3 : V.cell? ⟨bl, 1, none⟩ = some (.slice Al nl cl) := (kl.pu hPV).cell 1
        have k4 : V.cell? ⟨be, 0, none⟩ = some (.bool ge) := (kb.pu hPV).cell 0
        have k5 : V.cell? ⟨be, 1, none⟩ = some (.slice Ae ne ce) := (kb.pu hPV).cell 1
        have hQ : Pu V V.drew := (Pu.refl V).drew
        go_wp2_with fail
        go_region_held3 (fun t => t.cell? ⟨q, 4, none⟩ = some (.pointer (some ⟨bl, 0, none⟩)) ∧ t.cell? ⟨q, 5, none⟩ = some (.pointer (some ⟨be, 0, none⟩)) ∧ t.cell? ⟨bl, 0, none⟩ = some (.bool gl) ∧ t.cell? ⟨bl, 1, none⟩ = some (.slice Al nl cl) ∧ t.cell? ⟨be, 0, none⟩ = some (.bool ge) ∧ t.cell? ⟨be, 1, none⟩ = some (.slice Ae ne ce))
          (first | exact Keep6 k0 k1 k2 k3 k4 k5 (by repeat' (first | with_reducible exact hQ | with_reducible exact Pu.refl _ | with_reducible refine Pu.drew ?_ | with_reducible refine Pu.alloc ?_ _)) | go_keep)
          (first
          | (go_at_call 84; refine (Hneg.out _ hP).mono ?_; rintro x u3 ⟨gx, Ax, nx, cx, rfl, hx, p10⟩; replace hP := hP.trans p10; replace hQ := hQ.trans p10)
          | (go_at_call 106; refine (Hcl.out _ _ hP hx).mono ?_; rintro x u4 ⟨rfl, p11⟩; replace hP := hP.trans p11; replace hQ := hQ.trans p11))
        all_goals
          go_wp2
          go_ret
          exact ⟨by simp [Hle.out], hP⟩
  · have hcu : ∀ V, Pu w V → Calls Tryz.prog 106 #[.agg #[.bool gu, .slice Au nu cu], .agg #[.bool ge, .slice Ae ne ce]] V fun x w' => x = .returned (.int .i64 (cmpZ zu e)) ∧ Pu V w' := fun V pv => cmp_any _ _ zu e V (hzu.pu pv) (hze.pu pv) (up1000' (hB zu (.inl rfl))) (up1000' Heb.out)
    obtain ⟨s, hs, hcase⟩ : ∃ s : Int, cmpZ zu e = s ∧ ((s ≤ 0 ∧ zu ≤ e) ∨ (¬ s ≤ 0 ∧ ¬ zu ≤ e)) := ⟨_, rfl, by
      have := cmpZ_le zu e
      rcases Decidable.em (zu ≤ e) with c | c
      · exact .inl ⟨this.2 c, c⟩
      · exact .inr ⟨fun x => c (this.1 x), c⟩⟩
    rw [hs] at hcu
    clear hs
    have Hcu := Lib.hid hcu
    clear hcu
    rcases hcase with ⟨hs0, hzu2⟩ | ⟨hs0, hzu2⟩
    · have Hzu := Lib.hid hzu2
      clear hzu2
      rcases hl with ⟨rfl, rfl⟩ | ⟨bl, gl, Al, nl, cl, zl, rfl, rfl, -, kl, hzl⟩
      · have c3 := kq.cell 3
        have c4 := kq.cell 4
        have u0 := ku.cell 0
        have u1 := ku.cell 1
        have hP : Pu w w.drew := (Pu.refl w).drew
        clear hB
        go_enter Tryz.func72, Tryz.ntmps72
        go_wp2_with fail
        have k0 : w.cell? ⟨q, 3, none⟩ = some (.pointer (some ⟨bu, 0, none⟩)) := c3
        have k1 : w.cell? ⟨q, 5, none⟩ = some (.pointer (some ⟨be, 0, none⟩)) := d5
        have k2 : w.cell? ⟨bu, 0, none⟩ = some (.bool gu) := u0
        have k3 : w.cell? ⟨bu, 1, none⟩ = some (.slice Au nu cu) := u1
        have k4 : w.cell? ⟨be, 0, none⟩ = some (.bool ge) := e0
        have k5 : w.cell? ⟨be, 1, none⟩ = some (.slice Ae ne ce) := e1
        go_region_held3 (fun t => t.cell? ⟨q, 3, none⟩ = some (.pointer (some ⟨bu, 0, none⟩)) ∧ t.cell? ⟨q, 5, none⟩ = some (.pointer (some ⟨be, 0, none⟩)) ∧ t.cell? ⟨bu, 0, none⟩ = some (.bool gu) ∧ t.cell? ⟨bu, 1, none⟩ = some (.slice Au nu cu) ∧ t.cell? ⟨be, 0, none⟩ = some (.bool ge) ∧ t.cell? ⟨be, 1, none⟩ = some (.slice Ae ne ce))
          (first | exact Keep6 k0 k1 k2 k3 k4 k5 (by repeat' (first | with_reducible exact hP | with_reducible exact Pu.refl _ | with_reducible refine Pu.drew ?_ | with_reducible refine Pu.alloc ?_ _)) | go_keep)
          (first
          | (go_at_call 106; refine (Hcu.out _ hP).mono ?_; rintro x u2 ⟨rfl, p9⟩; replace hP := hP.trans p9))
        all_goals clear k0 k1 k2 k3 k4 k5
        all_goals
          have b3 := (kq.pu hP).cell 3
          have b4 := (kq.pu hP).cell 4
          have b5 := (kq.pu hP).cell 5
          have y0 := (kb.pu hP).cell 0
          have y1 := (kb.pu hP).cell 1
          clear c3 c4 d5 e0 e1
          go_wp2_with fail
          have HP := Lib.hid hP
          clear hP
          go_region
          have hP := HP.out.drew
          clear HP
          all_goals
            go_wp2
            go_ret
            exact ⟨by simp [Hzu.out], hP⟩
      · have hcl : ∀ V v, Pu w V → ZR V v (-e) → Calls Tryz.prog 106 #[.agg #[.bool gl, .slice Al nl cl], v] V fun x w' => x = .returned (.int .i64 (cmpZ zl (-e))) ∧ Pu V w' := fun V v pv hv => cmp_any _ _ zl (-e) V (hzl.pu pv) hv (up1000' (hB zl (.inr (.inl rfl)))) (up1000' (by rw [Int.natAbs_neg]; exact Heb.out))
        have Hcl := Lib.hid hcl
        have Hle := Lib.hid (cmpZ_le zl (-e))
        clear hcl
        have c3 := kq.cell 3
        have c4 := kq.cell 4
        have u0 := ku.cell 0
        have u1 := ku.cell 1
        have hP : Pu w w.drew := (Pu.refl w).drew
        clear hB
        go_enter Tryz.func72, Tryz.ntmps72
        go_wp2_with fail
        have k0 : w.cell? ⟨q, 3, none⟩ = some (.pointer (some ⟨bu, 0, none⟩)) := c3
        have k1 : w.cell? ⟨q, 5, none⟩ = some (.pointer (some ⟨be, 0, none⟩)) := d5
        have k2 : w.cell? ⟨bu, 0, none⟩ = some (.bool gu) := u0
        have k3 : w.cell? ⟨bu, 1, none⟩ = some (.slice Au nu cu) := u1
        have k4 : w.cell? ⟨be, 0, none⟩ = some (.bool ge) := e0
        have k5 : w.cell? ⟨be, 1, none⟩ = some (.slice Ae ne ce) := e1
        go_region_held3 (fun t => t.cell? ⟨q, 3, none⟩ = some (.pointer (some ⟨bu, 0, none⟩)) ∧ t.cell? ⟨q, 5, none⟩ = some (.pointer (some ⟨be, 0, none⟩)) ∧ t.cell? ⟨bu, 0, none⟩ = some (.bool gu) ∧ t.cell? ⟨bu, 1, none⟩ = some (.slice Au nu cu) ∧ t.cell? ⟨be, 0, none⟩ = some (.bool ge) ∧ t.cell? ⟨be, 1, none⟩ = some (.slice Ae ne ce))
          (first | exact Keep6 k0 k1 k2 k3 k4 k5 (by repeat' (first | with_reducible exact hP | with_reducible exact Pu.refl _ | with_reducible refine Pu.drew ?_ | with_reducible refine Pu.alloc ?_ _)) | go_keep)
          (first
          | (go_at_call 106; refine (Hcu.out _ hP).mono ?_; rintro x u2 ⟨rfl, p9⟩; replace hP := hP.trans p9))
        all_goals clear k0 k1 k2 k3 k4 k5
        all_goals
          have b3 := (kq.pu hP).cell 3
          have b4 := (kq.pu hP).cell 4
          have b5 := (kq.pu hP).cell 5
          have y0 := (kb.pu hP).cell 0
          have y1 := (kb.pu hP).cell 1
          have v0 := (kl.pu hP).cell 0
          have v1 := (kl.pu hP).cell 1
          clear c3 c4 d5 e0 e1
          obtain ⟨V, hV, hPV⟩ := pu_it hP
          rw [← hV]
          clear b3 b4 b5 y0 y1 v0 v1 hV hP
          have hP : Pu w V.drew := hPV.drew
          have k0 : V.cell? ⟨q, 4, none⟩ = some (.pointer (some ⟨bl, 0, none⟩)) := (kq.pu hPV).cell 4
          have k1 : V.cell? ⟨q, 5, none⟩ = some (.pointer (some ⟨be, 0, none⟩)) := (kq.pu hPV).cell 5
          have k2 : V.cell? ⟨bl, 0, none⟩ = some (.bool gl) := (kl.pu hPV).cell 0
          have k3 : V.cell? ⟨bl, 1, none⟩ = some (.slice Al nl cl) := (kl.pu hPV).cell 1
          have k4 : V.cell? ⟨be, 0, none⟩ = some (.bool ge) := (kb.pu hPV).cell 0
          have k5 : V.cell? ⟨be, 1, none⟩ = some (.slice Ae ne ce) := (kb.pu hPV).cell 1
          have hQ : Pu V V.drew := (Pu.refl V).drew
          go_wp2_with fail
          go_region_held3 (fun t => t.cell? ⟨q, 4, none⟩ = some (.pointer (some ⟨bl, 0, none⟩)) ∧ t.cell? ⟨q, 5, none⟩ = some (.pointer (some ⟨be, 0, none⟩)) ∧ t.cell? ⟨bl, 0, none⟩ = some (.bool gl) ∧ t.cell? ⟨bl, 1, none⟩ = some (.slice Al nl cl) ∧ t.cell? ⟨be, 0, none⟩ = some (.bool ge) ∧ t.cell? ⟨be, 1, none⟩ = some (.slice Ae ne ce))
            (first | exact Keep6 k0 k1 k2 k3 k4 k5 (by repeat' (first | with_reducible exact hQ | with_reducible exact Pu.refl _ | with_reducible refine Pu.drew ?_ | with_reducible refine Pu.alloc ?_ _)) | go_keep)
            (first
            | (go_at_call 84; refine (Hneg.out _ hP).mono ?_; rintro x u3 ⟨gx, Ax, nx, cx, rfl, hx, p10⟩; replace hP := hP.trans p10; replace hQ := hQ.trans p10)
            | (go_at_call 106; refine (Hcl.out _ _ hP hx).mono ?_; rintro x u4 ⟨rfl, p11⟩; replace hP := hP.trans p11; replace hQ := hQ.trans p11))
          all_goals
            go_wp2
            go_ret
            exact ⟨by simp [Hzu.out, Hle.out], hP⟩
    · have Hzu := Lib.hid hzu2
      clear hzu2
      rcases hl with ⟨rfl, rfl⟩ | ⟨bl, gl, Al, nl, cl, zl, rfl, rfl, -, kl, hzl⟩
      · have c3 := kq.cell 3
        have c4 := kq.cell 4
        have u0 := ku.cell 0
        have u1 := ku.cell 1
        have hP : Pu w w.drew := (Pu.refl w).drew
        clear hB
        go_enter Tryz.func72, Tryz.ntmps72
        go_wp2_with fail
        have k0 : w.cell? ⟨q, 3, none⟩ = some (.pointer (some ⟨bu, 0, none⟩)) := c3
        have k1 : w.cell? ⟨q, 5, none⟩ = some (.pointer (some ⟨be, 0, none⟩)) := d5
        have k2 : w.cell? ⟨bu, 0, none⟩ = some (.bool gu) := u0
        have k3 : w.cell? ⟨bu, 1, none⟩ = some (.slice Au nu cu) := u1
        have k4 : w.cell? ⟨be, 0, none⟩ = some (.bool ge) := e0
        have k5 : w.cell? ⟨be, 1, none⟩ = some (.slice Ae ne ce) := e1
        go_region_held3 (fun t => t.cell? ⟨q, 3, none⟩ = some (.pointer (some ⟨bu, 0, none⟩)) ∧ t.cell? ⟨q, 5, none⟩ = some (.pointer (some ⟨be, 0, none⟩)) ∧ t.cell? ⟨bu, 0, none⟩ = some (.bool gu) ∧ t.cell? ⟨bu, 1, none⟩ = some (.slice Au nu cu) ∧ t.cell? ⟨be, 0, none⟩ = some (.bool ge) ∧ t.cell? ⟨be, 1, none⟩ = some (.slice Ae ne ce))
          (first | exact Keep6 k0 k1 k2 k3 k4 k5 (by repeat' (first | with_reducible exact hP | with_reducible exact Pu.refl _ | with_reducible refine Pu.drew ?_ | with_reducible refine Pu.alloc ?_ _)) | go_keep)
          (first
          | (go_at_call 106; refine (Hcu.out _ hP).mono ?_; rintro x u2 ⟨rfl, p9⟩; replace hP := hP.trans p9))
        all_goals clear k0 k1 k2 k3 k4 k5
        all_goals
          have b3 := (kq.pu hP).cell 3
          have b4 := (kq.pu hP).cell 4
          have b5 := (kq.pu hP).cell 5
          have y0 := (kb.pu hP).cell 0
          have y1 := (kb.pu hP).cell 1
          clear c3 c4 d5 e0 e1
          go_wp2_with fail
          have HP := Lib.hid hP
          clear hP
          go_region
          have hP := HP.out.drew
          clear HP
          all_goals
            go_wp2
            go_ret
            exact ⟨by simp [Hzu.out], hP⟩
      · have hcl : ∀ V v, Pu w V → ZR V v (-e) → Calls Tryz.prog 106 #[.agg #[.bool gl, .slice Al nl cl], v] V fun x w' => x = .returned (.int .i64 (cmpZ zl (-e))) ∧ Pu V w' := fun V v pv hv => cmp_any _ _ zl (-e) V (hzl.pu pv) hv (up1000' (hB zl (.inr (.inl rfl)))) (up1000' (by rw [Int.natAbs_neg]; exact Heb.out))
        have Hcl := Lib.hid hcl
        have Hle := Lib.hid (cmpZ_le zl (-e))
        clear hcl
        have c3 := kq.cell 3
        have c4 := kq.cell 4
        have u0 := ku.cell 0
        have u1 := ku.cell 1
        have hP : Pu w w.drew := (Pu.refl w).drew
        clear hB
        go_enter Tryz.func72, Tryz.ntmps72
        go_wp2_with fail
        have k0 : w.cell? ⟨q, 3, none⟩ = some (.pointer (some ⟨bu, 0, none⟩)) := c3
        have k1 : w.cell? ⟨q, 5, none⟩ = some (.pointer (some ⟨be, 0, none⟩)) := d5
        have k2 : w.cell? ⟨bu, 0, none⟩ = some (.bool gu) := u0
        have k3 : w.cell? ⟨bu, 1, none⟩ = some (.slice Au nu cu) := u1
        have k4 : w.cell? ⟨be, 0, none⟩ = some (.bool ge) := e0
        have k5 : w.cell? ⟨be, 1, none⟩ = some (.slice Ae ne ce) := e1
        go_region_held3 (fun t => t.cell? ⟨q, 3, none⟩ = some (.pointer (some ⟨bu, 0, none⟩)) ∧ t.cell? ⟨q, 5, none⟩ = some (.pointer (some ⟨be, 0, none⟩)) ∧ t.cell? ⟨bu, 0, none⟩ = some (.bool gu) ∧ t.cell? ⟨bu, 1, none⟩ = some (.slice Au nu cu) ∧ t.cell? ⟨be, 0, none⟩ = some (.bool ge) ∧ t.cell? ⟨be, 1, none⟩ = some (.slice Ae ne ce))
          (first | exact Keep6 k0 k1 k2 k3 k4 k5 (by repeat' (first | with_reducible exact hP | with_reducible exact Pu.refl _ | with_reducible refine Pu.drew ?_ | with_reducible refine Pu.alloc ?_ _)) | go_keep)
          (first
          | (go_at_call 106; refine (Hcu.out _ hP).mono ?_; rintro x u2 ⟨rfl, p9⟩; replace hP := hP.trans p9))
        all_goals clear k0 k1 k2 k3 k4 k5
        all_goals
          have b3 := (kq.pu hP).cell 3
          have b4 := (kq.pu hP).cell 4
          have b5 := (kq.pu hP).cell 5
          have y0 := (kb.pu hP).cell 0
          have y1 := (kb.pu hP).cell 1
          have v0 := (kl.pu hP).cell 0
          have v1 := (kl.pu hP).cell 1
          clear c3 c4 d5 e0 e1
          obtain ⟨V, hV, hPV⟩ := pu_it hP
          rw [← hV]
          clear b3 b4 b5 y0 y1 v0 v1 hV hP
          have hP : Pu w V.drew := hPV.drew
          have k0 : V.cell? ⟨q, 4, none⟩ = some (.pointer (some ⟨bl, 0, none⟩)) := (kq.pu hPV).cell 4
          have k1 : V.cell? ⟨q, 5, none⟩ = some (.pointer (some ⟨be, 0, none⟩)) := (kq.pu hPV).cell 5
          have k2 : V.cell? ⟨bl, 0, none⟩ = some (.bool gl) := (kl.pu hPV).cell 0
          have k3 : V.cell? ⟨bl, 1, none⟩ = some (.slice Al nl cl) := (kl.pu hPV).cell 1
          have k4 : V.cell? ⟨be, 0, none⟩ = some (.bool ge) := (kb.pu hPV).cell 0
          have k5 : V.cell? ⟨be, 1, none⟩ = some (.slice Ae ne ce) := (kb.pu hPV).cell 1
          have hQ : Pu V V.drew := (Pu.refl V).drew
          go_wp2_with fail
          go_region_held3 (fun t => t.cell? ⟨q, 4, none⟩ = some (.pointer (some ⟨bl, 0, none⟩)) ∧ t.cell? ⟨q, 5, none⟩ = some (.pointer (some ⟨be, 0, none⟩)) ∧ t.cell? ⟨bl, 0, none⟩ = some (.bool gl) ∧ t.cell? ⟨bl, 1, none⟩ = some (.slice Al nl cl) ∧ t.cell? ⟨be, 0, none⟩ = some (.bool ge) ∧ t.cell? ⟨be, 1, none⟩ = some (.slice Ae ne ce))
            (first | exact Keep6 k0 k1 k2 k3 k4 k5 (by repeat' (first | with_reducible exact hQ | with_reducible exact Pu.refl _ | with_reducible refine Pu.drew ?_ | with_reducible refine Pu.alloc ?_ _)) | go_keep)
            (first
            | (go_at_call 84; refine (Hneg.out _ hP).mono ?_; rintro x u3 ⟨gx, Ax, nx, cx, rfl, hx, p10⟩; replace hP := hP.trans p10; replace hQ := hQ.trans p10)
            | (go_at_call 106; refine (Hcl.out _ _ hP hx).mono ?_; rintro x u4 ⟨rfl, p11⟩; replace hP := hP.trans p11; replace hQ := hQ.trans p11))
          all_goals
            go_wp2
            go_ret
            exact ⟨(by simp [Hle.out]; intro h; have := Hzu.out; omega), hP⟩
end
section
set_option linter.unusedVariables false
open Go.RowKit
theorem gall_dvd (zs : List Int) : ∀ z ∈ zs, gall zs ∣ z := by
  have key : ∀ (l : List Int) (g : Int), (l.foldl (fun g z => ((Int.gcd g z : Nat) : Int)) g) ∣ g ∧ ∀ z ∈ l, (l.foldl (fun g z => ((Int.gcd g z : Nat) : Int)) g) ∣ z := by
    intro l
    induction l with
    | nil => exact fun g => ⟨Int.dvd_refl g, fun z hz => by cases hz⟩
    | cons y l ih =>
      intro g
      obtain ⟨h1, h2⟩ := ih ((Int.gcd g y : Nat) : Int)
      refine ⟨Int.dvd_trans h1 (Int.gcd_dvd_left g y), fun z hz => ?_⟩
      rcases List.mem_cons.1 hz with rfl | hz
      · exact Int.dvd_trans h1 (Int.gcd_dvd_right g z)
      · exact h2 z hz
  exact (key zs 0).2
theorem gall_nonneg (zs : List Int) : 0 ≤ gall zs := by
  have key : ∀ (l : List Int) (g : Int), 0 ≤ g → 0 ≤ (l.foldl (fun g z => ((Int.gcd g z : Nat) : Int)) g) := by
    intro l
    induction l with
    | nil => exact fun g h => h
    | cons y l ih => exact fun g h => ih _ (Int.natCast_nonneg _)
  exact key zs 0 (Int.le_refl 0)
theorem factOf_bad {r : Int} {eq : Bool} (h : r > 0 ∨ (eq = true ∧ r < 0)) : factOf ⟨r, [], eq⟩ = .bad := by
  unfold factOf
  have hg : gcdM ([] : List (Key × Int)) = 0 := rfl
  dsimp only
  rw [if_pos hg, if_pos h]
theorem factOf_nothing {r : Int} {eq : Bool} (h : ¬ (r > 0 ∨ (eq = true ∧ r < 0))) : factOf ⟨r, [], eq⟩ = .nothing := by
  unfold factOf
  have hg : gcdM ([] : List (Key × Int)) = 0 := rfl
  dsimp only
  rw [if_pos hg, if_neg h]
theorem gcdM_pos {k : Key} {z : Int} {fs : List (Key × Int)} (hz : NZ ((k, z) :: fs)) : 0 < gcdM ((k, z) :: fs) := by
  have h1 := gall_nonneg (((k, z) :: fs).map (·.2))
  have h2 := gall_dvd (((k, z) :: fs).map (·.2)) z (by simp)
  have h3 := hz (k, z) (List.mem_cons_self ..)
  unfold gcdM
  rcases Int.lt_or_eq_of_le h1 with h | h
  · exact h
  · rw [← h] at h2
    exact absurd (Int.zero_dvd.1 h2) h3
theorem gcdM_div {fs : List (Key × Int)} : ∀ f ∈ fs, f.2 % gcdM fs = 0 := fun f hf => Int.emod_eq_zero_of_dvd (gall_dvd _ f.2 (List.mem_map_of_mem (f := (·.2)) hf))
theorem exM_gcd {r : Int} {k : Key} {z : Int} {fs : List (Key × Int)} (d : Int) (hd : d = if z < 0 then -(gcdM ((k, z) :: fs)) else gcdM ((k, z) :: fs)) : exM r ((k, z) :: fs) d = decide (r % d = 0) := by
  unfold exM
  have h : (((k, z) :: fs).all fun f => decide (f.2 % d = 0)) = true := by
    rw [List.all_eq_true]
    intro f hf
    have h1 := gcdM_div f hf
    rw [decide_eq_true_iff, hd]
    split
    · rw [Int.emod_neg]
      exact h1
    · exact h1
  rw [h, Bool.and_true]
set_option maxHeartbeats 16000000 in
set_option maxRecDepth 100000 in
theorem learn_any (base tb mb : Nat) (ok : Bool) (r : Option Nat) (L : List (Key × Nat)) (ps : List (Key × Pr)) (q : RawR) (row : RowM) (K : Nat) (w : World)
    (h : TableAt w base (fun b => base ≤ b) tb ok mb r L ps) (hq : RowIs w q row) (hz : NZ row.fs) (hb : base ≤ w.heap.size) (hR : Room ps row.fs K) (hr : row.rest.natAbs < 4294967296 ^ 30000) :
    Calls Tryz.prog 35 #[ptr tb, q.val] w (Learned base tb mb (learnM (ok, ps) row) w) := by
  obtain ⟨g1, A1, n1, c1, m1, eq⟩ := q
  obtain ⟨rest, fs, eqr⟩ := row
  obtain ⟨he, h1⟩ := hq
  dsimp only at he h1 hz hR hr
  subst he
  unfold RawR.term at h1
  dsimp only at h1
  unfold RawR.val
  dsimp only
  obtain ⟨W, hWe⟩ : ∃ W, W = w.alloc (.cells #[.bool g1, .slice A1 n1 c1, .pointer m1, .bool eq] 35) := ⟨_, rfl⟩
  have pW : Pu w W := by rw [hWe]; exact (Pu.refl w).alloc _
  have kR : Blk W w.heap.size 35 #[.bool g1, .slice A1 n1 c1, .pointer m1, .bool eq] := by rw [hWe]; exact Blk.new _ _ _
  have hcom := tcommon_any _ rest fs W (h1.pu pW) (hR.up.big2 hR.big)
  have Hcom := Lib.hid hcom
  rw [hWe] at Hcom
  have hgb : (gcdM fs).natAbs < 4294967296 ^ 30000 := gall_below (word_pos 30000) (fun z hz => by
    obtain ⟨f, hf, rfl⟩ := List.mem_map.1 hz
    exact hR.up.big hR.big f hf)
  have Hrest := Lib.hid (fun V (p : Pu w V) => trest_any _ rest fs V (h1.pu p))
  have Hsr := Lib.hid (fun V v (hv : ZR V v rest) => sign_any v rest V hv (up1000 hr))
  have Hsg := Lib.hid (fun V v (hv : ZR V v (gcdM fs)) => sign_any v (gcdM fs) V hv (up1000 hgb))
  have HWe := Lib.hid hWe
  have HTb := Lib.hid h
  have HR := Lib.hid hR
  have Hr := Lib.hid hr
  have Hz := Lib.hid hz
  have H1 := Lib.hid h1
  have Hgb := Lib.hid hgb
  clear hWe hcom h1 h hR hr hz hgb
  change Hid (Calls _ _ _ _ fun e w' => ∃ v', e = .returned v' ∧ ZR w' v' (gcdM fs) ∧ _) at Hcom
  unfold learnM
  cases fs with
  | nil =>
    have hg0 : (gcdM ([] : List (Key × Int))).sign = 0 := rfl
    rw [hg0] at Hsg
    clear hg0
    rcases Int.lt_trichotomy rest 0 with hs | hs | hs
    · have h2 : rest.sign = -1 := Int.sign_eq_neg_one_of_neg hs
      rw [h2] at Hsr
      cases eq with
      | true =>
        have hf : factOf ⟨rest, [], true⟩ = .bad := by
          exact factOf_bad (.inr ⟨rfl, hs⟩)
        rw [hf]
        clear hf h2 hs
        go_enter Tryz.func35, Tryz.ntmps35
        go_wp2_with fail
        refine Hcom.out.mono ?_
        rintro e w1 ⟨v5, rfl, h5, p1⟩
        rw [← HWe.out] at p1
        obtain ⟨g5, A5, n5, c5, rfl⟩ := h5.shape2
        obtain ⟨U, hU⟩ : ∃ U, U = w1.alloc (.cells #[.bool g5, .slice A5 n5 c5] 30) := ⟨_, rfl⟩
        have pU : Pu w1 U := by rw [hU]; exact (Pu.refl _).alloc _
        have kG : Blk U w1.heap.size 30 #[.bool g5, .slice A5 n5 c5] := by rw [hU]; exact Blk.new _ _ _
        have kRU := (kR.pu p1).pu pU
        have PU : Pu w U := (pW.trans p1).trans pU
        have hG := h5.pu pU
        have x0 := kRU.cell 0
        have x1 := kRU.cell 1
        have x2 := kRU.cell 2
        rw [hU] at x0 x1 x2
        have hr1 := Lib.hid (Hrest.out U PU)
        rw [hU] at hr1
        have HU := Lib.hid hU
        clear hU p1 pU h5
        go_wp2_with fail
        refine hr1.out.mono ?_
        rintro e w2 ⟨v6, rfl, h6, p2⟩
        rw [← HU.out] at p2
        clear x0 x1 x2
        go_wp2_with fail
        refine (Hsr.out _ _ h6).mono ?_
        rintro e w3 ⟨rfl, p3⟩
        have P3 := p2.trans p3
        have y0 := (kG.pu P3).cell 0
        have y1 := (kG.pu P3).cell 1
        go_wp2_with fail
        refine (Hsg.out _ _ (hG.pu P3)).mono ?_
        rintro e w4 ⟨rfl, p4⟩
        have P4 := P3.trans p4
        clear y0 y1 p2 p3 p4
        have y0 := (kG.pu P4).cell 0
        have y1 := (kG.pu P4).cell 1
        have y2 := (kRU.pu P4).cell 0
        have y3 := (kRU.pu P4).cell 1
        have y4 := (kRU.pu P4).cell 2
        have y5 := (kRU.pu P4).cell 3
        have PW4 := PU.trans P4
        have hT4 := HTb.out.pu PW4
        have t1 := hT4.blk.cell 1
        have f1 := hT4.blk.frozen 1
        have HQ := Lib.hid (hT4.set_ok false)
        have HP4 := Lib.hid PW4
        clear hT4 P3 P4 PU PW4
        go_wp2
        go_end0
        exact ⟨r, L, rfl, HQ.out.1, (HP4.out.qf base).trans HQ.out.2⟩
      | false =>
        have hf : factOf ⟨rest, [], false⟩ = .nothing := by
          exact factOf_nothing (fun x => x.elim (fun x => by omega) (fun x => by cases x.1))
        rw [hf]
        clear hf h2 hs
        go_enter Tryz.func35, Tryz.ntmps35
        go_wp2_with fail
        refine Hcom.out.mono ?_
        rintro e w1 ⟨v5, rfl, h5, p1⟩
        rw [← HWe.out] at p1
        obtain ⟨g5, A5, n5, c5, rfl⟩ := h5.shape2
        obtain ⟨U, hU⟩ : ∃ U, U = w1.alloc (.cells #[.bool g5, .slice A5 n5 c5] 30) := ⟨_, rfl⟩
        have pU : Pu w1 U := by rw [hU]; exact (Pu.refl _).alloc _
        have kG : Blk U w1.heap.size 30 #[.bool g5, .slice A5 n5 c5] := by rw [hU]; exact Blk.new _ _ _
        have kRU := (kR.pu p1).pu pU
        have PU : Pu w U := (pW.trans p1).trans pU
        have hG := h5.pu pU
        have x0 := kRU.cell 0
        have x1 := kRU.cell 1
        have x2 := kRU.cell 2
        rw [hU] at x0 x1 x2
        have hr1 := Lib.hid (Hrest.out U PU)
        rw [hU] at hr1
        have HU := Lib.hid hU
        clear hU p1 pU h5
        go_wp2_with fail
        refine hr1.out.mono ?_
        rintro e w2 ⟨v6, rfl, h6, p2⟩
        rw [← HU.out] at p2
        clear x0 x1 x2
        go_wp2_with fail
        refine (Hsr.out _ _ h6).mono ?_
        rintro e w3 ⟨rfl, p3⟩
        have P3 := p2.trans p3
        have y0 := (kG.pu P3).cell 0
        have y1 := (kG.pu P3).cell 1
        go_wp2_with fail
        refine (Hsg.out _ _ (hG.pu P3)).mono ?_
        rintro e w4 ⟨rfl, p4⟩
        have P4 := P3.trans p4
        clear y0 y1 p2 p3 p4
        have y0 := (kG.pu P4).cell 0
        have y1 := (kG.pu P4).cell 1
        have y2 := (kRU.pu P4).cell 0
        have y3 := (kRU.pu P4).cell 1
        have y4 := (kRU.pu P4).cell 2
        have y5 := (kRU.pu P4).cell 3
        have PW4 := PU.trans P4
        go_wp2_with fail
        refine (Hsg.out _ _ (hG.pu P4)).mono ?_
        rintro e w5 ⟨rfl, p5⟩
        have P5 := PW4.trans p5
        go_wp2
        go_end0
        exact ⟨r, L, rfl, HTb.out.pu P5, P5.qf base⟩
    · have h2 : rest.sign = 0 := by rw [hs]; rfl
      rw [h2] at Hsr
      have hf : factOf ⟨rest, [], eq⟩ = .nothing := by
        exact factOf_nothing (fun x => x.elim (fun x => by omega) (fun x => by have := x.2; omega))
      rw [hf]
      clear hf h2 hs
      cases eq with
      | true =>
        go_enter Tryz.func35, Tryz.ntmps35
        go_wp2_with fail
        refine Hcom.out.mono ?_
        rintro e w1 ⟨v5, rfl, h5, p1⟩
        rw [← HWe.out] at p1
        obtain ⟨g5, A5, n5, c5, rfl⟩ := h5.shape2
        obtain ⟨U, hU⟩ : ∃ U, U = w1.alloc (.cells #[.bool g5, .slice A5 n5 c5] 30) := ⟨_, rfl⟩
        have pU : Pu w1 U := by rw [hU]; exact (Pu.refl _).alloc _
        have kG : Blk U w1.heap.size 30 #[.bool g5, .slice A5 n5 c5] := by rw [hU]; exact Blk.new _ _ _
        have kRU := (kR.pu p1).pu pU
        have PU : Pu w U := (pW.trans p1).trans pU
        have hG := h5.pu pU
        have x0 := kRU.cell 0
        have x1 := kRU.cell 1
        have x2 := kRU.cell 2
        rw [hU] at x0 x1 x2
        have hr1 := Lib.hid (Hrest.out U PU)
        rw [hU] at hr1
        have HU := Lib.hid hU
        clear hU p1 pU h5
        go_wp2_with fail
        refine hr1.out.mono ?_
        rintro e w2 ⟨v6, rfl, h6, p2⟩
        rw [← HU.out] at p2
        clear x0 x1 x2
        go_wp2_with fail
        refine (Hsr.out _ _ h6).mono ?_
        rintro e w3 ⟨rfl, p3⟩
        have P3 := p2.trans p3
        have y0 := (kG.pu P3).cell 0
        have y1 := (kG.pu P3).cell 1
        go_wp2_with fail
        refine (Hsg.out _ _ (hG.pu P3)).mono ?_
        rintro e w4 ⟨rfl, p4⟩
        have P4 := P3.trans p4
        clear y0 y1 p2 p3 p4
        have y0 := (kG.pu P4).cell 0
        have y1 := (kG.pu P4).cell 1
        have y2 := (kRU.pu P4).cell 0
        have y3 := (kRU.pu P4).cell 1
        have y4 := (kRU.pu P4).cell 2
        have y5 := (kRU.pu P4).cell 3
        have PW4 := PU.trans P4
        go_wp2_with fail
        refine (Hsg.out _ _ (hG.pu P4)).mono ?_
        rintro e w5 ⟨rfl, p5⟩
        have P5 := PW4.trans p5
        go_wp2
        go_end0
        exact ⟨r, L, rfl, HTb.out.pu P5, P5.qf base⟩
      | false =>
        go_enter Tryz.func35, Tryz.ntmps35
        go_wp2_with fail
        refine Hcom.out.mono ?_
        rintro e w1 ⟨v5, rfl, h5, p1⟩
        rw [← HWe.out] at p1
        obtain ⟨g5, A5, n5, c5, rfl⟩ := h5.shape2
        obtain ⟨U, hU⟩ : ∃ U, U = w1.alloc (.cells #[.bool g5, .slice A5 n5 c5] 30) := ⟨_, rfl⟩
        have pU : Pu w1 U := by rw [hU]; exact (Pu.refl _).alloc _
        have kG : Blk U w1.heap.size 30 #[.bool g5, .slice A5 n5 c5] := by rw [hU]; exact Blk.new _ _ _
        have kRU := (kR.pu p1).pu pU
        have PU : Pu w U := (pW.trans p1).trans pU
        have hG := h5.pu pU
        have x0 := kRU.cell 0
        have x1 := kRU.cell 1
        have x2 := kRU.cell 2
        rw [hU] at x0 x1 x2
        have hr1 := Lib.hid (Hrest.out U PU)
        rw [hU] at hr1
        have HU := Lib.hid hU
        clear hU p1 pU h5
        go_wp2_with fail
        refine hr1.out.mono ?_
        rintro e w2 ⟨v6, rfl, h6, p2⟩
        rw [← HU.out] at p2
        clear x0 x1 x2
        go_wp2_with fail
        refine (Hsr.out _ _ h6).mono ?_
        rintro e w3 ⟨rfl, p3⟩
        have P3 := p2.trans p3
        have y0 := (kG.pu P3).cell 0
        have y1 := (kG.pu P3).cell 1
        go_wp2_with fail
        refine (Hsg.out _ _ (hG.pu P3)).mono ?_
        rintro e w4 ⟨rfl, p4⟩
        have P4 := P3.trans p4
        clear y0 y1 p2 p3 p4
        have y0 := (kG.pu P4).cell 0
        have y1 := (kG.pu P4).cell 1
        have y2 := (kRU.pu P4).cell 0
        have y3 := (kRU.pu P4).cell 1
        have y4 := (kRU.pu P4).cell 2
        have y5 := (kRU.pu P4).cell 3
        have PW4 := PU.trans P4
        go_wp2_with fail
        refine (Hsg.out _ _ (hG.pu P4)).mono ?_
        rintro e w5 ⟨rfl, p5⟩
        have P5 := PW4.trans p5
        go_wp2
        go_end0
        exact ⟨r, L, rfl, HTb.out.pu P5, P5.qf base⟩
    · have h2 : rest.sign = 1 := Int.sign_eq_one_of_pos hs
      rw [h2] at Hsr
      have hf : factOf ⟨rest, [], eq⟩ = .bad := by
        exact factOf_bad (.inl hs)
      rw [hf]
      clear hf h2 hs
      go_enter Tryz.func35, Tryz.ntmps35
      go_wp2_with fail
      refine Hcom.out.mono ?_
      rintro e w1 ⟨v5, rfl, h5, p1⟩
      rw [← HWe.out] at p1
      obtain ⟨g5, A5, n5, c5, rfl⟩ := h5.shape2
      obtain ⟨U, hU⟩ : ∃ U, U = w1.alloc (.cells #[.bool g5, .slice A5 n5 c5] 30) := ⟨_, rfl⟩
      have pU : Pu w1 U := by rw [hU]; exact (Pu.refl _).alloc _
      have kG : Blk U w1.heap.size 30 #[.bool g5, .slice A5 n5 c5] := by rw [hU]; exact Blk.new _ _ _
      have kRU := (kR.pu p1).pu pU
      have PU : Pu w U := (pW.trans p1).trans pU
      have hG := h5.pu pU
      have x0 := kRU.cell 0
      have x1 := kRU.cell 1
      have x2 := kRU.cell 2
      rw [hU] at x0 x1 x2
      have hr1 := Lib.hid (Hrest.out U PU)
      rw [hU] at hr1
      have HU := Lib.hid hU
      clear hU p1 pU h5
      go_wp2_with fail
      refine hr1.out.mono ?_
      rintro e w2 ⟨v6, rfl, h6, p2⟩
      rw [← HU.out] at p2
      clear x0 x1 x2
      go_wp2_with fail
      refine (Hsr.out _ _ h6).mono ?_
      rintro e w3 ⟨rfl, p3⟩
      have P3 := p2.trans p3
      have y0 := (kG.pu P3).cell 0
      have y1 := (kG.pu P3).cell 1
      go_wp2_with fail
      refine (Hsg.out _ _ (hG.pu P3)).mono ?_
      rintro e w4 ⟨rfl, p4⟩
      have P4 := P3.trans p4
      clear y0 y1 p2 p3 p4
      have y0 := (kG.pu P4).cell 0
      have y1 := (kG.pu P4).cell 1
      have y2 := (kRU.pu P4).cell 0
      have y3 := (kRU.pu P4).cell 1
      have y4 := (kRU.pu P4).cell 2
      have y5 := (kRU.pu P4).cell 3
      have PW4 := PU.trans P4
      have hT4 := HTb.out.pu PW4
      have t1 := hT4.blk.cell 1
      have f1 := hT4.blk.frozen 1
      have HQ := Lib.hid (hT4.set_ok false)
      have HP4 := Lib.hid PW4
      clear hT4 P3 P4 PU PW4
      go_wp2
      go_end0
      exact ⟨r, L, rfl, HQ.out.1, (HP4.out.qf base).trans HQ.out.2⟩
  | cons f fs =>
    obtain ⟨k, z⟩ := f
    have hgp := gcdM_pos Hz.out
    have hg1 : (gcdM ((k, z) :: fs)).sign = 1 := Int.sign_eq_one_of_pos hgp
    have hgne : ¬ gcdM ((k, z) :: fs) = 0 := by omega
    rw [hg1] at Hsg
    have Hgp := Lib.hid hgp
    clear hg1
    cases eq with
    | true =>
      have hf : factOf ⟨rest, (k, z) :: fs, true⟩ = if exM rest ((k, z) :: fs) (if z < 0 then -(gcdM ((k, z) :: fs)) else gcdM ((k, z) :: fs)) = true then .eq (divM ((k, z) :: fs) (if z < 0 then -(gcdM ((k, z) :: fs)) else gcdM ((k, z) :: fs))) (rest / (if z < 0 then -(gcdM ((k, z) :: fs)) else gcdM ((k, z) :: fs))) else .bad := by
        rw [exM_gcd _ rfl]
        unfold factOf
        dsimp only
        rw [if_neg hgne, if_pos rfl]
        unfold divisorM negM
        simp only [decide_eq_true_eq]
      have Hfact := Lib.hid hf
      clear hf
      go_enter Tryz.func35, Tryz.ntmps35
      go_wp2_with fail
      refine Hcom.out.mono ?_
      rintro e w1 ⟨v5, rfl, h5, p1⟩
      rw [← HWe.out] at p1
      obtain ⟨g5, A5, n5, c5, rfl⟩ := h5.shape2
      obtain ⟨U, hU⟩ : ∃ U, U = w1.alloc (.cells #[.bool g5, .slice A5 n5 c5] 30) := ⟨_, rfl⟩
      have pU : Pu w1 U := by rw [hU]; exact (Pu.refl _).alloc _
      have kG : Blk U w1.heap.size 30 #[.bool g5, .slice A5 n5 c5] := by rw [hU]; exact Blk.new _ _ _
      have kRU := (kR.pu p1).pu pU
      have PU : Pu w U := (pW.trans p1).trans pU
      have hG := h5.pu pU
      have x0 := kRU.cell 0
      have x1 := kRU.cell 1
      have x2 := kRU.cell 2
      rw [hU] at x0 x1 x2
      have hr1 := Lib.hid (Hrest.out U PU)
      rw [hU] at hr1
      have HU := Lib.hid hU
      clear hU p1 pU h5
      go_wp2_with fail
      refine hr1.out.mono ?_
      rintro e w2 ⟨v6, rfl, h6, p2⟩
      rw [← HU.out] at p2
      clear x0 x1 x2
      go_wp2_with fail
      refine (Hsr.out _ _ h6).mono ?_
      rintro e w3 ⟨rfl, p3⟩
      have P3 := p2.trans p3
      have y0 := (kG.pu P3).cell 0
      have y1 := (kG.pu P3).cell 1
      go_wp2_with fail
      refine (Hsg.out _ _ (hG.pu P3)).mono ?_
      rintro e w4 ⟨rfl, p4⟩
      have P4 := P3.trans p4
      clear y0 y1 p2 p3 p4
      have y0 := (kG.pu P4).cell 0
      have y1 := (kG.pu P4).cell 1
      have y2 := (kRU.pu P4).cell 0
      have y3 := (kRU.pu P4).cell 1
      have y4 := (kRU.pu P4).cell 2
      have y5 := (kRU.pu P4).cell 3
      have PW4 := PU.trans P4
      go_wp2_with fail
      refine (Hsg.out _ _ (hG.pu P4)).mono ?_
      rintro e w5 ⟨rfl, p5⟩
      have P5 := PW4.trans p5
      have z0 := (kG.pu (P4.trans p5)).cell 0
      have z1 := (kG.pu (P4.trans p5)).cell 1
      have z2 := (kRU.pu (P4.trans p5)).cell 0
      have z3 := (kRU.pu (P4.trans p5)).cell 1
      have z4 := (kRU.pu (P4.trans p5)).cell 2
      have z5 := (kRU.pu (P4.trans p5)).cell 3
      have hGz := hG.pu (P4.trans p5)
      have HP5 := Lib.hid P5
      clear y0 y1 y2 y3 y4 y5
      go_wp2_with fail
      refine (tequal_any base tb mb ok r L ps _ _ rest (gcdM ((k, z) :: fs)) k z fs K _ (HTb.out.pu P5) (H1.out.pu P5) hGz (by omega) (Nat.le_trans hb P5.size) HR.out Hr.out Hgb.out _ rfl).mono ?_
      rintro e w6 ⟨r', L', rfl, hT6, q6⟩
      go_wp2
      go_end0
      rw [Hfact.out]
      exact ⟨r', L', rfl, hT6, (HP5.out.qf base).trans q6⟩
    | false =>
      have hf : factOf ⟨rest, (k, z) :: fs, false⟩ = if z < 0 then .lo (mulM (divM ((k, z) :: fs) (gcdM ((k, z) :: fs))) (-1)) (-((-rest) / gcdM ((k, z) :: fs))) else .up (divM ((k, z) :: fs) (gcdM ((k, z) :: fs))) (-((-rest) / gcdM ((k, z) :: fs))) := by
        unfold factOf
        dsimp only
        rw [if_neg hgne, if_neg (by simp)]
        unfold negM
        simp only [decide_eq_true_eq]
      have Hfact := Lib.hid hf
      clear hf
      go_enter Tryz.func35, Tryz.ntmps35
      go_wp2_with fail
      refine Hcom.out.mono ?_
      rintro e w1 ⟨v5, rfl, h5, p1⟩
      rw [← HWe.out] at p1
      obtain ⟨g5, A5, n5, c5, rfl⟩ := h5.shape2
      obtain ⟨U, hU⟩ : ∃ U, U = w1.alloc (.cells #[.bool g5, .slice A5 n5 c5] 30) := ⟨_, rfl⟩
      have pU : Pu w1 U := by rw [hU]; exact (Pu.refl _).alloc _
      have kG : Blk U w1.heap.size 30 #[.bool g5, .slice A5 n5 c5] := by rw [hU]; exact Blk.new _ _ _
      have kRU := (kR.pu p1).pu pU
      have PU : Pu w U := (pW.trans p1).trans pU
      have hG := h5.pu pU
      have x0 := kRU.cell 0
      have x1 := kRU.cell 1
      have x2 := kRU.cell 2
      rw [hU] at x0 x1 x2
      have hr1 := Lib.hid (Hrest.out U PU)
      rw [hU] at hr1
      have HU := Lib.hid hU
      clear hU p1 pU h5
      go_wp2_with fail
      refine hr1.out.mono ?_
      rintro e w2 ⟨v6, rfl, h6, p2⟩
      rw [← HU.out] at p2
      clear x0 x1 x2
      go_wp2_with fail
      refine (Hsr.out _ _ h6).mono ?_
      rintro e w3 ⟨rfl, p3⟩
      have P3 := p2.trans p3
      have y0 := (kG.pu P3).cell 0
      have y1 := (kG.pu P3).cell 1
      go_wp2_with fail
      refine (Hsg.out _ _ (hG.pu P3)).mono ?_
      rintro e w4 ⟨rfl, p4⟩
      have P4 := P3.trans p4
      clear y0 y1 p2 p3 p4
      have y0 := (kG.pu P4).cell 0
      have y1 := (kG.pu P4).cell 1
      have y2 := (kRU.pu P4).cell 0
      have y3 := (kRU.pu P4).cell 1
      have y4 := (kRU.pu P4).cell 2
      have y5 := (kRU.pu P4).cell 3
      have PW4 := PU.trans P4
      go_wp2_with fail
      refine (Hsg.out _ _ (hG.pu P4)).mono ?_
      rintro e w5 ⟨rfl, p5⟩
      have P5 := PW4.trans p5
      have z0 := (kG.pu (P4.trans p5)).cell 0
      have z1 := (kG.pu (P4.trans p5)).cell 1
      have z2 := (kRU.pu (P4.trans p5)).cell 0
      have z3 := (kRU.pu (P4.trans p5)).cell 1
      have z4 := (kRU.pu (P4.trans p5)).cell 2
      have z5 := (kRU.pu (P4.trans p5)).cell 3
      have hGz := hG.pu (P4.trans p5)
      have HP5 := Lib.hid P5
      clear y0 y1 y2 y3 y4 y5
      go_wp2_with fail
      refine (tmost_any base tb mb ok r L ps _ _ rest (gcdM ((k, z) :: fs)) k z fs K _ (HTb.out.pu P5) (H1.out.pu P5) hGz Hgp.out gcdM_div Hz.out (Nat.le_trans hb P5.size) HR.out Hr.out Hgb.out).mono ?_
      rintro e w6 ⟨r', L', rfl, hT6, q6⟩
      go_wp2
      go_end0
      rw [Hfact.out]
      exact ⟨r', L', rfl, hT6, (HP5.out.qf base).trans q6⟩
end
end Go.Proofs.YtckfnbckoclhpaaGreatDoor
