/- The document's numbers: Gcd. -/
import Derived.Test.YtckfnbckoclhpaaDoorRefZA
import Derived.Deep.LoopGhost
set_option linter.unusedVariables false
namespace Go.Proofs.YtckfnbckoclhpaaDoor
open Go.RowKit

theorem gcd_step (a b : Int) : Int.gcd b (a % b) = Int.gcd a b := by
  have h := Int.gcd_mul_left_add_right b (a % b) (a / b)
  rw [Int.mul_ediv_add_emod] at h
  rw [← h, Int.gcd_comm]
theorem mod_less (a : Int) {b : Int} (h : b ≠ 0) : (a % b).natAbs < b.natAbs := by
  have h1 := Int.emod_nonneg a h
  have h2 := Int.emod_lt a h
  omega
theorem RZ.parts {w : World} {σ : Int} {A : Option Addr} {n c : Nat} {z : Int} (h : RZ w (.agg #[.int .i64 σ, .slice A n c]) z) : ∃ l, Sl w 1 A n c (dws l) ∧ Below_ 10 l ∧ Tidy l ∧ pval 10 l = z.natAbs ∧ c ≤ maxLen ∧ IntAt w A := by
  obtain ⟨A', n', c', l, e, h1, h2, h3, h4, h5, h6⟩ := h
  injection e with e
  have e1 : [Value.int .i64 σ, .slice A n c] = [Value.int .i64 z.sign, .slice A' n' c'] := by injection e
  injection e1 with e1 e2
  injection e2 with e2 _
  injection e2 with eA en ec
  subst eA en ec
  exact ⟨l, h1, h2, h3, h4, h5, h6⟩

set_option maxHeartbeats 4000000 in
set_option maxRecDepth 100000 in
theorem rgcd_any (v1 v2 : Value) (z1 z2 : Int) (w : World) (h1 : RZ w v1 z1) (h2 : RZ w v2 z2) (b1 : z1.natAbs < 10 ^ 200) (b2 : z2.natAbs < 10 ^ 200) :
    Calls Tryd.prog 33 #[v1, v2] w fun e w' => ∃ v, e = .returned v ∧ RZ w' v ((Int.gcd z1 z2 : Nat) : Int) ∧ Pu w w' := by
  obtain ⟨s1, A1, n1, c1, rfl, -⟩ := h1.shape
  obtain ⟨s2, A2, n2, c2, rfl, -⟩ := h2.shape
  obtain ⟨W, hWe⟩ : ∃ W, W = ((w.alloc (.cells #[.int .i64 s1, .slice A1 n1 c1] 39)).alloc (.cells #[.int .i64 s2, .slice A2 n2 c2] 39)).alloc (.cells #[.int .i64 0, .slice none 0 0] 39) := ⟨_, rfl⟩
  have hW : Pu w W := by
    rw [hWe]
    exact (((Pu.refl w).alloc _).alloc _).alloc _
  have k1 : Blk W w.heap.size 39 #[.int .i64 s1, .slice A1 n1 c1] := by rw [hWe]; exact ((Blk.new w _ _).alloc _).alloc _
  have k2 : Blk W (w.heap.size + 1) 39 #[.int .i64 s2, .slice A2 n2 c2] := by rw [hWe]; exact (Blk.at_new _ _ _ (by simp)).alloc _
  have k3 : Blk W (w.heap.size + 2) 39 #[.int .i64 0, .slice none 0 0] := by rw [hWe]; exact Blk.at_new _ _ _ (by simp)
  have g1 := h1.pu hW
  have g2 := h2.pu hW
  clear h1 h2
  rw [hWe] at k1 k2 k3 g1 g2 hW
  clear hWe
  go_enter Tryd.func33, Tryd.ntmps33
  go_wp2_with fail
  go_loopg [] (z2.natAbs) (fun k ws => ∃ (a b : Int) (σ1 σ2 : Int) (A1 A2 : Option Addr) (n1 c1 n2 c2 : Nat), Blk ws w.heap.size 39 #[.int .i64 σ1, .slice A1 n1 c1] ∧ Blk ws (w.heap.size + 1) 39 #[.int .i64 σ2, .slice A2 n2 c2] ∧ Blk ws (w.heap.size + 2) 39 #[.int .i64 0, .slice none 0 0] ∧ RZ ws (.agg #[.int .i64 σ1, .slice A1 n1 c1]) a ∧ RZ ws (.agg #[.int .i64 σ2, .slice A2 n2 c2]) b ∧ a.natAbs < 10 ^ 200 ∧ b.natAbs < 10 ^ 200 ∧ b.natAbs = k ∧ Int.gcd a b = Int.gcd z1 z2 ∧ Pu w ws)
  case atStart => exact ⟨z1, z2, s1, s2, A1, A2, n1, c1, n2, c2, k1, k2, k3, g1, g2, b1, b2, rfl, rfl, hW⟩
  case round =>
    clear k1 k2 k3 g1 g2 b1 b2 hW
    obtain ⟨a, b, σ1, σ2, A1, A2, n1, c1, n2, c2, k1, k2, k3, ha, hb, ba, bb, hk, hg, hP⟩ := hrel
    have q20 : wr.cell? ⟨w.heap.size + 1, 0, none⟩ = some (.int .i64 σ2) := k2.cell 0
    have q21 : wr.cell? ⟨w.heap.size + 1, 1, none⟩ = some (.slice A2 n2 c2) := k2.cell 1
    have q10 : wr.cell? ⟨w.heap.size, 0, none⟩ = some (.int .i64 σ1) := k1.cell 0
    have q11 : wr.cell? ⟨w.heap.size, 1, none⟩ = some (.slice A1 n1 c1) := k1.cell 1
    have hsb : σ2 = b.sign := by
      obtain ⟨σ, A, n, c, e, e2⟩ := hb.shape
      injection e with e
      have e1 : [Value.int .i64 σ2, .slice A2 n2 c2] = [Value.int .i64 σ, .slice A n c] := by injection e
      injection e1 with e1 _
      injection e1 with _ e1
      rw [e1, e2]
    have Hg := Lib.hid hg
    clear hg
    rcases Decidable.em (b = 0) with hb0 | hb0
    · subst hb0
      obtain rfl : σ2 = 0 := hsb
      obtain ⟨l, hS, hbl, hti, hv, hc, hI⟩ := ha.parts
      have hn := tidy_len10 hti (k := 200) (by rw [hv]; exact ba)
      rw [hS.dlen] at hn
      have hmd := rmade_any 1 A1 n1 c1 l wr hS (by omega) hc hbl hI (.inl rfl)
      have hgv : (1 : Int) * ((pval 10 l : Nat) : Int) = ((Int.gcd z1 z2 : Nat) : Int) := by
        rw [hv, ← Hg.out, Int.one_mul, Int.gcd_zero]
      have Hgv := Lib.hid hgv
      clear hgv hv hk
      go_wp2_with fail
      refine hmd.mono ?_
      rintro e u ⟨v, rfl, hz, p⟩
      rw [Hgv.out] at hz
      obtain ⟨σ, A, n, c, rfl, -⟩ := hz.shape
      have k3u := k3.pu p
      have t0 : u.cell? ⟨w.heap.size + 2, 0, none⟩ = some (.int .i64 0) := k3u.cell 0
      have t1 : u.cell? ⟨w.heap.size + 2, 1, none⟩ = some (.slice none 0 0) := k3u.cell 1
      have f0 := k3u.frozen 0
      have f1 := k3u.frozen 1
      obtain ⟨r0, r1, rp, rf⟩ := store_rz k3u σ A n c
      have rz := rf _ _ hz
      have PP := rp _ (hP.trans p) (by omega)
      clear rf rp
      go_wp2
      exact bodyPost_ret (v := .agg #[.int .i64 σ, .slice A n c]) (by simp [results, Tryd.results33, go_sem, r0, r1]) rfl ⟨_, rfl, rz, PP⟩
    · have hs0 : (σ2 == 0) = false := by
        have := sign_one b hb0
        simp
        omega
      have hdm := rdivmod_any _ _ a b wr ha hb ba bb hb0
      have hlt := mod_less a hb0
      have hgs := gcd_step a b
      rw [Hg.out] at hgs
      have Hgs := Lib.hid hgs
      have Hlt := Lib.hid (And.intro hlt hk)
      have HB := Lib.hid (And.intro ba bb)
      clear hgs hlt hk ba bb hb0 hsb
      go_wp2_with fail
      refine hdm.mono ?_
      rintro e u ⟨v3, v4, rfl, h3, h4, p⟩
      obtain ⟨σ3, A3, n3, c3, rfl, -⟩ := h3.shape
      obtain ⟨σ4, A4, n4, c4, rfl, -⟩ := h4.shape
      obtain ⟨U, hU⟩ : ∃ U, U = (u.alloc (.cells #[.int .i64 σ3, .slice A3 n3 c3] 39)).alloc (.cells #[.int .i64 σ4, .slice A4 n4 c4] 39) := ⟨_, rfl⟩
      have hsz : w.heap.size + 2 < u.heap.size + 1 := by
        have h1 := k3.lt
        have h2 := p.size
        omega
      have pU : Pu u U := by rw [hU]; exact ((Pu.refl u).alloc _).alloc _
      have k6 : Blk U (u.heap.size + 1) 39 #[.int .i64 σ4, .slice A4 n4 c4] := by rw [hU]; exact Blk.at_new _ _ _ (by simp)
      have PU := p.trans pU
      replace k1 := k1.pu PU
      replace k2 := k2.pu PU
      replace k3 := k3.pu PU
      replace h4 := h4.pu pU
      replace hb := hb.pu PU
      have hPU := hP.trans PU
      have y0 := k2.cell 0
      have y1 := k2.cell 1
      have x0 := k1.cell 0
      have x1 := k1.cell 1
      have fx0 := k1.frozen 0
      have fx1 := k1.frozen 1
      obtain ⟨k1', fr1⟩ := over_z k1 σ2 A2 n2 c2
      obtain ⟨_, _, rp1, rz1⟩ := store_rz k1 σ2 A2 n2 c2
      have k2' := k2.fr fr1 (by show ¬ w.heap.size + 1 = w.heap.size; omega)
      have k3' := k3.fr fr1 (by show ¬ w.heap.size + 2 = w.heap.size; omega)
      have k6' := k6.fr fr1 (by show ¬ u.heap.size + 1 = w.heap.size; omega)
      have y0' := k2'.cell 0
      have y1' := k2'.cell 1
      have fy0 := k2'.frozen 0
      have fy1 := k2'.frozen 1
      have m0 := k6'.cell 0
      have m1 := k6'.cell 1
      obtain ⟨k2'', fr2⟩ := over_z k2' σ4 A4 n4 c4
      obtain ⟨_, _, rp2, rz2⟩ := store_rz k2' σ4 A4 n4 c4
      have k1'' := k1'.fr fr2 (by show ¬ w.heap.size = w.heap.size + 1; omega)
      have k3'' := k3'.fr fr2 (by show ¬ w.heap.size + 2 = w.heap.size + 1; omega)
      have hb'' := rz2 _ _ (rz1 _ _ hb)
      have h4'' := rz2 _ _ (rz1 _ _ h4)
      have PP := rp2 _ (rp1 _ hPU (Nat.le_refl _)) (by omega)
      clear rp1 rz1 rp2 rz2 k1 k2 k3 k6 k1' k2' k3' k6' fr1 fr2 hdm ha hb h3 h4 p pU PU hPU q10 q11 q20 q21 hP
      rw [hU] at y0 y1 x0 x1 fx0 fx1 y0' y1' fy0 fy1 m0 m1 k1'' k2'' k3'' hb'' h4'' PP
      clear hU
      go_wp2
      go_roundg (a % b).natAbs
      case measure => have := Hlt.out; omega
      case rel => exact ⟨b, a % b, σ2, σ4, A2, A4, n2, c2, n4, c4, k1'', k2'', k3'', hb'', h4'', HB.out.2, Nat.lt_trans Hlt.out.1 HB.out.2, rfl, Hgs.out, PP⟩
end Go.Proofs.YtckfnbckoclhpaaDoor
