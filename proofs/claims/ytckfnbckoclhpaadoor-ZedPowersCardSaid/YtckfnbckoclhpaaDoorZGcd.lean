/- zed: gcd. -/
import Derived.Test.YtckfnbckoclhpaaDoorZDivL
import Derived.Test.YtckfnbckoclhpaaDoorZDivM
import Derived.Test.YtckfnbckoclhpaaDoorZInts
import Derived.BigRegion
import Derived.Deep.LoopGhost
set_option linter.unusedVariables false
namespace Go.Proofs.YtckfnbckoclhpaaDoor
open Go.RowKit

theorem gcd_next (a b : Int) : Int.gcd b (a % b) = Int.gcd a b := by
  have h := Int.gcd_mul_left_add_right b (a % b) (a / b)
  rw [Int.mul_ediv_add_emod] at h
  rw [← h, Int.gcd_comm]
theorem mod_drop (a : Int) {b : Int} (h : b ≠ 0) : (a % b).natAbs < b.natAbs := by
  have h1 := Int.emod_nonneg a h
  have h2 := Int.emod_lt a h
  omega
theorem ZR.shape {w : World} {v : Value} {z : Int} (h : ZR w v z) : ∃ g A n c, v = .agg #[.bool g, .slice A n c] := by
  obtain ⟨g, A, n, c, l, rfl, -⟩ := h
  exact ⟨g, A, n, c, rfl⟩
/-- a number put into a block that is there -/
theorem over_n {W : World} {b : Nat} {x : Bool} {y : Option Addr} {m d : Nat} (k : Blk W b 25 #[.bool x, .slice y m d]) (s : Bool) (A : Option Addr) (n c : Nat) :
    Blk ((W.setCell ⟨b, 0, none⟩ (.bool s)).setCell ⟨b, 1, none⟩ (.slice A n c)) b 25 #[.bool s, .slice A n c] ∧
    Fr (fun i => i = b) W ((W.setCell ⟨b, 0, none⟩ (.bool s)).setCell ⟨b, 1, none⟩ (.slice A n c)) :=
  ⟨(k.set_ 0 _).set_ 1 _, (Fr.one W b 0 _).trans (Fr.one _ b 1 _)⟩

set_option maxHeartbeats 4000000 in
set_option maxRecDepth 100000 in
theorem gcd_any (v1 v2 : Value) (z1 z2 : Int) (w : World) (h1 : ZR w v1 z1) (h2 : ZR w v2 z2) (b1 : z1.natAbs < 4294967296 ^ 1000) (b2 : z2.natAbs < 4294967296 ^ 1000) :
    Calls Tryd.prog 59 #[v1, v2] w fun e w' => ∃ v, e = .returned v ∧ ZR w' v ((Int.gcd z1 z2 : Nat) : Int) ∧ Pu w w' := by
  obtain ⟨s1, A1, n1, c1, rfl⟩ := h1.shape
  obtain ⟨s2, A2, n2, c2, rfl⟩ := h2.shape
  obtain ⟨W, hWe⟩ : ∃ W, W = ((w.alloc (.cells #[.bool s1, .slice A1 n1 c1] 25)).alloc (.cells #[.bool s2, .slice A2 n2 c2] 25)).alloc (.cells #[.bool false, .slice none 0 0] 25) := ⟨_, rfl⟩
  have hW : Pu w W := by
    rw [hWe]
    exact (((Pu.refl w).alloc _).alloc _).alloc _
  have k1 : Blk W w.heap.size 25 #[.bool s1, .slice A1 n1 c1] := by rw [hWe]; exact ((Blk.new w _ _).alloc _).alloc _
  have k2 : Blk W (w.heap.size + 1) 25 #[.bool s2, .slice A2 n2 c2] := by rw [hWe]; exact (Blk.at_new _ _ _ (by simp)).alloc _
  have k3 : Blk W (w.heap.size + 2) 25 #[.bool false, .slice none 0 0] := by rw [hWe]; exact Blk.at_new _ _ _ (by simp)
  have g1 := h1.pu hW
  have g2 := h2.pu hW
  clear h1 h2
  rw [hWe] at k1 k2 k3 g1 g2 hW
  clear hWe
  go_enter Tryd.func59, Tryd.ntmps59
  go_wp2_with fail
  go_loopg [] (z2.natAbs) (fun k ws => ∃ (a b : Int) (σ1 σ2 : Bool) (A1 A2 : Option Addr) (n1 c1 n2 c2 : Nat), Blk ws w.heap.size 25 #[.bool σ1, .slice A1 n1 c1] ∧ Blk ws (w.heap.size + 1) 25 #[.bool σ2, .slice A2 n2 c2] ∧ Blk ws (w.heap.size + 2) 25 #[.bool false, .slice none 0 0] ∧ ZR ws (.agg #[.bool σ1, .slice A1 n1 c1]) a ∧ ZR ws (.agg #[.bool σ2, .slice A2 n2 c2]) b ∧ a.natAbs < 4294967296 ^ 1000 ∧ b.natAbs < 4294967296 ^ 1000 ∧ b.natAbs = k ∧ Int.gcd a b = Int.gcd z1 z2 ∧ Pu w ws)
  case atStart => exact ⟨z1, z2, s1, s2, A1, A2, n1, c1, n2, c2, k1, k2, k3, g1, g2, b1, b2, rfl, rfl, hW⟩
  case round =>
    clear k1 k2 k3 g1 g2 b1 b2 hW
    obtain ⟨a, b, σ1, σ2, A1, A2, n1, c1, n2, c2, k1, k2, k3, ha, hb, ba, bb, hk, hg, hP⟩ := hrel
    have q20 : wr.cell? ⟨w.heap.size + 1, 0, none⟩ = some (.bool σ2) := k2.cell 0
    have q21 : wr.cell? ⟨w.heap.size + 1, 1, none⟩ = some (.slice A2 n2 c2) := k2.cell 1
    have hsg := sign_any _ b wr hb bb
    have Hg := Lib.hid hg
    clear hg
    rcases Decidable.em (b = 0) with hb0 | hb0
    · subst hb0
      have hab := fun W p => abs_any _ a W (ha.pu (w' := W) p) ba
      have hgv : ((a.natAbs : Nat) : Int) = ((Int.gcd z1 z2 : Nat) : Int) := by
        rw [← Hg.out, Int.gcd_zero]
      rw [hgv] at hab
      have Hab := Lib.hid hab
      clear hgv hk hab ba bb
      go_wp2_with fail
      refine hsg.mono ?_
      rintro e u0 ⟨rfl, p0⟩
      have q10 : u0.cell? ⟨w.heap.size, 0, none⟩ = some (.bool σ1) := (k1.pu p0).cell 0
      have q11 : u0.cell? ⟨w.heap.size, 1, none⟩ = some (.slice A1 n1 c1) := (k1.pu p0).cell 1
      clear q20 q21
      go_wp2_with fail
      refine (Hab.out _ p0).mono ?_
      rintro e u ⟨v, rfl, hz, p⟩
      obtain ⟨σ, A, n, c, rfl⟩ := hz.shape
      have k3u := (k3.pu p0).pu p
      have t0 : u.cell? ⟨w.heap.size + 2, 0, none⟩ = some (.bool false) := k3u.cell 0
      have t1 : u.cell? ⟨w.heap.size + 2, 1, none⟩ = some (.slice none 0 0) := k3u.cell 1
      have f0 := k3u.frozen 0
      have f1 := k3u.frozen 1
      obtain ⟨r0, r1, rf, rp⟩ := store_num k3u σ A n c
      have rz := rf _ _ hz
      have PP := rp _ ((hP.trans p0).trans p) (by omega)
      clear rf rp
      go_wp2
      exact bodyPost_ret (v := .agg #[.bool σ, .slice A n c]) (by simp [results, Tryd.results59, go_sem, r0, r1]) rfl ⟨_, rfl, rz, PP⟩
    · have hs0 : (b.sign == 0) = false := by
        have : b.sign ≠ 0 := fun e => hb0 (Int.sign_eq_zero_iff_zero.1 e)
        simpa using hb0
      have hdm := fun W p => divmod_any _ _ a b W (ha.pu (w' := W) p) (hb.pu p) ba bb hb0 (div_ok _ _ (by omega))
      have hlt := mod_drop a hb0
      have hgs := gcd_next a b
      rw [Hg.out] at hgs
      have Hgs := Lib.hid hgs
      have Hlt := Lib.hid (And.intro hlt hk)
      have HB := Lib.hid (And.intro ba bb)
      have Hdm := Lib.hid hdm
      clear hgs hlt hk ba bb hb0 hdm
      generalize b.sign = σb at *
      go_wp2_with fail
      refine hsg.mono ?_
      rintro e u0 ⟨rfl, p0⟩
      have q10 : u0.cell? ⟨w.heap.size, 0, none⟩ = some (.bool σ1) := (k1.pu p0).cell 0
      have q11 : u0.cell? ⟨w.heap.size, 1, none⟩ = some (.slice A1 n1 c1) := (k1.pu p0).cell 1
      have q30 : u0.cell? ⟨w.heap.size + 1, 0, none⟩ = some (.bool σ2) := (k2.pu p0).cell 0
      have q31 : u0.cell? ⟨w.heap.size + 1, 1, none⟩ = some (.slice A2 n2 c2) := (k2.pu p0).cell 1
      clear q20 q21
      go_wp2_with fail
      refine (Hdm.out _ p0).mono ?_
      rintro e u ⟨v3, v4, rfl, h3, h4, p⟩
      obtain ⟨σ3, A3, n3, c3, rfl⟩ := h3.shape
      obtain ⟨σ4, A4, n4, c4, rfl⟩ := h4.shape
      obtain ⟨U, hU⟩ : ∃ U, U = (u.alloc (.cells #[.bool σ3, .slice A3 n3 c3] 25)).alloc (.cells #[.bool σ4, .slice A4 n4 c4] 25) := ⟨_, rfl⟩
      have hsz : w.heap.size + 2 < u.heap.size + 1 := by
        have h1 := k3.lt
        have h2 := p.size
        have h3 := p0.size
        omega
      have pU : Pu u U := by rw [hU]; exact ((Pu.refl u).alloc _).alloc _
      have k6 : Blk U (u.heap.size + 1) 25 #[.bool σ4, .slice A4 n4 c4] := by rw [hU]; exact Blk.at_new _ _ _ (by simp)
      have PU := (p0.trans p).trans pU
      replace k1 := k1.pu PU
      replace k2 := k2.pu PU
      replace k3 := k3.pu PU
      replace h4 := h4.pu pU
      replace hb := hb.pu PU
      have hPU := hP.trans PU
      rw [hU] at k1 k2 k3 k6 h4 hb hPU
      clear hsg Hdm ha h3 p0 p pU PU hP q10 q11 q30 q31 hU
      go_wp2_with fail
      generalize (u.alloc (.cells #[.bool σ3, .slice A3 n3 c3] 25)).alloc (.cells #[.bool σ4, .slice A4 n4 c4] 25) = U at *
      have y0 := k2.cell 0
      have y1 := k2.cell 1
      have x0 := k1.cell 0
      have x1 := k1.cell 1
      have fx0 := k1.frozen 0
      have fx1 := k1.frozen 1
      have m0 := k6.cell 0
      have m1 := k6.cell 1
      obtain ⟨k1', fr1⟩ := over_n k1 σ2 A2 n2 c2
      obtain ⟨_, _, rz1, rp1⟩ := store_num k1 σ2 A2 n2 c2
      have k2' := k2.fr fr1 (by show ¬ w.heap.size + 1 = w.heap.size; omega)
      have k3' := k3.fr fr1 (by show ¬ w.heap.size + 2 = w.heap.size; omega)
      have k6' := k6.fr fr1 (by show ¬ u.heap.size + 1 = w.heap.size; omega)
      have y0' := k2'.cell 0
      have y1' := k2'.cell 1
      have fy0 := k2'.frozen 0
      have fy1 := k2'.frozen 1
      have m0' := k6'.cell 0
      have m1' := k6'.cell 1
      obtain ⟨k2'', fr2⟩ := over_n k2' σ4 A4 n4 c4
      obtain ⟨_, _, rz2, rp2⟩ := store_num k2' σ4 A4 n4 c4
      have k1'' := (k1'.fr fr2 (by show ¬ w.heap.size = w.heap.size + 1; omega)).drew
      have k3'' := (k3'.fr fr2 (by show ¬ w.heap.size + 2 = w.heap.size + 1; omega)).drew
      replace k2'' := k2''.drew
      have hb'' := (rz2 _ _ (rz1 _ _ hb)).pu ((Pu.refl _).drew)
      have h4'' := (rz2 _ _ (rz1 _ _ h4)).pu ((Pu.refl _).drew)
      have PP := (rp2 _ (rp1 _ hPU (Nat.le_refl _)) (by omega)).drew
      clear rp1 rz1 rp2 rz2 k1 k2 k3 k6 k1' k2' k3' k6' fr1 fr2 hb h4 hPU
      go_region
      go_wp2
      go_roundg (a % b).natAbs
      case measure => have := Hlt.out; omega
      case rel => exact ⟨b, a % b, σ2, σ4, A2, A4, n2, c2, n4, c4, k1'', k2'', k3'', hb'', h4'', HB.out.2, Nat.lt_trans Hlt.out.1 HB.out.2, rfl, Hgs.out, PP⟩

/-- the greatest common divisor of all -/
def gall (zs : List Int) : Int := zs.foldl (fun g z => ((Int.gcd g z : Nat) : Int)) 0
theorem gall_next {zs : List Int} {i : Nat} {z : Int} (h : zs[i]? = some z) : gall (zs.take (i + 1)) = ((Int.gcd z (gall (zs.take i)) : Nat) : Int) := by
  rw [List.take_add_one, h, gall, List.foldl_append, Int.gcd_comm]
  rfl
theorem gcd_below {a b : Int} {K : Nat} (ha : a.natAbs < K) (hb : b.natAbs < K) : ((Int.gcd a b : Nat) : Int).natAbs < K := by
  rw [Int.natAbs_natCast]
  rcases Decidable.em (a = 0) with e | e
  · rw [e, Int.gcd_zero_left]
    exact hb
  · exact Nat.lt_of_le_of_lt (Int.gcd_le_natAbs_left b e) ha
theorem word_pos (k : Nat) : 0 < (4294967296 : Nat) ^ k := Nat.pow_pos (by decide)
theorem gall_below {zs : List Int} {K : Nat} (hK : 0 < K) (h : ∀ z ∈ zs, z.natAbs < K) : (gall zs).natAbs < K := by
  have key : ∀ (l : List Int) (g : Int), g.natAbs < K → (∀ z ∈ l, z.natAbs < K) → (l.foldl (fun g z => ((Int.gcd g z : Nat) : Int)) g).natAbs < K := by
    intro l
    induction l with
    | nil => intro g hg _; exact hg
    | cons z l ih =>
      intro g hg hl
      exact ih _ (gcd_below hg (hl z (List.mem_cons_self ..))) (fun y hy => hl y (List.mem_cons_of_mem _ hy))
  exact key zs 0 (by simpa using hK) h

set_option maxHeartbeats 4000000 in
set_option maxRecDepth 100000 in
theorem Gcd_any (A : Option Addr) (n c : Nat) (zs : List Int) (w : World) (h : IL w A n c zs) (hn : n ≤ 1000000) (hb : ∀ z ∈ zs, z.natAbs < 4294967296 ^ 1000) :
    Calls Tryd.prog 34 #[.slice A n c] w fun e w' => ∃ v, e = .returned v ∧ ZR w' v (gall zs) ∧ Pu w w' := by
  have hl := h.len
  obtain ⟨W, hWe⟩ : ∃ W, W = (w.alloc (.cells #[.bool false, .slice none 0 0] 25)).alloc (.cells #[.bool false, .slice none 0 0] 25) := ⟨_, rfl⟩
  have hW : Pu w W := by
    rw [hWe]
    exact ((Pu.refl w).alloc _).alloc _
  have k1 : Blk W w.heap.size 25 #[.bool false, .slice none 0 0] := by rw [hWe]; exact (Blk.new w _ _).alloc _
  have k2 : Blk W (w.heap.size + 1) 25 #[.bool false, .slice none 0 0] := by rw [hWe]; exact Blk.at_new _ _ _ (by simp)
  rw [hWe] at k1 k2 hW
  clear hWe
  have z0 : ∀ W, ZR W (.agg #[.bool false, .slice none 0 0]) (gall (zs.take 0)) := fun W => ⟨false, none, 0, 0, [], rfl, Sl.nil _ _ _ _, Below_.nil _, tidy_nil, (fun e => by cases e), by simp [maxLen], rfl⟩
  have Z0 := Lib.hid z0
  have HB := Lib.hid hb
  have up0 := word_pos 1000
  have Up0 := Lib.hid up0
  clear z0 hb up0
  go_enter Tryd.func34, Tryd.ntmps34
  go_wp2_with fail
  go_loopw [8] (fun iv ws => ∃ (i : Nat) (g : Bool) (A1 : Option Addr) (n1 c1 : Nat), i ≤ n ∧ iv = .int .i64 (i : Int) ∧ Blk ws w.heap.size 25 #[.bool false, .slice none 0 0] ∧ Blk ws (w.heap.size + 1) 25 #[.bool g, .slice A1 n1 c1] ∧ ZR ws (.agg #[.bool g, .slice A1 n1 c1]) (gall (zs.take i)) ∧ Pu w ws) (fun iv _ => n - (intOf iv).toNat)
  case atStart => exact ⟨0, false, none, 0, 0, Nat.zero_le _, rfl, k1, k2, Z0.out _, hW⟩
  case round =>
    clear k1 k2 hW
    obtain ⟨i, g, A1, n1, c1, hi, rfl, k1, k2, hz, hP⟩ := hrel
    have Hz := Lib.hid hz
    clear hz
    have q20 : wr.cell? ⟨w.heap.size + 1, 0, none⟩ = some (.bool g) := k2.cell 0
    have q21 : wr.cell? ⟨w.heap.size + 1, 1, none⟩ = some (.slice A1 n1 c1) := k2.cell 1
    by_cases hlt : i < n
    · obtain ⟨z, hzi⟩ : ∃ z, zs[i]? = some z := ⟨_, List.getElem?_eq_getElem (by omega)⟩
      obtain ⟨b, off, gx, Ax, nx, cx, rfl, hbl, x0, x1, hx⟩ := (h.pu hP).at_ hzi
      have Hx := Lib.hid hx
      have Hzi := Lib.hid hzi
      clear hx hzi
      have hwi : IntKind.i64.wrap ((i : Int) + 1) = (i : Int) + 1 := IntWalk.i64_in _ (by omega)
      have pA : Pu wr (wr.alloc (.cells #[.bool gx, .slice Ax nx cx] 25)) := (Pu.refl wr).alloc _
      have y0 : (wr.alloc (.cells #[.bool gx, .slice Ax nx cx] 25)).cell? ⟨w.heap.size + 1, 0, none⟩ = some (.bool g) := (k2.pu pA).cell 0
      have y1 : (wr.alloc (.cells #[.bool gx, .slice Ax nx cx] 25)).cell? ⟨w.heap.size + 1, 1, none⟩ = some (.slice A1 n1 c1) := (k2.pu pA).cell 1
      clear q20 q21
      go_wp2_with fail
      refine (gcd_any _ _ z (gall (zs.take i)) _ (Hx.out.pu pA) (Hz.out.pu pA) (HB.out z (List.mem_of_getElem? Hzi.out)) (gall_below Up0.out fun y hy => HB.out y (List.mem_of_mem_take hy))).mono ?_
      rintro e u ⟨v, rfl, hv, p⟩
      rw [← gall_next Hzi.out] at hv
      obtain ⟨g', A', n', c', rfl⟩ := hv.shape
      have PU := pA.trans p
      replace k1 := k1.pu PU
      replace k2 := k2.pu PU
      have t0 : u.cell? ⟨w.heap.size + 1, 0, none⟩ = some (.bool g) := k2.cell 0
      have t1 : u.cell? ⟨w.heap.size + 1, 1, none⟩ = some (.slice A1 n1 c1) := k2.cell 1
      have f0 := k2.frozen 0
      have f1 := k2.frozen 1
      obtain ⟨k2', fr⟩ := over_n k2 g' A' n' c'
      obtain ⟨_, _, rz, rp⟩ := store_num k2 g' A' n' c'
      have k1' := k1.fr fr (by show ¬ w.heap.size = w.heap.size + 1; omega)
      have hv' := rz _ _ hv
      have PP := rp _ (hP.trans PU) (by omega)
      have Hv := Lib.hid hv'
      clear rz rp k1 k2 fr hv hv' PU pA y0 y1 hP p x0 x1
      go_wp2
      go_roundw
      case rel => exact ⟨i + 1, g', A', n', c', by omega, by go_num, k1', k2', Hv.out, PP⟩
      case measure => simp [intOf]; omega
    · obtain rfl : i = n := by omega
      have hzf := Hz.out
      rw [List.take_of_length_le (by omega)] at hzf
      have t0 : wr.cell? ⟨w.heap.size, 0, none⟩ = some (.bool false) := k1.cell 0
      have t1 : wr.cell? ⟨w.heap.size, 1, none⟩ = some (.slice none 0 0) := k1.cell 1
      have f0 := k1.frozen 0
      have f1 := k1.frozen 1
      obtain ⟨r0, r1, rz, rp⟩ := store_num k1 g A1 n1 c1
      have hv' := rz _ _ hzf
      have PP := rp _ hP (Nat.le_refl _)
      have Hv := Lib.hid hv'
      clear rz rp hzf hv'
      go_wp2
      exact bodyPost_ret (v := .agg #[.bool g, .slice A1 n1 c1]) (by simp [results, Tryd.results34, go_sem, r0, r1]) rfl ⟨_, rfl, Hv.out, PP⟩
end Go.Proofs.YtckfnbckoclhpaaDoor
