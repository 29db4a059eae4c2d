/- zed: gcd. zed: String: the digits. -/
import Derived.Test.YtckfnbckoclhpaaGreatDoorC07
import Derived.Test.YtckfnbckoclhpaaGreatDoorC06
import Derived.Test.YtckfnbckoclhpaaGreatDoorC02
import Derived.BigRegion
import Derived.Deep.LoopGhost
import Derived.Test.YtckfnbckoclhpaaGreatDoorC04
import Derived.Test.YtckfnbckoclhpaaGreatDoorShelf
import Derived.Test.YtckfnbckoclhpaaGreatDoorC01
import Derived.Lib.ConvBytes
import Derived.Laws.BytesString
namespace Go.Proofs.YtckfnbckoclhpaaGreatDoor
section
set_option linter.unusedVariables false
open Go.RowKit
theorem gcd_next (a b : Int) : Int.gcd b (a % b) = Int.gcd a b := by
  have h := Int.gcd_mul_left_add_right b (a % b) (a / b)
  rw [Int.mul_ediv_add_emod] at h
  rw [← h, Int.gcd_comm]
theorem mod_drop (a : Int) {b : Int} (h : b ≠ 0) : (a % b).natAbs < b.natAbs := by
  have h1 := Int.emod_nonneg a h
  have h2 := Int.emod_lt a h
  omega
theorem ZR.shape {w : World} {v : Value} {z : Int} (h : ZR w v z) : ∃ g A n c, v = .agg #[.bool g, .slice A n c] := by
  obtain ⟨g, A, n, c, l, rfl, -⟩ := h
  exact ⟨g, A, n, c, rfl⟩
theorem over_n {W : World} {b : Nat} {x : Bool} {y : Option Addr} {m d : Nat} (k : Blk W b 30 #[.bool x, .slice y m d]) (s : Bool) (A : Option Addr) (n c : Nat) :
    Blk ((W.setCell ⟨b, 0, none⟩ (.bool s)).setCell ⟨b, 1, none⟩ (.slice A n c)) b 30 #[.bool s, .slice A n c] ∧
    Fr (fun i => i = b) W ((W.setCell ⟨b, 0, none⟩ (.bool s)).setCell ⟨b, 1, none⟩ (.slice A n c)) :=
  ⟨(k.set_ 0 _).set_ 1 _, (Fr.one W b 0 _).trans (Fr.one _ b 1 _)⟩
set_option maxHeartbeats 4000000 in
set_option maxRecDepth 100000 in
theorem gcd_any (v1 v2 : Value) (z1 z2 : Int) (w : World) (h1 : ZR w v1 z1) (h2 : ZR w v2 z2) (b1 : z1.natAbs < 4294967296 ^ 40000) (b2 : z2.natAbs < 4294967296 ^ 40000) :
    Calls Tryz.prog 149 #[v1, v2] w fun e w' => ∃ v, e = .returned v ∧ ZR w' v ((Int.gcd z1 z2 : Nat) : Int) ∧ Pu w w' := by
  obtain ⟨s1, A1, n1, c1, rfl⟩ := h1.shape
  obtain ⟨s2, A2, n2, c2, rfl⟩ := h2.shape
  obtain ⟨W, hWe⟩ : ∃ W, W = ((w.alloc (.cells #[.bool s1, .slice A1 n1 c1] 30)).alloc (.cells #[.bool s2, .slice A2 n2 c2] 30)).alloc (.cells #[.bool false, .slice none 0 0] 30) := ⟨_, rfl⟩
  have hW : Pu w W := by
    rw [hWe]
    exact (((Pu.refl w).alloc _).alloc _).alloc _
  have k1 : Blk W w.heap.size 30 #[.bool s1, .slice A1 n1 c1] := by rw [hWe]; exact ((Blk.new w _ _).alloc _).alloc _
  have k2 : Blk W (w.heap.size + 1) 30 #[.bool s2, .slice A2 n2 c2] := by rw [hWe]; exact (Blk.at_new _ _ _ (by simp)).alloc _
  have k3 : Blk W (w.heap.size + 2) 30 #[.bool false, .slice none 0 0] := by rw [hWe]; exact Blk.at_new _ _ _ (by simp)
  have g1 := h1.pu hW
  have g2 := h2.pu hW
  clear h1 h2
  rw [hWe] at k1 k2 k3 g1 g2 hW
  clear hWe
  go_enter Tryz.func149, Tryz.ntmps149
  go_wp2_with fail
  go_loopg [] (z2.natAbs) (fun k ws => ∃ (a b : Int) (σ1 σ2 : Bool) (A1 A2 : Option Addr) (n1 c1 n2 c2 : Nat), Blk ws w.heap.size 30 #[.bool σ1, .slice A1 n1 c1] ∧ Blk ws (w.heap.size + 1) 30 #[.bool σ2, .slice A2 n2 c2] ∧ Blk ws (w.heap.size + 2) 30 #[.bool false, .slice none 0 0] ∧ ZR ws (.agg #[.bool σ1, .slice A1 n1 c1]) a ∧ ZR ws (.agg #[.bool σ2, .slice A2 n2 c2]) b ∧ a.natAbs < 4294967296 ^ 40000 ∧ b.natAbs < 4294967296 ^ 40000 ∧ b.natAbs = k ∧ Int.gcd a b = Int.gcd z1 z2 ∧ Pu w ws)
  case atStart => exact ⟨z1, z2, s1, s2, A1, A2, n1, c1, n2, c2, k1, k2, k3, g1, g2, b1, b2, rfl, rfl, hW⟩
  case round =>
    clear k1 k2 k3 g1 g2 b1 b2 hW
    obtain ⟨a, b, σ1, σ2, A1, A2, n1, c1, n2, c2, k1, k2, k3, ha, hb, ba, bb, hk, hg, hP⟩ := hrel
    have q20 : wr.cell? ⟨w.heap.size + 1, 0, none⟩ = some (.bool σ2) := k2.cell 0
    have q21 : wr.cell? ⟨w.heap.size + 1, 1, none⟩ = some (.slice A2 n2 c2) := k2.cell 1
    have hsg := sign_any _ b wr hb bb
    have Hg := Lib.hid hg
    clear hg
    rcases Decidable.em (b = 0) with hb0 | hb0
    · subst hb0
      have hab := fun W p => abs_any _ a W (ha.pu (w' := W) p) ba
      have hgv : ((a.natAbs : Nat) : Int) = ((Int.gcd z1 z2 : Nat) : Int) := by
        rw [← Hg.out, Int.gcd_zero]
      rw [hgv] at hab
      have Hab := Lib.hid hab
      clear hgv hk hab ba bb
      go_wp2_with fail
      refine hsg.mono ?_
      rintro e u0 ⟨rfl, p0⟩
      have q10 : u0.cell? ⟨w.heap.size, 0, none⟩ = some (.bool σ1) := (k1.pu p0).cell 0
      have q11 : u0.cell? ⟨w.heap.size, 1, none⟩ = some (.slice A1 n1 c1) := (k1.pu p0).cell 1
      clear q20 q21
      go_wp2_with fail
      refine (Hab.out _ p0).mono ?_
      rintro e u ⟨v, rfl, hz, p⟩
      obtain ⟨σ, A, n, c, rfl⟩ := hz.shape
      have k3u := (k3.pu p0).pu p
      have t0 : u.cell? ⟨w.heap.size + 2, 0, none⟩ = some (.bool false) := k3u.cell 0
      have t1 : u.cell? ⟨w.heap.size + 2, 1, none⟩ = some (.slice none 0 0) := k3u.cell 1
      have f0 := k3u.frozen 0
      have f1 := k3u.frozen 1
      obtain ⟨r0, r1, rf, rp⟩ := store_num k3u σ A n c
      have rz := rf _ _ hz
      have PP := rp _ ((hP.trans p0).trans p) (by omega)
      clear rf rp
      go_wp2
      exact bodyPost_ret (v := .agg #[.bool σ, .slice A n c]) (by simp [results, Tryz.results149, go_sem, r0, r1]) rfl ⟨_, rfl, rz, PP⟩
    · have hs0 : (b.sign == 0) = false := by
        have : b.sign ≠ 0 := fun e => hb0 (Int.sign_eq_zero_iff_zero.1 e)
        simpa using hb0
      have hdm := fun W p => divmod_any _ _ a b W (ha.pu (w' := W) p) (hb.pu p) ba bb hb0 (div_ok _ _ (by omega))
      have hlt := mod_drop a hb0
      have hgs := gcd_next a b
      rw [Hg.out] at hgs
      have Hgs := Lib.hid hgs
      have Hlt := Lib.hid (And.intro hlt hk)
      have HB := Lib.hid (And.intro ba bb)
      have Hdm := Lib.hid hdm
      clear hgs hlt hk ba bb hb0 hdm
      generalize b.sign = σb at *
      go_wp2_with fail
      refine hsg.mono ?_
      rintro e u0 ⟨rfl, p0⟩
      have q10 : u0.cell? ⟨w.heap.size, 0, none⟩ = some (.bool σ1) := (k1.pu p0).cell 0
      have q11 : u0.cell? ⟨w.heap.size, 1, none⟩ = some (.slice A1 n1 c1) := (k1.pu p0).cell 1
      have q30 : u0.cell? ⟨w.heap.size + 1, 0, none⟩ = some (.bool σ2) := (k2.pu p0).cell 0
      have q31 : u0.cell? ⟨w.heap.size + 1, 1, none⟩ = some (.slice A2 n2 c2) := (k2.pu p0).cell 1
      clear q20 q21
      go_wp2_with fail
      refine (Hdm.out _ p0).mono ?_
      rintro e u ⟨v3, v4, rfl, h3, h4, p⟩
      obtain ⟨σ3, A3, n3, c3, rfl⟩ := h3.shape
      obtain ⟨σ4, A4, n4, c4, rfl⟩ := h4.shape
      obtain ⟨U, hU⟩ : ∃ U, U = (u.alloc (.cells #[.bool σ3, .slice A3 n3 c3] 30)).alloc (.cells #[.bool σ4, .slice A4 n4 c4] 30) := ⟨_, rfl⟩
      have hsz : w.heap.size + 2 < u.heap.size + 1 := by
        have h1 := k3.lt
        have h2 := p.size
        have h3 := p0.size
        omega
      have pU : Pu u U := by rw [hU]; exact ((Pu.refl u).alloc _).alloc _
      have k6 : Blk U (u.heap.size + 1) 30 #[.bool σ4, .slice A4 n4 c4] := by rw [hU]; exact Blk.at_new _ _ _ (by simp)
      have PU := (p0.trans p).trans pU
      replace k1 := k1.pu PU
      replace k2 := k2.pu PU
      replace k3 := k3.pu PU
      replace h4 := h4.pu pU
      replace hb := hb.pu PU
      have hPU := hP.trans PU
      rw [hU] at k1 k2 k3 k6 h4 hb hPU
      clear hsg Hdm ha h3 p0 p pU PU hP q10 q11 q30 q31 hU
      go_wp2_with fail
      generalize (u.alloc (.cells #[.bool σ3, .slice A3 n3 c3] 30)).alloc (.cells #[.bool σ4, .slice A4 n4 c4] 30) = U at *
      have y0 := k2.cell 0
      have y1 := k2.cell 1
      have x0 := k1.cell 0
      have x1 := k1.cell 1
      have fx0 := k1.frozen 0
      have fx1 := k1.frozen 1
      have m0 := k6.cell 0
      have m1 := k6.cell 1
      obtain ⟨k1', fr1⟩ := over_n k1 σ2 A2 n2 c2
      obtain ⟨_, _, rz1, rp1⟩ := store_num k1 σ2 A2 n2 c2
      have k2' := k2.fr fr1 (by show ¬ w.heap.size + 1 = w.heap.size; omega)
      have k3' := k3.fr fr1 (by show ¬ w.heap.size + 2 = w.heap.size; omega)
      have k6' := k6.fr fr1 (by show ¬ u.heap.size + 1 = w.heap.size; omega)
      have y0' := k2'.cell 0
      have y1' := k2'.cell 1
      have fy0 := k2'.frozen 0
      have fy1 := k2'.frozen 1
      have m0' := k6'.cell 0
      have m1' := k6'.cell 1
      obtain ⟨k2'', fr2⟩ := over_n k2' σ4 A4 n4 c4
      obtain ⟨_, _, rz2, rp2⟩ := store_num k2' σ4 A4 n4 c4
      have k1'' := (k1'.fr fr2 (by show ¬ w.heap.size = w.heap.size + 1; omega)).drew
      have k3'' := (k3'.fr fr2 (by show ¬ w.heap.size + 2 = w.heap.size + 1; omega)).drew
      replace k2'' := k2''.drew
      have hb'' := (rz2 _ _ (rz1 _ _ hb)).pu ((Pu.refl _).drew)
      have h4'' := (rz2 _ _ (rz1 _ _ h4)).pu ((Pu.refl _).drew)
      have PP := (rp2 _ (rp1 _ hPU (Nat.le_refl _)) (by omega)).drew
      clear rp1 rz1 rp2 rz2 k1 k2 k3 k6 k1' k2' k3' k6' fr1 fr2 hb h4 hPU
      go_region
      go_wp2
      go_roundg (a % b).natAbs
      case measure => have := Hlt.out; omega
      case rel => exact ⟨b, a % b, σ2, σ4, A2, A4, n2, c2, n4, c4, k1'', k2'', k3'', hb'', h4'', HB.out.2, Nat.lt_trans Hlt.out.1 HB.out.2, rfl, Hgs.out, PP⟩
def gall (zs : List Int) : Int := zs.foldl (fun g z => ((Int.gcd g z : Nat) : Int)) 0
theorem gall_next {zs : List Int} {i : Nat} {z : Int} (h : zs[i]? = some z) : gall (zs.take (i + 1)) = ((Int.gcd z (gall (zs.take i)) : Nat) : Int) := by
  rw [List.take_add_one, h, gall, List.foldl_append, Int.gcd_comm]
  rfl
theorem gcd_below {a b : Int} {K : Nat} (ha : a.natAbs < K) (hb : b.natAbs < K) : ((Int.gcd a b : Nat) : Int).natAbs < K := by
  rw [Int.natAbs_natCast]
  rcases Decidable.em (a = 0) with e | e
  · rw [e, Int.gcd_zero_left]
    exact hb
  · exact Nat.lt_of_le_of_lt (Int.gcd_le_natAbs_left b e) ha
theorem word_pos (k : Nat) : 0 < (4294967296 : Nat) ^ k := Nat.pow_pos (by decide)
theorem gall_below {zs : List Int} {K : Nat} (hK : 0 < K) (h : ∀ z ∈ zs, z.natAbs < K) : (gall zs).natAbs < K := by
  have key : ∀ (l : List Int) (g : Int), g.natAbs < K → (∀ z ∈ l, z.natAbs < K) → (l.foldl (fun g z => ((Int.gcd g z : Nat) : Int)) g).natAbs < K := by
    intro l
    induction l with
    | nil => intro g hg _; exact hg
    | cons z l ih =>
      intro g hg hl
      exact ih _ (gcd_below hg (hl z (List.mem_cons_self ..))) (fun y hy => hl y (List.mem_cons_of_mem _ hy))
  exact key zs 0 (by simpa using hK) h
set_option maxHeartbeats 4000000 in
set_option maxRecDepth 100000 in
theorem Gcd_any (A : Option Addr) (n c : Nat) (zs : List Int) (w : World) (h : IL w A n c zs) (hn : n ≤ 4000000) (hb : ∀ z ∈ zs, z.natAbs < 4294967296 ^ 40000) :
    Calls Tryz.prog 102 #[.slice A n c] w fun e w' => ∃ v, e = .returned v ∧ ZR w' v (gall zs) ∧ Pu w w' := by
  have hl := h.len
  obtain ⟨W, hWe⟩ : ∃ W, W = (w.alloc (.cells #[.bool false, .slice none 0 0] 30)).alloc (.cells #[.bool false, .slice none 0 0] 30) := ⟨_, rfl⟩
  have hW : Pu w W := by
    rw [hWe]
    exact ((Pu.refl w).alloc _).alloc _
  have k1 : Blk W w.heap.size 30 #[.bool false, .slice none 0 0] := by rw [hWe]; exact (Blk.new w _ _).alloc _
  have k2 : Blk W (w.heap.size + 1) 30 #[.bool false, .slice none 0 0] := by rw [hWe]; exact Blk.at_new _ _ _ (by simp)
  rw [hWe] at k1 k2 hW
  clear hWe
  have z0 : ∀ W, ZR W (.agg #[.bool false, .slice none 0 0]) (gall (zs.take 0)) := fun W => ⟨false, none, 0, 0, [], rfl, Sl.nil _ _ _ _, Below_.nil _, tidy_nil, (fun e => by cases e), ⟨by simp [maxLen], W32.none _ _⟩, rfl⟩
  have Z0 := Lib.hid z0
  have HB := Lib.hid hb
  have up0 := word_pos 40000
  have Up0 := Lib.hid up0
  clear z0 hb up0
  go_enter Tryz.func102, Tryz.ntmps102
  go_wp2_with fail
  go_loopw [8] (fun iv ws => ∃ (i : Nat) (g : Bool) (A1 : Option Addr) (n1 c1 : Nat), i ≤ n ∧ iv = .int .i64 (i : Int) ∧ Blk ws w.heap.size 30 #[.bool false, .slice none 0 0] ∧ Blk ws (w.heap.size + 1) 30 #[.bool g, .slice A1 n1 c1] ∧ ZR ws (.agg #[.bool g, .slice A1 n1 c1]) (gall (zs.take i)) ∧ Pu w ws) (fun iv _ => n - (intOf iv).toNat)
  case atStart => exact ⟨0, false, none, 0, 0, Nat.zero_le _, rfl, k1, k2, Z0.out _, hW⟩
  case round =>
    clear k1 k2 hW
    obtain ⟨i, g, A1, n1, c1, hi, rfl, k1, k2, hz, hP⟩ := hrel
    have Hz := Lib.hid hz
    clear hz
    have q20 : wr.cell? ⟨w.heap.size + 1, 0, none⟩ = some (.bool g) := k2.cell 0
    have q21 : wr.cell? ⟨w.heap.size + 1, 1, none⟩ = some (.slice A1 n1 c1) := k2.cell 1
    by_cases hlt : i < n
    · obtain ⟨z, hzi⟩ : ∃ z, zs[i]? = some z := ⟨_, List.getElem?_eq_getElem (by omega)⟩
      obtain ⟨b, off, gx, Ax, nx, cx, rfl, hbl, x0, x1, hx⟩ := (h.pu hP).at_ hzi
      have Hx := Lib.hid hx
      have Hzi := Lib.hid hzi
      clear hx hzi
      have hwi : IntKind.i64.wrap ((i : Int) + 1) = (i : Int) + 1 := IntWalk.i64_in _ (by omega)
      have pA : Pu wr (wr.alloc (.cells #[.bool gx, .slice Ax nx cx] 30)) := (Pu.refl wr).alloc _
      have y0 : (wr.alloc (.cells #[.bool gx, .slice Ax nx cx] 30)).cell? ⟨w.heap.size + 1, 0, none⟩ = some (.bool g) := (k2.pu pA).cell 0
      have y1 : (wr.alloc (.cells #[.bool gx, .slice Ax nx cx] 30)).cell? ⟨w.heap.size + 1, 1, none⟩ = some (.slice A1 n1 c1) := (k2.pu pA).cell 1
      clear q20 q21
      go_wp2_with fail
      refine (gcd_any _ _ z (gall (zs.take i)) _ (Hx.out.pu pA) (Hz.out.pu pA) (HB.out z (List.mem_of_getElem? Hzi.out)) (gall_below Up0.out fun y hy => HB.out y (List.mem_of_mem_take hy))).mono ?_
      rintro e u ⟨v, rfl, hv, p⟩
      rw [← gall_next Hzi.out] at hv
      obtain ⟨g', A', n', c', rfl⟩ := hv.shape
      have PU := pA.trans p
      replace k1 := k1.pu PU
      replace k2 := k2.pu PU
      have t0 : u.cell? ⟨w.heap.size + 1, 0, none⟩ = some (.bool g) := k2.cell 0
      have t1 : u.cell? ⟨w.heap.size + 1, 1, none⟩ = some (.slice A1 n1 c1) := k2.cell 1
      have f0 := k2.frozen 0
      have f1 := k2.frozen 1
      obtain ⟨k2', fr⟩ := over_n k2 g' A' n' c'
      obtain ⟨_, _, rz, rp⟩ := store_num k2 g' A' n' c'
      have k1' := k1.fr fr (by show ¬ w.heap.size = w.heap.size + 1; omega)
      have hv' := rz _ _ hv
      have PP := rp _ (hP.trans PU) (by omega)
      have Hv := Lib.hid hv'
      clear rz rp k1 k2 fr hv hv' PU pA y0 y1 hP p x0 x1
      go_wp2
      go_roundw
      case rel => exact ⟨i + 1, g', A', n', c', by omega, by go_num, k1', k2', Hv.out, PP⟩
      case measure => simp [intOf]; omega
    · obtain rfl : i = n := by omega
      have hzf := Hz.out
      rw [List.take_of_length_le (by omega)] at hzf
      have t0 : wr.cell? ⟨w.heap.size, 0, none⟩ = some (.bool false) := k1.cell 0
      have t1 : wr.cell? ⟨w.heap.size, 1, none⟩ = some (.slice none 0 0) := k1.cell 1
      have f0 := k1.frozen 0
      have f1 := k1.frozen 1
      obtain ⟨r0, r1, rz, rp⟩ := store_num k1 g A1 n1 c1
      have hv' := rz _ _ hzf
      have PP := rp _ hP (Nat.le_refl _)
      have Hv := Lib.hid hv'
      clear rz rp hzf hv'
      go_wp2
      exact bodyPost_ret (v := .agg #[.bool g, .slice A1 n1 c1]) (by simp [results, Tryz.results102, go_sem, r0, r1]) rfl ⟨_, rfl, Hv.out, PP⟩
end
section
set_option linter.unusedVariables false
open Go.RowKit
theorem eiByte : ElemI Tryz.prog 74 5 (.int .u8 0) 1 1 := ⟨Tryz.underlying74, by kernel_rfl, rfl, by decide⟩
def SlU (w : World) (A : Option Addr) (n c : Nat) (q : List Nat) : Prop := Sl w 1 A n c (wds q) ∧ ∀ b off, A = some ⟨b, off, none⟩ → ∃ cs, Blk w b 169 cs
theorem SlU.push {w w' : World} {A : Option Addr} {n c : Nat} {q : List Nat} {base k : Nat} {v : Value} {xs : List Value} (h : SlU w A n c q) (ho : w.ownsRow base 5 1 v k xs) (hg : w.grownBy w' v.ownBlock) : SlU w' A n c q := by
  have key : ∀ b off, A = some ⟨b, off, none⟩ → v.ownBlock ≠ some b := fun b off e => by
    obtain ⟨cs, hb⟩ := h.2 b off e
    exact own_ne ho hb (by decide)
  refine ⟨h.1.fr (Fr.of_grown hg) (fun _ b off e e2 => key b off e e2), fun b off e => ?_⟩
  obtain ⟨cs, hb⟩ := h.2 b off e
  exact ⟨cs, hb.fr (Fr.of_grown hg) (key b off e)⟩
theorem pow_left {a b : Nat} (h : a ≤ b) (n : Nat) : a ^ n ≤ b ^ n := Nat.pow_le_pow_left h n
theorem pow_pow (a b n : Nat) : (a ^ b) ^ n = a ^ (b * n) := (Nat.pow_mul a b n).symm
theorem pow_cmp {a b c d : Nat} (h : a ^ b < c ^ d) {n : Nat} (hc : c ^ d ≤ a ^ n) (ha : 1 < a) : b < n := (Nat.pow_lt_pow_iff_right ha).1 (Nat.lt_of_lt_of_le h hc)
theorem ten_lt' (N : Nat) {L P : Nat} (h : 10 ^ L ≤ P) (hP : P < 4294967296 ^ N) : L < 10 * N := by
  refine pow_cmp (a := 10) (b := L) (c := 4294967296) (d := N) (Nat.lt_of_le_of_lt h hP) ?_ (by omega)
  rw [← pow_pow]
  exact pow_left (by omega) N
theorem ten_lt {L P : Nat} (h : 10 ^ L ≤ P) (hP : P < 4294967296 ^ 40000) : L < 400000 := ten_lt' 40000 h hP
set_option maxHeartbeats 1500000 in
set_option maxRecDepth 100000 in
theorem string_any (v : Value) (z : Int) (w : World) (h : ZR w v z) (hz : z.natAbs < 4294967296 ^ 40000) :
    Calls Tryz.prog 56 #[v] w fun e w' => e = .returned (.string ⟨(ztext z).toArray⟩) ∧ Pu w w' := by
  obtain ⟨g, A, n, c, l, rfl, hs, hb, ht, hg, ⟨hc, hU⟩, rfl⟩ := h
  rw [sgn_abs] at hz
  have hn := tidy_len ht hz
  have hl := hs.wlen
  have hW : Pu w (w.alloc (.cells #[.bool g, .slice A n c] 30)) := (Pu.refl w).alloc _
  have hS := hs.pu hW
  rcases Decidable.em (l = []) with e | hne
  · subst e
    obtain rfl : n = 0 := by simpa using hl.symm
    have e0 : ztext (sgn g (pval 4294967296 [])) = [48] := by
      rw [show pval 4294967296 [] = 0 from rfl, sgn_zero]
      rfl
    rw [e0]
    go_enter Tryz.func56, Tryz.ntmps56
    go_wp2
    go_ret
    exact ⟨rfl, hW⟩
  · have hn0 : n ≠ 0 := fun e => hne (List.eq_nil_of_length_eq_zero (by omega))
    have e0 : ((n : Int) == 0) = false := by simp; omega
    have kA : Blk (w.alloc (.cells #[.bool g, .slice A n c] 30)) w.heap.size 30 #[.bool g, .slice A n c] := Blk.new _ _ _
    go_enter Tryz.func56, Tryz.ntmps56
    go_wp2_with fail
    go_loopg [3, 4] (pval 4294967296 l) (fun k ov mv wr => ∃ (A1 : Option Addr) (n1 c1 : Nat) (ds : List Nat) (A2 : Option Addr) (n2 c2 : Nat) (m : List Nat), ov = .slice A1 n1 c1 ∧ mv = .slice A2 n2 c2 ∧ wr.ownsRow (w.heap.size + 1) 5 1 (.slice A1 n1 c1) n1 (dbs ds) ∧ Sl wr 1 A2 n2 c2 (wds m) ∧ n2 ≤ 40000 ∧ Below_ 10 ds ∧ Below_ 4294967296 m ∧ Tidy m ∧ pval 10 ds + 10 ^ ds.length * pval 4294967296 m = pval 4294967296 l ∧ pval 4294967296 m ≤ k ∧ ds.length < 400010 ∧ Pu (w.alloc (.cells #[.bool g, .slice A n c] 30)) wr)
    case atStart => exact ⟨none, 0, 0, [], A, n, c, l, rfl, rfl, World.ownsRow_nil _ _ _ _, hS, by omega, Below_.nil _, hb, ht, by simp [pval], Nat.le_refl _, by simp, Pu.refl _⟩
    case round =>
      obtain ⟨A1, n1, c1, ds, A2, n2, c2, m, rfl, rfl, ho, hSm, hn2, hds, hbm, htm, hv, hk, hld0, hP⟩ := hrel
      have HV := Lib.hid hv
      clear hv
      have hlm := hSm.wlen
      have hld : ds.length = n1 := by have := ho.1; simpa using this
      by_cases hm0 : n2 = 0
      · obtain rfl : m = [] := List.eq_nil_of_length_eq_zero (by omega)
        subst hm0
        have hd0 : pval 10 ds = pval 4294967296 l := by simpa [pval] using HV.out
        have hpl := pval_pos ht hne
        have hdne : ds ≠ [] := fun e => by rw [e] at hd0; simp [pval] at hd0; omega
        have hn1 : 0 < n1 := by rw [← hld]; exact List.length_pos_iff.2 hdne
        have hcv := conv_row (P := Tryz.prog) (src := 74) (dst := 9) (c := c1) (ds.map dby) Tryz.underlying74 Tryz.underlying5 Tryz.underlying9 (by rw [← dbs_enc hds]; exact Sl.of_own ho) hn1
        have e1 : Lib.trimRightB ((ds.map dby).toArray.toList) 48 = (digs (pval 4294967296 l)).map dby := by
          rw [List.toList_toArray, trim_dby hds, digs_eq (tidied_below hds) (tidied_tidy ds), tidied_val, hd0]
        have htr : Calls Tryz.prog 91 #[.string ⟨(ds.map dby).toArray⟩, .string ⟨#[48]⟩] wr fun e w' => e = .returned (.string ⟨((digs (pval 4294967296 l)).map dby).toArray⟩) ∧ w' = wr := by
          rw [← e1]
          exact Tryz.strings_TrimRight_one ⟨(ds.map dby).toArray⟩ 48 (by decide) wr (by simp [ByteArray.size]; omega)
        clear e1
        have hDp : 0 < ((digs (pval 4294967296 l)).map dby).length := by
          rw [List.length_map, digs_pos (by omega)]
          simp
        have hDl : ((digs (pval 4294967296 l)).map dby).length ≤ 400010 := by
          have h1 := tidied_len ds
          have h2 : tidied ds = digs (pval 4294967296 l) := by rw [digs_eq (tidied_below hds) (tidied_tidy ds), tidied_val, hd0]
          rw [h2] at h1
          rw [List.length_map]
          omega
        have hz0 := ztext_pos (g := g) (V := pval 4294967296 l) (by omega)
        have hz1 : ztext (sgn g (pval 4294967296 l)) = (if g then [45] else []) ++ ((digs (pval 4294967296 l)).map dby).reverse := by
          rw [← List.map_reverse]
          exact hz0
        clear hz0
        have kA1 := kA.pu hP
        have c0 : wr.cell? ⟨w.heap.size, 0, none⟩ = some (.bool g) := kA1.cell 0
        have Hz1 := Lib.hid hz1
        have HP := Lib.hid (hW.trans hP)
        clear hz1 hd0 hpl hdne ho hP hSm hds HV hbm htm hk hs hS hb ht hg kA kA1 hW hne hn1 hld
        have fin : ∀ S : List UInt8, S.reverse = ztext (sgn g (pval 4294967296 l)) → 0 < S.length → S.length ≤ 800000 → ∃ N c W, (convert 9 74 (.string ⟨S.toArray⟩)).run Tryz.prog wr = .ok (.slice (some ⟨wr.heap.size, 0, none⟩) N c) W ∧
            Calls Tryz.prog 92 #[.slice (some ⟨wr.heap.size, 0, none⟩) N c] W fun e w' => e = .returned (.tuple #[]) ∧ (convert 74 9 (.slice (some ⟨wr.heap.size, 0, none⟩) N c)).run Tryz.prog w' = .ok (.string ⟨(ztext (sgn g (pval 4294967296 l))).toArray⟩) w' ∧ Pu wr w' := by
          intro S hS hS0 hS1
          obtain ⟨c5, W5, h5, hc5, hW5⟩ := bytes_run (P := Tryz.prog) (src := 9) (dst := 74) wr S Tryz.underlying9 Tryz.underlying74 Tryz.underlying5
          refine ⟨S.length, c5, W5, h5, ?_⟩
          have hH : Sort.Holds encB W5 wr.heap.size 0 S.toArray := by rw [hW5]; exact bytes_holds _ _ _
          refine (AnyE.slices_Reverse Tryz.laysRev encB (fun _ => rfl) wr.heap.size 0 c5 S W5 hH (by omega)).mono ?_
          rintro e w6 ⟨rfl, n6, h6⟩
          rw [hW5] at h6
          obtain ⟨hs6, hp6⟩ := rev_sl c5 h6 hc5
          refine ⟨rfl, ?_, hp6⟩
          rw [← hS]
          exact conv_row S.reverse Tryz.underlying74 Tryz.underlying5 Tryz.underlying9 hs6 hS0
        have Fin := Lib.hid fin
        clear fin
        generalize (digs (pval 4294967296 l)).map dby = D at *
        have hDs : (⟨D.toArray⟩ : ByteArray).size + (⟨#[45]⟩ : ByteArray).size ≤ 9223372036854775807 := by simp [ByteArray.size]; omega
        have hD45 : (⟨D.toArray⟩ : ByteArray) ++ (⟨#[45]⟩ : ByteArray) = ⟨(D ++ [45]).toArray⟩ := str_snoc D [45]
        cases g
        · obtain ⟨N5, c5, W5, hcv5, hrev⟩ := Fin.out D (by rw [Hz1.out]; rfl) hDp (by omega)
          have Hrev := Lib.hid hrev
          clear hrev
          go_wp2_with fail
          refine htr.mono ?_
          rintro e w2 ⟨rfl, rfl⟩
          go_wp2_with fail
          refine Hrev.out.mono ?_
          rintro e w3 ⟨rfl, hcv6, hp6⟩
          have hp7 := HP.out.trans hp6
          go_wp2
          go_ret
          exact ⟨rfl, hp7⟩
        · obtain ⟨S5, hS5⟩ : ∃ S5, S5 = D ++ [45] := ⟨_, rfl⟩
          obtain ⟨N5, c5, W5, hcv5, hrev⟩ := Fin.out S5 (by rw [Hz1.out, hS5]; simp) (by rw [hS5]; simp) (by rw [hS5]; simp; omega)
          rw [← hS5] at hD45
          clear hS5 Fin Hz1
          have Hrev := Lib.hid hrev
          clear hrev
          go_wp2_with fail
          refine htr.mono ?_
          rintro e w2 ⟨rfl, rfl⟩
          go_wp2_with fail
          refine Hrev.out.mono ?_
          rintro e w3 ⟨rfl, hcv6, hp6⟩
          have hp7 := HP.out.trans hp6
          go_wp2
          go_ret
          exact ⟨rfl, hp7⟩
      · have d1 : decide ((n2 : Int) > 0) = true := by simp; omega
        have d2 : decide ((0 : Int) < (n2 : Int)) = true := by simp; omega
        have hpm := pval_pos htm (fun e => by rw [e] at hlm; simp at hlm; omega)
        have hL := ten_lt (L := ds.length) (P := pval 4294967296 l) (by
          have : 10 ^ ds.length * 1 ≤ 10 ^ ds.length * pval 4294967296 m := Nat.mul_le_mul_left _ hpm
          have := HV.out
          omega) hz
        go_wp2_with fail
        refine (short_any A2 n2 c2 m 1000000000 _ hSm (by omega) hbm (by omega) (by omega)).mono ?_
        rintro e w1 ⟨A3, n3, c3, q, rfl, hn3, hc3, hS3, hb3, ht3, hq3, p3, hu3⟩
        have hU3 : SlU w1 A3 n3 c3 q := ⟨hS3, hu3⟩
        clear hu3
        go_wp2_with fail
        have hM := Nat.div_add_mod (pval 4294967296 m) 1000000000
        have hr0 := Nat.mod_lt (pval 4294967296 m) (show 1000000000 > 0 by omega)
        have hlt : pval 4294967296 q < pval 4294967296 m := by rw [hq3]; exact Nat.div_lt_self hpm (by omega)
        rw [← hq3] at hM
        have hv2 : pval 10 ds + 10 ^ ds.length * (pval 4294967296 m % 1000000000 + 10 ^ 9 * pval 4294967296 q) = pval 4294967296 l := by
          rw [← HV.out]
          congr 2
          rw [show (10 : Nat) ^ 9 = 1000000000 from rfl]
          omega
        have ho1 := own_pu ho p3
        have hP1 := hP.trans p3
        clear hq3 hM ho hP hSm
        obtain ⟨r0, hr00⟩ : ∃ r0, r0 = pval 4294967296 m % 1000000000 := ⟨_, rfl⟩
        have er0 : (pval 4294967296 m : Int) % 1000000000 = (r0 : Int) := by rw [hr00]; omega
        rw [← hr00] at hv2 hr0
        clear hr00
        have Hlt := Lib.hid hlt
        have Hv2 := Lib.hid hv2
        clear hlt hv2 HV
        rw [er0]
        clear er0
        go_loopw [3, 5, 22] (fun ov rv iv ws => ∃ (A1 : Option Addr) (n1 c1 : Nat) (ds2 : List Nat) (r i : Nat), i ≤ 9 ∧ ov = .slice A1 n1 c1 ∧ rv = .int .u64 (r : Int) ∧ iv = .int .i64 i ∧ ws.ownsRow (w.heap.size + 1) 5 1 (.slice A1 n1 c1) n1 (dbs ds2) ∧ ds2.length = ds.length + i ∧ r < 10 ^ (9 - i) ∧ Below_ 10 ds2 ∧ pval 10 ds2 + 10 ^ ds2.length * (r + 10 ^ (9 - i) * pval 4294967296 q) = pval 4294967296 l ∧ SlU ws A3 n3 c3 q ∧ Pu (w.alloc (.cells #[.bool g, .slice A n c] 30)) ws) (fun _ _ iv _ => 9 - (intOf iv).toNat)
        case atStart => exact ⟨A1, n1, c1, ds, r0, 0, by omega, rfl, rfl, rfl, ho1, rfl, hr0, hds, Hv2.out, hU3, hP1⟩
        case round =>
          clear ho1 hP1 Hv2 hr0 hU3 hS3
          obtain ⟨A4, n4, c4, ds2, r, i, hi, rfl, rfl, rfl, ho4, hl4, hr4, hb4, hv4, hU4, hP4⟩ := hrel
          have HV4 := Lib.hid hv4
          have HR4 := Lib.hid hr4
          clear hv4 hr4
          have hn4 : ds2.length = n4 := by have := ho4.1; simpa using this
          by_cases hi9 : i < 9
          · have em : (r : Int) % 10 = ((r % 10 : Nat) : Int) := by omega
            have ed : (r : Int) / 10 = ((r / 10 : Nat) : Int) := by omega
            have hd10 : r % 10 < 10 := Nat.mod_lt _ (by omega)
            have hsz4 : w.heap.size + 1 ≤ wr.heap.size := by simpa using hP4.size
            obtain ⟨K, hK⟩ : ∃ K, 10 ^ (9 - (i + 1)) = K := ⟨_, rfl⟩
            have hKi : 10 ^ (9 - i) = 10 * K := by rw [show 9 - i = (9 - (i + 1)) + 1 by omega, Nat.pow_succ, hK, Nat.mul_comm]
            have hr5 : r / 10 < K := by
              have := HR4.out
              rw [hKi] at this
              omega
            have hv5 : pval 10 (ds2 ++ [r % 10]) + 10 ^ (ds2 ++ [r % 10]).length * (r / 10 + K * pval 4294967296 q) = pval 4294967296 l := by
              rw [← HV4.out, pval_snoc, hKi, List.length_append, List.length_singleton, Nat.pow_succ, Nat.mul_assoc (10 ^ ds2.length), Nat.add_assoc, ← Nat.mul_add]
              congr 2
              rw [Nat.mul_add, Nat.mul_assoc]
              omega
            have Hr5 := Lib.hid hr5
            have Hv5 := Lib.hid hv5
            have HK := Lib.hid hK
            clear hr5 hv5 hK hKi
            have hix : ∀ W : World, (Instr.index 9 (.string ⟨#[48, 49, 50, 51, 52, 53, 54, 55, 56, 57]⟩) (.int .u64 ((r : Int) % 10))).run Tryz.prog W = .ok (.int .u8 ((48 + r % 10 : Nat) : Int)) W := by
              intro W
              rw [em]
              clear em
              generalize r % 10 = d at *
              have hcases : d = 0 ∨ d = 1 ∨ d = 2 ∨ d = 3 ∨ d = 4 ∨ d = 5 ∨ d = 6 ∨ d = 7 ∨ d = 8 ∨ d = 9 := by omega
              rcases hcases with hd | hd | hd | hd | hd | hd | hd | hd | hd | hd <;> subst hd <;> rfl
            have hrb : r < 10 ^ 9 := Nat.lt_of_lt_of_le HR4.out (Nat.pow_le_pow_right (by omega) (by omega))
            have Hd := Lib.hid hd10
            have Hed := Lib.hid ed
            clear em ed
            rw [show ((48 + r % 10 : Nat) : Int) = Int.ofNat (48 + r % 10) from rfl] at hix
            clear hd10
            go_wp2_with (at_builtin; refine wpList_push eiByte rfl (.tmp 24) (.tmp 28) rfl _ rfl (by simp [Value.oneCell']) rfl rfl ho4 (by simp [maxLen]; omega) (by omega) hsz4 ?_)
            intro A5 c5 w5 ho5 hg5
            have hP5 := hP4.grown hg5 (fun k hk => by have := (ho4.lt k hk).1; simpa using this)
            have hU5 := hU4.push ho4 hg5
            have ho6 : w5.ownsRow (w.heap.size + 1) 5 1 (.slice A5 (n4 + 1) c5) (n4 + 1) (dbs (ds2 ++ [r % 10])) := by
              show w5.ownsRow _ _ _ _ _ (List.map _ (_ ++ _))
              rw [List.map_append]
              exact ho5
            clear ho4 hg5 ho5 hix
            go_wp2
            go_roundw
            case rel => exact ⟨A5, n4 + 1, c5, ds2 ++ [r % 10], r / 10, i + 1, by omega, rfl, by rw [Hed.out], by go_num, ho6, by simp; omega, by rw [HK.out]; exact Hr5.out, hb4.snoc Hd.out, by rw [HK.out]; exact Hv5.out, hU5, hP5⟩
            case measure => simp [intOf]; omega
          · obtain rfl : i = 9 := by omega
            have hr0 : r = 0 := by have := HR4.out; simp at this; exact this
            have hv5 : pval 10 ds2 + 10 ^ ds2.length * pval 4294967296 q = pval 4294967296 l := by
              have := HV4.out
              rw [hr0] at this
              simpa using this
            have Hv5 := Lib.hid hv5
            clear hv5
            go_wp2
            go_roundg (pval 4294967296 q)
            case measure => have := Hlt.out; omega
            case rel => exact ⟨A4, n4, c4, ds2, A3, n3, c3, q, rfl, rfl, ho4, hU4.1, by omega, hb4, hb3, ht3, Hv5.out, Nat.le_refl _, by omega, hP4⟩
end
end Go.Proofs.YtckfnbckoclhpaaGreatDoor
