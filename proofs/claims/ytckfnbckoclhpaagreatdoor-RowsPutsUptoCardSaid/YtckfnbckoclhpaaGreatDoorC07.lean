/- zed: Cmp; Len32, Bits; Small. zed: long: a division by several words. zed: long: the walk. zed: divide, in all. -/
import Derived.Test.YtckfnbckoclhpaaGreatDoorC02
import Derived.Test.YtckfnbckoclhpaaGreatDoorShelf
import Derived.Test.YtckfnbckoclhpaaGreatDoorC04
import Derived.Deep.RegionHeld3
namespace Go.Proofs.YtckfnbckoclhpaaGreatDoor
section
set_option linter.unusedVariables false
open Go.RowKit
def cmpZ (x y : Int) : Int := if x < y then -1 else if y < x then 1 else 0
theorem cmpZ_lt {x y : Int} (h : x < y) : cmpZ x y = -1 := by simp [cmpZ, h]
theorem cmpZ_gt {x y : Int} (h : y < x) : cmpZ x y = 1 := by
  unfold cmpZ
  rw [if_neg (by omega), if_pos h]
theorem cmpZ_nat (x y : Nat) : cmpZ (x : Int) (y : Int) = cmpN x y := by
  unfold cmpZ cmpN
  by_cases h : x < y
  · rw [if_pos (by omega), if_pos h]
  · rw [if_neg (by omega), if_neg h]
    by_cases h2 : y < x
    · rw [if_pos (by omega), if_pos h2]
    · rw [if_neg (by omega), if_neg h2]
theorem cmpZ_neg (x y : Nat) : cmpZ (-(x : Int)) (-(y : Int)) = cmpN y x := by
  unfold cmpZ cmpN
  by_cases h : y < x
  · rw [if_pos (by omega), if_pos h]
  · rw [if_neg (by omega), if_neg h]
    by_cases h2 : x < y
    · rw [if_pos (by omega), if_pos h2]
    · rw [if_neg (by omega), if_neg h2]
set_option maxHeartbeats 1000000 in
set_option maxRecDepth 100000 in
theorem cmp_any (v1 v2 : Value) (z1 z2 : Int) (w : World) (h1 : ZR w v1 z1) (h2 : ZR w v2 z2) (b1 : z1.natAbs < 4294967296 ^ 40000) (b2 : z2.natAbs < 4294967296 ^ 40000) :
    Calls Tryz.prog 106 #[v1, v2] w fun e w' => e = .returned (.int .i64 (cmpZ z1 z2)) ∧ Pu w w' := by
  obtain ⟨g1, A1, n1, c1, l1, rfl, hs1, hb1, ht1, hg1, ⟨hc1, hU1⟩, rfl⟩ := h1
  obtain ⟨g2, A2, n2, c2, l2, rfl, hs2, hb2, ht2, hg2, ⟨hc2, hU2⟩, rfl⟩ := h2
  rw [sgn_abs] at b1 b2
  have hn1 := tidy_len ht1 b1
  have hn2 := tidy_len ht2 b2
  have ll1 := hs1.wlen
  have ll2 := hs2.wlen
  have hW : Pu w ((w.alloc (.cells #[.bool g1, .slice A1 n1 c1] 30)).alloc (.cells #[.bool g2, .slice A2 n2 c2] 30)) := ((Pu.refl w).alloc _).alloc _
  have k12 := compare_any A1 A2 n1 c1 n2 c2 l1 l2 _ (hs1.pu hW) (hs2.pu hW) (by omega) (by omega) hb1 hb2 ht1 ht2
  have k21 := compare_any A2 A1 n2 c2 n1 c1 l2 l1 _ (hs2.pu hW) (hs1.pu hW) (by omega) (by omega) hb2 hb1 ht2 ht1
  have p1 : g1 = true → 0 < pval 4294967296 l1 := fun h => pval_pos ht1 (hg1 h)
  have p2 : g2 = true → 0 < pval 4294967296 l2 := fun h => pval_pos ht2 (hg2 h)
  have key : ∀ r, cmpZ (sgn g1 (pval 4294967296 l1)) (sgn g2 (pval 4294967296 l2)) = r → Calls Tryz.prog 106 #[.agg #[.bool g1, .slice A1 n1 c1], .agg #[.bool g2, .slice A2 n2 c2]] w fun e w' => e = .returned (.int .i64 r) ∧ Pu w w' := by
    intro r hr
    generalize pval 4294967296 l1 = P1 at *
    generalize pval 4294967296 l2 = P2 at *
    clear hb1 hb2 ht1 ht2 hg1 hg2 hs1 hs2 b1 b2
    cases g1 <;> cases g2
    · have er : r = cmpN P1 P2 := by rw [← hr]; exact cmpZ_nat P1 P2
      subst er
      clear hr p1 p2 k21
      go_enter Tryz.func106, Tryz.ntmps106
      go_wp2_with fail
      refine k12.mono ?_
      rintro e w1 ⟨rfl, h1⟩
      go_wp2
      go_ret
      exact ⟨rfl, hW.trans h1⟩
    · have h0 := p2 rfl
      obtain rfl : r = 1 := by rw [← hr]; exact cmpZ_gt (by show -(P2 : Int) < (P1 : Int); omega)
      clear hr p1 p2 k12 k21
      go_enter Tryz.func106, Tryz.ntmps106
      go_wp2_with fail
      refine (sgnf_any _ _).mono ?_
      rintro e w1 ⟨rfl, rfl⟩
      go_wp2
      go_ret
      exact ⟨rfl, hW⟩
    · have h0 := p1 rfl
      obtain rfl : r = -1 := by rw [← hr]; exact cmpZ_lt (by show -(P1 : Int) < (P2 : Int); omega)
      clear hr p1 p2 k12 k21
      go_enter Tryz.func106, Tryz.ntmps106
      go_wp2_with fail
      refine (sgnf_any _ _).mono ?_
      rintro e w1 ⟨rfl, rfl⟩
      go_wp2
      go_ret
      exact ⟨rfl, hW⟩
    · have er : r = cmpN P2 P1 := by rw [← hr]; exact cmpZ_neg P1 P2
      subst er
      clear hr p1 p2 k12
      go_enter Tryz.func106, Tryz.ntmps106
      go_wp2_with fail
      refine k21.mono ?_
      rintro e w1 ⟨rfl, h1⟩
      go_wp2
      go_ret
      exact ⟨rfl, hW.trans h1⟩
  exact key _ rfl
end
section
set_option linter.unusedVariables false
open Go.RowKit
/- zed: long: a division by several words. -/
theorem bitLenAux_lt : ∀ (f x : Nat), x < 2 ^ f → x < 2 ^ Lib.bitLenAux f x
  | 0, x, h => by simpa [Lib.bitLenAux] using h
  | f + 1, x, h => by
    unfold Lib.bitLenAux
    split
    · rename_i e
      subst e
      decide
    · have := bitLenAux_lt f (x / 2) (by rw [Nat.pow_succ] at h; omega)
      rw [Nat.add_comm, Nat.pow_succ]
      omega
theorem bitLenAux_ge : ∀ (f x : Nat), x ≠ 0 → x < 2 ^ f → 2 ^ (Lib.bitLenAux f x - 1) ≤ x
  | 0, x, h0, h => by simp at h; omega
  | f + 1, x, h0, h => by
    unfold Lib.bitLenAux
    rw [if_neg h0]
    rcases Nat.eq_zero_or_pos (x / 2) with e | e
    · rw [e]
      have : Lib.bitLenAux f 0 = 0 := by cases f <;> simp [Lib.bitLenAux]
      rw [this]
      simp
      omega
    · have h1 := bitLenAux_ge f (x / 2) (by omega) (by rw [Nat.pow_succ] at h; omega)
      have h2 : 0 < Lib.bitLenAux f (x / 2) := by
        rcases Nat.eq_zero_or_pos (Lib.bitLenAux f (x / 2)) with e2 | e2
        · have := bitLenAux_lt f (x / 2) (by rw [Nat.pow_succ] at h; omega)
          rw [e2] at this
          omega
        · exact e2
      rw [show 1 + Lib.bitLenAux f (x / 2) - 1 = (Lib.bitLenAux f (x / 2) - 1) + 1 by omega, Nat.pow_succ]
      omega
theorem lead_zeros {x : Nat} (h0 : x ≠ 0) (h : x < 4294967296) : 1 ≤ Lib.bitLen x ∧ Lib.bitLen x ≤ 32 ∧ x * 2 ^ (32 - Lib.bitLen x) < 4294967296 := by
  have h1 : x < 2 ^ Lib.bitLen x := bitLenAux_lt 64 x (by omega)
  have h2 : 2 ^ (Lib.bitLen x - 1) ≤ x := bitLenAux_ge 64 x h0 (by omega)
  have h3 : 1 ≤ Lib.bitLen x := by
    rcases Nat.eq_zero_or_pos (Lib.bitLen x) with e | e
    · rw [e] at h1
      omega
    · exact e
  have h4 : Lib.bitLen x ≤ 32 := by
    rcases Nat.lt_or_ge 32 (Lib.bitLen x) with e | e
    · have := Nat.pow_le_pow_right (n := 2) (by omega) (show 32 ≤ Lib.bitLen x - 1 by omega)
      omega
    · exact e
  refine ⟨h3, h4, ?_⟩
  have h5 : x * 2 ^ (32 - Lib.bitLen x) < 2 ^ Lib.bitLen x * 2 ^ (32 - Lib.bitLen x) := Nat.mul_lt_mul_of_pos_right h1 (Nat.pow_pos (by omega))
  rw [← Nat.pow_add, show Lib.bitLen x + (32 - Lib.bitLen x) = 32 by omega] at h5
  exact h5
structure LongAt (X Y : Nat) (j N : Nat) (xs qs : List Nat) : Prop where
  len : xs.length = N
  below : Below_ 4294967296 xs
  qbelow : Below_ 4294967296 qs
  val : pval 4294967296 xs + Y * (4294967296 ^ j * pval 4294967296 qs) = X
  rest : pval 4294967296 (xs.drop j) < Y
theorem long_next {X Y j N : Nat} {lo sg h' sg' qs : List Nat} (hY : 0 < Y) (hl : LongAt X Y (j + 1) N (lo ++ (sg ++ h')) qs) (hlo : lo.length = j) (h0 : pval 4294967296 h' = 0) (hlen : sg'.length = sg.length) (hb : Below_ 4294967296 sg') (hv : pval 4294967296 sg' = pval 4294967296 sg % Y) (hlt : pval 4294967296 sg < 4294967296 * Y) :
    LongAt X Y j N (lo ++ (sg' ++ h')) (pval 4294967296 sg / Y :: qs) := by
  have hd : ∀ s : List Nat, (lo ++ (s ++ h')).drop j = s ++ h' := fun s => by rw [← hlo]; simp
  refine ⟨?_, ?_, ?_, ?_, ?_⟩
  · have := hl.len
    simp at this ⊢
    omega
  · intro x hx
    rcases List.mem_append.1 hx with h | h
    · exact hl.below x (by simp [h])
    · rcases List.mem_append.1 h with h | h
      · exact hb x h
      · exact hl.below x (by simp [h])
  · intro x hx
    rcases List.mem_cons.1 hx with rfl | hx
    · exact (Nat.div_lt_iff_lt_mul hY).2 hlt
    · exact hl.qbelow x hx
  · have h1 := hl.val
    have hdm := Nat.div_add_mod (pval 4294967296 sg) Y
    rw [pval_append, pval_append, h0, Nat.mul_zero, Nat.add_zero, hlo] at h1 ⊢
    rw [hv]
    generalize pval 4294967296 sg / Y = d at *
    generalize pval 4294967296 sg % Y = r at *
    rw [← hdm] at h1
    simp only [pval, Nat.pow_succ, Nat.mul_add] at h1 ⊢
    rw [← h1]
    have e1 : 4294967296 ^ j * (Y * d) = Y * (4294967296 ^ j * d) := by rw [Nat.mul_left_comm]
    have e2 : 4294967296 ^ j * 4294967296 * pval 4294967296 qs = 4294967296 ^ j * (4294967296 * pval 4294967296 qs) := by rw [Nat.mul_assoc]
    rw [e1, e2]
    omega
  · rw [hd, pval_append, h0, Nat.mul_zero, Nat.add_zero, hv]
    exact Nat.mod_lt _ hY
/- zed: long: the walk. -/
theorem lead_fits {x : Nat} (h0 : x ≠ 0) (h : x < 4294967296) : (x + 1) * 2 ^ (32 - Lib.bitLen x) ≤ 4294967296 := by
  have h1 : x < 2 ^ Lib.bitLen x := bitLenAux_lt 64 x (by omega)
  have h4 := (lead_zeros h0 h).2.1
  have h5 : (x + 1) * 2 ^ (32 - Lib.bitLen x) ≤ 2 ^ Lib.bitLen x * 2 ^ (32 - Lib.bitLen x) := Nat.mul_le_mul_right _ h1
  rw [← Nat.pow_add, show Lib.bitLen x + (32 - Lib.bitLen x) = 32 by omega] at h5
  exact h5
theorem shifted {l : List Nat} {n s top : Nat} (hn : l.length = n + 1) (hb : Below_ 4294967296 l) (ht : l[n]? = some top) (h0 : top ≠ 0) (hs : (top + 1) * 2 ^ s ≤ 4294967296) :
    pval 4294967296 l * 2 ^ s < 4294967296 ^ (n + 1) ∧ 2 ^ s * 4294967296 ^ n ≤ pval 4294967296 l * 2 ^ s := by
  have h1 := pval_cut 4294967296 l n (by omega)
  have h2 := pval_lt (hb.take n)
  rw [List.length_take, Nat.min_eq_left (by omega)] at h2
  rw [pval_drop_at ht, List.drop_eq_nil_of_le (by omega)] at h1
  simp only [pval, Nat.mul_zero, Nat.add_zero] at h1
  constructor
  · have h3 : pval 4294967296 l < 4294967296 ^ n * (top + 1) := by rw [Nat.mul_add, Nat.mul_one]; omega
    have h4 : pval 4294967296 l * 2 ^ s < 4294967296 ^ n * (top + 1) * 2 ^ s := Nat.mul_lt_mul_of_pos_right h3 (Nat.pow_pos (by omega))
    rw [Nat.mul_assoc] at h4
    have h5 : 4294967296 ^ n * ((top + 1) * 2 ^ s) ≤ 4294967296 ^ n * 4294967296 := Nat.mul_le_mul_left _ hs
    rw [Nat.pow_succ]
    omega
  · rw [Nat.mul_comm]
    refine Nat.mul_le_mul_right _ ?_
    have : 4294967296 ^ n * 1 ≤ 4294967296 ^ n * top := Nat.mul_le_mul_left _ (by omega)
    omega
set_option maxHeartbeats 4000000 in
set_option maxRecDepth 100000 in
theorem long_any (A1 A2 : Option Addr) (n1 c1 n2 c2 : Nat) (l1 l2 : List Nat) (w : World) (hs1 : Sl w 1 A1 n1 c1 (wds l1)) (hs2 : Sl w 1 A2 n2 c2 (wds l2)) (hb1 : Below_ 4294967296 l1) (hb2 : Below_ 4294967296 l2) (ht1 : Tidy l1) (ht2 : Tidy l2) (hn1 : n1 ≤ 40000) (hn2 : n2 ≤ 40000) (h2 : 2 ≤ n2) (hge : pval 4294967296 l2 ≤ pval 4294967296 l1) :
    Calls Tryz.prog 190 #[.slice A1 n1 c1, .slice A2 n2 c2] w fun e w' => ∃ A3 n3 c3 q A4 n4 c4 r, e = .returned (.tuple #[.slice A3 n3 c3, .slice A4 n4 c4]) ∧ Sl w' 1 A3 n3 c3 (wds q) ∧ Sl w' 1 A4 n4 c4 (wds r) ∧ n3 ≤ 80000 ∧ n4 ≤ 80000 ∧ c3 ≤ maxLen ∧ c4 ≤ maxLen ∧ Below_ 4294967296 q ∧ Below_ 4294967296 r ∧ pval 4294967296 q = pval 4294967296 l1 / pval 4294967296 l2 ∧ pval 4294967296 r = pval 4294967296 l1 % pval 4294967296 l2 ∧ Pu w w' := by
  have ll1 := hs1.wlen
  have ll2 := hs2.wlen
  have hn12 : n2 ≤ n1 := by
    rcases Nat.lt_or_ge n1 n2 with e | e
    · have := pval_shorter (b := 4294967296) (by omega) hb1 ht2 (by omega)
      omega
    · exact e
  obtain ⟨t, rfl⟩ : ∃ t, n2 = t + 1 := ⟨n2 - 1, by omega⟩
  obtain ⟨top0, htop0⟩ : ∃ x, l2[t]? = some x := ⟨_, List.getElem?_eq_getElem (by omega)⟩
  have htb := hb2 top0 (List.mem_of_getElem? htop0)
  have htz : top0 ≠ 0 := by
    rintro rfl
    refine ht2 ?_
    rw [List.getLast?_eq_getElem?, ll2]
    exact htop0
  obtain ⟨s, hse⟩ : ∃ s, s = 32 - Lib.bitLen top0 := ⟨_, rfl⟩
  have hlz := lead_zeros htz htb
  have hs31 : s ≤ 31 := by omega
  have hfit := lead_fits htz htb
  rw [← hse] at hfit
  obtain ⟨hY1, hY2⟩ := shifted ll2 hb2 htop0 htz hfit
  have hlead : ∀ W, Calls Tryz.prog 198 #[.int .u32 (top0 : Int)] W fun e w' => e = .returned (.int .i64 (s : Int)) ∧ W = w' := by
    intro W
    have := Tryz.bits_LeadingZeros32 (top0 : Int) W (by omega) (by omega)
    have e : (32 : Int) - (Lib.bitLen (top0 : Int).toNat : Int) = (s : Int) := by
      rw [Int.toNat_natCast]
      omega
    rw [e] at this
    exact this.mono fun e w' ⟨h1, h2⟩ => ⟨h1, h2.symm⟩
  obtain ⟨q2, o2, rfl, hq2, cell2⟩ := hs2.wat htop0
  have ht1' : ((t + 1 : Nat) : Int) - 1 = (t : Int) := by omega
  have ht0 : (0 : Int) ≤ (t : Int) := by omega
  have htl : (t : Int) < ((t + 1 : Nat) : Int) := by omega
  have hwt : IntKind.i64.wrap (t : Int) = (t : Int) := IntWalk.i64_in _ (by omega)
  have Hlead := Lib.hid hlead
  have HS := Lib.hid (And.intro hse hlz)
  have HY := Lib.hid (And.intro hY1 hY2)
  have Htop0 := Lib.hid htop0
  clear hlead hse hlz hfit hY1 hY2 htop0
  go_enter Tryz.func190, Tryz.ntmps190
  go_wp2_with fail
  refine (Hlead.out _).mono ?_
  rintro e w1 ⟨rfl, rfl⟩
  go_wp2_with fail
  refine (shift_any A1 n1 c1 l1 s _ hs1 (by omega) hb1 hs31).mono ?_
  rintro e w5 ⟨A5, c5, xs0, rfl, hc5, hS5, hb5, hv5, p5, cs5, ho5, rfl⟩
  obtain ⟨gx, rfl, hgx, hX⟩ := XA.of_own ho5 (by omega)
  have hxl := hS5.wlen
  have hle5 := own_le ho5
  go_wp2_with fail
  refine (shift_any _ (t + 1) c2 l2 s _ (hs2.pu p5) (by omega) hb2 hs31).mono ?_
  rintro e w6 ⟨A6, c6, ys0, rfl, hc6, hS6, hb6, hv6, p6, cs6, ho6, rfl⟩
  obtain ⟨gy, rfl, hgy, hYA⟩ := XA.of_own ho6 (by omega)
  have hgx5 := hX.lt
  have hgy6 := hYA.lt
  have hSy := tidied_Sl hS6
  have htrim := trim_any _ (t + 1 + 1) c6 ys0 _ hS6 (by omega) hc6
  obtain ⟨ys, hys⟩ : ∃ ys, ys = tidied ys0 := ⟨_, rfl⟩
  obtain ⟨m, hm⟩ : ∃ m, m = ys.length := ⟨_, rfl⟩
  rw [← hys, ← hm] at hSy htrim
  have hyb : Below_ 4294967296 ys := by rw [hys]; exact tidied_below hb6
  have hyt : Tidy ys := by rw [hys]; exact tidied_tidy _
  have hyv : pval 4294967296 ys = pval 4294967296 l2 * 2 ^ s := by rw [hys, tidied_val]; exact hv6
  have hmt : m ≤ t + 1 := by
    rw [hm]
    exact tidy_len hyt (by rw [hyv]; exact HY.out.1)
  have hm2 : 2 ≤ m := by
    rcases Nat.lt_or_ge m 2 with e | e
    · exfalso
      have h3 := pval_lt hyb
      rw [hyv, ← hm] at h3
      have h4 := HY.out.2
      have h5 := Nat.pow_le_pow_right (n := 4294967296) (by decide) (show m ≤ 1 by omega)
      have h6 := Nat.pow_le_pow_right (n := 4294967296) (by decide) (show 1 ≤ t by omega)
      have h7 : 1 * 4294967296 ^ t ≤ 2 ^ s * 4294967296 ^ t := Nat.mul_le_mul_right _ (Nat.pow_pos (by decide))
      omega
    · exact e
  obtain ⟨K, hK⟩ : ∃ K, K + m = n1 + 1 := ⟨n1 + 1 - m, by omega⟩
  have hmax : max ((n1 : Int) + 1 - (m : Int)) 0 = (K : Int) := by omega
  have hsubw : IntKind.i64.wrap ((n1 : Int) + 1 - (m : Int)) = (n1 : Int) + 1 - (m : Int) := IntWalk.i64_in _ (by omega)
  have hmk := fun W => run_make_words K K (by omega) (Nat.le_refl _) W
  have Hmk := Lib.hid hmk
  have Hys := Lib.hid hys
  have Hm := Lib.hid hm
  clear hmk hys hm
  go_wp2_with fail
  refine htrim.mono ?_
  rintro e w7 ⟨rfl, rfl⟩
  obtain ⟨top, htop⟩ : ∃ x, ys[m - 1]? = some x := ⟨_, List.getElem?_eq_getElem (by have := Hm.out; omega)⟩
  obtain ⟨next, hnext⟩ : ∃ x, ys[m - 2]? = some x := ⟨_, List.getElem?_eq_getElem (by have := Hm.out; omega)⟩
  have htopB := hyb top (List.mem_of_getElem? htop)
  have hnextB := hyb next (List.mem_of_getElem? hnext)
  have htop1 : 0 < top := by
    rcases Nat.eq_zero_or_pos top with e | e
    · exfalso
      subst e
      refine hyt ?_
      rw [List.getLast?_eq_getElem?, ← Hm.out]
      exact htop
    · exact e
  obtain ⟨W3, hW3⟩ : ∃ W3, W3 = w6.alloc (.cells (Array.replicate K (.int .u32 0)) 169) := ⟨_, rfl⟩
  have q3 : Pu w6 W3 := by rw [hW3]; exact (Pu.refl _).alloc _
  have hO : WA W3 w6.heap.size (List.replicate K 0) := by rw [hW3]; exact WA.made w6 K
  have hX3 := (hX.pu p6).pu q3
  have hSy3 := hSy.pu q3
  have PW3 : Pu w W3 := (p5.trans p6).trans q3
  obtain ⟨m1, hm1⟩ : ∃ m1, m1 = m - 1 := ⟨_, rfl⟩
  obtain ⟨m2, hm2'⟩ : ∃ m2, m2 = m - 2 := ⟨_, rfl⟩
  rw [← hm1] at htop
  rw [← hm2'] at hnext
  obtain ⟨qa, oa, ea, hqa, cellT⟩ := hSy3.wat htop
  obtain ⟨qb, ob, eb, hqb, cellN⟩ := hSy3.wat hnext
  injection ea with ea
  injection ea with ea1 ea2
  injection eb with eb
  injection eb with eb1 eb2
  subst ea1 ea2 eb1 eb2
  have em1 : (m : Int) - 1 = (m1 : Int) := by omega
  have em2 : (m : Int) - 2 = (m2 : Int) := by omega
  have hwm1 : IntKind.i64.wrap ((m1 : Int)) = (m1 : Int) := IntWalk.i64_in _ (by omega)
  have hwm2 : IntKind.i64.wrap ((m2 : Int)) = (m2 : Int) := IntWalk.i64_in _ (by omega)
  have hm1a : (0 : Int) ≤ (m1 : Int) := by omega
  have hm1b : (m1 : Int) < (m : Int) := by omega
  have hm2a : (0 : Int) ≤ (m2 : Int) := by omega
  have hm2b : (m2 : Int) < (m : Int) := by omega
  have ht64 := u64_small (a := top) (by omega)
  have hn64 := u64_small (a := next) (by omega)
  simp only [Nat.zero_add] at cellT cellN
  have Htop := Lib.hid htop
  have Hnext := Lib.hid hnext
  have Hm12 := Lib.hid (And.intro hm1 hm2')
  rw [hW3] at cellT cellN
  have HW3 := Lib.hid hW3
  clear htop hnext hm1 hm2' hW3
  go_wp2_with (simp only [Hmk.out])
  go_region
  go_wp2_with fail
  obtain ⟨X, hXv⟩ : ∃ X, X = pval 4294967296 xs0 := ⟨_, rfl⟩
  obtain ⟨Y, hYv⟩ : ∃ Y, Y = pval 4294967296 ys := ⟨_, rfl⟩
  have hYpos : 0 < Y := by rw [hYv]; exact pval_pos hyt (fun e => by have := Hm.out; rw [e] at this; simp at this; omega)
  have hstart : LongAt X Y K (n1 + 1) xs0 [] := by
    refine ⟨hxl, hb5, Below_.nil _, by simp [pval, hXv], ?_⟩
    have h3 := pval_cut 4294967296 xs0 K (by omega)
    have h4 : pval 4294967296 xs0 < 2 ^ s * 4294967296 ^ n1 := by
      rw [hv5, Nat.mul_comm]
      exact Nat.mul_lt_mul_of_pos_left (by have := pval_lt hb1; rwa [ll1] at this) (Nat.pow_pos (by decide))
    have h5 : 4294967296 ^ n1 = 4294967296 ^ K * 4294967296 ^ m1 := by
      rw [← Nat.pow_add]
      congr 1
      have := Hm12.out
      omega
    have h6 : 4294967296 ^ K * pval 4294967296 (xs0.drop K) < 4294967296 ^ K * (2 ^ s * 4294967296 ^ m1) := by
      rw [h5, Nat.mul_left_comm] at h4
      omega
    have h7 := Nat.lt_of_mul_lt_mul_left h6
    have h8 : 2 ^ s * 4294967296 ^ m1 ≤ 2 ^ s * 4294967296 ^ t := Nat.mul_le_mul_left _ (Nat.pow_le_pow_right (by decide) (by have := Hm12.out; omega))
    have h9 := HY.out.2
    rw [hYv, hyv]
    omega
  have hgo : w6.heap.size < W3.heap.size := by rw [HW3.out]; simp
  have HXY := Lib.hid (And.intro (hXv.trans hv5) (hYv.trans hyv))
  have HYv := Lib.hid hYv
  have Hst := Lib.hid hstart
  clear hX hS5 hS6 ho5 ho6 hYA hSy htrim hs1 hs2 cellT cellN hqa hqb hXv hYv hstart p5 p6 q3 hv5 hv6 hyv
  rw [← HW3.out]
  go_loopw [10] (fun av ws => ∃ (j : Nat) (xs qs : List Nat), j ≤ K ∧ av = .int .i64 ((j : Int) - 1) ∧ LongAt X Y j (n1 + 1) xs qs ∧ j + qs.length = K ∧ XA ws gx xs ∧ WA ws w6.heap.size (List.replicate j 0 ++ qs) ∧ Fr (fun k => k = gx ∨ k = w6.heap.size) W3 ws) (fun av _ => (intOf av + 1).toNat)
  case atStart => exact ⟨K, xs0, [], Nat.le_refl _, rfl, Hst.out, by simp, hX3.pu (Pu.refl _).drew, by simpa using hO.drew, ((Pu.refl W3).drew).fr⟩
  case round =>
    clear hX3 hO Hst
    obtain ⟨j, xs, qs, hj, rfl, hL, hql, hXj, hOj, hF⟩ := hrel
    have HL := Lib.hid hL
    have hxlen := hL.len
    have hxbel := hL.below
    have hSyj : Sl wr 1 (some ⟨gy, 0, none⟩) m c6 (wds ys) := hSy3.fr hF (fun _ b off e hk => by
      injection e with e
      injection e with e1 _
      subst e1
      rcases hk with h | h <;> omega)
    have hgw : w6.heap.size < wr.heap.size := Nat.lt_of_lt_of_le hgo hF.size
    have PWr : Pu w wr := PW3.step hF (fun k hk => by
      rcases hk with rfl | rfl
      · exact hgx
      · have := PW3.size
        omega)
    clear hL
    rcases j with _ | j
    · have ej : ((0 : Nat) : Int) - 1 = -1 := rfl
      rw [ej]
      have hqK : qs.length = K := by omega
      have hSo : Sl wr 1 (some ⟨w6.heap.size, 0, none⟩) K K (wds qs) := by
        have := hOj.sl (n := K) (c := K) (by simp; omega) (Nat.le_refl _)
        rwa [List.replicate_zero, List.nil_append, List.take_of_length_le (by omega)] at this
      have htr2 := trim_any _ K K qs wr hSo (by omega) (by simp [maxLen]; omega)
      have hbk := back_any (some ⟨gx, 0, none⟩) (n1 + 1) c5 xs s wr (hXj.sl hxlen.symm hle5.1) (by omega) hxbel hs31
      have hX0 : pval 4294967296 xs + Y * pval 4294967296 qs = X := by
        have := HL.out.val
        rwa [Nat.pow_zero, Nat.one_mul] at this
      have hr0 : pval 4294967296 xs < Y := by simpa using HL.out.rest
      have hqq : pval 4294967296 qs = pval 4294967296 l1 / pval 4294967296 l2 := by
        have h3 : X / Y = pval 4294967296 qs := by
          rw [← hX0, Nat.add_comm, Nat.mul_add_div hYpos, Nat.div_eq_of_lt hr0, Nat.add_zero]
        rw [← h3, HXY.out.1, HXY.out.2, Nat.mul_div_mul_right _ _ (Nat.pow_pos (by decide))]
      have hrr : pval 4294967296 xs / 2 ^ s = pval 4294967296 l1 % pval 4294967296 l2 := by
        have h3 : X % Y = pval 4294967296 xs := by
          rw [← hX0, Nat.add_comm, Nat.mul_add_mod, Nat.mod_eq_of_lt hr0]
        rw [← h3, HXY.out.1, HXY.out.2, Nat.mul_mod_mul_right, Nat.mul_div_cancel _ (Nat.pow_pos (by decide))]
      rw [hrr] at hbk
      have hT := tidied_Sl hSo
      have fin := Lib.hid (And.intro (tidied_below HL.out.qbelow) ((tidied_val 4294967296 qs).trans hqq))
      have hle := tidied_len qs
      have Hbk := Lib.hid hbk
      have HT := Lib.hid hT
      have hKm : K ≤ maxLen := by simp [maxLen]; omega
      clear hX0 hr0 hqq hrr hbk hT hSo hOj hXj hSyj
      go_wp2_with fail
      refine htr2.mono ?_
      rintro e w8 ⟨rfl, rfl⟩
      go_wp2_with fail
      refine Hbk.out.mono ?_
      rintro e w9 ⟨A9, n9, c9, r9, rfl, hn9, hc9, hS9, hb9, ht9, hv9, p9⟩
      have Hv9 := Lib.hid hv9
      have hSq := HT.out.pu p9
      have PF := PWr.trans p9
      clear hv9
      go_wp2
      go_ret2
      exact ⟨_, _, K, tidied qs, A9, n9, c9, r9, rfl, hSq, hS9, by omega, by omega, hKm, hc9, fin.out.1, hb9, fin.out.2, Hv9.out, PF⟩
    · have ej : ((j + 1 : Nat) : Int) - 1 = (j : Int) := by omega
      rw [ej]
      obtain ⟨k, hk⟩ : ∃ k, k = j + m := ⟨_, rfl⟩
      obtain ⟨k1, hk1⟩ : ∃ k1, k1 = j + m - 1 := ⟨_, rfl⟩
      obtain ⟨k2, hk2⟩ : ∃ k2, k2 = j + m - 2 := ⟨_, rfl⟩
      obtain ⟨hi, hhi⟩ : ∃ x, xs[k]? = some x := ⟨_, List.getElem?_eq_getElem (by omega)⟩
      obtain ⟨mid, hmid⟩ : ∃ x, xs[k1]? = some x := ⟨_, List.getElem?_eq_getElem (by omega)⟩
      obtain ⟨low, hlow⟩ : ∃ x, xs[k2]? = some x := ⟨_, List.getElem?_eq_getElem (by omega)⟩
      have hhiB := hxbel hi (List.mem_of_getElem? hhi)
      have hmidB := hxbel mid (List.mem_of_getElem? hmid)
      have hlowB := hxbel low (List.mem_of_getElem? hlow)
      have x1 := hXj.cell hhi
      have x2 := hXj.cell hmid
      have x3 := hXj.cell hlow
      rw [hk] at hhi
      rw [hk1] at hmid
      rw [hk2] at hlow
      have htop := Htop.out
      have hnext := Hnext.out
      rw [Hm12.out.1] at htop
      rw [Hm12.out.2] at hnext
      obtain ⟨lo, sg, h', exs, hlo, hsgl, hsgb, hh0, hdrop, hlt1, hlt2, hit, hv1, hv2, hu1, hu2⟩ := long_place xs ys j m hi mid low top next hxbel hyb hm2 Hm.out.symm (by omega) (by rw [← HYv.out]; exact HL.out.rest) htop1 hhi hmid hlow htop hnext
      subst exs
      have hkm : (j : Int) + (m : Int) = (k : Int) := by omega
      have ek1 : (k : Int) - 1 = (k1 : Int) := by omega
      have ek2 : (k : Int) - 2 = (k2 : Int) := by omega
      have hwk : IntKind.i64.wrap (k : Int) = (k : Int) := IntWalk.i64_in _ (by omega)
      have hwk1 : IntKind.i64.wrap (k1 : Int) = (k1 : Int) := IntWalk.i64_in _ (by omega)
      have hwk2 : IntKind.i64.wrap (k2 : Int) = (k2 : Int) := IntWalk.i64_in _ (by omega)
      have hka : (0 : Int) ≤ (k : Int) := by omega
      have hkb : (k : Int) < (n1 : Int) + 1 := by omega
      have hk1a : (0 : Int) ≤ (k1 : Int) := by omega
      have hk1b : (k1 : Int) < (n1 : Int) + 1 := by omega
      have hk2a : (0 : Int) ≤ (k2 : Int) := by omega
      have hk2b : (k2 : Int) < (n1 : Int) + 1 := by omega
      have u1 := u64_small (a := hi) (by omega)
      have u2 := u64_small (a := mid) (by omega)
      have u3 := u64_small (a := low) (by omega)
      have hgu := fun W => guess_any hi mid low top next W hit hmidB hlowB htopB hnextB htop1
      have Hgu := Lib.hid hgu
      have HP := Lib.hid (And.intro hlt1 (And.intro hlt2 (And.intro hv1 (And.intro hv2 (And.intro hu1 hu2)))))
      have Hlists := Lib.hid (And.intro hlo (And.intro hsgl hh0))
      have Hk := Lib.hid (And.intro hk (And.intro hk1 hk2))
      have hP : Pu wr wr.drew := (Pu.refl wr).drew
      clear hk hk1 hk2 hhi hmid hlow htop hnext hgu hlt1 hlt2 hv1 hv2 hu1 hu2 hdrop hlo hsgl hh0 ej
      go_wp2_with fail
      go_region_held3 (fun u => u.cell? ⟨gx, k, none⟩ = some (.int .u32 (hi : Int)) ∧ u.cell? ⟨gx, k1, none⟩ = some (.int .u32 (mid : Int)) ∧ u.cell? ⟨gx, k2, none⟩ = some (.int .u32 (low : Int)))
        (first | exact ⟨hP.cellv x1, hP.cellv x2, hP.cellv x3⟩ | go_keep)
        (first | (go_at_call 200; refine (Hgu.out _).mono ?_; rintro e u5 ⟨q, rfl, hq1, hq2, hq3, p9⟩; replace hP := hP.trans p9))
      have hPp : 0 < 4294967296 ^ (m - 2) := Nat.pow_pos (by decide)
      obtain ⟨gg1, gg2⟩ := guess_good (Q := 0) hPp HP.out.2.2.1 HP.out.2.2.2.1 HP.out.2.2.2.2.1 HP.out.2.2.2.2.2 (by omega) hq1 hq2 hq3 HP.out.1
      have htk := take_any gx (n1 + 1) c5 lo sg h' (some ⟨gy, 0, none⟩) m c6 ys j q u5 (hXj.pu hP) hxlen.symm hle5.1 (by omega) Hlists.out.1 Hlists.out.2.1 (hSyj.pu hP) (fun b off e => by
        injection e with e
        injection e with e1 _
        omega) hsgb hyb hq1
      have PF5 := PWr.trans hP
      have hO5 := hOj.pu hP
      have hF5 : Fr (fun k => k = gx ∨ k = w6.heap.size) W3 u5 := hF.trans hP.fr
      have hSy5 := hSyj.pu hP
      have Htk := Lib.hid htk
      have GG := Lib.hid (And.intro gg1 gg2)
      have hgw5 : w6.heap.size < u5.heap.size := Nat.lt_of_lt_of_le hgw hP.size
      clear htk gg1 gg2 hq2 hq3 hP hXj hOj hF hSyj x1 x2 x3 hPp
      go_wp2_with fail
      refine Htk.out.mono ?_
      rintro e u6 ⟨b, sg', rfl, hX6, hsl6, hsb6, hv6, hF6⟩
      have hsp := pval_lt hsb6
      rw [hsl6] at hsp
      have htook := took (Y := pval 4294967296 ys) (S := pval 4294967296 sg) (q := q) (n := pval 4294967296 sg') (b := b.toNat) (M := 4294967296 ^ (m + 1)) hv6 (by cases b <;> decide) hsp HP.out.2.1 GG.out.1 GG.out.2 (by rw [← HYv.out]; exact hYpos)
      rw [← HYv.out] at htook
      have hlt1' : pval 4294967296 sg < 4294967296 * Y := by rw [HYv.out]; exact HP.out.1
      have hSB : pval 4294967296 sg / Y < 4294967296 := (Nat.div_lt_iff_lt_mul hYpos).2 hlt1'
      have hO6 := hO5.fr hF6 (by omega)
      have hF6' : Fr (fun k => k = gx ∨ k = w6.heap.size) W3 u6 := hF5.trans (hF6.mono fun k _ h => .inl h)
      have hSy6 := hSy5.fr hF6 (fun _ b off e h => by
        injection e with e
        injection e with e1 _
        omega)
      have HT := Lib.hid htook
      have Hlt := Lib.hid hlt1'
      have hjK : j < K := by omega
      have hj0 : (0 : Int) ≤ (j : Int) := by omega
      have hjK' : (j : Int) < (K : Int) := by omega
      have hwj : IntKind.i64.wrap ((j : Int) - 1) = (j : Int) - 1 := IntWalk.i64_in _ (by omega)
      clear htook hlt1' hv6 hsp hF6 hF5 hO5 hSy5 Htk GG
      have store : ∀ (d : Nat) (sg2 : List Nat) (u : World), d = pval 4294967296 sg / Y → pval 4294967296 sg2 = pval 4294967296 sg % Y → sg2.length = m + 1 → Below_ 4294967296 sg2 → XA u gx (lo ++ (sg2 ++ h')) → WA u w6.heap.size (List.replicate (j + 1) 0 ++ qs) → Fr (fun k => k = gx ∨ k = w6.heap.size) W3 u →
          LongAt X Y j (n1 + 1) (lo ++ (sg2 ++ h')) (d :: qs) ∧ XA (u.setCell ⟨w6.heap.size, j, none⟩ (.int .u32 (d : Int))) gx (lo ++ (sg2 ++ h')) ∧ WA (u.setCell ⟨w6.heap.size, j, none⟩ (.int .u32 (d : Int))) w6.heap.size (List.replicate j 0 ++ d :: qs) ∧ Fr (fun k => k = gx ∨ k = w6.heap.size) W3 (u.setCell ⟨w6.heap.size, j, none⟩ (.int .u32 (d : Int))) := by
        intro d sg2 u hd hv2 hl2 hb2' hXu hOu hFu
        refine ⟨?_, hXu.fr (Fr.one u w6.heap.size j _) (by omega), ?_, hFu.trans ((Fr.one u w6.heap.size j _).mono fun k _ h => .inr h)⟩
        · rw [hd]
          exact long_next hYpos HL.out Hlists.out.1 Hlists.out.2.2 (by rw [hl2, Hlists.out.2.1]) hb2' hv2 Hlt.out
        · have := hOu.set_ j d
          rwa [set_fill] at this
      have Hstore := Lib.hid store
      clear store
      cases b
      · obtain ⟨ht1, ht2'⟩ := HT.out.1 rfl
        have hst := Hstore.out q sg' u6 ht1 ht2' hsl6 hsb6 hX6 hO6 hF6'
        have hq32 : (q : Int) % 4294967296 = (q : Int) := by omega
        have hg0 : u6.cell? ⟨w6.heap.size, j, none⟩ = some (.int .u32 0) := by
          have := hO6.cell (j := j) (x := 0) (by rw [List.getElem?_append_left (by simp)]; simp)
          simpa using this
        have hf0 := hO6.frozen j
        have Hst := Lib.hid hst
        clear hst ht1 ht2' Hstore hX6 hO6 hF6' hSy6 HT
        go_wp2
        go_roundw
        case rel => exact ⟨j, lo ++ (sg' ++ h'), q :: qs, by omega, rfl, Hst.out.1, by simp; omega, Hst.out.2.1, Hst.out.2.2.1, Hst.out.2.2.2⟩
        case measure => simp [intOf]
      · obtain ⟨hq0, ht1, ht2'⟩ := HT.out.2 rfl
        obtain ⟨d, hd⟩ : ∃ d, d = q - 1 := ⟨_, rfl⟩
        have hwq : IntKind.u64.wrap ((q : Int) - 1) = (d : Int) := by rw [IntKind.wrap_u64]; omega
        have hgv := give_any gx (n1 + 1) c5 lo sg' h' (some ⟨gy, 0, none⟩) m c6 ys j u6 hX6 (by
          have := hxlen
          simp only [List.length_append] at this ⊢
          rw [hsl6]
          have h9 := Hlists.out.2.1
          omega) hle5.1 (by omega) Hlists.out.1 hsl6 hSy6 (fun b off e => by
          injection e with e
          injection e with e1 _
          omega) hsb6 hyb
        have hd32 : (d : Int) % 4294967296 = (d : Int) := by omega
        rw [← hd] at ht1
        have HTT := Lib.hid (And.intro ht1 ht2')
        have Hgv := Lib.hid hgv
        have HMM : Hid (Y < 4294967296 ^ (m + 1)) := Lib.hid (by
          rw [HYv.out]
          have h8 := pval_lt hyb
          rw [← Hm.out] at h8
          exact Nat.lt_of_lt_of_le h8 (Nat.pow_le_pow_right (by decide) (by omega)))
        clear hgv hd ht1 ht2' hX6 hSy6 HT
        go_wp2_with fail
        refine Hgv.out.mono ?_
        rintro e u7 ⟨b2, sg2, rfl, hX7, hsl7, hsb7, hv7, hF7⟩
        have hsp7 := pval_lt hsb7
        rw [hsl7] at hsp7
        have hv8 : pval 4294967296 sg2 = pval 4294967296 sg % Y := by
          have h8 := HTT.out.2
          rw [HYv.out] at h8
          rw [h8, ← HYv.out] at hv7
          have h9 := Nat.mod_lt (pval 4294967296 sg) hYpos
          have h10 := HMM.out
          generalize pval 4294967296 sg % Y = R at *
          rcases Nat.lt_or_ge b2 1 with h | h
          · have : b2 = 0 := by omega
            subst this
            omega
          · rcases Nat.lt_or_ge 1 b2 with h' | h'
            · have := Nat.mul_le_mul_left (4294967296 ^ (m + 1)) h'
              omega
            · have : b2 = 1 := by omega
              subst this
              omega
        have hO7 := hO6.fr hF7 (by omega)
        have hF7' := hF6'.trans (hF7.mono fun k _ h => .inl h)
        have hst := Hstore.out d sg2 u7 HTT.out.1 hv8 hsl7 hsb7 hX7 hO7 hF7'
        have hg0 : u7.cell? ⟨w6.heap.size, j, none⟩ = some (.int .u32 0) := by
          have := hO7.cell (j := j) (x := 0) (by rw [List.getElem?_append_left (by simp)]; simp)
          simpa using this
        have hf0 := hO7.frozen j
        have Hst := Lib.hid hst
        clear hst Hstore hX7 hO7 hO6 hF7' hF6' hF7 hv7 hv8 hsp7
        go_wp2
        go_roundw
        case rel => exact ⟨j, lo ++ (sg2 ++ h'), d :: qs, by omega, rfl, Hst.out.1, by simp; omega, Hst.out.2.1, Hst.out.2.2.1, Hst.out.2.2.2⟩
        case measure => simp [intOf]
/- zed: divide, in all. -/
set_option maxHeartbeats 1000000 in
set_option maxRecDepth 100000 in
theorem div_ok (X Y : Nat) (hY0 : 0 < Y) : DivOk X Y := by
  rcases Nat.lt_or_ge X Y with hlt | hge
  · exact div_less X Y hlt
  rcases Nat.lt_or_ge Y 4294967296 with hsm | hbig
  · exact div_short X Y hY0 hsm
  intro A1 A2 n1 c1 n2 c2 l1 l2 w hs1 hs2 hb1 hb2 ht1 ht2 hn1 hn2 hc1 hc2 hX hY
  have hc := compare_any A1 A2 n1 c1 n2 c2 l1 l2 w hs1 hs2 (by omega) (by omega) hb1 hb2 ht1 ht2
  obtain ⟨s, hs, d0⟩ := cmpN_ge hge
  rw [hX, hY, hs] at hc
  have hn2' : 2 ≤ n2 := by
    rcases Nat.lt_or_ge n2 2 with e | e
    · exfalso
      have h3 := pval_lt hb2
      rw [hs2.wlen, hY] at h3
      have h5 := Nat.pow_le_pow_right (n := 4294967296) (by decide) (show n2 ≤ 1 by omega)
      omega
    · exact e
  have d1 : ((n2 : Int) == 1) = false := by simp; omega
  have hlg := fun W (p : Pu w W) => long_any A1 A2 n1 c1 n2 c2 l1 l2 W (hs1.pu p) (hs2.pu p) hb1 hb2 ht1 ht2 hn1 hn2 hn2' (by rw [hX, hY]; exact hge)
  rw [hX, hY] at hlg
  have Hlg := Lib.hid hlg
  clear hX hY hs hlg hs1 hs2 hb1 hb2 ht1 ht2
  go_enter Tryz.func177, Tryz.ntmps177
  go_wp2_with fail
  refine hc.mono ?_
  rintro e w1 ⟨rfl, p1⟩
  go_wp2_with fail
  refine (Hlg.out _ p1).mono ?_
  rintro e w2 ⟨A3, n3, c3, q, A4, n4, c4, r, rfl, hS3, hS4, hn3, hn4, hc3, hc4, hb3, hb4, hq, hr, p2⟩
  have Hq := Lib.hid (And.intro hq hr)
  have PP := p1.trans p2
  clear hq hr
  go_wp2
  go_ret2
  exact ⟨A3, n3, c3, q, A4, n4, c4, r, rfl, hS3, hS4, hn3, hn4, hc3, hc4, hb3, hb4, Hq.out.1, Hq.out.2, PP⟩
end
end Go.Proofs.YtckfnbckoclhpaaGreatDoor
