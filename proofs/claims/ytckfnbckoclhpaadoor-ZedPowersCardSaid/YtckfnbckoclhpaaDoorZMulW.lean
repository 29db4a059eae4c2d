/- zed: Mul. -/
import Derived.Test.YtckfnbckoclhpaaDoorZSub
import Derived.Test.YtckfnbckoclhpaaDoorZMul0
import Derived.Test.YtckfnbckoclhpaaDoorZed3
set_option linter.unusedVariables false
namespace Go.Proofs.YtckfnbckoclhpaaDoor
open Go.RowKit

theorem sgn_mul (g1 g2 : Bool) (x y : Nat) : sgn g1 x * sgn g2 y = sgn (g1 != g2) (x * y) := by
  cases g1 <;> cases g2 <;> simp [sgn, Int.natCast_mul, Int.mul_neg, Int.neg_mul]

set_option maxHeartbeats 2000000 in
set_option maxRecDepth 100000 in
theorem mul_any (v1 v2 : Value) (z1 z2 : Int) (w : World) (h1 : ZR w v1 z1) (h2 : ZR w v2 z2) (b1 : z1.natAbs < 4294967296 ^ 20000) (b2 : z2.natAbs < 4294967296 ^ 20000) :
    Calls Tryd.prog 30 #[v1, v2] w fun e w' => ∃ v', e = .returned v' ∧ ZR w' v' (z1 * z2) ∧ Pu w w' := by
  obtain ⟨g1, A1, n1, c1, l1, rfl, hs1, hb1, ht1, hg1, hc1, rfl⟩ := h1
  obtain ⟨g2, A2, n2, c2, l2, rfl, hs2, hb2, ht2, hg2, hc2, rfl⟩ := h2
  rw [sgn_abs] at b1 b2
  rw [sgn_mul]
  have hn1 := tidy_len ht1 b1
  have hn2 := tidy_len ht2 b2
  have ll1 := hs1.wlen
  have ll2 := hs2.wlen
  rw [ll1] at hn1
  rw [ll2] at hn2
  obtain ⟨W, hWe⟩ : ∃ W, W = ((w.alloc (.cells #[.bool g1, .slice A1 n1 c1] 25)).alloc (.cells #[.bool g2, .slice A2 n2 c2] 25)).alloc (.cells #[.bool false, .slice none 0 0] 25) := ⟨_, rfl⟩
  have hWs : W.heap.size = w.heap.size + 3 := by rw [hWe]; simp
  have hW : Pu w W := by
    rw [hWe]
    exact (((Pu.refl w).alloc _).alloc _).alloc _
  have k1 : Blk W w.heap.size 25 #[.bool g1, .slice A1 n1 c1] := by rw [hWe]; exact ((Blk.new w _ _).alloc _).alloc _
  have k2 : Blk W (w.heap.size + 1) 25 #[.bool g2, .slice A2 n2 c2] := by rw [hWe]; exact (Blk.at_new _ _ _ (by simp)).alloc _
  have k3 : Blk W (w.heap.size + 2) 25 #[.bool false, .slice none 0 0] := by rw [hWe]; exact Blk.at_new _ _ _ (by simp)
  have hmk := fun W => run_make_words (n1 + n2 + 1) (n1 + n2 + 1) (by omega) (Nat.le_refl _) W
  have hcast : ((n1 + n2 + 1 : Nat) : Int) = (n1 : Int) + (n2 : Int) + 1 := by omega
  rw [hcast] at hmk
  have Hmk := Lib.hid hmk
  have hw1 : IntKind.i64.wrap ((n1 : Int) + (n2 : Int)) = (n1 : Int) + (n2 : Int) := IntWalk.i64_in _ (by omega)
  have hw2 : IntKind.i64.wrap ((n1 : Int) + (n2 : Int) + 1) = (n1 : Int) + (n2 : Int) + 1 := IntWalk.i64_in _ (by omega)
  have hA0 := WA.made W (n1 + n2 + 1)
  have hP0 : Pu W (W.alloc (.cells (Array.replicate (n1 + n2 + 1) (.int .u32 0)) 67)) := (Pu.refl W).alloc _
  rw [hWs] at hA0
  rw [hWe] at hA0 hP0
  have HWe := Lib.hid hWe
  have hS1 := hs1.pu hW
  have hS2 := hs2.pu hW
  clear hmk hWe hcast hs1 hs2
  go_enter Tryd.func30, Tryd.ntmps30
  go_wp2_with (simp only [Hmk.out])
  go_loopw [23] (fun iv ws => ∃ (i : Nat) (os : List Nat), i ≤ n1 ∧ iv = .int .i64 i ∧ os.length = i + n2 ∧ Below_ 4294967296 os ∧ pval 4294967296 os = pval 4294967296 (l1.take i) * pval 4294967296 l2 ∧ WA ws (w.heap.size + 3) (os ++ List.replicate (n1 + n2 + 1 - (i + n2)) 0) ∧ Pu W ws) (fun iv _ => n1 - (intOf iv).toNat)
  case atStart => exact ⟨0, List.replicate n2 0, Nat.zero_le _, rfl, by simp, Below_.zeros (by omega) _, by simp [pval, pval_zeros], by
    have e : List.replicate n2 0 ++ List.replicate (n1 + n2 + 1 - (0 + n2)) 0 = List.replicate (n1 + n2 + 1) 0 := by
      rw [List.replicate_append_replicate]
      congr 1
      omega
    rw [e]
    exact hA0, by rw [HWe.out]; exact hP0⟩
  case round =>
    obtain ⟨i, os, hi, rfl, hol, hob, hv, hA, hP⟩ := hrel
    have HV := Lib.hid hv
    clear hv
    by_cases hlt : i < n1
    · obtain ⟨x, hx⟩ : ∃ x, l1[i]? = some x := ⟨_, List.getElem?_eq_getElem (by omega)⟩
      have hxb := hb1 x (List.mem_of_getElem? hx)
      obtain ⟨q1, o1, ea, hq1, c1'⟩ := (hS1.pu hP).wat hx
      have Hx := Lib.hid hx
      clear hx
      subst ea
      have j20 : wr.cell? ⟨w.heap.size + 1, 1, none⟩ = some (.slice A2 n2 c2) := (k2.pu hP).cell 1
      go_wp2_with fail
      go_loopw [8, 31] (fun cv kv ws => ∃ (k c : Nat) (os' : List Nat), k ≤ n2 ∧ kv = .int .i64 k ∧ cv = .int .u64 (c : Int) ∧ c < 4294967296 ∧ os'.length = i + n2 ∧ Below_ 4294967296 os' ∧ pval 4294967296 os' + 4294967296 ^ (i + k) * c = pval 4294967296 os + 4294967296 ^ i * (x * pval 4294967296 (l2.take k)) ∧ WA ws (w.heap.size + 3) (os' ++ List.replicate (n1 + n2 + 1 - (i + n2)) 0) ∧ Pu W ws) (fun _ kv _ => n2 - (intOf kv).toNat)
      case atStart => exact ⟨0, 0, os, Nat.zero_le _, rfl, rfl, by omega, hol, hob, by simp [pval], hA, hP⟩
      case round =>
        clear hA hP c1' j20 hq1
        obtain ⟨k, c, os', hk, rfl, rfl, hc, hol', hob', hv', hA, hP⟩ := hrel
        have HV' := Lib.hid hv'
        clear hv'
        have hA1 := hA
        by_cases hlk : k < n2
        · obtain ⟨y, hy⟩ : ∃ y, l2[k]? = some y := ⟨_, List.getElem?_eq_getElem (by omega)⟩
          have hyb := hb2 y (List.mem_of_getElem? hy)
          obtain ⟨q2, o2, eb, hq2, c2'⟩ := (hS2.pu hP).wat hy
          have Hy := Lib.hid hy
          clear hy
          subst eb
          obtain ⟨old, ho⟩ : ∃ old, os'[i + k]? = some old := ⟨_, List.getElem?_eq_getElem (by omega)⟩
          have hoB := hob' old (List.mem_of_getElem? ho)
          have hg0 : wr.cell? ⟨w.heap.size + 3, i + k, none⟩ = some (.int .u32 (old : Int)) := hA.cell (by rw [List.getElem?_append_left (by omega)]; exact ho)
          have hf0 := hA.frozen (i + k)
          have Ho := Lib.hid ho
          have hfit := mul_fits hxb hyb hc hoB
          obtain ⟨p, hp⟩ : ∃ p, p = x * y := ⟨_, rfl⟩
          have hpi : (x : Int) * (y : Int) = (p : Int) := by rw [hp, Int.natCast_mul]
          rw [← hp] at hfit
          have Hp := Lib.hid hp
          have HA1 := Lib.hid hA1
          have hw3 : IntKind.i64.wrap ((i : Int) + (k : Int)) = (i : Int) + (k : Int) := IntWalk.i64_in _ (by omega)
          have hx64 := u64_small (a := x) (by omega)
          have hy64 := u64_small (a := y) (by omega)
          have hp64 := u64_small (a := p) (by omega)
          have ho64 := u64_small (a := old) (by omega)
          have hm2 : IntKind.u64.wrap ((p : Int) + (old : Int)) = (p : Int) + (old : Int) := by rw [IntKind.wrap_u64]; omega
          have hm3 : IntKind.u64.wrap ((c : Int) + ((p : Int) + (old : Int))) = (c : Int) + ((p : Int) + (old : Int)) := by rw [IntKind.wrap_u64]; omega
          clear hp ho hA1
          go_wp2
          have hdm := Nat.div_add_mod (c + (p + old)) 4294967296
          have hr := Nat.mod_lt (c + (p + old)) (show 4294967296 > 0 by omega)
          have hq : (c + (p + old)) / 4294967296 < 4294967296 := by omega
          have e1 : ((c : Int) + ((p : Int) + (old : Int))) % 4294967296 = (((c + (p + old)) % 4294967296 : Nat) : Int) := by omega
          have e2 : ((c : Int) + ((p : Int) + (old : Int))) / 4294967296 = (((c + (p + old)) / 4294967296 : Nat) : Int) := by omega
          rw [e1, e2]
          clear e1 e2
          generalize (c + (p + old)) / 4294967296 = q at *
          generalize (c + (p + old)) % 4294967296 = r at *
          go_roundw
          case rel => exact ⟨k + 1, q, os'.set (i + k) r, by omega, by go_num, rfl, hq, by simp [hol'], hob'.set hr, by
            have hs := pval_set (b := 4294967296) r Ho.out
            have h2 := mul_step hs hdm HV'.out
            rw [take_next Hy.out, ← mul_row, ← Hp.out, ← Nat.add_assoc i k 1, Nat.pow_succ, h2, Nat.add_assoc], by
            have h3 := HA1.out.set_ (i + k) r
            rw [List.set_append_left _ _ (by omega)] at h3
            exact h3, hP.setCell (by show W.heap.size ≤ w.heap.size + 3; omega) _⟩
          case measure => simp [intOf]; omega
        · obtain rfl : k = n2 := by omega
          have hg0 : wr.cell? ⟨w.heap.size + 3, i + k, none⟩ = some (.int .u32 0) := by
            have := hA.cell (j := i + k) (x := 0) (by
              rw [List.getElem?_append_right (by omega), hol', Nat.sub_self, List.getElem?_replicate, if_pos (by omega)])
            simpa using this
          have hf0 := hA.frozen (i + k)
          have j20 : wr.cell? ⟨w.heap.size + 1, 1, none⟩ = some (.slice A2 k c2) := (k2.pu hP).cell 1
          have hw3 : IntKind.i64.wrap ((i : Int) + (k : Int)) = (i : Int) + (k : Int) := IntWalk.i64_in _ (by omega)
          have HA1 := Lib.hid hA1
          clear hA1
          go_wp2
          go_roundw
          case rel => exact ⟨i + 1, os' ++ [c], by omega, by go_num, by simp; omega, hob'.snoc hc, by
            have h2 := HV'.out
            rw [List.take_of_length_le (by omega), HV.out] at h2
            rw [pval_snoc, hol', h2, take_next Hx.out, Nat.add_mul, Nat.mul_assoc], by
            have h3 := HA1.out.set_ (i + k) c
            rw [fill_next hol' (by omega)] at h3
            rw [show i + 1 + k = i + k + 1 by omega]
            exact h3, hP.setCell (by show W.heap.size ≤ w.heap.size + 3; omega) _⟩
          case measure => simp [intOf]; omega
    · obtain rfl : i = n1 := by omega
      have j10 : wr.cell? ⟨w.heap.size, 0, none⟩ = some (.bool g1) := (k1.pu hP).cell 0
      have j20 : wr.cell? ⟨w.heap.size + 1, 0, none⟩ = some (.bool g2) := (k2.pu hP).cell 0
      have hv0 : pval 4294967296 (os ++ List.replicate (i + n2 + 1 - (i + n2)) 0) = pval 4294967296 l1 * pval 4294967296 l2 := by
        rw [pval_append, pval_zeros, HV.out, List.take_of_length_le (by omega)]
        simp
      have hSo := hA.sl (n := i + n2 + 1) (c := i + n2 + 1) (by simp; omega) (Nat.le_refl _)
      rw [List.take_of_length_le (by simp; omega)] at hSo
      have hbo : Below_ 4294967296 (os ++ List.replicate (i + n2 + 1 - (i + n2)) 0) := hob.append (Below_.zeros (by omega) _)
      have hmd := fun g => made_any g _ _ _ _ wr hSo (by omega) (by simp [maxLen]; omega) hbo
      rw [hv0] at hmd
      have Hmd := Lib.hid hmd
      have k3' := k3.pu hP
      have hP' := hW.trans hP
      clear hmd hSo hbo hv0 hA hP
      go_wp2_with fail
      refine (Hmd.out _).mono ?_
      rintro e w2 ⟨v', rfl, hz', p2⟩
      have hR := k3'.pu p2
      have hv' := hz'
      obtain ⟨g', A', n', c', l', rfl, _⟩ := hv'
      have q0 : w2.cell? ⟨w.heap.size + 2, 0, none⟩ = some (.bool false) := hR.cell 0
      have q1 : w2.cell? ⟨w.heap.size + 2, 1, none⟩ = some (.slice none 0 0) := hR.cell 1
      have f0 : w2.frozen? ⟨w.heap.size + 2, 0, none⟩ = false := hR.frozen 0
      have f1 : w2.frozen? ⟨w.heap.size + 2, 1, none⟩ = false := hR.frozen 1
      obtain ⟨r0, r1, rz, rp⟩ := store_num hR g' A' n' c'
      go_wp2
      refine bodyPost_ret (v := .agg #[.bool g', .slice A' n' c']) (by simp [results, Tryd.results30, go_sem, r0, r1]) rfl ⟨_, rfl, rz _ _ hz', rp _ (hP'.trans p2) (by omega)⟩
end Go.Proofs.YtckfnbckoclhpaaDoor
