/- zed: back, guess. -/
import Derived.Test.YtckfnbckoclhpaaDoorZed6
import Derived.Test.YtckfnbckoclhpaaDoorZMul0
set_option linter.unusedVariables false
namespace Go.Proofs.YtckfnbckoclhpaaDoor
open Go.RowKit

theorem low_of_drop {l : List Nat} (hb : Below_ 4294967296 l) (j : Nat) : pval 4294967296 (l.drop j) % 4294967296 = l[j]?.getD 0 := by
  rcases Nat.lt_or_ge j l.length with h | h
  · rw [pval_drop_at (List.getElem?_eq_getElem h), List.getElem?_eq_getElem h]
    have := hb l[j] (List.getElem_mem h)
    simp only [Option.getD_some]
    omega
  · rw [List.drop_eq_nil_of_le h, List.getElem?_eq_none h]
    rfl

set_option maxHeartbeats 1500000 in
set_option maxRecDepth 100000 in
theorem back_any (A : Option Addr) (n c : Nat) (l : List Nat) (s : Nat) (w : World) (h : Sl w 1 A n c (wds l)) (hn : n ≤ 1000000) (hb : Below_ 4294967296 l) (hs : s ≤ 31) :
    Calls Tryd.prog 81 #[.slice A n c, .int .i64 (s : Int)] w fun e w' => ∃ A' n' c' q, e = .returned (.slice A' n' c') ∧ n' ≤ n ∧ c' ≤ maxLen ∧ Sl w' 1 A' n' c' (wds q) ∧ Below_ 4294967296 q ∧ Tidy q ∧ pval 4294967296 q = pval 4294967296 l / 2 ^ s ∧ Pu w w' := by
  have hl := h.wlen
  have hmk := fun W => run_make_words n n (by omega) (Nat.le_refl _) W
  have Hmk := Lib.hid hmk
  clear hmk
  have hW : Pu w (w.alloc (.cells (Array.replicate n (.int .u32 0)) 67)) := (Pu.refl w).alloc _
  have hA := WA.made w n
  go_enter Tryd.func81, Tryd.ntmps81
  go_wp2_with (simp only [Hmk.out])
  go_loopw [6, 7] (fun a v ws => ∃ (j k : Nat) (qs : List Nat), j ≤ n ∧ v = .int .i64 ((j : Int) - 1) ∧ a = .int .u64 (k : Int) ∧ k < 18446744073709551616 ∧ k % 4294967296 = pval 4294967296 (l.drop j) % 4294967296 ∧ Below_ 4294967296 qs ∧ j + qs.length = n ∧ pval 4294967296 qs = pval 4294967296 (l.drop j) / 2 ^ s ∧ WA ws w.heap.size (List.replicate j 0 ++ qs) ∧ Pu w ws) (fun _ v _ => (intOf v + 1).toNat)
  case atStart => exact ⟨n, 0, [], Nat.le_refl _, rfl, rfl, by omega, by rw [List.drop_eq_nil_of_le (by omega)]; rfl, Below_.nil _, by simp, by rw [List.drop_eq_nil_of_le (by omega)]; simp [pval], by simpa using hA, hW⟩
  case round =>
    obtain ⟨j, k, qs, hj, rfl, rfl, hk, hkm, hq, hlen, hv, hA, hP⟩ := hrel
    have HV := Lib.hid hv
    have HK := Lib.hid hkm
    clear hv hkm
    rcases j with _ | j
    · have hS : Sl wr 1 (some ⟨w.heap.size, 0, none⟩) n n (wds qs) := by
        have := hA.sl (n := n) (c := n) (by simp; omega) (Nat.le_refl _)
        rwa [List.replicate_zero, List.nil_append, List.take_of_length_le (by omega)] at this
      have hT := tidied_Sl hS
      have hle := tidied_len qs
      have fin := Lib.hid (And.intro (tidied_below hq) (And.intro (tidied_tidy qs) (tidied_val 4294967296 qs)))
      have HT := Lib.hid hT
      clear hT
      go_wp2_with fail
      refine (trim_any _ n n qs _ hS (by omega) (by simp [maxLen]; omega)).mono ?_
      rintro e w1 ⟨rfl, rfl⟩
      go_wp2
      go_ret
      exact ⟨some ⟨w.heap.size, 0, none⟩, (tidied qs).length, n, tidied qs, rfl, by omega, by simp [maxLen]; omega, HT.out, fin.out.1, fin.out.2.1, by rw [fin.out.2.2, HV.out]; rfl, hP⟩
    · obtain ⟨x, hx⟩ : ∃ x, l[j]? = some x := ⟨_, List.getElem?_eq_getElem (by omega)⟩
      have hxb := hb x (List.mem_of_getElem? hx)
      obtain ⟨b, o, ea, hbw, hc0⟩ := (h.pu hP).wat hx
      subst ea
      have Hx := Lib.hid hx
      clear hx
      have ej : ((j + 1 : Nat) : Int) - 1 = (j : Int) := by omega
      rw [ej]
      have hjn : j < n := by omega
      have hw1 : IntKind.i64.wrap ((j : Int) - 1) = (j : Int) - 1 := IntWalk.i64_in _ (by omega)
      have hx64 := u64_small (a := x) (by omega)
      have hsh : IntKind.u64.wrap ((k : Int) * 4294967296) = ((k % 4294967296 : Nat) : Int) * 4294967296 := by rw [IntKind.wrap_u64]; omega
      have hor := or_lo x (k % 4294967296) hxb (by omega)
      have hcast : ((k % 4294967296 : Nat) : Int) * 4294967296 + (x : Int) = ((k % 4294967296 * 4294967296 + x : Nat) : Int) := by omega
      rw [hcast] at hor
      have hMlt : k % 4294967296 * 4294967296 + x < 18446744073709551616 := by omega
      obtain ⟨km, hkm0⟩ : ∃ km, km = k % 4294967296 := ⟨_, rfl⟩
      rw [← hkm0] at hor hsh hMlt
      obtain ⟨M, hM⟩ : ∃ M, M = km * 4294967296 + x := ⟨_, rfl⟩
      rw [← hM] at hor hMlt
      have HM := Lib.hid hM
      have Hkm := Lib.hid hkm0
      have hg0 : wr.cell? ⟨w.heap.size, j, none⟩ = some (.int .u32 0) := by
        have := hA.cell (j := j) (x := 0) (by rw [List.getElem?_append_left (by simp)]; simp)
        simpa using this
      have hf0 := hA.frozen j
      clear hcast hM hkm0
      go_wp2
      have e1 : (M : Int) / 2 ^ s % 4294967296 = ((M / 2 ^ s % 4294967296 : Nat) : Int) := by
        rw [show (2 : Int) ^ s = ((2 ^ s : Nat) : Int) by simp]
        simp
      rw [e1]
      clear e1
      have hy : M / 2 ^ s % 4294967296 < 4294967296 := Nat.mod_lt _ (by omega)
      have hkd : km = pval 4294967296 (l.drop (j + 1)) % 4294967296 := by rw [Hkm.out, HK.out]
      have hbs := back_step (n := s) (x := x) (R := pval 4294967296 (l.drop (j + 1))) (by omega) hxb
      rw [← hkd, ← HM.out] at hbs
      generalize M / 2 ^ s % 4294967296 = y at *
      have hA2 := hA.set_ j y
      rw [set_fill] at hA2
      go_roundw
      case rel => exact ⟨j, M, y :: qs, by omega, rfl, rfl, hMlt, by
        rw [pval_drop_at Hx.out, HM.out]
        omega, by
        intro u hu
        rcases List.mem_cons.1 hu with rfl | hu
        · exact hy
        · exact hq u hu, by simp; omega, by
        rw [pval_drop_at Hx.out, hbs]
        simp only [pval]
        rw [HV.out], hA2, hP.setCell (Nat.le_refl _) _⟩
      case measure => simp [intOf]

set_option maxHeartbeats 1500000 in
set_option maxRecDepth 100000 in
theorem guess_any (hi mid low top next : Nat) (w : World) (h1 : hi ≤ top) (h2 : mid < 4294967296) (h3 : low < 4294967296) (h4 : top < 4294967296) (h5 : next < 4294967296) (h0 : 0 < top) :
    Calls Tryd.prog 78 #[.int .u64 (hi : Int), .int .u64 (mid : Int), .int .u64 (low : Int), .int .u64 (top : Int), .int .u64 (next : Int)] w fun e w' => ∃ q : Nat, e = .returned (.int .u64 (q : Int)) ∧ q < 4294967296 ∧ q * (top * 4294967296 + next) ≤ (hi * 4294967296 + mid) * 4294967296 + low ∧ (q = 4294967295 ∨ (hi * 4294967296 + mid) * 4294967296 + low < (q + 1) * (top * 4294967296 + next)) ∧ Pu w w' := by
  have hw1 : IntKind.u64.wrap ((mid : Int) + (top : Int)) = (mid : Int) + (top : Int) := by rw [IntKind.wrap_u64]; omega
  have hsh := u64_shl (a := hi) (by omega)
  have hor := or_lo mid hi h2 (by omega)
  have ht0 : ¬ ((top : Int) = 0) := by omega
  have hcast : (hi : Int) * 4294967296 + (mid : Int) = ((hi * 4294967296 + mid : Nat) : Int) := by omega
  rw [hcast] at hor
  obtain ⟨U, hU⟩ : ∃ U, U = hi * 4294967296 + mid := ⟨_, rfl⟩
  rw [← hU] at hor
  have HU := Lib.hid hU
  clear hcast hU
  rcases Nat.lt_or_ge hi top with hlt | hge
  · go_enter Tryd.func78, Tryd.ntmps78
    go_wp2_with fail
    go_region
    go_wp2_with fail
    go_loopw [11, 12] (fun qv rv ws => ∃ q r : Nat, qv = .int .u64 (q : Int) ∧ rv = .int .u64 (r : Int) ∧ q < 4294967296 ∧ r < 8589934592 ∧ q * top + r = U ∧ (q = 4294967295 ∨ U * 4294967296 + low < (q + 1) * (top * 4294967296 + next)) ∧ Pu w ws) (fun _ rv _ => 8589934592 - (intOf rv).toNat)
    case atStart =>
      have hdm := Nat.div_add_mod U top
      have hml := Nat.mod_lt U h0
      have hql : U / top < 4294967296 := (Nat.div_lt_iff_lt_mul h0).2 (by
        rw [HU.out]
        have : (hi + 1) * 4294967296 ≤ top * 4294967296 := Nat.mul_le_mul_right _ hlt
        rw [Nat.mul_comm]
        omega)
      exact ⟨U / top, U % top, by rw [show (U : Int) / (top : Int) = ((U / top : Nat) : Int) by simp, u64_small (by omega)], by simp, hql, by omega, by rw [Nat.mul_comm]; exact hdm, .inr (guess_start rfl rfl h3 (by
        rw [Nat.add_mul, Nat.one_mul, Nat.mul_comm]
        omega)), (Pu.refl w).drew⟩
    case round =>
      obtain ⟨q, r, rfl, rfl, hq, hr, hinv, hor2, hP⟩ := hrel
      have Hinv := Lib.hid hinv
      have Hor2 := Lib.hid hor2
      have hgr := guess_round (next := next) (low := low) (V := top * 4294967296 + next) (U3 := U * 4294967296 + low) rfl rfl hinv
      have Hgr := Lib.hid hgr
      clear hinv hor2 hgr hor
      obtain ⟨p, hp⟩ : ∃ p, p = q * next := ⟨_, rfl⟩
      have hpi : (q : Int) * (next : Int) = (p : Int) := by rw [hp, Int.natCast_mul]
      have hfit := mul_fits (c := 0) (o := 0) hq h5 (by omega) (by omega)
      rw [← hp] at hfit
      have hpB : p ≤ 4294967295 * 4294967295 := by rw [hp]; exact Nat.mul_le_mul (by omega) (by omega)
      have hp64 := u64_small (a := p) (by omega)
      have HP := Lib.hid hp
      clear hp
      by_cases hrB : r < 4294967296
      · have d1 : decide ((r : Int) < 4294967296) = true := by simp; omega
        have hsr := u64_shl (a := r) (by omega)
        have horr := or_lo low r h3 (by omega)
        have hcr : (r : Int) * 4294967296 + (low : Int) = ((r * 4294967296 + low : Nat) : Int) := by omega
        rw [hcr] at horr
        obtain ⟨R, hR⟩ : ∃ R, R = r * 4294967296 + low := ⟨_, rfl⟩
        rw [← hR] at horr
        have HR := Lib.hid hR
        clear hcr
        by_cases hgt : R < p
        · have d2 : decide ((p : Int) > (R : Int)) = true := by simp; omega
          have d3 : decide ((R : Int) < (p : Int)) = true := by simp; omega
          have hq0 : 0 < q := by
            rcases Nat.eq_zero_or_pos q with e | e
            · subst e
              have := HP.out
              simp at this
              omega
            · exact e
          have hwq : IntKind.u64.wrap ((q : Int) - 1) = ((q - 1 : Nat) : Int) := by rw [IntKind.wrap_u64]; omega
          have hwr : IntKind.u64.wrap ((r : Int) + (top : Int)) = ((r + top : Nat) : Int) := by rw [IntKind.wrap_u64]; omega
          clear hR
          go_wp2
          go_roundw
          case rel => exact ⟨q - 1, r + top, rfl, rfl, by omega, by omega, by
            have := Hinv.out
            obtain ⟨k, rfl⟩ : ∃ k, q = k + 1 := ⟨q - 1, by omega⟩
            rw [Nat.add_mul] at this
            rw [Nat.add_sub_cancel]
            omega, .inr (by
            rw [show q - 1 + 1 = q by omega]
            have h7 := Hgr.out
            rw [← HP.out, ← HR.out] at h7
            omega), hP⟩
          case measure => simp [intOf]; omega
        · have d2 : decide ((p : Int) > (R : Int)) = false := by simp; omega
          have d3 : decide ((R : Int) < (p : Int)) = false := by simp; omega
          clear hR
          go_wp2
          go_ret
          exact ⟨q, rfl, hq, by
            rw [← HU.out]
            have h7 := Hgr.out
            rw [← HP.out, ← HR.out] at h7
            exact h7.1 (by omega), by rw [← HU.out]; exact Hor2.out, hP⟩
      · have d1 : decide ((r : Int) < 4294967296) = false := by simp; omega
        go_wp2
        go_ret
        exact ⟨q, rfl, hq, by
          rw [← HU.out]
          have h7 := Hgr.out
          rw [← HP.out] at h7
          exact h7.1 (by omega), by rw [← HU.out]; exact Hor2.out, hP⟩
  · obtain rfl : hi = top := by omega
    go_enter Tryd.func78, Tryd.ntmps78
    go_wp2_with fail
    go_loopw [11, 12] (fun qv rv ws => ∃ q r : Nat, qv = .int .u64 (q : Int) ∧ rv = .int .u64 (r : Int) ∧ q < 4294967296 ∧ r < 8589934592 ∧ q * hi + r = U ∧ (q = 4294967295 ∨ U * 4294967296 + low < (q + 1) * (hi * 4294967296 + next)) ∧ Pu w ws) (fun _ rv _ => 8589934592 - (intOf rv).toNat)
    case atStart => exact ⟨4294967295, mid + hi, rfl, by simp, by omega, by omega, by rw [HU.out]; omega, .inl rfl, Pu.refl w⟩
    case round =>
      obtain ⟨q, r, rfl, rfl, hq, hr, hinv, hor2, hP⟩ := hrel
      have Hinv := Lib.hid hinv
      have Hor2 := Lib.hid hor2
      have hgr := guess_round (next := next) (low := low) (V := hi * 4294967296 + next) (U3 := U * 4294967296 + low) rfl rfl hinv
      have Hgr := Lib.hid hgr
      clear hinv hor2 hgr hor
      obtain ⟨p, hp⟩ : ∃ p, p = q * next := ⟨_, rfl⟩
      have hpi : (q : Int) * (next : Int) = (p : Int) := by rw [hp, Int.natCast_mul]
      have hfit := mul_fits (c := 0) (o := 0) hq h5 (by omega) (by omega)
      rw [← hp] at hfit
      have hpB : p ≤ 4294967295 * 4294967295 := by rw [hp]; exact Nat.mul_le_mul (by omega) (by omega)
      have hp64 := u64_small (a := p) (by omega)
      have HP := Lib.hid hp
      clear hp
      by_cases hrB : r < 4294967296
      · have d1 : decide ((r : Int) < 4294967296) = true := by simp; omega
        have hsr := u64_shl (a := r) (by omega)
        have horr := or_lo low r h3 (by omega)
        have hcr : (r : Int) * 4294967296 + (low : Int) = ((r * 4294967296 + low : Nat) : Int) := by omega
        rw [hcr] at horr
        obtain ⟨R, hR⟩ : ∃ R, R = r * 4294967296 + low := ⟨_, rfl⟩
        rw [← hR] at horr
        have HR := Lib.hid hR
        clear hcr
        by_cases hgt : R < p
        · have d2 : decide ((p : Int) > (R : Int)) = true := by simp; omega
          have d3 : decide ((R : Int) < (p : Int)) = true := by simp; omega
          have hq0 : 0 < q := by
            rcases Nat.eq_zero_or_pos q with e | e
            · subst e
              have := HP.out
              simp at this
              omega
            · exact e
          have hwq : IntKind.u64.wrap ((q : Int) - 1) = ((q - 1 : Nat) : Int) := by rw [IntKind.wrap_u64]; omega
          have hwr : IntKind.u64.wrap ((r : Int) + (hi : Int)) = ((r + hi : Nat) : Int) := by rw [IntKind.wrap_u64]; omega
          clear hR
          go_wp2
          go_roundw
          case rel => exact ⟨q - 1, r + hi, rfl, rfl, by omega, by omega, by
            have := Hinv.out
            obtain ⟨k, rfl⟩ : ∃ k, q = k + 1 := ⟨q - 1, by omega⟩
            rw [Nat.add_mul] at this
            rw [Nat.add_sub_cancel]
            omega, .inr (by
            rw [show q - 1 + 1 = q by omega]
            have h7 := Hgr.out
            rw [← HP.out, ← HR.out] at h7
            omega), hP⟩
          case measure => simp [intOf]; omega
        · have d2 : decide ((p : Int) > (R : Int)) = false := by simp; omega
          have d3 : decide ((R : Int) < (p : Int)) = false := by simp; omega
          clear hR
          go_wp2
          go_ret
          exact ⟨q, rfl, hq, by
            rw [← HU.out]
            have h7 := Hgr.out
            rw [← HP.out, ← HR.out] at h7
            exact h7.1 (by omega), by rw [← HU.out]; exact Hor2.out, hP⟩
      · have d1 : decide ((r : Int) < 4294967296) = false := by simp; omega
        go_wp2
        go_ret
        exact ⟨q, rfl, hq, by
          rw [← HU.out]
          have h7 := Hgr.out
          rw [← HP.out] at h7
          exact h7.1 (by omega), by rw [← HU.out]; exact Hor2.out, hP⟩
end Go.Proofs.YtckfnbckoclhpaaDoor
