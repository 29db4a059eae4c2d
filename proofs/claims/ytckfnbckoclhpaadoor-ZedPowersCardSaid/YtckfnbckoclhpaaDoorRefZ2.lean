/- The document's numbers: Neg, compare, Cmp, Text. -/
import Derived.Test.YtckfnbckoclhpaaDoorRefZ1
import Derived.Test.YtckfnbckoclhpaaDoorZed4
set_option linter.unusedVariables false
namespace Go.Proofs.YtckfnbckoclhpaaDoor
open Go.RowKit

set_option maxHeartbeats 1000000 in
set_option maxRecDepth 100000 in
theorem rneg_any (v : Value) (z : Int) (w : World) (h : RZ w v z) :
    Calls Tryd.prog 27 #[v] w fun e w' => ∃ v', e = .returned v' ∧ RZ w' v' (-z) ∧ Pu w w' := by
  obtain ⟨A, n, c, l, rfl, hs, hb, ht, hv, hc, hI⟩ := h
  obtain ⟨σ, hσ⟩ : ∃ σ, σ = z.sign := ⟨_, rfl⟩
  have hσ1 : -1 ≤ σ ∧ σ ≤ 1 := by
    rw [hσ]
    rcases Int.lt_trichotomy z 0 with h | h | h
    · rw [Int.sign_eq_neg_one_of_neg h]; omega
    · rw [h]; decide
    · rw [Int.sign_eq_one_of_pos h]; omega
  have hw : IntKind.i64.wrap (-σ) = -σ := IntWalk.i64_in _ (by omega)
  rw [← hσ]
  have fin : ∀ w', Pu w w' → RZ w' (.agg #[.int .i64 (-σ), .slice A n c]) (-z) := fun w' hp => ⟨A, n, c, l, by rw [Int.sign_neg, hσ], hs.pu hp, hb, ht, by rw [hv, Int.natAbs_neg], hc, hI.pu hp⟩
  have Fin := Lib.hid fin
  clear fin hσ hs hb ht hv hI
  go_enter Tryd.func27, Tryd.ntmps27
  go_wp2
  have k : Blk ((w.alloc (.cells #[.int .i64 σ, .slice A n c] 39)).alloc (.cells #[.int .i64 (-σ), .slice A n c] 39)) (w.heap.size + 1) 39 #[.int .i64 (-σ), .slice A n c] := Blk.at_new _ _ _ (by simp)
  have c0 := k.cell 0
  have c1 := k.cell 1
  have PP : Pu w ((w.alloc (.cells #[.int .i64 σ, .slice A n c] 39)).alloc (.cells #[.int .i64 (-σ), .slice A n c] 39)) := ((Pu.refl w).alloc _).alloc _
  exact bodyPost_ret (v := .agg #[.int .i64 (-σ), .slice A n c]) (by simp [results, Tryd.results27, go_sem, c0, c1]) rfl ⟨_, rfl, Fin.out _ PP, PP⟩

set_option maxHeartbeats 1000000 in
set_option maxRecDepth 100000 in
theorem rcompare_any (A C : Option Addr) (n c m d : Nat) (l k : List Nat) (w : World) (h : Sl w 1 A n c (dws l)) (g : Sl w 1 C m d (dws k)) (hn : n ≤ 1000000) (hm : m ≤ 1000000) (hl : Below_ 10 l) (hk : Below_ 10 k) (tl : Tidy l) (tk : Tidy k) :
    Calls Tryd.prog 57 #[.slice A n c, .slice C m d] w fun e w' => e = .returned (.int .i64 (cmpN (pval 10 l) (pval 10 k))) ∧ Pu w w' := by
  have ll := h.dlen
  have lk := g.dlen
  have key : ∀ r, cmpN (pval 10 l) (pval 10 k) = r → Calls Tryd.prog 57 #[.slice A n c, .slice C m d] w fun e w' => e = .returned (.int .i64 r) ∧ Pu w w' := by
    intro r hr
    rcases Nat.lt_trichotomy n m with hnm | hnm | hnm
    · obtain rfl : r = -1 := by rw [← hr]; exact cmpN_lt (pval_shorter (by omega) hl tk (by omega))
      go_enter Tryd.func57, Tryd.ntmps57
      go_wp2
      go_ret
      exact ⟨rfl, Pu.refl w⟩
    · subst hnm
      have Hr := Lib.hid hr
      clear hr
      have hw0 : IntKind.i64.wrap ((n : Int) - 1) = (n : Int) - 1 := IntWalk.i64_in _ (by omega)
      go_enter Tryd.func57, Tryd.ntmps57
      go_wp2_with fail
      go_loopw [5] (fun v ws => ∃ j : Nat, j ≤ n ∧ v = .int .i64 ((j : Int) - 1) ∧ l.drop j = k.drop j ∧ Pu w ws) (fun v _ => (intOf v + 1).toNat)
      case atStart => exact ⟨n, Nat.le_refl _, rfl, by rw [List.drop_eq_nil_of_le (by omega), List.drop_eq_nil_of_le (by omega)], Pu.refl w⟩
      case round =>
        obtain ⟨j, hj, rfl, hd, hP⟩ := hrel
        have HD := Lib.hid hd
        clear hd
        rcases j with _ | j
        · have ej : ((0 : Nat) : Int) - 1 = -1 := rfl
          rw [ej]
          have e : l = k := by simpa using HD.out
          obtain rfl : r = 0 := by rw [← Hr.out, e, cmpN_eq]
          clear e
          go_wp2
          go_ret
          exact ⟨rfl, hP⟩
        · obtain ⟨x, hx⟩ : ∃ x, l[j]? = some x := ⟨_, List.getElem?_eq_getElem (by omega)⟩
          obtain ⟨y, hy⟩ : ∃ y, k[j]? = some y := ⟨_, List.getElem?_eq_getElem (by omega)⟩
          obtain ⟨b1, o1, rfl, hb1, c1⟩ := (h.pu hP).dat hx
          obtain ⟨b2, o2, rfl, hb2, c2⟩ := (g.pu hP).dat hy
          have Hx := Lib.hid hx
          have Hy := Lib.hid hy
          clear hx hy
          have ej : ((j + 1 : Nat) : Int) - 1 = (j : Int) := by omega
          rw [ej]
          have hw1 : IntKind.i64.wrap ((j : Int) - 1) = (j : Int) - 1 := IntWalk.i64_in _ (by omega)
          have hjn : j < n := by omega
          have hj0 : (0 : Int) ≤ (j : Int) := by omega
          have hj1 : (j : Int) < (n : Int) := by omega
          rcases Nat.lt_trichotomy x y with hxy | hxy | hxy
          · obtain rfl : r = -1 := by rw [← Hr.out]; exact cmpN_lt (pval_less hl Hx.out Hy.out HD.out hxy)
            have d1 : decide ((x : Int) < (y : Int)) = true := by simp; omega
            go_wp2_with fail
            go_quiet (fail)
            go_wp2
            go_ret
            first | exact ⟨rfl, hP.drewN _⟩ | exact ⟨rfl, (hP.drewN _).drewN _⟩
          · subst hxy
            have d1 : decide ((x : Int) < (x : Int)) = false := by simp
            have d2 : decide ((x : Int) > (x : Int)) = false := by simp
            go_wp2_with fail
            go_quiet (fail)
            go_wp2_with fail
            go_quiet (fail)
            go_wp2
            go_roundw
            case rel => exact ⟨j, by omega, rfl, by rw [drop_at Hx.out, drop_at Hy.out, HD.out], hP.drewN _⟩
            case measure => simp [intOf]
          · obtain rfl : r = 1 := by rw [← Hr.out]; exact cmpN_gt (pval_less hk Hy.out Hx.out HD.out.symm hxy)
            have d1 : decide ((x : Int) < (y : Int)) = false := by simp; omega
            have d2 : decide ((x : Int) > (y : Int)) = true := by simp; omega
            have d3 : decide ((y : Int) < (x : Int)) = true := by simp; omega
            go_wp2_with fail
            go_quiet (fail)
            go_wp2_with fail
            go_quiet (fail)
            go_wp2
            go_ret
            first | exact ⟨rfl, hP.drewN _⟩ | exact ⟨rfl, (hP.drewN _).drewN _⟩
    · obtain rfl : r = 1 := by rw [← hr]; exact cmpN_gt (pval_shorter (by omega) hk tl (by omega))
      go_enter Tryd.func57, Tryd.ntmps57
      go_wp2
      go_ret
      exact ⟨rfl, Pu.refl w⟩
  exact key _ rfl
theorem cmpZ_sign {x y : Int} (h : x.sign < y.sign) : x < y := by
  rcases Int.lt_trichotomy x 0 with hx | hx | hx <;> rcases Int.lt_trichotomy y 0 with hy | hy | hy
  all_goals (try rw [Int.sign_eq_neg_one_of_neg hx] at h); (try rw [Int.sign_eq_neg_one_of_neg hy] at h); (try rw [Int.sign_eq_one_of_pos hx] at h); (try rw [Int.sign_eq_one_of_pos hy] at h); (try subst hx); (try subst hy); (try simp at h); (try omega)
theorem nat_of_sign_pos {z : Int} (h : z.sign = 1) : z = (z.natAbs : Int) := by
  have : 0 < z := Int.sign_eq_one_iff_pos.1 h
  omega

set_option maxHeartbeats 1000000 in
set_option maxRecDepth 100000 in
theorem rcmp_any (v1 v2 : Value) (z1 z2 : Int) (w : World) (h1 : RZ w v1 z1) (h2 : RZ w v2 z2) (b1 : z1.natAbs < 10 ^ 200) (b2 : z2.natAbs < 10 ^ 200) :
    Calls Tryd.prog 28 #[v1, v2] w fun e w' => e = .returned (.int .i64 (cmpZ z1 z2)) ∧ Pu w w' := by
  obtain ⟨A1, n1, c1, l1, rfl, hs1, hb1, ht1, hv1, hc1, hI1⟩ := h1
  obtain ⟨A2, n2, c2, l2, rfl, hs2, hb2, ht2, hv2, hc2, hI2⟩ := h2
  have hn1 := tidy_len10 ht1 (k := 200) (by rw [hv1]; exact b1)
  have hn2 := tidy_len10 ht2 (k := 200) (by rw [hv2]; exact b2)
  rw [hs1.dlen] at hn1
  rw [hs2.dlen] at hn2
  have hW : Pu w ((w.alloc (.cells #[.int .i64 z1.sign, .slice A1 n1 c1] 39)).alloc (.cells #[.int .i64 z2.sign, .slice A2 n2 c2] 39)) := ((Pu.refl w).alloc _).alloc _
  have hc12 := rcompare_any A1 A2 n1 c1 n2 c2 l1 l2 _ (hs1.pu hW) (hs2.pu hW) (by omega) (by omega) hb1 hb2 ht1 ht2
  have hc21 := rcompare_any A2 A1 n2 c2 n1 c1 l2 l1 _ (hs2.pu hW) (hs1.pu hW) (by omega) (by omega) hb2 hb1 ht2 ht1
  rw [hv1, hv2] at hc12 hc21
  have H12 := Lib.hid hc12
  have H21 := Lib.hid hc21
  clear hc12 hc21 hs1 hs2 hb1 hb2 ht1 ht2 hv1 hv2 hI1 hI2
  obtain ⟨s1, e1⟩ : ∃ s1, s1 = z1.sign := ⟨_, rfl⟩
  obtain ⟨s2, e2⟩ : ∃ s2, s2 = z2.sign := ⟨_, rfl⟩
  rw [← e1, ← e2] at H12 H21 hW
  rw [← e1, ← e2]
  rcases Int.lt_trichotomy s1 s2 with h | h | h
  · have d1 : (s1 == s2) = false := by simp; omega
    have d2 : decide (s1 < s2) = true := by simp; omega
    have hr : cmpZ z1 z2 = -1 := cmpZ_lt (cmpZ_sign (by omega))
    rw [hr]
    clear e1 e2
    go_enter Tryd.func28, Tryd.ntmps28
    go_wp2
    go_ret
    exact ⟨rfl, hW⟩
  · subst h
    have d1 : (s1 == s1) = true := by simp
    by_cases hneg : s1 < 0
    · have d2 : decide (s1 < 0) = true := by simp; omega
      have hr : cmpZ z1 z2 = cmpN z2.natAbs z1.natAbs := by
        have a1 : z1 < 0 := Int.sign_neg_iff.1 (by omega)
        have a2 : z2 < 0 := Int.sign_neg_iff.1 (by omega)
        rw [← cmpZ_neg, show -(z1.natAbs : Int) = z1 by omega, show -(z2.natAbs : Int) = z2 by omega]
      rw [hr]
      clear e1 e2
      go_enter Tryd.func28, Tryd.ntmps28
      go_wp2_with fail
      refine H21.out.mono ?_
      rintro e w1 ⟨rfl, p1⟩
      go_wp2
      go_ret
      exact ⟨rfl, hW.trans p1⟩
    · have d2 : decide (s1 < 0) = false := by simp; omega
      have hr : cmpZ z1 z2 = cmpN z1.natAbs z2.natAbs := by
        have a1 : 0 ≤ z1 := by
          rcases Int.lt_or_le z1 0 with h | h
          · rw [Int.sign_eq_neg_one_of_neg h] at e1; omega
          · exact h
        have a2 : 0 ≤ z2 := by
          rcases Int.lt_or_le z2 0 with h | h
          · rw [Int.sign_eq_neg_one_of_neg h] at e2; omega
          · exact h
        rw [← cmpZ_nat, show (z1.natAbs : Int) = z1 by omega, show (z2.natAbs : Int) = z2 by omega]
      rw [hr]
      clear e1 e2
      go_enter Tryd.func28, Tryd.ntmps28
      go_wp2_with fail
      refine H12.out.mono ?_
      rintro e w1 ⟨rfl, p1⟩
      go_wp2
      go_ret
      exact ⟨rfl, hW.trans p1⟩
  · have d1 : (s1 == s2) = false := by simp; omega
    have d2 : decide (s1 < s2) = false := by simp; omega
    have hr : cmpZ z1 z2 = 1 := cmpZ_gt (cmpZ_sign (by omega))
    rw [hr]
    clear e1 e2
    go_enter Tryd.func28, Tryd.ntmps28
    go_wp2
    go_ret
    exact ⟨rfl, hW⟩
end Go.Proofs.YtckfnbckoclhpaaDoor
